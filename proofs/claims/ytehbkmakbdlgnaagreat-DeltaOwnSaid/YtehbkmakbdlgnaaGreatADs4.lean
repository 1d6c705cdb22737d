/- Side texts. -/
import Derived.WalkSpells
import Derived.Test.YtehbkmakbdlgnaaGreatADs2
import Derived.Test.YtehbkmakbdlgnaaGreatADs3
set_option linter.unusedVariables false
set_option linter.unusedSimpArgs false
namespace Go.Ep
open Go.RowKit
section
variable{ctx:Ctx}{s:PState}
theorem Sub.obj{id:Nat}{o o':Ob}(hl:look s.objs id=some o)(hob:∀ (w:World) (g:zb) (S:Nat->Prop),ObRd w g S id o->ObRd w g S id o'):Sub ctx s { s with objs:=yD id o' s.objs }:=by
 rintro a w ⟨g,h1⟩;refine⟨g,?_⟩;have hF:∀ b,zk ctx g s.objs b->zk ctx g (yD id o' s.objs) b:=fun b hb=>⟨hb.1,fun i o2 n ho hgi=>by
  rw[zD] at ho
  by_cases ei:i=id
  ·subst ei;exact hb.2 i _ n hl hgi
  ·rw[if_neg ei] at ho;exact hb.2 i o2 n ho hgi⟩
 have hst:yV w w (zk ctx g s.objs):=⟨Nat.le_refl _,fun _ _ _=>rfl⟩
 have hlk:∀ i o2,look (yD id o' s.objs) i=some o2->∃ o3,look s.objs i=some o3:=fun i o2 ho=>by
  rw[zD] at ho
  by_cases ei:i=id
  ·subst ei;exact⟨_,hl⟩
  ·rw[if_neg ei] at ho;exact⟨_,ho⟩
 refine⟨h1.defers,h1.size,fun i p hp=>(h1.slots i p hp).keep hst (fun b hb _=>hF b hb) (fun _ _=>rfl),fun i o2 ho=>?_,fun i i2 o2 o3 b n m ho ho2 hgi hgi2=>?_,fun i o2 b n ho hgi=>?_,h1.os,h1.tape,h1.output,h1.grows,h1.keep⟩
 ·rw[zD] at ho
  by_cases ei:i=id
  ·subst ei;rw[if_pos rfl] at ho
   cases ho
   exact hob _ _ _ ((h1.objs i _ hl).keep hst (fun b hb _=>hF b hb) (fun _ _ _=>rfl) rfl (fun _ _=>rfl))
  ·rw[if_neg ei] at ho;exact(h1.objs i o2 ho).keep hst (fun b hb _=>hF b hb) (fun _ _ _=>rfl) rfl (fun _ _=>rfl)
 ·obtain⟨o4,e4⟩:=hlk i o2 ho;obtain⟨o5,e5⟩:=hlk i2 o3 ho2;exact h1.inj i i2 o4 o5 b n m e4 e5 hgi hgi2
 ·obtain⟨o4,e4⟩:=hlk i o2 ho;exact h1.own i o4 b n e4 hgi
theorem Sub.ownMap{id j id' ck:Nat}{ks:List IntKind}{ag:Bool}{T:TypeId}{cs:List PV}(hl:look s.objs id=some (.cells T cs))(hj:cs[j]?=some (.d (.v (.map none))))(hf:s.fresh id'=true)(hne:Nat.beq id id'=false) :
  Sub ctx s { s with objs:=yD id (.cells T (cs.set j (.mp id'))) (yD id' (.mapN true ks ag [] [] ck) s.objs) }:=by
 rintro a w ⟨g,hg⟩;have hne':id≠id':=fun h=>by rw[h,Nat.beq_refl] at hne;cases hne
 have h1:=hg.new (Below.refl _ w) hf none (fun b n e=>by cases e) (.mapN true ks ag [] [] ck) (.mapNil ks ag ck (zQ _ _ _));have hl1:look (yD id' (.mapN true ks ag [] [] ck) s.objs) id=some (.cells T cs):=by rw[zD,if_neg hne'];exact hl
 refine⟨upd g id' none,?_⟩;have hF:∀ b,zk ctx (upd g id' none) (yD id' (.mapN true ks ag [] [] ck) s.objs) b->zk ctx (upd g id' none) (yD id (.cells T (cs.set j (.mp id'))) (yD id' (.mapN true ks ag [] [] ck) s.objs)) b:=fun b hb=>⟨hb.1,fun i o n ho hgi=>by
  rw[zD] at ho
  by_cases ei:i=id
  ·subst ei;exact hb.2 i _ n hl1 hgi
  ·rw[if_neg ei] at ho;exact hb.2 i o n ho hgi⟩
 have hst:yV w w (zk ctx (upd g id' none) (yD id' (.mapN true ks ag [] [] ck) s.objs)):=⟨Nat.le_refl _,fun _ _ _=>rfl⟩
 refine⟨h1.defers,h1.size,fun i p hp=>(h1.slots i p hp).keep hst (fun b hb _=>hF b hb) (fun _ _=>rfl),fun i o ho=>?_,fun i i2 o o2 b n m ho ho2 hgi hgi2=>?_,fun i o b n ho hgi=>?_,h1.os,h1.tape,h1.output,h1.grows,h1.keep⟩
 ·rw[zD] at ho
  by_cases ei:i=id
  ·subst ei;rw[if_pos rfl] at ho
   cases ho
   cases (h1.objs i _ hl1).keep hst (fun b hb _=>hF b hb) (fun _ _ _=>rfl) rfl (fun _ _=>rfl) with
   | cells _ _ blk n us hgi hh hlen hr h1'=>
    refine .cells T _ blk n us hgi hh (by simpa using hlen) (fun q p u hp hu=>?_) h1'
    by_cases ej:q=j
    ·subst ej;have hlt:q < cs.length:=(List.getElem?_eq_some_iff.1 hj).1;rw[List.getElem?_set_self hlt] at hp
     cases hp
     have:=(hr q _ u hj hu).of_v;subst this;exact .mpNil id' (zQ _ _ _)
    ·rw[List.getElem?_set_ne (Ne.symm ej)] at hp;exact hr q p u hp hu
  ·rw[if_neg ei] at ho;exact(h1.objs i o ho).keep hst (fun b hb _=>hF b hb) (fun _ _ _=>rfl) rfl (fun _ _=>rfl)
 ·rw[zD] at ho ho2;have key:∀ q o,(if q=id then some (Ob.cells T (cs.set j (.mp id'))) else look (yD id' (.mapN true ks ag [] [] ck) s.objs) q)=some o->∃ o',look (yD id' (.mapN true ks ag [] [] ck) s.objs) q=some o':=fun q o hq=>by
   by_cases eq:q=id
   ·subst eq;exact⟨_,hl1⟩
   ·rw[if_neg eq] at hq;exact⟨o,hq⟩
  obtain⟨p1,q1⟩:=key i o ho;obtain⟨p2,q2⟩:=key i2 o2 ho2;exact h1.inj i i2 p1 p2 b n m q1 q2 hgi hgi2
 ·rw[zD] at ho
  by_cases ei:i=id
  ·subst ei;exact h1.own i _ b n hl1 hgi
  ·rw[if_neg ei] at ho;exact h1.own i o b n ho hgi
theorem Sub.mapF{id:Nat}{nl:Bool}{ks:List IntKind}{ag:Bool}{m:List (List Int×List DV)}{bs:List Nat}{ck:Nat}(hl:look s.objs id=some (.mapN nl ks ag m bs ck))(hn:nl=false):Sub ctx s { s with objs:=yD id (.map ks ag m bs ck) s.objs }:=
 Sub.obj hl fun w g S h=>by
  subst hn
  cases h with
  | mapN _ _ _ _ _ blk n es h hh hm=>exact .map _ _ _ _ _ blk n es h hh hm
theorem Sub.mapToN{id:Nat}{ks:List IntKind}{ag:Bool}{m:List (List Int×List DV)}{bs:List Nat}{ck:Nat}(hl:look s.objs id=some (.map ks ag m bs ck)):Sub ctx s { s with objs:=yD id (.mapN false ks ag m bs ck) s.objs }:=
 Sub.obj hl fun w g S h=>by
  cases h with
  | map _ _ _ _ _ blk n es h hh hm=>exact .mapN _ _ _ _ _ blk n es h hh hm
end
section
variable{P:Program}{ctx:Ctx}{Q:PQ}{s:PState}
variable{dst:Option Tmp}{ty:TypeId}{pos:String}{after:Array Edge}{gd:Option (Nat×Bool)}
variable{id:Nat}{nl:Bool}{ks:List IntKind}{ag:Bool}{m:List (List Int×List DV)}{bs:List Nat}{ck:Nat}
theorem vMa{x:Operand}(hx:s.ev x=some (.mp id))(hl:look s.objs id=some (.mapN nl ks ag m bs ck)){a:Act}{w:World}{g:zb}(hg:RelG ctx g s a w):∃ r,a.eval x=.map r/\r.isNone=nl:=by
 have h:=hg.ev hx
 generalize a.eval x=v at h
 cases h with
 | mpNil _ hgn=>
  cases hg.objs id _ hl with
  | mapNil=>exact⟨none,rfl,rfl⟩
  | mapN _ _ _ _ _ blk' n' es h' hh hm=>rw[hgn] at h';cases h'
 | mp _ blk n hgi=>
  cases hg.objs id _ hl with
  | mapNil _ _ _ h'=>rw[hgi] at h';cases h'
  | mapN _ _ _ _ _ blk' n' es h' hh hm=>exact⟨some blk,rfl,rfl⟩
theorem LR.eqlMapN{x:Operand}{t t' kt et:TypeId}(hu:P.underlying t=some (.map kt et))(hx:s.ev x=some (.mp id))(hl:look s.objs id=some (.mapN nl ks ag m bs ck)) :
  Local P ctx ⟨dst,.binOp .eql t x (.const (.map none)) t',ty,pos,after,gd⟩ s (s.putD dst (.d (.v (.bool nl)))):=
 zG (o:=⟨dst,.binOp .eql t x (.const (.map none)) t',ty,pos,after,gd⟩) fun a w g hg=>by
  obtain⟨r,hr,hn⟩:=vMa hx hl hg;have hc:a.eval (.const (.map none))=.map none:=rfl;exact⟨.bool nl,by simp only[execOp,hr,hc,eqGuard_at_map,Sem.run_bind,Sem.run_pure,Result.andThen_ok,run_eql_map_nil w t kt et r hu,hn],.d (.v _ rfl)⟩
section
variable{x kx:Operand}{t kt et:TypeId}{ns:List Int}{z:Value}{zs:List DV}{p:PV}
 (hu:P.underlying t=some (.map kt et)) (K:KeyOK P kt ks) (hz:∀ w,(zeroValue et).run P w=.ok z w) (hzr:∀ (w:World) (g:zb) (S:Nat->Prop),Rd w g S (elP ag zs) z) (hk:s.ev kx=some (yIa ks ns)) (hn:ns.length=ks.length) (hp:elP ag ((JZ m ns).getD zs)=p)
 (hx:s.ev x=some (.mp id)) (hl:look s.objs id=some (.mapN nl ks ag m bs ck))
include hu K hz hzr hk hn hp hx hl
end
theorem LR.deleteN{x kx:Operand}{t kt et:TypeId}{ats:Array TypeId}{ns:List Int}(hats:ats[0]?=some t)(hu:P.underlying t=some (.map kt et))(K:KeyOK P kt ks)(hx:s.ev x=some (.mp id))(hl:look s.objs id=some (.mapN nl ks ag m bs ck))
  (hk:s.ev kx=some (yIa ks ns)) (hn:ns.length=ks.length) :
  Local P ctx ⟨dst,.call ⟨.builtin .delete,#[x,kx],ats⟩,ty,pos,after,gd⟩ s ((s.setO id (.mapN nl ks ag (mdel m ns) (bdel m ns bs) ck)).putD dst (.tup [])):=by
 refine yW (o:=⟨dst,.call ⟨.builtin .delete,#[x,kx],ats⟩,ty,pos,after,gd⟩) fun a w g hg=>?_
 have h:=hg.ev hx
 generalize hxv:a.eval x=v at h
 cases h with
 | mpNil _ hgn=>
  cases ho:hg.objs id _ hl with
  | mapN _ _ _ _ _ blk' n' es h' hh hm=>rw[hgn] at h';cases h'
  | mapNil=>
   have hexec:(execOp a.eval ⟨dst,.call ⟨.builtin .delete,#[x,kx],ats⟩,ty,pos,after,gd⟩).run P w=.ok (.value (.tuple #[])) w:=by
    simp only[execOp,resolve,invoke,builtin,hxv,Zo (hg.ev hk),Sem.run_bind,Sem.run_pure,Result.andThen_ok,List.map_toArray,List.map_cons,List.map_nil];have a0:(#[Value.map none,uq ks ns]:Array Value)[0]?=some (.map none):=rfl;have a1:(#[Value.map none,uq ks ns]:Array Value)[1]?=some (uq ks ns):=rfl;simp only[Builtin.delete_,hats,a0,a1,Sem.run_bind,run_underlying hu,Result.andThen_ok,K.check w _ ns hn,Sem.run_pure]
   obtain⟨g',h2⟩:=Sub.obj (o':=.mapN true ks ag [] [] ck) hl (fun _ _ _ h=>h) a w ⟨g,hg⟩;exact⟨.tuple #[],_,hexec,g',h2.put dst (.tup [] [] rfl (by simp))⟩
 | mp _ blk n hgi=>
  cases hg.objs id _ hl with
  | mapNil _ _ _ h'=>rw[hgi] at h';cases h'
  | mapN _ _ _ _ _ blk' n' es h' hh hm=>
   rw[hgi] at h';cases h';obtain⟨es',hrun,hm'⟩:=wGa (P:=P) (ty:=ty) hats hu K hn hh hm;have hexec:(execOp a.eval ⟨dst,.call ⟨.builtin .delete,#[x,kx],ats⟩,ty,pos,after,gd⟩).run P w=.ok (.value (.tuple #[])) { w with heap:=w.heap.setIfInBounds blk (.map es' ck) }:=by
    simp only[execOp,resolve,invoke,builtin,hxv,Zo (hg.ev hk),Sem.run_bind,Sem.run_pure,Result.andThen_ok,List.map_toArray,List.map_cons,List.map_nil,hrun]
   refine⟨.tuple #[],_,hexec,g,?_⟩;have hown:=hg.own id _ blk n hl hgi;have hother:∀ k,k < w.heap.size->k≠blk->({ w with heap:=w.heap.setIfInBounds blk (.map es' ck) }:World).heap[k]?=w.heap[k]?:=fun k _ hne=>Zw w blk k _ hne
   have hst:yV w { w with heap:=w.heap.setIfInBounds blk (.map es' ck) } (zk ctx g s.objs):=⟨by simp,fun b ⟨_,h2⟩ hlt=>hother b hlt fun e=>by subst e;exact h2 id _ n hl hgi⟩
   exact(hg.wrote hl hgi (w':={ w with heap:=w.heap.setIfInBounds blk (.map es' ck) }) rfl rfl rfl (by simp) hother hown.2 (.mapN ks ag _ _ _ blk n es' hgi (Xd w blk _ hown.1) (hm'.keep hst (fun b hb _=>wW hl b hb)))).put dst (.tup [] [] rfl (by simp))
theorem LR.idxCells{x ix:Operand}{id m:Nat}{ki:IntKind}{i:Int}{n:Nat}{t e:TypeId}(hu:P.underlying t=some (.slice e))(hs:∀ w,(sizeOf e).run P w=.ok 1 w)
  (hx:s.ev x=some (.row id m)) (hix:s.ev ix=some (.d (.v (.int ki i)))) (hi:i=n) (hn:n < m) :
  Local P ctx ⟨dst,.indexAddr t x ix,ty,pos,after,gd⟩ s (s.putD dst (.ref id n)):=
 zG (o:=⟨dst,.indexAddr t x ix,ty,pos,after,gd⟩) fun a w g hg=>by
  have h:=hg.ev hx
  generalize hv:a.eval x=v at h
  cases h with
  | row _ _ blk cap h=>
   refine⟨.pointer (some ⟨blk,n,none⟩),?_,.ref id n blk cap h⟩;simp[execOp,hv,wq hg hix,uu hu hs blk 0 m cap ki i n hi hn,Result.andThen]
  | rowNil=>omega
theorem fresh_ev{id:Nat}{x:Operand}{p:PV}(hf:s.fresh id=true)(hx:s.ev x=some p):p.has id=false:=by
 unfold PState.ev at hx
 split at hx
 ·exact Jo hf hx
 ·cases hx
 ·cases hx
 ·cases hx;rfl
 ·cases hx;rfl
 ·cases hx
theorem xTa : ∀ us:List Value,(us.map fun u=>[u]).flatten=us
 | []=>rfl
 | u::r=>by rw[List.map_cons,List.flatten_cons,xTa r];rfl
theorem LR.buildSliceQ{q:PV}{id n bs:Nat}{t e:TypeId}{parts:Array (Nat×Operand)}(xs:List Operand){ps:List PV}(hE:ElemOK P t e 1 bs)(hparts:parts=(qd 0 xs).toArray)(hn:n=xs.length)(hps:s.evs xs=some ps)(hc:ps.all PV.isCell=true)(hsmall:n<=16777216)(hf:s.fresh id=true)(hq:∀ (w:World) (g:zb) (S:Nat->Prop) (blk:Nat),g id=some (blk,n)->Rd w g S q (.slice (some ⟨blk,0,none⟩) n n)) :
  Local P ctx ⟨some id,.buildSlice t n parts,ty,pos,after,gd⟩ s (s.newO id (.cells e ps) q):=
 yW (o:=⟨some id,.buildSlice t n parts,ty,pos,after,gd⟩) fun a w g hg=>by
  subst hparts;subst hn;obtain⟨hl,hrd⟩:=Jw hps hg;rw[List.all_eq_true] at hc;have hone:∀ u∈xs.map a.eval,u.oneCell'=true:=fun u hu=>by
   obtain⟨j,hj⟩:=List.getElem?_of_mem hu;obtain⟨p,hp⟩:∃ p,ps[j]?=some p:=⟨_,List.getElem?_eq_getElem (by rw[hl];exact(List.getElem?_eq_some_iff.1 hj).1)⟩
   exact(hrd j p u hp hj).one (hc p (List.mem_of_getElem? hp))
  obtain⟨hrun,hfl,huk⟩:=WV (P:=P) (a:=a) (xs:=xs) (us:=(xs.map a.eval).map fun u=>[u]) hE (by simp) (fun i x u hx hu=>by
   simp[hx] at hu;subst hu;have:=hone (a.eval x) (List.mem_map.2 ⟨x,List.mem_of_getElem? hx,rfl⟩);refine⟨?_,rfl⟩
   cases hv:a.eval x <;> simp_all [Value.cells,Value.oneCell']) (by omega) w
  rw[xTa] at hrun;have hb:=Below.alloc1 w (.cells (xs.map a.eval).toArray e);have hnew:=hg.new hb hf (some (w.heap.size,xs.length)) (fun b n e=>by cases e;simp) (.cells e ps) (.cells e ps w.heap.size xs.length (xs.map a.eval) (zQ _ _ _) (heap_alloc_new w _) hl (fun i p u hp hu=>by
   refine(hrd i p u hp hu).keep ⟨hb.size,fun b _ hlt=>hb.block b hlt⟩ (fun b ⟨h1,h2⟩ hlt=>⟨h1,fun j o n ho hgj=>?_⟩) (fun j hj=>ya fun e2=>?_)
   ·subst e2;have hx:∃ x,s.ev x=some p:=by
     obtain⟨x,hx⟩:∃ x,xs[i]?=some x:=⟨_,List.getElem?_eq_getElem (by have:=(List.getElem?_eq_some_iff.1 hp).1;rw[hl,List.length_map] at this;exact this)⟩
     exact⟨x,qc hps hp hx⟩
    obtain⟨x,hx⟩:=hx;rw[fresh_ev hf hx] at hj;cases hj
   ·rw[zD] at ho
    by_cases ej:j=id
    ·subst ej;rw[zQ] at hgj;cases hgj;omega
    ·rw[if_neg ej] at ho;rw[ya ej] at hgj;exact h2 j o n ho hgj) hone)
  exact⟨_,_,by simp only[execOp,Sem.run_bind,hrun,Result.andThen_ok,Sem.run_pure],_,hnew.put (some id) (hq _ _ _ _ (zQ _ _ _))⟩
theorem LR.buildSliceP{id n bs:Nat}{t e:TypeId}{parts:Array (Nat×Operand)}(xs:List Operand){ps:List PV}(hE:ElemOK P t e 1 bs)(hparts:parts=(qd 0 xs).toArray)(hn:n=xs.length)(hps:s.evs xs=some ps)(hc:ps.all PV.isCell=true)(hsmall:n<=16777216)(hf:s.fresh id=true) :
  Local P ctx ⟨some id,.buildSlice t n parts,ty,pos,after,gd⟩ s (s.newO id (.cells e ps) (.row id n)):=LR.buildSliceQ xs hE hparts hn hps hc hsmall hf (fun _ _ _ blk h=>.row _ _ blk n h)
def PWL(P:Program)(ctx:Ctx)(c:Code)(Q:PQ)(s:PState):Prop:=∀ a w,Rel ctx s a w->LoopAt P c (lift ctx Q) a w
theorem PWc.loopU{c:Code}(h:PWL P ctx c Q s):PWc P ctx (.loop c) Q s:=fun a w hr=>LoopAt.loop (h a w hr)
theorem PWL.step{c:Code}(h:PWc P ctx c (Then (PWL P ctx c Q) Q) s):PWL P ctx c Q s:=fun a w hr=>by
 refine LoopAt.step (wp_mono (h a w hr) fun e a' w' ⟨t,h1,h2⟩=>?_)
 cases e with
 | normal=>exact h1 a' w' h2
 | _=>exact⟨t,h1,h2⟩
theorem PWL.sub{c:Code}{t:PState}(hs:Sub ctx s t)(h:PWL P ctx c Q t):PWL P ctx c Q s:=fun a w hr=>h a w (hs a w hr)
theorem LR.rangeN{id mid:Nat}{x:Operand}{t kt et:TypeId}(hu:P.underlying t=some (.map kt et))(hx:s.ev x=some (.mp mid))(hl:look s.objs mid=some (.mapN nl ks ag m bs ck))(hf:s.fresh id=true) :
  Local P ctx ⟨some id,.range t x,ty,pos,after,gd⟩ s (s.newO id (.iterO mid bs ck []) (.ref id 0)):=
 yW (o:=⟨some id,.range t x,ty,pos,after,gd⟩) fun a w g hg=>by
  have h:=hg.ev hx;have hne:mid≠id:=fun e=>by subst e;rw[Jp hf] at hl;cases hl
  generalize hv:a.eval x=v at h
  cases h with
  | mpNil _ hgn=>
   cases hg.objs mid _ hl with
   | mapN _ _ _ _ _ blk' n' es h' hh hm=>rw[hgn] at h';cases h'
   | mapNil=>
    refine⟨_,_,?_,VH (o:=⟨some id,.range t x,ty,pos,after,gd⟩) rfl hf hg (it:=.mapIter none 0 #[] 0) fun w' g' S' _ _ h1 h2 h3=>.iterON mid ck w.heap.size 0 h2 h3 (by rw[h1 mid hne];exact hgn)⟩;simp[execOp,hv,Instr.range,run_underlying hu,Result.andThen]
  | mp _ blk n hgi=>
   cases hg.objs mid _ hl with
   | mapNil _ _ _ h'=>rw[hgi] at h';cases h'
   | mapN _ _ _ _ _ blk' n' es h' hh hm=>
    rw[hgi] at h';cases h';refine⟨_,_,?_,VH (o:=⟨some id,.range t x,ty,pos,after,gd⟩) rfl hf hg (it:=.mapIter (some blk) ck #[] ck) fun w' g' S' _ _ h1 h2 h3=>.iterO mid bs ck [] w.heap.size 0 blk n h2 h3 (by rw[h1 mid hne];exact hgi)⟩;simp[execOp,hv,Instr.range,run_underlying hu,MapKept.run_getObj_map hh,Result.andThen]
section
variable{ops:Array Oper}{rest:List Oper}{it:Operand}{L:List Nat}{mid:Nat}
theorem PWl.nextN(hx:s.ev it=some (.ref id 0))(hl:look s.objs id=some (.iterO mid bs ck L))(hlm:look s.objs mid=some (.mapN nl ks ag m bs ck))(hL:∀ i∈L,i < m.length)(hgd:gd=none)
  (hdone:(∀ i,i < m.length->i∈L)->PWl P ctx ops Q rest (s.putD dst (.tup [.d (.v (.bool false))])))
  (hstep:∀ i,i < m.length->i∉L->PWl P ctx ops Q rest ((s.setO id (.iterO mid bs ck (L++[i]))).putD dst (.tup [.d (.v (.bool true)),.junk,.junk]))) :
  PWl P ctx ops Q (⟨dst,.next it false,ty,pos,after,gd⟩::rest) s:=by
 have hne:mid≠id:=fun e=>by subst e;rw[hl] at hlm;cases hlm
 cases nl with
 | false=>
  have hb:∀ (t:PState) (t':PState),t.n=t'.n->t.sl=t'.sl->look t.objs mid=some (.map ks ag m bs ck)->look t'.objs mid=some (.mapN false ks ag m bs ck)->(∀ j,j≠mid->look t.objs j=look t'.objs j)->Sub ctx t t':=fun t t' h1 h2 h3 h4 h5=>by
   intro a w hr;have:=Sub.mapToN h3 a w hr;refine Sub.drop (s:={ t with objs:=yD mid (.mapN false ks ag m bs ck) t.objs }) (t:=t') h1 (fun i p hp=>?_) (fun j o ho=>?_) a w this
   ·unfold PState.at at hp ⊢;rw[h1,h2];exact hp
   ·show look (yD mid _ t.objs) j=some o;rw[zD]
    by_cases e:j=mid
    ·subst e;rw[if_pos rfl,<- h4];exact ho
    ·rw[if_neg e,h5 j e];exact ho
  refine PWl.sub (Sub.mapF hlm rfl) (PWl.nextO (mid:=mid) hx (by show look (yD mid _ s.objs) id=_;rw[zD,if_neg (Ne.symm hne)];exact hl) (by show look (yD mid _ s.objs) mid=_;rw[zD,if_pos rfl]) hL hgd (fun hd=>PWl.sub (hb _ _ ?_ ?_ ?_ ?_ ?_) (hdone hd)) (fun i hi hn=>PWl.sub (hb _ _ ?_ ?_ ?_ ?_ ?_) (hstep i hi hn)))
  ·cases dst <;> rfl
  ·cases dst <;> rfl
  ·cases dst <;> (show look (yD mid _ s.objs) mid=_;rw[zD,if_pos rfl])
  ·cases dst <;> exact hlm
  ·intro j hj;cases dst <;> (show look (yD mid _ s.objs) j=_;rw[zD,if_neg hj];rfl)
  ·cases dst <;> rfl
  ·cases dst <;> rfl
  ·cases dst <;> (show look (yD id _ (yD mid _ s.objs)) mid=_;rw[zD,if_neg hne,zD,if_pos rfl])
  ·cases dst <;> (show look (yD id _ s.objs) mid=_;rw[zD,if_neg hne];exact hlm)
  ·intro j hj;cases dst <;> (show look (yD id _ (yD mid _ s.objs)) j=look (yD id _ s.objs) j;rw[zD,zD,zD,if_neg hj])
 | true=>
  rintro a w ⟨g,hg⟩;have hr:=hg.ev hx
  generalize hv:a.eval it=v at hr
  refine wpList_plain hgd fun K hK=>?_
  cases hr with
  | ref _ _ blk n hgi=>
   cases hg.objs mid _ hlm with
   | mapNil _ _ _ hgm=>
    cases hg.objs id _ hl with
    | iterO _ _ _ _ blk' n' b n2 h' hh hgm2=>rw[hgm] at hgm2;cases hgm2
    | iterON _ _ blk' n' h' hh _=>
     rw[hgi] at h';cases h';have hrun:(execOp a.eval ⟨dst,.next it false,ty,pos,after,gd⟩).run P w=.ok (.value (.tuple #[.bool false])) w:=by
      have hgr:(getObj blk).run P w=.ok (.mapIter none 0 #[] 0) w:=by simp[getObj,Sem.run,hh]
      simp only[execOp,hv,Instr.next,Sem.run_bind,hgr,Result.andThen_ok,Sem.run_pure]
     unfold Oper.wp;rw[hrun];exact hK _ _ (hdone (by simp) _ _ ⟨g,hg.put dst (.tup [.d (.v (.bool false))] [.bool false] rfl (fun i p u hp hu=>by
      cases i with
      | zero=>simp at hp hu;subst hp;subst hu;exact .d (.v _ rfl)
      | succ i=>simp at hp))⟩)
theorem LR.entryN{i:Nat}{ns:List Int}{cs:List DV}{kp p:PV}(hx:s.ev it=some (.ref id 0))(hl:look s.objs id=some (.iterO mid bs ck (L++[i])))(hlm:look s.objs mid=some (.mapN nl ks ag m bs ck))(hi:m[i]?=some (ns,cs))(hkp:yIa ks ns=kp)(hp:elP ag cs=p) :
  Local P ctx ⟨dst,.entry it,ty,pos,after,gd⟩ s (s.putD dst (.tup [kp,p])):=by
 have hne:mid≠id:=fun e=>by subst e;rw[hl] at hlm;cases hlm
 cases nl with
 | true=>
  refine zG (o:=⟨dst,.entry it,ty,pos,after,gd⟩) fun a w g hg=>?_
  cases hg.objs mid _ hlm with
  | mapNil=>simp at hi
 | false=>
  refine zG (o:=⟨dst,.entry it,ty,pos,after,gd⟩) fun a w g hg=>?_
  have hr:=hg.ev hx
  generalize hv:a.eval it=v at hr
  cases hr with
  | ref _ _ blk n hgi=>
   have hob:=hg.objs id _ hl
   generalize hLL:L++[i]=LL at hob
   cases hob with
   | iterON=>simp at hLL
   | iterO _ _ _ _ blk' n' b n2 h' hh hgm=>
    subst hLL;rw[hgi] at h';cases h'
    cases hg.objs mid _ hlm with
    | mapN _ _ _ _ _ bm nm es hgm2 hb2 hm=>
     rw[hgm] at hgm2;cases hgm2;obtain⟨e,us,g1,g2,g3,g4,g5,g6,g7,g8⟩:=hm.ent i ns cs hi;have:=jQ (P:=P) hh hb2 hm.stamps hm.nodup g1;refine⟨.tuple [e.key,e.val].toArray,by simp only[execOp,hv,Sem.run_bind,this,Result.andThen_ok,Sem.run_pure],.tup _ [e.key,e.val] rfl (fun j p' u hp' hu=>?_)⟩;subst hkp;subst hp
     match j with
     | 0=>simp at hp' hu;subst hp';subst hu;rw[g2];exact yTa w g _ ks ns
     | 1=>simp at hp' hu;subst hp';subst hu;rw[g3];exact xHa g4 g5 g6 g8
     | _+2=>simp at hp'
end
end
section
variable{P:Program}{ctx:Ctx}{Q:PQ}{s:PState}
variable{dst:Option Tmp}{ty:TypeId}{pos:String}{after:Array Edge}{gd:Option (Nat×Bool)}
variable{κ ν:Type}[DecidableEq κ]{eK:κ->List Int}{eV:ν->List DV}{m:List (κ×ν)}{q:κ}{zv:ν}(inj:∀ a b,eK a=eK b->a=b)
variable{x kx:Operand}{t kt et:TypeId}{ks:List IntKind}{ag:Bool}{z:Value}{p kp:PV}{id:Nat}{nl:Bool}{bs:List Nat}{ck:Nat}
section
variable(hu:P.underlying t=some (.map kt et))(K:KeyOK P kt ks)(hz:∀ w,(zeroValue et).run P w=.ok z w)(hzr:∀ (w:World) (g:zb) (S:Nat->Prop),Rd w g S (elP ag (eV zv)) z)(hk:s.ev kx=some kp)(hkp:kp=yIa ks (eK q))(hn:(eK q).length=ks.length)(hp:elP ag (eV (AL.getZ m q zv))=p)
include inj hu K hz hzr hk hkp hn hp
end
include inj in
theorem LR.delN{ats:Array TypeId}(hu:P.underlying t=some (.map kt et))(K:KeyOK P kt ks)(hx:s.ev x=some (.mp id))(hl:look s.objs id=some (.mapN nl ks ag (zO eK eV m) bs ck))(hk:s.ev kx=some kp)(hkp:kp=yIa ks (eK q))(hn:(eK q).length=ks.length)(hats:ats[0]?=some t) :
  Local P ctx ⟨dst,.call ⟨.builtin .delete,#[x,kx],ats⟩,ty,pos,after,gd⟩ s ((s.setO id (.mapN nl ks ag (zO eK eV (AL.del m q)) (bdel (zO eK eV m) (eK q) bs) ck)).putD dst (.tup [])):=by
 have:=LR.deleteN (P:=P) (ctx:=ctx) (dst:=dst) (ty:=ty) (pos:=pos) (after:=after) (gd:=gd) hats hu K hx hl (by rw[hk,hkp]) hn
 rwa [vGa inj] at this
end
section
variable{ctx:Ctx}{s:PState}
theorem Sub.moveMap{id1 id2 j:Nat}{ks:List IntKind}{ag:Bool}{m m1:List (List Int×List DV)}{bs bs1:List Nat}{ck ck1:Nat}(hj:s.at j=some (.mp id2))(h1:look s.objs id1=some (.mapN true ks ag m1 bs1 ck1))(h2:look s.objs id2=some (.map ks ag m bs ck))(ha:s.alone id1=true) :
  Sub ctx s { n:=s.n,sl:=(j,.mp id1)::s.sl,objs:=yD id1 (.map ks ag m bs ck) (vB id2 s.objs) }:=by
 rintro a w ⟨g,h⟩;have hlk:∀ {i:Nat} {o:Ob},look (yD id1 (.map ks ag m bs ck) (vB id2 s.objs)) i=some o->(i=id1/\o=.map ks ag m bs ck)\/(i≠id1/\i≠id2/\look s.objs i=some o):=fun {i o} hi=>by
  rw[zD] at hi
  by_cases e:i=id1
  ·rw[if_pos e] at hi;cases hi;exact .inl ⟨e,rfl⟩
  ·rw[if_neg e,yJ] at hi
   split at hi
   ·cases hi
   ·rename_i e2;exact .inr ⟨e,e2,hi⟩
 have hg1:g id1=none:=by
  cases h.objs id1 _ h1 with
  | mapNil _ _ _ hn=>exact hn
 have hF:∀ b,zk ctx g s.objs b->zk ctx (upd g id1 (g id2)) (yD id1 (.map ks ag m bs ck) (vB id2 s.objs)) b:=fun b ⟨f1,f2⟩=>⟨f1,fun i o n hi hgi=>by
  rcases hlk hi with⟨e,_⟩ | ⟨e1,e2,e3⟩
  ·subst e;rw[zQ] at hgi;exact f2 id2 _ n h2 hgi
  ·rw[ya e1] at hgi;exact f2 i o n e3 hgi⟩
 have hst:yV w w (zk ctx g s.objs):=⟨Nat.le_refl _,fun _ _ _=>rfl⟩
 refine⟨upd g id1 (g id2),⟨h.defers,h.size,?_,?_,?_,?_,h.os,h.tape,h.output,h.grows,h.keep⟩⟩
 ·intro i p hp;have hlt:=Zu hp;have hp2:=xL hp;simp only[yC] at hp2
  by_cases e:j=i
  ·subst e;rw[if_pos rfl] at hp2
   cases hp2
   have hr:=h.slots j _ hj
   generalize hv:a.tmps.getD j undef=v at hr
   cases hr with
   | mpNil _ hgn=>
    cases h.objs id2 _ h2 with
    | map _ _ _ _ _ blk' n' es h' hh hm=>rw[hgn] at h';cases h'
   | mp _ blk n hgi=>exact .mp id1 blk n (by rw[zQ];exact hgi)
  ·rw[if_neg e] at hp2;have hs:s.at i=some p:=Zn hlt hp2;exact(h.slots i p hs).keep hst (fun b hb _=>hF b hb) (fun k hk=>ya fun e2=>by subst e2;rw[UA ha hs] at hk;cases hk)
 ·intro i o hi;rcases hlk hi with⟨e,e2⟩ | ⟨e1,e2,e3⟩
  ·subst e;subst e2
   cases h.objs id2 _ h2 with
   | map _ _ _ _ _ blk n es hgi hh hm=>exact .map ks ag m bs ck blk n es (by rw[zQ];exact hgi) hh (hm.keep hst (fun b hb _=>hF b hb))
  ·exact(h.objs i o e3).keep hst (fun b hb _=>hF b hb) (fun _ _ _=>rfl) (ya e1) (fun k hk=>ya fun e4=>by subst e4;rw[zGa ha e3] at hk;cases hk)
 ·intro i i2 o o2 b n n2 hi hi2 hgi hgi2;rcases hlk hi with⟨e,_⟩ | ⟨e1,e2,e3⟩ <;> rcases hlk hi2 with⟨f,_⟩ | ⟨f1,f2,f3⟩
  ·exact e.trans f.symm
  ·subst e;rw[zQ] at hgi;rw[ya f1] at hgi2;exact absurd (h.inj id2 i2 _ o2 b n n2 h2 f3 hgi hgi2).symm f2
  ·subst f;rw[zQ] at hgi2;rw[ya e1] at hgi;exact absurd (h.inj i id2 o _ b n n2 e3 h2 hgi hgi2) e2
  ·rw[ya e1] at hgi;rw[ya f1] at hgi2;exact h.inj i i2 o o2 b n n2 e3 f3 hgi hgi2
 ·intro i o b n hi hgi;rcases hlk hi with⟨e,_⟩ | ⟨e1,e2,e3⟩
  ·subst e;rw[zQ] at hgi;exact h.own id2 _ b n h2 hgi
  ·rw[ya e1] at hgi;exact h.own i o b n e3 hgi
end
end Go.Ep
namespace Go.Ep
open Go.RowKit
def ZA(m:List (List Int×Value)):Mp:=m.map fun x=>(x.1,[])
theorem zUa{m:List (List Int×Value)}{i:Nat}{ns:List Int}{c:List DV}(h:(ZA m)[i]?=some (ns,c)):∃ p,m[i]?=some (ns,p):=by
 unfold ZA at h;rw[List.getElem?_map] at h
 cases hm:m[i]? with
 | none=>rw[hm] at h;cases h
 | some x=>rw[hm] at h;simp only[Option.map_some,Option.some.injEq,Prod.mk.injEq] at h;exact⟨x.2,by rw[<- h.1]⟩
section
variable{P:Program}{ctx:Ctx}{Q:PQ}{s:PState}
variable{dst:Option Tmp}{ty:TypeId}{pos:String}{after:Array Edge}{gd:Option (Nat×Bool)}
theorem RelG.reread{g:zb}{a:Act}{w:World}(h1:RelG ctx g s a w){id:Nat}{o0 ob:Ob}(hl:look s.objs id=some o0){objs':List (Nat×Ob)}(ho':∀ i,look objs' i=if i=id then some ob else look s.objs i)
  (hr:∀ S,ObRd w g S id o0->ObRd w g S id ob):RelG ctx g { s with objs:=objs' } a w:=by
 have hF:∀ b,zk ctx g s.objs b->zk ctx g objs' b:=fun b hb=>⟨hb.1,fun i o n ho hgi=>by
  rw[ho'] at ho
  by_cases ei:i=id
  ·subst ei;exact hb.2 i _ n hl hgi
  ·rw[if_neg ei] at ho;exact hb.2 i o n ho hgi⟩
 have hst:yV w w (zk ctx g s.objs):=⟨Nat.le_refl _,fun _ _ _=>rfl⟩
 refine⟨h1.defers,h1.size,fun i p hp=>(h1.slots i p hp).keep hst (fun b hb _=>hF b hb) (fun _ _=>rfl),fun i o ho=>?_,fun i i2 o o2 b n m ho ho2 hgi hgi2=>?_,fun i o b n ho hgi=>?_,h1.os,h1.tape,h1.output,h1.grows,h1.keep⟩
 ·simp only[ho'] at ho
  by_cases ei:i=id
  ·subst ei;rw[if_pos rfl] at ho
   cases ho
   exact hr _ ((h1.objs i _ hl).keep hst (fun b hb _=>hF b hb) (fun _ _ _=>rfl) rfl (fun _ _=>rfl))
  ·rw[if_neg ei] at ho;exact(h1.objs i o ho).keep hst (fun b hb _=>hF b hb) (fun _ _ _=>rfl) rfl (fun _ _=>rfl)
 ·simp only[ho'] at ho ho2;have key:∀ q o,(if q=id then some ob else look s.objs q)=some o->∃ o',look s.objs q=some o':=fun q o hq=>by
   by_cases eq:q=id
   ·subst eq;exact⟨_,hl⟩
   ·rw[if_neg eq] at hq;exact⟨o,hq⟩
  obtain⟨p1,q1⟩:=key i o ho;obtain⟨p2,q2⟩:=key i2 o2 ho2;exact h1.inj i i2 p1 p2 b n m q1 q2 hgi hgi2
 ·simp only[ho'] at ho
  by_cases ei:i=id
  ·subst ei;exact h1.own i _ b n hl hgi
  ·rw[if_neg ei] at ho;exact h1.own i o b n ho hgi
theorem vt(id:Nat)(ob:Ob)(l:List (Nat×Ob))(i:Nat):look (yD id ob (vB id l)) i=if i=id then some ob else look l i:=by
 rw[zD,yJ]
 by_cases h:i=id <;> simp[h]
theorem VN{id:Nat}:∀ {l:List (Nat×Ob)} {x:Nat×Ob},x∈vB id l->x.1≠id/\x∈l
 | [],x,h=>by simp[vB] at h
 | (k,p)::r,x,h=>by
  unfold vB at h
  by_cases e:id=k
  ·rw[if_pos e] at h;have:=VN h;exact⟨this.1,List.mem_cons_of_mem _ this.2⟩
  ·rw[if_neg e] at h;rcases List.mem_cons.1 h with h | h
   ·subst h;exact⟨Ne.symm e,List.mem_cons_self⟩
   ·have:=VN h;exact⟨this.1,List.mem_cons_of_mem _ this.2⟩
theorem ObRd.junkP{w:World}{g:zb}{S:Nat->Prop}{id:Nat}{ks:List IntKind}{m:List (List Int×Value)}{j:Nat}{p:PV}{bs:List Nat}{ck:Nat}(h:ObRd w g S id (.mapP ks m (some (j,p)) bs ck)):ObRd w g S id (.mapP ks m (some (j,.junk)) bs ck):=by
 cases h with
 | mapP _ _ _ _ _ blk n es h hh hsz hst hbl hnd hent hov=>
  refine .mapP ks m _ bs ck blk n es h hh hsz hst hbl hnd (fun i ns u hi=>?_) fun j' p' hj=>?_
  ·obtain⟨e,h1,h2,h3,h4,h5⟩:=hent i ns u hi;refine⟨e,h1,h2,h3,h4,fun hne=>h5 fun q hq=>?_⟩
   cases hq
   exact hne .junk rfl
  ·cases hj
   obtain⟨e,h1,h2⟩:=hov j p rfl;exact⟨e,h1,.junk _⟩
section
variable{x kx:Operand}{t kt et:TypeId}{ks:List IntKind}{m:List (List Int×Value)}{ns:List Int}{bs:List Nat}{ck id:Nat}{ov:Option (Nat×PV)}
theorem VO{es:Array MapEntry}
  (hent:∀ (i:Nat) (ns:List Int) (u:Value),m[i]?=some (ns,u)->∃ e,es[i]?=some e/\e.key=uq ks ns/\ns.length=ks.length/\e.val.oneCell'=true/\((∀ p,ov≠some (i,p))->e.val=u)) :
  ∀ (i:Nat) (e:MapEntry) (nn:List Int) (c:List DV),es.toList[i]?=some e->(ZA m)[i]?=some (nn,c)->e.key=uq ks nn/\nn.length=ks.length:=fun i e nn c h1 h2=>by
 obtain⟨q,hq⟩:=zUa h2;obtain⟨e',g1,g2,g3,_⟩:=hent i nn q hq;have:e'=e:=by simp at h1;rw[g1] at h1;cases h1;rfl
 subst this;exact⟨g2,g3⟩
variable(hu:P.underlying t=some (.map kt et))(K:KeyOK P kt ks)(hx:s.ev x=some (.mp id))(hl:look s.objs id=some (.mapP ks m ov bs ck))(hk:s.ev kx=some (yIa ks ns))(hn:ns.length=ks.length)
include hu K hx hl hk hn
theorem LR.lookupP{j:Nat}{p:PV}(hj:xE ns (ZA m) 0=some j)(hp:ov=some (j,p)):Local P ctx ⟨dst,.lookup t x kx false,ty,pos,after,gd⟩ s (s.putD dst p):=
 zG (o:=⟨dst,.lookup t x kx false,ty,pos,after,gd⟩) fun a w g hg=>by
  have h:=hg.ev hx
  generalize hv:a.eval x=v at h
  cases h with
  | mpNil _ hgn=>
   cases hg.objs id _ hl with
   | mapP _ _ _ _ _ blk' n' es h' hh hsz hst hbl hnd hent hov=>rw[hgn] at h';cases h'
  | mp _ blk n hgi=>
   cases hg.objs id _ hl with
   | mapP _ _ _ _ _ blk' n' es h' hh hsz hst hbl hnd hent hov=>
    rw[hgi] at h';cases h';have hf:=K.find w ns (ZA m) es.toList hn (by simpa[ZA] using hsz) (VO hent);obtain⟨e,g1,g5⟩:=hov j p hp;have he:es.toList[j]?=some e:=by simpa using g1
    rw[hj] at hf;simp only[Option.bind_some,he,Option.map_some] at hf;refine⟨e.val,?_,g5⟩;simp only[execOp,hv,Zo (hg.ev hk),Instr.lookup,Sem.run_bind,run_underlying hu,Result.andThen_ok,MapKept.run_getObj_map hh,Sem.run_pure,K.check w _ ns hn,hf]
    rfl
theorem LR.lookupPN{z:Value}(hz:∀ w,(zeroValue et).run P w=.ok z w)(h1:z.oneCell'=true)(hj:xE ns (ZA m) 0=none):Local P ctx ⟨dst,.lookup t x kx false,ty,pos,after,gd⟩ s (s.putD dst (.d (.v z))):=
 zG (o:=⟨dst,.lookup t x kx false,ty,pos,after,gd⟩) fun a w g hg=>by
  have h:=hg.ev hx
  generalize hv:a.eval x=v at h
  cases h with
  | mpNil _ hgn=>
   cases hg.objs id _ hl with
   | mapP _ _ _ _ _ blk' n' es h' hh hsz hst hbl hnd hent hov=>rw[hgn] at h';cases h'
  | mp _ blk n hgi=>
   cases hg.objs id _ hl with
   | mapP _ _ _ _ _ blk' n' es h' hh hsz hst hbl hnd hent hov=>
    rw[hgi] at h';cases h';have hf:=K.find w ns (ZA m) es.toList hn (by simpa[ZA] using hsz) (VO hent);rw[hj] at hf;simp only[Option.bind_none] at hf;refine⟨z,?_,.d (.v z h1)⟩;simp only[execOp,hv,Zo (hg.ev hk),Instr.lookup,Sem.run_bind,run_underlying hu,Result.andThen_ok,MapKept.run_getObj_map hh,Sem.run_pure,K.check w _ ns hn,hf,hz]
    rfl
omit hu K hx hl hk hn in
theorem vNa{w:World}{g:zb}{S:Nat->Prop}{q n:Nat}{u:Value}(h:Rd w g S (.row q n) u):u.oneCell'=true:=by cases h <;> rfl
theorem LR.mapUpdateP{vx:Operand}{j q nn:Nat}{p:PV}(hov:ov=some (j,p))(hv:s.ev vx=some (.row q nn))(hj:xE ns (ZA m) 0=some j):Local P ctx ⟨none,.mapUpdate t x kx vx,ty,pos,after,gd⟩ s (s.setO id (.mapP ks m (some (j,.row q nn)) bs ck)):=by
 subst hov;refine Zv (o:=⟨none,.mapUpdate t x kx vx,ty,pos,after,gd⟩) fun a w g hg=>?_
 have h:=hg.ev hx
 generalize hxv:a.eval x=v at h
 cases h with
 | mpNil _ hgn=>
  cases hg.objs id _ hl with
  | mapP _ _ _ _ _ blk' n' es h' hh hsz hst hbl hnd hent hov=>rw[hgn] at h';cases h'
 | mp _ blk n hgi=>
  cases hg.objs id _ hl with
  | mapP _ _ _ _ _ blk' n' es h' hh hsz hst hbl hnd hent hov=>
   rw[hgi] at h';cases h';have hf:=K.find w ns (ZA m) es.toList hn (by simpa[ZA] using hsz) (VO hent);obtain⟨k,hjk,cs0,h2,h3⟩:=XC ns (ZA m) 0 j hj;have:j=k:=by omega
   subst this;obtain⟨p0,hp0⟩:=zUa h2;obtain⟨e0,g1,g2,g3,g4,g5⟩:=hent j ns p0 hp0;have he:es.toList[j]?=some e0:=by simpa using g1
   rw[hj] at hf;simp only[Option.bind_some,he,Option.map_some] at hf;have hvr:=hg.ev hv
   generalize hu':a.eval vx=u at hvr
   have hsame:(Instr.keyThatStays (((es[j]?).map (·.key)).getD (uq ks ns)) (uq ks ns)).run P w=.ok (uq ks ns) w:=by
    simp only[g1,Option.map_some,Option.getD_some,g2,Instr.keyThatStays,UZ,if_true,Sem.run_pure]
   have hrun:(Instr.mapUpdate t (.map (some blk)) (uq ks ns) u).run P w=.ok () { w with heap:=w.heap.setIfInBounds blk (.map (es.modify j fun e=>{ e with key:=uq ks ns,val:=u }) ck) }:=by
    simp only[Instr.mapUpdate,Sem.run_bind,run_underlying hu,Result.andThen_ok,MapKept.run_getObj_map hh,K.check w _ ns hn,hf,hsame];exact MapKept.run_setObj_map _ hh
   refine⟨_,by simp only[execOp,hxv,Zo (hg.ev hk),hu',Sem.run_bind,hrun,Result.andThen_ok,Sem.run_pure];rfl,g,?_⟩;have hown:=hg.own id _ blk n hl hgi;have hother:∀ k,k < w.heap.size->k≠blk->({ w with heap:=w.heap.setIfInBounds blk (.map (es.modify j fun e=>{ e with key:=uq ks ns,val:=u }) ck) }:World).heap[k]?=w.heap[k]?:=fun k _ hne=>Zw w blk k _ hne
   have hst':yV w { w with heap:=w.heap.setIfInBounds blk (.map (es.modify j fun e=>{ e with key:=uq ks ns,val:=u }) ck) } (zk ctx g s.objs):=⟨by simp,fun b ⟨_,h2⟩ hlt=>hother b hlt fun e=>by subst e;exact h2 id _ n hl hgi⟩
   refine hg.wrote hl hgi rfl rfl rfl (by simp) hother hown.2 (.mapP ks _ _ bs ck blk n (es.modify j fun e=>{ e with key:=uq ks ns,val:=u }) hgi (Xd w blk _ hown.1) (by simp[hsz]) ?_ hbl hnd (fun i nn' u' hi=>?_) fun j' p' hj'=>?_)
   ·rw[hst];apply List.ext_getElem?;intro i;simp only[List.getElem?_map,Array.getElem?_toList,Array.getElem?_modify]
    by_cases hij:j=i
    ·subst hij;simp[g1]
    ·simp[hij]
   ·by_cases hij:i=j
    ·subst hij;rw[hp0] at hi
     cases hi
     exact⟨_,by rw[Array.getElem?_modify,if_pos rfl,g1];rfl,rfl,hn,vNa hvr,fun hne=>(hne _ rfl).elim⟩
    ·obtain⟨e,q1,q2,q3,q4,q5⟩:=hent i nn' u' hi;exact⟨e,by rw[Array.getElem?_modify,if_neg (Ne.symm hij)];exact q1,q2,q3,q4,fun _=>q5 fun p hp=>by cases hp;exact hij rfl⟩
   ·cases hj'
    exact⟨_,by rw[Array.getElem?_modify,if_pos rfl,g1];rfl,hvr.keep hst' (fun b hb _=>wW hl b hb) (fun _ _=>rfl)⟩
theorem LR.mapUpdatePN{vx:Operand}{q nn:Nat}(hov:ov=none)(hv:s.ev vx=some (.row q nn))(hj:xE ns (ZA m) 0=none):Local P ctx ⟨none,.mapUpdate t x kx vx,ty,pos,after,gd⟩ s (s.setO id (.mapP ks (m++[(ns,undef)]) (some (m.length,.row q nn)) (bs++[ck]) (ck+1))):=by
 subst hov;refine Zv (o:=⟨none,.mapUpdate t x kx vx,ty,pos,after,gd⟩) fun a w g hg=>?_
 have h:=hg.ev hx
 generalize hxv:a.eval x=v at h
 cases h with
 | mpNil _ hgn=>
  cases hg.objs id _ hl with
  | mapP _ _ _ _ _ blk' n' es h' hh hsz hst hbl hnd hent hov=>rw[hgn] at h';cases h'
 | mp _ blk n hgi=>
  cases hg.objs id _ hl with
  | mapP _ _ _ _ _ blk' n' es h' hh hsz hst hbl hnd hent hov=>
   rw[hgi] at h';cases h';have hf:=K.find w ns (ZA m) es.toList hn (by simpa[ZA] using hsz) (VO hent);rw[hj] at hf;simp only[Option.bind_none] at hf;have hvr:=hg.ev hv
   generalize hu':a.eval vx=u at hvr
   have hrun:(Instr.mapUpdate t (.map (some blk)) (uq ks ns) u).run P w=.ok () { w with heap:=w.heap.setIfInBounds blk (.map (es.push { key:=uq ks ns,val:=u,born:=ck }) (ck+1)) }:=by
    simp only[Instr.mapUpdate,Sem.run_bind,run_underlying hu,Result.andThen_ok,MapKept.run_getObj_map hh,K.check w _ ns hn,hf];exact MapKept.run_setObj_map _ hh
   refine⟨_,by simp only[execOp,hxv,Zo (hg.ev hk),hu',Sem.run_bind,hrun,Result.andThen_ok,Sem.run_pure];rfl,g,?_⟩;have hown:=hg.own id _ blk n hl hgi;have hother:∀ k,k < w.heap.size->k≠blk->({ w with heap:=w.heap.setIfInBounds blk (.map (es.push { key:=uq ks ns,val:=u,born:=ck }) (ck+1)) }:World).heap[k]?=w.heap[k]?:=fun k _ hne=>Zw w blk k _ hne
   have hst':yV w { w with heap:=w.heap.setIfInBounds blk (.map (es.push { key:=uq ks ns,val:=u,born:=ck }) (ck+1)) } (zk ctx g s.objs):=⟨by simp,fun b ⟨_,h2⟩ hlt=>hother b hlt fun e=>by subst e;exact h2 id _ n hl hgi⟩
   refine hg.wrote hl hgi rfl rfl rfl (by simp) hother hown.2 (.mapP ks _ _ (bs++[ck]) (ck+1) blk n (es.push { key:=uq ks ns,val:=u,born:=ck }) hgi (Xd w blk _ hown.1) (by simp[hsz]) (by simp[hst]) ?_ ?_ (fun i nn' u' hi=>?_) fun j' p' hj'=>?_)
   ·intro b hb;rcases List.mem_append.1 hb with h | h
    ·have:=hbl b h;omega
    ·simp at h;omega
   ·rw[List.nodup_append];refine⟨hnd,by simp,fun b hb c hc=>?_⟩;simp at hc;have:=hbl b hb;omega
   ·rw[List.getElem?_append] at hi
    split at hi
    ·rename_i hlt
     obtain⟨e,q1,q2,q3,q4,q5⟩:=hent i nn' u' hi;exact⟨e,by rw[Array.getElem?_push,if_neg (by rw[hsz];omega)];exact q1,q2,q3,q4,fun _=>q5 fun p hp=>by cases hp⟩
    ·rename_i hge
     have hi0:i=m.length:=by
      have:i - m.length < 1:=by simpa using (List.getElem?_eq_some_iff.1 hi).1
      omega
     subst hi0;simp at hi;obtain⟨rfl,rfl⟩:=hi;exact⟨_,by rw[Array.getElem?_push,if_pos hsz.symm],rfl,hn,vNa hvr,fun hne=>(hne _ rfl).elim⟩
   ·cases hj'
    exact⟨_,by rw[Array.getElem?_push,if_pos hsz.symm],hvr.keep hst' (fun b hb _=>wW hl b hb) (fun _ _=>rfl)⟩
end
end
section
variable{P:Program}{ctx:Ctx}{ops:Array Oper}{Q:PState->Prop}{s:PState}
variable{dst:Option Tmp}{ty:TypeId}{pos:String}{after:Array Edge}{gd:Option (Nat×Bool)}
theorem Local.post{o:Oper}{t u:PState}(h:Local P ctx o s t)(hs:Sub ctx t u):Local P ctx o s u:=fun a w hr K Qx hK=>h a w hr K Qx fun a' w' h'=>hK a' w' (hs a' w' h')
theorem Local.pre{o:Oper}{t u:PState}(hs:Sub ctx s t)(h:Local P ctx o t u):Local P ctx o s u:=fun a w hr K Qx hK=>h a w (hs a w hr) K Qx hK
section
variable{α:Type}{enc:α->List DV}{L R:List α}{x y:Operand}{id mid m k bs':Nat}{t t' e e':TypeId}{ks:List IntKind}{mm:List (List Int×Value)}{j:Nat}{p:PV}{bs:List Nat}{ck:Nat}
theorem LR.appP(js:List Nat)(hE:ElemOK P t e k bs')(hu':P.underlying t'=some (.slice e'))(hx:s.ev x=some (.row id m))(hm:m=L.length)(hl:look s.objs id=some (.row e k (L.map enc)))
  (hlm:look s.objs mid=some (.mapP ks mm (some (j,p)) bs ck)) (hne:Nat.beq id mid=false)
  (hy:∀ s':PState,s'.n=s.n->s'.sl=s.sl->Src ctx s' y (R.map enc) k) (hk:∀ x,(enc x).length=k) (hb:(L.length+R.length)*bs'<=140737488355328) (h1:Nat.ble 1 bs'=true) (ha:(s.junks js).aloneX id [mid]=true) :
  Local P ctx ⟨dst,.call ⟨.builtin .append,#[x,y],#[t,t']⟩,ty,pos,after,gd⟩ s ((((s.junks js).setO mid (.mapP ks mm (some (j,.junk)) bs ck)).setO id (.row e k ((L++R).map enc))).putD dst (.row id (L++R).length)):=by
 have hne':id≠mid:=fun e=>by rw[e] at hne;simp at hne
 let s2:PState:={ s with objs:=yD mid (.mapP ks mm (some (j,.junk)) bs ck) (vB mid s.objs) }
 have hsub:Sub ctx s s2:=fun a w ⟨g,hg⟩=>⟨g,hg.reread hlm (vt _ _ _) fun S h=>h.junkP⟩
 have hj2:∀ js,(s2.junks js).sl=(s.junks js).sl:=fun js=>by rw[xj,xj]
 have ha2:(s2.junks js).alone id=true:=by
  unfold PState.aloneX at ha;unfold PState.alone;rw[hj2 js];rw[Bool.and_eq_true] at ha ⊢;refine⟨ha.1,List.all_eq_true.2 fun q hq=>?_⟩;rw[yO] at hq;have h2:=List.all_eq_true.1 ha.2;obtain⟨qk,qo⟩:=q;rcases VL hq with h3 | h3
  ·cases h3;rfl
  ·have h4:=VN h3;have h5:=h2 (qk,qo) (by rw[yO];exact h4.2);have h6:inL [mid] qk=false:=by
    rw[XD];simpa using h4.1
   simpa[h6] using h5
 have hl2:look s2.objs id=some (.row e k (L.map enc)):=by
  show look (yD _ _ _) _=_;rw[vt,if_neg hne'];exact hl
 refine Local.pre hsub ((LR.appT (enc:=enc) (L:=L) (R:=R) (s:=s2) js hE hu' (by cases x <;> exact hx) hm hl2 (hy s2 rfl rfl) hk hb h1 ha2).post ?_);refine Sub.drop ?_ (fun i q hq=>?_) (fun i o ho=>?_)
 ·simp only[uG];show(s2.junks js).n=(s.junks js).n;rw[xU,xU]
 ·have hsl:(((s2.junks js).setO id (.row e k ((L++R).map enc))).putD dst (.row id (L++R).length)).sl=((((s.junks js).setO mid (.mapP ks mm (some (j,.junk)) bs ck)).setO id (.row e k ((L++R).map enc))).putD dst (.row id (L++R).length)).sl:=by
   cases dst <;> simp[PState.putD,PState.put,PState.setO,hj2]
  have hn:(((s2.junks js).setO id (.row e k ((L++R).map enc))).putD dst (.row id (L++R).length)).n=((((s.junks js).setO mid (.mapP ks mm (some (j,.junk)) bs ck)).setO id (.row e k ((L++R).map enc))).putD dst (.row id (L++R).length)).n:=by
   simp only[uG];show(s2.junks js).n=(s.junks js).n;rw[xU,xU]
  rw[YQ] at hq ⊢;rw[hsl,hn];exact hq
 ·rw[yl] at ho ⊢;simp only[PState.setO,yO] at ho ⊢;rw[zD] at ho ⊢
  by_cases hi:i=id
  ·rw[if_pos hi] at ho ⊢;exact ho
  ·rw[if_neg hi] at ho ⊢;rw[zD] at ho;show look (yD _ _ (vB _ _)) _=_;rw[vt];exact ho
theorem PQe.stepX{o:Oper}{rest:List Oper}{f:Ft}{fs:List Ft}{p:PV}{id mid:Nat}{ob obm:Ob}(js:List Nat)(hl:∀ s':PState,(∀ {x q},xC o x=true->s.ev x=some q->s'.ev x=some q)->(∀ {id ob},inL f.ro id=true->look s.objs id=some ob->look s'.objs id=some ob)->(s'.junks js).aloneX id [mid]=true->Local P ctx o s' ((((s'.junks js).setO mid obm).setO id ob).putD o.dst p))
  (ha:inAl f.al id js=true) (hao:f.ao=[mid]) (hg:Wd ops o s) (hk:okE f ⟨VM o.dst p++(js.map fun t=>(t,PV.junk)).reverse,[(id,ob),(mid,obm)]⟩=true) (h:PQe P ctx ops Q rest fs ((((s.junks js).setO mid obm).setO id ob).putD o.dst p)):PQe P ctx ops Q (o::rest) (f::fs) s:=by
 have happ:∀ s:PState,s.app ⟨VM o.dst p++(js.map fun t=>(t,PV.junk)).reverse,[(id,ob),(mid,obm)]⟩=(((s.junks js).setO mid obm).setO id ob).putD o.dst p:=fun s=>by
  have h1:=xj js s;have h2:=xU js s;have h3:=yO js s
  cases o.dst <;> simp[PState.app,VM,PState.putD,PState.put,PState.setO,h1,h2,h3]
 refine .step (e:=⟨VM o.dst p++(js.map fun t=>(t,PV.junk)).reverse,[(id,ob),(mid,obm)]⟩) (fun s' _ he ho _ hal=>?_) hg hk (by rw[happ];exact h);rw[happ];refine hl s' he (fun hi=>ho (zS.1 hi)) ?_;unfold inAl at ha;obtain⟨a,h1,h2⟩:=List.any_eq_true.1 ha;simp only[Bool.and_eq_true,beq_iff_eq] at h2;have:=hal a h1
 rwa [Nat.eq_of_beq_eq_true h2.1,h2.2,hao] at this
theorem LR.appNilX(hE:ElemOK P t e k bs')(hu':P.underlying t'=some (.slice e'))(hx:s.ev x=some (.d (.v (.slice none 0 0))))(hf:s.fresh id=true)
  (hy:Src ctx { s with objs:=yD id (.row e k []) s.objs } y (R.map enc) k) (hk:∀ x,(enc x).length=k) (hb:R.length*bs'<=140737488355328) (h1:Nat.ble 1 bs'=true) (ha:({ s with objs:=yD id (.row e k []) s.objs }:PState).alone id=true) :
  Local P ctx ⟨some id,.call ⟨.builtin .append,#[x,y],#[t,t']⟩,ty,pos,after,gd⟩ s (s.newO id (.row e k (R.map enc)) (.row id R.length)):=by
 rintro a w ⟨g,hg⟩ K Qx hK;have hn:=hg.new (Go.RowKit.Below.refl _ w) hf none (fun b n e=>by cases e) (.row e k []) (.rowNil e k (zQ _ _ _));have h2:=Nat.le_of_ble_eq_true h1;have h3:R.length*1<=R.length*bs':=Nat.mul_le_mul_left _ h2;have hlk:look (yD id (Ob.row e k []) s.objs) id=some (.row e k []):=by rw[zD,if_pos rfl]
 have hxv:=hg.ev hx;have hxe:a.eval x=.slice none 0 0:=hxv.of_v;obtain⟨v,w',hrun,hr⟩:=jN (dst:=some id) (ty:=ty) (pos:=pos) (after:=after) (gd:=gd) (l:=[]) (n:=0) (x:=x) [] hE hu' hlk rfl hy (qh hk R) (by simpa using hb) (by simp;omega) ha hn (by rw[hxe];exact .rowNil id (zQ _ _ _));unfold Oper.wp;rw[hrun];refine hK _ _ ?_;refine Sub.drop ?_ (fun i q hq=>?_) (fun i o ho=>?_) _ _ hr
 ·rfl
 ·rw[Nat.zero_add,List.length_map];exact hq
 ·simp only[PState.newO,zD] at ho;simp only[PState.putD,PState.put,PState.setO,PState.junks,zD,List.nil_append]
  by_cases hi:i=id
  ·rw[if_pos hi] at ho ⊢;exact ho
  ·rw[if_neg hi] at ho;rw[if_neg hi,if_neg hi];exact ho
end
end
end Go.Ep
namespace Go.Ep
open Go.RowKit
section
variable{ctx:Ctx}{s:PState}
theorem RelG.obj{g:zb}{a:Act}{w:World}(h1:RelG ctx g s a w){id:Nat}{o o':Ob}(hl:look s.objs id=some o)(hob:ObRd w g (zk ctx g s.objs) id o'):RelG ctx g { s with objs:=yD id o' s.objs } a w:=by
 have hF:∀ b,zk ctx g s.objs b->zk ctx g (yD id o' s.objs) b:=fun b hb=>⟨hb.1,fun i o2 n ho hgi=>by
  rw[zD] at ho
  by_cases ei:i=id
  ·subst ei;exact hb.2 i _ n hl hgi
  ·rw[if_neg ei] at ho;exact hb.2 i o2 n ho hgi⟩
 have hst:yV w w (zk ctx g s.objs):=⟨Nat.le_refl _,fun _ _ _=>rfl⟩
 have hlk:∀ i o2,look (yD id o' s.objs) i=some o2->∃ o3,look s.objs i=some o3:=fun i o2 ho=>by
  rw[zD] at ho
  by_cases ei:i=id
  ·subst ei;exact⟨_,hl⟩
  ·rw[if_neg ei] at ho;exact⟨_,ho⟩
 refine⟨h1.defers,h1.size,fun i p hp=>(h1.slots i p hp).keep hst (fun b hb _=>hF b hb) (fun _ _=>rfl),fun i o2 ho=>?_,fun i i2 o2 o3 b n m ho ho2 hgi hgi2=>?_,fun i o2 b n ho hgi=>?_,h1.os,h1.tape,h1.output,h1.grows,h1.keep⟩
 ·rw[zD] at ho
  by_cases ei:i=id
  ·subst ei;rw[if_pos rfl] at ho
   cases ho
   exact hob.keep hst (fun b hb _=>hF b hb) (fun _ _ _=>rfl) rfl (fun _ _=>rfl)
  ·rw[if_neg ei] at ho;exact(h1.objs i o2 ho).keep hst (fun b hb _=>hF b hb) (fun _ _ _=>rfl) rfl (fun _ _=>rfl)
 ·obtain⟨o4,e4⟩:=hlk i o2 ho;obtain⟨o5,e5⟩:=hlk i2 o3 ho2;exact h1.inj i i2 o4 o5 b n m e4 e5 hgi hgi2
 ·obtain⟨o4,e4⟩:=hlk i o2 ho;exact h1.own i o4 b n e4 hgi
variable{id:Nat}{nl:Bool}{ks:List IntKind}{ag:Bool}{m:List (List Int×List DV)}{bs:List Nat}{ck:Nat}
theorem Sub.nToH(hl:look s.objs id=some (.mapN nl ks ag m bs ck)):Sub ctx s { s with objs:=yD id (.mapH nl ks ag m) s.objs }:=
 Sub.obj hl fun w g S h=>by
  cases h with
  | mapNil _ _ _ h=>exact .mapHNil _ _ h
  | mapN _ _ _ _ _ blk n es h hh hm=>exact .mapH _ _ _ _ _ blk n es h hh hm
theorem Sub.toH(hl:look s.objs id=some (.map ks ag m bs ck)):Sub ctx s { s with objs:=yD id (.mapH false ks ag m) s.objs }:=
 Sub.obj hl fun w g S h=>by
  cases h with
  | map _ _ _ _ _ blk n es h hh hm=>exact .mapH _ _ _ _ _ blk n es h hh hm
theorem Sub.hT(hl:look s.objs id=some (.mapH nl ks ag m))(hn:nl=true):Sub ctx s { s with objs:=yD id (.mapN true ks ag m [] 0) s.objs }:=
 Sub.obj hl fun w g S h=>by
  subst hn
  cases h with
  | mapHNil _ _ h=>exact .mapNil _ _ _ h
theorem openH(hl:look s.objs id=some (.mapH nl ks ag m)){a:Act}{w:World}(hr:Rel ctx s a w):∃ bs ck,Rel ctx { s with objs:=yD id (.mapN nl ks ag m bs ck) s.objs } a w:=by
 obtain⟨g,hg⟩:=hr;have h:=hg.objs id _ hl
 cases h with
 | mapHNil _ _ h=>exact⟨[],0,g,hg.obj hl (.mapNil _ _ _ h)⟩
 | mapH _ _ _ bs ck blk n es h hh hm=>exact⟨bs,ck,g,hg.obj hl (.mapN _ _ _ _ _ blk n es h hh hm)⟩
variable{P:Program}{Q:PQ}
theorem PWc.openH{c:Code}(hl:look s.objs id=some (.mapH nl ks ag m))(h:∀ bs ck,PWc P ctx c Q { s with objs:=yD id (.mapN nl ks ag m bs ck) s.objs }):PWc P ctx c Q s:=fun a w hr=>by
 obtain⟨bs,ck,h2⟩:=Go.Ep.openH hl hr;exact h bs ck a w h2
theorem PWl.openH{ops:Array Oper}{l:List Oper}(hl:look s.objs id=some (.mapH nl ks ag m))(h:∀ bs ck,PWl P ctx ops Q l { s with objs:=yD id (.mapN nl ks ag m bs ck) s.objs }):PWl P ctx ops Q l s:=fun a w hr=>by
 obtain⟨bs,ck,h2⟩:=Go.Ep.openH hl hr;exact h bs ck a w h2
theorem jY(id:Nat)(o o':Ob)(l:List (Nat×Ob))(i:Nat):look (yD id o (yD id o' l)) i=look (yD id o l) i:=by
 rw[zD,zD,zD]
 by_cases h:i=id <;> simp[h]
theorem Sub.same{t:PState}(hn:s.n=t.n)(hs:s.sl=t.sl)(ho:∀ i,look s.objs i=look t.objs i):Sub ctx s t:=
 Sub.drop hn (fun i p hp=>by rw[YQ] at hp ⊢;rw[hn,hs];exact hp) (fun i o h=>by rw[ho];exact h)
theorem PWc.hF{c:Code}(hl:look s.objs id=some (.mapH nl ks ag m))(hn:nl=false)(h:∀ bs ck,PWc P ctx c Q { s with objs:=yD id (.map ks ag m bs ck) s.objs }):PWc P ctx c Q s:=
 PWc.openH hl fun bs ck=>PWc.sub (Sub.mapF (id:=id) (by show look (yD id _ _) id=_;rw[zD,if_pos rfl]) hn) (PWc.sub (Sub.same (t:={ s with objs:=yD id (.map ks ag m bs ck) s.objs }) rfl rfl fun i=>by
  show look (yD id _ (yD id _ _)) i=look (yD id _ _) i;rw[jY]) (h bs ck))
theorem Local.openH{o:Oper}{t:PState}(hl:look s.objs id=some (.mapH nl ks ag m))(h:∀ bs ck,Local P ctx o { s with objs:=yD id (.mapN nl ks ag m bs ck) s.objs } t):Local P ctx o s t:=fun a w hr K Qx hK=>by
 obtain⟨bs,ck,h2⟩:=Go.Ep.openH hl hr;exact h bs ck a w h2 K Qx hK
theorem closeP{dst:Option Nat}{p:PV}{m':List (List Int×List DV)}(hl:look s.objs id=some (.mapH nl ks ag m')):Sub ctx (({ s with objs:=yD id (.mapN nl ks ag m' bs ck) s.objs }:PState).putD dst p) (s.putD dst p):=by
 refine Sub.trans (Sub.nToH (id:=id) (nl:=nl) (ks:=ks) (ag:=ag) (m:=m') (bs:=bs) (ck:=ck) ?_) (Sub.same ?_ ?_ fun i=>?_)
 ·rw[yl];show look (yD id _ _) id=_;rw[zD,if_pos rfl]
 ·cases dst <;> rfl
 ·cases dst <;> rfl
 ·rw[yl];show look (yD id _ _) i=_;rw[yl];show look (yD id _ (yD id _ _)) i=_;rw[jY,zD]
  by_cases h:i=id
  ·rw[if_pos h,h,hl]
  ·rw[if_neg h]
theorem yVa{x:Operand}(l:List (Nat×Ob)):({ s with objs:=l }:PState).ev x=s.ev x:=by cases x <;> rfl
end
section
variable{P:Program}{ctx:Ctx}{Q:PQ}{s:PState}
variable{dst:Option Tmp}{ty:TypeId}{pos:String}{after:Array Edge}{gd:Option (Nat×Bool)}
variable{κ ν:Type}[DecidableEq κ]{eK:κ->List Int}{eV:ν->List DV}{m:List (κ×ν)}{q:κ}{zv:ν}(inj:∀ a b,eK a=eK b->a=b)
variable{x kx:Operand}{t kt et:TypeId}{ks:List IntKind}{ag:Bool}{z:Value}{p kp:PV}{id:Nat}{nl:Bool}{bs:List Nat}{ck:Nat}
section
variable(hu:P.underlying t=some (.map kt et))(K:KeyOK P kt ks)(hz:∀ w,(zeroValue et).run P w=.ok z w)(hzr:∀ (w:World) (g:zb) (S:Nat->Prop),Rd w g S (elP ag (eV zv)) z)(hk:s.ev kx=some kp)(hkp:kp=yIa ks (eK q))(hn:(eK q).length=ks.length)(hp:elP ag (eV (AL.getZ m q zv))=p)
include inj hu K hz hzr hk hkp hn hp
end
include inj in
theorem LR.delH{ats:Array TypeId}(hu:P.underlying t=some (.map kt et))(K:KeyOK P kt ks)(hx:s.ev x=some (.mp id))(hl:look s.objs id=some (.mapH nl ks ag (zO eK eV m)))(hk:s.ev kx=some kp)(hkp:kp=yIa ks (eK q))(hn:(eK q).length=ks.length)(hats:ats[0]?=some t) :
  Local P ctx ⟨dst,.call ⟨.builtin .delete,#[x,kx],ats⟩,ty,pos,after,gd⟩ s ((s.setO id (.mapH nl ks ag (zO eK eV (AL.del m q)))).putD dst (.tup [])):=
 Local.openH hl fun bs ck=>(LR.delN inj hu K (by rw[yVa];exact hx) (by show look (yD id _ _) id=_;rw[zD,if_pos rfl]) (by rw[yVa];exact hk) hkp hn hats).post
  (Sub.trans (Sub.nToH (id:=id) (by rw[yl];show look (yD id _ _) id=_;rw[zD,if_pos rfl]))
   (Sub.same (by cases dst <;> rfl) (by cases dst <;> rfl) fun i=>by
    cases dst <;> (show look (yD id _ (yD id _ (yD id _ _))) i=look (yD id _ _) i;rw[jY,zD,zD,zD];by_cases h:i=id <;> simp[h])))
theorem LR.eqlH{mm:List (List Int×List DV)}{t t' kt et:TypeId}(hu:P.underlying t=some (.map kt et))(hx:s.ev x=some (.mp id))(hl:look s.objs id=some (.mapH nl ks ag mm)) :
  Local P ctx ⟨dst,.binOp .eql t x (.const (.map none)) t',ty,pos,after,gd⟩ s (s.putD dst (.d (.v (.bool nl)))):=
 Local.openH hl fun bs ck=>(LR.eqlMapN hu (by rw[yVa];exact hx) (by show look (yD id _ _) id=_;rw[zD,if_pos rfl])).post (closeP hl)
end
inductive JCs (nm:List Nat):List PV->List PV->Prop
 | nil:JCs nm [] []
 | keep {p:PV} {cs cs':List PV} (h:p.named nm=true) (t:JCs nm cs cs'):JCs nm (p::cs) (p::cs')
 | junk {p:PV} {cs cs':List PV} (t:JCs nm cs cs'):JCs nm (p::cs) (.junk::cs')
inductive JOb (nm:List Nat):Ob->Ob->Prop
 | same {o:Ob} (h:o.named nm=true):JOb nm o o
 | cells {T:TypeId} {cs cs':List PV} (h:JCs nm cs cs'):JOb nm (.cells T cs) (.cells T cs')
inductive JObs (nm:List Nat):List (Nat×Ob)->List (Nat×Ob)->Prop
 | nil:JObs nm [] []
 | cons {k:Nat} {o o':Ob} {F F':List (Nat×Ob)} (h:JOb nm o o') (t:JObs nm F F'):JObs nm ((k,o)::F) ((k,o')::F')
theorem JCs.len{nm:List Nat}{cs cs':List PV}(h:JCs nm cs cs'):cs'.length=cs.length:=by
 induction h with
 | nil=>rfl
 | keep _ _ ih=>simp[ih]
 | junk _ ih=>simp[ih]
theorem JCs.get{nm:List Nat}{cs cs':List PV}(h:JCs nm cs cs'):∀ (i:Nat) (p:PV),cs'[i]?=some p->p=.junk\/cs[i]?=some p:=by
 induction h with
 | nil=>intro i p h;simp at h
 | keep _ _ ih=>
  intro i p h
  cases i with
  | zero=>exact .inr (by simpa using h)
  | succ i=>simpa using ih i p (by simpa using h)
 | junk _ ih=>
  intro i p h
  cases i with
  | zero=>exact .inl (by simpa using h.symm)
  | succ i=>simpa using ih i p (by simpa using h)
theorem JCs.named{nm:List Nat}{cs cs':List PV}(h:JCs nm cs cs'):PV.named.namedL nm cs'=true:=by
 induction h with
 | nil=>rfl
 | keep h _ ih=>simp only[PV.named.namedL,h,ih,Bool.and_self]
 | junk _ ih=>simp only[PV.named.namedL,PV.named,ih,Bool.and_self]
theorem JOb.named{nm:List Nat}{o o':Ob}(h:JOb nm o o'):o'.named nm=true:=by
 cases h with
 | same h=>exact h
 | cells h=>exact h.named
theorem JOb.rd{nm:List Nat}{o o':Ob}(h:JOb nm o o'){w:World}{g:zb}{S:Nat->Prop}{id:Nat}(hr:ObRd w g S id o):ObRd w g S id o':=by
 cases h with
 | same=>exact hr
 | cells h=>
  cases hr with
  | cells _ _ blk n us hgi hh hl hr' h1=>
   refine .cells _ _ blk n us hgi hh (h.len.trans hl) (fun i p u hp hu=>?_) h1;rcases h.get i p hp with rfl | h2
   ·exact .junk u
   ·exact hr' i p u h2 hu
theorem JObs.look{nm:List Nat}{F F':List (Nat×Ob)}(h:JObs nm F F'):∀ (id:Nat) (o':Ob),Go.Ep.look F' id=some o'->∃ o,Go.Ep.look F id=some o/\JOb nm o o':=by
 induction h with
 | nil=>intro id o' h;simp[Go.Ep.look] at h
 | cons h _ ih=>
  intro id o' hl;simp only[Go.Ep.look] at hl ⊢
  split at hl
  ·rename_i e;cases hl;exact⟨_,by rw[if_pos e],h⟩
  ·rename_i e;rw[if_neg e];exact ih id o' hl
theorem vOa{l:List (Nat×Ob)}{i:Nat}(h:i∉l.map (·.1)):look l i=none:=by
 cases hl:look l i with
 | none=>rfl
 | some o=>exact absurd (yX hl) h
theorem OwnB.app{g:zb}{a b:List (Nat×Ob)}{k:Nat}(h:OwnB g (a++b) k):OwnB g a k\/OwnB g b k:=by
 obtain⟨id,o,n,h1,h2⟩:=h;rw[xv] at h1
 cases hl:look a id with
 | none=>rw[hl,Option.none_or] at h1;exact .inr ⟨id,o,n,h1,h2⟩
 | some q=>rw[hl,Option.some_or] at h1;exact .inl ⟨id,q,n,hl,h2⟩
theorem PObjN.frame{G:Type}{P:Program}{f:FuncId}{ps:List PV}{os:List (Nat×Ob)}{pins ks:List Nat}{r:PV}{os':G->List (Nat×Ob)}(F F':List (Nat×Ob)){N:Nat->Prop}(hc:PObjN P f N ps os pins r os')
  (hks:∀ gh,(os' gh).map (·.1)=ks) (hcl:∀ gh,(os' gh).all (fun x=>x.2.named ks)=true) (hr:r.named ks=true) (hd:((F.map (·.1)).all fun k=>!inL (os.map (·.1)) k&&!inL ks k)=true) (hj:JObs (pins++F.map (·.1)) F F') :
  PObjN P f N ps (os++F) (pins++F.map (·.1)) r (fun gh=>os' gh++F'):=by
 intro w hN S g vs hlen hreal hobs hdis;have hd1:∀ k∈F.map (·.1),k∉os.map (·.1)/\k∉ks:=fun k hk=>by
  have h:=List.all_eq_true.1 hd k hk;rw[Bool.and_eq_true,Bool.not_eq_true',Bool.not_eq_true',XD,XD] at h;exact h
 have XE:∀ {id o},look F id=some o->look (os++F) id=some o:=fun {id o} h=>by
  rw[xv,vOa (hd1 id (yX h)).1,Option.none_or];exact h
 have ownL:∀ {b},OwnB g os b->OwnB g (os++F) b:=fun⟨id,o,n,h1,h2⟩=>⟨id,o,n,yu h1,h2⟩
 have ownR:∀ {b},OwnB g F b->OwnB g (os++F) b:=fun⟨id,o,n,h1,h2⟩=>⟨id,o,n,XE h1,h2⟩
 have hnF:∀ {id o b n},look F id=some o->g id=some (b,n)->¬ OwnB g os b:=fun {id o b n} h1 h2 ⟨id2,o2,n2,h3,h4⟩=>by
  have:=hobs.inj id id2 o o2 b n n2 (XE h1) (yu h3) h2 h4;subst this;exact(hd1 id (yX h1)).1 (yX h3)
 refine(hc w hN S g vs hlen hreal ⟨fun id o h=>hobs.rd id o (yu h),fun i j oi oj b n m hi hj=>hobs.inj i j oi oj b n m (yu hi) (yu hj),fun id o b n h=>hobs.lt id o b n (yu h)⟩ (fun b hb h=>hdis b hb (ownL h))).mono fun e w' ⟨u,g',gh,he,hpost⟩=>?_
 have hks':=hks gh;have hcl':=hcl gh
 let G':zb:=fun j=>if inL (F.map (·.1)) j then g j else g' j
 refine⟨u,G',gh,he,?_⟩;show xRa w g S (os++F) (pins++F.map (·.1)) r (os' gh++F') w' G' u
 generalize os' gh=os1 at hpost hks' hcl' ⊢
 have gF:∀ {j},j∈F.map (·.1)->G' j=g j:=fun {j} h=>by simp only[G',zS.2 h,if_true]
 have gN:∀ {j},j∉F.map (·.1)->G' j=g' j:=fun {j} h=>by simp only[G',XD.2 h,Bool.false_eq_true,if_false]
 have gK:∀ {j},j∈ks->G' j=g' j:=fun {j} h=>gN fun h2=>(hd1 j h2).2 h
 have gP:∀ {j},j∈pins++F.map (·.1)->G' j=g j:=fun {j} h=>by
  by_cases hf:j∈F.map (·.1)
  ·exact gF hf
  ·rw[gN hf];exact hpost.pin j ((List.mem_append.1 h).resolve_right hf)
 have split:∀ {id o},look (os1++F') id=some o->(look os1 id=some o/\id∈ks)\/∃ o0,look F id=some o0/\JOb (pins++F.map (·.1)) o0 o:=fun {id o} h=>by
  rw[xv] at h
  cases hl:look os1 id with
  | none=>rw[hl,Option.none_or] at h;exact .inr (hj.look id o h)
  | some q=>rw[hl,Option.some_or] at h;cases h;exact .inl ⟨rfl,hks'▸yX hl⟩
 have hA:∀ b,We w g S os g' os1 b->We w g S (os++F) G' (os1++F') b:=fun b ⟨h1,h2⟩=>⟨by
  rcases h1 with h1 | h1 | h1
  ·exact .inl h1
  ·exact .inr (.inl (ownL h1))
  ·exact .inr (.inr h1),fun⟨id,o,n,hl,hgi⟩=>by
  rcases split hl with⟨h3,h4⟩ | ⟨o0,h3,h4⟩
  ·rw[gK h4] at hgi;exact h2 ⟨id,o,n,h3,hgi⟩
  ·rw[gF (yX h3)] at hgi;rcases h1 with h1 | h1 | h1
   ·exact hdis b h1 ⟨id,o0,n,XE h3,hgi⟩
   ·exact hnF h3 hgi h1
   ·have:=hobs.lt id o0 b n (XE h3) hgi;omega⟩
 have hS:∀ b,S b->b < w.heap.size->We w g S (os++F) G' (os1++F') b:=fun b hb hlt=>⟨.inl hb,fun⟨id,o,n,hl,hgi⟩=>by
  rcases split hl with⟨h3,h4⟩ | ⟨o0,h3,h4⟩
  ·rw[gK h4] at hgi;rcases hpost.own b ⟨id,o,n,h3,hgi⟩ with h5 | h5
   ·exact hdis b hb (ownL h5)
   ·omega
  ·rw[gF (yX h3)] at hgi;exact hdis b hb ⟨id,o0,n,XE h3,hgi⟩⟩
 have hst:yV w w' S:=⟨hpost.grows,fun b hb hlt=>hpost.keep b hlt fun h=>hdis b hb (ownL h)⟩
 have hst':yV w' w' (We w g S os g' os1):=⟨Nat.le_refl _,fun _ _ _=>rfl⟩
 refine⟨hpost.eos,hpost.tape,hpost.output,hpost.grows,fun k hk h=>hpost.keep k hk fun h2=>h (ownL h2),fun b ⟨id,o,n,hl,hgi⟩=>?_,fun id h=>gP h,?_,⟨fun id o hl=>?_,fun i j oi oj b n m hi hj' hgi hgj=>?_,fun id o b n hl hgi=>?_⟩⟩
 ·rcases split hl with⟨h3,h4⟩ | ⟨o0,h3,h4⟩
  ·rw[gK h4] at hgi;exact(hpost.own b ⟨id,o,n,h3,hgi⟩).imp ownL (fun h=>h)
  ·rw[gF (yX h3)] at hgi;exact .inl (ownR ⟨id,o0,n,h3,hgi⟩)
 ·exact hpost.res.keep hst' (fun b hb _=>hA b hb) fun j hjj=>gK (PV.named_has hr hjj)
 ·rcases split hl with⟨h3,h4⟩ | ⟨o0,h3,h4⟩
  ·have hn:=(List.all_eq_true.1 hcl') _ (xi h3);exact(hpost.obs.rd id o h3).keep hst' (fun b hb _=>hA b hb) (fun _ _ _=>rfl) (gK h4) fun j hjj=>gK (Ob.named_has hn hjj)
  ·exact(h4.rd (hobs.rd id o0 (XE h3))).keep hst hS (fun b n hgi=>hpost.keep b (hobs.lt id o0 b n (XE h3) hgi) (hnF h3 hgi)) (gF (yX h3)) fun j hjj=>gP (Ob.named_has h4.named hjj)
 ·rcases split hi with⟨h3,h4⟩ | ⟨o0,h3,h4⟩ <;> rcases split hj' with⟨h5,h6⟩ | ⟨o2,h5,h6⟩
  ·rw[gK h4] at hgi;rw[gK h6] at hgj;exact hpost.obs.inj i j oi oj b n m h3 h5 hgi hgj
  ·rw[gK h4] at hgi;rw[gF (yX h5)] at hgj;exfalso;rcases hpost.own b ⟨i,oi,n,h3,hgi⟩ with h7 | h7
   ·exact hnF h5 hgj h7
   ·have:=hobs.lt j o2 b m (XE h5) hgj;omega
  ·rw[gF (yX h3)] at hgi;rw[gK h6] at hgj;exfalso;rcases hpost.own b ⟨j,oj,m,h5,hgj⟩ with h7 | h7
   ·exact hnF h3 hgi h7
   ·have:=hobs.lt i o0 b n (XE h3) hgi;omega
  ·rw[gF (yX h3)] at hgi;rw[gF (yX h5)] at hgj;exact hobs.inj i j o0 o2 b n m (XE h3) (XE h5) hgi hgj
 ·rcases split hl with⟨h3,h4⟩ | ⟨o0,h3,h4⟩
  ·rw[gK h4] at hgi;exact hpost.obs.lt id o b n h3 hgi
  ·rw[gF (yX h3)] at hgi;exact Nat.lt_of_lt_of_le (hobs.lt id o0 b n (XE h3) hgi) hpost.grows
theorem PObj.frame{G:Type}{P:Program}{f:FuncId}{ps:List PV}{os:List (Nat×Ob)}{pins ks:List Nat}{r:PV}{os':G->List (Nat×Ob)}(F F':List (Nat×Ob))(hc:PObj P f ps os pins r os')
  (hks:∀ gh,(os' gh).map (·.1)=ks) (hcl:∀ gh,(os' gh).all (fun x=>x.2.named ks)=true) (hr:r.named ks=true) (hd:((F.map (·.1)).all fun k=>!inL (os.map (·.1)) k&&!inL ks k)=true) (hj:JObs (pins++F.map (·.1)) F F') :
  PObj P f ps (os++F) (pins++F.map (·.1)) r (fun gh=>os' gh++F'):=
 (PObjN.frame F F' (hc.toN fun _=>True) hks hcl hr hd hj).all
section
variable{ctx:Ctx}{s:PState}
inductive RSl (s:PState) (ρ:List (Nat×Nat)):List (Nat×PV)->Prop
 | nil:RSl s ρ []
 | cons {i:Nat} {p:PV} {r:List (Nat×PV)} (h:s.at i=some (p.ren ρ)) (t:RSl s ρ r):RSl s ρ ((i,p)::r)
theorem RSl.get{ρ:List (Nat×Nat)}{l:List (Nat×PV)}(h:RSl s ρ l):∀ i p,xt l i=some p->s.at i=some (p.ren ρ):=by
 induction h with
 | nil=>intro i p h;simp[xt] at h
 | cons h _ ih=>
  intro i p hl;rw[yC] at hl
  split at hl
  ·rename_i e;subst e;cases hl;exact h
  ·exact ih i p hl
end
theorem PObj.dropRow{G:Type}{P:Program}{f:FuncId}{ps:List PV}{os:List (Nat×Ob)}{pins:List Nat}{id n k:Nat}{e:TypeId}{l:List (List DV)}{os' os1:G->List (Nat×Ob)}(hc:PObj P f ps os pins (.row id n) os')(hos:∀ gh,os' gh=os1 gh++[(id,.row e k l)])(hn:n=l.length)(hk:∀ gh,(os1 gh).all (fun x=>!Nat.beq x.1 id)=true) :
  PObj P f ps os pins (.d (.sl l)) os1:=by
 intro w g S vs hlen hreal hobs hdis;refine(hc w g S vs hlen hreal hobs hdis).mono fun en w' ⟨u,g',gh,he,hpost⟩=>?_
 refine⟨u,g',gh,he,?_⟩;rw[hos gh] at hpost;have hk':=hk gh
 generalize os1 gh=o1 at hpost hk' ⊢
 have hne:∀ {i o},look o1 i=some o->i≠id:=fun {i o} h e=>by
  have:=List.all_eq_true.1 hk' _ (xi h);subst e;simp at this
 have hid:look (o1++[(id,.row e k l)]) id=some (.row e k l):=by
  rw[xv]
  cases h:look o1 id with
  | none=>simp[look]
  | some o=>exact absurd rfl (hne h)
 have ownL:∀ {b},OwnB g' o1 b->OwnB g' (o1++[(id,.row e k l)]) b:=fun⟨i,o,m,h1,h2⟩=>⟨i,o,m,yu h1,h2⟩
 have hA:∀ b,We w g S os g' (o1++[(id,.row e k l)]) b->We w g S os g' o1 b:=fun b ⟨h1,h2⟩=>⟨h1,fun h=>h2 (ownL h)⟩
 have hst:yV w' w' (We w g S os g' (o1++[(id,.row e k l)])):=⟨Nat.le_refl _,fun _ _ _=>rfl⟩
 refine⟨hpost.eos,hpost.tape,hpost.output,hpost.grows,hpost.keep,fun b h=>hpost.own b (ownL h),hpost.pin,?_,⟨fun i o h=>(hpost.obs.rd i o (yu h)).keep hst (fun b hb _=>hA b hb) (fun _ _ _=>rfl) rfl (fun _ _=>rfl),fun i j oi oj b n m hi hj=>hpost.obs.inj i j oi oj b n m (yu hi) (yu hj),fun i o b n h=>hpost.obs.lt i o b n (yu h)⟩⟩;have hr:=hpost.res;have ho:=hpost.obs.rd id _ hid
 generalize u=v at hr
 cases ho with
 | rowNil _ _ hgn=>
  cases hr with
  | row _ _ blk cap hgi=>rw[hgn] at hgi;cases hgi
  | rowNil=>exact .d (.nil none 0 (Nat.zero_le _) (fun _=>rfl))
 | row _ _ _ blk' cap' cur hgi hh hlc hcap hcs hkk hr'=>
  cases hr with
  | rowNil _ hgn=>rw[hgn] at hgi;cases hgi
  | row _ _ blk cap hgi'=>
   rw[hgi] at hgi'
   cases hgi'
   subst hn;have hlt:=hpost.obs.lt id _ blk' cap' hid hgi;have hfree:We w g S os g' o1 blk':=⟨.inr (hpost.own blk' ⟨id,_,cap',hid,hgi⟩),fun⟨i,o,m,h1,h2⟩=>hne h1 (hpost.obs.inj i id o _ blk' m cap' (yu h1) hid h2 hgi)⟩
   refine .d (.sl l blk' 0 cap' k (fun i j=>cur.getD (i*k+j) undef) hlc hcap hfree hlt hkk ?_ ?_)
   ·intro i j hi hj;have hlt:i*k+j < cur.length:=by rw[hcs];exact vl (by omega) hj
    rw[zU hh];simp[hlt]
   ·intro i cs j x hi hx;obtain⟨u,hu,hd⟩:=hr' i cs j x hi hx;have e:cur.getD (i*k+j) undef=u:=by simp[List.getD,hu]
    show DRd w' _ x (cur.getD (i*k+j) undef);rw[e];exact hd.keep hst (fun b hb _=>hA b hb)
inductive LookIn (os':List (Nat×Ob)):List (Nat×Ob)->Prop
 | nil:LookIn os' []
 | cons {i:Nat} {o:Ob} {r:List (Nat×Ob)} (h:Go.Ep.look os' i=some o) (t:LookIn os' r):LookIn os' ((i,o)::r)
theorem LookIn.get{os' l:List (Nat×Ob)}(h:LookIn os' l):∀ i o,Go.Ep.look l i=some o->Go.Ep.look os' i=some o:=by
 induction h with
 | nil=>intro i o h;simp[Go.Ep.look] at h
 | cons h _ ih=>
  intro j o2 hl;simp only[Go.Ep.look] at hl
  split at hl
  ·rename_i e;subst e;cases hl;exact h
  ·exact ih j o2 hl
theorem vPa{ρ:List (Nat×Nat)}{acc:List (Nat×Ob)}{i:Nat}{o:Ob}:∀ {l:List (Nat×Ob)},look l i=some o->(∀ j∈l.map (·.1),rn ρ j=rn ρ i->j=i)->look (l.foldr (fun x l=>yD (rn ρ x.1) (x.2.ren ρ) l) acc) (rn ρ i)=some (o.ren ρ)
 | [],h,_=>by simp[look] at h
 | (k,q)::r,h,hi=>by
  rw[List.foldr_cons,zD]
  by_cases e:rn ρ i=rn ρ k
  ·rw[if_pos e];have:=hi k (by simp) e.symm;subst this;simp[look] at h;rw[h]
  ·rw[if_neg e];refine vPa (l:=r) ?_ (fun j hj=>hi j (by simp only[List.map_cons,List.mem_cons];exact .inr hj));simp only[look] at h;rw[if_neg (fun e2=>e (by rw[e2]))] at h;exact h
theorem lookN{ρ:List (Nat×Nat)}{acc:List (Nat×Ob)}{j:Nat}:∀ {l:List (Nat×Ob)},(∀ i∈l.map (·.1),rn ρ i≠j)->look (l.foldr (fun x l=>yD (rn ρ x.1) (x.2.ren ρ) l) acc) j=look acc j
 | [],_=>rfl
 | (k,q)::r,h=>by
  rw[List.foldr_cons,zD,if_neg (fun e=>h k (by simp) e.symm)];exact lookN fun i hi=>h i (by simp only[List.map_cons,List.mem_cons];exact .inr hi)
theorem vQa{ρ:List (Nat×Nat)}{acc:List (Nat×Ob)}{j:Nat}:∀ {l:List (Nat×Ob)},(∀ i∈l.map (·.1),rn ρ i≠j)->look (l.foldr (fun x l=>vB (rn ρ x.1) l) acc) j=look acc j
 | [],_=>rfl
 | (k,q)::r,h=>by
  rw[List.foldr_cons,yJ,if_neg (fun e=>h k (by simp) e.symm)];exact vQa fun i hi=>h i (by simp only[List.map_cons,List.mem_cons];exact .inr hi)
theorem xUa{l:List (Nat×Ob)}{i:Nat}(h:i∈l.map (·.1)):∃ o,look l i=some o:=by
 cases hl:look l i with
 | some o=>exact⟨o,rfl⟩
 | none=>
  exfalso
  induction l with
  | nil=>cases h
  | cons x r ih=>
   simp only[look] at hl
   split at hl
   ·cases hl
   ·rename_i e
    simp only[List.map_cons,List.mem_cons] at h;exact ih (h.resolve_left e) hl
section
variable{P:Program}{ctx:Ctx}{Q:PState->Prop}{s:PState}{ops:Array Oper}{rest:List Oper}{fs:List Ft}{f:Ft}
variable{dst:Option Tmp}{ty:TypeId}{pos:String}{after:Array Edge}{gd:Option (Nat×Bool)}
theorem PQe.callObjSN{x:Operand}{xs:List Operand}{ats:Array TypeId}{fn:FuncId}{ps qs:List PV}{os os':List (Nat×Ob)}{pins:List Nat}{r:PV}(ρ:List (Nat×Nat))(js ks:List Nat)(osV osS:List (Nat×Ob))
  {N:Nat->Prop} (hc:PObjN P fn N ps os pins r (fun _:Unit=>os')) (hN:∀ b,zT ctx b->N b) (hK:∀ b,ctx.K b->ctx.S b)
  (hev:∀ s':PState,(∀ {y q},xC (⟨dst,.call ⟨.value x,xs.toArray,ats⟩,ty,pos,after,gd⟩:Oper) y=true->s.ev y=some q->s'.ev y=some q)->s'.ev x=some (.d (.v (.func (.func fn) #[] #[])))/\s'.evs xs=some qs)
  (he:∀ args w,(callFunc fn args).run P w=.ok (.enter fn args) w) (hq:qs.map PV.nilD=ps.map (PV.ren ρ)) (hos:AllOb s ρ os) (hV:LookIn os' osV) (hS:LookIn os' osS) (hAS:AllOb s ρ osS) (hcov:(os'.map (·.1)).all (fun i=>inL (osV.map (·.1)) i||inL (osS.map (·.1)) i)=true) (hSo:(osS.map (·.1)).all (inL (os.map (·.1)))=true)
  (hks:os'.map (·.1)=ks) (hcl:os'.all (fun x=>x.2.named ks)=true) (hr:r.named ks=true) (hok:calO ρ js (os.map (·.1)) pins ks f=true)
  (hg:Wd ops (⟨dst,.call ⟨.value x,xs.toArray,ats⟩,ty,pos,after,gd⟩:Oper) s) (hk:okE f (UE ρ js dst r osV)=true) (h:PQe P ctx ops Q rest fs (s.app (UE ρ js dst r osV))) :
  PQe P ctx ops Q (⟨dst,.call ⟨.value x,xs.toArray,ats⟩,ty,pos,after,gd⟩::rest) (f::fs) s:=by
 simp only[calO,Bool.and_eq_true] at hok;obtain⟨⟨⟨⟨⟨c1,c2⟩,c3⟩,c4⟩,c5⟩,c6⟩:=hok;refine .step (e:=UE ρ js dst r osV) (fun s' hn hee ho hfr hal=>?_) hg hk h;obtain⟨h1,h2⟩:=hev s' (fun hx hq=>hee hx hq);have hinj:∀ i j,i∈os.map (·.1)++ks->j∈os.map (·.1)++ks->rn ρ i=rn ρ j->i=j:=fun i j hi hj e=>by
  have h3:=List.all_eq_true.1 (List.all_eq_true.1 c1 i hi) j hj;rw[Bool.or_eq_true,Bool.not_eq_true'] at h3;rcases h3 with h | h
  ·exact Nat.eq_of_beq_eq_true h
  ·rw[e,Nat.beq_refl] at h;cases h
 have hok':uz s' ρ js (os.map (·.1)) pins ks=true:=by
  unfold uz;rw[Bool.and_eq_true,Bool.and_eq_true];refine⟨⟨c1,?_⟩,?_⟩
  ·rw[List.all_eq_true] at c2 ⊢;intro i hi;have:=c2 i hi;rw[Bool.or_eq_true] at this ⊢;exact this.imp (fun h=>h) fun h=>hfr _ (zS.1 h)
  ·rw[List.all_eq_true] at c5 ⊢;intro i hi;have:=c5 i hi;rw[Bool.or_eq_true,Bool.or_eq_true] at this;rw[Bool.or_eq_true];rcases this with(h | h) | h
   ·exact .inl h
   ·refine .inr ?_;have hf:=hfr _ (zS.1 h);rw[Bool.and_eq_true];refine⟨zTa js hf,?_⟩;simp only[PState.fresh,Bool.and_eq_true,List.all_eq_true] at hf;rw[List.all_eq_true];intro y hy;rw[Bool.or_eq_true];exact .inl (hf.2 y hy).2
   ·refine .inr ?_;obtain⟨a,ha1,ha2⟩:=List.any_eq_true.1 h;simp only[Bool.and_eq_true,beq_iff_eq] at ha2;have hx:=hal a ha1;rw[Nat.eq_of_beq_eq_true ha2.1,ha2.2] at hx;unfold PState.aloneX at hx;rw[Bool.and_eq_true,yO] at hx;rw[Bool.and_eq_true];refine⟨hx.1,?_⟩;rw[List.all_eq_true] at c4;have hx2:=hx.2;rw[List.all_eq_true] at hx2 ⊢;intro y hy;have:=hx2 y hy;rw[Bool.or_eq_true] at this ⊢;rcases this with h | h
    ·exact .inr (c4 _ (zS.1 h))
    ·exact .inl h
 have hl:=LR.callObjN (P:=P) (ctx:=ctx) (dst:=dst) (ty:=ty) (pos:=pos) (after:=after) (gd:=gd) (ats:=ats) ρ js ks hc hN hK h1 he h2 hq (hos.keep (fun hi hl=>ho (zS.1 hi) hl) c6) hks hcl hr hok';have hAS':AllOb s' ρ osS:=hAS.keep (f:=f) (fun hi hl=>ho (zS.1 hi) hl) (by
  rw[List.all_eq_true] at c6 hSo ⊢;exact fun i hi=>c6 i (zS.1 (hSo i hi)))
 refine hl.post (Sub.drop ?_ ?_ ?_)
 ·cases dst <;> rfl
 ·intro i p hp;have hat:=xL hp;have hlt:i < s'.n:=Zu (s:=s'.app (UE ρ js dst r osV)) hp;refine Zn (by cases dst <;> exact hlt) ?_;simp only[PState.app,UE] at hat
  cases dst with
  | none=>simpa[VM,PState.putD,PState.callO,xj] using hat
  | some d=>simpa[VM,PState.putD,PState.put,PState.callO,xj] using hat
 ·intro id o hlo;have e1:(s'.app (UE ρ js dst r osV)).objs=osV.foldr (fun x l=>yD (rn ρ x.1) (x.2.ren ρ) l) s'.objs:=by
   simp only[PState.app,UE,List.foldr_map]
  have e2:((s'.callO ρ js os os').putD dst (r.ren ρ)).objs=os'.foldr (fun x l=>yD (rn ρ x.1) (x.2.ren ρ) l) (os.foldr (fun x l=>vB (rn ρ x.1) l) s'.objs):=by cases dst <;> rfl
  rw[e1] at hlo;rw[e2];have inj':∀ i,i∈os'.map (·.1)->∀ j∈os'.map (·.1),rn ρ j=rn ρ i->j=i:=fun i hi j hj e=>hinj j i (List.mem_append_right _ (hks▸hj)) (List.mem_append_right _ (hks▸hi)) e
  rcases XE hlo with⟨i,o1,h3,h4,h5⟩ | ⟨h3,h4⟩
  ·have h6:=hV.get i o1 h3;rw[h4,h5];exact vPa h6 (inj' i (yX h6))
  ·by_cases hex:∃ i∈os'.map (·.1),rn ρ i=id
   ·obtain⟨i,hi,rfl⟩:=hex;have h5:=List.all_eq_true.1 hcov i hi;rw[Bool.or_eq_true] at h5;rcases h5 with h5 | h5
    ·exact absurd rfl (h3 i (zS.1 h5))
    ·obtain⟨o2,h6⟩:=xUa (zS.1 h5);have h7:=hAS'.get i o2 h6;rw[h4] at h7
     cases h7
     exact vPa (hS.get i o2 h6) (inj' i hi)
   ·rw[lookN fun i hi e=>hex ⟨i,hi,e⟩,vQa fun i hi e=>hex ⟨i,by rw[hks];exact zS.1 (List.all_eq_true.1 c3 i hi),e⟩];exact h4
theorem PQe.callObjS{x:Operand}{xs:List Operand}{ats:Array TypeId}{fn:FuncId}{ps qs:List PV}{os os':List (Nat×Ob)}{pins:List Nat}{r:PV}(ρ:List (Nat×Nat))(js ks:List Nat)(osV osS:List (Nat×Ob))
  (hc:PObj P fn ps os pins r (fun _:Unit=>os')) (hK:∀ b,ctx.K b->ctx.S b)
  (hev:∀ s':PState,(∀ {y q},xC (⟨dst,.call ⟨.value x,xs.toArray,ats⟩,ty,pos,after,gd⟩:Oper) y=true->s.ev y=some q->s'.ev y=some q)->s'.ev x=some (.d (.v (.func (.func fn) #[] #[])))/\s'.evs xs=some qs)
  (he:∀ args w,(callFunc fn args).run P w=.ok (.enter fn args) w) (hq:qs.map PV.nilD=ps.map (PV.ren ρ)) (hos:AllOb s ρ os) (hV:LookIn os' osV) (hS:LookIn os' osS) (hAS:AllOb s ρ osS) (hcov:(os'.map (·.1)).all (fun i=>inL (osV.map (·.1)) i||inL (osS.map (·.1)) i)=true) (hSo:(osS.map (·.1)).all (inL (os.map (·.1)))=true)
  (hks:os'.map (·.1)=ks) (hcl:os'.all (fun x=>x.2.named ks)=true) (hr:r.named ks=true) (hok:calO ρ js (os.map (·.1)) pins ks f=true)
  (hg:Wd ops (⟨dst,.call ⟨.value x,xs.toArray,ats⟩,ty,pos,after,gd⟩:Oper) s) (hk:okE f (UE ρ js dst r osV)=true) (h:PQe P ctx ops Q rest fs (s.app (UE ρ js dst r osV))) :
  PQe P ctx ops Q (⟨dst,.call ⟨.value x,xs.toArray,ats⟩,ty,pos,after,gd⟩::rest) (f::fs) s:=
 PQe.callObjSN ρ js ks osV osS (hc.toN fun _=>True) (fun _ _=>trivial) hK hev he hq hos hV hS hAS hcov hSo hks hcl hr hok hg hk h
end
section
variable{P:Program}{ctx:Ctx}{s:PState}
variable{dst:Option Tmp}{ty:TypeId}{pos:String}{after:Array Edge}{gd:Option (Nat×Bool)}
theorem zVa{os os':List (Nat×Ob)}{pins:List Nat}{r:PV}(ρ:List (Nat×Nat))(js ks:List Nat)(osV osS:List (Nat×Ob))(hV:LookIn os' osV)(hS:LookIn os' osS)(hAS:AllOb s ρ osS)(hcov:(os'.map (·.1)).all (fun i=>inL (osV.map (·.1)) i||inL (osS.map (·.1)) i)=true)(c3:(os.map (·.1)).all (inL ks)=true)
  (hks:os'.map (·.1)=ks) (hok:uz s ρ js (os.map (·.1)) pins ks=true):Sub ctx ((s.callO ρ js os os').putD dst (r.ren ρ)) (s.app (UE ρ js dst r osV)):=by
 have hinj:∀ i j,i∈os.map (·.1)++ks->j∈os.map (·.1)++ks->rn ρ i=rn ρ j->i=j:=fun i j hi hj e=>by
  simp only[uz,Bool.and_eq_true] at hok;have h3:=List.all_eq_true.1 (List.all_eq_true.1 hok.1.1 i hi) j hj;rw[Bool.or_eq_true,Bool.not_eq_true'] at h3;rcases h3 with h | h
  ·exact Nat.eq_of_beq_eq_true h
  ·rw[e,Nat.beq_refl] at h;cases h
 refine Sub.drop ?_ ?_ ?_
 ·cases dst <;> rfl
 ·intro i p hp;have hat:=xL hp;have hlt:i < s.n:=Zu (s:=s.app (UE ρ js dst r osV)) hp;refine Zn (by cases dst <;> exact hlt) ?_;simp only[PState.app,UE] at hat
  cases dst with
  | none=>simpa[VM,PState.putD,PState.callO,xj] using hat
  | some d=>simpa[VM,PState.putD,PState.put,PState.callO,xj] using hat
 ·intro id o hlo;have e1:(s.app (UE ρ js dst r osV)).objs=osV.foldr (fun x l=>yD (rn ρ x.1) (x.2.ren ρ) l) s.objs:=by
   simp only[PState.app,UE,List.foldr_map]
  have e2:((s.callO ρ js os os').putD dst (r.ren ρ)).objs=os'.foldr (fun x l=>yD (rn ρ x.1) (x.2.ren ρ) l) (os.foldr (fun x l=>vB (rn ρ x.1) l) s.objs):=by cases dst <;> rfl
  rw[e1] at hlo;rw[e2];have inj':∀ i,i∈os'.map (·.1)->∀ j∈os'.map (·.1),rn ρ j=rn ρ i->j=i:=fun i hi j hj e=>hinj j i (List.mem_append_right _ (hks▸hj)) (List.mem_append_right _ (hks▸hi)) e
  rcases XE hlo with⟨i,o1,h3,h4,h5⟩ | ⟨h3,h4⟩
  ·have h6:=hV.get i o1 h3;rw[h4,h5];exact vPa h6 (inj' i (yX h6))
  ·by_cases hex:∃ i∈os'.map (·.1),rn ρ i=id
   ·obtain⟨i,hi,rfl⟩:=hex;have h5:=List.all_eq_true.1 hcov i hi;rw[Bool.or_eq_true] at h5;rcases h5 with h5 | h5
    ·exact absurd rfl (h3 i (zS.1 h5))
    ·obtain⟨o2,h6⟩:=xUa (zS.1 h5);have h7:=hAS.get i o2 h6;rw[h4] at h7
     cases h7
     exact vPa (hS.get i o2 h6) (inj' i hi)
   ·rw[lookN fun i hi e=>hex ⟨i,hi,e⟩,vQa fun i hi e=>hex ⟨i,by rw[hks];exact zS.1 (List.all_eq_true.1 c3 i hi),e⟩];exact h4
theorem LR.callObjS{x:Operand}{xs:List Operand}{ats:Array TypeId}{fn:FuncId}{ps qs:List PV}{os os':List (Nat×Ob)}{pins:List Nat}{r:PV}(ρ:List (Nat×Nat))(js ks:List Nat)(osV osS:List (Nat×Ob))
  (hc:PObj P fn ps os pins r (fun _:Unit=>os')) (hK:∀ b,ctx.K b->ctx.S b) (hx:s.ev x=some (.d (.v (.func (.func fn) #[] #[])))) (he:∀ args w,(callFunc fn args).run P w=.ok (.enter fn args) w) (hps:s.evs xs=some qs)
  (hq:qs.map PV.nilD=ps.map (PV.ren ρ)) (hos:AllOb s ρ os) (hV:LookIn os' osV) (hS:LookIn os' osS) (hAS:AllOb s ρ osS) (hcov:(os'.map (·.1)).all (fun i=>inL (osV.map (·.1)) i||inL (osS.map (·.1)) i)=true) (c3:(os.map (·.1)).all (inL ks)=true)
  (hks:os'.map (·.1)=ks) (hcl:os'.all (fun x=>x.2.named ks)=true) (hr:r.named ks=true) (hok:uz s ρ js (os.map (·.1)) pins ks=true) :
  Local P ctx ⟨dst,.call ⟨.value x,xs.toArray,ats⟩,ty,pos,after,gd⟩ s (s.app (UE ρ js dst r osV)):=
 (LR.callObj (P:=P) (ctx:=ctx) (dst:=dst) (ty:=ty) (pos:=pos) (after:=after) (gd:=gd) (ats:=ats) ρ js ks hc hK hx he hps hq hos hks hcl hr hok).post (zVa ρ js ks osV osS hV hS hAS hcov c3 hks hok)
theorem LR.appTD{α:Type}{enc:α->List DV}{L R:List α}{x y:Operand}{id m k bs':Nat}{t t' e e':TypeId}(js:List Nat)(hK:∀ b,ctx.K b->ctx.S b)(hE:ElemOK P t e k bs')(hu':P.underlying t'=some (.slice e'))(hx:s.ev x=some (.row id m))(hm:m=L.length)
  (hl:look s.objs id=some (.row e k (L.map enc))) (hy:Src ctx s y (R.map enc) k) (hk:∀ x,(enc x).length=k) (hb:(L.length+R.length)*bs'<=140737488355328) (h1:Nat.ble 1 bs'=true) (ha:(s.junks js).alone id=true) :
  Local P ctx ⟨dst,.call ⟨.builtin .append,#[x,y],#[t,t']⟩,ty,pos,after,gd⟩ s (((s.junks js).setO id (.row e k [])).putD dst (.d (.sl ((L++R).map enc)))):=by
 refine(LR.appT (enc:=enc) (L:=L) (R:=R) (dst:=dst) js hE hu' hx hm hl hy hk hb h1 ha).post ?_;rintro a w ⟨g,hg⟩;have hl1:look (((s.junks js).setO id (.row e k ((L++R).map enc))).putD dst (.row id (L++R).length)).objs id=some (.row e k ((L++R).map enc)):=by
  rw[yl];show look (yD id _ _) id=_;rw[zD,if_pos rfl]
 have hha:∀ i p,i < s.n->xt (s.junks js).sl i=some p->p.has id=false:=fun i p hi hp=>by
  have:(s.junks js).at i=some p:=Zn (by rw[xU];exact hi) hp;exact UA ha this
 -- the row becomes data
 have hs2:∃ g',RelG ctx g' { n:=s.n,sl:=VM dst (PV.d (.sl ((L++R).map enc)))++(s.junks js).sl,objs:=vB id (s.junks js).objs } a w:=by
  cases dst with
  | none=>
   have:=Sub.frz (s:=((s.junks js).setO id (.row e k ((L++R).map enc))).putD none (.row id (L++R).length)) (ctx:=ctx) (n:=(L++R).length) [] hK hl1 (by simp) (by simp) a w ⟨g,hg⟩;refine Sub.same ?_ ?_ (fun i=>?_) a w this
   ·simp[PState.frz,PState.putD,PState.setO,xU]
   ·rfl
   ·show look (vB id (yD id _ _)) i=look (vB id _) i;rw[yJ,yJ,zD]
    by_cases h:i=id <;> simp[h]
  | some d=>
   by_cases hd:d < s.n
   ·have:=Sub.frz (s:=((s.junks js).setO id (.row e k ((L++R).map enc))).putD (some d) (.row id (L++R).length)) (ctx:=ctx) (n:=(L++R).length) [d] hK hl1 (by simp) (by
     intro j hj;rw[List.mem_singleton] at hj;subst hj;refine Zn (by show j < (s.junks js).n;rw[xU];exact hd) ?_;show xt ((j,_)::_) j=_;rw[yC,if_pos rfl]) a w ⟨g,hg⟩
    refine Sub.drop ?_ (fun i p hp=>?_) (fun i o ho=>?_) a w this
    ·simp[PState.frz,PState.putD,PState.put,PState.setO,xU]
    ·have h1:xt ((d,PV.d (.sl ((L++R).map enc)))::(s.junks js).sl) i=some p:=xL hp;have h2:=Zu hp;refine Zn (by show i < (s.junks js).n;rw[xU];exact h2) ?_;show xt ((d,_)::(d,_)::_) i=some p;simp only[yC] at h1 ⊢
     split
     ·rename_i e;rw[if_pos e] at h1;exact h1
     ·rename_i e;rw[if_neg e] at h1;exact h1
    ·show look (vB id (yD id _ _)) i=some o;have ho':look (vB id (s.junks js).objs) i=some o:=ho;rw[yJ,zD];rw[yJ] at ho'
     by_cases h:i=id <;> simp_all
   ·have:=Sub.frz (s:=((s.junks js).setO id (.row e k ((L++R).map enc))).putD (some d) (.row id (L++R).length)) (ctx:=ctx) (n:=(L++R).length) [] hK hl1 (by simp) (by simp) a w ⟨g,hg⟩;refine Sub.drop ?_ (fun i p hp=>?_) (fun i o ho=>?_) a w this
    ·simp[PState.frz,PState.putD,PState.put,PState.setO,xU]
    ·have h1:xt ((d,PV.d (.sl ((L++R).map enc)))::(s.junks js).sl) i=some p:=xL hp;have h2:i < s.n:=Zu (s:={ n:=s.n,sl:=VM (some d) (PV.d (.sl ((L++R).map enc)))++(s.junks js).sl,objs:=vB id (s.junks js).objs }) hp;refine Zn (by show i < (s.junks js).n;rw[xU];exact h2) ?_;show xt ((d,_)::_) i=some p;simp only[yC] at h1 ⊢;have hne:¬ d=i:=fun e=>hd (by rw[e];exact h2)
     rw[if_neg hne] at h1 ⊢;exact h1
    ·show look (vB id (yD id _ _)) i=some o;have ho':look (vB id (s.junks js).objs) i=some o:=ho;rw[yJ,zD];rw[yJ] at ho'
     by_cases h:i=id <;> simp_all
 obtain⟨g',hg'⟩:=hs2;have hfr:PState.fresh { n:=s.n,sl:=VM dst (PV.d (.sl ((L++R).map enc)))++(s.junks js).sl,objs:=vB id (s.junks js).objs } id=true:=by
  unfold PState.fresh;rw[Bool.and_eq_true];unfold PState.alone at ha;rw[Bool.and_eq_true] at ha;refine⟨jX fun x hx hh q hq=>?_,List.all_eq_true.2 fun x hx=>?_⟩
  ·cases dst with
   | none=>exact Xa ha.1 hx hq hh
   | some d=>
    have hq:xt ((d,PV.d (.sl ((L++R).map enc)))::(s.junks js).sl) x.1=some q:=hq;rcases List.mem_cons.1 hx with h | h
    ·rw[h] at hh;simp[PV.has] at hh
    ·simp only[yC] at hq
     split at hq
     ·cases hq;rfl
     ·exact Xa ha.1 h hq hh
  ·have h2:=VN hx;have h3:=List.all_eq_true.1 ha.2 x h2.2;simp[h2.1,h3]
 have h3:=hg'.new (Below.refl _ w) hfr none (fun b n e=>by cases e) (.row e k []) (.rowNil e k (zQ _ _ _));refine Sub.drop ?_ (fun i p hp=>?_) (fun i o ho=>?_) a w ⟨_,h3⟩
 ·cases dst <;> simp[PState.putD,PState.put,PState.setO,xU]
 ·have h1:=xL hp;have h2:i < s.n:=by have:=Zu hp;cases dst <;> simpa[PState.putD,PState.put,PState.setO,xU] using this
  refine Zn h2 ?_
  cases dst <;> exact h1
 ·show look (yD id _ (vB id _)) i=some o;rw[yl] at ho;have ho':look (yD id (.row e k []) (s.junks js).objs) i=some o:=ho;rw[zD,yJ];rw[zD] at ho'
  by_cases h:i=id <;> simp_all
end
end Go.Ep
namespace Go.Ep
open Go.RowKit
section
variable{P:Program}{ctx:Ctx}{s:PState}
variable{dst:Option Tmp}{ty:TypeId}{pos:String}{after:Array Edge}{gd:Option (Nat×Bool)}
theorem LR.buildR{t:TypeId}{places:List (Nat×Nat)}{zs:List Value}{parts:Array (Nat×Operand)}{ps:List (Nat×PV)}{ns:List PV}(hB:YP P t places zs)(hz1:(zs.all Value.oneCell')=true)(hps:s.evp parts.toList=some ps)(hns:wDa places (zs.map fun z=>PV.d (.v z)) ps=some ns) :
  Local P ctx ⟨dst,.build t parts,ty,pos,after,gd⟩ s (s.putD dst (.agg ns)):=
 zG (o:=⟨dst,.build t parts,ty,pos,after,gd⟩) fun a w g hg=>by
  have hz1':∀ u∈zs,u.oneCell'=true:=by simpa using hz1
  obtain⟨vs,h1,h2,h3,h4⟩:=yMa (w:=w) (g:=g) (S:=zk ctx g s.objs) ps (parts.toList.map fun x=>(x.1,a.eval x.2)) (zs.map fun z=>PV.d (.v z)) zs ns (by simpa using yNa hps) (by
   intro j p r hp hr;rw[List.getElem?_map] at hr
   cases hx:parts.toList[j]? with
   | none=>simp[hx] at hr
   | some x=>
    simp[hx] at hr;subst hr;obtain⟨e1,e2⟩:=yOa hps hp hx;exact⟨e1,hg.ev e2⟩) (by simp) (by
   intro i p u hp hu;simp[hu] at hp;subst hp;exact .d (.v u (hz1' u (List.mem_of_getElem? hu)))) hz1' hns
  refine⟨.agg vs.toArray,?_,.agg ns vs h2 h3 h4⟩;have hb:P.built t (parts.map fun(i,x)=>(i,a.eval x)).toList=some vs.toArray:=by
   rw[hB];simpa using h1
  have hrun:=run_build w t (parts.map fun(i,x)=>(i,a.eval x)) vs.toArray hb;simp only[execOp,Sem.run_bind,hrun,Result.andThen_ok,Sem.run_pure]
end
section
variable{P:Program}{ctx:Ctx}{ops:Array Oper}{Q:PState->Prop}{s:PState}
variable{dst:Option Tmp}{ty:TypeId}{pos:String}{after:Array Edge}{gd:Option (Nat×Bool)}
variable{α:Type}{enc:α->List DV}{L R:List α}{x y:Operand}{id oid m k bs' j:Nat}{t t' e e' T:TypeId}{cs:List PV}
theorem LR.appC(js:List Nat)(hE:ElemOK P t e k bs')(hu':P.underlying t'=some (.slice e'))(hx:s.ev x=some (.row id m))(hm:m=L.length)(hl:look s.objs id=some (.row e k (L.map enc)))
  (hlm:look s.objs oid=some (.cells T cs)) (hall:PV.has.hasL id (cs.set j .junk)=false) (hne:Nat.beq id oid=false)
  (hy:∀ s':PState,s'.n=s.n->s'.sl=s.sl->Src ctx s' y (R.map enc) k) (hk:∀ x,(enc x).length=k) (hb:(L.length+R.length)*bs'<=140737488355328) (h1:Nat.ble 1 bs'=true) (ha:(s.junks js).aloneX id [oid]=true) :
  Local P ctx ⟨dst,.call ⟨.builtin .append,#[x,y],#[t,t']⟩,ty,pos,after,gd⟩ s ((((s.junks js).setO oid (.cells T (cs.set j .junk))).setO id (.row e k ((L++R).map enc))).putD dst (.row id (L++R).length)):=by
 have hne':id≠oid:=fun e=>by rw[e] at hne;simp at hne
 let s2:PState:={ s with objs:=yD oid (.cells T (cs.set j .junk)) (vB oid s.objs) }
 have hsub:Sub ctx s s2:=Sub.trans (Sub.junkCell (j:=j) hlm) (Sub.drop rfl (fun i q hq=>hq) (fun i o ho=>by
  rw[vt] at ho;rw[zD];exact ho))
 have hj2:∀ js,(s2.junks js).sl=(s.junks js).sl:=fun js=>by rw[xj,xj]
 have ha2:(s2.junks js).alone id=true:=by
  unfold PState.aloneX at ha;unfold PState.alone;rw[hj2 js];rw[Bool.and_eq_true] at ha ⊢;refine⟨ha.1,List.all_eq_true.2 fun q hq=>?_⟩;rw[yO] at hq;have h2:=List.all_eq_true.1 ha.2;obtain⟨qk,qo⟩:=q;rcases VL hq with h3 | h3
  ·cases h3;simpa[Ob.has] using hall
  ·have h4:=VN h3;have h5:=h2 (qk,qo) (by rw[yO];exact h4.2);have h6:inL [oid] qk=false:=by
    rw[XD];simpa using h4.1
   simpa[h6] using h5
 have hl2:look s2.objs id=some (.row e k (L.map enc)):=by
  show look (yD _ _ _) _=_;rw[vt,if_neg hne'];exact hl
 refine Local.pre hsub ((LR.appT (enc:=enc) (L:=L) (R:=R) (s:=s2) js hE hu' (by cases x <;> exact hx) hm hl2 (hy s2 rfl rfl) hk hb h1 ha2).post ?_);refine Sub.drop ?_ (fun i q hq=>?_) (fun i o ho=>?_)
 ·simp only[uG];show(s2.junks js).n=(s.junks js).n;rw[xU,xU]
 ·have hsl:(((s2.junks js).setO id (.row e k ((L++R).map enc))).putD dst (.row id (L++R).length)).sl=((((s.junks js).setO oid (.cells T (cs.set j .junk))).setO id (.row e k ((L++R).map enc))).putD dst (.row id (L++R).length)).sl:=by
   cases dst <;> simp[PState.putD,PState.put,PState.setO,hj2]
  have hn:(((s2.junks js).setO id (.row e k ((L++R).map enc))).putD dst (.row id (L++R).length)).n=((((s.junks js).setO oid (.cells T (cs.set j .junk))).setO id (.row e k ((L++R).map enc))).putD dst (.row id (L++R).length)).n:=by
   simp only[uG];show(s2.junks js).n=(s.junks js).n;rw[xU,xU]
  rw[YQ] at hq ⊢;rw[hsl,hn];exact hq
 ·rw[yl] at ho ⊢;simp only[PState.setO,yO] at ho ⊢;rw[zD] at ho ⊢
  by_cases hi:i=id
  ·rw[if_pos hi] at ho ⊢;exact ho
  ·rw[if_neg hi] at ho ⊢;rw[zD] at ho;show look (yD _ _ (vB _ _)) _=_;rw[vt];exact ho
end
end Go.Ep
namespace Go.Ep
theorem EndsO.mkX{G:Type}{P:Program}{ctx:Ctx}{fn:Func}{pl ex:List (Nat×Ob)}{r:PV}{os':G->List (Nat×Ob)}{e:Exit}{s:PState}(gh:G){n:Nat}{sl:List (Nat×PV)}{ps:List PV}(he:e=.normal\/e=.ret)(hsub:Sub ctx s ⟨n,sl,(os' gh++pl)++ex⟩)
  (hres:zSa P ⟨n,sl,(os' gh++pl)++ex⟩ fn.results.toList ps) (hq:yPa ps=r) (hd:(pl.all fun x=>!inL ((os' gh).map (·.1)) x.1)=true):EndsO P ctx fn pl r os' e s:=by
 refine⟨he,gh,ps,_,hsub,hres,hq,fun id o h=>yu (yu h),fun id o h=>yu ?_⟩;rw[xv]
 cases hl:look (os' gh) id with
 | none=>rw[Option.none_or];exact h
 | some q=>
  have h1:=List.all_eq_true.1 hd _ (xi h);have h2:=zS.2 (yX hl);rw[h2] at h1;cases h1
end Go.Ep
namespace Go.Ep
open Go.RowKit
theorem DRd0.mono{w:World}{z:Bool}{S S':Nat->Prop}(hS:∀ b,S b->S' b){x:DV}{u:Value}(h:DRd0 w z S x u):DRd0 w z S' x u:=h.keep ⟨Nat.le_refl _,fun _ _ _=>rfl⟩ fun b hb _=>hS b hb
def Plain(x:DV):Prop:=∀ (w:World) (S:Nat->Prop) (u:Value),DRd w S x u->DRd0 w false S x u
theorem Plain.v(x:Value):Plain (.v x):=fun w S u h=>by cases h with | v _ h=>exact .v x h
theorem Plain.sl{l:List (List DV)}(h:∀ cs∈l,∀ x∈cs,Plain x):Plain (.sl l):=fun w S u hd=>by
 cases hd with
 | nil a cap hc hn=>exact .nil a cap hc hn
 | sl _ b off cap k c hl hcap hs hb hkk hc hr=>
  exact .sl l b off cap k c hl hcap hs hb (fun h=>by cases h) hkk hc fun i cs j x hi hx=>h cs (List.mem_of_getElem? hi) x (List.mem_of_getElem? hx) _ _ _ (hr i cs j x hi hx)
theorem Plain.slm{α:Type}{enc:α->List DV}(h:∀ a,∀ x∈enc a,Plain x)(l:List α):Plain (.sl (l.map enc)):=.sl fun cs hcs x hx=>by
 obtain⟨a,_,rfl⟩:=List.mem_map.1 hcs;exact h a x hx
theorem DRd0.bound{w:World}{z:Bool}{S:Nat->Prop}{x:DV}{u:Value}(h:DRd0 w z S x u):DRd0 w z (fun b=>S b/\b < w.heap.size) x u:=by
 induction h with
 | v x h=>exact .v x h
 | nil a cap hc hn=>exact .nil a cap hc hn
 | sl l b off cap k c hl hcap hs hb hz hkk hc hr ih=>exact .sl l b off cap k c hl hcap ⟨hs,hb⟩ hb hz hkk hc ih
def MonoD(d:(Nat->Prop)->DV):Prop:=∀ (w:World) (S N N':Nat->Prop) (u:Value),(∀ b,N b->N' b)->DRd w S (d N) u->DRd w S (d N') u
theorem MonoD.const(x:DV):MonoD fun _=>x:=fun _ _ _ _ _ _ h=>h
theorem MonoD.nw(x:DV):MonoD fun N=>.nw N x:=fun w S N N' u hN h=>by
 cases h with
 | nw _ _ _ h=>exact .nw _ _ _ (h.mono fun b hb=>⟨hb.1,hN b hb.2⟩)
def MonoP(r:(Nat->Prop)->PV):Prop:=∀ (w:World) (g:zb) (S N N':Nat->Prop) (u:Value),(∀ b,N b->N' b)->Rd w g S (r N) u->Rd w g S (r N') u
theorem MonoP.d{x:(Nat->Prop)->DV}(h:MonoD x):MonoP fun N=>.d (x N):=fun w g S N N' u hN hr=>by
 cases hr with
 | d hd=>exact .d (h w S N N' u hN hd)
inductive MonoL : ((Nat->Prop)->List PV)->Prop
 | nil:MonoL fun _=>[]
 | cons {p:(Nat->Prop)->PV} {l:(Nat->Prop)->List PV} (h:MonoP p) (t:MonoL l):MonoL fun N=>p N::l N
theorem MonoL.get{l:(Nat->Prop)->List PV}(h:MonoL l):(∀ N N',(l N).length=(l N').length)/\∀ (i:Nat),(∀ N,(l N)[i]?=none)\/∃ p,MonoP p/\∀ N,(l N)[i]?=some (p N):=by
 induction h with
 | nil=>exact⟨fun _ _=>rfl,fun i=>.inl fun N=>by simp⟩
 | cons h t ih=>
  refine⟨fun N N'=>by simp[ih.1 N N'],fun i=>?_⟩
  cases i with
  | zero=>exact .inr ⟨_,h,fun N=>by simp⟩
  | succ i=>
   rcases ih.2 i with h0 | ⟨p,hp,h1⟩
   ·exact .inl fun N=>by simpa using h0 N
   ·exact .inr ⟨p,hp,fun N=>by simpa using h1 N⟩
theorem MonoP.agg{l:(Nat->Prop)->List PV}(h:MonoL l):MonoP fun N=>.agg (l N):=fun w g S N N' u hN hr=>by
 cases hr with
 | agg cs us hl hh h1=>
  refine .agg _ us ((h.get.1 N' N).trans hl) (fun i p u hp hu=>?_) h1;rcases h.get.2 i with h0 | ⟨q,hq,h2⟩
  ·rw[h0] at hp;cases hp
  ·rw[h2] at hp;cases hp;exact hq w g S N N' u hN (hh i _ u (h2 N) hu)
def PNew(P:Program)(f:FuncId)(ps:List PV)(r:(Nat->Prop)->PV):Prop:=∀ (w:World) (S:Nat->Prop),FunAt P f ps (r fun b=>w.heap.size<=b) w S
theorem PNew.intro{P:Program}{f:FuncId}{fn:Func}{c:Code}{ps:List PV}{r:(Nat->Prop)->PV}{n:Nat}{sl:List (Nat×PV)}(hf:P.funcs[f]?=some fn)(hb:fn.body=some c)(hn:fn.ntmps=n)(hsl:args 0 ps=sl)(hpn:Nat.ble ps.length n=true)
  (body:∀ ctx:Ctx,(∀ b,ctx.K b->ctx.S b)->(∀ b,¬ ctx.K b)->PWc P ctx c (Ends P fn (r (zT ctx))) ⟨n,sl,[]⟩):PNew P f ps r:=
 fun w S=>FunAt.intro hf hb hn hsl hpn (body ⟨w,S,fun _=>False⟩ (fun _ h=>h.elim) fun _ h=>h)
theorem PNew.nilD{P:Program}{f:FuncId}{ps:List PV}{r:(Nat->Prop)->PV}(h:PNew P f (ps.map PV.nilD) r):PNew P f ps r:=fun w S vs hl hv=>
 h w S vs (by simpa using hl) fun i p v hp hu=>by
  rw[List.getElem?_map] at hp
  cases hq:ps[i]? with
  | none=>simp[hq] at hp
  | some q=>simp[hq] at hp;subst hp;exact(hv i q v hq hu).nilD
def flatL(l:List (List DV)):Prop:=∀ cs∈l,∀ x∈cs,∃ v,x=.v v
theorem flatL.map{α:Type}{enc:α->List DV}(h:∀ a,∀ x∈enc a,∃ v,x=.v v)(l:List α):flatL (l.map enc):=fun cs hcs x hx=>by
 obtain⟨a,_,rfl⟩:=List.mem_map.1 hcs;exact h a x hx
theorem RowRd.new{w:World}{S:Nat->Prop}{base:Nat}{e:TypeId}{k:Nat}{l:List (List DV)}{u:Value}(h:RowRd w S base e k l u)(hf:flatL l):DRd0 w true (fun b=>(S b\/base<=b)/\base<=b) (.sl l) u:=by
 cases h with
 | nil=>exact .nil none 0 (Nat.zero_le _) (fun _=>rfl)
 | row _ blk cap cur hb hh hlc hcap hcs hk hr=>
  refine .sl l blk 0 cap k (fun i j=>cur.getD (i*k+j) undef) hlc hcap ⟨.inr hb,hb⟩ (Array.getElem?_eq_some_iff.1 hh).1 (fun _=>⟨_,_,hh⟩) hk ?_ ?_
  ·intro i j hi hj;have hlt:i*k+j < cur.length:=by rw[hcs];exact vl (by omega) hj
   rw[zU hh];simp[hlt]
  ·intro i cs j x hi hx;obtain⟨u,hu,hd⟩:=hr i cs j x hi hx;have e:cur.getD (i*k+j) undef=u:=by simp[List.getD,hu]
   show DRd0 w true _ x (cur.getD (i*k+j) undef);rw[e];obtain⟨v,rfl⟩:=hf cs (List.mem_of_getElem? hi) x (List.mem_of_getElem? hx)
   cases hd with
   | v _ h=>exact .v _ h
theorem PRow.new{P:Program}{f:FuncId}{ps:List PV}{e:TypeId}{k:Nat}{l:List (List DV)}(h:PRow P f ps e k l)(hf:flatL l):PNew P f ps fun N=>.d (.nw N (.sl l)):=
 fun w S vs hl hv=>(h w S vs hl hv).mono fun _ _ ⟨u,he,hb,hr⟩=>⟨u,he,hb,.d (.nw _ _ _ (hr.new hf))⟩
section
variable{P:Program}{ctx:Ctx}{Q:PQ}{s:PState}
variable{dst:Option Tmp}{ty:TypeId}{pos:String}{after:Array Edge}{gd:Option (Nat×Bool)}
theorem LR.callNw{x:Operand}{xs:List Operand}{ats:Array TypeId}{f:FuncId}{ps qs:List PV}{r:(Nat->Prop)->PV}(hc:PNew P f ps r)(hm:MonoP r)(hx:s.ev x=some (.d (.v (.func (.func f) #[] #[]))))(he:∀ args w,(callFunc f args).run P w=.ok (.enter f args) w)
  (hps:s.evs xs=some qs) (hq:qs.map PV.nilD=ps) (hd:PV.isData.isDataL ps=true) (hr:(r (zT ctx)).isData=true) :
  Local P ctx ⟨dst,.call ⟨.value x,xs.toArray,ats⟩,ty,pos,after,gd⟩ s (s.putD dst (r (zT ctx))):=by
 subst hq;exact LR.callAt (fun _ w g hg vs hl hv=>(hc.nilD w (zk ctx g s.objs) vs hl hv).mono fun e w' ⟨u,h1,h2,h3⟩=>⟨u,h1,h2,hm _ _ _ _ _ _ (fun b hb=>Nat.le_trans hg.grows hb) h3⟩) hx he hps (vP hd) hr
theorem DRd.unmark{w:World}{S N:Nat->Prop}{x:DV}{u:Value}(h:DRd w S (.nw N x) u):DRd w S x u:=by
 cases h with
 | nw _ _ _ h=>exact(h.mono fun _ hb=>hb.1).up
def Unm(N:Nat->Prop)(l l0:List (List DV)):Prop:=l.length=l0.length/\(∀ (i:Nat) (cs cs0:List DV),l[i]?=some cs->l0[i]?=some cs0->cs.length=cs0.length) /\
 ∀ (w:World) (S:Nat->Prop) (i j:Nat) (cs cs0:List DV) (x x0:DV) (u:Value),l[i]?=some cs->l0[i]?=some cs0->cs[j]?=some x->cs0[j]?=some x0->DRd w S x u->DRd0 w true (fun b=>S b/\N b) x0 u
theorem Unm.map{N:Nat->Prop}{α:Type}{encN enc:α->List DV}(hl:∀ a,(encN a).length=(enc a).length)(h:∀ (w:World) (S:Nat->Prop) (a:α) (j:Nat) (x x0:DV) (u:Value),(encN a)[j]?=some x->(enc a)[j]?=some x0->DRd w S x u->DRd0 w true (fun b=>S b/\N b) x0 u)(l:List α):Unm N (l.map encN) (l.map enc):=by
 refine⟨by simp,fun i cs cs0 h1 h2=>?_,fun w S i j cs cs0 x x0 u h1 h2 h3 h4 h5=>?_⟩
 ·rw[List.getElem?_map] at h1 h2
  cases ha:l[i]? with
  | none=>simp[ha] at h1
  | some a=>simp[ha] at h1 h2;subst h1 h2;exact hl a
 ·rw[List.getElem?_map] at h1 h2
  cases ha:l[i]? with
  | none=>simp[ha] at h1
  | some a=>simp[ha] at h1 h2;subst h1 h2;exact h w S a j x x0 u h3 h4 h5
def PState.frzNw(s:PState)(id:Nat)(N:Nat->Prop)(l0:List (List DV))(js:List Nat):PState:={ n:=s.n,sl:=(s.sets (.d (.nw N (.sl l0))) js).sl,objs:=vB id s.objs }
theorem Sub.frzNwG{id n k:Nat}{e:TypeId}{l l0:List (List DV)}{N:Nat->Prop}(js:List Nat)(hnew:∀ a w g,RelG ctx g s a w->∀ b m,g id=some (b,m)->N b/\(ctx.S b\/ctx.w0.heap.size<=b))(hu:Unm N l l0)(hl:look s.objs id=some (.row e k l))(hn:l.length=n)(hjs:∀ j∈js,s.at j=some (.row id n)):Sub ctx s (s.frzNw id N l0 js):=by
 rintro a w ⟨g,h⟩;have hF:∀ b,zk ctx g s.objs b->zk ctx g (vB id s.objs) b:=fun b ⟨h1,h2⟩=>⟨h1,fun j o m hj hg=>by
  rw[yJ] at hj
  split at hj
  ·cases hj
  ·exact h2 j o m hj hg⟩
 have hst:yV w w (zk ctx g s.objs):=⟨Nat.le_refl _,fun _ _ _=>rfl⟩
 have hlk:∀ {j:Nat} {o:Ob},look (vB id s.objs) j=some o->j≠id/\look s.objs j=some o:=fun {j o} hj=>by
  rw[yJ] at hj
  split at hj
  ·cases hj
  ·rename_i hne;exact⟨hne,hj⟩
 refine⟨g,⟨h.defers,h.size,?_,?_,?_,?_,h.os,h.tape,h.output,h.grows,h.keep⟩⟩
 ·intro i p hp;have old:s.at i=some p->Rd w g (zk ctx g (vB id s.objs)) p (a.tmps.getD i undef):=fun hq=>(h.slots i p hq).keep hst (fun b hb _=>hF b hb) (fun _ _=>rfl)
  have hp':(s.sets (.d (.nw N (.sl l0))) js).at i=some p:=Zn (by rw[VA];exact Zu (s:=s.frzNw id N l0 js) hp) (xL (s:=s.frzNw id N l0 js) hp);rcases VB _ js s i p hp' with⟨h1,rfl⟩ | h2
  ·have hr:=h.slots i _ (hjs i h1);have hob:=h.objs id _ hl;show Rd w g (zk ctx g (vB id s.objs)) (.d (.nw N (.sl l0))) (a.tmps.getD i undef)
   generalize hv:a.tmps.getD i undef=v at hr
   cases hob with
   | rowNil _ _ hgn=>
    cases hr with
    | row _ _ blk cap hgi=>rw[hgn] at hgi;cases hgi
    | rowNil=>
     have:l0=[]:=by have:=hu.1;simpa using this.symm
     subst this;exact .d (.nw _ _ _ (.nil none 0 (Nat.zero_le _) (fun _=>rfl)))
   | row _ _ _ blk' cap' cur hgi hh hlc hcap hcs hkk hr'=>
    cases hr with
    | rowNil _ hgn=>rw[hgn] at hgi;cases hgi
    | row _ _ blk cap hgi'=>
     rw[hgi] at hgi'
     cases hgi'
     subst hn;have hown:=h.own id _ blk' cap' hl hgi;have hnw:=hnew a w g h blk' cap' hgi;have hfree:zk ctx g (vB id s.objs) blk':=⟨hnw.2,fun j o m hj hgj=>by
      obtain⟨hne,hj'⟩:=hlk hj;exact hne (h.inj j id o _ blk' m cap' hj' hl hgj hgi)⟩
     rw[hu.1];refine .d (.nw _ _ _ (.sl l0 blk' 0 cap' k (fun i j=>cur.getD (i*k+j) undef) (hu.1▸hlc) hcap ⟨hfree,hnw.1⟩ hown.1 (fun _=>⟨_,_,hh⟩) ?_ ?_ ?_))
     ·intro i cs0 hi;have hi2:i < l.length:=by rw[hu.1];exact(List.getElem?_eq_some_iff.1 hi).1
      rw[<- hu.2.1 i _ cs0 (List.getElem?_eq_getElem hi2) hi];exact hkk i _ (List.getElem?_eq_getElem hi2)
     ·intro i j hi hj;have hlt:i*k+j < cur.length:=by rw[hcs];exact vl (by have:=hu.1;omega) hj
      rw[zU hh];simp[hlt]
     ·intro i cs0 j x0 hi hx;have hi2:i < l.length:=by rw[hu.1];exact(List.getElem?_eq_some_iff.1 hi).1
      have hcs1:=List.getElem?_eq_getElem hi2;have hj2:j < l[i].length:=by rw[hu.2.1 i _ cs0 hcs1 hi];exact(List.getElem?_eq_some_iff.1 hx).1
      obtain⟨u,hu',hd⟩:=hr' i _ j _ hcs1 (List.getElem?_eq_getElem hj2);have e:cur.getD (i*k+j) undef=u:=by simp[List.getD,hu']
      show DRd0 w true _ x0 (cur.getD (i*k+j) undef);rw[e];exact(hu.2.2 w _ i j _ cs0 _ x0 u hcs1 hi (List.getElem?_eq_getElem hj2) hx hd).mono fun b hb=>⟨hF b hb.1,hb.2⟩
  ·exact old h2
 ·intro j o hj;obtain⟨_,hj'⟩:=hlk hj;exact(h.objs j o hj').keep hst (fun b hb _=>hF b hb) (fun _ _ _=>rfl) rfl (fun _ _=>rfl)
 ·intro i j oi oj b n m hi hj;exact h.inj i j oi oj b n m (hlk hi).2 (hlk hj).2
 ·intro j o b n hj;exact h.own j o b n (hlk hj).2
theorem Sub.frzNw{id n k:Nat}{e:TypeId}{l l0:List (List DV)}(js:List Nat)(hK:∀ b,¬ ctx.K b)(hu:Unm (zT ctx) l l0)(hl:look s.objs id=some (.row e k l))(hn:l.length=n)(hjs:∀ j∈js,s.at j=some (.row id n)):Sub ctx s (s.frzNw id (zT ctx) l0 js):=
 Sub.frzNwG js (fun _ _ _ h b m hgi=>by
  have hn:=(h.own id _ b m hl hgi).2.elim (fun hh=>hh) fun hh=>(hK _ hh).elim
  exact⟨hn,.inr hn⟩) hu hl hn hjs
theorem Sub.frzCNw{id oid j n k:Nat}{e T:TypeId}{l l0:List (List DV)}{cs:List PV}(js:List Nat)(hK:∀ b,¬ ctx.K b)(hu:Unm (zT ctx) l l0)(hl:look s.objs id=some (.row e k l))(hn:l.length=n)(hjs:∀ j∈js,s.at j=some (.row id n))
  (ho:look s.objs oid=some (.cells T cs)) (hj:cs[j]?=some (.row id n)) (hne:Nat.beq oid id=false) :
  Sub ctx s { n:=s.n,sl:=(s.sets (.d (.nw (zT ctx) (.sl l0))) js).sl,objs:=yD oid (.cells T (cs.set j (.d (.nw (zT ctx) (.sl l0))))) (vB id s.objs) }:=by
 have hne':oid≠id:=fun e=>by rw[e] at hne;simp at hne
 rintro a w ⟨g,h⟩;have hlk:∀ {q:Nat} {o:Ob},look (yD oid (.cells T (cs.set j (.d (.nw (zT ctx) (.sl l0))))) (vB id s.objs)) q=some o->q≠id/\∃ o',look s.objs q=some o'/\((q=oid/\o'=.cells T cs/\o=.cells T (cs.set j (.d (.nw (zT ctx) (.sl l0)))))\/(q≠oid/\o'=o)):=fun {q o} hq=>by
  rw[zD] at hq
  by_cases e:q=oid
  ·subst e;rw[if_pos rfl] at hq;cases hq;exact⟨hne',_,ho,.inl ⟨rfl,rfl,rfl⟩⟩
  ·rw[if_neg e,yJ] at hq
   split at hq
   ·cases hq
   ·rename_i h2;exact⟨h2,_,hq,.inr ⟨e,rfl⟩⟩
 have hF:∀ b,zk ctx g s.objs b->zk ctx g (yD oid (.cells T (cs.set j (.d (.nw (zT ctx) (.sl l0))))) (vB id s.objs)) b:=fun b ⟨h1,h2⟩=>⟨h1,fun q o m hq hg=>by
  obtain⟨_,o',h3,_⟩:=hlk hq;exact h2 q o' m h3 hg⟩
 have hst:yV w w (zk ctx g s.objs):=⟨Nat.le_refl _,fun _ _ _=>rfl⟩
 have frozen:∀ u,Rd w g (zk ctx g s.objs) (.row id n) u->Rd w g (zk ctx g (yD oid (.cells T (cs.set j (.d (.nw (zT ctx) (.sl l0))))) (vB id s.objs))) (.d (.nw (zT ctx) (.sl l0))) u:=by
  intro u hr;have hob:=h.objs id _ hl
  cases hob with
  | rowNil _ _ hgn=>
   cases hr with
   | row _ _ blk cap hgi=>rw[hgn] at hgi;cases hgi
   | rowNil=>
    have:l0=[]:=by have:=hu.1;simpa using this.symm
    subst this;exact .d (.nw _ _ _ (.nil none 0 (Nat.zero_le _) (fun _=>rfl)))
  | row _ _ _ blk' cap' cur hgi hh hlc hcap hcs hkk hr'=>
   cases hr with
   | rowNil _ hgn=>rw[hgn] at hgi;cases hgi
   | row _ _ blk cap hgi'=>
    rw[hgi] at hgi'
    cases hgi'
    subst hn;have hown:=h.own id _ blk' cap' hl hgi;have hnew:zT ctx blk':=hown.2.elim (fun hh=>hh) fun hh=>(hK _ hh).elim
    have hfree:zk ctx g (yD oid (.cells T (cs.set j (.d (.nw (zT ctx) (.sl l0))))) (vB id s.objs)) blk':=⟨.inr hnew,fun q o m hq hgj=>by
     obtain⟨hne,o',hq',_⟩:=hlk hq;exact hne (h.inj q id _ _ blk' m cap' hq' hl hgj hgi)⟩
    rw[hu.1];refine .d (.nw _ _ _ (.sl l0 blk' 0 cap' k (fun i j=>cur.getD (i*k+j) undef) (hu.1▸hlc) hcap ⟨hfree,hnew⟩ hown.1 (fun _=>⟨_,_,hh⟩) ?_ ?_ ?_))
    ·intro i cs0 hi;have hi2:i < l.length:=by rw[hu.1];exact(List.getElem?_eq_some_iff.1 hi).1
     rw[<- hu.2.1 i _ cs0 (List.getElem?_eq_getElem hi2) hi];exact hkk i _ (List.getElem?_eq_getElem hi2)
    ·intro i j hi hj;have hlt:i*k+j < cur.length:=by rw[hcs];exact vl (by have:=hu.1;omega) hj
     rw[zU hh];simp[hlt]
    ·intro i cs0 j x0 hi hx;have hi2:i < l.length:=by rw[hu.1];exact(List.getElem?_eq_some_iff.1 hi).1
     have hcs1:=List.getElem?_eq_getElem hi2;have hj2:j < l[i].length:=by rw[hu.2.1 i _ cs0 hcs1 hi];exact(List.getElem?_eq_some_iff.1 hx).1
     obtain⟨u,hu',hd⟩:=hr' i _ j _ hcs1 (List.getElem?_eq_getElem hj2);have e:cur.getD (i*k+j) undef=u:=by simp[List.getD,hu']
     show DRd0 w true _ x0 (cur.getD (i*k+j) undef);rw[e];exact(hu.2.2 w _ i j _ cs0 _ x0 u hcs1 hi (List.getElem?_eq_getElem hj2) hx hd).mono fun b hb=>⟨hF b hb.1,hb.2⟩
 refine⟨g,⟨h.defers,h.size,?_,?_,?_,?_,h.os,h.tape,h.output,h.grows,h.keep⟩⟩
 ·intro i p hp;have hp':(s.sets (.d (.nw (zT ctx) (.sl l0))) js).at i=some p:=Zn (by rw[VA];exact Zu (s:={ n:=s.n,sl:=(s.sets (.d (.nw (zT ctx) (.sl l0))) js).sl,objs:=yD oid (.cells T (cs.set j (.d (.nw (zT ctx) (.sl l0))))) (vB id s.objs) }) hp) (xL (s:={ n:=s.n,sl:=(s.sets (.d (.nw (zT ctx) (.sl l0))) js).sl,objs:=yD oid (.cells T (cs.set j (.d (.nw (zT ctx) (.sl l0))))) (vB id s.objs) }) hp);rcases VB _ js s i p hp' with⟨h1,rfl⟩ | h2
  ·exact frozen _ (h.slots i _ (hjs i h1))
  ·exact(h.slots i p h2).keep hst (fun b hb _=>hF b hb) (fun _ _=>rfl)
 ·intro q o hq;obtain⟨hqi,o',hq',hcase⟩:=hlk hq;rcases hcase with⟨rfl,rfl,rfl⟩ | ⟨hqo,rfl⟩
  ·cases h.objs q _ ho with
   | cells _ _ blk n' us hgi hh hlen hr h1'=>
    refine .cells T _ blk n' us hgi hh (by simpa using hlen) (fun i p u hp hu=>?_) h1';rw[List.getElem?_set] at hp
    split at hp
    ·rename_i e
     subst e
     split at hp
     ·simp only[Option.some.injEq] at hp;subst hp;exact frozen u (hr j _ u hj hu)
     ·cases hp
    ·exact(hr i p u hp hu).keep hst (fun b hb _=>hF b hb) (fun _ _=>rfl)
  ·exact(h.objs q _ hq').keep hst (fun b hb _=>hF b hb) (fun _ _ _=>rfl) rfl (fun _ _=>rfl)
 ·intro i j oi oj b n m hi hj;obtain⟨_,_,h1,_⟩:=hlk hi;obtain⟨_,_,h2,_⟩:=hlk hj;exact h.inj i j _ _ b n m h1 h2
 ·intro q o b n hq;obtain⟨_,_,h1,_⟩:=hlk hq;exact h.own q _ b n h1
end
end Go.Ep

/- Side texts. -/
import Derived.WalkSpells
import Derived.Test.YtnejkopjonigeaaGreatAHg2
import Derived.Test.YtnejkopjonigeaaGreatAHg3
set_option linter.unusedVariables false
set_option linter.unusedSimpArgs false
namespace Go.Ep
open Go.RowKit
section
variable{ctx:Ctx}{s:PState}
theorem Sub.obj{id:Nat}{o o':Ob}(hl:look s.objs id=some o)(hob:∀ (w:World) (g:zw) (S:Nat->Prop),ObRd w g S id o->ObRd w g S id o'):Sub ctx s { s with objs:=yJ id o' s.objs }:=by
 rintro a w ⟨g,h1⟩;refine⟨g,?_⟩;have hF:∀ b,yE ctx g s.objs b->yE ctx g (yJ id o' s.objs) b:=fun b hb=>⟨hb.1,fun i o2 n ho hgi=>by
  rw[zF] at ho
  by_cases ei:i=id
  ·subst ei;exact hb.2 i _ n hl hgi
  ·rw[if_neg ei] at ho;exact hb.2 i o2 n ho hgi⟩
 have hst:xC w w (yE ctx g s.objs):=⟨Nat.le_refl _,fun _ _ _=>rfl⟩
 have hlk:∀ i o2,look (yJ id o' s.objs) i=some o2->∃ o3,look s.objs i=some o3:=fun i o2 ho=>by
  rw[zF] at ho
  by_cases ei:i=id
  ·subst ei;exact⟨_,hl⟩
  ·rw[if_neg ei] at ho;exact⟨_,ho⟩
 refine⟨h1.defers,h1.size,fun i p hp=>(h1.slots i p hp).keep hst (fun b hb _=>hF b hb) (fun _ _=>rfl),fun i o2 ho=>?_,fun i i2 o2 o3 b n m ho ho2 hgi hgi2=>?_,fun i o2 b n ho hgi=>?_,h1.os,h1.tape,h1.output,h1.grows,h1.keep⟩
 ·rw[zF] at ho
  by_cases ei:i=id
  ·subst ei;rw[if_pos rfl] at ho
   cases ho
   exact hob _ _ _ ((h1.objs i _ hl).keep hst (fun b hb _=>hF b hb) (fun _ _ _=>rfl) rfl (fun _ _=>rfl))
  ·rw[if_neg ei] at ho;exact(h1.objs i o2 ho).keep hst (fun b hb _=>hF b hb) (fun _ _ _=>rfl) rfl (fun _ _=>rfl)
 ·obtain⟨o4,e4⟩:=hlk i o2 ho;obtain⟨o5,e5⟩:=hlk i2 o3 ho2;exact h1.inj i i2 o4 o5 b n m e4 e5 hgi hgi2
 ·obtain⟨o4,e4⟩:=hlk i o2 ho;exact h1.own i o4 b n e4 hgi
theorem Sub.ownMap{id j id' ck:Nat}{ks:List IntKind}{ag:Bool}{T:TypeId}{cs:List PV}(hl:look s.objs id=some (.cells T cs))(hj:cs[j]?=some (.d (.v (.map none))))(hf:s.fresh id'=true)(hne:Nat.beq id id'=false) :
  Sub ctx s { s with objs:=yJ id (.cells T (cs.set j (.mp id'))) (yJ id' (.mapN true ks ag [] [] ck) s.objs) }:=by
 rintro a w ⟨g,hg⟩;have hne':id≠id':=fun h=>by rw[h,Nat.beq_refl] at hne;cases hne
 have h1:=hg.new (Below.refl _ w) hf none (fun b n e=>by cases e) (.mapN true ks ag [] [] ck) (.mapNil ks ag ck (zZ _ _ _));have hl1:look (yJ id' (.mapN true ks ag [] [] ck) s.objs) id=some (.cells T cs):=by rw[zF,if_neg hne'];exact hl
 refine⟨upd g id' none,?_⟩;have hF:∀ b,yE ctx (upd g id' none) (yJ id' (.mapN true ks ag [] [] ck) s.objs) b->yE ctx (upd g id' none) (yJ id (.cells T (cs.set j (.mp id'))) (yJ id' (.mapN true ks ag [] [] ck) s.objs)) b:=fun b hb=>⟨hb.1,fun i o n ho hgi=>by
  rw[zF] at ho
  by_cases ei:i=id
  ·subst ei;exact hb.2 i _ n hl1 hgi
  ·rw[if_neg ei] at ho;exact hb.2 i o n ho hgi⟩
 have hst:xC w w (yE ctx (upd g id' none) (yJ id' (.mapN true ks ag [] [] ck) s.objs)):=⟨Nat.le_refl _,fun _ _ _=>rfl⟩
 refine⟨h1.defers,h1.size,fun i p hp=>(h1.slots i p hp).keep hst (fun b hb _=>hF b hb) (fun _ _=>rfl),fun i o ho=>?_,fun i i2 o o2 b n m ho ho2 hgi hgi2=>?_,fun i o b n ho hgi=>?_,h1.os,h1.tape,h1.output,h1.grows,h1.keep⟩
 ·rw[zF] at ho
  by_cases ei:i=id
  ·subst ei;rw[if_pos rfl] at ho
   cases ho
   cases (h1.objs i _ hl1).keep hst (fun b hb _=>hF b hb) (fun _ _ _=>rfl) rfl (fun _ _=>rfl) with
   | cells _ _ blk n us hgi hh hlen hr h1'=>
    refine .cells T _ blk n us hgi hh (by simpa using hlen) (fun q p u hp hu=>?_) h1'
    by_cases ej:q=j
    ·subst ej;have hlt:q < cs.length:=(List.getElem?_eq_some_iff.1 hj).1;rw[List.getElem?_set_self hlt] at hp
     cases hp
     have:=(hr q _ u hj hu).of_v;subst this;exact .mpNil id' (zZ _ _ _)
    ·rw[List.getElem?_set_ne (Ne.symm ej)] at hp;exact hr q p u hp hu
  ·rw[if_neg ei] at ho;exact(h1.objs i o ho).keep hst (fun b hb _=>hF b hb) (fun _ _ _=>rfl) rfl (fun _ _=>rfl)
 ·rw[zF] at ho ho2;have key:∀ q o,(if q=id then some (Ob.cells T (cs.set j (.mp id'))) else look (yJ id' (.mapN true ks ag [] [] ck) s.objs) q)=some o->∃ o',look (yJ id' (.mapN true ks ag [] [] ck) s.objs) q=some o':=fun q o hq=>by
   by_cases eq:q=id
   ·subst eq;exact⟨_,hl1⟩
   ·rw[if_neg eq] at hq;exact⟨o,hq⟩
  obtain⟨p1,q1⟩:=key i o ho;obtain⟨p2,q2⟩:=key i2 o2 ho2;exact h1.inj i i2 p1 p2 b n m q1 q2 hgi hgi2
 ·rw[zF] at ho
  by_cases ei:i=id
  ·subst ei;exact h1.own i _ b n hl1 hgi
  ·rw[if_neg ei] at ho;exact h1.own i o b n ho hgi
theorem Sub.mapF{id:Nat}{nl:Bool}{ks:List IntKind}{ag:Bool}{m:List (List Int×List DV)}{bs:List Nat}{ck:Nat}(hl:look s.objs id=some (.mapN nl ks ag m bs ck))(hn:nl=false):Sub ctx s { s with objs:=yJ id (.map ks ag m bs ck) s.objs }:=
 Sub.obj hl fun w g S h=>by
  subst hn
  cases h with
  | mapN _ _ _ _ _ blk n es h hh hm=>exact .map _ _ _ _ _ blk n es h hh hm
theorem Sub.mapToN{id:Nat}{ks:List IntKind}{ag:Bool}{m:List (List Int×List DV)}{bs:List Nat}{ck:Nat}(hl:look s.objs id=some (.map ks ag m bs ck)):Sub ctx s { s with objs:=yJ id (.mapN false ks ag m bs ck) s.objs }:=
 Sub.obj hl fun w g S h=>by
  cases h with
  | map _ _ _ _ _ blk n es h hh hm=>exact .mapN _ _ _ _ _ blk n es h hh hm
end
section
variable{P:Program}{ctx:Ctx}{Q:PQ}{s:PState}
variable{dst:Option Tmp}{ty:TypeId}{pos:String}{after:Array Edge}{gd:Option (Nat×Bool)}
variable{id:Nat}{nl:Bool}{ks:List IntKind}{ag:Bool}{m:List (List Int×List DV)}{bs:List Nat}{ck:Nat}
theorem YFa{x:Operand}(hx:s.ev x=some (.mp id))(hl:look s.objs id=some (.mapN nl ks ag m bs ck)){a:Act}{w:World}{g:zw}(hg:RelG ctx g s a w):∃ r,a.eval x=.map r/\r.isNone=nl:=by
 have h:=hg.ev hx
 generalize a.eval x=v at h
 cases h with
 | mpNil _ hgn=>
  cases hg.objs id _ hl with
  | mapNil=>exact⟨none,rfl,rfl⟩
  | mapN _ _ _ _ _ blk' n' es h' hh hm=>rw[hgn] at h';cases h'
 | mp _ blk n hgi=>
  cases hg.objs id _ hl with
  | mapNil _ _ _ h'=>rw[hgi] at h';cases h'
  | mapN _ _ _ _ _ blk' n' es h' hh hm=>exact⟨some blk,rfl,rfl⟩
theorem LR.eqlMapN{x:Operand}{t t' kt et:TypeId}(hu:P.underlying t=some (.map kt et))(hx:s.ev x=some (.mp id))(hl:look s.objs id=some (.mapN nl ks ag m bs ck)) :
  Local P ctx ⟨dst,.binOp .eql t x (.const (.map none)) t',ty,pos,after,gd⟩ s (s.putD dst (.d (.v (.bool nl)))):=
 zN (o:=⟨dst,.binOp .eql t x (.const (.map none)) t',ty,pos,after,gd⟩) fun a w g hg=>by
  obtain⟨r,hr,hn⟩:=YFa hx hl hg;have hc:a.eval (.const (.map none))=.map none:=rfl;exact⟨.bool nl,by simp only[execOp,hr,hc,eqGuard_at_map,Sem.run_bind,Sem.run_pure,Result.andThen_ok,run_eql_map_nil w t kt et r hu,hn],.d (.v _ rfl)⟩
section
variable{x kx:Operand}{t kt et:TypeId}{ns:List Int}{z:Value}{zs:List DV}{p:PV}
 (hu:P.underlying t=some (.map kt et)) (K:KeyOK P kt ks) (hz:∀ w,(zeroValue et).run P w=.ok z w) (hzr:∀ (w:World) (g:zw) (S:Nat->Prop),Rd w g S (elP ag zs) z) (hk:s.ev kx=some (u8a ks ns)) (hn:ns.length=ks.length) (hp:elP ag ((zEa m ns).getD zs)=p)
 (hx:s.ev x=some (.mp id)) (hl:look s.objs id=some (.mapN nl ks ag m bs ck))
include hu K hz hzr hk hn hp hx hl
theorem LR.lookupOkN : Local P ctx ⟨dst,.lookup t x kx true,ty,pos,after,gd⟩ s (s.putD dst (.tup [p,.d (.v (.bool (zEa m ns).isSome))])):=
 zN (o:=⟨dst,.lookup t x kx true,ty,pos,after,gd⟩) fun a w g hg=>by
  have h:=hg.ev hx
  generalize hv:a.eval x=v at h
  have fin:∀ v,Rd w g (yE ctx g s.objs) p v->Rd w g (yE ctx g s.objs) (.tup [p,.d (.v (.bool (zEa m ns).isSome))]) (.tuple [v,.bool (zEa m ns).isSome].toArray):=fun v h2=>.tup _ [v,.bool (zEa m ns).isSome] rfl (fun i q u hq hu=>by
   match i with
   | 0=>simp at hq hu;subst hq;subst hu;exact h2
   | 1=>simp at hq hu;subst hq;subst hu;exact .d (.v _ rfl)
   | _+2=>simp at hq)
  cases h with
  | mpNil _ hgn=>
   cases hg.objs id _ hl with
   | mapN _ _ _ _ _ blk' n' es h' hh hm=>rw[hgn] at h';cases h'
   | mapNil=>
    refine⟨_,?_,fin z (hp▸hzr w g _)⟩;simp only[execOp,hv,WM (hg.ev hk),Sem.run_bind,zIa (w:=w) hu K hn hz true,Result.andThen_ok,Sem.run_pure]
    rfl
  | mp _ blk n hgi=>
   cases hg.objs id _ hl with
   | mapNil _ _ _ h'=>rw[hgi] at h';cases h'
   | mapN _ _ _ _ _ blk' n' es h' hh hm=>
    rw[hgi] at h';cases h';obtain⟨v,h1,h2⟩:=zXa (g:=g) hu K hn hh hm hz (hzr w g _) true;refine⟨_,?_,fin v (hp▸h2)⟩;simp only[execOp,hv,WM (hg.ev hk),Sem.run_bind,h1,Result.andThen_ok,Sem.run_pure]
    rfl
end
theorem LR.idxCells{x ix:Operand}{id m:Nat}{ki:IntKind}{i:Int}{n:Nat}{t e:TypeId}(hu:P.underlying t=some (.slice e))(hs:∀ w,(sizeOf e).run P w=.ok 1 w)
  (hx:s.ev x=some (.row id m)) (hix:s.ev ix=some (.d (.v (.int ki i)))) (hi:i=n) (hn:n < m) :
  Local P ctx ⟨dst,.indexAddr t x ix,ty,pos,after,gd⟩ s (s.putD dst (.ref id n)):=
 zN (o:=⟨dst,.indexAddr t x ix,ty,pos,after,gd⟩) fun a w g hg=>by
  have h:=hg.ev hx
  generalize hv:a.eval x=v at h
  cases h with
  | row _ _ blk cap h=>
   refine⟨.pointer (some ⟨blk,n,none⟩),?_,.ref id n blk cap h⟩;simp[execOp,hv,wP hg hix,XY hu hs blk 0 m cap ki i n hi hn,Result.andThen]
  | rowNil=>omega
theorem fresh_ev{id:Nat}{x:Operand}{p:PV}(hf:s.fresh id=true)(hx:s.ev x=some p):p.has id=false:=by
 unfold PState.ev at hx
 split at hx
 ·exact zTa hf hx
 ·cases hx
 ·cases hx
 ·cases hx;rfl
 ·cases hx;rfl
 ·cases hx
theorem v2a : ∀ us:List Value,(us.map fun u=>[u]).flatten=us
 | []=>rfl
 | u::r=>by rw[List.map_cons,List.flatten_cons,v2a r];rfl
theorem LR.buildSliceQ{q:PV}{id n bs:Nat}{t e:TypeId}{parts:Array (Nat×Operand)}(xs:List Operand){ps:List PV}(hE:ElemOK P t e 1 bs)(hparts:parts=(zva 0 xs).toArray)(hn:n=xs.length)(hps:s.evs xs=some ps)(hc:ps.all PV.isCell=true)(hsmall:n<=16777216)(hf:s.fresh id=true)(hq:∀ (w:World) (g:zw) (S:Nat->Prop) (blk:Nat),g id=some (blk,n)->Rd w g S q (.slice (some ⟨blk,0,none⟩) n n)) :
  Local P ctx ⟨some id,.buildSlice t n parts,ty,pos,after,gd⟩ s (s.newO id (.cells e ps) q):=
 yT (o:=⟨some id,.buildSlice t n parts,ty,pos,after,gd⟩) fun a w g hg=>by
  subst hparts;subst hn;obtain⟨hl,hrd⟩:=evs_rd hps hg;rw[List.all_eq_true] at hc;have hone:∀ u∈xs.map a.eval,u.oneCell'=true:=fun u hu=>by
   obtain⟨j,hj⟩:=List.getElem?_of_mem hu;obtain⟨p,hp⟩:∃ p,ps[j]?=some p:=⟨_,List.getElem?_eq_getElem (by rw[hl];exact(List.getElem?_eq_some_iff.1 hj).1)⟩
   exact(hrd j p u hp hj).one (hc p (List.mem_of_getElem? hp))
  obtain⟨hrun,hfl,huk⟩:=Vt (P:=P) (a:=a) (xs:=xs) (us:=(xs.map a.eval).map fun u=>[u]) hE (by simp) (fun i x u hx hu=>by
   simp[hx] at hu;subst hu;have:=hone (a.eval x) (List.mem_map.2 ⟨x,List.mem_of_getElem? hx,rfl⟩);refine⟨?_,rfl⟩
   cases hv:a.eval x <;> simp_all [Value.cells,Value.oneCell']) (by omega) w
  rw[v2a] at hrun;have hb:=Below.alloc1 w (.cells (xs.map a.eval).toArray e);have hnew:=hg.new hb hf (some (w.heap.size,xs.length)) (fun b n e=>by cases e;simp) (.cells e ps) (.cells e ps w.heap.size xs.length (xs.map a.eval) (zZ _ _ _) (heap_alloc_new w _) hl (fun i p u hp hu=>by
   refine(hrd i p u hp hu).keep ⟨hb.size,fun b _ hlt=>hb.block b hlt⟩ (fun b ⟨h1,h2⟩ hlt=>⟨h1,fun j o n ho hgj=>?_⟩) (fun j hj=>yw fun e2=>?_)
   ·subst e2;have hx:∃ x,s.ev x=some p:=by
     obtain⟨x,hx⟩:∃ x,xs[i]?=some x:=⟨_,List.getElem?_eq_getElem (by have:=(List.getElem?_eq_some_iff.1 hp).1;rw[hl,List.length_map] at this;exact this)⟩
     exact⟨x,zua hps hp hx⟩
    obtain⟨x,hx⟩:=hx;rw[fresh_ev hf hx] at hj;cases hj
   ·rw[zF] at ho
    by_cases ej:j=id
    ·subst ej;rw[zZ] at hgj;cases hgj;omega
    ·rw[if_neg ej] at ho;rw[yw ej] at hgj;exact h2 j o n ho hgj) hone)
  exact⟨_,_,by simp only[execOp,Sem.run_bind,hrun,Result.andThen_ok,Sem.run_pure],_,hnew.put (some id) (hq _ _ _ _ (zZ _ _ _))⟩
theorem LR.buildSliceP{id n bs:Nat}{t e:TypeId}{parts:Array (Nat×Operand)}(xs:List Operand){ps:List PV}(hE:ElemOK P t e 1 bs)(hparts:parts=(zva 0 xs).toArray)(hn:n=xs.length)(hps:s.evs xs=some ps)(hc:ps.all PV.isCell=true)(hsmall:n<=16777216)(hf:s.fresh id=true) :
  Local P ctx ⟨some id,.buildSlice t n parts,ty,pos,after,gd⟩ s (s.newO id (.cells e ps) (.row id n)):=LR.buildSliceQ xs hE hparts hn hps hc hsmall hf (fun _ _ _ blk h=>.row _ _ blk n h)
def PWL(P:Program)(ctx:Ctx)(c:Code)(Q:PQ)(s:PState):Prop:=∀ a w,Rel ctx s a w->LoopAt P c (lift ctx Q) a w
theorem PWc.loopU{c:Code}(h:PWL P ctx c Q s):PWc P ctx (.loop c) Q s:=fun a w hr=>LoopAt.loop (h a w hr)
theorem PWL.step{c:Code}(h:PWc P ctx c (Then (PWL P ctx c Q) Q) s):PWL P ctx c Q s:=fun a w hr=>by
 refine LoopAt.step (wp_mono (h a w hr) fun e a' w' ⟨t,h1,h2⟩=>?_)
 cases e with
 | normal=>exact h1 a' w' h2
 | _=>exact⟨t,h1,h2⟩
theorem PWL.sub{c:Code}{t:PState}(hs:Sub ctx s t)(h:PWL P ctx c Q t):PWL P ctx c Q s:=fun a w hr=>h a w (hs a w hr)
theorem LR.rangeN{id mid:Nat}{x:Operand}{t kt et:TypeId}(hu:P.underlying t=some (.map kt et))(hx:s.ev x=some (.mp mid))(hl:look s.objs mid=some (.mapN nl ks ag m bs ck))(hf:s.fresh id=true) :
  Local P ctx ⟨some id,.range t x,ty,pos,after,gd⟩ s (s.newO id (.iterO mid bs ck []) (.ref id 0)):=
 yT (o:=⟨some id,.range t x,ty,pos,after,gd⟩) fun a w g hg=>by
  have h:=hg.ev hx;have hne:mid≠id:=fun e=>by subst e;rw[u5a hf] at hl;cases hl
  generalize hv:a.eval x=v at h
  cases h with
  | mpNil _ hgn=>
   cases hg.objs mid _ hl with
   | mapN _ _ _ _ _ blk' n' es h' hh hm=>rw[hgn] at h';cases h'
   | mapNil=>
    refine⟨_,_,?_,Je (o:=⟨some id,.range t x,ty,pos,after,gd⟩) rfl hf hg (it:=.mapIter none 0 #[] 0) fun w' g' S' _ _ h1 h2 h3=>.iterON mid ck w.heap.size 0 h2 h3 (by rw[h1 mid hne];exact hgn)⟩;simp[execOp,hv,Instr.range,run_underlying hu,Result.andThen]
  | mp _ blk n hgi=>
   cases hg.objs mid _ hl with
   | mapNil _ _ _ h'=>rw[hgi] at h';cases h'
   | mapN _ _ _ _ _ blk' n' es h' hh hm=>
    rw[hgi] at h';cases h';refine⟨_,_,?_,Je (o:=⟨some id,.range t x,ty,pos,after,gd⟩) rfl hf hg (it:=.mapIter (some blk) ck #[] ck) fun w' g' S' _ _ h1 h2 h3=>.iterO mid bs ck [] w.heap.size 0 blk n h2 h3 (by rw[h1 mid hne];exact hgi)⟩;simp[execOp,hv,Instr.range,run_underlying hu,MapKept.run_getObj_map hh,Result.andThen]
section
variable{ops:Array Oper}{rest:List Oper}{it:Operand}{L:List Nat}{mid:Nat}
theorem PWl.nextN(hx:s.ev it=some (.ref id 0))(hl:look s.objs id=some (.iterO mid bs ck L))(hlm:look s.objs mid=some (.mapN nl ks ag m bs ck))(hL:∀ i∈L,i < m.length)(hgd:gd=none)
  (hdone:(∀ i,i < m.length->i∈L)->PWl P ctx ops Q rest (s.putD dst (.tup [.d (.v (.bool false))])))
  (hstep:∀ i,i < m.length->i∉L->PWl P ctx ops Q rest ((s.setO id (.iterO mid bs ck (L++[i]))).putD dst (.tup [.d (.v (.bool true)),.junk,.junk]))) :
  PWl P ctx ops Q (⟨dst,.next it false,ty,pos,after,gd⟩::rest) s:=by
 have hne:mid≠id:=fun e=>by subst e;rw[hl] at hlm;cases hlm
 cases nl with
 | false=>
  have hb:∀ (t:PState) (t':PState),t.n=t'.n->t.sl=t'.sl->look t.objs mid=some (.map ks ag m bs ck)->look t'.objs mid=some (.mapN false ks ag m bs ck)->(∀ j,j≠mid->look t.objs j=look t'.objs j)->Sub ctx t t':=fun t t' h1 h2 h3 h4 h5=>by
   intro a w hr;have:=Sub.mapToN h3 a w hr;refine Sub.drop (s:={ t with objs:=yJ mid (.mapN false ks ag m bs ck) t.objs }) (t:=t') h1 (fun i p hp=>?_) (fun j o ho=>?_) a w this
   ·unfold PState.at at hp ⊢;rw[h1,h2];exact hp
   ·show look (yJ mid _ t.objs) j=some o;rw[zF]
    by_cases e:j=mid
    ·subst e;rw[if_pos rfl,<- h4];exact ho
    ·rw[if_neg e,h5 j e];exact ho
  refine PWl.sub (Sub.mapF hlm rfl) (PWl.nextO (mid:=mid) hx (by show look (yJ mid _ s.objs) id=_;rw[zF,if_neg (Ne.symm hne)];exact hl) (by show look (yJ mid _ s.objs) mid=_;rw[zF,if_pos rfl]) hL hgd (fun hd=>PWl.sub (hb _ _ ?_ ?_ ?_ ?_ ?_) (hdone hd)) (fun i hi hn=>PWl.sub (hb _ _ ?_ ?_ ?_ ?_ ?_) (hstep i hi hn)))
  ·cases dst <;> rfl
  ·cases dst <;> rfl
  ·cases dst <;> (show look (yJ mid _ s.objs) mid=_;rw[zF,if_pos rfl])
  ·cases dst <;> exact hlm
  ·intro j hj;cases dst <;> (show look (yJ mid _ s.objs) j=_;rw[zF,if_neg hj];rfl)
  ·cases dst <;> rfl
  ·cases dst <;> rfl
  ·cases dst <;> (show look (yJ id _ (yJ mid _ s.objs)) mid=_;rw[zF,if_neg hne,zF,if_pos rfl])
  ·cases dst <;> (show look (yJ id _ s.objs) mid=_;rw[zF,if_neg hne];exact hlm)
  ·intro j hj;cases dst <;> (show look (yJ id _ (yJ mid _ s.objs)) j=look (yJ id _ s.objs) j;rw[zF,zF,zF,if_neg hj])
 | true=>
  rintro a w ⟨g,hg⟩;have hr:=hg.ev hx
  generalize hv:a.eval it=v at hr
  refine wpList_plain hgd fun K hK=>?_
  cases hr with
  | ref _ _ blk n hgi=>
   cases hg.objs mid _ hlm with
   | mapNil _ _ _ hgm=>
    cases hg.objs id _ hl with
    | iterO _ _ _ _ blk' n' b n2 h' hh hgm2=>rw[hgm] at hgm2;cases hgm2
    | iterON _ _ blk' n' h' hh _=>
     rw[hgi] at h';cases h';have hrun:(execOp a.eval ⟨dst,.next it false,ty,pos,after,gd⟩).run P w=.ok (.value (.tuple #[.bool false])) w:=by
      have hgr:(getObj blk).run P w=.ok (.mapIter none 0 #[] 0) w:=by simp[getObj,Sem.run,hh]
      simp only[execOp,hv,Instr.next,Sem.run_bind,hgr,Result.andThen_ok,Sem.run_pure]
     unfold Oper.wp;rw[hrun];exact hK _ _ (hdone (by simp) _ _ ⟨g,hg.put dst (.tup [.d (.v (.bool false))] [.bool false] rfl (fun i p u hp hu=>by
      cases i with
      | zero=>simp at hp hu;subst hp;subst hu;exact .d (.v _ rfl)
      | succ i=>simp at hp))⟩)
theorem LR.entryN{i:Nat}{ns:List Int}{cs:List DV}{kp p:PV}(hx:s.ev it=some (.ref id 0))(hl:look s.objs id=some (.iterO mid bs ck (L++[i])))(hlm:look s.objs mid=some (.mapN nl ks ag m bs ck))(hi:m[i]?=some (ns,cs))(hkp:u8a ks ns=kp)(hp:elP ag cs=p) :
  Local P ctx ⟨dst,.entry it,ty,pos,after,gd⟩ s (s.putD dst (.tup [kp,p])):=by
 have hne:mid≠id:=fun e=>by subst e;rw[hl] at hlm;cases hlm
 cases nl with
 | true=>
  refine zN (o:=⟨dst,.entry it,ty,pos,after,gd⟩) fun a w g hg=>?_
  cases hg.objs mid _ hlm with
  | mapNil=>simp at hi
 | false=>
  refine zN (o:=⟨dst,.entry it,ty,pos,after,gd⟩) fun a w g hg=>?_
  have hr:=hg.ev hx
  generalize hv:a.eval it=v at hr
  cases hr with
  | ref _ _ blk n hgi=>
   have hob:=hg.objs id _ hl
   generalize hLL:L++[i]=LL at hob
   cases hob with
   | iterON=>simp at hLL
   | iterO _ _ _ _ blk' n' b n2 h' hh hgm=>
    subst hLL;rw[hgi] at h';cases h'
    cases hg.objs mid _ hlm with
    | mapN _ _ _ _ _ bm nm es hgm2 hb2 hm=>
     rw[hgm] at hgm2;cases hgm2;obtain⟨e,us,g1,g2,g3,g4,g5,g6,g7,g8⟩:=hm.ent i ns cs hi;have:=xEa (P:=P) hh hb2 hm.stamps hm.nodup g1;refine⟨.tuple [e.key,e.val].toArray,by simp only[execOp,hv,Sem.run_bind,this,Result.andThen_ok,Sem.run_pure],.tup _ [e.key,e.val] rfl (fun j p' u hp' hu=>?_)⟩;subst hkp;subst hp
     match j with
     | 0=>simp at hp' hu;subst hp';subst hu;rw[g2];exact Z3a w g _ ks ns
     | 1=>simp at hp' hu;subst hp';subst hu;rw[g3];exact Z2a g4 g5 g6 g8
     | _+2=>simp at hp'
end
end
section
variable{P:Program}{ctx:Ctx}{Q:PQ}{s:PState}
variable{dst:Option Tmp}{ty:TypeId}{pos:String}{after:Array Edge}{gd:Option (Nat×Bool)}
variable{κ ν:Type}[DecidableEq κ]{eK:κ->List Int}{eV:ν->List DV}{m:List (κ×ν)}{q:κ}{zv:ν}(inj:∀ a b,eK a=eK b->a=b)
variable{x kx:Operand}{t kt et:TypeId}{ks:List IntKind}{ag:Bool}{z:Value}{p kp:PV}{id:Nat}{nl:Bool}{bs:List Nat}{ck:Nat}
section
variable(hu:P.underlying t=some (.map kt et))(K:KeyOK P kt ks)(hz:∀ w,(zeroValue et).run P w=.ok z w)(hzr:∀ (w:World) (g:zw) (S:Nat->Prop),Rd w g S (elP ag (eV zv)) z)(hk:s.ev kx=some kp)(hkp:kp=u8a ks (eK q))(hn:(eK q).length=ks.length)(hp:elP ag (eV (AL.getZ m q zv))=p)
include inj hu K hz hzr hk hkp hn hp
theorem LR.getOkN(hx:s.ev x=some (.mp id))(hl:look s.objs id=some (.mapN nl ks ag (yI eK eV m) bs ck)):Local P ctx ⟨dst,.lookup t x kx true,ty,pos,after,gd⟩ s (s.putD dst (.tup [p,.d (.v (.bool (AL.has m q)))])):=by
 have:=LR.lookupOkN (P:=P) (ctx:=ctx) (dst:=dst) (ty:=ty) (pos:=pos) (after:=after) (gd:=gd) (p:=p) hu K hz hzr (by rw[hk,hkp]) hn (by rw[qj inj,vxa];exact hp) hx hl;rw[qj inj,Option.isSome_map] at this;exact this
end
end
section
variable{ctx:Ctx}{s:PState}
theorem Sub.moveMap{id1 id2 j:Nat}{ks:List IntKind}{ag:Bool}{m m1:List (List Int×List DV)}{bs bs1:List Nat}{ck ck1:Nat}(hj:s.at j=some (.mp id2))(h1:look s.objs id1=some (.mapN true ks ag m1 bs1 ck1))(h2:look s.objs id2=some (.map ks ag m bs ck))(ha:s.alone id1=true) :
  Sub ctx s { n:=s.n,sl:=(j,.mp id1)::s.sl,objs:=yJ id1 (.map ks ag m bs ck) (uu id2 s.objs) }:=by
 rintro a w ⟨g,h⟩;have hlk:∀ {i:Nat} {o:Ob},look (yJ id1 (.map ks ag m bs ck) (uu id2 s.objs)) i=some o->(i=id1/\o=.map ks ag m bs ck)\/(i≠id1/\i≠id2/\look s.objs i=some o):=fun {i o} hi=>by
  rw[zF] at hi
  by_cases e:i=id1
  ·rw[if_pos e] at hi;cases hi;exact .inl ⟨e,rfl⟩
  ·rw[if_neg e,yp] at hi
   split at hi
   ·cases hi
   ·rename_i e2;exact .inr ⟨e,e2,hi⟩
 have hg1:g id1=none:=by
  cases h.objs id1 _ h1 with
  | mapNil _ _ _ hn=>exact hn
 have hF:∀ b,yE ctx g s.objs b->yE ctx (upd g id1 (g id2)) (yJ id1 (.map ks ag m bs ck) (uu id2 s.objs)) b:=fun b ⟨f1,f2⟩=>⟨f1,fun i o n hi hgi=>by
  rcases hlk hi with⟨e,_⟩ | ⟨e1,e2,e3⟩
  ·subst e;rw[zZ] at hgi;exact f2 id2 _ n h2 hgi
  ·rw[yw e1] at hgi;exact f2 i o n e3 hgi⟩
 have hst:xC w w (yE ctx g s.objs):=⟨Nat.le_refl _,fun _ _ _=>rfl⟩
 refine⟨upd g id1 (g id2),⟨h.defers,h.size,?_,?_,?_,?_,h.os,h.tape,h.output,h.grows,h.keep⟩⟩
 ·intro i p hp;have hlt:=UW hp;have hp2:=uH hp;simp only[yo] at hp2
  by_cases e:j=i
  ·subst e;rw[if_pos rfl] at hp2
   cases hp2
   have hr:=h.slots j _ hj
   generalize hv:a.tmps.getD j undef=v at hr
   cases hr with
   | mpNil _ hgn=>
    cases h.objs id2 _ h2 with
    | map _ _ _ _ _ blk' n' es h' hh hm=>rw[hgn] at h';cases h'
   | mp _ blk n hgi=>exact .mp id1 blk n (by rw[zZ];exact hgi)
  ·rw[if_neg e] at hp2;have hs:s.at i=some p:=jY hlt hp2;exact(h.slots i p hs).keep hst (fun b hb _=>hF b hb) (fun k hk=>yw fun e2=>by subst e2;rw[jZ ha hs] at hk;cases hk)
 ·intro i o hi;rcases hlk hi with⟨e,e2⟩ | ⟨e1,e2,e3⟩
  ·subst e;subst e2
   cases h.objs id2 _ h2 with
   | map _ _ _ _ _ blk n es hgi hh hm=>exact .map ks ag m bs ck blk n es (by rw[zZ];exact hgi) hh (hm.keep hst (fun b hb _=>hF b hb))
  ·exact(h.objs i o e3).keep hst (fun b hb _=>hF b hb) (fun _ _ _=>rfl) (yw e1) (fun k hk=>yw fun e4=>by subst e4;rw[y7a ha e3] at hk;cases hk)
 ·intro i i2 o o2 b n n2 hi hi2 hgi hgi2;rcases hlk hi with⟨e,_⟩ | ⟨e1,e2,e3⟩ <;> rcases hlk hi2 with⟨f,_⟩ | ⟨f1,f2,f3⟩
  ·exact e.trans f.symm
  ·subst e;rw[zZ] at hgi;rw[yw f1] at hgi2;exact absurd (h.inj id2 i2 _ o2 b n n2 h2 f3 hgi hgi2).symm f2
  ·subst f;rw[zZ] at hgi2;rw[yw e1] at hgi;exact absurd (h.inj i id2 o _ b n n2 e3 h2 hgi hgi2) e2
  ·rw[yw e1] at hgi;rw[yw f1] at hgi2;exact h.inj i i2 o o2 b n n2 e3 f3 hgi hgi2
 ·intro i o b n hi hgi;rcases hlk hi with⟨e,_⟩ | ⟨e1,e2,e3⟩
  ·subst e;rw[zZ] at hgi;exact h.own id2 _ b n h2 hgi
  ·rw[yw e1] at hgi;exact h.own i o b n e3 hgi
end
end Go.Ep
namespace Go.Ep
open Go.RowKit
def Yr(m:List (List Int×Value)):Mp:=m.map fun x=>(x.1,[])
theorem xNa{m:List (List Int×Value)}{i:Nat}{ns:List Int}{c:List DV}(h:(Yr m)[i]?=some (ns,c)):∃ p,m[i]?=some (ns,p):=by
 unfold Yr at h;rw[List.getElem?_map] at h
 cases hm:m[i]? with
 | none=>rw[hm] at h;cases h
 | some x=>rw[hm] at h;simp only[Option.map_some,Option.some.injEq,Prod.mk.injEq] at h;exact⟨x.2,by rw[<- h.1]⟩
section
variable{P:Program}{ctx:Ctx}{Q:PQ}{s:PState}
variable{dst:Option Tmp}{ty:TypeId}{pos:String}{after:Array Edge}{gd:Option (Nat×Bool)}
theorem RelG.reread{g:zw}{a:Act}{w:World}(h1:RelG ctx g s a w){id:Nat}{o0 ob:Ob}(hl:look s.objs id=some o0){objs':List (Nat×Ob)}(ho':∀ i,look objs' i=if i=id then some ob else look s.objs i)
  (hr:∀ S,ObRd w g S id o0->ObRd w g S id ob):RelG ctx g { s with objs:=objs' } a w:=by
 have hF:∀ b,yE ctx g s.objs b->yE ctx g objs' b:=fun b hb=>⟨hb.1,fun i o n ho hgi=>by
  rw[ho'] at ho
  by_cases ei:i=id
  ·subst ei;exact hb.2 i _ n hl hgi
  ·rw[if_neg ei] at ho;exact hb.2 i o n ho hgi⟩
 have hst:xC w w (yE ctx g s.objs):=⟨Nat.le_refl _,fun _ _ _=>rfl⟩
 refine⟨h1.defers,h1.size,fun i p hp=>(h1.slots i p hp).keep hst (fun b hb _=>hF b hb) (fun _ _=>rfl),fun i o ho=>?_,fun i i2 o o2 b n m ho ho2 hgi hgi2=>?_,fun i o b n ho hgi=>?_,h1.os,h1.tape,h1.output,h1.grows,h1.keep⟩
 ·simp only[ho'] at ho
  by_cases ei:i=id
  ·subst ei;rw[if_pos rfl] at ho
   cases ho
   exact hr _ ((h1.objs i _ hl).keep hst (fun b hb _=>hF b hb) (fun _ _ _=>rfl) rfl (fun _ _=>rfl))
  ·rw[if_neg ei] at ho;exact(h1.objs i o ho).keep hst (fun b hb _=>hF b hb) (fun _ _ _=>rfl) rfl (fun _ _=>rfl)
 ·simp only[ho'] at ho ho2;have key:∀ q o,(if q=id then some ob else look s.objs q)=some o->∃ o',look s.objs q=some o':=fun q o hq=>by
   by_cases eq:q=id
   ·subst eq;exact⟨_,hl⟩
   ·rw[if_neg eq] at hq;exact⟨o,hq⟩
  obtain⟨p1,q1⟩:=key i o ho;obtain⟨p2,q2⟩:=key i2 o2 ho2;exact h1.inj i i2 p1 p2 b n m q1 q2 hgi hgi2
 ·simp only[ho'] at ho
  by_cases ei:i=id
  ·subst ei;exact h1.own i _ b n hl hgi
  ·rw[if_neg ei] at ho;exact h1.own i o b n ho hgi
theorem uZ(id:Nat)(ob:Ob)(l:List (Nat×Ob))(i:Nat):look (yJ id ob (uu id l)) i=if i=id then some ob else look l i:=by
 rw[zF,yp]
 by_cases h:i=id <;> simp[h]
theorem Uj{id:Nat}:∀ {l:List (Nat×Ob)} {x:Nat×Ob},x∈uu id l->x.1≠id/\x∈l
 | [],x,h=>by simp[uu] at h
 | (k,p)::r,x,h=>by
  unfold uu at h
  by_cases e:id=k
  ·rw[if_pos e] at h;have:=Uj h;exact⟨this.1,List.mem_cons_of_mem _ this.2⟩
  ·rw[if_neg e] at h;rcases List.mem_cons.1 h with h | h
   ·subst h;exact⟨Ne.symm e,List.mem_cons_self⟩
   ·have:=Uj h;exact⟨this.1,List.mem_cons_of_mem _ this.2⟩
theorem ObRd.junkP{w:World}{g:zw}{S:Nat->Prop}{id:Nat}{ks:List IntKind}{m:List (List Int×Value)}{j:Nat}{p:PV}{bs:List Nat}{ck:Nat}(h:ObRd w g S id (.mapP ks m (some (j,p)) bs ck)):ObRd w g S id (.mapP ks m (some (j,.junk)) bs ck):=by
 cases h with
 | mapP _ _ _ _ _ blk n es h hh hsz hst hbl hnd hent hov=>
  refine .mapP ks m _ bs ck blk n es h hh hsz hst hbl hnd (fun i ns u hi=>?_) fun j' p' hj=>?_
  ·obtain⟨e,h1,h2,h3,h4,h5⟩:=hent i ns u hi;refine⟨e,h1,h2,h3,h4,fun hne=>h5 fun q hq=>?_⟩
   cases hq
   exact hne .junk rfl
  ·cases hj
   obtain⟨e,h1,h2⟩:=hov j p rfl;exact⟨e,h1,.junk _⟩
section
variable{x kx:Operand}{t kt et:TypeId}{ks:List IntKind}{m:List (List Int×Value)}{ns:List Int}{bs:List Nat}{ck id:Nat}{ov:Option (Nat×PV)}
theorem Uk{es:Array MapEntry}
  (hent:∀ (i:Nat) (ns:List Int) (u:Value),m[i]?=some (ns,u)->∃ e,es[i]?=some e/\e.key=Yw ks ns/\ns.length=ks.length/\e.val.oneCell'=true/\((∀ p,ov≠some (i,p))->e.val=u)) :
  ∀ (i:Nat) (e:MapEntry) (nn:List Int) (c:List DV),es.toList[i]?=some e->(Yr m)[i]?=some (nn,c)->e.key=Yw ks nn/\nn.length=ks.length:=fun i e nn c h1 h2=>by
 obtain⟨q,hq⟩:=xNa h2;obtain⟨e',g1,g2,g3,_⟩:=hent i nn q hq;have:e'=e:=by simp at h1;rw[g1] at h1;cases h1;rfl
 subst this;exact⟨g2,g3⟩
variable(hu:P.underlying t=some (.map kt et))(K:KeyOK P kt ks)(hx:s.ev x=some (.mp id))(hl:look s.objs id=some (.mapP ks m ov bs ck))(hk:s.ev kx=some (u8a ks ns))(hn:ns.length=ks.length)
include hu K hx hl hk hn
theorem LR.lookupP{j:Nat}{p:PV}(hj:vB ns (Yr m) 0=some j)(hp:ov=some (j,p)):Local P ctx ⟨dst,.lookup t x kx false,ty,pos,after,gd⟩ s (s.putD dst p):=
 zN (o:=⟨dst,.lookup t x kx false,ty,pos,after,gd⟩) fun a w g hg=>by
  have h:=hg.ev hx
  generalize hv:a.eval x=v at h
  cases h with
  | mpNil _ hgn=>
   cases hg.objs id _ hl with
   | mapP _ _ _ _ _ blk' n' es h' hh hsz hst hbl hnd hent hov=>rw[hgn] at h';cases h'
  | mp _ blk n hgi=>
   cases hg.objs id _ hl with
   | mapP _ _ _ _ _ blk' n' es h' hh hsz hst hbl hnd hent hov=>
    rw[hgi] at h';cases h';have hf:=K.find w ns (Yr m) es.toList hn (by simpa[Yr] using hsz) (Uk hent);obtain⟨e,g1,g5⟩:=hov j p hp;have he:es.toList[j]?=some e:=by simpa using g1
    rw[hj] at hf;simp only[Option.bind_some,he,Option.map_some] at hf;refine⟨e.val,?_,g5⟩;simp only[execOp,hv,WM (hg.ev hk),Instr.lookup,Sem.run_bind,run_underlying hu,Result.andThen_ok,MapKept.run_getObj_map hh,Sem.run_pure,K.check w _ ns hn,hf]
    rfl
theorem LR.lookupPN{z:Value}(hz:∀ w,(zeroValue et).run P w=.ok z w)(h1:z.oneCell'=true)(hj:vB ns (Yr m) 0=none):Local P ctx ⟨dst,.lookup t x kx false,ty,pos,after,gd⟩ s (s.putD dst (.d (.v z))):=
 zN (o:=⟨dst,.lookup t x kx false,ty,pos,after,gd⟩) fun a w g hg=>by
  have h:=hg.ev hx
  generalize hv:a.eval x=v at h
  cases h with
  | mpNil _ hgn=>
   cases hg.objs id _ hl with
   | mapP _ _ _ _ _ blk' n' es h' hh hsz hst hbl hnd hent hov=>rw[hgn] at h';cases h'
  | mp _ blk n hgi=>
   cases hg.objs id _ hl with
   | mapP _ _ _ _ _ blk' n' es h' hh hsz hst hbl hnd hent hov=>
    rw[hgi] at h';cases h';have hf:=K.find w ns (Yr m) es.toList hn (by simpa[Yr] using hsz) (Uk hent);rw[hj] at hf;simp only[Option.bind_none] at hf;refine⟨z,?_,.d (.v z h1)⟩;simp only[execOp,hv,WM (hg.ev hk),Instr.lookup,Sem.run_bind,run_underlying hu,Result.andThen_ok,MapKept.run_getObj_map hh,Sem.run_pure,K.check w _ ns hn,hf,hz]
    rfl
omit hu K hx hl hk hn in
theorem YGa{w:World}{g:zw}{S:Nat->Prop}{q n:Nat}{u:Value}(h:Rd w g S (.row q n) u):u.oneCell'=true:=by cases h <;> rfl
theorem LR.mapUpdateP{vx:Operand}{j q nn:Nat}{p:PV}(hov:ov=some (j,p))(hv:s.ev vx=some (.row q nn))(hj:vB ns (Yr m) 0=some j):Local P ctx ⟨none,.mapUpdate t x kx vx,ty,pos,after,gd⟩ s (s.setO id (.mapP ks m (some (j,.row q nn)) bs ck)):=by
 subst hov;refine Wx (o:=⟨none,.mapUpdate t x kx vx,ty,pos,after,gd⟩) fun a w g hg=>?_
 have h:=hg.ev hx
 generalize hxv:a.eval x=v at h
 cases h with
 | mpNil _ hgn=>
  cases hg.objs id _ hl with
  | mapP _ _ _ _ _ blk' n' es h' hh hsz hst hbl hnd hent hov=>rw[hgn] at h';cases h'
 | mp _ blk n hgi=>
  cases hg.objs id _ hl with
  | mapP _ _ _ _ _ blk' n' es h' hh hsz hst hbl hnd hent hov=>
   rw[hgi] at h';cases h';have hf:=K.find w ns (Yr m) es.toList hn (by simpa[Yr] using hsz) (Uk hent);obtain⟨k,hjk,cs0,h2,h3⟩:=Ub ns (Yr m) 0 j hj;have:j=k:=by omega
   subst this;obtain⟨p0,hp0⟩:=xNa h2;obtain⟨e0,g1,g2,g3,g4,g5⟩:=hent j ns p0 hp0;have he:es.toList[j]?=some e0:=by simpa using g1
   rw[hj] at hf;simp only[Option.bind_some,he,Option.map_some] at hf;have hvr:=hg.ev hv
   generalize hu':a.eval vx=u at hvr
   have hsame:(Instr.keyThatStays (((es[j]?).map (·.key)).getD (Yw ks ns)) (Yw ks ns)).run P w=.ok (Yw ks ns) w:=by
    simp only[g1,Option.map_some,Option.getD_some,g2,Instr.keyThatStays,JK,if_true,Sem.run_pure]
   have hrun:(Instr.mapUpdate t (.map (some blk)) (Yw ks ns) u).run P w=.ok () { w with heap:=w.heap.setIfInBounds blk (.map (es.modify j fun e=>{ e with key:=Yw ks ns,val:=u }) ck) }:=by
    simp only[Instr.mapUpdate,Sem.run_bind,run_underlying hu,Result.andThen_ok,MapKept.run_getObj_map hh,K.check w _ ns hn,hf,hsame];exact MapKept.run_setObj_map _ hh
   refine⟨_,by simp only[execOp,hxv,WM (hg.ev hk),hu',Sem.run_bind,hrun,Result.andThen_ok,Sem.run_pure];rfl,g,?_⟩;have hown:=hg.own id _ blk n hl hgi;have hother:∀ k,k < w.heap.size->k≠blk->({ w with heap:=w.heap.setIfInBounds blk (.map (es.modify j fun e=>{ e with key:=Yw ks ns,val:=u }) ck) }:World).heap[k]?=w.heap[k]?:=fun k _ hne=>WN w blk k _ hne
   have hst':xC w { w with heap:=w.heap.setIfInBounds blk (.map (es.modify j fun e=>{ e with key:=Yw ks ns,val:=u }) ck) } (yE ctx g s.objs):=⟨by simp,fun b ⟨_,h2⟩ hlt=>hother b hlt fun e=>by subst e;exact h2 id _ n hl hgi⟩
   refine hg.wrote hl hgi rfl rfl rfl (by simp) hother hown.2 (.mapP ks _ _ bs ck blk n (es.modify j fun e=>{ e with key:=Yw ks ns,val:=u }) hgi (Uc w blk _ hown.1) (by simp[hsz]) ?_ hbl hnd (fun i nn' u' hi=>?_) fun j' p' hj'=>?_)
   ·rw[hst];apply List.ext_getElem?;intro i;simp only[List.getElem?_map,Array.getElem?_toList,Array.getElem?_modify]
    by_cases hij:j=i
    ·subst hij;simp[g1]
    ·simp[hij]
   ·by_cases hij:i=j
    ·subst hij;rw[hp0] at hi
     cases hi
     exact⟨_,by rw[Array.getElem?_modify,if_pos rfl,g1];rfl,rfl,hn,YGa hvr,fun hne=>(hne _ rfl).elim⟩
    ·obtain⟨e,q1,q2,q3,q4,q5⟩:=hent i nn' u' hi;exact⟨e,by rw[Array.getElem?_modify,if_neg (Ne.symm hij)];exact q1,q2,q3,q4,fun _=>q5 fun p hp=>by cases hp;exact hij rfl⟩
   ·cases hj'
    exact⟨_,by rw[Array.getElem?_modify,if_pos rfl,g1];rfl,hvr.keep hst' (fun b hb _=>vb hl b hb) (fun _ _=>rfl)⟩
theorem LR.mapUpdatePN{vx:Operand}{q nn:Nat}(hov:ov=none)(hv:s.ev vx=some (.row q nn))(hj:vB ns (Yr m) 0=none):Local P ctx ⟨none,.mapUpdate t x kx vx,ty,pos,after,gd⟩ s (s.setO id (.mapP ks (m++[(ns,undef)]) (some (m.length,.row q nn)) (bs++[ck]) (ck+1))):=by
 subst hov;refine Wx (o:=⟨none,.mapUpdate t x kx vx,ty,pos,after,gd⟩) fun a w g hg=>?_
 have h:=hg.ev hx
 generalize hxv:a.eval x=v at h
 cases h with
 | mpNil _ hgn=>
  cases hg.objs id _ hl with
  | mapP _ _ _ _ _ blk' n' es h' hh hsz hst hbl hnd hent hov=>rw[hgn] at h';cases h'
 | mp _ blk n hgi=>
  cases hg.objs id _ hl with
  | mapP _ _ _ _ _ blk' n' es h' hh hsz hst hbl hnd hent hov=>
   rw[hgi] at h';cases h';have hf:=K.find w ns (Yr m) es.toList hn (by simpa[Yr] using hsz) (Uk hent);rw[hj] at hf;simp only[Option.bind_none] at hf;have hvr:=hg.ev hv
   generalize hu':a.eval vx=u at hvr
   have hrun:(Instr.mapUpdate t (.map (some blk)) (Yw ks ns) u).run P w=.ok () { w with heap:=w.heap.setIfInBounds blk (.map (es.push { key:=Yw ks ns,val:=u,born:=ck }) (ck+1)) }:=by
    simp only[Instr.mapUpdate,Sem.run_bind,run_underlying hu,Result.andThen_ok,MapKept.run_getObj_map hh,K.check w _ ns hn,hf];exact MapKept.run_setObj_map _ hh
   refine⟨_,by simp only[execOp,hxv,WM (hg.ev hk),hu',Sem.run_bind,hrun,Result.andThen_ok,Sem.run_pure];rfl,g,?_⟩;have hown:=hg.own id _ blk n hl hgi;have hother:∀ k,k < w.heap.size->k≠blk->({ w with heap:=w.heap.setIfInBounds blk (.map (es.push { key:=Yw ks ns,val:=u,born:=ck }) (ck+1)) }:World).heap[k]?=w.heap[k]?:=fun k _ hne=>WN w blk k _ hne
   have hst':xC w { w with heap:=w.heap.setIfInBounds blk (.map (es.push { key:=Yw ks ns,val:=u,born:=ck }) (ck+1)) } (yE ctx g s.objs):=⟨by simp,fun b ⟨_,h2⟩ hlt=>hother b hlt fun e=>by subst e;exact h2 id _ n hl hgi⟩
   refine hg.wrote hl hgi rfl rfl rfl (by simp) hother hown.2 (.mapP ks _ _ (bs++[ck]) (ck+1) blk n (es.push { key:=Yw ks ns,val:=u,born:=ck }) hgi (Uc w blk _ hown.1) (by simp[hsz]) (by simp[hst]) ?_ ?_ (fun i nn' u' hi=>?_) fun j' p' hj'=>?_)
   ·intro b hb;rcases List.mem_append.1 hb with h | h
    ·have:=hbl b h;omega
    ·simp at h;omega
   ·rw[List.nodup_append];refine⟨hnd,by simp,fun b hb c hc=>?_⟩;simp at hc;have:=hbl b hb;omega
   ·rw[List.getElem?_append] at hi
    split at hi
    ·rename_i hlt
     obtain⟨e,q1,q2,q3,q4,q5⟩:=hent i nn' u' hi;exact⟨e,by rw[Array.getElem?_push,if_neg (by rw[hsz];omega)];exact q1,q2,q3,q4,fun _=>q5 fun p hp=>by cases hp⟩
    ·rename_i hge
     have hi0:i=m.length:=by
      have:i - m.length < 1:=by simpa using (List.getElem?_eq_some_iff.1 hi).1
      omega
     subst hi0;simp at hi;obtain⟨rfl,rfl⟩:=hi;exact⟨_,by rw[Array.getElem?_push,if_pos hsz.symm],rfl,hn,YGa hvr,fun hne=>(hne _ rfl).elim⟩
   ·cases hj'
    exact⟨_,by rw[Array.getElem?_push,if_pos hsz.symm],hvr.keep hst' (fun b hb _=>vb hl b hb) (fun _ _=>rfl)⟩
end
end
section
variable{P:Program}{ctx:Ctx}{ops:Array Oper}{Q:PState->Prop}{s:PState}
variable{dst:Option Tmp}{ty:TypeId}{pos:String}{after:Array Edge}{gd:Option (Nat×Bool)}
theorem Local.post{o:Oper}{t u:PState}(h:Local P ctx o s t)(hs:Sub ctx t u):Local P ctx o s u:=fun a w hr K Qx hK=>h a w hr K Qx fun a' w' h'=>hK a' w' (hs a' w' h')
theorem Local.pre{o:Oper}{t u:PState}(hs:Sub ctx s t)(h:Local P ctx o t u):Local P ctx o s u:=fun a w hr K Qx hK=>h a w (hs a w hr) K Qx hK
section
variable{α:Type}{enc:α->List DV}{L R:List α}{x y:Operand}{id mid m k bs':Nat}{t t' e e':TypeId}{ks:List IntKind}{mm:List (List Int×Value)}{j:Nat}{p:PV}{bs:List Nat}{ck:Nat}
theorem LR.appP(js:List Nat)(hE:ElemOK P t e k bs')(hu':P.underlying t'=some (.slice e'))(hx:s.ev x=some (.row id m))(hm:m=L.length)(hl:look s.objs id=some (.row e k (L.map enc)))
  (hlm:look s.objs mid=some (.mapP ks mm (some (j,p)) bs ck)) (hne:Nat.beq id mid=false)
  (hy:∀ s':PState,s'.n=s.n->s'.sl=s.sl->Src ctx s' y (R.map enc) k) (hk:∀ x,(enc x).length=k) (hb:(L.length+R.length)*bs'<=140737488355328) (h1:Nat.ble 1 bs'=true) (ha:(s.junks js).aloneX id [mid]=true) :
  Local P ctx ⟨dst,.call ⟨.builtin .append,#[x,y],#[t,t']⟩,ty,pos,after,gd⟩ s ((((s.junks js).setO mid (.mapP ks mm (some (j,.junk)) bs ck)).setO id (.row e k ((L++R).map enc))).putD dst (.row id (L++R).length)):=by
 have hne':id≠mid:=fun e=>by rw[e] at hne;simp at hne
 let s2:PState:={ s with objs:=yJ mid (.mapP ks mm (some (j,.junk)) bs ck) (uu mid s.objs) }
 have hsub:Sub ctx s s2:=fun a w ⟨g,hg⟩=>⟨g,hg.reread hlm (uZ _ _ _) fun S h=>h.junkP⟩
 have hj2:∀ js,(s2.junks js).sl=(s.junks js).sl:=fun js=>by rw[vK,vK]
 have ha2:(s2.junks js).alone id=true:=by
  unfold PState.aloneX at ha;unfold PState.alone;rw[hj2 js];rw[Bool.and_eq_true] at ha ⊢;refine⟨ha.1,List.all_eq_true.2 fun q hq=>?_⟩;rw[yc] at hq;have h2:=List.all_eq_true.1 ha.2;obtain⟨qk,qo⟩:=q;rcases Ui hq with h3 | h3
  ·cases h3;rfl
  ·have h4:=Uj h3;have h5:=h2 (qk,qo) (by rw[yc];exact h4.2);have h6:inL [mid] qk=false:=by
    rw[WP];simpa using h4.1
   simpa[h6] using h5
 have hl2:look s2.objs id=some (.row e k (L.map enc)):=by
  show look (yJ _ _ _) _=_;rw[uZ,if_neg hne'];exact hl
 refine Local.pre hsub ((LR.appT (enc:=enc) (L:=L) (R:=R) (s:=s2) js hE hu' (by cases x <;> exact hx) hm hl2 (hy s2 rfl rfl) hk hb h1 ha2).post ?_);refine Sub.drop ?_ (fun i q hq=>?_) (fun i o ho=>?_)
 ·simp only[ul];show(s2.junks js).n=(s.junks js).n;rw[wI,wI]
 ·have hsl:(((s2.junks js).setO id (.row e k ((L++R).map enc))).putD dst (.row id (L++R).length)).sl=((((s.junks js).setO mid (.mapP ks mm (some (j,.junk)) bs ck)).setO id (.row e k ((L++R).map enc))).putD dst (.row id (L++R).length)).sl:=by
   cases dst <;> simp[PState.putD,PState.put,PState.setO,hj2]
  have hn:(((s2.junks js).setO id (.row e k ((L++R).map enc))).putD dst (.row id (L++R).length)).n=((((s.junks js).setO mid (.mapP ks mm (some (j,.junk)) bs ck)).setO id (.row e k ((L++R).map enc))).putD dst (.row id (L++R).length)).n:=by
   simp only[ul];show(s2.junks js).n=(s.junks js).n;rw[wI,wI]
  rw[WI] at hq ⊢;rw[hsl,hn];exact hq
 ·rw[xP] at ho ⊢;simp only[PState.setO,yc] at ho ⊢;rw[zF] at ho ⊢
  by_cases hi:i=id
  ·rw[if_pos hi] at ho ⊢;exact ho
  ·rw[if_neg hi] at ho ⊢;rw[zF] at ho;show look (yJ _ _ (uu _ _)) _=_;rw[uZ];exact ho
theorem PQe.stepX{o:Oper}{rest:List Oper}{f:Ft}{fs:List Ft}{p:PV}{id mid:Nat}{ob obm:Ob}(js:List Nat)(hl:∀ s':PState,(∀ {x q},vA o x=true->s.ev x=some q->s'.ev x=some q)->(∀ {id ob},inL f.ro id=true->look s.objs id=some ob->look s'.objs id=some ob)->(s'.junks js).aloneX id [mid]=true->Local P ctx o s' ((((s'.junks js).setO mid obm).setO id ob).putD o.dst p))
  (ha:inAl f.al id js=true) (hao:f.ao=[mid]) (hg:Wd ops o s) (hk:okE f ⟨Jh o.dst p++(js.map fun t=>(t,PV.junk)).reverse,[(id,ob),(mid,obm)]⟩=true) (h:PQe P ctx ops Q rest fs ((((s.junks js).setO mid obm).setO id ob).putD o.dst p)):PQe P ctx ops Q (o::rest) (f::fs) s:=by
 have happ:∀ s:PState,s.app ⟨Jh o.dst p++(js.map fun t=>(t,PV.junk)).reverse,[(id,ob),(mid,obm)]⟩=(((s.junks js).setO mid obm).setO id ob).putD o.dst p:=fun s=>by
  have h1:=vK js s;have h2:=wI js s;have h3:=yc js s
  cases o.dst <;> simp[PState.app,Jh,PState.putD,PState.put,PState.setO,h1,h2,h3]
 refine .step (e:=⟨Jh o.dst p++(js.map fun t=>(t,PV.junk)).reverse,[(id,ob),(mid,obm)]⟩) (fun s' _ he ho _ hal=>?_) hg hk (by rw[happ];exact h);rw[happ];refine hl s' he (fun hi=>ho (zp.1 hi)) ?_;unfold inAl at ha;obtain⟨a,h1,h2⟩:=List.any_eq_true.1 ha;simp only[Bool.and_eq_true,beq_iff_eq] at h2;have:=hal a h1
 rwa [Nat.eq_of_beq_eq_true h2.1,h2.2,hao] at this
theorem LR.appNilX(hE:ElemOK P t e k bs')(hu':P.underlying t'=some (.slice e'))(hx:s.ev x=some (.d (.v (.slice none 0 0))))(hf:s.fresh id=true)
  (hy:Src ctx { s with objs:=yJ id (.row e k []) s.objs } y (R.map enc) k) (hk:∀ x,(enc x).length=k) (hb:R.length*bs'<=140737488355328) (h1:Nat.ble 1 bs'=true) (ha:({ s with objs:=yJ id (.row e k []) s.objs }:PState).alone id=true) :
  Local P ctx ⟨some id,.call ⟨.builtin .append,#[x,y],#[t,t']⟩,ty,pos,after,gd⟩ s (s.newO id (.row e k (R.map enc)) (.row id R.length)):=by
 rintro a w ⟨g,hg⟩ K Qx hK;have hn:=hg.new (Go.RowKit.Below.refl _ w) hf none (fun b n e=>by cases e) (.row e k []) (.rowNil e k (zZ _ _ _));have h2:=Nat.le_of_ble_eq_true h1;have h3:R.length*1<=R.length*bs':=Nat.mul_le_mul_left _ h2;have hlk:look (yJ id (Ob.row e k []) s.objs) id=some (.row e k []):=by rw[zF,if_pos rfl]
 have hxv:=hg.ev hx;have hxe:a.eval x=.slice none 0 0:=hxv.of_v;obtain⟨v,w',hrun,hr⟩:=UD (dst:=some id) (ty:=ty) (pos:=pos) (after:=after) (gd:=gd) (l:=[]) (n:=0) (x:=x) [] hE hu' hlk rfl hy (UE hk R) (by simpa using hb) (by simp;omega) ha hn (by rw[hxe];exact .rowNil id (zZ _ _ _));unfold Oper.wp;rw[hrun];refine hK _ _ ?_;refine Sub.drop ?_ (fun i q hq=>?_) (fun i o ho=>?_) _ _ hr
 ·rfl
 ·rw[Nat.zero_add,List.length_map];exact hq
 ·simp only[PState.newO,zF] at ho;simp only[PState.putD,PState.put,PState.setO,PState.junks,zF,List.nil_append]
  by_cases hi:i=id
  ·rw[if_pos hi] at ho ⊢;exact ho
  ·rw[if_neg hi] at ho;rw[if_neg hi,if_neg hi];exact ho
end
end
end Go.Ep
namespace Go.Ep
open Go.RowKit
section
variable{ctx:Ctx}{s:PState}
theorem RelG.obj{g:zw}{a:Act}{w:World}(h1:RelG ctx g s a w){id:Nat}{o o':Ob}(hl:look s.objs id=some o)(hob:ObRd w g (yE ctx g s.objs) id o'):RelG ctx g { s with objs:=yJ id o' s.objs } a w:=by
 have hF:∀ b,yE ctx g s.objs b->yE ctx g (yJ id o' s.objs) b:=fun b hb=>⟨hb.1,fun i o2 n ho hgi=>by
  rw[zF] at ho
  by_cases ei:i=id
  ·subst ei;exact hb.2 i _ n hl hgi
  ·rw[if_neg ei] at ho;exact hb.2 i o2 n ho hgi⟩
 have hst:xC w w (yE ctx g s.objs):=⟨Nat.le_refl _,fun _ _ _=>rfl⟩
 have hlk:∀ i o2,look (yJ id o' s.objs) i=some o2->∃ o3,look s.objs i=some o3:=fun i o2 ho=>by
  rw[zF] at ho
  by_cases ei:i=id
  ·subst ei;exact⟨_,hl⟩
  ·rw[if_neg ei] at ho;exact⟨_,ho⟩
 refine⟨h1.defers,h1.size,fun i p hp=>(h1.slots i p hp).keep hst (fun b hb _=>hF b hb) (fun _ _=>rfl),fun i o2 ho=>?_,fun i i2 o2 o3 b n m ho ho2 hgi hgi2=>?_,fun i o2 b n ho hgi=>?_,h1.os,h1.tape,h1.output,h1.grows,h1.keep⟩
 ·rw[zF] at ho
  by_cases ei:i=id
  ·subst ei;rw[if_pos rfl] at ho
   cases ho
   exact hob.keep hst (fun b hb _=>hF b hb) (fun _ _ _=>rfl) rfl (fun _ _=>rfl)
  ·rw[if_neg ei] at ho;exact(h1.objs i o2 ho).keep hst (fun b hb _=>hF b hb) (fun _ _ _=>rfl) rfl (fun _ _=>rfl)
 ·obtain⟨o4,e4⟩:=hlk i o2 ho;obtain⟨o5,e5⟩:=hlk i2 o3 ho2;exact h1.inj i i2 o4 o5 b n m e4 e5 hgi hgi2
 ·obtain⟨o4,e4⟩:=hlk i o2 ho;exact h1.own i o4 b n e4 hgi
variable{id:Nat}{nl:Bool}{ks:List IntKind}{ag:Bool}{m:List (List Int×List DV)}{bs:List Nat}{ck:Nat}
theorem Sub.nToH(hl:look s.objs id=some (.mapN nl ks ag m bs ck)):Sub ctx s { s with objs:=yJ id (.mapH nl ks ag m) s.objs }:=
 Sub.obj hl fun w g S h=>by
  cases h with
  | mapNil _ _ _ h=>exact .mapHNil _ _ h
  | mapN _ _ _ _ _ blk n es h hh hm=>exact .mapH _ _ _ _ _ blk n es h hh hm
theorem Sub.toH(hl:look s.objs id=some (.map ks ag m bs ck)):Sub ctx s { s with objs:=yJ id (.mapH false ks ag m) s.objs }:=
 Sub.obj hl fun w g S h=>by
  cases h with
  | map _ _ _ _ _ blk n es h hh hm=>exact .mapH _ _ _ _ _ blk n es h hh hm
theorem Sub.hT(hl:look s.objs id=some (.mapH nl ks ag m))(hn:nl=true):Sub ctx s { s with objs:=yJ id (.mapN true ks ag m [] 0) s.objs }:=
 Sub.obj hl fun w g S h=>by
  subst hn
  cases h with
  | mapHNil _ _ h=>exact .mapNil _ _ _ h
theorem openH(hl:look s.objs id=some (.mapH nl ks ag m)){a:Act}{w:World}(hr:Rel ctx s a w):∃ bs ck,Rel ctx { s with objs:=yJ id (.mapN nl ks ag m bs ck) s.objs } a w:=by
 obtain⟨g,hg⟩:=hr;have h:=hg.objs id _ hl
 cases h with
 | mapHNil _ _ h=>exact⟨[],0,g,hg.obj hl (.mapNil _ _ _ h)⟩
 | mapH _ _ _ bs ck blk n es h hh hm=>exact⟨bs,ck,g,hg.obj hl (.mapN _ _ _ _ _ blk n es h hh hm)⟩
variable{P:Program}{Q:PQ}
theorem PWc.openH{c:Code}(hl:look s.objs id=some (.mapH nl ks ag m))(h:∀ bs ck,PWc P ctx c Q { s with objs:=yJ id (.mapN nl ks ag m bs ck) s.objs }):PWc P ctx c Q s:=fun a w hr=>by
 obtain⟨bs,ck,h2⟩:=Go.Ep.openH hl hr;exact h bs ck a w h2
theorem PWl.openH{ops:Array Oper}{l:List Oper}(hl:look s.objs id=some (.mapH nl ks ag m))(h:∀ bs ck,PWl P ctx ops Q l { s with objs:=yJ id (.mapN nl ks ag m bs ck) s.objs }):PWl P ctx ops Q l s:=fun a w hr=>by
 obtain⟨bs,ck,h2⟩:=Go.Ep.openH hl hr;exact h bs ck a w h2
theorem Ul(id:Nat)(o o':Ob)(l:List (Nat×Ob))(i:Nat):look (yJ id o (yJ id o' l)) i=look (yJ id o l) i:=by
 rw[zF,zF,zF]
 by_cases h:i=id <;> simp[h]
theorem Sub.same{t:PState}(hn:s.n=t.n)(hs:s.sl=t.sl)(ho:∀ i,look s.objs i=look t.objs i):Sub ctx s t:=
 Sub.drop hn (fun i p hp=>by rw[WI] at hp ⊢;rw[hn,hs];exact hp) (fun i o h=>by rw[ho];exact h)
theorem PWc.hF{c:Code}(hl:look s.objs id=some (.mapH nl ks ag m))(hn:nl=false)(h:∀ bs ck,PWc P ctx c Q { s with objs:=yJ id (.map ks ag m bs ck) s.objs }):PWc P ctx c Q s:=
 PWc.openH hl fun bs ck=>PWc.sub (Sub.mapF (id:=id) (by show look (yJ id _ _) id=_;rw[zF,if_pos rfl]) hn) (PWc.sub (Sub.same (t:={ s with objs:=yJ id (.map ks ag m bs ck) s.objs }) rfl rfl fun i=>by
  show look (yJ id _ (yJ id _ _)) i=look (yJ id _ _) i;rw[Ul]) (h bs ck))
theorem Local.openH{o:Oper}{t:PState}(hl:look s.objs id=some (.mapH nl ks ag m))(h:∀ bs ck,Local P ctx o { s with objs:=yJ id (.mapN nl ks ag m bs ck) s.objs } t):Local P ctx o s t:=fun a w hr K Qx hK=>by
 obtain⟨bs,ck,h2⟩:=Go.Ep.openH hl hr;exact h bs ck a w h2 K Qx hK
theorem closeP{dst:Option Nat}{p:PV}{m':List (List Int×List DV)}(hl:look s.objs id=some (.mapH nl ks ag m')):Sub ctx (({ s with objs:=yJ id (.mapN nl ks ag m' bs ck) s.objs }:PState).putD dst p) (s.putD dst p):=by
 refine Sub.trans (Sub.nToH (id:=id) (nl:=nl) (ks:=ks) (ag:=ag) (m:=m') (bs:=bs) (ck:=ck) ?_) (Sub.same ?_ ?_ fun i=>?_)
 ·rw[xP];show look (yJ id _ _) id=_;rw[zF,if_pos rfl]
 ·cases dst <;> rfl
 ·cases dst <;> rfl
 ·rw[xP];show look (yJ id _ _) i=_;rw[xP];show look (yJ id _ (yJ id _ _)) i=_;rw[Ul,zF]
  by_cases h:i=id
  ·rw[if_pos h,h,hl]
  ·rw[if_neg h]
theorem jc{x:Operand}(l:List (Nat×Ob)):({ s with objs:=l }:PState).ev x=s.ev x:=by cases x <;> rfl
end
section
variable{P:Program}{ctx:Ctx}{Q:PQ}{s:PState}
variable{dst:Option Tmp}{ty:TypeId}{pos:String}{after:Array Edge}{gd:Option (Nat×Bool)}
variable{κ ν:Type}[DecidableEq κ]{eK:κ->List Int}{eV:ν->List DV}{m:List (κ×ν)}{q:κ}{zv:ν}(inj:∀ a b,eK a=eK b->a=b)
variable{x kx:Operand}{t kt et:TypeId}{ks:List IntKind}{ag:Bool}{z:Value}{p kp:PV}{id:Nat}{nl:Bool}{bs:List Nat}{ck:Nat}
section
variable(hu:P.underlying t=some (.map kt et))(K:KeyOK P kt ks)(hz:∀ w,(zeroValue et).run P w=.ok z w)(hzr:∀ (w:World) (g:zw) (S:Nat->Prop),Rd w g S (elP ag (eV zv)) z)(hk:s.ev kx=some kp)(hkp:kp=u8a ks (eK q))(hn:(eK q).length=ks.length)(hp:elP ag (eV (AL.getZ m q zv))=p)
include inj hu K hz hzr hk hkp hn hp
theorem LR.getOkH(hx:s.ev x=some (.mp id))(hl:look s.objs id=some (.mapH nl ks ag (yI eK eV m))):Local P ctx ⟨dst,.lookup t x kx true,ty,pos,after,gd⟩ s (s.putD dst (.tup [p,.d (.v (.bool (AL.has m q)))])):=
 Local.openH hl fun bs ck=>(LR.getOkN inj hu K hz hzr (by rw[jc];exact hk) hkp hn hp (by rw[jc];exact hx) (by show look (yJ id _ _) id=_;rw[zF,if_pos rfl])).post (closeP hl)
end
theorem LR.eqlH{mm:List (List Int×List DV)}{t t' kt et:TypeId}(hu:P.underlying t=some (.map kt et))(hx:s.ev x=some (.mp id))(hl:look s.objs id=some (.mapH nl ks ag mm)) :
  Local P ctx ⟨dst,.binOp .eql t x (.const (.map none)) t',ty,pos,after,gd⟩ s (s.putD dst (.d (.v (.bool nl)))):=
 Local.openH hl fun bs ck=>(LR.eqlMapN hu (by rw[jc];exact hx) (by show look (yJ id _ _) id=_;rw[zF,if_pos rfl])).post (closeP hl)
end
inductive JCs (nm:List Nat):List PV->List PV->Prop
 | nil:JCs nm [] []
 | keep {p:PV} {cs cs':List PV} (h:p.named nm=true) (t:JCs nm cs cs'):JCs nm (p::cs) (p::cs')
 | junk {p:PV} {cs cs':List PV} (t:JCs nm cs cs'):JCs nm (p::cs) (.junk::cs')
inductive JOb (nm:List Nat):Ob->Ob->Prop
 | same {o:Ob} (h:o.named nm=true):JOb nm o o
 | cells {T:TypeId} {cs cs':List PV} (h:JCs nm cs cs'):JOb nm (.cells T cs) (.cells T cs')
inductive JObs (nm:List Nat):List (Nat×Ob)->List (Nat×Ob)->Prop
 | nil:JObs nm [] []
 | cons {k:Nat} {o o':Ob} {F F':List (Nat×Ob)} (h:JOb nm o o') (t:JObs nm F F'):JObs nm ((k,o)::F) ((k,o')::F')
theorem JCs.len{nm:List Nat}{cs cs':List PV}(h:JCs nm cs cs'):cs'.length=cs.length:=by
 induction h with
 | nil=>rfl
 | keep _ _ ih=>simp[ih]
 | junk _ ih=>simp[ih]
theorem JCs.get{nm:List Nat}{cs cs':List PV}(h:JCs nm cs cs'):∀ (i:Nat) (p:PV),cs'[i]?=some p->p=.junk\/cs[i]?=some p:=by
 induction h with
 | nil=>intro i p h;simp at h
 | keep _ _ ih=>
  intro i p h
  cases i with
  | zero=>exact .inr (by simpa using h)
  | succ i=>simpa using ih i p (by simpa using h)
 | junk _ ih=>
  intro i p h
  cases i with
  | zero=>exact .inl (by simpa using h.symm)
  | succ i=>simpa using ih i p (by simpa using h)
theorem JCs.named{nm:List Nat}{cs cs':List PV}(h:JCs nm cs cs'):PV.named.namedL nm cs'=true:=by
 induction h with
 | nil=>rfl
 | keep h _ ih=>simp only[PV.named.namedL,h,ih,Bool.and_self]
 | junk _ ih=>simp only[PV.named.namedL,PV.named,ih,Bool.and_self]
theorem JOb.named{nm:List Nat}{o o':Ob}(h:JOb nm o o'):o'.named nm=true:=by
 cases h with
 | same h=>exact h
 | cells h=>exact h.named
theorem JOb.rd{nm:List Nat}{o o':Ob}(h:JOb nm o o'){w:World}{g:zw}{S:Nat->Prop}{id:Nat}(hr:ObRd w g S id o):ObRd w g S id o':=by
 cases h with
 | same=>exact hr
 | cells h=>
  cases hr with
  | cells _ _ blk n us hgi hh hl hr' h1=>
   refine .cells _ _ blk n us hgi hh (h.len.trans hl) (fun i p u hp hu=>?_) h1;rcases h.get i p hp with rfl | h2
   ·exact .junk u
   ·exact hr' i p u h2 hu
theorem JObs.look{nm:List Nat}{F F':List (Nat×Ob)}(h:JObs nm F F'):∀ (id:Nat) (o':Ob),Go.Ep.look F' id=some o'->∃ o,Go.Ep.look F id=some o/\JOb nm o o':=by
 induction h with
 | nil=>intro id o' h;simp[Go.Ep.look] at h
 | cons h _ ih=>
  intro id o' hl;simp only[Go.Ep.look] at hl ⊢
  split at hl
  ·rename_i e;cases hl;exact⟨_,by rw[if_pos e],h⟩
  ·rename_i e;rw[if_neg e];exact ih id o' hl
theorem JObs.keys{nm:List Nat}{F F':List (Nat×Ob)}(h:JObs nm F F'):F'.map (·.1)=F.map (·.1):=by
 induction h with
 | nil=>rfl
 | cons _ _ ih=>simp[ih]
theorem YHa{l:List (Nat×Ob)}{i:Nat}(h:i∉l.map (·.1)):look l i=none:=by
 cases hl:look l i with
 | none=>rfl
 | some o=>exact absurd (yg hl) h
theorem OwnB.app{g:zw}{a b:List (Nat×Ob)}{k:Nat}(h:OwnB g (a++b) k):OwnB g a k\/OwnB g b k:=by
 obtain⟨id,o,n,h1,h2⟩:=h;rw[vR] at h1
 cases hl:look a id with
 | none=>rw[hl,Option.none_or] at h1;exact .inr ⟨id,o,n,h1,h2⟩
 | some q=>rw[hl,Option.some_or] at h1;exact .inl ⟨id,q,n,hl,h2⟩
theorem PObj.frame{G:Type}{P:Program}{f:FuncId}{ps:List PV}{os:List (Nat×Ob)}{pins ks:List Nat}{r:PV}{os':G->List (Nat×Ob)}(F F':List (Nat×Ob))(hc:PObj P f ps os pins r os')
  (hks:∀ gh,(os' gh).map (·.1)=ks) (hcl:∀ gh,(os' gh).all (fun x=>x.2.named ks)=true) (hr:r.named ks=true) (hd:((F.map (·.1)).all fun k=>!inL (os.map (·.1)) k&&!inL ks k)=true) (hj:JObs (pins++F.map (·.1)) F F') :
  PObj P f ps (os++F) (pins++F.map (·.1)) r (fun gh=>os' gh++F'):=by
 intro w g S vs hlen hreal hobs hdis;have hd1:∀ k∈F.map (·.1),k∉os.map (·.1)/\k∉ks:=fun k hk=>by
  have h:=List.all_eq_true.1 hd k hk;rw[Bool.and_eq_true,Bool.not_eq_true',Bool.not_eq_true',WP,WP] at h;exact h
 have WQ:∀ {id o},look F id=some o->look (os++F) id=some o:=fun {id o} h=>by
  rw[vR,YHa (hd1 id (yg h)).1,Option.none_or];exact h
 have ownL:∀ {b},OwnB g os b->OwnB g (os++F) b:=fun⟨id,o,n,h1,h2⟩=>⟨id,o,n,xR h1,h2⟩
 have ownR:∀ {b},OwnB g F b->OwnB g (os++F) b:=fun⟨id,o,n,h1,h2⟩=>⟨id,o,n,WQ h1,h2⟩
 have hnF:∀ {id o b n},look F id=some o->g id=some (b,n)->¬ OwnB g os b:=fun {id o b n} h1 h2 ⟨id2,o2,n2,h3,h4⟩=>by
  have:=hobs.inj id id2 o o2 b n n2 (WQ h1) (xR h3) h2 h4;subst this;exact(hd1 id (yg h1)).1 (yg h3)
 refine(hc w g S vs hlen hreal ⟨fun id o h=>hobs.rd id o (xR h),fun i j oi oj b n m hi hj=>hobs.inj i j oi oj b n m (xR hi) (xR hj),fun id o b n h=>hobs.lt id o b n (xR h)⟩ (fun b hb h=>hdis b hb (ownL h))).mono fun e w' ⟨u,g',gh,he,hpost⟩=>?_
 have hks':=hks gh;have hcl':=hcl gh
 let G':zw:=fun j=>if inL (F.map (·.1)) j then g j else g' j
 refine⟨u,G',gh,he,?_⟩;show v0a w g S (os++F) (pins++F.map (·.1)) r (os' gh++F') w' G' u
 generalize os' gh=os1 at hpost hks' hcl' ⊢
 have gF:∀ {j},j∈F.map (·.1)->G' j=g j:=fun {j} h=>by simp only[G',zp.2 h,if_true]
 have gN:∀ {j},j∉F.map (·.1)->G' j=g' j:=fun {j} h=>by simp only[G',WP.2 h,Bool.false_eq_true,if_false]
 have gK:∀ {j},j∈ks->G' j=g' j:=fun {j} h=>gN fun h2=>(hd1 j h2).2 h
 have gP:∀ {j},j∈pins++F.map (·.1)->G' j=g j:=fun {j} h=>by
  by_cases hf:j∈F.map (·.1)
  ·exact gF hf
  ·rw[gN hf];exact hpost.pin j ((List.mem_append.1 h).resolve_right hf)
 have split:∀ {id o},look (os1++F') id=some o->(look os1 id=some o/\id∈ks)\/∃ o0,look F id=some o0/\JOb (pins++F.map (·.1)) o0 o:=fun {id o} h=>by
  rw[vR] at h
  cases hl:look os1 id with
  | none=>rw[hl,Option.none_or] at h;exact .inr (hj.look id o h)
  | some q=>rw[hl,Option.some_or] at h;cases h;exact .inl ⟨rfl,hks'▸yg hl⟩
 have hA:∀ b,UG w g S os g' os1 b->UG w g S (os++F) G' (os1++F') b:=fun b ⟨h1,h2⟩=>⟨by
  rcases h1 with h1 | h1 | h1
  ·exact .inl h1
  ·exact .inr (.inl (ownL h1))
  ·exact .inr (.inr h1),fun⟨id,o,n,hl,hgi⟩=>by
  rcases split hl with⟨h3,h4⟩ | ⟨o0,h3,h4⟩
  ·rw[gK h4] at hgi;exact h2 ⟨id,o,n,h3,hgi⟩
  ·rw[gF (yg h3)] at hgi;rcases h1 with h1 | h1 | h1
   ·exact hdis b h1 ⟨id,o0,n,WQ h3,hgi⟩
   ·exact hnF h3 hgi h1
   ·have:=hobs.lt id o0 b n (WQ h3) hgi;omega⟩
 have hS:∀ b,S b->b < w.heap.size->UG w g S (os++F) G' (os1++F') b:=fun b hb hlt=>⟨.inl hb,fun⟨id,o,n,hl,hgi⟩=>by
  rcases split hl with⟨h3,h4⟩ | ⟨o0,h3,h4⟩
  ·rw[gK h4] at hgi;rcases hpost.own b ⟨id,o,n,h3,hgi⟩ with h5 | h5
   ·exact hdis b hb (ownL h5)
   ·omega
  ·rw[gF (yg h3)] at hgi;exact hdis b hb ⟨id,o0,n,WQ h3,hgi⟩⟩
 have hst:xC w w' S:=⟨hpost.grows,fun b hb hlt=>hpost.keep b hlt fun h=>hdis b hb (ownL h)⟩
 have hst':xC w' w' (UG w g S os g' os1):=⟨Nat.le_refl _,fun _ _ _=>rfl⟩
 refine⟨hpost.eos,hpost.tape,hpost.output,hpost.grows,fun k hk h=>hpost.keep k hk fun h2=>h (ownL h2),fun b ⟨id,o,n,hl,hgi⟩=>?_,fun id h=>gP h,?_,⟨fun id o hl=>?_,fun i j oi oj b n m hi hj' hgi hgj=>?_,fun id o b n hl hgi=>?_⟩⟩
 ·rcases split hl with⟨h3,h4⟩ | ⟨o0,h3,h4⟩
  ·rw[gK h4] at hgi;exact(hpost.own b ⟨id,o,n,h3,hgi⟩).imp ownL (fun h=>h)
  ·rw[gF (yg h3)] at hgi;exact .inl (ownR ⟨id,o0,n,h3,hgi⟩)
 ·exact hpost.res.keep hst' (fun b hb _=>hA b hb) fun j hjj=>gK (PV.named_has hr hjj)
 ·rcases split hl with⟨h3,h4⟩ | ⟨o0,h3,h4⟩
  ·have hn:=(List.all_eq_true.1 hcl') _ (va h3);exact(hpost.obs.rd id o h3).keep hst' (fun b hb _=>hA b hb) (fun _ _ _=>rfl) (gK h4) fun j hjj=>gK (Ob.named_has hn hjj)
  ·exact(h4.rd (hobs.rd id o0 (WQ h3))).keep hst hS (fun b n hgi=>hpost.keep b (hobs.lt id o0 b n (WQ h3) hgi) (hnF h3 hgi)) (gF (yg h3)) fun j hjj=>gP (Ob.named_has h4.named hjj)
 ·rcases split hi with⟨h3,h4⟩ | ⟨o0,h3,h4⟩ <;> rcases split hj' with⟨h5,h6⟩ | ⟨o2,h5,h6⟩
  ·rw[gK h4] at hgi;rw[gK h6] at hgj;exact hpost.obs.inj i j oi oj b n m h3 h5 hgi hgj
  ·rw[gK h4] at hgi;rw[gF (yg h5)] at hgj;exfalso;rcases hpost.own b ⟨i,oi,n,h3,hgi⟩ with h7 | h7
   ·exact hnF h5 hgj h7
   ·have:=hobs.lt j o2 b m (WQ h5) hgj;omega
  ·rw[gF (yg h3)] at hgi;rw[gK h6] at hgj;exfalso;rcases hpost.own b ⟨j,oj,m,h5,hgj⟩ with h7 | h7
   ·exact hnF h3 hgi h7
   ·have:=hobs.lt i o0 b n (WQ h3) hgi;omega
  ·rw[gF (yg h3)] at hgi;rw[gF (yg h5)] at hgj;exact hobs.inj i j o0 o2 b n m (WQ h3) (WQ h5) hgi hgj
 ·rcases split hl with⟨h3,h4⟩ | ⟨o0,h3,h4⟩
  ·rw[gK h4] at hgi;exact hpost.obs.lt id o b n h3 hgi
  ·rw[gF (yg h3)] at hgi;exact Nat.lt_of_lt_of_le (hobs.lt id o0 b n (WQ h3) hgi) hpost.grows
section
variable{ctx:Ctx}{s:PState}
inductive RSl (s:PState) (ρ:List (Nat×Nat)):List (Nat×PV)->Prop
 | nil:RSl s ρ []
 | cons {i:Nat} {p:PV} {r:List (Nat×PV)} (h:s.at i=some (p.ren ρ)) (t:RSl s ρ r):RSl s ρ ((i,p)::r)
theorem RSl.get{ρ:List (Nat×Nat)}{l:List (Nat×PV)}(h:RSl s ρ l):∀ i p,xa l i=some p->s.at i=some (p.ren ρ):=by
 induction h with
 | nil=>intro i p h;simp[xa] at h
 | cons h _ ih=>
  intro i p hl;rw[yo] at hl
  split at hl
  ·rename_i e;subst e;cases hl;exact h
  ·exact ih i p hl
def injR(ρ:List (Nat×Nat))(ks:List Nat):Bool:=ks.all fun i=>ks.all fun j=>Nat.beq i j||!Nat.beq (rn ρ i) (rn ρ j)
theorem Sub.rnm(ρ:List (Nat×Nat)){n:Nat}{tl:List (Nat×PV)}{to:List (Nat×Ob)}(hn:s.n=n)(hs:RSl s ρ tl)(ho:AllOb s ρ to)(hi:injR ρ (to.map (·.1))=true):Sub ctx s ⟨n,tl,to⟩:=by
 rintro a w ⟨g,h⟩;have hlo:=ho.get;have hF:∀ b,yE ctx g s.objs b->yE ctx (fun i=>g (rn ρ i)) to b:=fun b hb=>⟨hb.1,fun id o n h1 h2=>hb.2 _ _ n (hlo id o h1) h2⟩
 have hst:xC w w (yE ctx g s.objs):=⟨Nat.le_refl _,fun _ _ _=>rfl⟩
 have hinj:∀ i j,i∈to.map (·.1)->j∈to.map (·.1)->rn ρ i=rn ρ j->i=j:=fun i j h1 h2 e=>by
  have h3:=List.all_eq_true.1 (List.all_eq_true.1 hi i h1) j h2;rw[Bool.or_eq_true,Bool.not_eq_true'] at h3;rcases h3 with h3 | h3
  ·exact Nat.eq_of_beq_eq_true h3
  ·rw[e,Nat.beq_refl] at h3;cases h3
 refine⟨fun i=>g (rn ρ i),h.defers,by rw[h.size,hn],fun i p hp=>?_,fun id o hl=>?_,fun i j oi oj b n m h1 h2 hgi hgj=>?_,fun id o b n h1 hgi=>?_,h.os,h.tape,h.output,h.grows,h.keep⟩
 ·have h1:=hs.get i p (uH hp);exact((h.slots i _ h1).unren rfl).keep hst (fun b hb _=>hF b hb) (fun _ _=>rfl)
 ·exact((h.objs _ _ (hlo id o hl)).unren rfl rfl).keep hst (fun b hb _=>hF b hb) (fun _ _ _=>rfl) rfl (fun _ _=>rfl)
 ·exact hinj i j (yg h1) (yg h2) (h.inj _ _ _ _ b n m (hlo i oi h1) (hlo j oj h2) hgi hgj)
 ·exact h.own _ _ b n (hlo id o h1) hgi
end
theorem PObj.dropRow{G:Type}{P:Program}{f:FuncId}{ps:List PV}{os:List (Nat×Ob)}{pins:List Nat}{id n k:Nat}{e:TypeId}{l:List (List DV)}{os' os1:G->List (Nat×Ob)}(hc:PObj P f ps os pins (.row id n) os')(hos:∀ gh,os' gh=os1 gh++[(id,.row e k l)])(hn:n=l.length)(hk:∀ gh,(os1 gh).all (fun x=>!Nat.beq x.1 id)=true) :
  PObj P f ps os pins (.d (.sl l)) os1:=by
 intro w g S vs hlen hreal hobs hdis;refine(hc w g S vs hlen hreal hobs hdis).mono fun en w' ⟨u,g',gh,he,hpost⟩=>?_
 refine⟨u,g',gh,he,?_⟩;rw[hos gh] at hpost;have hk':=hk gh
 generalize os1 gh=o1 at hpost hk' ⊢
 have hne:∀ {i o},look o1 i=some o->i≠id:=fun {i o} h e=>by
  have:=List.all_eq_true.1 hk' _ (va h);subst e;simp at this
 have hid:look (o1++[(id,.row e k l)]) id=some (.row e k l):=by
  rw[vR]
  cases h:look o1 id with
  | none=>simp[look]
  | some o=>exact absurd rfl (hne h)
 have ownL:∀ {b},OwnB g' o1 b->OwnB g' (o1++[(id,.row e k l)]) b:=fun⟨i,o,m,h1,h2⟩=>⟨i,o,m,xR h1,h2⟩
 have hA:∀ b,UG w g S os g' (o1++[(id,.row e k l)]) b->UG w g S os g' o1 b:=fun b ⟨h1,h2⟩=>⟨h1,fun h=>h2 (ownL h)⟩
 have hst:xC w' w' (UG w g S os g' (o1++[(id,.row e k l)])):=⟨Nat.le_refl _,fun _ _ _=>rfl⟩
 refine⟨hpost.eos,hpost.tape,hpost.output,hpost.grows,hpost.keep,fun b h=>hpost.own b (ownL h),hpost.pin,?_,⟨fun i o h=>(hpost.obs.rd i o (xR h)).keep hst (fun b hb _=>hA b hb) (fun _ _ _=>rfl) rfl (fun _ _=>rfl),fun i j oi oj b n m hi hj=>hpost.obs.inj i j oi oj b n m (xR hi) (xR hj),fun i o b n h=>hpost.obs.lt i o b n (xR h)⟩⟩;have hr:=hpost.res;have ho:=hpost.obs.rd id _ hid
 generalize u=v at hr
 cases ho with
 | rowNil _ _ hgn=>
  cases hr with
  | row _ _ blk cap hgi=>rw[hgn] at hgi;cases hgi
  | rowNil=>exact .d (.nil none 0 (Nat.zero_le _) (fun _=>rfl))
 | row _ _ _ blk' cap' cur hgi hh hlc hcap hcs hkk hr'=>
  cases hr with
  | rowNil _ hgn=>rw[hgn] at hgi;cases hgi
  | row _ _ blk cap hgi'=>
   rw[hgi] at hgi'
   cases hgi'
   subst hn;have hlt:=hpost.obs.lt id _ blk' cap' hid hgi;have hfree:UG w g S os g' o1 blk':=⟨.inr (hpost.own blk' ⟨id,_,cap',hid,hgi⟩),fun⟨i,o,m,h1,h2⟩=>hne h1 (hpost.obs.inj i id o _ blk' m cap' (xR h1) hid h2 hgi)⟩
   refine .d (.sl l blk' 0 cap' k (fun i j=>cur.getD (i*k+j) undef) hlc hcap hfree hlt hkk ?_ ?_)
   ·intro i j hi hj;have hlt:i*k+j < cur.length:=by rw[hcs];exact Zv (by omega) hj
    rw[yD hh];simp[hlt]
   ·intro i cs j x hi hx;obtain⟨u,hu,hd⟩:=hr' i cs j x hi hx;have e:cur.getD (i*k+j) undef=u:=by simp[List.getD,hu]
    show DRd w' _ x (cur.getD (i*k+j) undef);rw[e];exact hd.keep hst (fun b hb _=>hA b hb)
inductive LookIn (os':List (Nat×Ob)):List (Nat×Ob)->Prop
 | nil:LookIn os' []
 | cons {i:Nat} {o:Ob} {r:List (Nat×Ob)} (h:Go.Ep.look os' i=some o) (t:LookIn os' r):LookIn os' ((i,o)::r)
theorem LookIn.get{os' l:List (Nat×Ob)}(h:LookIn os' l):∀ i o,Go.Ep.look l i=some o->Go.Ep.look os' i=some o:=by
 induction h with
 | nil=>intro i o h;simp[Go.Ep.look] at h
 | cons h _ ih=>
  intro j o2 hl;simp only[Go.Ep.look] at hl
  split at hl
  ·rename_i e;subst e;cases hl;exact h
  ·exact ih j o2 hl
theorem YIa{ρ:List (Nat×Nat)}{acc:List (Nat×Ob)}{i:Nat}{o:Ob}:∀ {l:List (Nat×Ob)},look l i=some o->(∀ j∈l.map (·.1),rn ρ j=rn ρ i->j=i)->look (l.foldr (fun x l=>yJ (rn ρ x.1) (x.2.ren ρ) l) acc) (rn ρ i)=some (o.ren ρ)
 | [],h,_=>by simp[look] at h
 | (k,q)::r,h,hi=>by
  rw[List.foldr_cons,zF]
  by_cases e:rn ρ i=rn ρ k
  ·rw[if_pos e];have:=hi k (by simp) e.symm;subst this;simp[look] at h;rw[h]
  ·rw[if_neg e];refine YIa (l:=r) ?_ (fun j hj=>hi j (by simp only[List.map_cons,List.mem_cons];exact .inr hj));simp only[look] at h;rw[if_neg (fun e2=>e (by rw[e2]))] at h;exact h
theorem lookN{ρ:List (Nat×Nat)}{acc:List (Nat×Ob)}{j:Nat}:∀ {l:List (Nat×Ob)},(∀ i∈l.map (·.1),rn ρ i≠j)->look (l.foldr (fun x l=>yJ (rn ρ x.1) (x.2.ren ρ) l) acc) j=look acc j
 | [],_=>rfl
 | (k,q)::r,h=>by
  rw[List.foldr_cons,zF,if_neg (fun e=>h k (by simp) e.symm)];exact lookN fun i hi=>h i (by simp only[List.map_cons,List.mem_cons];exact .inr hi)
theorem YJa{ρ:List (Nat×Nat)}{acc:List (Nat×Ob)}{j:Nat}:∀ {l:List (Nat×Ob)},(∀ i∈l.map (·.1),rn ρ i≠j)->look (l.foldr (fun x l=>uu (rn ρ x.1) l) acc) j=look acc j
 | [],_=>rfl
 | (k,q)::r,h=>by
  rw[List.foldr_cons,yp,if_neg (fun e=>h k (by simp) e.symm)];exact YJa fun i hi=>h i (by simp only[List.map_cons,List.mem_cons];exact .inr hi)
theorem v3a{l:List (Nat×Ob)}{i:Nat}(h:i∈l.map (·.1)):∃ o,look l i=some o:=by
 cases hl:look l i with
 | some o=>exact⟨o,rfl⟩
 | none=>
  exfalso
  induction l with
  | nil=>cases h
  | cons x r ih=>
   simp only[look] at hl
   split at hl
   ·cases hl
   ·rename_i e
    simp only[List.map_cons,List.mem_cons] at h;exact ih (h.resolve_left e) hl
section
variable{P:Program}{ctx:Ctx}{Q:PState->Prop}{s:PState}{ops:Array Oper}{rest:List Oper}{fs:List Ft}{f:Ft}
variable{dst:Option Tmp}{ty:TypeId}{pos:String}{after:Array Edge}{gd:Option (Nat×Bool)}
theorem PQe.callObjS{x:Operand}{xs:List Operand}{ats:Array TypeId}{fn:FuncId}{ps qs:List PV}{os os':List (Nat×Ob)}{pins:List Nat}{r:PV}(ρ:List (Nat×Nat))(js ks:List Nat)(osV osS:List (Nat×Ob))
  (hc:PObj P fn ps os pins r (fun _:Unit=>os')) (hK:∀ b,ctx.K b->ctx.S b)
  (hev:∀ s':PState,(∀ {y q},vA (⟨dst,.call ⟨.value x,xs.toArray,ats⟩,ty,pos,after,gd⟩:Oper) y=true->s.ev y=some q->s'.ev y=some q)->s'.ev x=some (.d (.v (.func (.func fn) #[] #[])))/\s'.evs xs=some qs)
  (he:∀ args w,(callFunc fn args).run P w=.ok (.enter fn args) w) (hq:qs.map PV.nilD=ps.map (PV.ren ρ)) (hos:AllOb s ρ os) (hV:LookIn os' osV) (hS:LookIn os' osS) (hAS:AllOb s ρ osS) (hcov:(os'.map (·.1)).all (fun i=>inL (osV.map (·.1)) i||inL (osS.map (·.1)) i)=true) (hSo:(osS.map (·.1)).all (inL (os.map (·.1)))=true)
  (hks:os'.map (·.1)=ks) (hcl:os'.all (fun x=>x.2.named ks)=true) (hr:r.named ks=true) (hok:calO ρ js (os.map (·.1)) pins ks f=true)
  (hg:Wd ops (⟨dst,.call ⟨.value x,xs.toArray,ats⟩,ty,pos,after,gd⟩:Oper) s) (hk:okE f (Ji ρ js dst r osV)=true) (h:PQe P ctx ops Q rest fs (s.app (Ji ρ js dst r osV))) :
  PQe P ctx ops Q (⟨dst,.call ⟨.value x,xs.toArray,ats⟩,ty,pos,after,gd⟩::rest) (f::fs) s:=by
 simp only[calO,Bool.and_eq_true] at hok;obtain⟨⟨⟨⟨⟨c1,c2⟩,c3⟩,c4⟩,c5⟩,c6⟩:=hok;refine .step (e:=Ji ρ js dst r osV) (fun s' hn hee ho hfr hal=>?_) hg hk h;obtain⟨h1,h2⟩:=hev s' (fun hx hq=>hee hx hq);have hinj:∀ i j,i∈os.map (·.1)++ks->j∈os.map (·.1)++ks->rn ρ i=rn ρ j->i=j:=fun i j hi hj e=>by
  have h3:=List.all_eq_true.1 (List.all_eq_true.1 c1 i hi) j hj;rw[Bool.or_eq_true,Bool.not_eq_true'] at h3;rcases h3 with h | h
  ·exact Nat.eq_of_beq_eq_true h
  ·rw[e,Nat.beq_refl] at h;cases h
 have hok':WD s' ρ js (os.map (·.1)) pins ks=true:=by
  unfold WD;rw[Bool.and_eq_true,Bool.and_eq_true];refine⟨⟨c1,?_⟩,?_⟩
  ·rw[List.all_eq_true] at c2 ⊢;intro i hi;have:=c2 i hi;rw[Bool.or_eq_true] at this ⊢;exact this.imp (fun h=>h) fun h=>hfr _ (zp.1 h)
  ·rw[List.all_eq_true] at c5 ⊢;intro i hi;have:=c5 i hi;rw[Bool.or_eq_true,Bool.or_eq_true] at this;rw[Bool.or_eq_true];rcases this with(h | h) | h
   ·exact .inl h
   ·refine .inr ?_;have hf:=hfr _ (zp.1 h);rw[Bool.and_eq_true];refine⟨xMa js hf,?_⟩;simp only[PState.fresh,Bool.and_eq_true,List.all_eq_true] at hf;rw[List.all_eq_true];intro y hy;rw[Bool.or_eq_true];exact .inl (hf.2 y hy).2
   ·refine .inr ?_;obtain⟨a,ha1,ha2⟩:=List.any_eq_true.1 h;simp only[Bool.and_eq_true,beq_iff_eq] at ha2;have hx:=hal a ha1;rw[Nat.eq_of_beq_eq_true ha2.1,ha2.2] at hx;unfold PState.aloneX at hx;rw[Bool.and_eq_true,yc] at hx;rw[Bool.and_eq_true];refine⟨hx.1,?_⟩;rw[List.all_eq_true] at c4;have hx2:=hx.2;rw[List.all_eq_true] at hx2 ⊢;intro y hy;have:=hx2 y hy;rw[Bool.or_eq_true] at this ⊢;rcases this with h | h
    ·exact .inr (c4 _ (zp.1 h))
    ·exact .inl h
 have hl:=LR.callObj (P:=P) (ctx:=ctx) (dst:=dst) (ty:=ty) (pos:=pos) (after:=after) (gd:=gd) (ats:=ats) ρ js ks hc hK h1 he h2 hq (hos.keep (fun hi hl=>ho (zp.1 hi) hl) c6) hks hcl hr hok';have hAS':AllOb s' ρ osS:=hAS.keep (f:=f) (fun hi hl=>ho (zp.1 hi) hl) (by
  rw[List.all_eq_true] at c6 hSo ⊢;exact fun i hi=>c6 i (zp.1 (hSo i hi)))
 refine hl.post (Sub.drop ?_ ?_ ?_)
 ·cases dst <;> rfl
 ·intro i p hp;have hat:=uH hp;have hlt:i < s'.n:=UW (s:=s'.app (Ji ρ js dst r osV)) hp;refine jY (by cases dst <;> exact hlt) ?_;simp only[PState.app,Ji] at hat
  cases dst with
  | none=>simpa[Jh,PState.putD,PState.callO,vK] using hat
  | some d=>simpa[Jh,PState.putD,PState.put,PState.callO,vK] using hat
 ·intro id o hlo;have e1:(s'.app (Ji ρ js dst r osV)).objs=osV.foldr (fun x l=>yJ (rn ρ x.1) (x.2.ren ρ) l) s'.objs:=by
   simp only[PState.app,Ji,List.foldr_map]
  have e2:((s'.callO ρ js os os').putD dst (r.ren ρ)).objs=os'.foldr (fun x l=>yJ (rn ρ x.1) (x.2.ren ρ) l) (os.foldr (fun x l=>uu (rn ρ x.1) l) s'.objs):=by cases dst <;> rfl
  rw[e1] at hlo;rw[e2];have inj':∀ i,i∈os'.map (·.1)->∀ j∈os'.map (·.1),rn ρ j=rn ρ i->j=i:=fun i hi j hj e=>hinj j i (List.mem_append_right _ (hks▸hj)) (List.mem_append_right _ (hks▸hi)) e
  rcases WQ hlo with⟨i,o1,h3,h4,h5⟩ | ⟨h3,h4⟩
  ·have h6:=hV.get i o1 h3;rw[h4,h5];exact YIa h6 (inj' i (yg h6))
  ·by_cases hex:∃ i∈os'.map (·.1),rn ρ i=id
   ·obtain⟨i,hi,rfl⟩:=hex;have h5:=List.all_eq_true.1 hcov i hi;rw[Bool.or_eq_true] at h5;rcases h5 with h5 | h5
    ·exact absurd rfl (h3 i (zp.1 h5))
    ·obtain⟨o2,h6⟩:=v3a (zp.1 h5);have h7:=hAS'.get i o2 h6;rw[h4] at h7
     cases h7
     exact YIa (hS.get i o2 h6) (inj' i hi)
   ·rw[lookN fun i hi e=>hex ⟨i,hi,e⟩,YJa fun i hi e=>hex ⟨i,by rw[hks];exact zp.1 (List.all_eq_true.1 c3 i hi),e⟩];exact h4
end
section
variable{P:Program}{ctx:Ctx}{s:PState}
variable{dst:Option Tmp}{ty:TypeId}{pos:String}{after:Array Edge}{gd:Option (Nat×Bool)}
theorem YKa{os os':List (Nat×Ob)}{pins:List Nat}{r:PV}(ρ:List (Nat×Nat))(js ks:List Nat)(osV osS:List (Nat×Ob))(hV:LookIn os' osV)(hS:LookIn os' osS)(hAS:AllOb s ρ osS)(hcov:(os'.map (·.1)).all (fun i=>inL (osV.map (·.1)) i||inL (osS.map (·.1)) i)=true)(c3:(os.map (·.1)).all (inL ks)=true)
  (hks:os'.map (·.1)=ks) (hok:WD s ρ js (os.map (·.1)) pins ks=true):Sub ctx ((s.callO ρ js os os').putD dst (r.ren ρ)) (s.app (Ji ρ js dst r osV)):=by
 have hinj:∀ i j,i∈os.map (·.1)++ks->j∈os.map (·.1)++ks->rn ρ i=rn ρ j->i=j:=fun i j hi hj e=>by
  simp only[WD,Bool.and_eq_true] at hok;have h3:=List.all_eq_true.1 (List.all_eq_true.1 hok.1.1 i hi) j hj;rw[Bool.or_eq_true,Bool.not_eq_true'] at h3;rcases h3 with h | h
  ·exact Nat.eq_of_beq_eq_true h
  ·rw[e,Nat.beq_refl] at h;cases h
 refine Sub.drop ?_ ?_ ?_
 ·cases dst <;> rfl
 ·intro i p hp;have hat:=uH hp;have hlt:i < s.n:=UW (s:=s.app (Ji ρ js dst r osV)) hp;refine jY (by cases dst <;> exact hlt) ?_;simp only[PState.app,Ji] at hat
  cases dst with
  | none=>simpa[Jh,PState.putD,PState.callO,vK] using hat
  | some d=>simpa[Jh,PState.putD,PState.put,PState.callO,vK] using hat
 ·intro id o hlo;have e1:(s.app (Ji ρ js dst r osV)).objs=osV.foldr (fun x l=>yJ (rn ρ x.1) (x.2.ren ρ) l) s.objs:=by
   simp only[PState.app,Ji,List.foldr_map]
  have e2:((s.callO ρ js os os').putD dst (r.ren ρ)).objs=os'.foldr (fun x l=>yJ (rn ρ x.1) (x.2.ren ρ) l) (os.foldr (fun x l=>uu (rn ρ x.1) l) s.objs):=by cases dst <;> rfl
  rw[e1] at hlo;rw[e2];have inj':∀ i,i∈os'.map (·.1)->∀ j∈os'.map (·.1),rn ρ j=rn ρ i->j=i:=fun i hi j hj e=>hinj j i (List.mem_append_right _ (hks▸hj)) (List.mem_append_right _ (hks▸hi)) e
  rcases WQ hlo with⟨i,o1,h3,h4,h5⟩ | ⟨h3,h4⟩
  ·have h6:=hV.get i o1 h3;rw[h4,h5];exact YIa h6 (inj' i (yg h6))
  ·by_cases hex:∃ i∈os'.map (·.1),rn ρ i=id
   ·obtain⟨i,hi,rfl⟩:=hex;have h5:=List.all_eq_true.1 hcov i hi;rw[Bool.or_eq_true] at h5;rcases h5 with h5 | h5
    ·exact absurd rfl (h3 i (zp.1 h5))
    ·obtain⟨o2,h6⟩:=v3a (zp.1 h5);have h7:=hAS.get i o2 h6;rw[h4] at h7
     cases h7
     exact YIa (hS.get i o2 h6) (inj' i hi)
   ·rw[lookN fun i hi e=>hex ⟨i,hi,e⟩,YJa fun i hi e=>hex ⟨i,by rw[hks];exact zp.1 (List.all_eq_true.1 c3 i hi),e⟩];exact h4
theorem LR.callObjS{x:Operand}{xs:List Operand}{ats:Array TypeId}{fn:FuncId}{ps qs:List PV}{os os':List (Nat×Ob)}{pins:List Nat}{r:PV}(ρ:List (Nat×Nat))(js ks:List Nat)(osV osS:List (Nat×Ob))
  (hc:PObj P fn ps os pins r (fun _:Unit=>os')) (hK:∀ b,ctx.K b->ctx.S b) (hx:s.ev x=some (.d (.v (.func (.func fn) #[] #[])))) (he:∀ args w,(callFunc fn args).run P w=.ok (.enter fn args) w) (hps:s.evs xs=some qs)
  (hq:qs.map PV.nilD=ps.map (PV.ren ρ)) (hos:AllOb s ρ os) (hV:LookIn os' osV) (hS:LookIn os' osS) (hAS:AllOb s ρ osS) (hcov:(os'.map (·.1)).all (fun i=>inL (osV.map (·.1)) i||inL (osS.map (·.1)) i)=true) (c3:(os.map (·.1)).all (inL ks)=true)
  (hks:os'.map (·.1)=ks) (hcl:os'.all (fun x=>x.2.named ks)=true) (hr:r.named ks=true) (hok:WD s ρ js (os.map (·.1)) pins ks=true) :
  Local P ctx ⟨dst,.call ⟨.value x,xs.toArray,ats⟩,ty,pos,after,gd⟩ s (s.app (Ji ρ js dst r osV)):=
 (LR.callObj (P:=P) (ctx:=ctx) (dst:=dst) (ty:=ty) (pos:=pos) (after:=after) (gd:=gd) (ats:=ats) ρ js ks hc hK hx he hps hq hos hks hcl hr hok).post (YKa ρ js ks osV osS hV hS hAS hcov c3 hks hok)
theorem LR.appTD{α:Type}{enc:α->List DV}{L R:List α}{x y:Operand}{id m k bs':Nat}{t t' e e':TypeId}(js:List Nat)(hK:∀ b,ctx.K b->ctx.S b)(hE:ElemOK P t e k bs')(hu':P.underlying t'=some (.slice e'))(hx:s.ev x=some (.row id m))(hm:m=L.length)
  (hl:look s.objs id=some (.row e k (L.map enc))) (hy:Src ctx s y (R.map enc) k) (hk:∀ x,(enc x).length=k) (hb:(L.length+R.length)*bs'<=140737488355328) (h1:Nat.ble 1 bs'=true) (ha:(s.junks js).alone id=true) :
  Local P ctx ⟨dst,.call ⟨.builtin .append,#[x,y],#[t,t']⟩,ty,pos,after,gd⟩ s (((s.junks js).setO id (.row e k [])).putD dst (.d (.sl ((L++R).map enc)))):=by
 refine(LR.appT (enc:=enc) (L:=L) (R:=R) (dst:=dst) js hE hu' hx hm hl hy hk hb h1 ha).post ?_;rintro a w ⟨g,hg⟩;have hl1:look (((s.junks js).setO id (.row e k ((L++R).map enc))).putD dst (.row id (L++R).length)).objs id=some (.row e k ((L++R).map enc)):=by
  rw[xP];show look (yJ id _ _) id=_;rw[zF,if_pos rfl]
 have hha:∀ i p,i < s.n->xa (s.junks js).sl i=some p->p.has id=false:=fun i p hi hp=>by
  have:(s.junks js).at i=some p:=jY (by rw[wI];exact hi) hp;exact jZ ha this
 -- the row becomes data
 have hs2:∃ g',RelG ctx g' { n:=s.n,sl:=Jh dst (PV.d (.sl ((L++R).map enc)))++(s.junks js).sl,objs:=uu id (s.junks js).objs } a w:=by
  cases dst with
  | none=>
   have:=Sub.frz (s:=((s.junks js).setO id (.row e k ((L++R).map enc))).putD none (.row id (L++R).length)) (ctx:=ctx) (n:=(L++R).length) [] hK hl1 (by simp) (by simp) a w ⟨g,hg⟩;refine Sub.same ?_ ?_ (fun i=>?_) a w this
   ·simp[PState.frz,PState.putD,PState.setO,wI]
   ·rfl
   ·show look (uu id (yJ id _ _)) i=look (uu id _) i;rw[yp,yp,zF]
    by_cases h:i=id <;> simp[h]
  | some d=>
   by_cases hd:d < s.n
   ·have:=Sub.frz (s:=((s.junks js).setO id (.row e k ((L++R).map enc))).putD (some d) (.row id (L++R).length)) (ctx:=ctx) (n:=(L++R).length) [d] hK hl1 (by simp) (by
     intro j hj;rw[List.mem_singleton] at hj;subst hj;refine jY (by show j < (s.junks js).n;rw[wI];exact hd) ?_;show xa ((j,_)::_) j=_;rw[yo,if_pos rfl]) a w ⟨g,hg⟩
    refine Sub.drop ?_ (fun i p hp=>?_) (fun i o ho=>?_) a w this
    ·simp[PState.frz,PState.putD,PState.put,PState.setO,wI]
    ·have h1:xa ((d,PV.d (.sl ((L++R).map enc)))::(s.junks js).sl) i=some p:=uH hp;have h2:=UW hp;refine jY (by show i < (s.junks js).n;rw[wI];exact h2) ?_;show xa ((d,_)::(d,_)::_) i=some p;simp only[yo] at h1 ⊢
     split
     ·rename_i e;rw[if_pos e] at h1;exact h1
     ·rename_i e;rw[if_neg e] at h1;exact h1
    ·show look (uu id (yJ id _ _)) i=some o;have ho':look (uu id (s.junks js).objs) i=some o:=ho;rw[yp,zF];rw[yp] at ho'
     by_cases h:i=id <;> simp_all
   ·have:=Sub.frz (s:=((s.junks js).setO id (.row e k ((L++R).map enc))).putD (some d) (.row id (L++R).length)) (ctx:=ctx) (n:=(L++R).length) [] hK hl1 (by simp) (by simp) a w ⟨g,hg⟩;refine Sub.drop ?_ (fun i p hp=>?_) (fun i o ho=>?_) a w this
    ·simp[PState.frz,PState.putD,PState.put,PState.setO,wI]
    ·have h1:xa ((d,PV.d (.sl ((L++R).map enc)))::(s.junks js).sl) i=some p:=uH hp;have h2:i < s.n:=UW (s:={ n:=s.n,sl:=Jh (some d) (PV.d (.sl ((L++R).map enc)))++(s.junks js).sl,objs:=uu id (s.junks js).objs }) hp;refine jY (by show i < (s.junks js).n;rw[wI];exact h2) ?_;show xa ((d,_)::_) i=some p;simp only[yo] at h1 ⊢;have hne:¬ d=i:=fun e=>hd (by rw[e];exact h2)
     rw[if_neg hne] at h1 ⊢;exact h1
    ·show look (uu id (yJ id _ _)) i=some o;have ho':look (uu id (s.junks js).objs) i=some o:=ho;rw[yp,zF];rw[yp] at ho'
     by_cases h:i=id <;> simp_all
 obtain⟨g',hg'⟩:=hs2;have hfr:PState.fresh { n:=s.n,sl:=Jh dst (PV.d (.sl ((L++R).map enc)))++(s.junks js).sl,objs:=uu id (s.junks js).objs } id=true:=by
  unfold PState.fresh;rw[Bool.and_eq_true];unfold PState.alone at ha;rw[Bool.and_eq_true] at ha;refine⟨ql fun x hx hh q hq=>?_,List.all_eq_true.2 fun x hx=>?_⟩
  ·cases dst with
   | none=>exact Wy ha.1 hx hq hh
   | some d=>
    have hq:xa ((d,PV.d (.sl ((L++R).map enc)))::(s.junks js).sl) x.1=some q:=hq;rcases List.mem_cons.1 hx with h | h
    ·rw[h] at hh;simp[PV.has] at hh
    ·simp only[yo] at hq
     split at hq
     ·cases hq;rfl
     ·exact Wy ha.1 h hq hh
  ·have h2:=Uj hx;have h3:=List.all_eq_true.1 ha.2 x h2.2;simp[h2.1,h3]
 have h3:=hg'.new (Below.refl _ w) hfr none (fun b n e=>by cases e) (.row e k []) (.rowNil e k (zZ _ _ _));refine Sub.drop ?_ (fun i p hp=>?_) (fun i o ho=>?_) a w ⟨_,h3⟩
 ·cases dst <;> simp[PState.putD,PState.put,PState.setO,wI]
 ·have h1:=uH hp;have h2:i < s.n:=by have:=UW hp;cases dst <;> simpa[PState.putD,PState.put,PState.setO,wI] using this
  refine jY h2 ?_
  cases dst <;> exact h1
 ·show look (yJ id _ (uu id _)) i=some o;rw[xP] at ho;have ho':look (yJ id (.row e k []) (s.junks js).objs) i=some o:=ho;rw[zF,yp];rw[zF] at ho'
  by_cases h:i=id <;> simp_all
end
end Go.Ep
namespace Go.Ep
open Go.RowKit
section
variable{P:Program}{ctx:Ctx}{Q:PQ}{s:PState}
variable{dst:Option Tmp}{ty:TypeId}{pos:String}{after:Array Edge}{gd:Option (Nat×Bool)}
theorem EpRd.of{w:World}{g:zw}{S:Nat->Prop}{ds:List DV}{u:Value}(h:Rd w g S (.ep ds 0) u):EpRd w S ds u:=by
 cases h with
 | ep _ b off _ c hS hb hc hr=>exact⟨b,off,c,rfl,hS,hb,hc,hr⟩
end
section
variable{ctx:Ctx}{s:PState}
inductive AllRef (s:PState) (id:Nat):List Nat->Prop
 | nil:AllRef s id []
 | cons {j:Nat} {js:List Nat} (h:s.at j=some (.ref id 0)) (r:AllRef s id js):AllRef s id (j::js)
theorem AllRef.get{id:Nat}{js:List Nat}(h:AllRef s id js):∀ j∈js,s.at j=some (.ref id 0):=by
 induction h with
 | nil=>intro j hj;cases hj
 | cons h _ ih=>
  intro j hj;rcases List.mem_cons.1 hj with rfl | hj
  ·exact h
  ·exact ih j hj
end
inductive wka (s:PState):List PV->List PV->Prop
 | nil:wka s [] []
 | data {q p:PV} {qs ps:List PV} (h:q.nilD=p) (hd:p.isData=true) (t:wka s qs ps):wka s (q::qs) (p::ps)
 | row {id n k:Nat} {e:TypeId} {l:List (List DV)} {qs ps:List PV} (hl:look s.objs id=some (.row e k l)) (hn:l.length=n) (t:wka s qs ps):wka s (.row id n::qs) (.d (.sl l)::ps)
 | nest {id id2 n k:Nat} {e T:TypeId} {l:List (List DV)} {qs ps:List PV} (h2:look s.objs id2=some (.cells T [.row id n])) (hl:look s.objs id=some (.row e k l)) (hn:l.length=n) (t:wka s qs ps):wka s (.pa id2 0 1::qs) (.d (.sl [[.sl l]])::ps)
section
variable{P:Program}{ctx:Ctx}{Q:PQ}{s:PState}
variable{dst:Option Tmp}{ty:TypeId}{pos:String}{after:Array Edge}{gd:Option (Nat×Bool)}
def LentS(ctx:Ctx)(g:zw)(s:PState)(b:Nat):Prop:=yE ctx g s.objs b\/∃ id o n,look s.objs id=some o/\g id=some (b,n)
end
end Go.Ep
namespace Go.Ep
open Go Go.RowKit
def aIx(o:Nat)(i:Int):Nat:=o+i.toNat
namespace AR
def pl(k:IntKind)(A:A16):List PV:=(l A).map fun n=>.d (.v (.int k n))
theorem pl_get{k:IntKind}{A:A16}{i:Nat}(h:i < 16):(pl k A)[i]?=some (.d (.v (.int k (get A i)))):=by
 unfold pl;rw[List.getElem?_map,get_lt h];rfl
theorem at_{cs:List PV}{o i:Nat}{k:IntKind}{A:A16}(h:(cs.drop o).take 16=pl k A)(hi:i < 16):cs[o+i]?=some (.d (.v (.int k (get A i)))):=by
 rw[<- pl_get hi,<- h,List.getElem?_take,if_pos hi,List.getElem?_drop]
theorem room{cs:List PV}{o:Nat}{k:IntKind}{A:A16}(h:(cs.drop o).take 16=pl k A):o+16<=cs.length:=by
 have e:=congrArg List.length h;rw[List.length_take,List.length_drop] at e;have:(pl k A).length=16:=rfl;omega
theorem parts{cs:List PV}{o:Nat}{k:IntKind}{A:A16}(h:(cs.drop o).take 16=pl k A):cs=cs.take o++(pl k A++cs.drop (o+16)):=by
 have e:cs.drop o=pl k A++cs.drop (o+16):=by
  rw[<- h,<- List.drop_drop,List.take_append_drop]
 rw[<- e,List.take_append_drop]
theorem put{cs:List PV}{o i:Nat}{k:IntKind}{A:A16}{v:Int}(h:(cs.drop o).take 16=pl k A)(hi:i < 16) :
  cs.take (o+i)++[.d (.v (.int k v))]++cs.drop (o+i+1)=cs.take o++pl k (set A i v)++cs.drop (o+16):=by
 have hr:=room h;have e1:cs.take (o+i)++[.d (.v (.int k v))]++cs.drop (o+i+1)=cs.set (o+i) (.d (.v (.int k v))):=by
  rw[List.set_eq_take_append_cons_drop,if_pos (by omega),List.append_assoc];rfl
 have hl:(cs.take o).length=o:=by rw[List.length_take];omega
 have hp:(pl k A).length=16:=rfl;have e2:cs.set (o+i) (.d (.v (.int k v)))=cs.take o++((pl k A).set i (.d (.v (.int k v)))++cs.drop (o+16)):=by
  conv=>lhs;rw[parts h]
  rw[List.set_append_right _ _ (by omega),hl,show o+i - o=i by omega,List.set_append_left _ _ (by omega)]
 rw[e1,e2,<- List.append_assoc]
 congr 2
 unfold pl;rw[l_set,List.map_set]
end AR
section
variable{P:Program}{ctx:Ctx}{Q:PQ}{s:PState}
variable{dst:Option Tmp}{ty:TypeId}{pos:String}{after:Array Edge}{gd:Option (Nat×Bool)}
theorem JL{t e:TypeId}{n k:Nat}(hu:P.underlying t=some (.array n e))(h2:1 < n)(hs:∀ w,(sizeOf e).run P w=.ok k w)(b off:Nat)(ki:IntKind)(i:Int)(hi:0<=i/\i < (n:Int))(w:World) :
  (Instr.indexAt t (.pointer (some ⟨b,off,none⟩)) (.int ki i)).run P w=.ok (.pointer (some ⟨b,off+i.toNat*k,none⟩)) w:=by
 simp[Instr.indexAt,asIntOf,run_underlying hu,hi.1,hi.2,hs,Addr.add_lit,Result.andThen,Instr.sureAddr]
theorem LR.idxArr{x ix:Operand}{id o n:Nat}{ki:IntKind}{i:Int}{t e:TypeId}(hu:P.underlying t=some (.array n e))(h2:Nat.blt 1 n=true)(hs:∀ w,(sizeOf e).run P w=.ok 1 w)
  (hx:s.ev x=some (.ref id o)) (hix:s.ev ix=some (.d (.v (.int ki i)))) (hi:0<=i/\i < (n:Int)) :
  Local P ctx ⟨dst,.indexAddr t x ix,ty,pos,after,gd⟩ s (s.putD dst (.ref id (aIx o i))):=
 zN (o:=⟨dst,.indexAddr t x ix,ty,pos,after,gd⟩) fun a w g hg=>by
  have h:=hg.ev hx
  generalize hv:a.eval x=v at h
  cases h with
  | ref _ _ blk m hgi=>
   refine⟨.pointer (some ⟨blk,aIx o i,none⟩),?_,.ref id _ blk m hgi⟩;have:=JL (P:=P) hu (by simpa[Nat.blt_eq] using h2) hs blk o ki i hi w;rw[Nat.mul_one] at this;simp[execOp,hv,wP hg hix,this,Result.andThen,aIx]
theorem LR.idxArrK{x ix:Operand}{id o n k j:Nat}{ki:IntKind}{i:Int}{t e:TypeId}(hu:P.underlying t=some (.array n e))(h2:Nat.blt 1 n=true)(hs:∀ w,(sizeOf e).run P w=.ok k w)
  (hx:s.ev x=some (.ref id o)) (hix:s.ev ix=some (.d (.v (.int ki i)))) (hi:i=(j:Int)) (hj:Nat.blt j n=true) :
  Local P ctx ⟨dst,.indexAddr t x ix,ty,pos,after,gd⟩ s (s.putD dst (.ref id (o+j*k))):=
 zN (o:=⟨dst,.indexAddr t x ix,ty,pos,after,gd⟩) fun a w g hg=>by
  have h:=hg.ev hx;rw[Nat.blt_eq] at h2 hj
  generalize hv:a.eval x=v at h
  cases h with
  | ref _ _ blk m hgi=>
   refine⟨.pointer (some ⟨blk,o+j*k,none⟩),?_,.ref id _ blk m hgi⟩;have:=JL (P:=P) hu h2 hs blk o ki i (by omega) w;rw[hi,Int.toNat_natCast] at this;simp[execOp,hv,wP hg hix,hi,this,Result.andThen]
theorem LR.loadArr{x:Operand}{id o:Nat}{i:Int}{T T0:TypeId}{cs:List PV}(k:IntKind)(A:A16)(ha:∀ w,(isAgg T).run P w=.ok false w)(hx:s.ev x=some (.ref id (aIx o i)))(hl:look s.objs id=some (.cells T0 cs))
  (hi:0<=i/\i < ((16:Nat):Int)) (hA:(cs.drop o).take 16=AR.pl k A) :
  Local P ctx ⟨dst,.load T x,ty,pos,after,gd⟩ s (s.putD dst (.d (.v (.int k (AR.get A i.toNat))))):=LR.loadRef ha hx hl (AR.at_ hA (AR.lt hi))
theorem LR.storeArr{x y:Operand}{id o:Nat}{i v:Int}{T T0:TypeId}{cs ns:List PV}(k:IntKind)(A:A16)(hs:∀ w,(sizeOf T).run P w=.ok 1 w)(hx:s.ev x=some (.ref id (aIx o i)))(hy:s.ev y=some (.d (.v (.int k v))))(hl:look s.objs id=some (.cells T0 cs))
  (hi:0<=i/\i < ((16:Nat):Int)) (hA:(cs.drop o).take 16=AR.pl k A) (hns:cs.take o++AR.pl k (AR.set A i.toNat v)++cs.drop (o+16)=ns) :
  Local P ctx ⟨none,.store T x y,ty,pos,after,gd⟩ s (s.setO id (.cells T0 ns)):=by
 have h16:=AR.lt hi;have hr:=AR.room hA;exact LR.store (ps:=[.d (.v (.int k v))]) hs hx hy rfl rfl hl (by unfold aIx;omega) (by rw[<- hns,<- AR.put hA h16];rfl)
theorem LR.sliceArr{x:Operand}{id o n k:Nat}{t e:TypeId}(hu:P.underlying t=some (.array n e))(hs:∀ w,(sizeOf e).run P w=.ok k w)(hx:s.ev x=some (.ref id o)) :
  Local P ctx ⟨dst,.slice t x none none none,ty,pos,after,gd⟩ s (s.putD dst (.pa id o n)):=
 zN (o:=⟨dst,.slice t x none none none,ty,pos,after,gd⟩) fun a w g hg=>by
  have h:=hg.ev hx
  generalize hv:a.eval x=v at h
  cases h with
  | ref _ _ blk m hgi=>
   refine⟨.slice (some ⟨blk,o,none⟩) n n,?_,.pa id o n blk m hgi⟩;simp[execOp,hv,Instr.sliceAt,Instr.sureAddr,Instr.sliceBounds,run_underlying hu,hs,Addr.add_lit,Result.andThen]
theorem z6a{w:World}{S:Nat->Prop}{k:IntKind}{L:List Int}{u:Value}(h:DRd w S (.sl (L.map (eK k))) u){m:Nat}(hm:m<=L.length) :
  (Builtin.firstCells 1 m u).run P w=.ok ((L.take m).map (Value.int k)).toArray w/\∃ ao cap,u=.slice ao L.length cap:=by
 generalize hl:L.map (eK k)=l at h
 cases h with
 | nil a cap hc hn=>
  have hL:L=[]:=by simpa using hl
  subst hL;have h0:m=0:=by simpa using hm
  subst h0;refine⟨?_,a,cap,rfl⟩
  cases a with
  | none=>simp[Builtin.firstCells]
  | some a=>simpa[Builtin.firstCells] using run_loadCells_list (P:=P) w a [] (fun j v hj=>by simp at hj)
 | sl _ b off cap k' c hll hcap hS hb hkk hc hr=>
  subst hl;refine⟨?_,_,cap,by rw[List.length_map]⟩;have key:=run_loadCells_list (P:=P) w ⟨b,off,none⟩ ((L.take m).map (Value.int k)) fun j v hj=>by
   rw[List.getElem?_map,List.getElem?_take] at hj
   split at hj
   ·rename_i hjm
    have hjl:j < L.length:=by omega
    rw[List.getElem?_eq_getElem hjl] at hj;simp only[Option.map_some,Option.some.injEq] at hj;have hel:(L.map (eK k))[j]?=some (eK k L[j]):=by rw[List.getElem?_map,List.getElem?_eq_getElem hjl];rfl
    have hk1:k'=1:=(hkk j _ hel).symm;have h1:=hc j 0 (by rw[List.length_map];exact hjl) (by omega);have h2:=hr j _ 0 (.v (.int k L[j])) hel rfl;rw[hk1,Nat.mul_one,Nat.add_zero] at h1;have h3:c j 0=.int k L[j]:=by
     generalize c j 0=z at h2
     cases h2 with
     | v=>rfl
    rw[Addr.add_lit,h1,<- hj,h3]
   ·cases hj
  rw[List.length_map,List.length_take,Nat.min_eq_left hm] at key;simpa[Builtin.firstCells] using key
theorem LR.copyArr{x y:Operand}{id o:Nat}{T0 t1 t2 e:TypeId}{cs ns:List PV}(k:IntKind)(A:A16){L:List Int}(hu:P.underlying t1=some (.slice e))(hs:∀ w,(sizeOf e).run P w=.ok 1 w)
  (hx:s.ev x=some (.pa id o 16)) (hy:s.ev y=some (.d (.sl (L.map (eK k))))) (hl:look s.objs id=some (.cells T0 cs)) (hA:(cs.drop o).take 16=AR.pl k A) (hns:cs.take o++AR.pl k (AR.over A L)++cs.drop (o+16)=ns) :
  Local P ctx ⟨dst,.call ⟨.builtin .copy,#[x,y],#[t1,t2]⟩,ty,pos,after,gd⟩ s ((s.setO id (.cells T0 ns)).putD dst (.d (.v (.int .i64 (min L.length 16:Nat))))):=by
 refine yT (o:=⟨dst,.call ⟨.builtin .copy,#[x,y],#[t1,t2]⟩,ty,pos,after,gd⟩) fun a w g hg=>?_
 have hxv:=hg.ev hx;have hyv:=hg.ev hy
 generalize hv:a.eval x=v at hxv
 generalize hv2:a.eval y=v2 at hyv
 cases hyv with
 | d hyd=>
 obtain⟨hf,ao,cap,rfl⟩:=z6a (P:=P) hyd (m:=min L.length 16) (Nat.min_le_left _ _)
 cases hxv with
 | pa _ _ _ blk n hgi=>
  cases hg.objs id _ hl with
  | cells _ _ blk' n' us h' hh hulen hr h1=>
   rw[hgi] at h'
   cases h'
   have hroom:=AR.room hA
   let vs:List Value:=(L.take (min L.length 16)).map (Value.int k)
   have hvl:vs.length=min L.length 16:=by simp only[vs,List.length_map,List.length_take];omega
   have hv1:∀ u∈vs,u.oneCell'=true:=fun u hu=>by
    obtain⟨i,_,rfl⟩:=List.mem_map.1 hu;rfl
   have hrun:=run_storeCells_at P blk o T0 vs 0 us.toArray w hh (by simp;omega) hv1
   let new:List Value:=us.take o++vs++us.drop (o+vs.length)
   have hrun':(storeCells ⟨blk,o,none⟩ vs).run P w=.ok () (w.setRow blk new.toArray):=by
    simpa[new] using hrun
   refine⟨.int .i64 (min L.length 16:Nat),w.setRow blk new.toArray,?_,g,?_⟩
   ·have hmin:Nat.min L.length 16=min L.length 16:=rfl;have hrun2:(storeCells ⟨blk,o,none⟩ (List.take (min L.length 16) (List.map (Value.int k) L))).run P w=.ok () (w.setRow blk new.toArray):=by
     rw[<- List.map_take];exact hrun'
    simp[execOp,resolve,invoke,builtin,hv,hv2,Builtin.copy_,run_underlying hu,hs,Builtin.lenOf,hmin,hf,hrun2,Result.andThen,goInt]
   ·have hown:=hg.own id _ blk n hl hgi;have hother:∀ k,k < w.heap.size->k≠blk->(w.setRow blk new.toArray).heap[k]?=w.heap[k]?:=fun k _ hne=>setRow_other w blk k _ hne
    have hst:xC w (w.setRow blk new.toArray) (yE ctx g s.objs):=⟨by simp,fun b ⟨_,h2⟩ hlt=>hother b hlt fun e=>by subst e;exact h2 id _ n hl hgi⟩
    suffices hob:ObRd (w.setRow blk new.toArray) g (yE ctx g (yJ id (.cells T0 ns) s.objs)) id (.cells T0 ns) from (hg.wrote (w':=w.setRow blk new.toArray) hl hgi rfl rfl rfl (by simp) hother hown.2 hob).put dst (.d (.v (.int .i64 (min L.length 16:Nat)) rfl))
    have hF:=vb (ctx:=ctx) (g:=g) (ob':=.cells T0 ns) hl;have hlt:(L.take 16)=L.take (min L.length 16):=by
     rcases Nat.le_total L.length 16 with h | h
     ·rw[Nat.min_eq_left h,List.take_of_length_le h,List.take_of_length_le (Nat.le_refl _)]
     ·rw[Nat.min_eq_right h]
    have hl16:(L.take 16).length=min L.length 16:=by rw[List.length_take];omega
    have hnl:ns=cs.take o++(vs.map fun u=>PV.d (.v u))++cs.drop (o+vs.length):=by
     rw[<- hns];have e1:AR.pl k (AR.over A L)=(vs.map fun u=>PV.d (.v u))++(AR.pl k A).drop (min L.length 16):=by
      unfold AR.pl;rw[AR.l_over,List.map_append,List.map_drop,hl16,hlt];simp[vs,Function.comp_def]
     have e2:cs.drop (o+vs.length)=(AR.pl k A).drop (min L.length 16)++cs.drop (o+16):=by
      have hlo:(cs.take o).length=o:=by rw[List.length_take];omega
      have hp:(AR.pl k A).length=16:=rfl
      conv=>lhs;rw[AR.parts hA]
      rw[List.drop_append,List.drop_eq_nil_of_le (by omega),List.nil_append,hlo,show o+vs.length - o=min L.length 16 by omega,List.drop_append,show min L.length 16 - (AR.pl k A).length=0 by omega,List.drop_zero]
     rw[e1,e2];simp only[List.append_assoc]
    refine .cells T0 _ blk n new hgi (uA hh) (by rw[hnl];simp[new,hulen]) ?_ ?_
    ·intro i q u hq hu;rw[hnl] at hq;have key:Rd w g (yE ctx g s.objs) q u:=by
      simp only[new] at hu;rw[List.append_assoc,List.getElem?_append] at hq hu;have l1:(cs.take o).length=o:=by rw[List.length_take];omega
      have l2:(us.take o).length=o:=by rw[List.length_take];omega
      rw[l1] at hq;rw[l2] at hu
      by_cases h3:i < o
      ·rw[if_pos h3] at hq hu;simp only[List.getElem?_take,h3,if_true] at hq hu;exact hr i q u hq hu
      ·rw[if_neg h3] at hq hu;rw[List.getElem?_append] at hq hu;rw[List.length_map] at hq
       by_cases h4:i - o < vs.length
       ·rw[if_pos h4] at hq hu;rw[List.getElem?_map,hu] at hq;simp only[Option.map_some,Option.some.injEq] at hq;subst hq;exact .d (.v _ (hv1 _ (List.mem_of_getElem? hu)))
       ·rw[if_neg h4] at hq hu;rw[List.getElem?_drop] at hq hu;exact hr _ q u hq hu
     exact key.keep hst (fun b hb _=>hF b hb) (fun _ _=>rfl)
    ·intro u hu;simp only[new,List.append_assoc,List.mem_append] at hu;rcases hu with hu | hu | hu
     ·exact h1 u (List.mem_of_mem_take hu)
     ·exact hv1 u hu
     ·exact h1 u (List.mem_of_mem_drop hu)
theorem LR.rowLendPa{id id2 o:Nat}{x y:Operand}{ats:Array TypeId}{f:FuncId}{e T0:TypeId}{cs:List PV}{L:List Int}(k:IntKind)(A:A16)(hc:PRow P f [.d (.sl ((AR.l A).map (eK k)))] e 1 (L.map (eK k)))(hx:s.ev x=some (.d (.v (.func (.func f) #[] #[]))))(he:∀ args w,(callFunc f args).run P w=.ok (.enter f args) w)
  (hy:s.ev y=some (.pa id2 o 16)) (hl:look s.objs id2=some (.cells T0 cs)) (hA:(cs.drop o).take 16=AR.pl k A) (hf:s.fresh id=true) :
  Local P ctx ⟨some id,.call ⟨.value x,#[y],ats⟩,ty,pos,after,gd⟩ s (s.newO id (.row e 1 (L.map (eK k))) (.row id L.length)):=
 Xa (o:=⟨some id,.call ⟨.value x,#[y],ats⟩,ty,pos,after,gd⟩) fun a w g hg=>by
  refine⟨f,_,Zw (o:=⟨some id,.call ⟨.value x,#[y],ats⟩,ty,pos,after,gd⟩) rfl (Jd hg hx) he w,?_⟩;have hyv:=hg.ev hy;have hob:=hg.objs id2 _ hl;rw[show(#[y].map a.eval:Array Value)=[a.eval y].toArray by simp]
  generalize hv:a.eval y=v at hyv
  cases hyv with
  | pa _ _ _ blk n hgi=>
  cases hob with
  | cells _ _ blk' n' us h' hh hulen hr h1=>
  rw[hgi] at h'
  cases h'
  have hown:=hg.own id2 _ blk n hl hgi;have hroom:=AR.room hA;have hlen16:((AR.l A).map (eK k)).length=16:=rfl;have hd:DRd w (LentS ctx g s) (.sl ((AR.l A).map (eK k))) (.slice (some ⟨blk,o,none⟩) 16 16):=by
   have:=DRd.sl (w:=w) (S:=LentS ctx g s) ((AR.l A).map (eK k)) blk o 16 1 (fun i _=>.int k (AR.get A i)) (by rw[hlen16];omega) (by decide) (.inr ⟨id2,_,n,hl,hgi⟩) hown.1 (fun i cs' hi=>?_) (fun i j hi hj=>?_) (fun i cs' j x hi hx=>?_)
   ·rwa [hlen16] at this
   ·rw[List.getElem?_map] at hi
    cases hq:(AR.l A)[i]? with
    | none=>rw[hq] at hi;cases hi
    | some q=>rw[hq] at hi;simp only[Option.map_some,Option.some.injEq] at hi;subst hi;rfl
   ·have hj0:j=0:=by omega
    subst hj0;rw[hlen16] at hi;rw[yD hh,Nat.mul_one,Nat.add_zero];have h5:=AR.at_ hA hi;have h6:o+i < us.length:=by rw[<- hulen];exact(List.getElem?_eq_some_iff.1 h5).1
    have h7:us[o+i]?=some us[o+i]:=List.getElem?_eq_getElem h6;have h8:=hr _ _ _ h5 h7;rw[h7]
    generalize us[o+i]=z at h8
    cases h8 with
    | d h=>cases h with
     | v=>rfl
   ·have hi16:i < 16:=by have:=(List.getElem?_eq_some_iff.1 hi).1;rwa [hlen16] at this
    rw[List.getElem?_map,AR.get_lt hi16] at hi;simp only[Option.map_some,Option.some.injEq] at hi;subst hi
    cases j with
    | zero=>simp[eK] at hx;subst hx;exact .v _ rfl
    | succ j=>simp[eK] at hx
  refine(hc w (LentS ctx g s) [.slice (some ⟨blk,o,none⟩) 16 16] rfl (fun i p u hp hu=>?_)).mono fun en w' ⟨u,he,hb,hru⟩=>⟨u,he,?_⟩
  ·cases i with
   | zero=>simp at hp hu;subst hp;subst hu;exact .d hd
   | succ i=>simp at hp
  generalize hLe:L.map (eK k)=l at hru
  have hll:l.length=L.length:=by rw[<- hLe,List.length_map]
  rw[<- hll]
  cases hru with
  | nil=>
   exact⟨upd g id none,(hg.new hb hf none (fun b n e=>by cases e) (.row e 1 []) (.rowNil e 1 (zZ _ _ _))).put (some id) (.rowNil id (zZ _ _ _))⟩
  | row _ blk2 cap cur hbase hh2 hlc hcap hcs hk hr2=>
   have hlt:blk2 < w'.heap.size:=(Array.getElem?_eq_some_iff.1 hh2).1;refine⟨upd g id (some (blk2,cap)),(hg.new hb hf (some (blk2,cap)) (fun b n e=>by cases e;exact⟨hbase,hlt⟩) (.row e 1 l) ?_).put (some id) (.row id _ blk2 cap (zZ _ _ _))⟩;refine .row e 1 l blk2 cap cur (zZ _ _ _) hh2 hlc hcap hcs hk fun i cs' j x hi hx=>?_
   obtain⟨u2,hu2,hd2⟩:=hr2 i cs' j x hi hx;refine⟨u2,hu2,?_⟩;subst hLe;rw[List.getElem?_map] at hi
   cases hq:L[i]? with
   | none=>rw[hq] at hi;cases hi
   | some q=>
    rw[hq] at hi;simp only[Option.map_some,Option.some.injEq] at hi;subst hi
    cases j with
    | zero=>
     simp[eK] at hx;subst hx
     cases hd2 with
     | v _ h=>exact .v _ h
    | succ j=>simp[eK] at hx
end
section
variable{P:Program}{ctx:Ctx}{Q:PQ}{s:PState}
variable{dst:Option Tmp}{ty:TypeId}{pos:String}{after:Array Edge}{gd:Option (Nat×Bool)}
variable{κ ν:Type}[DecidableEq κ]{eK:κ->List Int}{eV:ν->List DV}{m:List (κ×ν)}{q:κ}(inj:∀ a b,eK a=eK b->a=b)
variable{x kx:Operand}{t kt et:TypeId}{ks:List IntKind}{ag:Bool}{kp:PV}{id:Nat}{nl:Bool}
include inj in
theorem LR.setH{vx:Operand}{v:ν}{pv:PV}(hu:P.underlying t=some (.map kt et))(K:KeyOK P kt ks)(hx:s.ev x=some (.mp id))(hl:look s.objs id=some (.mapH nl ks ag (yI eK eV m)))
  (hk:s.ev kx=some kp) (hkp:kp=u8a ks (eK q)) (hn:(eK q).length=ks.length) (hv:s.ev vx=some pv) (hq:elP ag (eV v)=pv) (h1:ag=false->(eV v).length=1) (hnl:nl=false) :
  Local P ctx ⟨none,.mapUpdate t x kx vx,ty,pos,after,gd⟩ s (s.setO id (.mapH nl ks ag (yI eK eV (AL.set m q v)))):=by
 subst hnl;refine Local.openH hl fun bs ck=>Local.pre (Sub.trans (Sub.mapF (id:=id) (by show look (yJ id _ _) id=_;rw[zF,if_pos rfl]) rfl) (Sub.same (t:={ s with objs:=yJ id (.map ks ag (yI eK eV m) bs ck) s.objs }) rfl rfl fun i=>by
  show look (yJ id _ (yJ id _ _)) i=look (yJ id _ _) i;rw[Ul])) ((LR.setM (m:=m) (bs:=bs) (ck:=ck) (id:=id) inj hu K (by rw[jc];exact hx) (by show look (yJ id _ _) id=_;rw[zF,if_pos rfl]) (by rw[jc];exact hk) hkp hn (by rw[jc];exact hv) hq h1).post
  (Sub.trans (Sub.toH (id:=id) (by show look (yJ id _ _) id=_;rw[zF,if_pos rfl])) (Sub.same rfl rfl fun i=>by
   show look (yJ id _ (yJ id _ (yJ id _ _))) i=look (yJ id _ _) i;rw[Ul,zF,zF,zF]
   by_cases h:i=id <;> simp[h])))
end
end Go.Ep
namespace Go.Ep
def TMember.e(x:TMember):List DV:=[.v (.int .u16 x.dev),.v (.int .u8 x.slot),.v (.int .u64 x.try_)]
def TMember.v(x:TMember):List Value:=[(.int .u16 x.dev),(.int .u8 x.slot),(.int .u64 x.try_)]
theorem TMember.v1(x:TMember):∀ u∈x.v,u.oneCell'=true:=by
 intro u hu;simp only[TMember.v,List.mem_cons,List.not_mem_nil,or_false] at hu;rcases hu with rfl | rfl | rfl <;> rfl
def TMember.k(x:TMember):List Int:=[x.dev,x.slot,x.try_]
def RN.e(x:RN):List DV:=[.v (.int .u64 x.lo),.v (.int .u64 x.hi)]
def RN.v(x:RN):List Value:=[(.int .u64 x.lo),(.int .u64 x.hi)]
theorem RN.v1(x:RN):∀ u∈x.v,u.oneCell'=true:=by
 intro u hu;simp only[RN.v,List.mem_cons,List.not_mem_nil,or_false] at hu;rcases hu with rfl | rfl <;> rfl
def RN.k(x:RN):List Int:=[x.lo,x.hi]
def PT.e(x:PT):List DV:=[.v (.int .u16 x.dev),.sl (List.map RN.e x.runs)]
def TRow.e(x:TRow):List DV:=[.v (.int .u16 x.who),.sl (List.map PT.e x.have_)]
def DT.e(x:DT):List DV:=[.v (.int .u16 x.dev),.v (.int .u64 x.n)]
def DT.v(x:DT):List Value:=[(.int .u16 x.dev),(.int .u64 x.n)]
theorem DT.v1(x:DT):∀ u∈x.v,u.oneCell'=true:=by
 intro u hu;simp only[DT.v,List.mem_cons,List.not_mem_nil,or_false] at hu;rcases hu with rfl | rfl <;> rfl
def DT.k(x:DT):List Int:=[x.dev,x.n]
theorem DT.k_inj(a b:DT)(h:a.k=b.k):a=b:=by
 cases a;cases b;simp[DT.k] at h;simp[h]
def EV.e(x:EV):List DV:=[.v (.int .u16 x.dot.dev),.v (.int .u64 x.dot.n),.v (.int .u8 x.kind),.v (.int .u64 x.cid),.v (.int .u8 x.field),.v (.string x.text),.sl (List.map DT.e x.kills)]
def THubState.e(x:THubState):List DV:=[.v (.int .u64 x.epoch),.v (.int .u16 x.last),.sl (List.map TMember.e x.members),.sl (List.map (eK .u64) x.tries),.sl (List.map TRow.e x.rows),.sl (List.map PT.e x.ctx),.sl (List.map EV.e x.all)]
def PpackWriter.e(x:PpackWriter):List DV:=[.sl (List.map (eK .u8) x.b)]
def R26Roster.e(x:R26Roster):List DV:=[.v (.int .u64 x.epoch),.v (.int .u16 x.last),.sl (List.map TMember.e x.l),.v (.int .u64 x.tries.1),.v (.int .u64 x.tries.2.1),.v (.int .u64 x.tries.2.2.1),.v (.int .u64 x.tries.2.2.2.1),.v (.int .u64 x.tries.2.2.2.2.1),.v (.int .u64 x.tries.2.2.2.2.2.1),.v (.int .u64 x.tries.2.2.2.2.2.2.1),.v (.int .u64 x.tries.2.2.2.2.2.2.2.1),.v (.int .u64 x.tries.2.2.2.2.2.2.2.2.1),.v (.int .u64 x.tries.2.2.2.2.2.2.2.2.2.1),.v (.int .u64 x.tries.2.2.2.2.2.2.2.2.2.2.1),.v (.int .u64 x.tries.2.2.2.2.2.2.2.2.2.2.2.1),.v (.int .u64 x.tries.2.2.2.2.2.2.2.2.2.2.2.2.1),.v (.int .u64 x.tries.2.2.2.2.2.2.2.2.2.2.2.2.2.1),.v (.int .u64 x.tries.2.2.2.2.2.2.2.2.2.2.2.2.2.2.1),.v (.int .u64 x.tries.2.2.2.2.2.2.2.2.2.2.2.2.2.2.2)]
def RB.e(x:RB):List DV:=[.sl (List.map PT.e x.ctx),.sl (List.map EV.e x.l)]
def R25Row.e(x:R25Row):List DV:=[.v (.int .u16 x.who),.sl (List.map PT.e x.c)]
def R33Center.e(x:R33Center):List DV:=[.v (.int .u64 x.r.epoch),.v (.int .u16 x.r.last),.sl (List.map TMember.e x.r.l),.v (.int .u64 x.r.tries.1),.v (.int .u64 x.r.tries.2.1),.v (.int .u64 x.r.tries.2.2.1),.v (.int .u64 x.r.tries.2.2.2.1),.v (.int .u64 x.r.tries.2.2.2.2.1),.v (.int .u64 x.r.tries.2.2.2.2.2.1),.v (.int .u64 x.r.tries.2.2.2.2.2.2.1),.v (.int .u64 x.r.tries.2.2.2.2.2.2.2.1),.v (.int .u64 x.r.tries.2.2.2.2.2.2.2.2.1),.v (.int .u64 x.r.tries.2.2.2.2.2.2.2.2.2.1),.v (.int .u64 x.r.tries.2.2.2.2.2.2.2.2.2.2.1),.v (.int .u64 x.r.tries.2.2.2.2.2.2.2.2.2.2.2.1),.v (.int .u64 x.r.tries.2.2.2.2.2.2.2.2.2.2.2.2.1),.v (.int .u64 x.r.tries.2.2.2.2.2.2.2.2.2.2.2.2.2.1),.v (.int .u64 x.r.tries.2.2.2.2.2.2.2.2.2.2.2.2.2.2.1),.v (.int .u64 x.r.tries.2.2.2.2.2.2.2.2.2.2.2.2.2.2.2),.sl (List.map R25Row.e x.m),.sl (List.map PT.e x.b.ctx),.sl (List.map EV.e x.b.l)]
def R04Reader.e(x:R04Reader):List DV:=[.sl (List.map (eK .u8) x.b),.v (.int .i64 x.at_),.v (.int .i64 x.bad)]
def Ppackrest.e(x:Ppackrest):List DV:=[.sl (List.map (eK .u8) x.b)]
def PpackReader.e(x:PpackReader):List DV:=[.sl (List.map (eK .u8) x.rest.b),.v (.int .i64 x.bad)]
end Go.Ep
namespace Go.Ep
open Go.RowKit
section
variable{P:Program}
theorem qp{kt:TypeId}{k1 k2:IntKind}(he:∀ {a0 a1 b0 b1:Int},xCa P kt [.int k1 a0,.int k2 a1] [.int k1 b0,.int k2 b1] (decide (a0=b0)&&decide (a1=b1)))(w:World)(x y:Int) :
  ∀ (m:Mp) (es:List MapEntry) (i:Nat),es.length=m.length->(∀ (i:Nat) (e:MapEntry) (n:List Int) (c:List DV),es[i]?=some e->m[i]?=some (n,c)->e.key=Yw [k1,k2] n/\n.length=2) ->
  (Instr.findAsking kt (Yw [k1,k2] [x,y]) es i).run P w=.ok ((vB [x,y] m 0).bind fun j=>(es[j]?).map fun e=>(i+j,e.val)) w
 | [],es,i,hl,_=>by
  have:es=[]:=List.eq_nil_of_length_eq_zero hl;subst this;simp[Instr.findAsking,vB]
 | (ns,c)::m,[],i,hl,_=>by simp at hl
 | (ns,c)::m,e::es,i,hl,h=>by
  obtain⟨hk,hn⟩:=h 0 e ns c rfl rfl;obtain⟨a,b,rfl⟩:∃ a b,ns=[a,b]:=by
   match ns,hn with
   | [a,b],_=>exact⟨a,b,rfl⟩
  have ih:=qp he w x y m es (i+1) (by simpa using hl) (fun j e' n' c' h1 h2=>h (j+1) e' n' c' (by simpa using h1) (by simpa using h2));have heq:(Op.equal kt (Yw [k1,k2] [x,y]) e.key).run P w=.ok (decide (x=a)&&decide (y=b)) w:=by
   rw[hk];exact(he (a0:=x) (a1:=y) (b0:=a) (b1:=b)).2 w
  unfold Instr.findAsking;simp only[Sem.run_bind,heq,Result.andThen_ok,Sem.run_ite]
  by_cases e1:x=a/\y=b
  ·obtain⟨rfl,rfl⟩:=e1;simp[vB]
  ·have e2:¬ ([a,b]:List Int)=[x,y]:=fun h=>e1 (by simp at h;exact⟨h.1.symm,h.2.symm⟩)
   have e3:(decide (x=a)&&decide (y=b))=false:=by
    rw[Bool.and_eq_false_iff,decide_eq_false_iff_not,decide_eq_false_iff_not]
    by_cases h0:x=a
    ·exact .inr fun h=>e1 ⟨h0,h⟩
    ·exact .inl h0
   rw[e3,if_neg (by simp),ih];show _=Result.ok ((if [a,b]=[x,y] then some 0 else vB [x,y] m (0+1)).bind _) w;rw[if_neg e2,uY [x,y] m (0+1)]
   cases vB [x,y] m 0 with
   | none=>rfl
   | some j=>
    simp only[Option.map_some,Option.bind_some,Nat.zero_add,Nat.add_comm 1 j,List.getElem?_cons_succ]
    cases es[j]? with
    | none=>rfl
    | some z=>simp;omega
theorem KeyOK.pair{kt:TypeId}{k1 k2:IntKind}{d:TypeDesc}(hu:P.underlying kt=some d)(hd:∀ us vs,Instr.sameNow d (.agg us) (.agg vs)=none)
  (hc:∀ (w:World) (e:Bool) (a b:Int),(Instr.checkKey e 10000 kt (.agg #[.int k1 a,.int k2 b])).run P w=.ok () w)
  (he:∀ {a0 a1 b0 b1:Int},xCa P kt [.int k1 a0,.int k2 a1] [.int k1 b0,.int k2 b1] (decide (a0=b0)&&decide (a1=b1))):KeyOK P kt [k1,k2]:=by
 refine⟨fun w e ns hn=>?_,fun w ns m es hn hl h=>?_⟩
 ·obtain⟨a,b,rfl⟩:∃ a b,ns=[a,b]:=by
   match ns,hn with
   | [a,b],_=>exact⟨a,b,rfl⟩
  exact hc w e a b
 ·obtain⟨a,b,rfl⟩:∃ a b,ns=[a,b]:=by
   match ns,hn with
   | [a,b],_=>exact⟨a,b,rfl⟩
  unfold Instr.findKey;simp only[Sem.run_bind,run_underlying hu,Result.andThen_ok]
  cases es with
  | nil=>
   have:m=[]:=List.eq_nil_of_length_eq_zero (by simpa using hl.symm);subst this;simp[Instr.findNow,vB]
  | cons e r=>
   have hnow:Instr.findNow d (Yw [k1,k2] [a,b]) (e::r) 0=none:=by
    unfold Instr.findNow
    cases m with
    | nil=>simp at hl
    | cons x m'=>
     obtain⟨n,c⟩:=x;obtain⟨hk,hn2⟩:=h 0 e n c rfl rfl;obtain⟨a',b',rfl⟩:∃ a b,n=[a,b]:=by
      match n,hn2 with
      | [a,b],_=>exact⟨a,b,rfl⟩
     rw[hk];have:=hd #[.int k1 a,.int k2 b] #[.int k1 a',.int k2 b'];show(match Instr.sameNow d (.agg #[.int k1 a,.int k2 b]) (.agg #[.int k1 a',.int k2 b']) with | some true=>_ | some false=>_ | none=>_)=_;rw[this]
   rw[hnow];have:=qp he w a b m (e::r) 0 hl h;simp only[Nat.zero_add] at this;exact this
end
end Go.Ep

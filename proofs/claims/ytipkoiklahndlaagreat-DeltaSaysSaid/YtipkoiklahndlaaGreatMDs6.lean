/- Texts that the walks and laws lean on, side by side. -/
import Derived.WalkSpells
import Derived.Test.YtipkoiklahndlaaGreatMDs2
import Derived.Test.YtipkoiklahndlaaGreatMDs3
import Derived.Test.YtipkoiklahndlaaGreatMDs4
import Derived.Test.YtipkoiklahndlaaGreatMDs5
set_option linter.unusedVariables false
set_option linter.unusedSimpArgs false
namespace Go.Ep
open Go.RowKit
section
variable {ctx:Ctx} {s:PState}
theorem Sub.obj {id:Nat} {o o':Ob} (hl:look s.objs id = some o) (hob:∀ (w:World) (g:zX) (S:Nat -> Prop),ObRd w g S id o -> ObRd w g S id o'):Sub ctx s { s with objs:=putO id o' s.objs }:=by
 rintro a w ⟨g,h1⟩;refine ⟨g,?_⟩;have hF:∀ b,Free ctx g s.objs b -> Free ctx g (putO id o' s.objs) b:=fun b hb=>⟨hb.1,fun i o2 n ho hgi=>by
  rw [zC] at ho
  by_cases ei:i = id
  ·subst ei;exact hb.2 i _ n hl hgi
  ·rw [if_neg ei] at ho;exact hb.2 i o2 n ho hgi⟩
 have hst:yO w w (Free ctx g s.objs):=⟨Nat.le_refl _,fun _ _ _=>rfl⟩
 have hlk:∀ i o2,look (putO id o' s.objs) i = some o2 -> ∃ o3,look s.objs i = some o3:=fun i o2 ho=>by
  rw [zC] at ho
  by_cases ei:i = id
  ·subst ei;exact ⟨_,hl⟩
  ·rw [if_neg ei] at ho;exact ⟨_,ho⟩
 refine ⟨h1.defers,h1.size,fun i p hp=>(h1.slots i p hp).keep hst (fun b hb _=>hF b hb) (fun _ _=>rfl),fun i o2 ho=>?_,fun i i2 o2 o3 b n m ho ho2 hgi hgi2=>?_,fun i o2 b n ho hgi=>?_,h1.os,h1.tape,h1.output,h1.grows,h1.keep⟩
 ·rw [zC] at ho
  by_cases ei:i = id
  ·subst ei;rw [if_pos rfl] at ho
   cases ho
   exact hob _ _ _ ((h1.objs i _ hl).keep hst (fun b hb _=>hF b hb) (fun _ _ _=>rfl) rfl (fun _ _=>rfl))
  ·rw [if_neg ei] at ho;exact (h1.objs i o2 ho).keep hst (fun b hb _=>hF b hb) (fun _ _ _=>rfl) rfl (fun _ _=>rfl)
 ·obtain ⟨o4,e4⟩:=hlk i o2 ho;obtain ⟨o5,e5⟩:=hlk i2 o3 ho2;exact h1.inj i i2 o4 o5 b n m e4 e5 hgi hgi2
 ·obtain ⟨o4,e4⟩:=hlk i o2 ho;exact h1.own i o4 b n e4 hgi
theorem Sub.ownMap {id j id' ck:Nat} {ks:List IntKind} {ag:Bool} {T:TypeId} {cs:List PV} (hl:look s.objs id = some (.cells T cs)) (hj:cs[j]? = some (.d (.v (.map none)))) (hf:s.fresh id' = true) (hne:Nat.beq id id' = false) :
  Sub ctx s { s with objs:=putO id (.cells T (cs.set j (.mp id'))) (putO id' (.mapN true ks ag [] [] ck) s.objs) }:=by
 rintro a w ⟨g,hg⟩;have hne':id ≠ id':=fun h=>by rw [h,Nat.beq_refl] at hne;cases hne
 have h1:=hg.new (Below.refl _ w) hf none (fun b n e=>by cases e) (.mapN true ks ag [] [] ck) (.mapNil ks ag ck (zI _ _ _));have hl1:look (putO id' (.mapN true ks ag [] [] ck) s.objs) id = some (.cells T cs):=by rw [zC,if_neg hne'];exact hl
 refine ⟨upd g id' none,?_⟩;have hF:∀ b,Free ctx (upd g id' none) (putO id' (.mapN true ks ag [] [] ck) s.objs) b -> Free ctx (upd g id' none) (putO id (.cells T (cs.set j (.mp id'))) (putO id' (.mapN true ks ag [] [] ck) s.objs)) b:=fun b hb=>⟨hb.1,fun i o n ho hgi=>by
  rw [zC] at ho
  by_cases ei:i = id
  ·subst ei;exact hb.2 i _ n hl1 hgi
  ·rw [if_neg ei] at ho;exact hb.2 i o n ho hgi⟩
 have hst:yO w w (Free ctx (upd g id' none) (putO id' (.mapN true ks ag [] [] ck) s.objs)):=⟨Nat.le_refl _,fun _ _ _=>rfl⟩
 refine ⟨h1.defers,h1.size,fun i p hp=>(h1.slots i p hp).keep hst (fun b hb _=>hF b hb) (fun _ _=>rfl),fun i o ho=>?_,fun i i2 o o2 b n m ho ho2 hgi hgi2=>?_,fun i o b n ho hgi=>?_,h1.os,h1.tape,h1.output,h1.grows,h1.keep⟩
 ·rw [zC] at ho
  by_cases ei:i = id
  ·subst ei;rw [if_pos rfl] at ho
   cases ho
   cases (h1.objs i _ hl1).keep hst (fun b hb _=>hF b hb) (fun _ _ _=>rfl) rfl (fun _ _=>rfl) with
   | cells _ _ blk n us hgi hh hlen hr h1'=>
    refine .cells T _ blk n us hgi hh (by simpa using hlen) (fun q p u hp hu=>?_) h1'
    by_cases ej:q = j
    ·subst ej;have hlt:q < cs.length:=(List.getElem?_eq_some_iff.1 hj).1;rw [List.getElem?_set_self hlt] at hp
     cases hp
     have:=(hr q _ u hj hu).of_v;subst this;exact .mpNil id' (zI _ _ _)
    ·rw [List.getElem?_set_ne (Ne.symm ej)] at hp;exact hr q p u hp hu
  ·rw [if_neg ei] at ho;exact (h1.objs i o ho).keep hst (fun b hb _=>hF b hb) (fun _ _ _=>rfl) rfl (fun _ _=>rfl)
 ·rw [zC] at ho ho2;have key:∀ q o,(if q = id then some (Ob.cells T (cs.set j (.mp id'))) else look (putO id' (.mapN true ks ag [] [] ck) s.objs) q) = some o -> ∃ o',look (putO id' (.mapN true ks ag [] [] ck) s.objs) q = some o':=fun q o hq=>by
   by_cases eq:q = id
   ·subst eq;exact ⟨_,hl1⟩
   ·rw [if_neg eq] at hq;exact ⟨o,hq⟩
  obtain ⟨p1,q1⟩:=key i o ho;obtain ⟨p2,q2⟩:=key i2 o2 ho2;exact h1.inj i i2 p1 p2 b n m q1 q2 hgi hgi2
 ·rw [zC] at ho
  by_cases ei:i = id
  ·subst ei;exact h1.own i _ b n hl1 hgi
  ·rw [if_neg ei] at ho;exact h1.own i o b n ho hgi
theorem Sub.mapF {id:Nat} {nl:Bool} {ks:List IntKind} {ag:Bool} {m:List (List Int × List DV)} {bs:List Nat} {ck:Nat} (hl:look s.objs id = some (.mapN nl ks ag m bs ck)) (hn:nl = false):Sub ctx s { s with objs:=putO id (.map ks ag m bs ck) s.objs }:=
 Sub.obj hl fun w g S h=>by
  subst hn
  cases h with
  | mapN _ _ _ _ _ blk n es h hh hm=>exact .map _ _ _ _ _ blk n es h hh hm
theorem Sub.mapToN {id:Nat} {ks:List IntKind} {ag:Bool} {m:List (List Int × List DV)} {bs:List Nat} {ck:Nat} (hl:look s.objs id = some (.map ks ag m bs ck)):Sub ctx s { s with objs:=putO id (.mapN false ks ag m bs ck) s.objs }:=
 Sub.obj hl fun w g S h=>by
  cases h with
  | map _ _ _ _ _ blk n es h hh hm=>exact .mapN _ _ _ _ _ blk n es h hh hm
end
section
variable {P:Program} {ctx:Ctx} {Q:PQ} {s:PState}
variable {dst:Option Tmp} {ty:TypeId} {pos:String} {after:Array Edge} {gd:Option (Nat × Bool)}
variable {id:Nat} {nl:Bool} {ks:List IntKind} {ag:Bool} {m:List (List Int × List DV)} {bs:List Nat} {ck:Nat}
theorem x2a {x:Operand} (hx:s.ev x = some (.mp id)) (hl:look s.objs id = some (.mapN nl ks ag m bs ck)) {a:Act} {w:World} {g:zX} (hg:RelG ctx g s a w):∃ r,a.eval x = .map r /\ r.isNone = nl:=by
 have h:=hg.ev hx
 generalize a.eval x = v at h
 cases h with
 | mpNil _ hgn=>
  cases hg.objs id _ hl with
  | mapNil=>exact ⟨none,rfl,rfl⟩
  | mapN _ _ _ _ _ blk' n' es h' hh hm=>rw [hgn] at h';cases h'
 | mp _ blk n hgi=>
  cases hg.objs id _ hl with
  | mapNil _ _ _ h'=>rw [hgi] at h';cases h'
  | mapN _ _ _ _ _ blk' n' es h' hh hm=>exact ⟨some blk,rfl,rfl⟩
theorem LR.eqlMapN {x:Operand} {t t' kt et:TypeId} (hu:P.underlying t = some (.map kt et)) (hx:s.ev x = some (.mp id)) (hl:look s.objs id = some (.mapN nl ks ag m bs ck)) :
  Local P ctx ⟨dst,.binOp .eql t x (.const (.map none)) t',ty,pos,after,gd⟩ s (s.putD dst (.d (.v (.bool nl)))):=
 zE (o:=⟨dst,.binOp .eql t x (.const (.map none)) t',ty,pos,after,gd⟩) fun a w g hg=>by
  obtain ⟨r,hr,hn⟩:=x2a hx hl hg;have hc:a.eval (.const (.map none)) = .map none:=rfl;exact ⟨.bool nl,by simp only [execOp,hr,hc,eqGuard_at_map,Sem.run_bind,Sem.run_pure,Result.andThen_ok,run_eql_map_nil w t kt et r hu,hn],.d (.v _ rfl)⟩
section
variable {x kx:Operand} {t kt et:TypeId} {ns:List Int} {z:Value} {zs:List DV} {p:PV}
 (hu:P.underlying t = some (.map kt et)) (K:KeyOK P kt ks) (hz:∀ w,(zeroValue et).run P w = .ok z w) (hzr:∀ (w:World) (g:zX) (S:Nat -> Prop),Rd w g S (elP ag zs) z) (hk:s.ev kx = some (keyP ks ns)) (hn:ns.length = ks.length) (hp:elP ag ((mget m ns).getD zs) = p)
 (hx:s.ev x = some (.mp id)) (hl:look s.objs id = some (.mapN nl ks ag m bs ck))
include hu K hz hzr hk hn hp hx hl
end
theorem LR.deleteN {x kx:Operand} {t kt et:TypeId} {ats:Array TypeId} {ns:List Int} (hats:ats[0]? = some t) (hu:P.underlying t = some (.map kt et)) (K:KeyOK P kt ks) (hx:s.ev x = some (.mp id)) (hl:look s.objs id = some (.mapN nl ks ag m bs ck))
  (hk:s.ev kx = some (keyP ks ns)) (hn:ns.length = ks.length) :
  Local P ctx ⟨dst,.call ⟨.builtin .delete,#[x,kx],ats⟩,ty,pos,after,gd⟩ s ((s.setO id (.mapN nl ks ag (mdel m ns) (bdel m ns bs) ck)).putD dst (.tup [])):=by
 refine zp (o:=⟨dst,.call ⟨.builtin .delete,#[x,kx],ats⟩,ty,pos,after,gd⟩) fun a w g hg=>?_
 have h:=hg.ev hx
 generalize hxv:a.eval x = v at h
 cases h with
 | mpNil _ hgn=>
  cases ho:hg.objs id _ hl with
  | mapN _ _ _ _ _ blk' n' es h' hh hm=>rw [hgn] at h';cases h'
  | mapNil=>
   have hexec:(execOp a.eval ⟨dst,.call ⟨.builtin .delete,#[x,kx],ats⟩,ty,pos,after,gd⟩).run P w = .ok (.value (.tuple #[])) w:=by
    simp only [execOp,resolve,invoke,builtin,hxv,YJ (hg.ev hk),Sem.run_bind,Sem.run_pure,Result.andThen_ok,List.map_toArray,List.map_cons,List.map_nil];have a0:(#[Value.map none,keyV ks ns]:Array Value)[0]? = some (.map none):=rfl;have a1:(#[Value.map none,keyV ks ns]:Array Value)[1]? = some (keyV ks ns):=rfl;simp only [Builtin.delete_,hats,a0,a1,Sem.run_bind,run_underlying hu,Result.andThen_ok,K.check w _ ns hn,Sem.run_pure]
   obtain ⟨g',h2⟩:=Sub.obj (o':=.mapN true ks ag [] [] ck) hl (fun _ _ _ h=>h) a w ⟨g,hg⟩;exact ⟨.tuple #[],_,hexec,g',h2.put dst (.tup [] [] rfl (by simp))⟩
 | mp _ blk n hgi=>
  cases hg.objs id _ hl with
  | mapNil _ _ _ h'=>rw [hgi] at h';cases h'
  | mapN _ _ _ _ _ blk' n' es h' hh hm=>
   rw [hgi] at h';cases h';obtain ⟨es',hrun,hm'⟩:=yra (P:=P) (ty:=ty) hats hu K hn hh hm;have hexec:(execOp a.eval ⟨dst,.call ⟨.builtin .delete,#[x,kx],ats⟩,ty,pos,after,gd⟩).run P w = .ok (.value (.tuple #[])) { w with heap:=w.heap.setIfInBounds blk (.map es' ck) }:=by
    simp only [execOp,resolve,invoke,builtin,hxv,YJ (hg.ev hk),Sem.run_bind,Sem.run_pure,Result.andThen_ok,List.map_toArray,List.map_cons,List.map_nil,hrun]
   refine ⟨.tuple #[],_,hexec,g,?_⟩;have hown:=hg.own id _ blk n hl hgi;have hother:∀ k,k < w.heap.size -> k ≠ blk -> ({ w with heap:=w.heap.setIfInBounds blk (.map es' ck) }:World).heap[k]? = w.heap[k]?:=fun k _ hne=>uv w blk k _ hne
   have hst:yO w { w with heap:=w.heap.setIfInBounds blk (.map es' ck) } (Free ctx g s.objs):=⟨by simp,fun b ⟨_,h2⟩ hlt=>hother b hlt fun e=>by subst e;exact h2 id _ n hl hgi⟩
   exact (hg.wrote hl hgi (w':={ w with heap:=w.heap.setIfInBounds blk (.map es' ck) }) rfl rfl rfl (by simp) hother hown.2 (.mapN ks ag _ _ _ blk n es' hgi (Yf w blk _ hown.1) (hm'.keep hst (fun b hb _=>xG hl b hb)))).put dst (.tup [] [] rfl (by simp))
theorem LR.idxCells {x ix:Operand} {id m:Nat} {ki:IntKind} {i:Int} {n:Nat} {t e:TypeId} (hu:P.underlying t = some (.slice e)) (hs:∀ w,(sizeOf e).run P w = .ok 1 w)
  (hx:s.ev x = some (.row id m)) (hix:s.ev ix = some (.d (.v (.int ki i)))) (hi:i = n) (hn:n < m) :
  Local P ctx ⟨dst,.indexAddr t x ix,ty,pos,after,gd⟩ s (s.putD dst (.ref id n)):=
 zE (o:=⟨dst,.indexAddr t x ix,ty,pos,after,gd⟩) fun a w g hg=>by
  have h:=hg.ev hx
  generalize hv:a.eval x = v at h
  cases h with
  | row _ _ blk cap h=>
   refine ⟨.pointer (some ⟨blk,n,none⟩),?_,.ref id n blk cap h⟩;simp [execOp,hv,xp hg hix,ZP hu hs blk 0 m cap ki i n hi hn,Result.andThen]
  | rowNil=>omega
theorem fresh_ev {id:Nat} {x:Operand} {p:PV} (hf:s.fresh id = true) (hx:s.ev x = some p):p.has id = false:=by
 unfold PState.ev at hx
 split at hx
 ·exact jf hf hx
 ·cases hx
 ·cases hx
 ·cases hx;rfl
 ·cases hx;rfl
 ·cases hx
theorem yFa : ∀ us:List Value,(us.map fun u=>[u]).flatten = us
 | []=>rfl
 | u :: r=>by rw [List.map_cons,List.flatten_cons,yFa r];rfl
theorem LR.buildSliceP {id n bs:Nat} {t e:TypeId} {parts:Array (Nat × Operand)} (xs:List Operand) {ps:List PV} (hE:ElemOK P t e 1 bs) (hparts:parts = (enum 0 xs).toArray) (hn:n = xs.length) (hps:s.evs xs = some ps) (hc:ps.all PV.isCell = true) (hsmall:n <= 16777216) (hf:s.fresh id = true) :
  Local P ctx ⟨some id,.buildSlice t n parts,ty,pos,after,gd⟩ s (s.newO id (.cells e ps) (.row id n)):=
 zp (o:=⟨some id,.buildSlice t n parts,ty,pos,after,gd⟩) fun a w g hg=>by
  subst hparts;subst hn;obtain ⟨hl,hrd⟩:=yDa hps hg;rw [List.all_eq_true] at hc;have hone:∀ u ∈ xs.map a.eval,u.oneCell' = true:=fun u hu=>by
   obtain ⟨j,hj⟩:=List.getElem?_of_mem hu;obtain ⟨p,hp⟩:∃ p,ps[j]? = some p:=⟨_,List.getElem?_eq_getElem (by rw [hl];exact (List.getElem?_eq_some_iff.1 hj).1)⟩
   exact (hrd j p u hp hj).one (hc p (List.mem_of_getElem? hp))
  obtain ⟨hrun,hfl,huk⟩:=XZ (P:=P) (a:=a) (xs:=xs) (us:=(xs.map a.eval).map fun u=>[u]) hE (by simp) (fun i x u hx hu=>by
   simp [hx] at hu;subst hu;have:=hone (a.eval x) (List.mem_map.2 ⟨x,List.mem_of_getElem? hx,rfl⟩);refine ⟨?_,rfl⟩
   cases hv:a.eval x <;> simp_all [Value.cells,Value.oneCell']) (by omega) w
  rw [yFa] at hrun;have hb:=Below.alloc1 w (.cells (xs.map a.eval).toArray e);have hnew:=hg.new hb hf (some (w.heap.size,xs.length)) (fun b n e=>by cases e;simp) (.cells e ps) (.cells e ps w.heap.size xs.length (xs.map a.eval) (zI _ _ _) (heap_alloc_new w _) hl (fun i p u hp hu=>by
   refine (hrd i p u hp hu).keep ⟨hb.size,fun b _ hlt=>hb.block b hlt⟩ (fun b ⟨h1,h2⟩ hlt=>⟨h1,fun j o n ho hgj=>?_⟩) (fun j hj=>zx fun e2=>?_)
   ·subst e2;have hx:∃ x,s.ev x = some p:=by
     obtain ⟨x,hx⟩:∃ x,xs[i]? = some x:=⟨_,List.getElem?_eq_getElem (by have:=(List.getElem?_eq_some_iff.1 hp).1;rw [hl,List.length_map] at this;exact this)⟩
     exact ⟨x,JK hps hp hx⟩
    obtain ⟨x,hx⟩:=hx;rw [fresh_ev hf hx] at hj;cases hj
   ·rw [zC] at ho
    by_cases ej:j = id
    ·subst ej;rw [zI] at hgj;cases hgj;omega
    ·rw [if_neg ej] at ho;rw [zx ej] at hgj;exact h2 j o n ho hgj) hone)
  exact ⟨_,_,by simp only [execOp,Sem.run_bind,hrun,Result.andThen_ok,Sem.run_pure],_,hnew.put (some id) (.row id xs.length w.heap.size xs.length (zI _ _ _))⟩
def PWL (P:Program) (ctx:Ctx) (c:Code) (Q:PQ) (s:PState):Prop:=∀ a w,Rel ctx s a w -> LoopAt P c (lift ctx Q) a w
theorem PWc.loopU {c:Code} (h:PWL P ctx c Q s):PWc P ctx (.loop c) Q s:=fun a w hr=>LoopAt.loop (h a w hr)
theorem PWL.step {c:Code} (h:PWc P ctx c (Then (PWL P ctx c Q) Q) s):PWL P ctx c Q s:=fun a w hr=>by
 refine LoopAt.step (wp_mono (h a w hr) fun e a' w' ⟨t,h1,h2⟩=>?_)
 cases e with
 | normal=>exact h1 a' w' h2
 | _=>exact ⟨t,h1,h2⟩
theorem PWL.sub {c:Code} {t:PState} (hs:Sub ctx s t) (h:PWL P ctx c Q t):PWL P ctx c Q s:=fun a w hr=>h a w (hs a w hr)
theorem LR.rangeN {id mid:Nat} {x:Operand} {t kt et:TypeId} (hu:P.underlying t = some (.map kt et)) (hx:s.ev x = some (.mp mid)) (hl:look s.objs mid = some (.mapN nl ks ag m bs ck)) (hf:s.fresh id = true) :
  Local P ctx ⟨some id,.range t x,ty,pos,after,gd⟩ s (s.newO id (.iterO mid bs ck []) (.ref id 0)):=
 zp (o:=⟨some id,.range t x,ty,pos,after,gd⟩) fun a w g hg=>by
  have h:=hg.ev hx;have hne:mid ≠ id:=fun e=>by subst e;rw [jg hf] at hl;cases hl
  generalize hv:a.eval x = v at h
  cases h with
  | mpNil _ hgn=>
   cases hg.objs mid _ hl with
   | mapN _ _ _ _ _ blk' n' es h' hh hm=>rw [hgn] at h';cases h'
   | mapNil=>
    refine ⟨_,_,?_,WK (o:=⟨some id,.range t x,ty,pos,after,gd⟩) rfl hf hg (it:=.mapIter none 0 #[] 0) fun w' g' S' _ _ h1 h2 h3=>.iterON mid ck w.heap.size 0 h2 h3 (by rw [h1 mid hne];exact hgn)⟩;simp [execOp,hv,Instr.range,run_underlying hu,Result.andThen]
  | mp _ blk n hgi=>
   cases hg.objs mid _ hl with
   | mapNil _ _ _ h'=>rw [hgi] at h';cases h'
   | mapN _ _ _ _ _ blk' n' es h' hh hm=>
    rw [hgi] at h';cases h';refine ⟨_,_,?_,WK (o:=⟨some id,.range t x,ty,pos,after,gd⟩) rfl hf hg (it:=.mapIter (some blk) ck #[] ck) fun w' g' S' _ _ h1 h2 h3=>.iterO mid bs ck [] w.heap.size 0 blk n h2 h3 (by rw [h1 mid hne];exact hgi)⟩;simp [execOp,hv,Instr.range,run_underlying hu,MapKept.run_getObj_map hh,Result.andThen]
section
variable {ops:Array Oper} {rest:List Oper} {it:Operand} {L:List Nat} {mid:Nat}
theorem PWl.nextN (hx:s.ev it = some (.ref id 0)) (hl:look s.objs id = some (.iterO mid bs ck L)) (hlm:look s.objs mid = some (.mapN nl ks ag m bs ck)) (hL:∀ i ∈ L,i < m.length) (hgd:gd = none)
  (hdone:(∀ i,i < m.length -> i ∈ L) -> PWl P ctx ops Q rest (s.putD dst (.tup [.d (.v (.bool false))])))
  (hstep:∀ i,i < m.length -> i ∉ L -> PWl P ctx ops Q rest ((s.setO id (.iterO mid bs ck (L ++ [i]))).putD dst (.tup [.d (.v (.bool true)),.junk,.junk]))) :
  PWl P ctx ops Q (⟨dst,.next it false,ty,pos,after,gd⟩ :: rest) s:=by
 have hne:mid ≠ id:=fun e=>by subst e;rw [hl] at hlm;cases hlm
 cases nl with
 | false=>
  have hb:∀ (t:PState) (t':PState),t.n = t'.n -> t.sl = t'.sl -> look t.objs mid = some (.map ks ag m bs ck) -> look t'.objs mid = some (.mapN false ks ag m bs ck) -> (∀ j,j ≠ mid -> look t.objs j = look t'.objs j) -> Sub ctx t t':=fun t t' h1 h2 h3 h4 h5=>by
   intro a w hr;have:=Sub.mapToN h3 a w hr;refine Sub.drop (s:={ t with objs:=putO mid (.mapN false ks ag m bs ck) t.objs }) (t:=t') h1 (fun i p hp=>?_) (fun j o ho=>?_) a w this
   ·unfold PState.at at hp ⊢;rw [h1,h2];exact hp
   ·show look (putO mid _ t.objs) j = some o;rw [zC]
    by_cases e:j = mid
    ·subst e;rw [if_pos rfl,<- h4];exact ho
    ·rw [if_neg e,h5 j e];exact ho
  refine PWl.sub (Sub.mapF hlm rfl) (PWl.nextO (mid:=mid) hx (by show look (putO mid _ s.objs) id = _;rw [zC,if_neg (Ne.symm hne)];exact hl) (by show look (putO mid _ s.objs) mid = _;rw [zC,if_pos rfl]) hL hgd (fun hd=>PWl.sub (hb _ _ ?_ ?_ ?_ ?_ ?_) (hdone hd)) (fun i hi hn=>PWl.sub (hb _ _ ?_ ?_ ?_ ?_ ?_) (hstep i hi hn)))
  ·cases dst <;> rfl
  ·cases dst <;> rfl
  ·cases dst <;> (show look (putO mid _ s.objs) mid = _;rw [zC,if_pos rfl])
  ·cases dst <;> exact hlm
  ·intro j hj;cases dst <;> (show look (putO mid _ s.objs) j = _;rw [zC,if_neg hj];rfl)
  ·cases dst <;> rfl
  ·cases dst <;> rfl
  ·cases dst <;> (show look (putO id _ (putO mid _ s.objs)) mid = _;rw [zC,if_neg hne,zC,if_pos rfl])
  ·cases dst <;> (show look (putO id _ s.objs) mid = _;rw [zC,if_neg hne];exact hlm)
  ·intro j hj;cases dst <;> (show look (putO id _ (putO mid _ s.objs)) j = look (putO id _ s.objs) j;rw [zC,zC,zC,if_neg hj])
 | true=>
  rintro a w ⟨g,hg⟩;have hr:=hg.ev hx
  generalize hv:a.eval it = v at hr
  refine wpList_plain hgd fun K hK=>?_
  cases hr with
  | ref _ _ blk n hgi=>
   cases hg.objs mid _ hlm with
   | mapNil _ _ _ hgm=>
    cases hg.objs id _ hl with
    | iterO _ _ _ _ blk' n' b n2 h' hh hgm2=>rw [hgm] at hgm2;cases hgm2
    | iterON _ _ blk' n' h' hh _=>
     rw [hgi] at h';cases h';have hrun:(execOp a.eval ⟨dst,.next it false,ty,pos,after,gd⟩).run P w = .ok (.value (.tuple #[.bool false])) w:=by
      have hgr:(getObj blk).run P w = .ok (.mapIter none 0 #[] 0) w:=by simp [getObj,Sem.run,hh]
      simp only [execOp,hv,Instr.next,Sem.run_bind,hgr,Result.andThen_ok,Sem.run_pure]
     unfold Oper.wp;rw [hrun];exact hK _ _ (hdone (by simp) _ _ ⟨g,hg.put dst (.tup [.d (.v (.bool false))] [.bool false] rfl (fun i p u hp hu=>by
      cases i with
      | zero=>simp at hp hu;subst hp;subst hu;exact .d (.v _ rfl)
      | succ i=>simp at hp))⟩)
theorem LR.entryN {i:Nat} {ns:List Int} {cs:List DV} {kp p:PV} (hx:s.ev it = some (.ref id 0)) (hl:look s.objs id = some (.iterO mid bs ck (L ++ [i]))) (hlm:look s.objs mid = some (.mapN nl ks ag m bs ck)) (hi:m[i]? = some (ns,cs)) (hkp:keyP ks ns = kp) (hp:elP ag cs = p) :
  Local P ctx ⟨dst,.entry it,ty,pos,after,gd⟩ s (s.putD dst (.tup [kp,p])):=by
 have hne:mid ≠ id:=fun e=>by subst e;rw [hl] at hlm;cases hlm
 cases nl with
 | true=>
  refine zE (o:=⟨dst,.entry it,ty,pos,after,gd⟩) fun a w g hg=>?_
  cases hg.objs mid _ hlm with
  | mapNil=>simp at hi
 | false=>
  refine zE (o:=⟨dst,.entry it,ty,pos,after,gd⟩) fun a w g hg=>?_
  have hr:=hg.ev hx
  generalize hv:a.eval it = v at hr
  cases hr with
  | ref _ _ blk n hgi=>
   have hob:=hg.objs id _ hl
   generalize hLL:L ++ [i] = LL at hob
   cases hob with
   | iterON=>simp at hLL
   | iterO _ _ _ _ blk' n' b n2 h' hh hgm=>
    subst hLL;rw [hgi] at h';cases h'
    cases hg.objs mid _ hlm with
    | mapN _ _ _ _ _ bm nm es hgm2 hb2 hm=>
     rw [hgm] at hgm2;cases hgm2;obtain ⟨e,us,g1,g2,g3,g4,g5,g6,g7,g8⟩:=hm.ent i ns cs hi;have:=UX (P:=P) hh hb2 hm.stamps hm.nodup g1;refine ⟨.tuple [e.key,e.val].toArray,by simp only [execOp,hv,Sem.run_bind,this,Result.andThen_ok,Sem.run_pure],.tup _ [e.key,e.val] rfl (fun j p' u hp' hu=>?_)⟩;subst hkp;subst hp
     match j with
     | 0=>simp at hp' hu;subst hp';subst hu;rw [g2];exact Qz w g _ ks ns
     | 1=>simp at hp' hu;subst hp';subst hu;rw [g3];exact zya g4 g5 g6 g8
     | _ + 2=>simp at hp'
end
end
section
variable {P:Program} {ctx:Ctx} {Q:PQ} {s:PState}
variable {dst:Option Tmp} {ty:TypeId} {pos:String} {after:Array Edge} {gd:Option (Nat × Bool)}
variable {κ ν:Type} [DecidableEq κ] {eK:κ -> List Int} {eV:ν -> List DV} {m:List (κ × ν)} {q:κ} {zv:ν} (inj:∀ a b,eK a = eK b -> a = b)
variable {x kx:Operand} {t kt et:TypeId} {ks:List IntKind} {ag:Bool} {z:Value} {p kp:PV} {id:Nat} {nl:Bool} {bs:List Nat} {ck:Nat}
section
variable (hu:P.underlying t = some (.map kt et)) (K:KeyOK P kt ks) (hz:∀ w,(zeroValue et).run P w = .ok z w) (hzr:∀ (w:World) (g:zX) (S:Nat -> Prop),Rd w g S (elP ag (eV zv)) z) (hk:s.ev kx = some kp) (hkp:kp = keyP ks (eK q)) (hn:(eK q).length = ks.length) (hp:elP ag (eV (AL.getZ m q zv)) = p)
include inj hu K hz hzr hk hkp hn hp
end
include inj in
theorem LR.delN {ats:Array TypeId} (hu:P.underlying t = some (.map kt et)) (K:KeyOK P kt ks) (hx:s.ev x = some (.mp id)) (hl:look s.objs id = some (.mapN nl ks ag (encM eK eV m) bs ck)) (hk:s.ev kx = some kp) (hkp:kp = keyP ks (eK q)) (hn:(eK q).length = ks.length) (hats:ats[0]? = some t) :
  Local P ctx ⟨dst,.call ⟨.builtin .delete,#[x,kx],ats⟩,ty,pos,after,gd⟩ s ((s.setO id (.mapN nl ks ag (encM eK eV (AL.del m q)) (bdel (encM eK eV m) (eK q) bs) ck)).putD dst (.tup [])):=by
 have:=LR.deleteN (P:=P) (ctx:=ctx) (dst:=dst) (ty:=ty) (pos:=pos) (after:=after) (gd:=gd) hats hu K hx hl (by rw [hk,hkp]) hn
 rwa [xYa inj] at this
end
section
variable {ctx:Ctx} {s:PState}
theorem Sub.moveMap {id1 id2 j:Nat} {ks:List IntKind} {ag:Bool} {m m1:List (List Int × List DV)} {bs bs1:List Nat} {ck ck1:Nat} (hj:s.at j = some (.mp id2)) (h1:look s.objs id1 = some (.mapN true ks ag m1 bs1 ck1)) (h2:look s.objs id2 = some (.map ks ag m bs ck)) (ha:s.alone id1 = true) :
  Sub ctx s { n:=s.n,sl:=(j,.mp id1) :: s.sl,objs:=putO id1 (.map ks ag m bs ck) (delO id2 s.objs) }:=by
 rintro a w ⟨g,h⟩;have hlk:∀ {i:Nat} {o:Ob},look (putO id1 (.map ks ag m bs ck) (delO id2 s.objs)) i = some o -> (i = id1 /\ o = .map ks ag m bs ck) \/ (i ≠ id1 /\ i ≠ id2 /\ look s.objs i = some o):=fun {i o} hi=>by
  rw [zC] at hi
  by_cases e:i = id1
  ·rw [if_pos e] at hi;cases hi;exact .inl ⟨e,rfl⟩
  ·rw [if_neg e,zn] at hi
   split at hi
   ·cases hi
   ·rename_i e2;exact .inr ⟨e,e2,hi⟩
 have hg1:g id1 = none:=by
  cases h.objs id1 _ h1 with
  | mapNil _ _ _ hn=>exact hn
 have hF:∀ b,Free ctx g s.objs b -> Free ctx (upd g id1 (g id2)) (putO id1 (.map ks ag m bs ck) (delO id2 s.objs)) b:=fun b ⟨f1,f2⟩=>⟨f1,fun i o n hi hgi=>by
  rcases hlk hi with ⟨e,_⟩ | ⟨e1,e2,e3⟩
  ·subst e;rw [zI] at hgi;exact f2 id2 _ n h2 hgi
  ·rw [zx e1] at hgi;exact f2 i o n e3 hgi⟩
 have hst:yO w w (Free ctx g s.objs):=⟨Nat.le_refl _,fun _ _ _=>rfl⟩
 refine ⟨upd g id1 (g id2),⟨h.defers,h.size,?_,?_,?_,?_,h.os,h.tape,h.output,h.grows,h.keep⟩⟩
 ·intro i p hp;have hlt:=WF hp;have hp2:=xn hp;simp only [zo] at hp2
  by_cases e:j = i
  ·subst e;rw [if_pos rfl] at hp2
   cases hp2
   have hr:=h.slots j _ hj
   generalize hv:a.tmps.getD j undef = v at hr
   cases hr with
   | mpNil _ hgn=>
    cases h.objs id2 _ h2 with
    | map _ _ _ _ _ blk' n' es h' hh hm=>rw [hgn] at h';cases h'
   | mp _ blk n hgi=>exact .mp id1 blk n (by rw [zI];exact hgi)
  ·rw [if_neg e] at hp2;have hs:s.at i = some p:=VE hlt hp2;exact (h.slots i p hs).keep hst (fun b hb _=>hF b hb) (fun k hk=>zx fun e2=>by subst e2;rw [VF ha hs] at hk;cases hk)
 ·intro i o hi;rcases hlk hi with ⟨e,e2⟩ | ⟨e1,e2,e3⟩
  ·subst e;subst e2
   cases h.objs id2 _ h2 with
   | map _ _ _ _ _ blk n es hgi hh hm=>exact .map ks ag m bs ck blk n es (by rw [zI];exact hgi) hh (hm.keep hst (fun b hb _=>hF b hb))
  ·exact (h.objs i o e3).keep hst (fun b hb _=>hF b hb) (fun _ _ _=>rfl) (zx e1) (fun k hk=>zx fun e4=>by subst e4;rw [qg ha e3] at hk;cases hk)
 ·intro i i2 o o2 b n n2 hi hi2 hgi hgi2;rcases hlk hi with ⟨e,_⟩ | ⟨e1,e2,e3⟩ <;> rcases hlk hi2 with ⟨f,_⟩ | ⟨f1,f2,f3⟩
  ·exact e.trans f.symm
  ·subst e;rw [zI] at hgi;rw [zx f1] at hgi2;exact absurd (h.inj id2 i2 _ o2 b n n2 h2 f3 hgi hgi2).symm f2
  ·subst f;rw [zI] at hgi2;rw [zx e1] at hgi;exact absurd (h.inj i id2 o _ b n n2 e3 h2 hgi hgi2) e2
  ·rw [zx e1] at hgi;rw [zx f1] at hgi2;exact h.inj i i2 o o2 b n n2 e3 f3 hgi hgi2
 ·intro i o b n hi hgi;rcases hlk hi with ⟨e,_⟩ | ⟨e1,e2,e3⟩
  ·subst e;rw [zI] at hgi;exact h.own id2 _ b n h2 hgi
  ·rw [zx e1] at hgi;exact h.own i o b n e3 hgi
end
end Go.Ep

namespace Go.Ep
open Go.RowKit
section
variable {ctx:Ctx} {s:PState}
theorem RelG.obj {g:zX} {a:Act} {w:World} (h1:RelG ctx g s a w) {id:Nat} {o o':Ob} (hl:look s.objs id = some o) (hob:ObRd w g (Free ctx g s.objs) id o'):RelG ctx g { s with objs:=putO id o' s.objs } a w:=by
 have hF:∀ b,Free ctx g s.objs b -> Free ctx g (putO id o' s.objs) b:=fun b hb=>⟨hb.1,fun i o2 n ho hgi=>by
  rw [zC] at ho
  by_cases ei:i = id
  ·subst ei;exact hb.2 i _ n hl hgi
  ·rw [if_neg ei] at ho;exact hb.2 i o2 n ho hgi⟩
 have hst:yO w w (Free ctx g s.objs):=⟨Nat.le_refl _,fun _ _ _=>rfl⟩
 have hlk:∀ i o2,look (putO id o' s.objs) i = some o2 -> ∃ o3,look s.objs i = some o3:=fun i o2 ho=>by
  rw [zC] at ho
  by_cases ei:i = id
  ·subst ei;exact ⟨_,hl⟩
  ·rw [if_neg ei] at ho;exact ⟨_,ho⟩
 refine ⟨h1.defers,h1.size,fun i p hp=>(h1.slots i p hp).keep hst (fun b hb _=>hF b hb) (fun _ _=>rfl),fun i o2 ho=>?_,fun i i2 o2 o3 b n m ho ho2 hgi hgi2=>?_,fun i o2 b n ho hgi=>?_,h1.os,h1.tape,h1.output,h1.grows,h1.keep⟩
 ·rw [zC] at ho
  by_cases ei:i = id
  ·subst ei;rw [if_pos rfl] at ho
   cases ho
   exact hob.keep hst (fun b hb _=>hF b hb) (fun _ _ _=>rfl) rfl (fun _ _=>rfl)
  ·rw [if_neg ei] at ho;exact (h1.objs i o2 ho).keep hst (fun b hb _=>hF b hb) (fun _ _ _=>rfl) rfl (fun _ _=>rfl)
 ·obtain ⟨o4,e4⟩:=hlk i o2 ho;obtain ⟨o5,e5⟩:=hlk i2 o3 ho2;exact h1.inj i i2 o4 o5 b n m e4 e5 hgi hgi2
 ·obtain ⟨o4,e4⟩:=hlk i o2 ho;exact h1.own i o4 b n e4 hgi
variable {id:Nat} {nl:Bool} {ks:List IntKind} {ag:Bool} {m:List (List Int × List DV)} {bs:List Nat} {ck:Nat}
theorem Sub.nToH (hl:look s.objs id = some (.mapN nl ks ag m bs ck)):Sub ctx s { s with objs:=putO id (.mapH nl ks ag m) s.objs }:=
 Sub.obj hl fun w g S h=>by
  cases h with
  | mapNil _ _ _ h=>exact .mapHNil _ _ h
  | mapN _ _ _ _ _ blk n es h hh hm=>exact .mapH _ _ _ _ _ blk n es h hh hm
theorem Sub.toH (hl:look s.objs id = some (.map ks ag m bs ck)):Sub ctx s { s with objs:=putO id (.mapH false ks ag m) s.objs }:=
 Sub.obj hl fun w g S h=>by
  cases h with
  | map _ _ _ _ _ blk n es h hh hm=>exact .mapH _ _ _ _ _ blk n es h hh hm
theorem Sub.hT (hl:look s.objs id = some (.mapH nl ks ag m)) (hn:nl = true):Sub ctx s { s with objs:=putO id (.mapN true ks ag m [] 0) s.objs }:=
 Sub.obj hl fun w g S h=>by
  subst hn
  cases h with
  | mapHNil _ _ h=>exact .mapNil _ _ _ h
theorem openH (hl:look s.objs id = some (.mapH nl ks ag m)) {a:Act} {w:World} (hr:Rel ctx s a w):∃ bs ck,Rel ctx { s with objs:=putO id (.mapN nl ks ag m bs ck) s.objs } a w:=by
 obtain ⟨g,hg⟩:=hr;have h:=hg.objs id _ hl
 cases h with
 | mapHNil _ _ h=>exact ⟨[],0,g,hg.obj hl (.mapNil _ _ _ h)⟩
 | mapH _ _ _ bs ck blk n es h hh hm=>exact ⟨bs,ck,g,hg.obj hl (.mapN _ _ _ _ _ blk n es h hh hm)⟩
variable {P:Program} {Q:PQ}
theorem PWc.openH {c:Code} (hl:look s.objs id = some (.mapH nl ks ag m)) (h:∀ bs ck,PWc P ctx c Q { s with objs:=putO id (.mapN nl ks ag m bs ck) s.objs }):PWc P ctx c Q s:=fun a w hr=>by
 obtain ⟨bs,ck,h2⟩:=Go.Ep.openH hl hr;exact h bs ck a w h2
theorem PWl.openH {ops:Array Oper} {l:List Oper} (hl:look s.objs id = some (.mapH nl ks ag m)) (h:∀ bs ck,PWl P ctx ops Q l { s with objs:=putO id (.mapN nl ks ag m bs ck) s.objs }):PWl P ctx ops Q l s:=fun a w hr=>by
 obtain ⟨bs,ck,h2⟩:=Go.Ep.openH hl hr;exact h bs ck a w h2
theorem Un (id:Nat) (o o':Ob) (l:List (Nat × Ob)) (i:Nat):look (putO id o (putO id o' l)) i = look (putO id o l) i:=by
 rw [zC,zC,zC]
 by_cases h:i = id <;> simp [h]
theorem Sub.same {t:PState} (hn:s.n = t.n) (hs:s.sl = t.sl) (ho:∀ i,look s.objs i = look t.objs i):Sub ctx s t:=
 Sub.drop hn (fun i p hp=>by rw [YH] at hp ⊢;rw [hn,hs];exact hp) (fun i o h=>by rw [ho];exact h)
theorem PWc.hF {c:Code} (hl:look s.objs id = some (.mapH nl ks ag m)) (hn:nl = false) (h:∀ bs ck,PWc P ctx c Q { s with objs:=putO id (.map ks ag m bs ck) s.objs }):PWc P ctx c Q s:=
 PWc.openH hl fun bs ck=>PWc.sub (Sub.mapF (id:=id) (by show look (putO id _ _) id = _;rw [zC,if_pos rfl]) hn) (PWc.sub (Sub.same (t:={ s with objs:=putO id (.map ks ag m bs ck) s.objs }) rfl rfl fun i=>by
  show look (putO id _ (putO id _ _)) i = look (putO id _ _) i;rw [Un]) (h bs ck))
theorem Local.openH {o:Oper} {t:PState} (hl:look s.objs id = some (.mapH nl ks ag m)) (h:∀ bs ck,Local P ctx o { s with objs:=putO id (.mapN nl ks ag m bs ck) s.objs } t):Local P ctx o s t:=fun a w hr K Qx hK=>by
 obtain ⟨bs,ck,h2⟩:=Go.Ep.openH hl hr;exact h bs ck a w h2 K Qx hK
theorem closeP {dst:Option Nat} {p:PV} {m':List (List Int × List DV)} (hl:look s.objs id = some (.mapH nl ks ag m')):Sub ctx (({ s with objs:=putO id (.mapN nl ks ag m' bs ck) s.objs }:PState).putD dst p) (s.putD dst p):=by
 refine Sub.trans (Sub.nToH (id:=id) (nl:=nl) (ks:=ks) (ag:=ag) (m:=m') (bs:=bs) (ck:=ck) ?_) (Sub.same ?_ ?_ fun i=>?_)
 ·rw [yL];show look (putO id _ _) id = _;rw [zC,if_pos rfl]
 ·cases dst <;> rfl
 ·cases dst <;> rfl
 ·rw [yL];show look (putO id _ _) i = _;rw [yL];show look (putO id _ (putO id _ _)) i = _;rw [Un,zC]
  by_cases h:i = id
  ·rw [if_pos h,h,hl]
  ·rw [if_neg h]
theorem zNa {x:Operand} (l:List (Nat × Ob)):({ s with objs:=l }:PState).ev x = s.ev x:=by cases x <;> rfl
end
section
variable {P:Program} {ctx:Ctx} {Q:PQ} {s:PState}
variable {dst:Option Tmp} {ty:TypeId} {pos:String} {after:Array Edge} {gd:Option (Nat × Bool)}
variable {κ ν:Type} [DecidableEq κ] {eK:κ -> List Int} {eV:ν -> List DV} {m:List (κ × ν)} {q:κ} {zv:ν} (inj:∀ a b,eK a = eK b -> a = b)
variable {x kx:Operand} {t kt et:TypeId} {ks:List IntKind} {ag:Bool} {z:Value} {p kp:PV} {id:Nat} {nl:Bool} {bs:List Nat} {ck:Nat}
section
variable (hu:P.underlying t = some (.map kt et)) (K:KeyOK P kt ks) (hz:∀ w,(zeroValue et).run P w = .ok z w) (hzr:∀ (w:World) (g:zX) (S:Nat -> Prop),Rd w g S (elP ag (eV zv)) z) (hk:s.ev kx = some kp) (hkp:kp = keyP ks (eK q)) (hn:(eK q).length = ks.length) (hp:elP ag (eV (AL.getZ m q zv)) = p)
include inj hu K hz hzr hk hkp hn hp
end
include inj in
theorem LR.delH {ats:Array TypeId} (hu:P.underlying t = some (.map kt et)) (K:KeyOK P kt ks) (hx:s.ev x = some (.mp id)) (hl:look s.objs id = some (.mapH nl ks ag (encM eK eV m))) (hk:s.ev kx = some kp) (hkp:kp = keyP ks (eK q)) (hn:(eK q).length = ks.length) (hats:ats[0]? = some t) :
  Local P ctx ⟨dst,.call ⟨.builtin .delete,#[x,kx],ats⟩,ty,pos,after,gd⟩ s ((s.setO id (.mapH nl ks ag (encM eK eV (AL.del m q)))).putD dst (.tup [])):=
 Local.openH hl fun bs ck=>(LR.delN inj hu K (by rw [zNa];exact hx) (by show look (putO id _ _) id = _;rw [zC,if_pos rfl]) (by rw [zNa];exact hk) hkp hn hats).post
  (Sub.trans (Sub.nToH (id:=id) (by rw [yL];show look (putO id _ _) id = _;rw [zC,if_pos rfl]))
   (Sub.same (by cases dst <;> rfl) (by cases dst <;> rfl) fun i=>by
    cases dst <;> (show look (putO id _ (putO id _ (putO id _ _))) i = look (putO id _ _) i;rw [Un,zC,zC,zC];by_cases h:i = id <;> simp [h])))
theorem LR.eqlH {mm:List (List Int × List DV)} {t t' kt et:TypeId} (hu:P.underlying t = some (.map kt et)) (hx:s.ev x = some (.mp id)) (hl:look s.objs id = some (.mapH nl ks ag mm)) :
  Local P ctx ⟨dst,.binOp .eql t x (.const (.map none)) t',ty,pos,after,gd⟩ s (s.putD dst (.d (.v (.bool nl)))):=
 Local.openH hl fun bs ck=>(LR.eqlMapN hu (by rw [zNa];exact hx) (by show look (putO id _ _) id = _;rw [zC,if_pos rfl])).post (closeP hl)
end
inductive JCs (nm:List Nat):List PV -> List PV -> Prop
 | nil:JCs nm [] []
 | keep {p:PV} {cs cs':List PV} (h:p.named nm = true) (t:JCs nm cs cs'):JCs nm (p :: cs) (p :: cs')
 | junk {p:PV} {cs cs':List PV} (t:JCs nm cs cs'):JCs nm (p :: cs) (.junk :: cs')
inductive JOb (nm:List Nat):Ob -> Ob -> Prop
 | same {o:Ob} (h:o.named nm = true):JOb nm o o
 | cells {T:TypeId} {cs cs':List PV} (h:JCs nm cs cs'):JOb nm (.cells T cs) (.cells T cs')
inductive JObs (nm:List Nat):List (Nat × Ob) -> List (Nat × Ob) -> Prop
 | nil:JObs nm [] []
 | cons {k:Nat} {o o':Ob} {F F':List (Nat × Ob)} (h:JOb nm o o') (t:JObs nm F F'):JObs nm ((k,o) :: F) ((k,o') :: F')
theorem JCs.len {nm:List Nat} {cs cs':List PV} (h:JCs nm cs cs'):cs'.length = cs.length:=by
 induction h with
 | nil=>rfl
 | keep _ _ ih=>simp [ih]
 | junk _ ih=>simp [ih]
theorem JCs.get {nm:List Nat} {cs cs':List PV} (h:JCs nm cs cs'):∀ (i:Nat) (p:PV),cs'[i]? = some p -> p = .junk \/ cs[i]? = some p:=by
 induction h with
 | nil=>intro i p h;simp at h
 | keep _ _ ih=>
  intro i p h
  cases i with
  | zero=>exact .inr (by simpa using h)
  | succ i=>simpa using ih i p (by simpa using h)
 | junk _ ih=>
  intro i p h
  cases i with
  | zero=>exact .inl (by simpa using h.symm)
  | succ i=>simpa using ih i p (by simpa using h)
theorem JCs.named {nm:List Nat} {cs cs':List PV} (h:JCs nm cs cs'):PV.named.namedL nm cs' = true:=by
 induction h with
 | nil=>rfl
 | keep h _ ih=>simp only [PV.named.namedL,h,ih,Bool.and_self]
 | junk _ ih=>simp only [PV.named.namedL,PV.named,ih,Bool.and_self]
theorem JOb.named {nm:List Nat} {o o':Ob} (h:JOb nm o o'):o'.named nm = true:=by
 cases h with
 | same h=>exact h
 | cells h=>exact h.named
theorem JOb.rd {nm:List Nat} {o o':Ob} (h:JOb nm o o') {w:World} {g:zX} {S:Nat -> Prop} {id:Nat} (hr:ObRd w g S id o):ObRd w g S id o':=by
 cases h with
 | same=>exact hr
 | cells h=>
  cases hr with
  | cells _ _ blk n us hgi hh hl hr' h1=>
   refine .cells _ _ blk n us hgi hh (h.len.trans hl) (fun i p u hp hu=>?_) h1;rcases h.get i p hp with rfl | h2
   ·exact .junk u
   ·exact hr' i p u h2 hu
theorem JObs.look {nm:List Nat} {F F':List (Nat × Ob)} (h:JObs nm F F'):∀ (id:Nat) (o':Ob),Go.Ep.look F' id = some o' -> ∃ o,Go.Ep.look F id = some o /\ JOb nm o o':=by
 induction h with
 | nil=>intro id o' h;simp [Go.Ep.look] at h
 | cons h _ ih=>
  intro id o' hl;simp only [Go.Ep.look] at hl ⊢
  split at hl
  ·rename_i e;cases hl;exact ⟨_,by rw [if_pos e],h⟩
  ·rename_i e;rw [if_neg e];exact ih id o' hl
theorem x3a {l:List (Nat × Ob)} {i:Nat} (h:i ∉ l.map (·.1)):look l i = none:=by
 cases hl:look l i with
 | none=>rfl
 | some o=>exact absurd (zu hl) h
theorem OwnB.app {g:zX} {a b:List (Nat × Ob)} {k:Nat} (h:OwnB g (a ++ b) k):OwnB g a k \/ OwnB g b k:=by
 obtain ⟨id,o,n,h1,h2⟩:=h;rw [xC] at h1
 cases hl:look a id with
 | none=>rw [hl,Option.none_or] at h1;exact .inr ⟨id,o,n,h1,h2⟩
 | some q=>rw [hl,Option.some_or] at h1;exact .inl ⟨id,q,n,hl,h2⟩
theorem PObj.frame {G:Type} {P:Program} {f:FuncId} {ps:List PV} {os:List (Nat × Ob)} {pins ks:List Nat} {r:PV} {os':G -> List (Nat × Ob)} (F F':List (Nat × Ob)) (hc:PObj P f ps os pins r os')
  (hks:∀ gh,(os' gh).map (·.1) = ks) (hcl:∀ gh,(os' gh).all (fun x=>x.2.named ks) = true) (hr:r.named ks = true) (hd:((F.map (·.1)).all fun k=>!inL (os.map (·.1)) k && !inL ks k) = true) (hj:JObs (pins ++ F.map (·.1)) F F') :
  PObj P f ps (os ++ F) (pins ++ F.map (·.1)) r (fun gh=>os' gh ++ F'):=by
 intro w g S vs hlen hreal hobs hdis;have hd1:∀ k ∈ F.map (·.1),k ∉ os.map (·.1) /\ k ∉ ks:=fun k hk=>by
  have h:=List.all_eq_true.1 hd k hk;rw [Bool.and_eq_true,Bool.not_eq_true',Bool.not_eq_true',Wl,Wl] at h;exact h
 have YR:∀ {id o},look F id = some o -> look (os ++ F) id = some o:=fun {id o} h=>by
  rw [xC,x3a (hd1 id (zu h)).1,Option.none_or];exact h
 have ownL:∀ {b},OwnB g os b -> OwnB g (os ++ F) b:=fun ⟨id,o,n,h1,h2⟩=>⟨id,o,n,yN h1,h2⟩
 have ownR:∀ {b},OwnB g F b -> OwnB g (os ++ F) b:=fun ⟨id,o,n,h1,h2⟩=>⟨id,o,n,YR h1,h2⟩
 have hnF:∀ {id o b n},look F id = some o -> g id = some (b,n) -> ¬ OwnB g os b:=fun {id o b n} h1 h2 ⟨id2,o2,n2,h3,h4⟩=>by
  have:=hobs.inj id id2 o o2 b n n2 (YR h1) (yN h3) h2 h4;subst this;exact (hd1 id (zu h1)).1 (zu h3)
 refine (hc w g S vs hlen hreal ⟨fun id o h=>hobs.rd id o (yN h),fun i j oi oj b n m hi hj=>hobs.inj i j oi oj b n m (yN hi) (yN hj),fun id o b n h=>hobs.lt id o b n (yN h)⟩ (fun b hb h=>hdis b hb (ownL h))).mono fun e w' ⟨u,g',gh,he,hpost⟩=>?_
 have hks':=hks gh;have hcl':=hcl gh
 let G':zX:=fun j=>if inL (F.map (·.1)) j then g j else g' j
 refine ⟨u,G',gh,he,?_⟩;show xza w g S (os ++ F) (pins ++ F.map (·.1)) r (os' gh ++ F') w' G' u
 generalize os' gh = os1 at hpost hks' hcl' ⊢
 have gF:∀ {j},j ∈ F.map (·.1) -> G' j = g j:=fun {j} h=>by simp only [G',zV.2 h,if_true]
 have gN:∀ {j},j ∉ F.map (·.1) -> G' j = g' j:=fun {j} h=>by simp only [G',Wl.2 h,Bool.false_eq_true,if_false]
 have gK:∀ {j},j ∈ ks -> G' j = g' j:=fun {j} h=>gN fun h2=>(hd1 j h2).2 h
 have gP:∀ {j},j ∈ pins ++ F.map (·.1) -> G' j = g j:=fun {j} h=>by
  by_cases hf:j ∈ F.map (·.1)
  ·exact gF hf
  ·rw [gN hf];exact hpost.pin j ((List.mem_append.1 h).resolve_right hf)
 have split:∀ {id o},look (os1 ++ F') id = some o -> (look os1 id = some o /\ id ∈ ks) \/ ∃ o0,look F id = some o0 /\ JOb (pins ++ F.map (·.1)) o0 o:=fun {id o} h=>by
  rw [xC] at h
  cases hl:look os1 id with
  | none=>rw [hl,Option.none_or] at h;exact .inr (hj.look id o h)
  | some q=>rw [hl,Option.some_or] at h;cases h;exact .inl ⟨rfl,hks' ▸ zu hl⟩
 have hA:∀ b,Xu w g S os g' os1 b -> Xu w g S (os ++ F) G' (os1 ++ F') b:=fun b ⟨h1,h2⟩=>⟨by
  rcases h1 with h1 | h1 | h1
  ·exact .inl h1
  ·exact .inr (.inl (ownL h1))
  ·exact .inr (.inr h1),fun ⟨id,o,n,hl,hgi⟩=>by
  rcases split hl with ⟨h3,h4⟩ | ⟨o0,h3,h4⟩
  ·rw [gK h4] at hgi;exact h2 ⟨id,o,n,h3,hgi⟩
  ·rw [gF (zu h3)] at hgi;rcases h1 with h1 | h1 | h1
   ·exact hdis b h1 ⟨id,o0,n,YR h3,hgi⟩
   ·exact hnF h3 hgi h1
   ·have:=hobs.lt id o0 b n (YR h3) hgi;omega⟩
 have hS:∀ b,S b -> b < w.heap.size -> Xu w g S (os ++ F) G' (os1 ++ F') b:=fun b hb hlt=>⟨.inl hb,fun ⟨id,o,n,hl,hgi⟩=>by
  rcases split hl with ⟨h3,h4⟩ | ⟨o0,h3,h4⟩
  ·rw [gK h4] at hgi;rcases hpost.own b ⟨id,o,n,h3,hgi⟩ with h5 | h5
   ·exact hdis b hb (ownL h5)
   ·omega
  ·rw [gF (zu h3)] at hgi;exact hdis b hb ⟨id,o0,n,YR h3,hgi⟩⟩
 have hst:yO w w' S:=⟨hpost.grows,fun b hb hlt=>hpost.keep b hlt fun h=>hdis b hb (ownL h)⟩
 have hst':yO w' w' (Xu w g S os g' os1):=⟨Nat.le_refl _,fun _ _ _=>rfl⟩
 refine ⟨hpost.eos,hpost.tape,hpost.output,hpost.grows,fun k hk h=>hpost.keep k hk fun h2=>h (ownL h2),fun b ⟨id,o,n,hl,hgi⟩=>?_,fun id h=>gP h,?_,⟨fun id o hl=>?_,fun i j oi oj b n m hi hj' hgi hgj=>?_,fun id o b n hl hgi=>?_⟩⟩
 ·rcases split hl with ⟨h3,h4⟩ | ⟨o0,h3,h4⟩
  ·rw [gK h4] at hgi;exact (hpost.own b ⟨id,o,n,h3,hgi⟩).imp ownL (fun h=>h)
  ·rw [gF (zu h3)] at hgi;exact .inl (ownR ⟨id,o0,n,h3,hgi⟩)
 ·exact hpost.res.keep hst' (fun b hb _=>hA b hb) fun j hjj=>gK (PV.named_has hr hjj)
 ·rcases split hl with ⟨h3,h4⟩ | ⟨o0,h3,h4⟩
  ·have hn:=(List.all_eq_true.1 hcl') _ (xF h3);exact (hpost.obs.rd id o h3).keep hst' (fun b hb _=>hA b hb) (fun _ _ _=>rfl) (gK h4) fun j hjj=>gK (Ob.named_has hn hjj)
  ·exact (h4.rd (hobs.rd id o0 (YR h3))).keep hst hS (fun b n hgi=>hpost.keep b (hobs.lt id o0 b n (YR h3) hgi) (hnF h3 hgi)) (gF (zu h3)) fun j hjj=>gP (Ob.named_has h4.named hjj)
 ·rcases split hi with ⟨h3,h4⟩ | ⟨o0,h3,h4⟩ <;> rcases split hj' with ⟨h5,h6⟩ | ⟨o2,h5,h6⟩
  ·rw [gK h4] at hgi;rw [gK h6] at hgj;exact hpost.obs.inj i j oi oj b n m h3 h5 hgi hgj
  ·rw [gK h4] at hgi;rw [gF (zu h5)] at hgj;exfalso;rcases hpost.own b ⟨i,oi,n,h3,hgi⟩ with h7 | h7
   ·exact hnF h5 hgj h7
   ·have:=hobs.lt j o2 b m (YR h5) hgj;omega
  ·rw [gF (zu h3)] at hgi;rw [gK h6] at hgj;exfalso;rcases hpost.own b ⟨j,oj,m,h5,hgj⟩ with h7 | h7
   ·exact hnF h3 hgi h7
   ·have:=hobs.lt i o0 b n (YR h3) hgi;omega
  ·rw [gF (zu h3)] at hgi;rw [gF (zu h5)] at hgj;exact hobs.inj i j o0 o2 b n m (YR h3) (YR h5) hgi hgj
 ·rcases split hl with ⟨h3,h4⟩ | ⟨o0,h3,h4⟩
  ·rw [gK h4] at hgi;exact hpost.obs.lt id o b n h3 hgi
  ·rw [gF (zu h3)] at hgi;exact Nat.lt_of_lt_of_le (hobs.lt id o0 b n (YR h3) hgi) hpost.grows
section
variable {ctx:Ctx} {s:PState}
inductive RSl (s:PState) (ρ:List (Nat × Nat)):List (Nat × PV) -> Prop
 | nil:RSl s ρ []
 | cons {i:Nat} {p:PV} {r:List (Nat × PV)} (h:s.at i = some (p.ren ρ)) (t:RSl s ρ r):RSl s ρ ((i,p) :: r)
theorem RSl.get {ρ:List (Nat × Nat)} {l:List (Nat × PV)} (h:RSl s ρ l):∀ i p,getS l i = some p -> s.at i = some (p.ren ρ):=by
 induction h with
 | nil=>intro i p h;simp [getS] at h
 | cons h _ ih=>
  intro i p hl;rw [zo] at hl
  split at hl
  ·rename_i e;subst e;cases hl;exact h
  ·exact ih i p hl
end
theorem PObj.dropRow {G:Type} {P:Program} {f:FuncId} {ps:List PV} {os:List (Nat × Ob)} {pins:List Nat} {id n k:Nat} {e:TypeId} {l:List (List DV)} {os' os1:G -> List (Nat × Ob)} (hc:PObj P f ps os pins (.row id n) os') (hos:∀ gh,os' gh = os1 gh ++ [(id,.row e k l)]) (hn:n = l.length) (hk:∀ gh,(os1 gh).all (fun x=>!Nat.beq x.1 id) = true) :
  PObj P f ps os pins (.d (.sl l)) os1:=by
 intro w g S vs hlen hreal hobs hdis;refine (hc w g S vs hlen hreal hobs hdis).mono fun en w' ⟨u,g',gh,he,hpost⟩=>?_
 refine ⟨u,g',gh,he,?_⟩;rw [hos gh] at hpost;have hk':=hk gh
 generalize os1 gh = o1 at hpost hk' ⊢
 have hne:∀ {i o},look o1 i = some o -> i ≠ id:=fun {i o} h e=>by
  have:=List.all_eq_true.1 hk' _ (xF h);subst e;simp at this
 have hid:look (o1 ++ [(id,.row e k l)]) id = some (.row e k l):=by
  rw [xC]
  cases h:look o1 id with
  | none=>simp [look]
  | some o=>exact absurd rfl (hne h)
 have ownL:∀ {b},OwnB g' o1 b -> OwnB g' (o1 ++ [(id,.row e k l)]) b:=fun ⟨i,o,m,h1,h2⟩=>⟨i,o,m,yN h1,h2⟩
 have hA:∀ b,Xu w g S os g' (o1 ++ [(id,.row e k l)]) b -> Xu w g S os g' o1 b:=fun b ⟨h1,h2⟩=>⟨h1,fun h=>h2 (ownL h)⟩
 have hst:yO w' w' (Xu w g S os g' (o1 ++ [(id,.row e k l)])):=⟨Nat.le_refl _,fun _ _ _=>rfl⟩
 refine ⟨hpost.eos,hpost.tape,hpost.output,hpost.grows,hpost.keep,fun b h=>hpost.own b (ownL h),hpost.pin,?_,⟨fun i o h=>(hpost.obs.rd i o (yN h)).keep hst (fun b hb _=>hA b hb) (fun _ _ _=>rfl) rfl (fun _ _=>rfl),fun i j oi oj b n m hi hj=>hpost.obs.inj i j oi oj b n m (yN hi) (yN hj),fun i o b n h=>hpost.obs.lt i o b n (yN h)⟩⟩;have hr:=hpost.res;have ho:=hpost.obs.rd id _ hid
 generalize u = v at hr
 cases ho with
 | rowNil _ _ hgn=>
  cases hr with
  | row _ _ blk cap hgi=>rw [hgn] at hgi;cases hgi
  | rowNil=>exact .d (.nil none 0 (Nat.zero_le _) (fun _=>rfl))
 | row _ _ _ blk' cap' cur hgi hh hlc hcap hcs hkk hr'=>
  cases hr with
  | rowNil _ hgn=>rw [hgn] at hgi;cases hgi
  | row _ _ blk cap hgi'=>
   rw [hgi] at hgi'
   cases hgi'
   subst hn;have hlt:=hpost.obs.lt id _ blk' cap' hid hgi;have hfree:Xu w g S os g' o1 blk':=⟨.inr (hpost.own blk' ⟨id,_,cap',hid,hgi⟩),fun ⟨i,o,m,h1,h2⟩=>hne h1 (hpost.obs.inj i id o _ blk' m cap' (yN h1) hid h2 hgi)⟩
   refine .d (.sl l blk' 0 cap' k (fun i j=>cur.getD (i * k + j) undef) hlc hcap hfree hlt hkk ?_ ?_)
   ·intro i j hi hj;have hlt:i * k + j < cur.length:=by rw [hcs];exact uZ (by omega) hj
    rw [za hh];simp [hlt]
   ·intro i cs j x hi hx;obtain ⟨u,hu,hd⟩:=hr' i cs j x hi hx;have e:cur.getD (i * k + j) undef = u:=by simp [List.getD,hu]
    show DRd w' _ x (cur.getD (i * k + j) undef);rw [e];exact hd.keep hst (fun b hb _=>hA b hb)
inductive LookIn (os':List (Nat × Ob)):List (Nat × Ob) -> Prop
 | nil:LookIn os' []
 | cons {i:Nat} {o:Ob} {r:List (Nat × Ob)} (h:Go.Ep.look os' i = some o) (t:LookIn os' r):LookIn os' ((i,o) :: r)
theorem LookIn.get {os' l:List (Nat × Ob)} (h:LookIn os' l):∀ i o,Go.Ep.look l i = some o -> Go.Ep.look os' i = some o:=by
 induction h with
 | nil=>intro i o h;simp [Go.Ep.look] at h
 | cons h _ ih=>
  intro j o2 hl;simp only [Go.Ep.look] at hl
  split at hl
  ·rename_i e;subst e;cases hl;exact h
  ·exact ih j o2 hl
theorem x4a {ρ:List (Nat × Nat)} {acc:List (Nat × Ob)} {i:Nat} {o:Ob}:∀ {l:List (Nat × Ob)},look l i = some o -> (∀ j ∈ l.map (·.1),rn ρ j = rn ρ i -> j = i) -> look (l.foldr (fun x l=>putO (rn ρ x.1) (x.2.ren ρ) l) acc) (rn ρ i) = some (o.ren ρ)
 | [],h,_=>by simp [look] at h
 | (k,q) :: r,h,hi=>by
  rw [List.foldr_cons,zC]
  by_cases e:rn ρ i = rn ρ k
  ·rw [if_pos e];have:=hi k (by simp) e.symm;subst this;simp [look] at h;rw [h]
  ·rw [if_neg e];refine x4a (l:=r) ?_ (fun j hj=>hi j (by simp only [List.map_cons,List.mem_cons];exact .inr hj));simp only [look] at h;rw [if_neg (fun e2=>e (by rw [e2]))] at h;exact h
theorem lookN {ρ:List (Nat × Nat)} {acc:List (Nat × Ob)} {j:Nat}:∀ {l:List (Nat × Ob)},(∀ i ∈ l.map (·.1),rn ρ i ≠ j) -> look (l.foldr (fun x l=>putO (rn ρ x.1) (x.2.ren ρ) l) acc) j = look acc j
 | [],_=>rfl
 | (k,q) :: r,h=>by
  rw [List.foldr_cons,zC,if_neg (fun e=>h k (by simp) e.symm)];exact lookN fun i hi=>h i (by simp only [List.map_cons,List.mem_cons];exact .inr hi)
theorem x5a {ρ:List (Nat × Nat)} {acc:List (Nat × Ob)} {j:Nat}:∀ {l:List (Nat × Ob)},(∀ i ∈ l.map (·.1),rn ρ i ≠ j) -> look (l.foldr (fun x l=>delO (rn ρ x.1) l) acc) j = look acc j
 | [],_=>rfl
 | (k,q) :: r,h=>by
  rw [List.foldr_cons,zn,if_neg (fun e=>h k (by simp) e.symm)];exact x5a fun i hi=>h i (by simp only [List.map_cons,List.mem_cons];exact .inr hi)
theorem yGa {l:List (Nat × Ob)} {i:Nat} (h:i ∈ l.map (·.1)):∃ o,look l i = some o:=by
 cases hl:look l i with
 | some o=>exact ⟨o,rfl⟩
 | none=>
  exfalso
  induction l with
  | nil=>cases h
  | cons x r ih=>
   simp only [look] at hl
   split at hl
   ·cases hl
   ·rename_i e
    simp only [List.map_cons,List.mem_cons] at h;exact ih (h.resolve_left e) hl
section
variable {P:Program} {ctx:Ctx} {Q:PState -> Prop} {s:PState} {ops:Array Oper} {rest:List Oper} {fs:List Ft} {f:Ft}
variable {dst:Option Tmp} {ty:TypeId} {pos:String} {after:Array Edge} {gd:Option (Nat × Bool)}
theorem PQe.callObjS {x:Operand} {xs:List Operand} {ats:Array TypeId} {fn:FuncId} {ps qs:List PV} {os os':List (Nat × Ob)} {pins:List Nat} {r:PV} (ρ:List (Nat × Nat)) (js ks:List Nat) (osV osS:List (Nat × Ob))
  (hc:PObj P fn ps os pins r (fun _:Unit=>os')) (hK:∀ b,ctx.K b -> ctx.S b)
  (hev:∀ s':PState,(∀ {y q},xd (⟨dst,.call ⟨.value x,xs.toArray,ats⟩,ty,pos,after,gd⟩:Oper) y = true -> s.ev y = some q -> s'.ev y = some q) -> s'.ev x = some (.d (.v (.func (.func fn) #[] #[]))) /\ s'.evs xs = some qs)
  (he:∀ args w,(callFunc fn args).run P w = .ok (.enter fn args) w) (hq:qs.map PV.nilD = ps.map (PV.ren ρ)) (hos:AllOb s ρ os) (hV:LookIn os' osV) (hS:LookIn os' osS) (hAS:AllOb s ρ osS) (hcov:(os'.map (·.1)).all (fun i=>inL (osV.map (·.1)) i || inL (osS.map (·.1)) i) = true) (hSo:(osS.map (·.1)).all (inL (os.map (·.1))) = true)
  (hks:os'.map (·.1) = ks) (hcl:os'.all (fun x=>x.2.named ks) = true) (hr:r.named ks = true) (hok:calO ρ js (os.map (·.1)) pins ks f = true)
  (hg:Wd ops (⟨dst,.call ⟨.value x,xs.toArray,ats⟩,ty,pos,after,gd⟩:Oper) s) (hk:okE f (effO ρ js dst r osV) = true) (h:PQe P ctx ops Q rest fs (s.app (effO ρ js dst r osV))) :
  PQe P ctx ops Q (⟨dst,.call ⟨.value x,xs.toArray,ats⟩,ty,pos,after,gd⟩ :: rest) (f :: fs) s:=by
 simp only [calO,Bool.and_eq_true] at hok;obtain ⟨⟨⟨⟨⟨c1,c2⟩,c3⟩,c4⟩,c5⟩,c6⟩:=hok;refine .step (e:=effO ρ js dst r osV) (fun s' hn hee ho hfr hal=>?_) hg hk h;obtain ⟨h1,h2⟩:=hev s' (fun hx hq=>hee hx hq);have hinj:∀ i j,i ∈ os.map (·.1) ++ ks -> j ∈ os.map (·.1) ++ ks -> rn ρ i = rn ρ j -> i = j:=fun i j hi hj e=>by
  have h3:=List.all_eq_true.1 (List.all_eq_true.1 c1 i hi) j hj;rw [Bool.or_eq_true,Bool.not_eq_true'] at h3;rcases h3 with h | h
  ·exact Nat.eq_of_beq_eq_true h
  ·rw [e,Nat.beq_refl] at h;cases h
 have hok':Xb s' ρ js (os.map (·.1)) pins ks = true:=by
  unfold Xb;rw [Bool.and_eq_true,Bool.and_eq_true];refine ⟨⟨c1,?_⟩,?_⟩
  ·rw [List.all_eq_true] at c2 ⊢;intro i hi;have:=c2 i hi;rw [Bool.or_eq_true] at this ⊢;exact this.imp (fun h=>h) fun h=>hfr _ (zV.1 h)
  ·rw [List.all_eq_true] at c5 ⊢;intro i hi;have:=c5 i hi;rw [Bool.or_eq_true,Bool.or_eq_true] at this;rw [Bool.or_eq_true];rcases this with (h | h) | h
   ·exact .inl h
   ·refine .inr ?_;have hf:=hfr _ (zV.1 h);rw [Bool.and_eq_true];refine ⟨QI js hf,?_⟩;simp only [PState.fresh,Bool.and_eq_true,List.all_eq_true] at hf;rw [List.all_eq_true];intro y hy;rw [Bool.or_eq_true];exact .inl (hf.2 y hy).2
   ·refine .inr ?_;obtain ⟨a,ha1,ha2⟩:=List.any_eq_true.1 h;simp only [Bool.and_eq_true,beq_iff_eq] at ha2;have hx:=hal a ha1;rw [Nat.eq_of_beq_eq_true ha2.1,ha2.2] at hx;unfold PState.aloneX at hx;rw [Bool.and_eq_true,yC] at hx;rw [Bool.and_eq_true];refine ⟨hx.1,?_⟩;rw [List.all_eq_true] at c4;have hx2:=hx.2;rw [List.all_eq_true] at hx2 ⊢;intro y hy;have:=hx2 y hy;rw [Bool.or_eq_true] at this ⊢;rcases this with h | h
    ·exact .inr (c4 _ (zV.1 h))
    ·exact .inl h
 have hl:=LR.callObj (P:=P) (ctx:=ctx) (dst:=dst) (ty:=ty) (pos:=pos) (after:=after) (gd:=gd) (ats:=ats) ρ js ks hc hK h1 he h2 hq (hos.keep (fun hi hl=>ho (zV.1 hi) hl) c6) hks hcl hr hok';have hAS':AllOb s' ρ osS:=hAS.keep (f:=f) (fun hi hl=>ho (zV.1 hi) hl) (by
  rw [List.all_eq_true] at c6 hSo ⊢;exact fun i hi=>c6 i (zV.1 (hSo i hi)))
 refine hl.post (Sub.drop ?_ ?_ ?_)
 ·cases dst <;> rfl
 ·intro i p hp;have hat:=xn hp;have hlt:i < s'.n:=WF (s:=s'.app (effO ρ js dst r osV)) hp;refine VE (by cases dst <;> exact hlt) ?_;simp only [PState.app,effO] at hat
  cases dst with
  | none=>simpa [dstL,PState.putD,PState.callO,xV] using hat
  | some d=>simpa [dstL,PState.putD,PState.put,PState.callO,xV] using hat
 ·intro id o hlo;have e1:(s'.app (effO ρ js dst r osV)).objs = osV.foldr (fun x l=>putO (rn ρ x.1) (x.2.ren ρ) l) s'.objs:=by
   simp only [PState.app,effO,List.foldr_map]
  have e2:((s'.callO ρ js os os').putD dst (r.ren ρ)).objs = os'.foldr (fun x l=>putO (rn ρ x.1) (x.2.ren ρ) l) (os.foldr (fun x l=>delO (rn ρ x.1) l) s'.objs):=by cases dst <;> rfl
  rw [e1] at hlo;rw [e2];have inj':∀ i,i ∈ os'.map (·.1) -> ∀ j ∈ os'.map (·.1),rn ρ j = rn ρ i -> j = i:=fun i hi j hj e=>hinj j i (List.mem_append_right _ (hks ▸ hj)) (List.mem_append_right _ (hks ▸ hi)) e
  rcases YR hlo with ⟨i,o1,h3,h4,h5⟩ | ⟨h3,h4⟩
  ·have h6:=hV.get i o1 h3;rw [h4,h5];exact x4a h6 (inj' i (zu h6))
  ·by_cases hex:∃ i ∈ os'.map (·.1),rn ρ i = id
   ·obtain ⟨i,hi,rfl⟩:=hex;have h5:=List.all_eq_true.1 hcov i hi;rw [Bool.or_eq_true] at h5;rcases h5 with h5 | h5
    ·exact absurd rfl (h3 i (zV.1 h5))
    ·obtain ⟨o2,h6⟩:=yGa (zV.1 h5);have h7:=hAS'.get i o2 h6;rw [h4] at h7
     cases h7
     exact x4a (hS.get i o2 h6) (inj' i hi)
   ·rw [lookN fun i hi e=>hex ⟨i,hi,e⟩,x5a fun i hi e=>hex ⟨i,by rw [hks];exact zV.1 (List.all_eq_true.1 c3 i hi),e⟩];exact h4
end
section
variable {P:Program} {ctx:Ctx} {s:PState}
variable {dst:Option Tmp} {ty:TypeId} {pos:String} {after:Array Edge} {gd:Option (Nat × Bool)}
theorem x6a {os os':List (Nat × Ob)} {pins:List Nat} {r:PV} (ρ:List (Nat × Nat)) (js ks:List Nat) (osV osS:List (Nat × Ob)) (hV:LookIn os' osV) (hS:LookIn os' osS) (hAS:AllOb s ρ osS) (hcov:(os'.map (·.1)).all (fun i=>inL (osV.map (·.1)) i || inL (osS.map (·.1)) i) = true) (c3:(os.map (·.1)).all (inL ks) = true)
  (hks:os'.map (·.1) = ks) (hok:Xb s ρ js (os.map (·.1)) pins ks = true):Sub ctx ((s.callO ρ js os os').putD dst (r.ren ρ)) (s.app (effO ρ js dst r osV)):=by
 have hinj:∀ i j,i ∈ os.map (·.1) ++ ks -> j ∈ os.map (·.1) ++ ks -> rn ρ i = rn ρ j -> i = j:=fun i j hi hj e=>by
  simp only [Xb,Bool.and_eq_true] at hok;have h3:=List.all_eq_true.1 (List.all_eq_true.1 hok.1.1 i hi) j hj;rw [Bool.or_eq_true,Bool.not_eq_true'] at h3;rcases h3 with h | h
  ·exact Nat.eq_of_beq_eq_true h
  ·rw [e,Nat.beq_refl] at h;cases h
 refine Sub.drop ?_ ?_ ?_
 ·cases dst <;> rfl
 ·intro i p hp;have hat:=xn hp;have hlt:i < s.n:=WF (s:=s.app (effO ρ js dst r osV)) hp;refine VE (by cases dst <;> exact hlt) ?_;simp only [PState.app,effO] at hat
  cases dst with
  | none=>simpa [dstL,PState.putD,PState.callO,xV] using hat
  | some d=>simpa [dstL,PState.putD,PState.put,PState.callO,xV] using hat
 ·intro id o hlo;have e1:(s.app (effO ρ js dst r osV)).objs = osV.foldr (fun x l=>putO (rn ρ x.1) (x.2.ren ρ) l) s.objs:=by
   simp only [PState.app,effO,List.foldr_map]
  have e2:((s.callO ρ js os os').putD dst (r.ren ρ)).objs = os'.foldr (fun x l=>putO (rn ρ x.1) (x.2.ren ρ) l) (os.foldr (fun x l=>delO (rn ρ x.1) l) s.objs):=by cases dst <;> rfl
  rw [e1] at hlo;rw [e2];have inj':∀ i,i ∈ os'.map (·.1) -> ∀ j ∈ os'.map (·.1),rn ρ j = rn ρ i -> j = i:=fun i hi j hj e=>hinj j i (List.mem_append_right _ (hks ▸ hj)) (List.mem_append_right _ (hks ▸ hi)) e
  rcases YR hlo with ⟨i,o1,h3,h4,h5⟩ | ⟨h3,h4⟩
  ·have h6:=hV.get i o1 h3;rw [h4,h5];exact x4a h6 (inj' i (zu h6))
  ·by_cases hex:∃ i ∈ os'.map (·.1),rn ρ i = id
   ·obtain ⟨i,hi,rfl⟩:=hex;have h5:=List.all_eq_true.1 hcov i hi;rw [Bool.or_eq_true] at h5;rcases h5 with h5 | h5
    ·exact absurd rfl (h3 i (zV.1 h5))
    ·obtain ⟨o2,h6⟩:=yGa (zV.1 h5);have h7:=hAS.get i o2 h6;rw [h4] at h7
     cases h7
     exact x4a (hS.get i o2 h6) (inj' i hi)
   ·rw [lookN fun i hi e=>hex ⟨i,hi,e⟩,x5a fun i hi e=>hex ⟨i,by rw [hks];exact zV.1 (List.all_eq_true.1 c3 i hi),e⟩];exact h4
theorem LR.callObjS {x:Operand} {xs:List Operand} {ats:Array TypeId} {fn:FuncId} {ps qs:List PV} {os os':List (Nat × Ob)} {pins:List Nat} {r:PV} (ρ:List (Nat × Nat)) (js ks:List Nat) (osV osS:List (Nat × Ob))
  (hc:PObj P fn ps os pins r (fun _:Unit=>os')) (hK:∀ b,ctx.K b -> ctx.S b) (hx:s.ev x = some (.d (.v (.func (.func fn) #[] #[])))) (he:∀ args w,(callFunc fn args).run P w = .ok (.enter fn args) w) (hps:s.evs xs = some qs)
  (hq:qs.map PV.nilD = ps.map (PV.ren ρ)) (hos:AllOb s ρ os) (hV:LookIn os' osV) (hS:LookIn os' osS) (hAS:AllOb s ρ osS) (hcov:(os'.map (·.1)).all (fun i=>inL (osV.map (·.1)) i || inL (osS.map (·.1)) i) = true) (c3:(os.map (·.1)).all (inL ks) = true)
  (hks:os'.map (·.1) = ks) (hcl:os'.all (fun x=>x.2.named ks) = true) (hr:r.named ks = true) (hok:Xb s ρ js (os.map (·.1)) pins ks = true) :
  Local P ctx ⟨dst,.call ⟨.value x,xs.toArray,ats⟩,ty,pos,after,gd⟩ s (s.app (effO ρ js dst r osV)):=
 (LR.callObj (P:=P) (ctx:=ctx) (dst:=dst) (ty:=ty) (pos:=pos) (after:=after) (gd:=gd) (ats:=ats) ρ js ks hc hK hx he hps hq hos hks hcl hr hok).post (x6a ρ js ks osV osS hV hS hAS hcov c3 hks hok)
theorem LR.appTD {α:Type} {enc:α -> List DV} {L R:List α} {x y:Operand} {id m k bs':Nat} {t t' e e':TypeId} (js:List Nat) (hK:∀ b,ctx.K b -> ctx.S b) (hE:ElemOK P t e k bs') (hu':P.underlying t' = some (.slice e')) (hx:s.ev x = some (.row id m)) (hm:m = L.length)
  (hl:look s.objs id = some (.row e k (L.map enc))) (hy:Src ctx s y (R.map enc) k) (hk:∀ x,(enc x).length = k) (hb:(L.length + R.length) * bs' <= 140737488355328) (h1:Nat.ble 1 bs' = true) (ha:(s.junks js).alone id = true) :
  Local P ctx ⟨dst,.call ⟨.builtin .append,#[x,y],#[t,t']⟩,ty,pos,after,gd⟩ s (((s.junks js).setO id (.row e k [])).putD dst (.d (.sl ((L ++ R).map enc)))):=by
 refine (LR.appT (enc:=enc) (L:=L) (R:=R) (dst:=dst) js hE hu' hx hm hl hy hk hb h1 ha).post ?_;rintro a w ⟨g,hg⟩;have hl1:look (((s.junks js).setO id (.row e k ((L ++ R).map enc))).putD dst (.row id (L ++ R).length)).objs id = some (.row e k ((L ++ R).map enc)):=by
  rw [yL];show look (putO id _ _) id = _;rw [zC,if_pos rfl]
 have hha:∀ i p,i < s.n -> getS (s.junks js).sl i = some p -> p.has id = false:=fun i p hi hp=>by
  have:(s.junks js).at i = some p:=VE (by rw [xB];exact hi) hp;exact VF ha this
 -- the row becomes data
 have hs2:∃ g',RelG ctx g' { n:=s.n,sl:=dstL dst (PV.d (.sl ((L ++ R).map enc))) ++ (s.junks js).sl,objs:=delO id (s.junks js).objs } a w:=by
  cases dst with
  | none=>
   have:=Sub.frz (s:=((s.junks js).setO id (.row e k ((L ++ R).map enc))).putD none (.row id (L ++ R).length)) (ctx:=ctx) (n:=(L ++ R).length) [] hK hl1 (by simp) (by simp) a w ⟨g,hg⟩;refine Sub.same ?_ ?_ (fun i=>?_) a w this
   ·simp [PState.frz,PState.putD,PState.setO,xB]
   ·rfl
   ·show look (delO id (putO id _ _)) i = look (delO id _) i;rw [zn,zn,zC]
    by_cases h:i = id <;> simp [h]
  | some d=>
   by_cases hd:d < s.n
   ·have:=Sub.frz (s:=((s.junks js).setO id (.row e k ((L ++ R).map enc))).putD (some d) (.row id (L ++ R).length)) (ctx:=ctx) (n:=(L ++ R).length) [d] hK hl1 (by simp) (by
     intro j hj;rw [List.mem_singleton] at hj;subst hj;refine VE (by show j < (s.junks js).n;rw [xB];exact hd) ?_;show getS ((j,_) :: _) j = _;rw [zo,if_pos rfl]) a w ⟨g,hg⟩
    refine Sub.drop ?_ (fun i p hp=>?_) (fun i o ho=>?_) a w this
    ·simp [PState.frz,PState.putD,PState.put,PState.setO,xB]
    ·have h1:getS ((d,PV.d (.sl ((L ++ R).map enc))) :: (s.junks js).sl) i = some p:=xn hp;have h2:=WF hp;refine VE (by show i < (s.junks js).n;rw [xB];exact h2) ?_;show getS ((d,_) :: (d,_) :: _) i = some p;simp only [zo] at h1 ⊢
     split
     ·rename_i e;rw [if_pos e] at h1;exact h1
     ·rename_i e;rw [if_neg e] at h1;exact h1
    ·show look (delO id (putO id _ _)) i = some o;have ho':look (delO id (s.junks js).objs) i = some o:=ho;rw [zn,zC];rw [zn] at ho'
     by_cases h:i = id <;> simp_all
   ·have:=Sub.frz (s:=((s.junks js).setO id (.row e k ((L ++ R).map enc))).putD (some d) (.row id (L ++ R).length)) (ctx:=ctx) (n:=(L ++ R).length) [] hK hl1 (by simp) (by simp) a w ⟨g,hg⟩;refine Sub.drop ?_ (fun i p hp=>?_) (fun i o ho=>?_) a w this
    ·simp [PState.frz,PState.putD,PState.put,PState.setO,xB]
    ·have h1:getS ((d,PV.d (.sl ((L ++ R).map enc))) :: (s.junks js).sl) i = some p:=xn hp;have h2:i < s.n:=WF (s:={ n:=s.n,sl:=dstL (some d) (PV.d (.sl ((L ++ R).map enc))) ++ (s.junks js).sl,objs:=delO id (s.junks js).objs }) hp;refine VE (by show i < (s.junks js).n;rw [xB];exact h2) ?_;show getS ((d,_) :: _) i = some p;simp only [zo] at h1 ⊢;have hne:¬ d = i:=fun e=>hd (by rw [e];exact h2)
     rw [if_neg hne] at h1 ⊢;exact h1
    ·show look (delO id (putO id _ _)) i = some o;have ho':look (delO id (s.junks js).objs) i = some o:=ho;rw [zn,zC];rw [zn] at ho'
     by_cases h:i = id <;> simp_all
 obtain ⟨g',hg'⟩:=hs2;have hfr:PState.fresh { n:=s.n,sl:=dstL dst (PV.d (.sl ((L ++ R).map enc))) ++ (s.junks js).sl,objs:=delO id (s.junks js).objs } id = true:=by
  unfold PState.fresh;rw [Bool.and_eq_true];unfold PState.alone at ha;rw [Bool.and_eq_true] at ha;refine ⟨Ul fun x hx hh q hq=>?_,List.all_eq_true.2 fun x hx=>?_⟩
  ·cases dst with
   | none=>exact Yd ha.1 hx hq hh
   | some d=>
    have hq:getS ((d,PV.d (.sl ((L ++ R).map enc))) :: (s.junks js).sl) x.1 = some q:=hq;rcases List.mem_cons.1 hx with h | h
    ·rw [h] at hh;simp [PV.has] at hh
    ·simp only [zo] at hq
     split at hq
     ·cases hq;rfl
     ·exact Yd ha.1 h hq hh
  ·have h2:=UG hx;have h3:=List.all_eq_true.1 ha.2 x h2.2;simp [h2.1,h3]
 have h3:=hg'.new (Below.refl _ w) hfr none (fun b n e=>by cases e) (.row e k []) (.rowNil e k (zI _ _ _));refine Sub.drop ?_ (fun i p hp=>?_) (fun i o ho=>?_) a w ⟨_,h3⟩
 ·cases dst <;> simp [PState.putD,PState.put,PState.setO,xB]
 ·have h1:=xn hp;have h2:i < s.n:=by have:=WF hp;cases dst <;> simpa [PState.putD,PState.put,PState.setO,xB] using this
  refine VE h2 ?_
  cases dst <;> exact h1
 ·show look (putO id _ (delO id _)) i = some o;rw [yL] at ho;have ho':look (putO id (.row e k []) (s.junks js).objs) i = some o:=ho;rw [zC,zn];rw [zC] at ho'
  by_cases h:i = id <;> simp_all
end
end Go.Ep

namespace Go.Proofs
open Go.Ep Tryz
set_option maxHeartbeats 1000000
set_option maxRecDepth 100000
set_option linter.unusedVariables false
set_option linter.unusedSimpArgs false


theorem XK (c1:List TPart) (r0:Bool) (h:(Xk c1).wp (· = r0)):PFun prog 19 [.d (.sl (List.map TPart.e c1))] (.d (.v (.bool r0))):=by
 refine fI (sl:=[(0,_)]) func19 rfl ntmps19 rfl rfl ?_;intro ctx hK;refine wQ<|wR<|wa ?_;refine wN<|wQ<|wQ<|wR<|wm ?_;refine ws (lM (enc:=TPart.e) (L:=c1) underlying23 rfl)<|ws (LR.gtr rfl rfl)<|wN ?_;refine wC rfl (fun hc2=>?_) (fun hc2=>?_)
 ·replace h:=iT hc2 h;refine wQ<|wR<|wa ?_;refine wN<|wX ?_;cases h;exact ⟨.inr rfl,_,.cons (.tmp rfl rfl)<|.nil,rfl⟩
 ·replace h:=iF hc2 h;refine wK<|wQ<|wQ<|wR<|wa ?_;refine wN ?_;refine PWc.jnX (zG h) (fun (_:Unit) (_:Unit)=>⟨20,[],[]⟩) (fun h=>?_) ?_
  ·refine wB<|wM (fun (i12:Int) (_:Unit)=>⟨20,[(0,.d (.sl (List.map TPart.e c1))),(3,.d (.v (.int .i64 i12)))],[]⟩) () h (sP) ?_;rintro N i12 _ h;refine wQ<|wQ<|wR<|wm ?_;refine wm ?_;refine ws (lM (enc:=TPart.e) (L:=c1) underlying23 rfl)<|ws (LR.lss rfl rfl)<|wN ?_;refine wC rfl (fun hc13=>?_) (fun hc13=>?_)
   ·replace h:=iT hc13 h;refine wK<|wQ<|wB<|wQ<|wR<|wm ?_;refine wm ?_;obtain ⟨x14,hy15,h⟩:=iIdx h;refine ws (iX (enc:=TPart.e) (L:=c1) (y:=x14) underlying23 sizeOf81 rfl rfl hy15 (fun _=>rfl))<|ws (fE underlying81 rfl sizeOf79 (by decide) rfl rfl)<|ws (LR.loadEp isAgg79 rfl rfl)<|ws (lM (enc:=TRun.e) (L:=x14.runs) underlying79 rfl)<|ws (LR.gtr rfl rfl)<|wN ?_;refine wC rfl (fun hc16=>?_) (fun hc16=>?_)
    ·replace h:=iT hc16 h;refine wQ<|wR<|wa ?_;refine wN<|wX ?_;cases h;exact ⟨.inr rfl,_,.cons (.tmp rfl rfl)<|.nil,rfl⟩
    ·replace h:=iF hc16 h;refine wK<|wR<|wm ?_;refine ws (LR.addW rfl rfl)<|wa ?_;refine wN ?_;exact ⟨(IntKind.i64.wrap (i12 + 1)),(),h,sP⟩
   ·replace h:=iF hc13 h;refine wZ ?_;exact ⟨(),(),h,sP⟩
  ·rintro _ _ h;refine wQ<|wR<|wa ?_;refine wN<|wX ?_;cases h;exact ⟨.inr rfl,_,.cons (.tmp rfl rfl)<|.nil,rfl⟩

theorem ju (l1:List TEvent) (most2:Int) (r0:Bool) (h:(Xl l1 most2).wp (· = r0)):PFun prog 27 [.d (.sl (List.map TEvent.e l1)),.d (.v (.int .i64 most2))] (.d (.v (.bool r0))):=by
 refine fI (sl:=[(0,_),(1,_)]) func27 rfl ntmps27 rfl rfl ?_;intro ctx hK;refine wQ<|wR<|wa ?_;refine wN<|wQ<|wQ<|wR<|wm ?_;refine ws (lM (enc:=TEvent.e) (L:=l1) underlying24 rfl)<|wm ?_;refine ws (LR.gtr rfl rfl)<|wN ?_;refine wC rfl (fun hc3=>?_) (fun hc3=>?_)
 ·replace h:=iT hc3 h;refine wQ<|wR<|wa ?_;refine wN<|wX ?_;cases h;exact ⟨.inr rfl,_,.cons (.tmp rfl rfl)<|.nil,rfl⟩
 ·replace h:=iF hc3 h;refine wK<|wQ<|wQ<|wR<|wa ?_;refine wN ?_;refine PWc.jnX (zG h) (fun (_:Unit) (_:Unit)=>⟨32,[],[]⟩) (fun h=>?_) ?_
  ·refine wB<|wM (fun (i21:Int) (_:Unit)=>⟨32,[(0,.d (.sl (List.map TEvent.e l1))),(5,.d (.v (.int .i64 i21)))],[]⟩) () h (sP) ?_;rintro N i21 _ h;refine wQ<|wQ<|wR<|wm ?_;refine wm ?_;refine ws (lM (enc:=TEvent.e) (L:=l1) underlying24 rfl)<|ws (LR.lss rfl rfl)<|wN ?_;refine wC rfl (fun hc22=>?_) (fun hc22=>?_)
   ·replace h:=iT hc22 h;refine wK<|wQ<|wB<|wQ ?_;refine wJ (zG h) (fun (v23:Bool) (_:Unit)=>⟨32,[(0,.d (.sl (List.map TEvent.e l1))),(5,.d (.v (.int .i64 i21))),(31,.d (.v (.bool v23)))],[]⟩) (fun h=>?_) ?_
    ·refine wR<|wm ?_;refine wm ?_;obtain ⟨x24,hy25,h⟩:=iIdx h;refine ws (iX (enc:=TEvent.e) (L:=l1) (y:=x24) underlying24 sizeOf69 rfl rfl hy25 (fun _=>rfl))<|ws (fE underlying69 rfl sizeOf67 (by decide) rfl rfl)<|ws (LR.loadEp isAgg67 rfl rfl)<|ws (lM (enc:=TDot.e) (L:=x24.kills) underlying67 rfl)<|ws (LR.gtr rfl rfl)<|wm ?_;refine wL (d:=23) rfl (fun hg26=>?_) (fun hg26=>?_)
     ·replace h:=iT hg26 h;refine wf<|wf<|wf<|wf<|wf<|wf<|wy (tl:=[(0,_),(5,_),(23,_),(24,_),(25,_),(26,_),(27,_),(28,_),(29,_)]) (to:=[]) ?_;refine wf<|ws (pT rfl rfl)<|wN ?_;exact ⟨true,(),h,sP⟩
     ·replace h:=iF hg26 h;refine wt (mV rfl)<|wt (mV rfl) ?_;obtain ⟨x27,hy28,h⟩:=iIdx h;refine wt (iX (enc:=TEvent.e) (L:=l1) (y:=x27) underlying24 sizeOf69 rfl rfl hy28 (fun _=>rfl))<|wt (fE underlying69 rfl sizeOf9 (by decide) rfl rfl)<|wt (LR.loadEp isAgg9 rfl rfl)<|wt (LR.lenStr underlying9 rfl)<|wy (tl:=[(0,_),(5,_),(23,_),(24,_),(25,_),(26,_),(27,_),(28,_),(29,_)]) (to:=[]) ?_;refine wt (LR.gtr rfl rfl)<|ws (pF rfl rfl)<|wN ?_;exact ⟨(decide (200 < (ByteArray.size x27.text:Int))),(),h,sP⟩
    ·rintro v23 _ h;refine wC rfl (fun hc29=>?_) (fun hc29=>?_)
     ·replace h:=iT hc29 h;refine wQ<|wR<|wa ?_;refine wN<|wX ?_;cases h;exact ⟨.inr rfl,_,.cons (.tmp rfl rfl)<|.nil,rfl⟩
     ·replace h:=iF hc29 h;refine wK<|wR<|wm ?_;refine ws (LR.addW rfl rfl)<|wa ?_;refine wN ?_;exact ⟨(IntKind.i64.wrap (i21 + 1)),(),h,sP⟩
   ·replace h:=iF hc22 h;refine wZ ?_;exact ⟨(),(),h,sP⟩
  ·rintro _ _ h;refine wQ<|wR<|wa ?_;refine wN<|wX ?_;cases h;exact ⟨.inr rfl,_,.cons (.tmp rfl rfl)<|.nil,rfl⟩

theorem y2a (d1:TDelta) (r0:Bool) (h:(JV d1).wp (· = r0)):PFun prog 7 [.agg (List.map .d (TDelta.e d1))] (.d (.v (.bool r0))):=by
 refine fI (sl:=[(0,_)]) func7 rfl ntmps7 rfl rfl ?_;intro ctx hK;refine wQ<|wR<|ws (LR.box rfl rfl rfl rfl)<|wa ?_;refine wN<|wQ ?_;refine wJ (zG h) (fun (v2:Bool) (_:Unit)=>⟨16,[(2,.d (.v (.bool v2)))],[]⟩) (fun h=>?_) ?_
 ·refine wR<|ws (fR underlying26 rfl sizeOf23 (by decide) rfl rfl)<|ws (lD isAgg23 rfl rfl rfl) ?_;obtain ⟨v3,hy4,h⟩:=iDet h;refine ws (cN (XK d1.from_ v3 hy4) rfl call19 rfl rfl rfl rfl)<|wm ?_;refine wL (d:=6) rfl (fun hg5=>?_) (fun hg5=>?_)
  ·replace h:=iT hg5 h;refine wt (fR underlying26 rfl sizeOf23 (by decide) rfl rfl)<|wt (lD isAgg23 rfl rfl rfl) ?_;obtain ⟨v6,hy7,h⟩:=iDet h;refine wt (cN (XK d1.to_ v6 hy7) rfl call19 rfl rfl rfl rfl)<|ws (pT rfl rfl)<|wm ?_;refine wL (d:=11) rfl (fun hg8=>?_) (fun hg8=>?_)
   ·replace h:=iT hg8 h;refine wt (fR underlying26 rfl sizeOf24 (by decide) rfl rfl)<|wt (lD isAgg24 rfl rfl rfl) ?_;obtain ⟨v9,hy10,h⟩:=iDet h;refine wt (cN (ju d1.events 30 v9 hy10) rfl call27 rfl rfl rfl rfl)<|ws (pT rfl rfl)<|wa ?_;refine wN ?_;exact ⟨v9,(),h,sP⟩
   ·replace h:=iF hg8 h;refine wf<|wf<|wf<|ws (pF rfl rfl)<|wa ?_;refine wN ?_;exact ⟨false,(),h,sP⟩
  ·replace h:=iF hg5 h;refine wf<|wf<|wf<|ws (pF rfl rfl)<|wm ?_;refine wf<|wf<|wf<|ws (pF rfl rfl)<|wa ?_;refine wN ?_;exact ⟨false,(),h,sP⟩
 ·rintro v2 _ h;refine wX ?_;cases h;exact ⟨.inr rfl,_,.cons (.tmp rfl rfl)<|.nil,rfl⟩

theorem y3a (l1:List L18Act) (most2:Int) (r0:Int) (h:(JW l1 most2).wp (· = r0)):PFun prog 8 [.d (.sl (List.map L18Act.e l1)),.d (.v (.int .i64 most2))] (.d (.v (.int .i64 r0))):=by
 refine fI (sl:=[(0,_),(1,_)]) func8 rfl ntmps8 rfl rfl ?_;intro ctx hK;refine wQ<|wR<|wa ?_;refine wN<|wQ<|wQ<|wR<|wm ?_;refine ws (lM (enc:=L18Act.e) (L:=l1) underlying27 rfl)<|wm ?_;refine ws (LR.gtr rfl rfl)<|wN ?_;refine wC rfl (fun hc3=>?_) (fun hc3=>?_)
 ·replace h:=iT hc3 h;refine wQ<|wR<|wa ?_;refine wN<|wX ?_;cases h;exact ⟨.inr rfl,_,.cons (.tmp rfl rfl)<|.nil,rfl⟩
 ·replace h:=iF hc3 h;refine wK<|wQ<|wQ<|wR<|wa ?_;refine wN ?_;refine PWc.jnX (zG h) (fun (_:Unit) (_:Unit)=>⟨33,[],[]⟩) (fun h=>?_) ?_
  ·refine wB<|wM (fun (i29:Int) (_:Unit)=>⟨33,[(0,.d (.sl (List.map L18Act.e l1))),(5,.d (.v (.int .i64 i29)))],[]⟩) () h (sP) ?_;rintro N i29 _ h;refine wQ<|wQ<|wR<|wm ?_;refine wm ?_;refine ws (lM (enc:=L18Act.e) (L:=l1) underlying27 rfl)<|ws (LR.lss rfl rfl)<|wN ?_;refine wC rfl (fun hc30=>?_) (fun hc30=>?_)
   ·replace h:=iT hc30 h;refine wK<|wQ<|wB<|wQ ?_;refine wJ (zG h) (fun (v31:Bool) (_:Unit)=>⟨33,[(0,.d (.sl (List.map L18Act.e l1))),(5,.d (.v (.int .i64 i29))),(32,.d (.v (.bool v31)))],[]⟩) (fun h=>?_) ?_
    ·refine wR<|wm ?_;refine wm ?_;obtain ⟨x32,hy33,h⟩:=iIdx h;refine ws (iX (enc:=L18Act.e) (L:=l1) (y:=x32) underlying27 sizeOf71 rfl rfl hy33 (fun _=>rfl))<|ws (fE underlying71 rfl sizeOf69 (by decide) rfl rfl)<|ws (lE (ys:=[_,_,_,_,_,_,_]) isAgg69 sizeOf69 rfl rfl rfl)<|ws (LR.buildSliceD [.tmp 20] yd rfl rfl (.cons rfl rfl rfl<|.nil) (by decide) (by decide)) ?_;obtain ⟨v34,hy35,h⟩:=iDet h;refine ws (cN (ju ([x32.event]) 1 v34 hy35) rfl call27 rfl rfl rfl rfl)<|ws (LR.not rfl)<|wm ?_;refine wL (d:=24) rfl (fun hg36=>?_) (fun hg36=>?_)
     ·replace h:=iT hg36 h;refine wf<|wf<|wf<|wf<|wf<|wy (tl:=[(0,_),(5,_),(24,_),(25,_),(26,_),(27,_),(28,_),(29,_)]) (to:=[]) ?_;refine wf<|wf<|ws (pT rfl rfl)<|wN ?_;exact ⟨true,(),h,sP⟩
     ·replace h:=iF hg36 h;refine wt (mV rfl)<|wt (mV rfl) ?_;obtain ⟨x37,hy38,h⟩:=iIdx h;refine wt (iX (enc:=L18Act.e) (L:=l1) (y:=x37) underlying27 sizeOf71 rfl rfl hy38 (fun _=>rfl))<|wt (fE underlying71 rfl sizeOf23 (by decide) rfl rfl)<|wt (LR.loadEp isAgg23 rfl rfl)<|wy (tl:=[(0,_),(5,_),(24,_),(25,_),(26,_),(27,_),(28,_),(29,_)]) (to:=[]) ?_;obtain ⟨v39,hy40,h⟩:=iDet h;refine wt (cN (XK x37.ctx v39 hy40) rfl call19 rfl rfl rfl rfl)<|wt (LR.not rfl)<|ws (pF rfl rfl)<|wN ?_;exact ⟨(!v39),(),h,sP⟩
    ·rintro v31 _ h;refine wC rfl (fun hc41=>?_) (fun hc41=>?_)
     ·replace h:=iT hc41 h;refine wQ<|wR<|wa ?_;refine wN<|wX ?_;cases h;exact ⟨.inr rfl,_,.cons (.tmp rfl rfl)<|.nil,rfl⟩
     ·replace h:=iF hc41 h;refine wK<|wR<|wm ?_;refine ws (LR.addW rfl rfl)<|wa ?_;refine wN ?_;exact ⟨(IntKind.i64.wrap (i29 + 1)),(),h,sP⟩
   ·replace h:=iF hc30 h;refine wZ ?_;exact ⟨(),(),h,sP⟩
  ·rintro _ _ h;refine wQ<|wR<|wa ?_;refine wN<|wX ?_;cases h;exact ⟨.inr rfl,_,.cons (.tmp rfl rfl)<|.nil,rfl⟩



theorem uG (x1:Int) (r0:Bool) (h:(xT x1).wp (· = r0)):PFun prog 163 [.d (.v (.int .u64 x1))] (.d (.v (.bool r0))):=by
 refine fI (sl:=[(0,_)]) func163 rfl ntmps163 rfl rfl ?_;intro ctx hK;refine wQ<|wR<|wa ?_;refine wN<|wQ<|wR<|wm ?_;refine wm ?_;refine ws (nQ rfl rfl)<|wa ?_;refine wN<|wX ?_;cases h;exact ⟨.inr rfl,_,.cons (.tmp rfl rfl)<|.nil,rfl⟩

theorem vO (x1:Int) (y2:Int) (r0:Int) (h:(ye x1 y2).wp (· = r0)):PFun prog 121 [.d (.v (.int .u64 x1)),.d (.v (.int .u64 y2))] (.d (.v (.int .i64 r0))):=by
 refine fI (sl:=[(0,_),(1,_)]) func121 rfl ntmps121 rfl rfl ?_;intro ctx hK;refine wQ<|wR<|wa ?_;refine wN<|wQ<|wR<|wm ?_;obtain ⟨v3,hy4,h⟩:=iDet h;refine ws (cN (uG x1 v3 hy4) rfl call163 rfl rfl rfl rfl)<|wa ?_;refine wN<|wQ<|wR<|wm ?_;obtain ⟨v5,hy6,h⟩:=iDet h;refine ws (cN (uG y2 v5 hy6) rfl call163 rfl rfl rfl rfl)<|wa ?_;refine wN<|wQ<|wQ<|wR<|wm ?_;refine wN ?_;refine wC rfl (fun hc7=>?_) (fun hc7=>?_)
 ·replace h:=iT hc7 h;refine wQ<|wQ<|wR<|wm ?_;refine wN ?_;refine wC rfl (fun hc8=>?_) (fun hc8=>?_)
  ·replace h:=iT hc8 h;refine wQ<|wR<|wa ?_;refine wN<|wX ?_;cases h;exact ⟨.inr rfl,_,.cons (.tmp rfl rfl)<|.nil,rfl⟩
  ·replace h:=iF hc8 h;refine wK<|wQ<|wR<|wa ?_;refine wN<|wX ?_;cases h;exact ⟨.inr rfl,_,.cons (.tmp rfl rfl)<|.nil,rfl⟩
 ·replace h:=iF hc7 h;refine wK<|wQ<|wQ<|wR<|wm ?_;refine wN ?_;refine wC rfl (fun hc9=>?_) (fun hc9=>?_)
  ·replace h:=iT hc9 h;refine wQ<|wR<|wa ?_;refine wN<|wX ?_;cases h;exact ⟨.inr rfl,_,.cons (.tmp rfl rfl)<|.nil,rfl⟩
  ·replace h:=iF hc9 h;refine wK<|wQ<|wQ<|wR<|wm ?_;refine wm ?_;refine ws (LR.lss rfl rfl)<|wN ?_;refine wC rfl (fun hc10=>?_) (fun hc10=>?_)
   ·replace h:=iT hc10 h;refine wQ<|wR<|wa ?_;refine wN<|wX ?_;cases h;exact ⟨.inr rfl,_,.cons (.tmp rfl rfl)<|.nil,rfl⟩
   ·replace h:=iF hc10 h;refine wK<|wQ<|wQ<|wR<|wm ?_;refine wm ?_;refine ws (LR.gtr rfl rfl)<|wN ?_;refine wC rfl (fun hc11=>?_) (fun hc11=>?_)
    ·replace h:=iT hc11 h;refine wQ<|wR<|wa ?_;refine wN<|wX ?_;cases h;exact ⟨.inr rfl,_,.cons (.tmp rfl rfl)<|.nil,rfl⟩
    ·replace h:=iF hc11 h;refine wK<|wQ<|wR<|wa ?_;refine wN<|wX ?_;cases h;exact ⟨.inr rfl,_,.cons (.tmp rfl rfl)<|.nil,rfl⟩

theorem xj (l1:List TRun) (r0:List TRun) (h:(yz l1).wp (· = r0)):PRow prog 158 [.d (.sl (List.map TRun.e l1))] 78 2 (List.map TRun.e r0):=by
 refine PRow.intro (sl:=[(0,_)]) func158 rfl ntmps158 rfl rfl ?_;intro ctx hK;refine wQ<|wR<|ws (aR 78 2 rfl)<|wN<|wQ<|wR<|ws (aR 78 2 rfl)<|wN<|wQ ?_;refine wQ<|wR<|wm ?_;refine ws (lM (enc:=TRun.e) (L:=l1) underlying79 rfl)<|wm ?_;refine wN ?_;refine wJ (zG h) (fun (some2:List TRun) (_:Unit)=>⟨78,[(3,.row 3 (List.length some2))],[(3,.row 78 2 (List.map TRun.e some2))]⟩) (fun h=>?_) ?_
 ·refine wB<|wM (fun (⟨v23,some24⟩:Int × List TRun) (_:Unit)=>⟨78,[(3,.row 3 (List.length some24)),(10,.d (.sl (List.map TRun.e l1))),(11,.d (.v (.int .i64 (List.length l1:Int)))),(12,.d (.v (.int .i64 v23)))],[(3,.row 78 2 (List.map TRun.e some24))]⟩) () h (sP) ?_;rintro N ⟨v23,some24⟩ _ h;refine wQ<|wR<|ws (LR.lss rfl rfl)<|wN<|wQ ?_;refine wC rfl (fun hc25=>?_) (fun hc25=>?_)
  ·replace h:=iT hc25 h;refine wK<|wQ ?_;refine wJ (zG h) (fun (some26:List TRun) (_:Unit)=>⟨78,[(3,.row 3 (List.length some26)),(10,.d (.sl (List.map TRun.e l1))),(11,.d (.v (.int .i64 (List.length l1:Int)))),(12,.d (.v (.int .i64 v23)))],[(3,.row 78 2 (List.map TRun.e some26))]⟩) (fun h=>?_) ?_
   ·refine wB<|wQ<|wR ?_;obtain ⟨x27,hy28,h⟩:=iIdx h;refine ws (iX (enc:=TRun.e) (L:=l1) (y:=x27) underlying79 sizeOf78 rfl rfl hy28 (fun _=>rfl))<|ws (lE (ys:=[_,_]) isAgg78 sizeOf78 rfl rfl rfl)<|ws (LR.allocZ (cs:=[_,_]) zeroValue78 rfl rfl rfl rfl)<|ws (sB (ns:=[_,_]) sizeOf78 rfl rfl rfl rfl rfl rfl rfl)<|wN<|wQ ?_;refine wJ (zG h) (fun (v29:Bool) (_:Unit)=>⟨78,[(3,.row 3 (List.length some24)),(5,.ref 5 0),(10,.d (.sl (List.map TRun.e l1))),(11,.d (.v (.int .i64 (List.length l1:Int)))),(12,.d (.v (.int .i64 v23))),(30,.d (.v (.bool v29)))],[(3,.row 78 2 (List.map TRun.e some24)),(5,.cells 78 [.d (.v (.int .u64 x27.lo)),.d (.v (.int .u64 x27.hi))])]⟩) (fun h=>?_) ?_
    ·refine wR<|ws (fR underlying78 rfl sizeOf64 (by decide) rfl rfl)<|ws (lD isAgg64 rfl rfl rfl)<|ws (LR.gtr rfl rfl)<|wm ?_;refine wL (d:=19) rfl (fun hg30=>?_) (fun hg30=>?_)
     ·replace h:=iT hg30 h;refine wt (fR underlying78 rfl sizeOf64 (by decide) rfl rfl)<|wt (lD isAgg64 rfl rfl rfl)<|wt (fR underlying78 rfl sizeOf64 (by decide) rfl rfl)<|wt (lD isAgg64 rfl rfl rfl)<|wt (LR.leq rfl rfl)<|ws (pT rfl rfl)<|wm ?_;refine wL (d:=26) rfl (fun hg31=>?_) (fun hg31=>?_)
      ·replace h:=iT hg31 h;refine wy (tl:=[(3,_),(5,_),(10,_),(11,_),(12,_),(20,_),(21,_),(22,_),(23,_),(24,_),(26,_)]) (to:=[(3,_),(5,_)]) ?_;refine wt (fR underlying78 rfl sizeOf64 (by decide) rfl rfl)<|wt (lD isAgg64 rfl rfl rfl)<|wt (LR.leq rfl rfl)<|ws (pT rfl rfl)<|wN ?_;exact ⟨(decide (x27.hi <= 281474976710655)),(),h,sP⟩
      ·replace h:=iF hg31 h;refine wy (tl:=[(3,_),(5,_),(10,_),(11,_),(12,_),(20,_),(21,_),(22,_),(23,_),(24,_),(26,_)]) (to:=[(3,_),(5,_)]) ?_;refine wf<|wf<|wf<|ws (pF rfl rfl)<|wN ?_;exact ⟨false,(),h,sP⟩
     ·replace h:=iF hg30 h;refine wf<|wf<|wf<|wf<|wf<|ws (pF rfl rfl)<|wm ?_;refine wf<|wy (tl:=[(3,_),(5,_),(10,_),(11,_),(12,_),(20,_),(21,_),(22,_),(23,_),(24,_),(26,_),(27,_)]) (to:=[(3,_),(5,_)]) ?_;refine wf<|wf<|ws (pF rfl rfl)<|wN ?_;exact ⟨false,(),h,sP⟩
    ·rintro v29 _ h;refine wC rfl (fun hc32=>?_) (fun hc32=>?_)
     ·replace h:=iT hc32 h;refine wR<|wm ?_;refine ws (lA (ps:=[_,_]) isAgg78 sizeOf78 rfl rfl rfl rfl)<|ws (LR.buildSliceD [.tmp 32] xN rfl rfl (.cons rfl rfl rfl<|.nil) (by decide) (by decide)) ?_;obtain ⟨hy33,h⟩:=zl h;refine ws (LR.appT (enc:=TRun.e) (L:=some24) (R:=[x27]) [3,31] xN underlying79 rfl rfl rfl (Src.slT (enc:=TRun.e) (R:=[x27]) rfl (fun _=>rfl)) (fun _=>rfl) hy33 rfl rfl)<|wa ?_;refine wN ?_;exact ⟨(some24 ++ [x27]),(),h,sP⟩
     ·replace h:=iF hc32 h;refine wK ?_;exact ⟨some24,(),h,sP⟩
   ·rintro some26 _ h;refine wR<|ws (LR.addW rfl rfl)<|wm ?_;refine wN ?_;exact ⟨((IntKind.i64.wrap (v23 + 1)),some26),(),h,sP⟩
  ·replace h:=iF hc25 h;refine wZ ?_;exact ⟨some24,(),h,sP⟩
 ·rintro some2 _ h;refine wQ<|wR<|wm ?_;obtain ⟨hy35,h⟩:=zl h;refine PWl.sortFn (encD:=TRun.e) (enc:=TRun.v) (l:=some2) yya (fun _=>rfl) TRun.v1 (fun _=>rfl) rfl call196 rfl rfl rfl (by simp) hy35 rfl (fun s34 hy36 hy37=>?_);replace h:=iSrt h s34 hy36 hy37;have hy36l:=hy36.length_eq;refine wN<|wQ<|wR<|ws (aR 78 2 rfl)<|wN<|wQ<|wQ<|wR<|wm ?_;refine ws (LR.lenRow underlying79 rfl)<|wm ?_;refine wN ?_;refine wJ (zG h) (fun (out38:List TRun) (_:Unit)=>⟨78,[(6,.row 6 (List.length out38))],[(6,.row 78 2 (List.map TRun.e out38))]⟩) (fun h=>?_) ?_
  ·refine wB ?_;refine wM (fun (⟨v69,out70⟩:Int × List TRun) (_:Unit)=>⟨78,[(6,.row 6 (List.length out70)),(38,.row 3 (List.length some2)),(39,.d (.v (.int .i64 ((List.length some2):Int)))),(40,.d (.v (.int .i64 v69)))],[(3,.row 78 2 (List.map TRun.e s34)),(6,.row 78 2 (List.map TRun.e out70))]⟩) () h (sO rfl (.cons rfl rfl<|.cons rfl (by first | rfl | (simp;done) | (congr 1;first | (simp;done) | (simp;omega) | omega))<|.c2 rfl rfl rfl rfl<|.nil) (.c2 rfl rfl rfl rfl<|.nil)) ?_;rintro N ⟨v69,out70⟩ _ h;refine wQ<|wR<|ws (LR.lss rfl rfl)<|wN<|wQ ?_;refine wC rfl (fun hc71=>?_) (fun hc71=>?_)
   ·replace h:=iT hc71 h;refine wK<|wQ ?_;refine wJ (zG h) (fun (out72:List TRun) (_:Unit)=>⟨78,[(6,.row 6 (List.length out72)),(38,.row 3 (List.length some2)),(39,.d (.v (.int .i64 ((List.length some2):Int)))),(40,.d (.v (.int .i64 v69)))],[(3,.row 78 2 (List.map TRun.e s34)),(6,.row 78 2 (List.map TRun.e out72))]⟩) (fun h=>?_) ?_
    ·refine wB<|wQ<|wR ?_;obtain ⟨x73,hy74,h⟩:=iIdx h;refine ws (LR.idxRowT (L:=s34) (y:=x73) underlying79 sizeOf78 rfl (by first | (simp;done) | (simp;omega) | omega) rfl hy74) ?_;refine ws (LR.loadRpT (enc:=TRun.e) (L:=s34) (y:=x73) isAgg78 sizeOf78 rfl rfl hy74.2)<|ws (LR.allocZ (cs:=[_,_]) zeroValue78 rfl rfl rfl rfl)<|ws (sB (ns:=[_,_]) sizeOf78 rfl rfl rfl rfl rfl rfl rfl)<|wN<|wQ<|wQ<|wR<|wm ?_;refine ws (LR.lenRow underlying79 rfl)<|ws (LR.subW rfl rfl)<|wa ?_;refine wN<|wQ ?_;refine wJ (zG h) (fun (v75:Bool) (_:Unit)=>⟨78,[(6,.row 6 (List.length out70)),(8,.ref 8 0),(9,.d (.v (.int .i64 ((IntKind.i64.wrap (((List.length out70):Int) - 1)))))),(38,.row 3 (List.length some2)),(39,.d (.v (.int .i64 ((List.length some2):Int)))),(40,.d (.v (.int .i64 v69))),(59,.d (.v (.bool v75)))],[(3,.row 78 2 (List.map TRun.e s34)),(6,.row 78 2 (List.map TRun.e out70)),(8,.cells 78 [.d (.v (.int .u64 x73.lo)),.d (.v (.int .u64 x73.hi))])]⟩) (fun h=>?_) ?_
     ·refine wD (by kernel_rfl) (by kernel_rfl)<|qm ?_;refine qs (fun _ U W=>LR.geq (U rfl rfl) (U rfl rfl))<|qm ?_;refine PQl.split (d:=49) rfl (fun hg76=>?_) (fun hg76=>?_)
      ·replace h:=iT hg76 h;refine qt (fun _ U W=>fR underlying78 rfl sizeOf64 (by decide) rfl (U rfl rfl)) ?_;refine qt (fun _ U W=>lD isAgg64 (U rfl rfl) (W rfl) rfl) ?_;refine qt (fun _ U W=>mV (U rfl rfl)) ?_;refine qt (fun _ U W=>mV (U rfl rfl)) ?_;obtain ⟨x77,hy78,h⟩:=iIdx h;refine qt (fun _ U W=>LR.idxRowT (L:=out70) (y:=x77) underlying79 sizeOf78 (U rfl rfl) rfl (U rfl rfl) hy78) ?_;refine qt (fun _ U W=>LR.fieldRp underlying78 rfl sizeOf64 (by decide) rfl (U rfl rfl)) ?_;refine qt (fun _ U W=>LR.loadRpF (enc:=TRun.e) (L:=out70) (y:=x77) isAgg64 (U rfl rfl) (W rfl) hy78.2 rfl) ?_;refine qt (fun _ U W=>LR.addW (U rfl rfl) (U rfl rfl)) ?_;refine qt (fun _ U W=>LR.leq (U rfl rfl) (U rfl rfl)) ?_;refine qs (fun _ U W=>pT (U rfl rfl) (U rfl rfl))<|qN ?_;exact ⟨(decide (x73.lo <= (IntKind.u64.wrap (x77.hi + 1)))),(),h,sO rfl (.c2 rfl rfl rfl rfl<|.cons rfl rfl<|.cons rfl (by first | rfl | (simp;done) | (congr 1;first | (simp;done) | (simp;omega) | omega))<|.c2 rfl rfl rfl rfl<|.cons rfl rfl<|.nil) (.c2 rfl rfl rfl rfl<|.cons rfl rfl<|.nil)⟩
      ·replace h:=iF hg76 h;refine kF<|kF<|kF<|kF<|kF<|kF<|kF<|kF<|kF ?_;refine qs (fun _ U W=>pF (U rfl rfl) (U rfl rfl))<|qN ?_;exact ⟨false,(),h,sO rfl (.c2 rfl rfl rfl rfl<|.cons rfl rfl<|.cons rfl (by first | rfl | (simp;done) | (congr 1;first | (simp;done) | (simp;omega) | omega))<|.c2 rfl rfl rfl rfl<|.cons rfl rfl<|.nil) (.c2 rfl rfl rfl rfl<|.cons rfl rfl<|.nil)⟩
     ·rintro v75 _ h;refine wC rfl (fun hc79=>?_) (fun hc79=>?_)
      ·replace h:=iT hc79 h;refine wQ<|wz (tl:=[(6,_),(8,_),(9,_),(38,_),(39,_),(40,_)]) (to:=[(3,_),(6,_),(8,_)]) ?_;refine PWc.regionE [⟨[60],[],[],[],[],[6],[],[]⟩,{ws:=[61]},⟨[62],[],[],[],[],[6],[],[]⟩,{ws:=[63]},⟨[64],[],[],[],[],[6],[],[]⟩,⟨[65],[],[],[],[],[6],[],[]⟩,⟨[66],[],[6],[],[],[],[],[]⟩,⟨[67],[],[],[],[],[8],[],[]⟩,⟨[68],[],[8],[],[],[],[],[]⟩,{ws:=[69]},⟨[70],[],[],[],[],[6],[],[]⟩,⟨[71],[],[],[],[],[6],[],[]⟩,⟨[],[6],[6],[],[],[],[],[]⟩] (by kernel_rfl) (by kernel_rfl) rfl<|km ?_;refine km ?_;refine km ?_;refine km ?_;obtain ⟨x80,hy81,h⟩:=iIdx h;refine kp (fun _ U W=>LR.idxRowT (L:=out70) (y:=x80) underlying79 sizeOf78 (U rfl rfl) rfl (U rfl rfl) hy81) ?_;refine kp (fun _ U W=>LR.fieldRp underlying78 rfl sizeOf64 (by decide) rfl (U rfl rfl)) ?_;refine kp (fun _ U W=>LR.loadRpF (enc:=TRun.e) (L:=out70) (y:=x80) isAgg64 (U rfl rfl) (W rfl rfl) hy81.2 rfl) ?_;refine kp (fun _ U W=>fR underlying78 rfl sizeOf64 (by decide) rfl (U rfl rfl)) ?_;refine kp (fun _ U W=>lD isAgg64 (U rfl rfl) (W rfl rfl) rfl) ?_;refine kp (fun _ U W=>LR.maxI (U rfl rfl) (U rfl rfl)) ?_;obtain ⟨x82,hy83,h⟩:=iIdx h;refine kp (fun _ U W=>LR.idxRowT (L:=out70) (y:=x82) underlying79 sizeOf78 (U rfl rfl) rfl (U rfl rfl) hy83) ?_;refine kp (fun _ U W=>LR.fieldRp underlying78 rfl sizeOf64 (by decide) rfl (U rfl rfl)) ?_;refine ks (fun _ U W=>LR.storeRpT (enc:=TRun.e) (L:=out70) (a:=x82) (b:=(⟨x82.lo,(max x80.hi x73.hi)⟩:TRun)) sizeOf64 (U rfl rfl) (U rfl rfl) rfl rfl (W rfl rfl) hy83.2 rfl rfl)<|PQe.nil<|wZ ?_;exact ⟨(List.set out70 ((Int.toNat ((IntKind.i64.wrap (((List.length out70):Int) - 1))))) (⟨x82.lo,(max x80.hi x73.hi)⟩:TRun)),(),h,sO rfl (.cons rfl (by first | rfl | (simp;done) | (congr 1;first | (simp;done) | (simp;omega) | omega))<|.cons rfl (by first | rfl | (simp;done) | (congr 1;first | (simp;done) | (simp;omega) | omega))<|.c2 rfl rfl rfl rfl<|.nil) (.c2 rfl rfl rfl rfl<|.nil)⟩
      ·replace h:=iF hc79 h;refine wK<|wR<|wm ?_;refine ws (lA (ps:=[_,_]) isAgg78 sizeOf78 rfl rfl rfl rfl)<|ws (LR.buildSliceD [.tmp 73] xN rfl rfl (.cons rfl rfl rfl<|.nil) (by decide) (by decide)) ?_;obtain ⟨hy84,h⟩:=zl h;refine ws (LR.appT (enc:=TRun.e) (L:=out70) (R:=[x73]) [6,72] xN underlying79 rfl rfl rfl (Src.slT (enc:=TRun.e) (R:=[x73]) rfl (fun _=>rfl)) (fun _=>rfl) hy84 rfl rfl)<|wa ?_;refine wN ?_;exact ⟨(out70 ++ [x73]),(),h,sO rfl (.cons rfl rfl<|.cons rfl (by first | rfl | (simp;done) | (congr 1;first | (simp;done) | (simp;omega) | omega))<|.c2 rfl rfl rfl rfl<|.nil) (.c2 rfl rfl rfl rfl<|.nil)⟩
    ·rintro out72 _ h;refine wR<|ws (LR.addW rfl rfl)<|wm ?_;refine wN ?_;exact ⟨((IntKind.i64.wrap (v69 + 1)),out72),(),h,sO rfl (.cons rfl rfl<|.cons rfl (by first | rfl | (simp;done) | (congr 1;first | (simp;done) | (simp;omega) | omega))<|.c2 rfl rfl rfl rfl<|.nil) (.c2 rfl rfl rfl rfl<|.nil)⟩
   ·replace h:=iF hc71 h;refine wZ ?_;exact ⟨out70,(),h,sP⟩
  ·rintro out38 _ h;refine wQ<|wR<|wm ?_;refine wa ?_;refine wN<|wX ?_;cases h;exact ⟨.inr rfl,2,rfl,.inr ⟨6,_,rfl,(by simp),rfl⟩⟩

theorem uH (x1:Int) (r0:Bool) (h:(xU x1).wp (· = r0)):PFun prog 162 [.d (.v (.int .u16 x1))] (.d (.v (.bool r0))):=by
 refine fI (sl:=[(0,_)]) func162 rfl ntmps162 rfl rfl ?_;intro ctx hK;refine wQ<|wR<|wa ?_;refine wN<|wQ<|wR<|wm ?_;refine wm ?_;refine ws (nQ rfl rfl)<|wa ?_;refine wN<|wX ?_;cases h;exact ⟨.inr rfl,_,.cons (.tmp rfl rfl)<|.nil,rfl⟩


theorem YS (x1:Int) (y2:Int) (r0:Int) (h:(yv x1 y2).wp (· = r0)):PFun prog 120 [.d (.v (.int .u16 x1)),.d (.v (.int .u16 y2))] (.d (.v (.int .i64 r0))):=by
 refine fI (sl:=[(0,_),(1,_)]) func120 rfl ntmps120 rfl rfl ?_;intro ctx hK;refine wQ<|wR<|wa ?_;refine wN<|wQ<|wR<|wm ?_;obtain ⟨v3,hy4,h⟩:=iDet h;refine ws (cN (uH x1 v3 hy4) rfl call162 rfl rfl rfl rfl)<|wa ?_;refine wN<|wQ<|wR<|wm ?_;obtain ⟨v5,hy6,h⟩:=iDet h;refine ws (cN (uH y2 v5 hy6) rfl call162 rfl rfl rfl rfl)<|wa ?_;refine wN<|wQ<|wQ<|wR<|wm ?_;refine wN ?_;refine wC rfl (fun hc7=>?_) (fun hc7=>?_)
 ·replace h:=iT hc7 h;refine wQ<|wQ<|wR<|wm ?_;refine wN ?_;refine wC rfl (fun hc8=>?_) (fun hc8=>?_)
  ·replace h:=iT hc8 h;refine wQ<|wR<|wa ?_;refine wN<|wX ?_;cases h;exact ⟨.inr rfl,_,.cons (.tmp rfl rfl)<|.nil,rfl⟩
  ·replace h:=iF hc8 h;refine wK<|wQ<|wR<|wa ?_;refine wN<|wX ?_;cases h;exact ⟨.inr rfl,_,.cons (.tmp rfl rfl)<|.nil,rfl⟩
 ·replace h:=iF hc7 h;refine wK<|wQ<|wQ<|wR<|wm ?_;refine wN ?_;refine wC rfl (fun hc9=>?_) (fun hc9=>?_)
  ·replace h:=iT hc9 h;refine wQ<|wR<|wa ?_;refine wN<|wX ?_;cases h;exact ⟨.inr rfl,_,.cons (.tmp rfl rfl)<|.nil,rfl⟩
  ·replace h:=iF hc9 h;refine wK<|wQ<|wQ<|wR<|wm ?_;refine wm ?_;refine ws (LR.lss rfl rfl)<|wN ?_;refine wC rfl (fun hc10=>?_) (fun hc10=>?_)
   ·replace h:=iT hc10 h;refine wQ<|wR<|wa ?_;refine wN<|wX ?_;cases h;exact ⟨.inr rfl,_,.cons (.tmp rfl rfl)<|.nil,rfl⟩
   ·replace h:=iF hc10 h;refine wK<|wQ<|wQ<|wR<|wm ?_;refine wm ?_;refine ws (LR.gtr rfl rfl)<|wN ?_;refine wC rfl (fun hc11=>?_) (fun hc11=>?_)
    ·replace h:=iT hc11 h;refine wQ<|wR<|wa ?_;refine wN<|wX ?_;cases h;exact ⟨.inr rfl,_,.cons (.tmp rfl rfl)<|.nil,rfl⟩
    ·replace h:=iF hc11 h;refine wK<|wQ<|wR<|wa ?_;refine wN<|wX ?_;cases h;exact ⟨.inr rfl,_,.cons (.tmp rfl rfl)<|.nil,rfl⟩

theorem uh (m1:List (Int × List TRun)) (r0:List TPart) (h:(xq m1).wp (· = r0)):PRow prog 113 [.md [.u16] false (encM kI (eL TRun.e) m1)] 81 2 (List.map TPart.e r0):=by
 refine PRow.intro (sl:=[(0,_)]) func113 rfl ntmps113 rfl rfl ?_;intro ctx hK;refine wQ<|wR<|ws (aR 81 2 rfl)<|wN<|wQ<|wR<|ws (aR 81 2 rfl)<|wN<|wQ ?_;refine wQ<|wR<|wm ?_;refine PWl.rangeD underlying138 rfl rfl rfl (fun bs2 ck2 hbl2 hbn2=>?_);refine wN ?_;refine wJ (zG h) (fun (c3:List TPart) (_:Unit)=>⟨27,[(3,.row 3 (List.length c3))],[(3,.row 81 2 (List.map TPart.e c3))]⟩) (fun h=>?_) ?_
 ·refine wB<|wM (fun (⟨seen28,c29⟩:List Nat × List TPart) (_:Unit)=>⟨27,[(3,.row 3 (List.length c29)),(7,.ref 7 0)],[(3,.row 81 2 (List.map TPart.e c29)),(7,.iterD [.u16] false (encM kI (eL TRun.e) m1) bs2 ck2 seen28)]⟩) () h (sP) ?_;rintro N ⟨seen28,c29⟩ _ h;refine wQ<|wR ?_;obtain ⟨hy40,h⟩:=zl h;replace h:=iNxt h;refine PWl.nextD rfl rfl (nxtD hy40) rfl (fun hy31=>?_) (fun j30 hy32 hy33=>?_)
  ·replace h:=h.1 (nxtA hy31);refine ws (LR.extract rfl rfl)<|wN<|wQ<|PWc.condF rfl<|wZ ?_;exact ⟨c29,(),h,sP⟩
  ·replace h:=h.2 j30 (nxtB hy32) hy33;refine ws (LR.extract rfl rfl)<|wN<|wQ<|PWc.condT rfl<|wK<|wB<|wQ<|wR ?_;obtain ⟨kv34,hy35,h⟩:=iIdx h;refine ws (LR.entryD rfl rfl (jo hy35) rfl rfl)<|ws (LR.extract rfl rfl)<|ws (LR.extract rfl rfl)<|wa ?_;refine wa ?_;refine wN<|wQ<|wR<|wm ?_;obtain ⟨v36,hy37,h⟩:=iDet h;refine ws (LR.rowN (xj kv34.2 v36 hy37) rfl call158 rfl rfl rfl rfl)<|wa ?_;refine wN<|wQ<|wR<|wm ?_;refine ws (LR.lenRow underlying79 rfl)<|ws (LR.gtr rfl rfl)<|wN ?_;refine wC rfl (fun hc38=>?_) (fun hc38=>?_)
   ·replace h:=iT hc38 h;refine wR<|wm ?_;refine wm ?_;refine wm ?_;refine PWl.frz [5,14,15,20] hK (.cons rfl<|.cons rfl<|.cons rfl<|.cons rfl<|.nil) rfl (by simp) ?_;refine ws (LR.build (ns:=[_,_]) zCa rfl rfl rfl)<|ws (LR.buildSliceD [.tmp 21] Ud rfl rfl (.cons rfl rfl rfl<|.nil) (by decide) (by decide)) ?_;obtain ⟨hy39,h⟩:=zl h;refine ws (LR.appT (enc:=TPart.e) (L:=c29) (R:=[(⟨kv34.1,v36⟩:TPart)]) [3,18] Ud underlying23 rfl rfl rfl (Src.slT (enc:=TPart.e) (R:=[(⟨kv34.1,v36⟩:TPart)]) rfl (fun _=>rfl)) (fun _=>rfl) hy39 rfl rfl)<|wy (tl:=[(7,_),(23,_)]) (to:=[(3,_),(7,_)]) ?_;refine wa ?_;refine wN ?_;exact ⟨((seen28 ++ [j30]),(c29 ++ [(⟨kv34.1,v36⟩:TPart)])),(),h,sP⟩
   ·replace h:=iF hc38 h;refine wK ?_;exact ⟨((seen28 ++ [j30]),c29),(),h,sP⟩
 ·rintro c3 _ h;refine wQ<|wR<|wm ?_;obtain ⟨hy42,h⟩:=zl h;refine PWl.sortFnR (encD:=TPart.e) (enc:=RawTPart.v) (lt:=jp) (R:=RawTPart.R) (l:=c3) yva RawTPart.raw rlt159 (fun _=>rfl) (fun _=>rfl) rfl call159 rfl rfl rfl (by simp) hy42 rfl (fun s41 hy43 hy44=>?_);replace h:=iSrt h s41 hy43 hy44;have hy43l:=hy43.length_eq;refine wN<|wQ<|wR<|wm ?_;refine wa ?_;refine wN<|wX ?_;cases h;exact ⟨.inr rfl,2,rfl,.inr ⟨3,_,rfl,(by first | (simp;done) | (simp;omega) | omega),rfl⟩⟩

theorem wq (c1:List TPart) (r0:List (Int × List TRun)) (h:(vX c1).wp (· = r0)):PMap prog 114 [.d (.sl (List.map TPart.e c1))] [.u16] false (encM kI (eL TRun.e) r0):=by
 refine PMap.intro (sl:=[(0,_)]) func114 rfl ntmps114 rfl rfl ?_;intro ctx hK;refine wQ<|wR<|wa ?_;refine wN<|wQ<|wR<|ws (LR.makeMap [.u16] false rfl)<|wa ?_;refine wN<|wQ<|wQ<|wR<|wm ?_;refine ws (lM (enc:=TPart.e) (L:=c1) underlying23 rfl)<|wm ?_;refine wN<|wB ?_;obtain ⟨hy10,h⟩:=zl h;have hN:=hy10.1;refine PWc.loopRows (bid:=0) (N:=List.length c1) (mid:=6) (n:=28) (ks:=[.u16]) (e:=78) (k:=2) (fun i=>[(3,.mp 6),(7,.d (.sl (List.map TPart.e c1))),(8,.d (.v (.int .i64 (List.length c1:Int)))),(9,.d (.v (.int .i64 (i:Int))))]) (fun i=>wh kI TRun.e (AL.grow [] ((List.take i c1).filterMap zc))) [(3,.mp 6)] [] 0 hK (by decide) (fun i x hx id h=>by simp only [List.mem_cons,List.not_mem_nil,or_false] at hx;rcases hx with rfl | rfl | rfl | rfl <;> first | (simp [PV.has] at h;done) | (simp [PV.has] at h;exact h.symm) | (simp [PV.has] at h;omega)) rfl (fun i=>Vf (fun x d hd=>by simp only [TRun.e,List.mem_cons,List.not_mem_nil,or_false] at hd;rcases hd with rfl | rfl <;> exact ⟨_,rfl⟩) _) (sP) (fun i hi=>?_) (encM kI (eL TRun.e) (AL.grow ([]:List (Int × List TRun)) (List.filterMap zc c1))) (by simp only [List.take_length];exact yCa _) (fun ctx vm bs ck=>?_) (fun bs ck=>?_)
 ·obtain ⟨p,hp⟩:∃ p,c1[i]? = some p:=⟨_,List.getElem?_eq_getElem hi⟩
  have hidx:(0:Int) <= (i:Int) /\ c1[(i:Int).toNat]? = some p:=⟨by omega,by simpa using hp⟩
  have htk:=AL.grow_take hp zc;have hwi:=xxa (i:=i) (by omega)
  by_cases hd:0 < p.dev
  ·have hf:zc p = some (p.dev,p.runs):=by simp [zc,hd]
   have hbd:=AL.grow_bound hy10 hp hf;rw [hf] at htk;rcases VM (eK:=kI) (enc:=TRun.e) Ub (p.dev) (AL.grow [] ((List.take i c1).filterMap zc)) with ⟨j,l,h1,h2,h3,h4⟩ | ⟨h1,h2,h3⟩
   ·simp only [h3] at hbd;refine .found (nl:=List.length l) (nl':=(List.length (l ++ p.runs))) (l:=(List.map TRun.e l)) (l':=(List.map TRun.e (l ++ p.runs))) (by simp) (by simp) h2 (by rw [htk];simp only [AL.grow,Option.toList,List.foldl] at h3 h4 ⊢;rw [h3];exact h4 _) fun ctx vm bs ck hvm=>?_
    have hpf:yc (kI (p.dev)) (uF vm) 0 = some j:=by rw [Wn hvm];exact h1
    have h:(M.bind (M.idx c1 (i:Int)) fun x2=>M.need ((List.length l + List.length x2.runs) * 16 <= 140737488355328)<|M.pure ()).wp (fun _=>True):=⟨p,hidx,hbd,trivial⟩
    refine wQ<|wR<|ws (LR.lss rfl rfl)<|wN<|wQ<|PWc.condT (congrArg (fun b=>some (PV.d (.v (.bool b)))) (decide_eq_true (Int.ofNat_lt.2 hi)))<|wK<|wQ<|wB ?_;refine wQ<|wR ?_;obtain ⟨x2,hy3,h⟩:=iIdx h;have hE:=idxU hy3 hidx;subst hE;refine ws (iX (enc:=TPart.e) (L:=c1) (y:=x2) underlying23 sizeOf81 rfl rfl hy3 (fun _=>rfl))<|ws (lE (ys:=[_,_]) isAgg81 sizeOf81 rfl rfl rfl)<|ws (LR.allocZ (cs:=[_,_]) zeroValue81 rfl rfl rfl rfl)<|ws (sB (ns:=[_,_]) sizeOf81 rfl rfl rfl rfl rfl rfl rfl)<|wN<|wQ<|wR<|ws (fR underlying81 rfl sizeOf50 (by decide) rfl rfl)<|ws (lD isAgg50 rfl rfl rfl) ?_;refine ws (LR.gtr rfl rfl)<|wN<|PWc.condT (congrArg (fun b=>some (PV.d (.v (.bool b)))) (decide_eq_true hd))<|wz (tl:=[(3,_),(5,_),(7,_),(8,_),(9,_)]) (to:=[(5,_),(6,_),(50,_)]) ?_;refine PWc.regionE [⟨[16],[],[],[],[],[6],[],[]⟩,⟨[17],[],[],[],[],[5],[],[]⟩,⟨[18],[],[5],[],[],[],[],[]⟩,⟨[19],[],[],[],[],[6],[],[]⟩,⟨[20],[],[],[],[],[5],[],[]⟩,⟨[21],[],[5],[],[],[],[],[]⟩,⟨[22],[],[6],[],[],[50],[],[]⟩,⟨[23],[],[],[],[],[5],[],[]⟩,⟨[24],[],[5],[],[],[],[],[]⟩,⟨[22,25],[6,50],[6,50],[],[(50,[22])],[50],[],[6]⟩,⟨[],[6],[6,50],[],[],[],[50],[]⟩] (by kernel_rfl) (by kernel_rfl) rfl<|km ?_;refine kp (fun _ U W=>fR underlying81 rfl sizeOf50 (by decide) rfl (U rfl rfl)) ?_;refine kp (fun _ U W=>lD isAgg50 (U rfl rfl) (W rfl rfl) rfl)<|km ?_;refine kp (fun _ U W=>fR underlying81 rfl sizeOf50 (by decide) rfl (U rfl rfl)) ?_;refine kp (fun _ U W=>lD isAgg50 (U rfl rfl) (W rfl rfl) rfl) ?_;refine kp (fun _ U W=>LR.lookupP underlying138 ux (U rfl rfl) (W rfl rfl) (U rfl rfl) rfl hpf rfl) ?_;refine kp (fun _ U W=>fR underlying81 rfl sizeOf79 (by decide) rfl (U rfl rfl)) ?_;refine kp (fun _ U W=>lD isAgg79 (U rfl rfl) (W rfl rfl) rfl) ?_;obtain ⟨hy4,h⟩:=zl h;refine PQe.stepX [22] (fun _ U W ha=>LR.appP (enc:=TRun.e) (L:=l) (R:=x2.runs) [22] xN underlying79 (U rfl rfl) rfl (W rfl rfl) (W rfl rfl) rfl (fun _ h1 h2=>Src.slT (enc:=TRun.e) (R:=x2.runs) (xwa h1 h2 (U rfl rfl)) (fun _=>rfl)) (fun _=>rfl) hy4 rfl ha) rfl rfl (.inl rfl) rfl ?_;refine ks (fun _ U W=>LR.mapUpdateP underlying138 ux (U rfl rfl) (W rfl rfl) (U rfl rfl) rfl rfl (U rfl rfl) hpf)<|PQe.nil<|wR<|ws (LR.addW rfl rfl)<|wm ?_;refine wN ?_;exact ⟨rfl,sO rfl (.c2 rfl rfl rfl rfl<|.cons rfl rfl<|.cons rfl (congrArg (fun z=>PV.d (.v (.int .i64 z))) hwi)<|.nil) (.c2 rfl rfl rfl rfl<|.nil)⟩
   ·simp only [h2,List.length_nil,Nat.zero_add] at hbd;refine .fresh (q:=25) (nl':=(List.length p.runs)) (l':=(List.map TRun.e p.runs)) (by simp) (by decide) (by rw [htk];simp only [AL.grow,Option.toList,List.foldl] at h2 h3 ⊢;rw [h2];exact h3 _) fun ctx vm bs ck hvm=>?_
    have hpf:yc (kI (p.dev)) (uF vm) 0 = none:=by rw [Wn hvm];exact h1
    have h:(M.bind (M.idx c1 (i:Int)) fun x5=>M.need (List.length x5.runs * 16 <= 140737488355328)<|M.pure ()).wp (fun _=>True):=⟨p,hidx,hbd,trivial⟩
    refine wQ<|wR<|ws (LR.lss rfl rfl)<|wN<|wQ<|PWc.condT (congrArg (fun b=>some (PV.d (.v (.bool b)))) (decide_eq_true (Int.ofNat_lt.2 hi)))<|wK<|wQ<|wB ?_;refine wQ<|wR ?_;obtain ⟨x5,hy6,h⟩:=iIdx h;have hE:=idxU hy6 hidx;subst hE;refine ws (iX (enc:=TPart.e) (L:=c1) (y:=x5) underlying23 sizeOf81 rfl rfl hy6 (fun _=>rfl))<|ws (lE (ys:=[_,_]) isAgg81 sizeOf81 rfl rfl rfl)<|ws (LR.allocZ (cs:=[_,_]) zeroValue81 rfl rfl rfl rfl)<|ws (sB (ns:=[_,_]) sizeOf81 rfl rfl rfl rfl rfl rfl rfl)<|wN<|wQ<|wR<|ws (fR underlying81 rfl sizeOf50 (by decide) rfl rfl)<|ws (lD isAgg50 rfl rfl rfl) ?_;refine ws (LR.gtr rfl rfl)<|wN<|PWc.condT (congrArg (fun b=>some (PV.d (.v (.bool b)))) (decide_eq_true hd))<|wz (tl:=[(3,_),(5,_),(7,_),(8,_),(9,_)]) (to:=[(5,_),(6,_)]) ?_;refine PWc.regionE [⟨[16],[],[],[],[],[6],[],[]⟩,⟨[17],[],[],[],[],[5],[],[]⟩,⟨[18],[],[5],[],[],[],[],[]⟩,⟨[19],[],[],[],[],[6],[],[]⟩,⟨[20],[],[],[],[],[5],[],[]⟩,⟨[21],[],[5],[],[],[],[],[]⟩,⟨[22],[],[6],[],[],[],[],[]⟩,⟨[23],[],[],[],[],[5],[],[]⟩,⟨[24],[],[5],[],[],[],[],[]⟩,⟨[25],[25],[],[25],[],[25],[],[]⟩,⟨[],[6],[6,25],[],[],[],[25],[]⟩] (by kernel_rfl) (by kernel_rfl) rfl<|km ?_;refine kp (fun _ U W=>fR underlying81 rfl sizeOf50 (by decide) rfl (U rfl rfl)) ?_;refine kp (fun _ U W=>lD isAgg50 (U rfl rfl) (W rfl rfl) rfl)<|km ?_;refine kp (fun _ U W=>fR underlying81 rfl sizeOf50 (by decide) rfl (U rfl rfl)) ?_;refine kp (fun _ U W=>lD isAgg50 (U rfl rfl) (W rfl rfl) rfl) ?_;refine kp (fun _ U W=>LR.lookupPN underlying138 ux (U rfl rfl) (W rfl rfl) (U rfl rfl) rfl zeroValue79 rfl hpf) ?_;refine kp (fun _ U W=>fR underlying81 rfl sizeOf79 (by decide) rfl (U rfl rfl)) ?_;refine kp (fun _ U W=>lD isAgg79 (U rfl rfl) (W rfl rfl) rfl) ?_;obtain ⟨hy7,h⟩:=zl h;refine PQe.stepN (fun _ U W hf=>LR.appNilX (enc:=TRun.e) (R:=x5.runs) xN underlying79 (U rfl rfl) hf (Src.slT (enc:=TRun.e) (R:=x5.runs) (evObjs (U rfl rfl)) (fun _=>rfl)) (fun _=>rfl) hy7 rfl (Um hf)) rfl (.inl rfl) rfl ?_;refine ks (fun _ U W=>LR.mapUpdatePN underlying138 ux (U rfl rfl) (W rfl rfl) (U rfl rfl) rfl rfl (U rfl rfl) hpf)<|PQe.nil<|wR<|ws (LR.addW rfl rfl)<|wm ?_;refine wN ?_;exact ⟨rfl,sO rfl (.c2 rfl rfl rfl rfl<|.cons rfl rfl<|.cons rfl (congrArg (fun z=>PV.d (.v (.int .i64 z))) hwi)<|.nil) (.c2 rfl rfl rfl rfl<|.nil)⟩
  ·have hf:zc p = none:=by simp [zc,hd]
   rw [hf] at htk;refine .skip (by rw [htk];rfl) fun ctx vm bs ck=>?_
   have h:(M.bind (M.idx c1 (i:Int)) fun x8=>M.pure ()).wp (fun _=>True):=⟨p,hidx,trivial⟩
   refine wQ<|wR<|ws (LR.lss rfl rfl)<|wN<|wQ<|PWc.condT (congrArg (fun b=>some (PV.d (.v (.bool b)))) (decide_eq_true (Int.ofNat_lt.2 hi)))<|wK<|wQ<|wB ?_;refine wQ<|wR ?_;obtain ⟨x8,hy9,h⟩:=iIdx h;have hE:=idxU hy9 hidx;subst hE;refine ws (iX (enc:=TPart.e) (L:=c1) (y:=x8) underlying23 sizeOf81 rfl rfl hy9 (fun _=>rfl))<|ws (lE (ys:=[_,_]) isAgg81 sizeOf81 rfl rfl rfl)<|ws (LR.allocZ (cs:=[_,_]) zeroValue81 rfl rfl rfl rfl)<|ws (sB (ns:=[_,_]) sizeOf81 rfl rfl rfl rfl rfl rfl rfl)<|wN<|wQ<|wR<|ws (fR underlying81 rfl sizeOf50 (by decide) rfl rfl)<|ws (lD isAgg50 rfl rfl rfl) ?_;refine ws (LR.gtr rfl rfl)<|wN<|PWc.condF (congrArg (fun b=>some (PV.d (.v (.bool b)))) (decide_eq_false hd))<|wK<|wR<|ws (LR.addW rfl rfl)<|wm ?_;refine wN ?_;exact ⟨rfl,sO rfl (.c2 rfl rfl rfl rfl<|.cons rfl rfl<|.cons rfl (congrArg (fun z=>PV.d (.v (.int .i64 z))) hwi)<|.nil) (.cons rfl rfl<|.nil)⟩
 ·have h:(M.pure ()).wp (fun _=>True):=trivial;refine wQ<|wR<|ws (LR.lss rfl rfl)<|wN<|wQ<|PWc.condF (congrArg (fun b=>some (PV.d (.v (.bool b)))) (decide_eq_false (by omega))) ?_;refine wZ ?_;exact ⟨rfl,sP⟩
 ·refine wQ<|wR<|wm ?_;refine wa ?_;refine wN<|wX ?_;cases h;exact ⟨.inr rfl,2,6,_,_,rfl,rfl,rfl⟩

theorem xa (c1:List TPart) (r0:List TPart) (h:(vY c1).wp (· = r0)):PRow prog 54 [.d (.sl (List.map TPart.e c1))] 81 2 (List.map TPart.e r0):=by
 refine PRow.intro (sl:=[(0,_)]) func54 rfl ntmps54 rfl rfl ?_;intro ctx hK;refine wQ<|wR<|ws (aR 81 2 rfl)<|wN<|wQ<|wR<|wm ?_;obtain ⟨v2,hy3,h⟩:=iDet h;refine PWl.mapN (wq c1 v2 hy3) rfl call114 rfl rfl rfl rfl rfl (fun bs4 ck4 _=>?_);obtain ⟨v5,hy6,h⟩:=iDet h;refine PWl.frzM [4] hK (.cons rfl<|.nil) rfl<|ws (LR.rowN (uh v2 v5 hy6) rfl call113 rfl rfl rfl rfl)<|wy (tl:=[(0,_),(3,_),(4,_),(5,_)]) (to:=[(5,_)]) ?_;refine wa ?_;refine wN<|wX ?_;cases h;exact ⟨.inr rfl,2,rfl,.inr ⟨5,_,rfl,(by simp),rfl⟩⟩


theorem xO (s1:List TDot) (r0:List TDot) (h:(zq s1).wp (· = r0)):PRow prog 165 [.d (.sl (List.map TDot.e s1))] 66 2 (List.map TDot.e r0):=by
 refine PRow.intro (sl:=[(0,_)]) func165 rfl ntmps165 rfl rfl ?_;intro ctx hK;refine wQ<|wR<|ws (aR 66 2 rfl)<|wN<|wQ<|wQ<|wR<|wm ?_;replace h:=iNil h;refine PWl.eqlNilT (enc:=TDot.e) (L:=s1) underlying67 rfl rfl (fun b2 hy3=>?_);replace h:=h b2 hy3;refine wN ?_;refine wC rfl (fun hc4=>?_) (fun hc4=>?_)
 ·replace h:=iT hc4 h;refine wQ<|wR<|wy (tl:=[(0,_),(3,_),(4,_)]) (to:=[]) ?_;refine ws (aR 66 2 rfl)<|wN<|wX ?_;cases h;exact ⟨.inr rfl,2,rfl,.inr ⟨2,_,rfl,(by first | (simp;done) | (simp;omega) | omega),rfl⟩⟩
 ·replace h:=iF hc4 h;refine wK<|wQ<|wR<|ws (LR.buildSlice [] uw rfl rfl (.nil) (by decide) (by decide) rfl)<|wm ?_;obtain ⟨hy5,h⟩:=zl h;refine ws (LR.appT (enc:=TDot.e) (L:=([]:List TDot)) (R:=s1) [5] uw underlying67 rfl (by first | (simp;done) | (simp;omega) | omega) rfl (Src.slT (enc:=TDot.e) (R:=s1) rfl (fun _=>rfl)) (fun _=>rfl) hy5 rfl rfl) ?_;refine wy (tl:=[(0,_),(3,_),(4,_),(6,_),(7,_)]) (to:=[(5,_)]) ?_;refine wa ?_;refine wN<|wX ?_;cases h;exact ⟨.inr rfl,2,rfl,.inr ⟨5,_,rfl,(by simp),rfl⟩⟩

theorem vi (e1:TEvent) (r0:TEvent) (h:(yb e1).wp (· = r0)):PFun prog 123 [.agg (List.map .d (TEvent.e e1))] (.agg (List.map .d (TEvent.e r0))):=by
 refine fI (sl:=[(0,_)]) func123 rfl ntmps123 rfl rfl ?_;intro ctx hK;refine wQ<|wR<|ws (LR.box rfl rfl rfl rfl)<|ws (LR.allocZ (cs:=[_,_,_,_,_,_,_]) zeroValue69 rfl rfl rfl rfl)<|wN<|wQ<|wR<|ws (fR underlying69 rfl sizeOf67 (by decide) rfl rfl)<|ws (lD isAgg67 rfl rfl rfl) ?_;obtain ⟨v2,hy3,h⟩:=iDet h;refine ws (LR.rowN (xO e1.kills v2 hy3) rfl call165 rfl rfl rfl rfl)<|ws (fR underlying69 rfl sizeOf67 (by decide) rfl rfl)<|PWl.frz [5] hK (.cons rfl<|.nil) rfl (by simp) ?_;refine ws (sB (ns:=[_,_,_,_,_,_,_]) sizeOf67 rfl rfl rfl rfl rfl rfl rfl)<|wN<|wQ<|wR<|ws (lA (ps:=[_,_,_,_,_,_,_]) isAgg69 sizeOf69 rfl rfl rfl rfl)<|ws (sB (ns:=[_,_,_,_,_,_,_]) sizeOf69 rfl rfl rfl rfl rfl rfl rfl)<|wN<|wX ?_;cases h;exact ⟨.inr rfl,_,.cons (.agg isAgg69 sizeOf69 rfl rfl rfl rfl)<|.nil,rfl⟩

theorem XL (a1:TDot) (b2:TDot) (r0:Int) (h:(um a1 b2).wp (· = r0)):PFun prog 56 [.agg (List.map .d (TDot.e a1)),.agg (List.map .d (TDot.e b2))] (.d (.v (.int .i64 r0))):=by
 refine fI (sl:=[(0,_),(1,_)]) func56 rfl ntmps56 rfl rfl ?_;intro ctx hK;refine wQ<|wR<|ws (LR.box rfl rfl rfl rfl)<|ws (LR.box rfl rfl rfl rfl)<|wa ?_;refine wN<|wQ<|wQ<|wR<|ws (fR underlying66 rfl sizeOf50 (by decide) rfl rfl)<|ws (lD isAgg50 rfl rfl rfl)<|ws (fR underlying66 rfl sizeOf50 (by decide) rfl rfl)<|ws (lD isAgg50 rfl rfl rfl) ?_;obtain ⟨v3,hy4,h⟩:=iDet h;refine ws (cN (YS a1.dev b2.dev v3 hy4) rfl call120 rfl rfl rfl rfl)<|wa ?_;refine wN<|wQ<|wR<|wm ?_;refine ws (nQ rfl rfl)<|wN ?_;refine wC rfl (fun hc5=>?_) (fun hc5=>?_)
 ·replace h:=iT hc5 h;refine wQ<|wR<|wm ?_;refine wa ?_;refine wN<|wX ?_;cases h;exact ⟨.inr rfl,_,.cons (.tmp rfl rfl)<|.nil,rfl⟩
 ·replace h:=iF hc5 h;refine wK<|wQ<|wR<|ws (fR underlying66 rfl sizeOf64 (by decide) rfl rfl)<|ws (lD isAgg64 rfl rfl rfl)<|ws (fR underlying66 rfl sizeOf64 (by decide) rfl rfl)<|ws (lD isAgg64 rfl rfl rfl) ?_;obtain ⟨v6,hy7,h⟩:=iDet h;refine ws (cN (vO a1.n b2.n v6 hy7) rfl call121 rfl rfl rfl rfl)<|wa ?_;refine wN<|wX ?_;cases h;exact ⟨.inr rfl,_,.cons (.tmp rfl rfl)<|.nil,rfl⟩



theorem wv (d1:TDot) (r0:Bool) (h:(xH d1).wp (· = r0)):PFun prog 116 [.agg (List.map .d (TDot.e d1))] (.d (.v (.bool r0))):=by
 refine fI (sl:=[(0,_)]) func116 rfl ntmps116 rfl rfl ?_;intro ctx hK;refine wQ<|wR<|ws (LR.box rfl rfl rfl rfl)<|wa ?_;refine wN<|wQ ?_;refine wJ (zG h) (fun (v2:Bool) (_:Unit)=>⟨16,[(2,.d (.v (.bool v2)))],[]⟩) (fun h=>?_) ?_
 ·refine wR<|ws (fR underlying66 rfl sizeOf50 (by decide) rfl rfl)<|ws (lD isAgg50 rfl rfl rfl)<|ws (LR.gtr rfl rfl)<|wm ?_;refine wL (d:=6) rfl (fun hg3=>?_) (fun hg3=>?_)
  ·replace h:=iT hg3 h;refine wt (fR underlying66 rfl sizeOf64 (by decide) rfl rfl)<|wt (lD isAgg64 rfl rfl rfl)<|wt (LR.gtr rfl rfl)<|ws (pT rfl rfl)<|wm ?_;refine wL (d:=11) rfl (fun hg4=>?_) (fun hg4=>?_)
   ·replace h:=iT hg4 h;refine wt (fR underlying66 rfl sizeOf64 (by decide) rfl rfl)<|wt (lD isAgg64 rfl rfl rfl)<|wt (LR.leq rfl rfl)<|ws (pT rfl rfl)<|wa ?_;refine wN ?_;exact ⟨(decide (d1.n <= 281474976710655)),(),h,sP⟩
   ·replace h:=iF hg4 h;refine wf<|wf<|wf<|ws (pF rfl rfl)<|wa ?_;refine wN ?_;exact ⟨false,(),h,sP⟩
  ·replace h:=iF hg3 h;refine wf<|wf<|wf<|ws (pF rfl rfl)<|wm ?_;refine wf<|wf<|wf<|ws (pF rfl rfl)<|wa ?_;refine wN ?_;exact ⟨false,(),h,sP⟩
 ·rintro v2 _ h;refine wX ?_;cases h;exact ⟨.inr rfl,_,.cons (.tmp rfl rfl)<|.nil,rfl⟩

theorem vP (row1:List TDot) (r0:List TDot) (h:(zk row1).wp (· = r0)):PObj prog 170 [.row 100 (List.length row1)] [(100,.row 66 2 (List.map TDot.e row1))] [] (.row 100 (List.length r0)) (fun _:Unit=>[(100,.row 66 2 (List.map TDot.e r0))]):=by
 refine PObj.intro (sl:=[(0,_)]) func170 rfl ntmps170 rfl rfl rfl ?_;intro ctx hK pv;refine wQ<|wR<|ws (aR 66 2 rfl)<|wN<|wQ<|wQ<|wR<|wm ?_;refine ws (LR.lenRow underlying67 rfl)<|ws (LR.lss rfl rfl)<|wN ?_;refine wC rfl (fun hc2=>?_) (fun hc2=>?_)
 ·replace h:=iT hc2 h;refine wQ<|wR<|wm ?_;refine wy (tl:=[(0,_),(6,_),(7,_),(8,_),(9,_)]) (to:=[(100,_)]) ?_;refine wa ?_;refine wN<|wX ?_;cases h;exact EndsO.mk () (.inr rfl) (sO (tl:=[(2,_)]) (to:=[(100,_)]) rfl (.cons rfl (by first | rfl | (simp;done) | (congr 1;first | (simp;done) | (simp;omega) | omega))<|.nil) (.cons rfl rfl<|.nil)) (.cons (.tmp rfl)<|.nil) rfl rfl
 ·replace h:=iF hc2 h;refine wK<|wQ<|wQ<|wR<|wa ?_;refine wN ?_;refine PWc.jnX (zG h) (fun (_:Unit) (_:Unit)=>⟨61,[(0,.row 100 (List.length row1))],[(100,.row 66 2 (List.map TDot.e row1))]⟩) (fun h=>?_) ?_
  ·refine wB<|wM (fun (k148:Int) (_:Unit)=>⟨61,[(0,.row 100 (List.length row1)),(3,.d (.v (.int .i64 k148)))],[(100,.row 66 2 (List.map TDot.e row1))]⟩) () h (sP) ?_;rintro N k148 _ h;refine wQ<|wQ<|wR<|wm ?_;refine wm ?_;refine ws (LR.lenRow underlying67 rfl)<|ws (LR.lss rfl rfl)<|wN ?_;refine wC rfl (fun hc149=>?_) (fun hc149=>?_)
   ·replace h:=iT hc149 h;refine wK<|wQ ?_;refine PWc.jnX (zG h) (fun (_:Unit) (_:Unit)=>⟨61,[(0,.row 100 (List.length row1)),(3,.d (.v (.int .i64 k148)))],[(100,.row 66 2 (List.map TDot.e row1))]⟩) (fun h=>?_) ?_
    ·refine wB<|wQ<|wD (by kernel_rfl) (by kernel_rfl)<|qm ?_;refine qm ?_;obtain ⟨x150,hy151,h⟩:=iIdx h;refine qs (fun _ U W=>LR.idxRowT (L:=row1) (y:=x150) underlying67 sizeOf66 (U rfl rfl) rfl (U rfl rfl) hy151) ?_;refine qs (fun _ U W=>LR.loadRpT (enc:=TDot.e) (L:=row1) (y:=x150) isAgg66 sizeOf66 (U rfl rfl) (W rfl) hy151.2)<|qm ?_;refine qm ?_;refine qs (fun _ U W=>LR.subW (U rfl rfl) (U rfl rfl)) ?_;obtain ⟨x152,hy153,h⟩:=iIdx h;refine qs (fun _ U W=>LR.idxRowT (L:=row1) (y:=x152) underlying67 sizeOf66 (U rfl rfl) rfl (U rfl rfl) hy153) ?_;refine qs (fun _ U W=>LR.loadRpT (enc:=TDot.e) (L:=row1) (y:=x152) isAgg66 sizeOf66 (U rfl rfl) (W rfl) hy153.2) ?_;refine qs (fun _ U W=>LR.eqlAgg (U rfl rfl) (U rfl rfl) rfl rfl eq66)<|qN ?_;refine wC rfl (fun hc154=>?_) (fun hc154=>?_)
     ·replace h:=iT hc154 h;refine wQ<|wR<|wm ?_;refine wm ?_;obtain ⟨hy155,h⟩:=zl h;refine ws (LR.pieceRowT (enc:=TDot.e) (L:=row1) underlying67 sizeOf66 rfl rfl rfl rfl hy155)<|wa ?_;refine wN<|wQ<|wQ<|wR<|wa ?_;refine wN ?_;refine wJ (zG h) (fun (⟨k156,v157⟩:Int × List TDot) (_:Unit)=>⟨61,[(0,.row 100 (List.length v157)),(3,.d (.v (.int .i64 k156)))],[(100,.row 66 2 (List.map TDot.e v157))]⟩) (fun h=>?_) ?_
      ·refine wB<|wM (fun (⟨k197,k2_198,v199⟩:Int × Int × List TDot) (_:Unit)=>⟨61,[(0,.row 100 (List.length v199)),(3,.d (.v (.int .i64 k197))),(4,.pc 100 (Int.toNat k148) (List.length row1 - Int.toNat k148) 2),(5,.d (.v (.int .i64 k2_198)))],[(100,.row 66 2 (List.map TDot.e v199))]⟩) () h (sP) ?_;rintro N ⟨k197,k2_198,v199⟩ _ h;refine wQ<|wQ<|wR<|wm ?_;refine wm ?_;refine ws (LR.lenPc underlying67 rfl)<|ws (LR.lss rfl rfl)<|wN ?_;refine wC rfl (fun hc200=>?_) (fun hc200=>?_)
       ·replace h:=iT hc200 h;refine wK<|wQ ?_;refine wJ (zG h) (fun (⟨k201,v202⟩:Int × List TDot) (_:Unit)=>⟨61,[(0,.row 100 (List.length v202)),(3,.d (.v (.int .i64 k201))),(4,.pc 100 (Int.toNat k148) (List.length row1 - Int.toNat k148) 2),(5,.d (.v (.int .i64 k2_198)))],[(100,.row 66 2 (List.map TDot.e v202))]⟩) (fun h=>?_) ?_
        ·refine wB<|wQ<|wD (by kernel_rfl) (by kernel_rfl)<|qm ?_;refine qm ?_;obtain ⟨hy205,h⟩:=zl h;obtain ⟨x203,hy204,h⟩:=iIdx h;have hy206:True /\ v199[((Int.toNat k148) + Int.toNat k2_198)]? = some x203:=⟨trivial,hy204.2⟩
         refine qs (fun _ U W=>LR.idxPc underlying67 sizeOf66 (U rfl rfl) (U rfl rfl) hy205) ?_;refine qs (fun _ U W=>LR.loadRpT (enc:=TDot.e) (L:=v199) (y:=x203) isAgg66 sizeOf66 (U rfl rfl) (W rfl) hy206.2)<|qm ?_;refine qm ?_;refine qs (fun _ U W=>LR.subW (U rfl rfl) (U rfl rfl)) ?_;obtain ⟨hy209,h⟩:=zl h;obtain ⟨x207,hy208,h⟩:=iIdx h;have hy210:True /\ v199[((Int.toNat k148) + Int.toNat (IntKind.i64.wrap (k2_198 - 1)))]? = some x207:=⟨trivial,hy208.2⟩
         refine qs (fun _ U W=>LR.idxPc underlying67 sizeOf66 (U rfl rfl) (U rfl rfl) hy209) ?_;refine qs (fun _ U W=>LR.loadRpT (enc:=TDot.e) (L:=v199) (y:=x207) isAgg66 sizeOf66 (U rfl rfl) (W rfl) hy210.2) ?_;refine qs (fun _ U W=>LR.neqAgg (U rfl rfl) (U rfl rfl) rfl rfl eq66)<|qN ?_;refine wC rfl (fun hc211=>?_) (fun hc211=>?_)
         ·replace h:=iT hc211 h;refine wQ<|wR<|wm ?_;refine wm ?_;refine wm ?_;refine wy (tl:=[(0,_),(3,_),(4,_),(5,_),(45,_),(46,_),(47,_)]) (to:=[(100,_)]) ?_;refine wm ?_;obtain ⟨hy214,h⟩:=zl h;obtain ⟨x212,hy213,h⟩:=iIdx h;have hy215:True /\ v199[((Int.toNat k148) + Int.toNat k2_198)]? = some x212:=⟨trivial,hy213.2⟩
          refine ws (LR.idxPc underlying67 sizeOf66 rfl rfl hy214)<|ws (LR.loadRpT (enc:=TDot.e) (L:=v199) (y:=x212) isAgg66 sizeOf66 rfl rfl hy215.2) ?_;obtain ⟨x216,hy217,h⟩:=iIdx h;refine ws (LR.idxRowT (L:=v199) (y:=x216) underlying67 sizeOf66 rfl rfl rfl hy217)<|ws (LR.storeRpT (enc:=TDot.e) (L:=v199) (a:=x216) (b:=x212) sizeOf66 rfl rfl rfl rfl rfl hy217.2 rfl rfl)<|wN<|wR<|wm ?_;refine ws (LR.addW rfl rfl)<|wa ?_;refine wN ?_;exact ⟨((IntKind.i64.wrap (k197 + 1)),(List.set v199 (Int.toNat k197) x212)),(),h,sO rfl (.cons rfl (by first | rfl | (simp;done) | (congr 1;first | (simp;done) | (simp;omega) | omega))<|.c2 rfl rfl rfl rfl<|.cons rfl rfl<|.nil) (.cons rfl rfl<|.nil)⟩
         ·replace h:=iF hc211 h;refine wK ?_;exact ⟨(k197,v199),(),h,sP⟩
        ·rintro ⟨k201,v202⟩ _ h;refine wR<|wm ?_;refine ws (LR.addW rfl rfl)<|wa ?_;refine wN ?_;exact ⟨(k201,(IntKind.i64.wrap (k2_198 + 1)),v202),(),h,sP⟩
       ·replace h:=iF hc200 h;refine wZ ?_;exact ⟨(k197,v199),(),h,sP⟩
      ·rintro ⟨k156,v157⟩ _ h;refine wQ<|wR<|wm ?_;refine wm ?_;obtain ⟨hy218,h⟩:=zl h;refine ws (LR.pieceRowT (enc:=TDot.e) (L:=v157) underlying67 sizeOf66 rfl rfl rfl rfl hy218) ?_;obtain ⟨hy219,h⟩:=zl h;refine ws (LR.clearPcT (enc:=TDot.e) (L:=v157) (z:=(⟨0,0⟩:TDot)) underlying67 rfl rfl zeroValue66 rfl rfl rfl rfl hy219 rfl)<|wN<|wQ<|wR<|wm ?_;refine wm ?_;obtain ⟨hy220,h⟩:=zl h;refine ws (LR.cutRowT (enc:=TDot.e) (L:=(List.take (Int.toNat k156) v157 ++ List.replicate (List.length v157 - Int.toNat k156) (⟨0,0⟩:TDot) ++ List.drop ((Int.toNat k156) + (List.length v157 - Int.toNat k156)) v157)) [0,54,56,57] underlying67 sizeOf66 rfl (by first | (simp;done) | (simp;omega) | omega) rfl rfl hy220 rfl) ?_;refine wa ?_;refine wN<|wX ?_;cases h;exact EndsO.mk () (.inr rfl) (sO (tl:=[(2,_)]) (to:=[(100,_)]) rfl (.cons rfl (by first | rfl | (simp;done) | (congr 1;first | (simp;done) | (simp;omega) | omega))<|.nil) (.cons rfl rfl<|.nil)) (.cons (.tmp rfl)<|.nil) rfl rfl
     ·replace h:=iF hc154 h;refine wK ?_;exact ⟨(),(),h,sP⟩
    ·rintro _ _ h;refine wR<|wm ?_;refine ws (LR.addW rfl rfl)<|wa ?_;refine wN ?_;exact ⟨(IntKind.i64.wrap (k148 + 1)),(),h,sP⟩
   ·replace h:=iF hc149 h;refine wZ ?_;exact ⟨(),(),h,sP⟩
  ·rintro _ _ h;refine wQ<|wR<|wm ?_;refine wa ?_;refine wN<|wX ?_;cases h;exact EndsO.mk () (.inr rfl) (sO (tl:=[(2,_)]) (to:=[(100,_)]) rfl (.cons rfl (by first | rfl | (simp;done) | (congr 1;first | (simp;done) | (simp;omega) | omega))<|.nil) (.cons rfl rfl<|.nil)) (.cons (.tmp rfl)<|.nil) rfl rfl

theorem Uo (l1:List TDot) (r0:List TDot) (h:(WM l1).wp (· = r0)):PRow prog 126 [.d (.sl (List.map TDot.e l1))] 66 2 (List.map TDot.e r0):=by
 refine PRow.intro (sl:=[(0,_)]) func126 rfl ntmps126 rfl rfl ?_;intro ctx hK;refine wQ<|wR<|ws (aR 66 2 rfl)<|wN<|wQ<|wR<|wm ?_;obtain ⟨v2,hy3,h⟩:=iDet h;refine ws (LR.rowN (xO l1 v2 hy3) rfl call165 rfl rfl rfl rfl)<|wa ?_;refine wN<|wQ<|wR<|wm ?_;obtain ⟨hy5,h⟩:=zl h;refine PWl.sortFn (encD:=TDot.e) (enc:=TDot.v) (l:=v2) xna (fun _=>rfl) TDot.v1 (fun _=>rfl) rfl call169 rfl rfl rfl (by simp) hy5 rfl (fun s4 hy6 hy7=>?_);replace h:=iSrt h s4 hy6 hy7;have hy6l:=hy6.length_eq;refine wN<|wQ<|wR<|wm ?_;obtain ⟨y8,hy9,h⟩:=iDet h;refine ws (LR.callObj [(100,5)] [3,5,6,8] [100] (vP s4 y8 hy9) hK rfl call170 rfl (by first | rfl | (simp;done) | (simp [PV.nilD,PV.ren,rn];omega)) (.cons (by first | rfl | (congr 1;first | (simp;done) | (simp;omega) | omega))<|.nil) rfl rfl rfl rfl) ?_;refine wy (tl:=[(0,_),(4,_),(7,_),(9,_)]) (to:=[(5,_)]) ?_;refine wa ?_;refine wN<|wX ?_;cases h;exact ⟨.inr rfl,2,rfl,.inr ⟨5,_,rfl,(by simp),rfl⟩⟩


theorem Wo  (r0:List TPart × Bool × (List (TDot × TEvent)) × Bool × (List (TDot × TEvent))) (h:(Yj ).wp (· = r0)):PObj prog 31 [] [] [] (.ref 2 0) (fun _:Unit=>[(2,.cells 98 [.d (.sl (List.map TPart.e r0.1)),.mp 30041,.mp 30042]),(30041,.mapH r0.2.1 [.u16,.u64] true (encM TDot.k TEvent.e r0.2.2.1)),(30042,.mapH r0.2.2.2.1 [.u16,.u64] true (encM TDot.k TEvent.e r0.2.2.2.2))]):=by
 refine PObj.intro (sl:=[]) func31 rfl ntmps31 rfl rfl rfl ?_;intro ctx hK pv;refine wQ<|wR<|wa ?_;refine wN<|wQ<|wR<|ws (LR.buildR (ns:=[_,_,_]) zDa rfl rfl rfl)<|ws (LR.box rfl rfl rfl rfl)<|PWl.sub (Sub.nilCell (id:=2) (j:=0) rfl rfl)<|PWl.sub (Sub.ownMap (id:=2) (j:=1) (id':=30041) (ks:=[.u16,.u64]) (ag:=true) (ck:=0) rfl rfl rfl rfl)<|PWl.sub (Sub.ownMap (id:=2) (j:=2) (id':=30042) (ks:=[.u16,.u64]) (ag:=true) (ck:=0) rfl rfl rfl rfl)<|wy (tl:=[(0,_),(2,_)]) (to:=[(2,_),(30041,_),(30042,_)]) ?_;refine wa ?_;refine wN<|wX ?_;cases h;exact EndsO.mk () (.inr rfl) (Sub.trans (Sub.nToH (id:=30041) rfl)<|Sub.trans (Sub.nToH (id:=30042) rfl)<|sP (tl:=[(0,_)]) (to:=[(2,_),(30041,_),(30042,_)])) (.cons (.tmp rfl)<|.nil) rfl rfl

theorem yi (ctx_1:List TPart) (nl2:Bool) (m3:List (TDot × TEvent)) (nl4:Bool) (m5:List (TDot × TEvent)) (r0:List TPart) (h:(yG ctx_1 nl2 m3 nl4 m5).wp (· = r0)):PObj prog 34 [.ref 100 0] [(100,.cells 98 [.d (.sl (List.map TPart.e ctx_1)),.mp 101,.mp 102]),(101,.mapH nl2 [.u16,.u64] true (encM TDot.k TEvent.e m3)),(102,.mapH nl4 [.u16,.u64] true (encM TDot.k TEvent.e m5))] [100,101,102] (.d (.sl (List.map TPart.e r0))) (fun _:Unit=>[(100,.cells 98 [.d (.sl (List.map TPart.e ctx_1)),.mp 101,.mp 102]),(101,.mapH nl2 [.u16,.u64] true (encM TDot.k TEvent.e m3)),(102,.mapH nl4 [.u16,.u64] true (encM TDot.k TEvent.e m5))]):=by
 refine PObj.intro (sl:=[(0,_)]) func34 rfl ntmps34 rfl rfl rfl ?_;intro ctx hK pv;refine wQ<|wR<|ws (aR 81 2 rfl)<|wN<|wQ<|wQ<|wR<|wm ?_;refine ws (LR.eqlPtr underlying34 rfl)<|wN<|PWc.condF rfl<|wK<|wQ<|wR<|wm ?_;refine ws (LR.nilCheckRef rfl)<|ws (fR underlying98 rfl sizeOf23 (by decide) rfl rfl)<|ws (lD isAgg23 rfl rfl rfl) ?_;obtain ⟨v6,hy7,h⟩:=iDet h;refine ws (LR.rowN (xa ctx_1 v6 hy7) rfl call54 rfl rfl rfl rfl)<|wy (tl:=[(0,_),(3,_),(4,_),(5,_),(6,_),(7,_),(8,_),(9,_)]) (to:=[(9,_),(100,_),(101,_),(102,_),(1100,_),(1101,_),(1102,_)]) ?_;refine wa ?_;refine wN<|wX ?_;cases h;exact EndsO.mk () (.inr rfl) (Sub.trans (Sub.frz [2,9] hK rfl (by simp) (AllRow.get (.cons rfl<|.cons rfl<|.nil)))<|sP (tl:=[(2,_)]) (to:=[(100,_),(101,_),(102,_),(1100,_),(1101,_),(1102,_)])) (.cons (.tmp rfl)<|.nil) rfl rfl

end Go.Proofs


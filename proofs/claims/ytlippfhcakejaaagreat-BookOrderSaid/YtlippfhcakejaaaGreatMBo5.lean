/- Side texts. -/
import Derived.WalkSpells
import Derived.Test.YtlippfhcakejaaaGreatMBo2
import Derived.Test.YtlippfhcakejaaaGreatMBo3
import Derived.Test.YtlippfhcakejaaaGreatMBo4
set_option linter.unusedVariables false
set_option linter.unusedSimpArgs false
namespace Go.Ep
open Go.RowKit
section
variable {ctx:Ctx} {s:PState}
theorem Sub.obj {id:Nat} {o o':Ob} (hl:look s.objs id = some o) (hob:∀ (w:World) (g:zQ) (S:Nat -> Prop),ObRd w g S id o -> ObRd w g S id o'):Sub ctx s { s with objs:=zd id o' s.objs }:=by
 rintro a w ⟨g,h1⟩;refine ⟨g,?_⟩;have hF:∀ b,zZ ctx g s.objs b -> zZ ctx g (zd id o' s.objs) b:=fun b hb=>⟨hb.1,fun i o2 n ho hgi=>by
  rw [zC] at ho
  by_cases ei:i = id
  ·subst ei;exact hb.2 i _ n hl hgi
  ·rw [if_neg ei] at ho;exact hb.2 i o2 n ho hgi⟩
 have hst:yH w w (zZ ctx g s.objs):=⟨Nat.le_refl _,fun _ _ _=>rfl⟩
 have hlk:∀ i o2,look (zd id o' s.objs) i = some o2 -> ∃ o3,look s.objs i = some o3:=fun i o2 ho=>by
  rw [zC] at ho
  by_cases ei:i = id
  ·subst ei;exact ⟨_,hl⟩
  ·rw [if_neg ei] at ho;exact ⟨_,ho⟩
 refine ⟨h1.defers,h1.size,fun i p hp=>(h1.slots i p hp).keep hst (fun b hb _=>hF b hb) (fun _ _=>rfl),fun i o2 ho=>?_,fun i i2 o2 o3 b n m ho ho2 hgi hgi2=>?_,fun i o2 b n ho hgi=>?_,h1.os,h1.tape,h1.output,h1.grows,h1.keep⟩
 ·rw [zC] at ho
  by_cases ei:i = id
  ·subst ei;rw [if_pos rfl] at ho
   cases ho
   exact hob _ _ _ ((h1.objs i _ hl).keep hst (fun b hb _=>hF b hb) (fun _ _ _=>rfl) rfl (fun _ _=>rfl))
  ·rw [if_neg ei] at ho;exact (h1.objs i o2 ho).keep hst (fun b hb _=>hF b hb) (fun _ _ _=>rfl) rfl (fun _ _=>rfl)
 ·obtain ⟨o4,e4⟩:=hlk i o2 ho;obtain ⟨o5,e5⟩:=hlk i2 o3 ho2;exact h1.inj i i2 o4 o5 b n m e4 e5 hgi hgi2
 ·obtain ⟨o4,e4⟩:=hlk i o2 ho;exact h1.own i o4 b n e4 hgi
theorem Sub.ownMap {id j id' ck:Nat} {ks:List IntKind} {ag:Bool} {T:TypeId} {cs:List PV} (hl:look s.objs id = some (.cells T cs)) (hj:cs[j]? = some (.d (.v (.map none)))) (hf:s.fresh id' = true) (hne:Nat.beq id id' = false) :
  Sub ctx s { s with objs:=zd id (.cells T (cs.set j (.mp id'))) (zd id' (.mapN true ks ag [] [] ck) s.objs) }:=by
 rintro a w ⟨g,hg⟩;have hne':id ≠ id':=fun h=>by rw [h,Nat.beq_refl] at hne;cases hne
 have h1:=hg.new (Below.refl _ w) hf none (fun b n e=>by cases e) (.mapN true ks ag [] [] ck) (.mapNil ks ag ck (zG _ _ _));have hl1:look (zd id' (.mapN true ks ag [] [] ck) s.objs) id = some (.cells T cs):=by rw [zC,if_neg hne'];exact hl
 refine ⟨upd g id' none,?_⟩;have hF:∀ b,zZ ctx (upd g id' none) (zd id' (.mapN true ks ag [] [] ck) s.objs) b -> zZ ctx (upd g id' none) (zd id (.cells T (cs.set j (.mp id'))) (zd id' (.mapN true ks ag [] [] ck) s.objs)) b:=fun b hb=>⟨hb.1,fun i o n ho hgi=>by
  rw [zC] at ho
  by_cases ei:i = id
  ·subst ei;exact hb.2 i _ n hl1 hgi
  ·rw [if_neg ei] at ho;exact hb.2 i o n ho hgi⟩
 have hst:yH w w (zZ ctx (upd g id' none) (zd id' (.mapN true ks ag [] [] ck) s.objs)):=⟨Nat.le_refl _,fun _ _ _=>rfl⟩
 refine ⟨h1.defers,h1.size,fun i p hp=>(h1.slots i p hp).keep hst (fun b hb _=>hF b hb) (fun _ _=>rfl),fun i o ho=>?_,fun i i2 o o2 b n m ho ho2 hgi hgi2=>?_,fun i o b n ho hgi=>?_,h1.os,h1.tape,h1.output,h1.grows,h1.keep⟩
 ·rw [zC] at ho
  by_cases ei:i = id
  ·subst ei;rw [if_pos rfl] at ho
   cases ho
   cases (h1.objs i _ hl1).keep hst (fun b hb _=>hF b hb) (fun _ _ _=>rfl) rfl (fun _ _=>rfl) with
   | cells _ _ blk n us hgi hh hlen hr h1'=>
    refine .cells T _ blk n us hgi hh (by simpa using hlen) (fun q p u hp hu=>?_) h1'
    by_cases ej:q = j
    ·subst ej;have hlt:q < cs.length:=(List.getElem?_eq_some_iff.1 hj).1;rw [List.getElem?_set_self hlt] at hp
     cases hp
     have:=(hr q _ u hj hu).of_v;subst this;exact .mpNil id' (zG _ _ _)
    ·rw [List.getElem?_set_ne (Ne.symm ej)] at hp;exact hr q p u hp hu
  ·rw [if_neg ei] at ho;exact (h1.objs i o ho).keep hst (fun b hb _=>hF b hb) (fun _ _ _=>rfl) rfl (fun _ _=>rfl)
 ·rw [zC] at ho ho2;have key:∀ q o,(if q = id then some (Ob.cells T (cs.set j (.mp id'))) else look (zd id' (.mapN true ks ag [] [] ck) s.objs) q) = some o -> ∃ o',look (zd id' (.mapN true ks ag [] [] ck) s.objs) q = some o':=fun q o hq=>by
   by_cases eq:q = id
   ·subst eq;exact ⟨_,hl1⟩
   ·rw [if_neg eq] at hq;exact ⟨o,hq⟩
  obtain ⟨p1,q1⟩:=key i o ho;obtain ⟨p2,q2⟩:=key i2 o2 ho2;exact h1.inj i i2 p1 p2 b n m q1 q2 hgi hgi2
 ·rw [zC] at ho
  by_cases ei:i = id
  ·subst ei;exact h1.own i _ b n hl1 hgi
  ·rw [if_neg ei] at ho;exact h1.own i o b n ho hgi
theorem Sub.mapF {id:Nat} {nl:Bool} {ks:List IntKind} {ag:Bool} {m:List (List Int × List DV)} {bs:List Nat} {ck:Nat} (hl:look s.objs id = some (.mapN nl ks ag m bs ck)) (hn:nl = false):Sub ctx s { s with objs:=zd id (.map ks ag m bs ck) s.objs }:=
 Sub.obj hl fun w g S h=>by
  subst hn
  cases h with
  | mapN _ _ _ _ _ blk n es h hh hm=>exact .map _ _ _ _ _ blk n es h hh hm
theorem Sub.mapToN {id:Nat} {ks:List IntKind} {ag:Bool} {m:List (List Int × List DV)} {bs:List Nat} {ck:Nat} (hl:look s.objs id = some (.map ks ag m bs ck)):Sub ctx s { s with objs:=zd id (.mapN false ks ag m bs ck) s.objs }:=
 Sub.obj hl fun w g S h=>by
  cases h with
  | map _ _ _ _ _ blk n es h hh hm=>exact .mapN _ _ _ _ _ blk n es h hh hm
end
section
variable {P:Program} {ctx:Ctx} {Q:PQ} {s:PState}
variable {dst:Option Tmp} {ty:TypeId} {pos:String} {after:Array Edge} {gd:Option (Nat × Bool)}
variable {id:Nat} {nl:Bool} {ks:List IntKind} {ag:Bool} {m:List (List Int × List DV)} {bs:List Nat} {ck:Nat}
theorem zda {x:Operand} (hx:s.ev x = some (.mp id)) (hl:look s.objs id = some (.mapN nl ks ag m bs ck)) {a:Act} {w:World} {g:zQ} (hg:RelG ctx g s a w):∃ r,a.eval x = .map r /\ r.isNone = nl:=by
 have h:=hg.ev hx
 generalize a.eval x = v at h
 cases h with
 | mpNil _ hgn=>
  cases hg.objs id _ hl with
  | mapNil=>exact ⟨none,rfl,rfl⟩
  | mapN _ _ _ _ _ blk' n' es h' hh hm=>rw [hgn] at h';cases h'
 | mp _ blk n hgi=>
  cases hg.objs id _ hl with
  | mapNil _ _ _ h'=>rw [hgi] at h';cases h'
  | mapN _ _ _ _ _ blk' n' es h' hh hm=>exact ⟨some blk,rfl,rfl⟩
theorem LR.eqlMapN {x:Operand} {t t' kt et:TypeId} (hu:P.underlying t = some (.map kt et)) (hx:s.ev x = some (.mp id)) (hl:look s.objs id = some (.mapN nl ks ag m bs ck)) :
  Local P ctx ⟨dst,.binOp .eql t x (.const (.map none)) t',ty,pos,after,gd⟩ s (s.putD dst (.d (.v (.bool nl)))):=
 zD (o:=⟨dst,.binOp .eql t x (.const (.map none)) t',ty,pos,after,gd⟩) fun a w g hg=>by
  obtain ⟨r,hr,hn⟩:=zda hx hl hg;have hc:a.eval (.const (.map none)) = .map none:=rfl;exact ⟨.bool nl,by simp only [execOp,hr,hc,eqGuard_at_map,Sem.run_bind,Sem.run_pure,Result.andThen_ok,run_eql_map_nil w t kt et r hu,hn],.d (.v _ rfl)⟩
section
variable {x kx:Operand} {t kt et:TypeId} {ns:List Int} {z:Value} {zs:List DV} {p:PV}
 (hu:P.underlying t = some (.map kt et)) (K:KeyOK P kt ks) (hz:∀ w,(zeroValue et).run P w = .ok z w) (hzr:∀ (w:World) (g:zQ) (S:Nat -> Prop),Rd w g S (elP ag zs) z) (hk:s.ev kx = some (jq ks ns)) (hn:ns.length = ks.length) (hp:elP ag ((Xb m ns).getD zs) = p)
 (hx:s.ev x = some (.mp id)) (hl:look s.objs id = some (.mapN nl ks ag m bs ck))
include hu K hz hzr hk hn hp hx hl
theorem LR.lookupOkN : Local P ctx ⟨dst,.lookup t x kx true,ty,pos,after,gd⟩ s (s.putD dst (.tup [p,.d (.v (.bool (Xb m ns).isSome))])):=
 zD (o:=⟨dst,.lookup t x kx true,ty,pos,after,gd⟩) fun a w g hg=>by
  have h:=hg.ev hx
  generalize hv:a.eval x = v at h
  have fin:∀ v,Rd w g (zZ ctx g s.objs) p v -> Rd w g (zZ ctx g s.objs) (.tup [p,.d (.v (.bool (Xb m ns).isSome))]) (.tuple [v,.bool (Xb m ns).isSome].toArray):=fun v h2=>.tup _ [v,.bool (Xb m ns).isSome] rfl (fun i q u hq hu=>by
   match i with
   | 0=>simp at hq hu;subst hq;subst hu;exact h2
   | 1=>simp at hq hu;subst hq;subst hu;exact .d (.v _ rfl)
   | _ + 2=>simp at hq)
  cases h with
  | mpNil _ hgn=>
   cases hg.objs id _ hl with
   | mapN _ _ _ _ _ blk' n' es h' hh hm=>rw [hgn] at h';cases h'
   | mapNil=>
    refine ⟨_,?_,fin z (hp ▸ hzr w g _)⟩;simp only [execOp,hv,vk (hg.ev hk),Sem.run_bind,VM (w:=w) hu K hn hz true,Result.andThen_ok,Sem.run_pure]
    rfl
  | mp _ blk n hgi=>
   cases hg.objs id _ hl with
   | mapNil _ _ _ h'=>rw [hgi] at h';cases h'
   | mapN _ _ _ _ _ blk' n' es h' hh hm=>
    rw [hgi] at h';cases h';obtain ⟨v,h1,h2⟩:=VX (g:=g) hu K hn hh hm hz (hzr w g _) true;refine ⟨_,?_,fin v (hp ▸ h2)⟩;simp only [execOp,hv,vk (hg.ev hk),Sem.run_bind,h1,Result.andThen_ok,Sem.run_pure]
    rfl
end
theorem LR.deleteN {x kx:Operand} {t kt et:TypeId} {ats:Array TypeId} {ns:List Int} (hats:ats[0]? = some t) (hu:P.underlying t = some (.map kt et)) (K:KeyOK P kt ks) (hx:s.ev x = some (.mp id)) (hl:look s.objs id = some (.mapN nl ks ag m bs ck))
  (hk:s.ev kx = some (jq ks ns)) (hn:ns.length = ks.length) :
  Local P ctx ⟨dst,.call ⟨.builtin .delete,#[x,kx],ats⟩,ty,pos,after,gd⟩ s ((s.setO id (.mapN nl ks ag (mdel m ns) (bdel m ns bs) ck)).putD dst (.tup [])):=by
 refine zo (o:=⟨dst,.call ⟨.builtin .delete,#[x,kx],ats⟩,ty,pos,after,gd⟩) fun a w g hg=>?_
 have h:=hg.ev hx
 generalize hxv:a.eval x = v at h
 cases h with
 | mpNil _ hgn=>
  cases ho:hg.objs id _ hl with
  | mapN _ _ _ _ _ blk' n' es h' hh hm=>rw [hgn] at h';cases h'
  | mapNil=>
   have hexec:(execOp a.eval ⟨dst,.call ⟨.builtin .delete,#[x,kx],ats⟩,ty,pos,after,gd⟩).run P w = .ok (.value (.tuple #[])) w:=by
    simp only [execOp,resolve,invoke,builtin,hxv,vk (hg.ev hk),Sem.run_bind,Sem.run_pure,Result.andThen_ok,List.map_toArray,List.map_cons,List.map_nil];have a0:(#[Value.map none,vD ks ns]:Array Value)[0]? = some (.map none):=rfl;have a1:(#[Value.map none,vD ks ns]:Array Value)[1]? = some (vD ks ns):=rfl;simp only [Builtin.delete_,hats,a0,a1,Sem.run_bind,run_underlying hu,Result.andThen_ok,K.check w _ ns hn,Sem.run_pure]
   obtain ⟨g',h2⟩:=Sub.obj (o':=.mapN true ks ag [] [] ck) hl (fun _ _ _ h=>h) a w ⟨g,hg⟩;exact ⟨.tuple #[],_,hexec,g',h2.put dst (.tup [] [] rfl (by simp))⟩
 | mp _ blk n hgi=>
  cases hg.objs id _ hl with
  | mapNil _ _ _ h'=>rw [hgi] at h';cases h'
  | mapN _ _ _ _ _ blk' n' es h' hh hm=>
   rw [hgi] at h';cases h';obtain ⟨es',hrun,hm'⟩:=QD (P:=P) (ty:=ty) hats hu K hn hh hm;have hexec:(execOp a.eval ⟨dst,.call ⟨.builtin .delete,#[x,kx],ats⟩,ty,pos,after,gd⟩).run P w = .ok (.value (.tuple #[])) { w with heap:=w.heap.setIfInBounds blk (.map es' ck) }:=by
    simp only [execOp,resolve,invoke,builtin,hxv,vk (hg.ev hk),Sem.run_bind,Sem.run_pure,Result.andThen_ok,List.map_toArray,List.map_cons,List.map_nil,hrun]
   refine ⟨.tuple #[],_,hexec,g,?_⟩;have hown:=hg.own id _ blk n hl hgi;have hother:∀ k,k < w.heap.size -> k ≠ blk -> ({ w with heap:=w.heap.setIfInBounds blk (.map es' ck) }:World).heap[k]? = w.heap[k]?:=fun k _ hne=>vv w blk k _ hne
   have hst:yH w { w with heap:=w.heap.setIfInBounds blk (.map es' ck) } (zZ ctx g s.objs):=⟨by simp,fun b ⟨_,h2⟩ hlt=>hother b hlt fun e=>by subst e;exact h2 id _ n hl hgi⟩
   exact (hg.wrote hl hgi (w':={ w with heap:=w.heap.setIfInBounds blk (.map es' ck) }) rfl rfl rfl (by simp) hother hown.2 (.mapN ks ag _ _ _ blk n es' hgi (ZL w blk _ hown.1) (hm'.keep hst (fun b hb _=>yo hl b hb)))).put dst (.tup [] [] rfl (by simp))
theorem LR.idxCells {x ix:Operand} {id m:Nat} {ki:IntKind} {i:Int} {n:Nat} {t e:TypeId} (hu:P.underlying t = some (.slice e)) (hs:∀ w,(sizeOf e).run P w = .ok 1 w)
  (hx:s.ev x = some (.row id m)) (hix:s.ev ix = some (.d (.v (.int ki i)))) (hi:i = n) (hn:n < m) :
  Local P ctx ⟨dst,.indexAddr t x ix,ty,pos,after,gd⟩ s (s.putD dst (.ref id n)):=
 zD (o:=⟨dst,.indexAddr t x ix,ty,pos,after,gd⟩) fun a w g hg=>by
  have h:=hg.ev hx
  generalize hv:a.eval x = v at h
  cases h with
  | row _ _ blk cap h=>
   refine ⟨.pointer (some ⟨blk,n,none⟩),?_,.ref id n blk cap h⟩;simp [execOp,hv,wb hg hix,uH hu hs blk 0 m cap ki i n hi hn,Result.andThen]
  | rowNil=>omega
theorem fresh_ev {id:Nat} {x:Operand} {p:PV} (hf:s.fresh id = true) (hx:s.ev x = some p):p.has id = false:=by
 unfold PState.ev at hx
 split at hx
 ·exact VT hf hx
 ·cases hx
 ·cases hx
 ·cases hx;rfl
 ·cases hx;rfl
 ·cases hx
theorem qK : ∀ us:List Value,(us.map fun u=>[u]).flatten = us
 | []=>rfl
 | u :: r=>by rw [List.map_cons,List.flatten_cons,qK r];rfl
theorem LR.buildSliceP {id n bs:Nat} {t e:TypeId} {parts:Array (Nat × Operand)} (xs:List Operand) {ps:List PV} (hE:ElemOK P t e 1 bs) (hparts:parts = (Ux 0 xs).toArray) (hn:n = xs.length) (hps:s.evs xs = some ps) (hc:ps.all PV.isCell = true) (hsmall:n <= 16777216) (hf:s.fresh id = true) :
  Local P ctx ⟨some id,.buildSlice t n parts,ty,pos,after,gd⟩ s (s.newO id (.cells e ps) (.row id n)):=
 zo (o:=⟨some id,.buildSlice t n parts,ty,pos,after,gd⟩) fun a w g hg=>by
  subst hparts;subst hn;obtain ⟨hl,hrd⟩:=zca hps hg;rw [List.all_eq_true] at hc;have hone:∀ u ∈ xs.map a.eval,u.oneCell' = true:=fun u hu=>by
   obtain ⟨j,hj⟩:=List.getElem?_of_mem hu;obtain ⟨p,hp⟩:∃ p,ps[j]? = some p:=⟨_,List.getElem?_eq_getElem (by rw [hl];exact (List.getElem?_eq_some_iff.1 hj).1)⟩
   exact (hrd j p u hp hj).one (hc p (List.mem_of_getElem? hp))
  obtain ⟨hrun,hfl,huk⟩:=Zw (P:=P) (a:=a) (xs:=xs) (us:=(xs.map a.eval).map fun u=>[u]) hE (by simp) (fun i x u hx hu=>by
   simp [hx] at hu;subst hu;have:=hone (a.eval x) (List.mem_map.2 ⟨x,List.mem_of_getElem? hx,rfl⟩);refine ⟨?_,rfl⟩
   cases hv:a.eval x <;> simp_all [Value.cells,Value.oneCell']) (by omega) w
  rw [qK] at hrun;have hb:=Below.alloc1 w (.cells (xs.map a.eval).toArray e);have hnew:=hg.new hb hf (some (w.heap.size,xs.length)) (fun b n e=>by cases e;simp) (.cells e ps) (.cells e ps w.heap.size xs.length (xs.map a.eval) (zG _ _ _) (heap_alloc_new w _) hl (fun i p u hp hu=>by
   refine (hrd i p u hp hu).keep ⟨hb.size,fun b _ hlt=>hb.block b hlt⟩ (fun b ⟨h1,h2⟩ hlt=>⟨h1,fun j o n ho hgj=>?_⟩) (fun j hj=>zl fun e2=>?_)
   ·subst e2;have hx:∃ x,s.ev x = some p:=by
     obtain ⟨x,hx⟩:∃ x,xs[i]? = some x:=⟨_,List.getElem?_eq_getElem (by have:=(List.getElem?_eq_some_iff.1 hp).1;rw [hl,List.length_map] at this;exact this)⟩
     exact ⟨x,Vs hps hp hx⟩
    obtain ⟨x,hx⟩:=hx;rw [fresh_ev hf hx] at hj;cases hj
   ·rw [zC] at ho
    by_cases ej:j = id
    ·subst ej;rw [zG] at hgj;cases hgj;omega
    ·rw [if_neg ej] at ho;rw [zl ej] at hgj;exact h2 j o n ho hgj) hone)
  exact ⟨_,_,by simp only [execOp,Sem.run_bind,hrun,Result.andThen_ok,Sem.run_pure],_,hnew.put (some id) (.row id xs.length w.heap.size xs.length (zG _ _ _))⟩
def PWL (P:Program) (ctx:Ctx) (c:Code) (Q:PQ) (s:PState):Prop:=∀ a w,Rel ctx s a w -> LoopAt P c (lift ctx Q) a w
theorem PWc.loopU {c:Code} (h:PWL P ctx c Q s):PWc P ctx (.loop c) Q s:=fun a w hr=>LoopAt.loop (h a w hr)
theorem PWL.step {c:Code} (h:PWc P ctx c (Then (PWL P ctx c Q) Q) s):PWL P ctx c Q s:=fun a w hr=>by
 refine LoopAt.step (wp_mono (h a w hr) fun e a' w' ⟨t,h1,h2⟩=>?_)
 cases e with
 | normal=>exact h1 a' w' h2
 | _=>exact ⟨t,h1,h2⟩
theorem PWL.sub {c:Code} {t:PState} (hs:Sub ctx s t) (h:PWL P ctx c Q t):PWL P ctx c Q s:=fun a w hr=>h a w (hs a w hr)
theorem LR.rangeN {id mid:Nat} {x:Operand} {t kt et:TypeId} (hu:P.underlying t = some (.map kt et)) (hx:s.ev x = some (.mp mid)) (hl:look s.objs mid = some (.mapN nl ks ag m bs ck)) (hf:s.fresh id = true) :
  Local P ctx ⟨some id,.range t x,ty,pos,after,gd⟩ s (s.newO id (.iterO mid bs ck []) (.ref id 0)):=
 zo (o:=⟨some id,.range t x,ty,pos,after,gd⟩) fun a w g hg=>by
  have h:=hg.ev hx;have hne:mid ≠ id:=fun e=>by subst e;rw [qz hf] at hl;cases hl
  generalize hv:a.eval x = v at h
  cases h with
  | mpNil _ hgn=>
   cases hg.objs mid _ hl with
   | mapN _ _ _ _ _ blk' n' es h' hh hm=>rw [hgn] at h';cases h'
   | mapNil=>
    refine ⟨_,_,?_,Xn (o:=⟨some id,.range t x,ty,pos,after,gd⟩) rfl hf hg (it:=.mapIter none 0 #[] 0) fun w' g' S' _ _ h1 h2 h3=>.iterON mid ck w.heap.size 0 h2 h3 (by rw [h1 mid hne];exact hgn)⟩;simp [execOp,hv,Instr.range,run_underlying hu,Result.andThen]
  | mp _ blk n hgi=>
   cases hg.objs mid _ hl with
   | mapNil _ _ _ h'=>rw [hgi] at h';cases h'
   | mapN _ _ _ _ _ blk' n' es h' hh hm=>
    rw [hgi] at h';cases h';refine ⟨_,_,?_,Xn (o:=⟨some id,.range t x,ty,pos,after,gd⟩) rfl hf hg (it:=.mapIter (some blk) ck #[] ck) fun w' g' S' _ _ h1 h2 h3=>.iterO mid bs ck [] w.heap.size 0 blk n h2 h3 (by rw [h1 mid hne];exact hgi)⟩;simp [execOp,hv,Instr.range,run_underlying hu,MapKept.run_getObj_map hh,Result.andThen]
section
variable {ops:Array Oper} {rest:List Oper} {it:Operand} {L:List Nat} {mid:Nat}
theorem PWl.nextN (hx:s.ev it = some (.ref id 0)) (hl:look s.objs id = some (.iterO mid bs ck L)) (hlm:look s.objs mid = some (.mapN nl ks ag m bs ck)) (hL:∀ i ∈ L,i < m.length) (hgd:gd = none)
  (hdone:(∀ i,i < m.length -> i ∈ L) -> PWl P ctx ops Q rest (s.putD dst (.tup [.d (.v (.bool false))])))
  (hstep:∀ i,i < m.length -> i ∉ L -> PWl P ctx ops Q rest ((s.setO id (.iterO mid bs ck (L ++ [i]))).putD dst (.tup [.d (.v (.bool true)),.junk,.junk]))) :
  PWl P ctx ops Q (⟨dst,.next it false,ty,pos,after,gd⟩ :: rest) s:=by
 have hne:mid ≠ id:=fun e=>by subst e;rw [hl] at hlm;cases hlm
 cases nl with
 | false=>
  have hb:∀ (t:PState) (t':PState),t.n = t'.n -> t.sl = t'.sl -> look t.objs mid = some (.map ks ag m bs ck) -> look t'.objs mid = some (.mapN false ks ag m bs ck) -> (∀ j,j ≠ mid -> look t.objs j = look t'.objs j) -> Sub ctx t t':=fun t t' h1 h2 h3 h4 h5=>by
   intro a w hr;have:=Sub.mapToN h3 a w hr;refine Sub.drop (s:={ t with objs:=zd mid (.mapN false ks ag m bs ck) t.objs }) (t:=t') h1 (fun i p hp=>?_) (fun j o ho=>?_) a w this
   ·unfold PState.at at hp ⊢;rw [h1,h2];exact hp
   ·show look (zd mid _ t.objs) j = some o;rw [zC]
    by_cases e:j = mid
    ·subst e;rw [if_pos rfl,<- h4];exact ho
    ·rw [if_neg e,h5 j e];exact ho
  refine PWl.sub (Sub.mapF hlm rfl) (PWl.nextO (mid:=mid) hx (by show look (zd mid _ s.objs) id = _;rw [zC,if_neg (Ne.symm hne)];exact hl) (by show look (zd mid _ s.objs) mid = _;rw [zC,if_pos rfl]) hL hgd (fun hd=>PWl.sub (hb _ _ ?_ ?_ ?_ ?_ ?_) (hdone hd)) (fun i hi hn=>PWl.sub (hb _ _ ?_ ?_ ?_ ?_ ?_) (hstep i hi hn)))
  ·cases dst <;> rfl
  ·cases dst <;> rfl
  ·cases dst <;> (show look (zd mid _ s.objs) mid = _;rw [zC,if_pos rfl])
  ·cases dst <;> exact hlm
  ·intro j hj;cases dst <;> (show look (zd mid _ s.objs) j = _;rw [zC,if_neg hj];rfl)
  ·cases dst <;> rfl
  ·cases dst <;> rfl
  ·cases dst <;> (show look (zd id _ (zd mid _ s.objs)) mid = _;rw [zC,if_neg hne,zC,if_pos rfl])
  ·cases dst <;> (show look (zd id _ s.objs) mid = _;rw [zC,if_neg hne];exact hlm)
  ·intro j hj;cases dst <;> (show look (zd id _ (zd mid _ s.objs)) j = look (zd id _ s.objs) j;rw [zC,zC,zC,if_neg hj])
 | true=>
  rintro a w ⟨g,hg⟩;have hr:=hg.ev hx
  generalize hv:a.eval it = v at hr
  refine wpList_plain hgd fun K hK=>?_
  cases hr with
  | ref _ _ blk n hgi=>
   cases hg.objs mid _ hlm with
   | mapNil _ _ _ hgm=>
    cases hg.objs id _ hl with
    | iterO _ _ _ _ blk' n' b n2 h' hh hgm2=>rw [hgm] at hgm2;cases hgm2
    | iterON _ _ blk' n' h' hh _=>
     rw [hgi] at h';cases h';have hrun:(execOp a.eval ⟨dst,.next it false,ty,pos,after,gd⟩).run P w = .ok (.value (.tuple #[.bool false])) w:=by
      have hgr:(getObj blk).run P w = .ok (.mapIter none 0 #[] 0) w:=by simp [getObj,Sem.run,hh]
      simp only [execOp,hv,Instr.next,Sem.run_bind,hgr,Result.andThen_ok,Sem.run_pure]
     unfold Oper.wp;rw [hrun];exact hK _ _ (hdone (by simp) _ _ ⟨g,hg.put dst (.tup [.d (.v (.bool false))] [.bool false] rfl (fun i p u hp hu=>by
      cases i with
      | zero=>simp at hp hu;subst hp;subst hu;exact .d (.v _ rfl)
      | succ i=>simp at hp))⟩)
theorem LR.entryN {i:Nat} {ns:List Int} {cs:List DV} {kp p:PV} (hx:s.ev it = some (.ref id 0)) (hl:look s.objs id = some (.iterO mid bs ck (L ++ [i]))) (hlm:look s.objs mid = some (.mapN nl ks ag m bs ck)) (hi:m[i]? = some (ns,cs)) (hkp:jq ks ns = kp) (hp:elP ag cs = p) :
  Local P ctx ⟨dst,.entry it,ty,pos,after,gd⟩ s (s.putD dst (.tup [kp,p])):=by
 have hne:mid ≠ id:=fun e=>by subst e;rw [hl] at hlm;cases hlm
 cases nl with
 | true=>
  refine zD (o:=⟨dst,.entry it,ty,pos,after,gd⟩) fun a w g hg=>?_
  cases hg.objs mid _ hlm with
  | mapNil=>simp at hi
 | false=>
  refine zD (o:=⟨dst,.entry it,ty,pos,after,gd⟩) fun a w g hg=>?_
  have hr:=hg.ev hx
  generalize hv:a.eval it = v at hr
  cases hr with
  | ref _ _ blk n hgi=>
   have hob:=hg.objs id _ hl
   generalize hLL:L ++ [i] = LL at hob
   cases hob with
   | iterON=>simp at hLL
   | iterO _ _ _ _ blk' n' b n2 h' hh hgm=>
    subst hLL;rw [hgi] at h';cases h'
    cases hg.objs mid _ hlm with
    | mapN _ _ _ _ _ bm nm es hgm2 hb2 hm=>
     rw [hgm] at hgm2;cases hgm2;obtain ⟨e,us,g1,g2,g3,g4,g5,g6,g7,g8⟩:=hm.ent i ns cs hi;have:=jI (P:=P) hh hb2 hm.stamps hm.nodup g1;refine ⟨.tuple [e.key,e.val].toArray,by simp only [execOp,hv,Sem.run_bind,this,Result.andThen_ok,Sem.run_pure],.tup _ [e.key,e.val] rfl (fun j p' u hp' hu=>?_)⟩;subst hkp;subst hp
     match j with
     | 0=>simp at hp' hu;subst hp';subst hu;rw [g2];exact Qt w g _ ks ns
     | 1=>simp at hp' hu;subst hp';subst hu;rw [g3];exact Qs g4 g5 g6 g8
     | _ + 2=>simp at hp'
end
end
section
variable {P:Program} {ctx:Ctx} {Q:PQ} {s:PState}
variable {dst:Option Tmp} {ty:TypeId} {pos:String} {after:Array Edge} {gd:Option (Nat × Bool)}
variable {κ ν:Type} [DecidableEq κ] {eK:κ -> List Int} {eV:ν -> List DV} {m:List (κ × ν)} {q:κ} {zv:ν} (inj:∀ a b,eK a = eK b -> a = b)
variable {x kx:Operand} {t kt et:TypeId} {ks:List IntKind} {ag:Bool} {z:Value} {p kp:PV} {id:Nat} {nl:Bool} {bs:List Nat} {ck:Nat}
section
variable (hu:P.underlying t = some (.map kt et)) (K:KeyOK P kt ks) (hz:∀ w,(zeroValue et).run P w = .ok z w) (hzr:∀ (w:World) (g:zQ) (S:Nat -> Prop),Rd w g S (elP ag (eV zv)) z) (hk:s.ev kx = some kp) (hkp:kp = jq ks (eK q)) (hn:(eK q).length = ks.length) (hp:elP ag (eV (AL.getZ m q zv)) = p)
include inj hu K hz hzr hk hkp hn hp
theorem LR.getOkN (hx:s.ev x = some (.mp id)) (hl:look s.objs id = some (.mapN nl ks ag (zN eK eV m) bs ck)):Local P ctx ⟨dst,.lookup t x kx true,ty,pos,after,gd⟩ s (s.putD dst (.tup [p,.d (.v (.bool (AL.has m q)))])):=by
 have:=LR.lookupOkN (P:=P) (ctx:=ctx) (dst:=dst) (ty:=ty) (pos:=pos) (after:=after) (gd:=gd) (p:=p) hu K hz hzr (by rw [hk,hkp]) hn (by rw [YR inj,Jw];exact hp) hx hl;rw [YR inj,Option.isSome_map] at this;exact this
end
include inj in
theorem LR.delN {ats:Array TypeId} (hu:P.underlying t = some (.map kt et)) (K:KeyOK P kt ks) (hx:s.ev x = some (.mp id)) (hl:look s.objs id = some (.mapN nl ks ag (zN eK eV m) bs ck)) (hk:s.ev kx = some kp) (hkp:kp = jq ks (eK q)) (hn:(eK q).length = ks.length) (hats:ats[0]? = some t) :
  Local P ctx ⟨dst,.call ⟨.builtin .delete,#[x,kx],ats⟩,ty,pos,after,gd⟩ s ((s.setO id (.mapN nl ks ag (zN eK eV (AL.del m q)) (bdel (zN eK eV m) (eK q) bs) ck)).putD dst (.tup [])):=by
 have:=LR.deleteN (P:=P) (ctx:=ctx) (dst:=dst) (ty:=ty) (pos:=pos) (after:=after) (gd:=gd) hats hu K hx hl (by rw [hk,hkp]) hn
 rwa [Qw inj] at this
end
section
variable {ctx:Ctx} {s:PState}
theorem Sub.moveMap {id1 id2 j:Nat} {ks:List IntKind} {ag:Bool} {m m1:List (List Int × List DV)} {bs bs1:List Nat} {ck ck1:Nat} (hj:s.at j = some (.mp id2)) (h1:look s.objs id1 = some (.mapN true ks ag m1 bs1 ck1)) (h2:look s.objs id2 = some (.map ks ag m bs ck)) (ha:s.alone id1 = true) :
  Sub ctx s { n:=s.n,sl:=(j,.mp id1) :: s.sl,objs:=zd id1 (.map ks ag m bs ck) (wg id2 s.objs) }:=by
 rintro a w ⟨g,h⟩;have hlk:∀ {i:Nat} {o:Ob},look (zd id1 (.map ks ag m bs ck) (wg id2 s.objs)) i = some o -> (i = id1 /\ o = .map ks ag m bs ck) \/ (i ≠ id1 /\ i ≠ id2 /\ look s.objs i = some o):=fun {i o} hi=>by
  rw [zC] at hi
  by_cases e:i = id1
  ·rw [if_pos e] at hi;cases hi;exact .inl ⟨e,rfl⟩
  ·rw [if_neg e,zg] at hi
   split at hi
   ·cases hi
   ·rename_i e2;exact .inr ⟨e,e2,hi⟩
 have hg1:g id1 = none:=by
  cases h.objs id1 _ h1 with
  | mapNil _ _ _ hn=>exact hn
 have hF:∀ b,zZ ctx g s.objs b -> zZ ctx (upd g id1 (g id2)) (zd id1 (.map ks ag m bs ck) (wg id2 s.objs)) b:=fun b ⟨f1,f2⟩=>⟨f1,fun i o n hi hgi=>by
  rcases hlk hi with ⟨e,_⟩ | ⟨e1,e2,e3⟩
  ·subst e;rw [zG] at hgi;exact f2 id2 _ n h2 hgi
  ·rw [zl e1] at hgi;exact f2 i o n e3 hgi⟩
 have hst:yH w w (zZ ctx g s.objs):=⟨Nat.le_refl _,fun _ _ _=>rfl⟩
 refine ⟨upd g id1 (g id2),⟨h.defers,h.size,?_,?_,?_,?_,h.os,h.tape,h.output,h.grows,h.keep⟩⟩
 ·intro i p hp;have hlt:=YK hp;have hp2:=xI hp;simp only [zi] at hp2
  by_cases e:j = i
  ·subst e;rw [if_pos rfl] at hp2
   cases hp2
   have hr:=h.slots j _ hj
   generalize hv:a.tmps.getD j undef = v at hr
   cases hr with
   | mpNil _ hgn=>
    cases h.objs id2 _ h2 with
    | map _ _ _ _ _ blk' n' es h' hh hm=>rw [hgn] at h';cases h'
   | mp _ blk n hgi=>exact .mp id1 blk n (by rw [zG];exact hgi)
  ·rw [if_neg e] at hp2;have hs:s.at i = some p:=XE hlt hp2;exact (h.slots i p hs).keep hst (fun b hb _=>hF b hb) (fun k hk=>zl fun e2=>by subst e2;rw [XF ha hs] at hk;cases hk)
 ·intro i o hi;rcases hlk hi with ⟨e,e2⟩ | ⟨e1,e2,e3⟩
  ·subst e;subst e2
   cases h.objs id2 _ h2 with
   | map _ _ _ _ _ blk n es hgi hh hm=>exact .map ks ag m bs ck blk n es (by rw [zG];exact hgi) hh (hm.keep hst (fun b hb _=>hF b hb))
  ·exact (h.objs i o e3).keep hst (fun b hb _=>hF b hb) (fun _ _ _=>rfl) (zl e1) (fun k hk=>zl fun e4=>by subst e4;rw [jA ha e3] at hk;cases hk)
 ·intro i i2 o o2 b n n2 hi hi2 hgi hgi2;rcases hlk hi with ⟨e,_⟩ | ⟨e1,e2,e3⟩ <;> rcases hlk hi2 with ⟨f,_⟩ | ⟨f1,f2,f3⟩
  ·exact e.trans f.symm
  ·subst e;rw [zG] at hgi;rw [zl f1] at hgi2;exact absurd (h.inj id2 i2 _ o2 b n n2 h2 f3 hgi hgi2).symm f2
  ·subst f;rw [zG] at hgi2;rw [zl e1] at hgi;exact absurd (h.inj i id2 o _ b n n2 e3 h2 hgi hgi2) e2
  ·rw [zl e1] at hgi;rw [zl f1] at hgi2;exact h.inj i i2 o o2 b n n2 e3 f3 hgi hgi2
 ·intro i o b n hi hgi;rcases hlk hi with ⟨e,_⟩ | ⟨e1,e2,e3⟩
  ·subst e;rw [zG] at hgi;exact h.own id2 _ b n h2 hgi
  ·rw [zl e1] at hgi;exact h.own i o b n e3 hgi
end
end Go.Ep

namespace Go.Ep
open Go.RowKit
section
variable {ctx:Ctx} {s:PState}
theorem RelG.obj {g:zQ} {a:Act} {w:World} (h1:RelG ctx g s a w) {id:Nat} {o o':Ob} (hl:look s.objs id = some o) (hob:ObRd w g (zZ ctx g s.objs) id o'):RelG ctx g { s with objs:=zd id o' s.objs } a w:=by
 have hF:∀ b,zZ ctx g s.objs b -> zZ ctx g (zd id o' s.objs) b:=fun b hb=>⟨hb.1,fun i o2 n ho hgi=>by
  rw [zC] at ho
  by_cases ei:i = id
  ·subst ei;exact hb.2 i _ n hl hgi
  ·rw [if_neg ei] at ho;exact hb.2 i o2 n ho hgi⟩
 have hst:yH w w (zZ ctx g s.objs):=⟨Nat.le_refl _,fun _ _ _=>rfl⟩
 have hlk:∀ i o2,look (zd id o' s.objs) i = some o2 -> ∃ o3,look s.objs i = some o3:=fun i o2 ho=>by
  rw [zC] at ho
  by_cases ei:i = id
  ·subst ei;exact ⟨_,hl⟩
  ·rw [if_neg ei] at ho;exact ⟨_,ho⟩
 refine ⟨h1.defers,h1.size,fun i p hp=>(h1.slots i p hp).keep hst (fun b hb _=>hF b hb) (fun _ _=>rfl),fun i o2 ho=>?_,fun i i2 o2 o3 b n m ho ho2 hgi hgi2=>?_,fun i o2 b n ho hgi=>?_,h1.os,h1.tape,h1.output,h1.grows,h1.keep⟩
 ·rw [zC] at ho
  by_cases ei:i = id
  ·subst ei;rw [if_pos rfl] at ho
   cases ho
   exact hob.keep hst (fun b hb _=>hF b hb) (fun _ _ _=>rfl) rfl (fun _ _=>rfl)
  ·rw [if_neg ei] at ho;exact (h1.objs i o2 ho).keep hst (fun b hb _=>hF b hb) (fun _ _ _=>rfl) rfl (fun _ _=>rfl)
 ·obtain ⟨o4,e4⟩:=hlk i o2 ho;obtain ⟨o5,e5⟩:=hlk i2 o3 ho2;exact h1.inj i i2 o4 o5 b n m e4 e5 hgi hgi2
 ·obtain ⟨o4,e4⟩:=hlk i o2 ho;exact h1.own i o4 b n e4 hgi
variable {id:Nat} {nl:Bool} {ks:List IntKind} {ag:Bool} {m:List (List Int × List DV)} {bs:List Nat} {ck:Nat}
theorem Sub.nToH (hl:look s.objs id = some (.mapN nl ks ag m bs ck)):Sub ctx s { s with objs:=zd id (.mapH nl ks ag m) s.objs }:=
 Sub.obj hl fun w g S h=>by
  cases h with
  | mapNil _ _ _ h=>exact .mapHNil _ _ h
  | mapN _ _ _ _ _ blk n es h hh hm=>exact .mapH _ _ _ _ _ blk n es h hh hm
theorem Sub.toH (hl:look s.objs id = some (.map ks ag m bs ck)):Sub ctx s { s with objs:=zd id (.mapH false ks ag m) s.objs }:=
 Sub.obj hl fun w g S h=>by
  cases h with
  | map _ _ _ _ _ blk n es h hh hm=>exact .mapH _ _ _ _ _ blk n es h hh hm
theorem Sub.hT (hl:look s.objs id = some (.mapH nl ks ag m)) (hn:nl = true):Sub ctx s { s with objs:=zd id (.mapN true ks ag m [] 0) s.objs }:=
 Sub.obj hl fun w g S h=>by
  subst hn
  cases h with
  | mapHNil _ _ h=>exact .mapNil _ _ _ h
theorem openH (hl:look s.objs id = some (.mapH nl ks ag m)) {a:Act} {w:World} (hr:Rel ctx s a w):∃ bs ck,Rel ctx { s with objs:=zd id (.mapN nl ks ag m bs ck) s.objs } a w:=by
 obtain ⟨g,hg⟩:=hr;have h:=hg.objs id _ hl
 cases h with
 | mapHNil _ _ h=>exact ⟨[],0,g,hg.obj hl (.mapNil _ _ _ h)⟩
 | mapH _ _ _ bs ck blk n es h hh hm=>exact ⟨bs,ck,g,hg.obj hl (.mapN _ _ _ _ _ blk n es h hh hm)⟩
variable {P:Program} {Q:PQ}
theorem PWc.openH {c:Code} (hl:look s.objs id = some (.mapH nl ks ag m)) (h:∀ bs ck,PWc P ctx c Q { s with objs:=zd id (.mapN nl ks ag m bs ck) s.objs }):PWc P ctx c Q s:=fun a w hr=>by
 obtain ⟨bs,ck,h2⟩:=Go.Ep.openH hl hr;exact h bs ck a w h2
theorem PWl.openH {ops:Array Oper} {l:List Oper} (hl:look s.objs id = some (.mapH nl ks ag m)) (h:∀ bs ck,PWl P ctx ops Q l { s with objs:=zd id (.mapN nl ks ag m bs ck) s.objs }):PWl P ctx ops Q l s:=fun a w hr=>by
 obtain ⟨bs,ck,h2⟩:=Go.Ep.openH hl hr;exact h bs ck a w h2
theorem ut (id:Nat) (o o':Ob) (l:List (Nat × Ob)) (i:Nat):look (zd id o (zd id o' l)) i = look (zd id o l) i:=by
 rw [zC,zC,zC]
 by_cases h:i = id <;> simp [h]
theorem Sub.same {t:PState} (hn:s.n = t.n) (hs:s.sl = t.sl) (ho:∀ i,look s.objs i = look t.objs i):Sub ctx s t:=
 Sub.drop hn (fun i p hp=>by rw [uj] at hp ⊢;rw [hn,hs];exact hp) (fun i o h=>by rw [ho];exact h)
theorem PWc.hF {c:Code} (hl:look s.objs id = some (.mapH nl ks ag m)) (hn:nl = false) (h:∀ bs ck,PWc P ctx c Q { s with objs:=zd id (.map ks ag m bs ck) s.objs }):PWc P ctx c Q s:=
 PWc.openH hl fun bs ck=>PWc.sub (Sub.mapF (id:=id) (by show look (zd id _ _) id = _;rw [zC,if_pos rfl]) hn) (PWc.sub (Sub.same (t:={ s with objs:=zd id (.map ks ag m bs ck) s.objs }) rfl rfl fun i=>by
  show look (zd id _ (zd id _ _)) i = look (zd id _ _) i;rw [ut]) (h bs ck))
theorem Local.openH {o:Oper} {t:PState} (hl:look s.objs id = some (.mapH nl ks ag m)) (h:∀ bs ck,Local P ctx o { s with objs:=zd id (.mapN nl ks ag m bs ck) s.objs } t):Local P ctx o s t:=fun a w hr K Qx hK=>by
 obtain ⟨bs,ck,h2⟩:=Go.Ep.openH hl hr;exact h bs ck a w h2 K Qx hK
theorem closeP {dst:Option Nat} {p:PV} {m':List (List Int × List DV)} (hl:look s.objs id = some (.mapH nl ks ag m')):Sub ctx (({ s with objs:=zd id (.mapN nl ks ag m' bs ck) s.objs }:PState).putD dst p) (s.putD dst p):=by
 refine Sub.trans (Sub.nToH (id:=id) (nl:=nl) (ks:=ks) (ag:=ag) (m:=m') (bs:=bs) (ck:=ck) ?_) (Sub.same ?_ ?_ fun i=>?_)
 ·rw [yD];show look (zd id _ _) id = _;rw [zC,if_pos rfl]
 ·cases dst <;> rfl
 ·cases dst <;> rfl
 ·rw [yD];show look (zd id _ _) i = _;rw [yD];show look (zd id _ (zd id _ _)) i = _;rw [ut,zC]
  by_cases h:i = id
  ·rw [if_pos h,h,hl]
  ·rw [if_neg h]
theorem uu {x:Operand} (l:List (Nat × Ob)):({ s with objs:=l }:PState).ev x = s.ev x:=by cases x <;> rfl
end
section
variable {P:Program} {ctx:Ctx} {Q:PQ} {s:PState}
variable {dst:Option Tmp} {ty:TypeId} {pos:String} {after:Array Edge} {gd:Option (Nat × Bool)}
variable {κ ν:Type} [DecidableEq κ] {eK:κ -> List Int} {eV:ν -> List DV} {m:List (κ × ν)} {q:κ} {zv:ν} (inj:∀ a b,eK a = eK b -> a = b)
variable {x kx:Operand} {t kt et:TypeId} {ks:List IntKind} {ag:Bool} {z:Value} {p kp:PV} {id:Nat} {nl:Bool} {bs:List Nat} {ck:Nat}
section
variable (hu:P.underlying t = some (.map kt et)) (K:KeyOK P kt ks) (hz:∀ w,(zeroValue et).run P w = .ok z w) (hzr:∀ (w:World) (g:zQ) (S:Nat -> Prop),Rd w g S (elP ag (eV zv)) z) (hk:s.ev kx = some kp) (hkp:kp = jq ks (eK q)) (hn:(eK q).length = ks.length) (hp:elP ag (eV (AL.getZ m q zv)) = p)
include inj hu K hz hzr hk hkp hn hp
theorem LR.getOkH (hx:s.ev x = some (.mp id)) (hl:look s.objs id = some (.mapH nl ks ag (zN eK eV m))):Local P ctx ⟨dst,.lookup t x kx true,ty,pos,after,gd⟩ s (s.putD dst (.tup [p,.d (.v (.bool (AL.has m q)))])):=
 Local.openH hl fun bs ck=>(LR.getOkN inj hu K hz hzr (by rw [uu];exact hk) hkp hn hp (by rw [uu];exact hx) (by show look (zd id _ _) id = _;rw [zC,if_pos rfl])).post (closeP hl)
end
include inj in
theorem LR.delH {ats:Array TypeId} (hu:P.underlying t = some (.map kt et)) (K:KeyOK P kt ks) (hx:s.ev x = some (.mp id)) (hl:look s.objs id = some (.mapH nl ks ag (zN eK eV m))) (hk:s.ev kx = some kp) (hkp:kp = jq ks (eK q)) (hn:(eK q).length = ks.length) (hats:ats[0]? = some t) :
  Local P ctx ⟨dst,.call ⟨.builtin .delete,#[x,kx],ats⟩,ty,pos,after,gd⟩ s ((s.setO id (.mapH nl ks ag (zN eK eV (AL.del m q)))).putD dst (.tup [])):=
 Local.openH hl fun bs ck=>(LR.delN inj hu K (by rw [uu];exact hx) (by show look (zd id _ _) id = _;rw [zC,if_pos rfl]) (by rw [uu];exact hk) hkp hn hats).post
  (Sub.trans (Sub.nToH (id:=id) (by rw [yD];show look (zd id _ _) id = _;rw [zC,if_pos rfl]))
   (Sub.same (by cases dst <;> rfl) (by cases dst <;> rfl) fun i=>by
    cases dst <;> (show look (zd id _ (zd id _ (zd id _ _))) i = look (zd id _ _) i;rw [ut,zC,zC,zC];by_cases h:i = id <;> simp [h])))
include inj in
theorem LR.setInH {vx:Operand} {v:ν} {pv:PV} (hu:P.underlying t = some (.map kt et)) (K:KeyOK P kt ks) (hx:s.ev x = some (.mp id)) (hl:look s.objs id = some (.mapH nl ks ag (zN eK eV m)))
  (hk:s.ev kx = some kp) (hkp:kp = jq ks (eK q)) (hn:(eK q).length = ks.length) (hv:s.ev vx = some pv) (hq:elP ag (eV v) = pv) (h1:ag = false -> (eV v).length = 1) (hin:AL.has m q = true) :
  Local P ctx ⟨none,.mapUpdate t x kx vx,ty,pos,after,gd⟩ s (s.setO id (.mapH nl ks ag (zN eK eV (AL.set m q v)))):=by
 cases nl with
 | true=>
  rintro a w ⟨g,hg⟩;exfalso;have h:=hg.objs id _ hl
  generalize hM:zN eK eV m = M at h
  cases h with
  | mapHNil=>
   cases m with
   | nil=>cases hin
   | cons y r=>simp [zN] at hM
 | false=>
  refine Local.openH hl fun bs ck=>Local.pre (Sub.trans (Sub.mapF (id:=id) (by show look (zd id _ _) id = _;rw [zC,if_pos rfl]) rfl) (Sub.same (t:={ s with objs:=zd id (.map ks ag (zN eK eV m) bs ck) s.objs }) rfl rfl fun i=>by
   show look (zd id _ (zd id _ _)) i = look (zd id _ _) i;rw [ut])) ((LR.setIn (m:=m) (bs:=bs) (ck:=ck) (id:=id) inj hu K (by rw [uu];exact hx) (by show look (zd id _ _) id = _;rw [zC,if_pos rfl]) (by rw [uu];exact hk) hkp hn (by rw [uu];exact hv) hq h1 hin).post
   (Sub.trans (Sub.toH (id:=id) (by show look (zd id _ _) id = _;rw [zC,if_pos rfl])) (Sub.same rfl rfl fun i=>by
    show look (zd id _ (zd id _ (zd id _ _))) i = look (zd id _ _) i;rw [ut,zC,zC,zC]
    by_cases h:i = id <;> simp [h])))
theorem LR.eqlH {mm:List (List Int × List DV)} {t t' kt et:TypeId} (hu:P.underlying t = some (.map kt et)) (hx:s.ev x = some (.mp id)) (hl:look s.objs id = some (.mapH nl ks ag mm)) :
  Local P ctx ⟨dst,.binOp .eql t x (.const (.map none)) t',ty,pos,after,gd⟩ s (s.putD dst (.d (.v (.bool nl)))):=
 Local.openH hl fun bs ck=>(LR.eqlMapN hu (by rw [uu];exact hx) (by show look (zd id _ _) id = _;rw [zC,if_pos rfl])).post (closeP hl)
end
inductive JCs (nm:List Nat):List PV -> List PV -> Prop
 | nil:JCs nm [] []
 | keep {p:PV} {cs cs':List PV} (h:p.named nm = true) (t:JCs nm cs cs'):JCs nm (p :: cs) (p :: cs')
 | junk {p:PV} {cs cs':List PV} (t:JCs nm cs cs'):JCs nm (p :: cs) (.junk :: cs')
inductive JOb (nm:List Nat):Ob -> Ob -> Prop
 | same {o:Ob} (h:o.named nm = true):JOb nm o o
 | cells {T:TypeId} {cs cs':List PV} (h:JCs nm cs cs'):JOb nm (.cells T cs) (.cells T cs')
inductive JObs (nm:List Nat):List (Nat × Ob) -> List (Nat × Ob) -> Prop
 | nil:JObs nm [] []
 | cons {k:Nat} {o o':Ob} {F F':List (Nat × Ob)} (h:JOb nm o o') (t:JObs nm F F'):JObs nm ((k,o) :: F) ((k,o') :: F')
theorem JCs.len {nm:List Nat} {cs cs':List PV} (h:JCs nm cs cs'):cs'.length = cs.length:=by
 induction h with
 | nil=>rfl
 | keep _ _ ih=>simp [ih]
 | junk _ ih=>simp [ih]
theorem JCs.get {nm:List Nat} {cs cs':List PV} (h:JCs nm cs cs'):∀ (i:Nat) (p:PV),cs'[i]? = some p -> p = .junk \/ cs[i]? = some p:=by
 induction h with
 | nil=>intro i p h;simp at h
 | keep _ _ ih=>
  intro i p h
  cases i with
  | zero=>exact .inr (by simpa using h)
  | succ i=>simpa using ih i p (by simpa using h)
 | junk _ ih=>
  intro i p h
  cases i with
  | zero=>exact .inl (by simpa using h.symm)
  | succ i=>simpa using ih i p (by simpa using h)
theorem JCs.named {nm:List Nat} {cs cs':List PV} (h:JCs nm cs cs'):PV.named.namedL nm cs' = true:=by
 induction h with
 | nil=>rfl
 | keep h _ ih=>simp only [PV.named.namedL,h,ih,Bool.and_self]
 | junk _ ih=>simp only [PV.named.namedL,PV.named,ih,Bool.and_self]
theorem JOb.named {nm:List Nat} {o o':Ob} (h:JOb nm o o'):o'.named nm = true:=by
 cases h with
 | same h=>exact h
 | cells h=>exact h.named
theorem JOb.rd {nm:List Nat} {o o':Ob} (h:JOb nm o o') {w:World} {g:zQ} {S:Nat -> Prop} {id:Nat} (hr:ObRd w g S id o):ObRd w g S id o':=by
 cases h with
 | same=>exact hr
 | cells h=>
  cases hr with
  | cells _ _ blk n us hgi hh hl hr' h1=>
   refine .cells _ _ blk n us hgi hh (h.len.trans hl) (fun i p u hp hu=>?_) h1;rcases h.get i p hp with rfl | h2
   ·exact .junk u
   ·exact hr' i p u h2 hu
theorem JObs.look {nm:List Nat} {F F':List (Nat × Ob)} (h:JObs nm F F'):∀ (id:Nat) (o':Ob),Go.Ep.look F' id = some o' -> ∃ o,Go.Ep.look F id = some o /\ JOb nm o o':=by
 induction h with
 | nil=>intro id o' h;simp [Go.Ep.look] at h
 | cons h _ ih=>
  intro id o' hl;simp only [Go.Ep.look] at hl ⊢
  split at hl
  ·rename_i e;cases hl;exact ⟨_,by rw [if_pos e],h⟩
  ·rename_i e;rw [if_neg e];exact ih id o' hl
theorem zea {l:List (Nat × Ob)} {i:Nat} (h:i ∉ l.map (·.1)):look l i = none:=by
 cases hl:look l i with
 | none=>rfl
 | some o=>exact absurd (ze hl) h
theorem OwnB.app {g:zQ} {a b:List (Nat × Ob)} {k:Nat} (h:OwnB g (a ++ b) k):OwnB g a k \/ OwnB g b k:=by
 obtain ⟨id,o,n,h1,h2⟩:=h;rw [yj] at h1
 cases hl:look a id with
 | none=>rw [hl,Option.none_or] at h1;exact .inr ⟨id,o,n,h1,h2⟩
 | some q=>rw [hl,Option.some_or] at h1;exact .inl ⟨id,q,n,hl,h2⟩
theorem PObj.frame {G:Type} {P:Program} {f:FuncId} {ps:List PV} {os:List (Nat × Ob)} {pins ks:List Nat} {r:PV} {os':G -> List (Nat × Ob)} (F F':List (Nat × Ob)) (hc:PObj P f ps os pins r os')
  (hks:∀ gh,(os' gh).map (·.1) = ks) (hcl:∀ gh,(os' gh).all (fun x=>x.2.named ks) = true) (hr:r.named ks = true) (hd:((F.map (·.1)).all fun k=>!inL (os.map (·.1)) k && !inL ks k) = true) (hj:JObs (pins ++ F.map (·.1)) F F') :
  PObj P f ps (os ++ F) (pins ++ F.map (·.1)) r (fun gh=>os' gh ++ F'):=by
 intro w g S vs hlen hreal hobs hdis;have hd1:∀ k ∈ F.map (·.1),k ∉ os.map (·.1) /\ k ∉ ks:=fun k hk=>by
  have h:=List.all_eq_true.1 hd k hk;rw [Bool.and_eq_true,Bool.not_eq_true',Bool.not_eq_true',Yi,Yi] at h;exact h
 have ur:∀ {id o},look F id = some o -> look (os ++ F) id = some o:=fun {id o} h=>by
  rw [yj,zea (hd1 id (ze h)).1,Option.none_or];exact h
 have ownL:∀ {b},OwnB g os b -> OwnB g (os ++ F) b:=fun ⟨id,o,n,h1,h2⟩=>⟨id,o,n,yG h1,h2⟩
 have ownR:∀ {b},OwnB g F b -> OwnB g (os ++ F) b:=fun ⟨id,o,n,h1,h2⟩=>⟨id,o,n,ur h1,h2⟩
 have hnF:∀ {id o b n},look F id = some o -> g id = some (b,n) -> ¬ OwnB g os b:=fun {id o b n} h1 h2 ⟨id2,o2,n2,h3,h4⟩=>by
  have:=hobs.inj id id2 o o2 b n n2 (ur h1) (yG h3) h2 h4;subst this;exact (hd1 id (ze h1)).1 (ze h3)
 refine (hc w g S vs hlen hreal ⟨fun id o h=>hobs.rd id o (yG h),fun i j oi oj b n m hi hj=>hobs.inj i j oi oj b n m (yG hi) (yG hj),fun id o b n h=>hobs.lt id o b n (yG h)⟩ (fun b hb h=>hdis b hb (ownL h))).mono fun e w' ⟨u,g',gh,he,hpost⟩=>?_
 have hks':=hks gh;have hcl':=hcl gh
 let G':zQ:=fun j=>if inL (F.map (·.1)) j then g j else g' j
 refine ⟨u,G',gh,he,?_⟩;show zYa w g S (os ++ F) (pins ++ F.map (·.1)) r (os' gh ++ F') w' G' u
 generalize os' gh = os1 at hpost hks' hcl' ⊢
 have gF:∀ {j},j ∈ F.map (·.1) -> G' j = g j:=fun {j} h=>by simp only [G',zM.2 h,if_true]
 have gN:∀ {j},j ∉ F.map (·.1) -> G' j = g' j:=fun {j} h=>by simp only [G',Yi.2 h,Bool.false_eq_true,if_false]
 have gK:∀ {j},j ∈ ks -> G' j = g' j:=fun {j} h=>gN fun h2=>(hd1 j h2).2 h
 have gP:∀ {j},j ∈ pins ++ F.map (·.1) -> G' j = g j:=fun {j} h=>by
  by_cases hf:j ∈ F.map (·.1)
  ·exact gF hf
  ·rw [gN hf];exact hpost.pin j ((List.mem_append.1 h).resolve_right hf)
 have split:∀ {id o},look (os1 ++ F') id = some o -> (look os1 id = some o /\ id ∈ ks) \/ ∃ o0,look F id = some o0 /\ JOb (pins ++ F.map (·.1)) o0 o:=fun {id o} h=>by
  rw [yj] at h
  cases hl:look os1 id with
  | none=>rw [hl,Option.none_or] at h;exact .inr (hj.look id o h)
  | some q=>rw [hl,Option.some_or] at h;cases h;exact .inl ⟨rfl,hks' ▸ ze hl⟩
 have hA:∀ b,YE w g S os g' os1 b -> YE w g S (os ++ F) G' (os1 ++ F') b:=fun b ⟨h1,h2⟩=>⟨by
  rcases h1 with h1 | h1 | h1
  ·exact .inl h1
  ·exact .inr (.inl (ownL h1))
  ·exact .inr (.inr h1),fun ⟨id,o,n,hl,hgi⟩=>by
  rcases split hl with ⟨h3,h4⟩ | ⟨o0,h3,h4⟩
  ·rw [gK h4] at hgi;exact h2 ⟨id,o,n,h3,hgi⟩
  ·rw [gF (ze h3)] at hgi;rcases h1 with h1 | h1 | h1
   ·exact hdis b h1 ⟨id,o0,n,ur h3,hgi⟩
   ·exact hnF h3 hgi h1
   ·have:=hobs.lt id o0 b n (ur h3) hgi;omega⟩
 have hS:∀ b,S b -> b < w.heap.size -> YE w g S (os ++ F) G' (os1 ++ F') b:=fun b hb hlt=>⟨.inl hb,fun ⟨id,o,n,hl,hgi⟩=>by
  rcases split hl with ⟨h3,h4⟩ | ⟨o0,h3,h4⟩
  ·rw [gK h4] at hgi;rcases hpost.own b ⟨id,o,n,h3,hgi⟩ with h5 | h5
   ·exact hdis b hb (ownL h5)
   ·omega
  ·rw [gF (ze h3)] at hgi;exact hdis b hb ⟨id,o0,n,ur h3,hgi⟩⟩
 have hst:yH w w' S:=⟨hpost.grows,fun b hb hlt=>hpost.keep b hlt fun h=>hdis b hb (ownL h)⟩
 have hst':yH w' w' (YE w g S os g' os1):=⟨Nat.le_refl _,fun _ _ _=>rfl⟩
 refine ⟨hpost.eos,hpost.tape,hpost.output,hpost.grows,fun k hk h=>hpost.keep k hk fun h2=>h (ownL h2),fun b ⟨id,o,n,hl,hgi⟩=>?_,fun id h=>gP h,?_,⟨fun id o hl=>?_,fun i j oi oj b n m hi hj' hgi hgj=>?_,fun id o b n hl hgi=>?_⟩⟩
 ·rcases split hl with ⟨h3,h4⟩ | ⟨o0,h3,h4⟩
  ·rw [gK h4] at hgi;exact (hpost.own b ⟨id,o,n,h3,hgi⟩).imp ownL (fun h=>h)
  ·rw [gF (ze h3)] at hgi;exact .inl (ownR ⟨id,o0,n,h3,hgi⟩)
 ·exact hpost.res.keep hst' (fun b hb _=>hA b hb) fun j hjj=>gK (PV.named_has hr hjj)
 ·rcases split hl with ⟨h3,h4⟩ | ⟨o0,h3,h4⟩
  ·have hn:=(List.all_eq_true.1 hcl') _ (ym h3);exact (hpost.obs.rd id o h3).keep hst' (fun b hb _=>hA b hb) (fun _ _ _=>rfl) (gK h4) fun j hjj=>gK (Ob.named_has hn hjj)
  ·exact (h4.rd (hobs.rd id o0 (ur h3))).keep hst hS (fun b n hgi=>hpost.keep b (hobs.lt id o0 b n (ur h3) hgi) (hnF h3 hgi)) (gF (ze h3)) fun j hjj=>gP (Ob.named_has h4.named hjj)
 ·rcases split hi with ⟨h3,h4⟩ | ⟨o0,h3,h4⟩ <;> rcases split hj' with ⟨h5,h6⟩ | ⟨o2,h5,h6⟩
  ·rw [gK h4] at hgi;rw [gK h6] at hgj;exact hpost.obs.inj i j oi oj b n m h3 h5 hgi hgj
  ·rw [gK h4] at hgi;rw [gF (ze h5)] at hgj;exfalso;rcases hpost.own b ⟨i,oi,n,h3,hgi⟩ with h7 | h7
   ·exact hnF h5 hgj h7
   ·have:=hobs.lt j o2 b m (ur h5) hgj;omega
  ·rw [gF (ze h3)] at hgi;rw [gK h6] at hgj;exfalso;rcases hpost.own b ⟨j,oj,m,h5,hgj⟩ with h7 | h7
   ·exact hnF h3 hgi h7
   ·have:=hobs.lt i o0 b n (ur h3) hgi;omega
  ·rw [gF (ze h3)] at hgi;rw [gF (ze h5)] at hgj;exact hobs.inj i j o0 o2 b n m (ur h3) (ur h5) hgi hgj
 ·rcases split hl with ⟨h3,h4⟩ | ⟨o0,h3,h4⟩
  ·rw [gK h4] at hgi;exact hpost.obs.lt id o b n h3 hgi
  ·rw [gF (ze h3)] at hgi;exact Nat.lt_of_lt_of_le (hobs.lt id o0 b n (ur h3) hgi) hpost.grows
section
variable {ctx:Ctx} {s:PState}
inductive RSl (s:PState) (ρ:List (Nat × Nat)):List (Nat × PV) -> Prop
 | nil:RSl s ρ []
 | cons {i:Nat} {p:PV} {r:List (Nat × PV)} (h:s.at i = some (p.ren ρ)) (t:RSl s ρ r):RSl s ρ ((i,p) :: r)
theorem RSl.get {ρ:List (Nat × Nat)} {l:List (Nat × PV)} (h:RSl s ρ l):∀ i p,xY l i = some p -> s.at i = some (p.ren ρ):=by
 induction h with
 | nil=>intro i p h;simp [xY] at h
 | cons h _ ih=>
  intro i p hl;rw [zi] at hl
  split at hl
  ·rename_i e;subst e;cases hl;exact h
  ·exact ih i p hl
def injR (ρ:List (Nat × Nat)) (ks:List Nat):Bool:=ks.all fun i=>ks.all fun j=>Nat.beq i j || !Nat.beq (rn ρ i) (rn ρ j)
theorem Sub.rnm (ρ:List (Nat × Nat)) {n:Nat} {tl:List (Nat × PV)} {to:List (Nat × Ob)} (hn:s.n = n) (hs:RSl s ρ tl) (ho:AllOb s ρ to) (hi:injR ρ (to.map (·.1)) = true):Sub ctx s ⟨n,tl,to⟩:=by
 rintro a w ⟨g,h⟩;have hlo:=ho.get;have hF:∀ b,zZ ctx g s.objs b -> zZ ctx (fun i=>g (rn ρ i)) to b:=fun b hb=>⟨hb.1,fun id o n h1 h2=>hb.2 _ _ n (hlo id o h1) h2⟩
 have hst:yH w w (zZ ctx g s.objs):=⟨Nat.le_refl _,fun _ _ _=>rfl⟩
 have hinj:∀ i j,i ∈ to.map (·.1) -> j ∈ to.map (·.1) -> rn ρ i = rn ρ j -> i = j:=fun i j h1 h2 e=>by
  have h3:=List.all_eq_true.1 (List.all_eq_true.1 hi i h1) j h2;rw [Bool.or_eq_true,Bool.not_eq_true'] at h3;rcases h3 with h3 | h3
  ·exact Nat.eq_of_beq_eq_true h3
  ·rw [e,Nat.beq_refl] at h3;cases h3
 refine ⟨fun i=>g (rn ρ i),h.defers,by rw [h.size,hn],fun i p hp=>?_,fun id o hl=>?_,fun i j oi oj b n m h1 h2 hgi hgj=>?_,fun id o b n h1 hgi=>?_,h.os,h.tape,h.output,h.grows,h.keep⟩
 ·have h1:=hs.get i p (xI hp);exact ((h.slots i _ h1).unren rfl).keep hst (fun b hb _=>hF b hb) (fun _ _=>rfl)
 ·exact ((h.objs _ _ (hlo id o hl)).unren rfl rfl).keep hst (fun b hb _=>hF b hb) (fun _ _ _=>rfl) rfl (fun _ _=>rfl)
 ·exact hinj i j (ze h1) (ze h2) (h.inj _ _ _ _ b n m (hlo i oi h1) (hlo j oj h2) hgi hgj)
 ·exact h.own _ _ b n (hlo id o h1) hgi
end
theorem PObj.dropRow {G:Type} {P:Program} {f:FuncId} {ps:List PV} {os:List (Nat × Ob)} {pins:List Nat} {id n k:Nat} {e:TypeId} {l:List (List DV)} {os' os1:G -> List (Nat × Ob)} (hc:PObj P f ps os pins (.row id n) os') (hos:∀ gh,os' gh = os1 gh ++ [(id,.row e k l)]) (hn:n = l.length) (hk:∀ gh,(os1 gh).all (fun x=>!Nat.beq x.1 id) = true) :
  PObj P f ps os pins (.d (.sl l)) os1:=by
 intro w g S vs hlen hreal hobs hdis;refine (hc w g S vs hlen hreal hobs hdis).mono fun en w' ⟨u,g',gh,he,hpost⟩=>?_
 refine ⟨u,g',gh,he,?_⟩;rw [hos gh] at hpost;have hk':=hk gh
 generalize os1 gh = o1 at hpost hk' ⊢
 have hne:∀ {i o},look o1 i = some o -> i ≠ id:=fun {i o} h e=>by
  have:=List.all_eq_true.1 hk' _ (ym h);subst e;simp at this
 have hid:look (o1 ++ [(id,.row e k l)]) id = some (.row e k l):=by
  rw [yj]
  cases h:look o1 id with
  | none=>simp [look]
  | some o=>exact absurd rfl (hne h)
 have ownL:∀ {b},OwnB g' o1 b -> OwnB g' (o1 ++ [(id,.row e k l)]) b:=fun ⟨i,o,m,h1,h2⟩=>⟨i,o,m,yG h1,h2⟩
 have hA:∀ b,YE w g S os g' (o1 ++ [(id,.row e k l)]) b -> YE w g S os g' o1 b:=fun b ⟨h1,h2⟩=>⟨h1,fun h=>h2 (ownL h)⟩
 have hst:yH w' w' (YE w g S os g' (o1 ++ [(id,.row e k l)])):=⟨Nat.le_refl _,fun _ _ _=>rfl⟩
 refine ⟨hpost.eos,hpost.tape,hpost.output,hpost.grows,hpost.keep,fun b h=>hpost.own b (ownL h),hpost.pin,?_,⟨fun i o h=>(hpost.obs.rd i o (yG h)).keep hst (fun b hb _=>hA b hb) (fun _ _ _=>rfl) rfl (fun _ _=>rfl),fun i j oi oj b n m hi hj=>hpost.obs.inj i j oi oj b n m (yG hi) (yG hj),fun i o b n h=>hpost.obs.lt i o b n (yG h)⟩⟩;have hr:=hpost.res;have ho:=hpost.obs.rd id _ hid
 generalize u = v at hr
 cases ho with
 | rowNil _ _ hgn=>
  cases hr with
  | row _ _ blk cap hgi=>rw [hgn] at hgi;cases hgi
  | rowNil=>exact .d (.nil none 0 (Nat.zero_le _) (fun _=>rfl))
 | row _ _ _ blk' cap' cur hgi hh hlc hcap hcs hkk hr'=>
  cases hr with
  | rowNil _ hgn=>rw [hgn] at hgi;cases hgi
  | row _ _ blk cap hgi'=>
   rw [hgi] at hgi'
   cases hgi'
   subst hn;have hlt:=hpost.obs.lt id _ blk' cap' hid hgi;have hfree:YE w g S os g' o1 blk':=⟨.inr (hpost.own blk' ⟨id,_,cap',hid,hgi⟩),fun ⟨i,o,m,h1,h2⟩=>hne h1 (hpost.obs.inj i id o _ blk' m cap' (yG h1) hid h2 hgi)⟩
   refine .d (.sl l blk' 0 cap' k (fun i j=>cur.getD (i * k + j) undef) hlc hcap hfree hlt hkk ?_ ?_)
   ·intro i j hi hj;have hlt:i * k + j < cur.length:=by rw [hcs];exact vr (by omega) hj
    rw [zT hh];simp [hlt]
   ·intro i cs j x hi hx;obtain ⟨u,hu,hd⟩:=hr' i cs j x hi hx;have e:cur.getD (i * k + j) undef = u:=by simp [List.getD,hu]
    show DRd w' _ x (cur.getD (i * k + j) undef);rw [e];exact hd.keep hst (fun b hb _=>hA b hb)
inductive LookIn (os':List (Nat × Ob)):List (Nat × Ob) -> Prop
 | nil:LookIn os' []
 | cons {i:Nat} {o:Ob} {r:List (Nat × Ob)} (h:Go.Ep.look os' i = some o) (t:LookIn os' r):LookIn os' ((i,o) :: r)
theorem LookIn.get {os' l:List (Nat × Ob)} (h:LookIn os' l):∀ i o,Go.Ep.look l i = some o -> Go.Ep.look os' i = some o:=by
 induction h with
 | nil=>intro i o h;simp [Go.Ep.look] at h
 | cons h _ ih=>
  intro j o2 hl;simp only [Go.Ep.look] at hl
  split at hl
  ·rename_i e;subst e;cases hl;exact h
  ·exact ih j o2 hl
theorem zfa {ρ:List (Nat × Nat)} {acc:List (Nat × Ob)} {i:Nat} {o:Ob}:∀ {l:List (Nat × Ob)},look l i = some o -> (∀ j ∈ l.map (·.1),rn ρ j = rn ρ i -> j = i) -> look (l.foldr (fun x l=>zd (rn ρ x.1) (x.2.ren ρ) l) acc) (rn ρ i) = some (o.ren ρ)
 | [],h,_=>by simp [look] at h
 | (k,q) :: r,h,hi=>by
  rw [List.foldr_cons,zC]
  by_cases e:rn ρ i = rn ρ k
  ·rw [if_pos e];have:=hi k (by simp) e.symm;subst this;simp [look] at h;rw [h]
  ·rw [if_neg e];refine zfa (l:=r) ?_ (fun j hj=>hi j (by simp only [List.map_cons,List.mem_cons];exact .inr hj));simp only [look] at h;rw [if_neg (fun e2=>e (by rw [e2]))] at h;exact h
theorem lookN {ρ:List (Nat × Nat)} {acc:List (Nat × Ob)} {j:Nat}:∀ {l:List (Nat × Ob)},(∀ i ∈ l.map (·.1),rn ρ i ≠ j) -> look (l.foldr (fun x l=>zd (rn ρ x.1) (x.2.ren ρ) l) acc) j = look acc j
 | [],_=>rfl
 | (k,q) :: r,h=>by
  rw [List.foldr_cons,zC,if_neg (fun e=>h k (by simp) e.symm)];exact lookN fun i hi=>h i (by simp only [List.map_cons,List.mem_cons];exact .inr hi)
theorem zga {ρ:List (Nat × Nat)} {acc:List (Nat × Ob)} {j:Nat}:∀ {l:List (Nat × Ob)},(∀ i ∈ l.map (·.1),rn ρ i ≠ j) -> look (l.foldr (fun x l=>wg (rn ρ x.1) l) acc) j = look acc j
 | [],_=>rfl
 | (k,q) :: r,h=>by
  rw [List.foldr_cons,zg,if_neg (fun e=>h k (by simp) e.symm)];exact zga fun i hi=>h i (by simp only [List.map_cons,List.mem_cons];exact .inr hi)
theorem qL {l:List (Nat × Ob)} {i:Nat} (h:i ∈ l.map (·.1)):∃ o,look l i = some o:=by
 cases hl:look l i with
 | some o=>exact ⟨o,rfl⟩
 | none=>
  exfalso
  induction l with
  | nil=>cases h
  | cons x r ih=>
   simp only [look] at hl
   split at hl
   ·cases hl
   ·rename_i e
    simp only [List.map_cons,List.mem_cons] at h;exact ih (h.resolve_left e) hl
section
variable {P:Program} {ctx:Ctx} {Q:PState -> Prop} {s:PState} {ops:Array Oper} {rest:List Oper} {fs:List Ft} {f:Ft}
variable {dst:Option Tmp} {ty:TypeId} {pos:String} {after:Array Edge} {gd:Option (Nat × Bool)}
theorem PQe.callObjS {x:Operand} {xs:List Operand} {ats:Array TypeId} {fn:FuncId} {ps qs:List PV} {os os':List (Nat × Ob)} {pins:List Nat} {r:PV} (ρ:List (Nat × Nat)) (js ks:List Nat) (osV osS:List (Nat × Ob))
  (hc:PObj P fn ps os pins r (fun _:Unit=>os')) (hK:∀ b,ctx.K b -> ctx.S b)
  (hev:∀ s':PState,(∀ {y q},yy (⟨dst,.call ⟨.value x,xs.toArray,ats⟩,ty,pos,after,gd⟩:Oper) y = true -> s.ev y = some q -> s'.ev y = some q) -> s'.ev x = some (.d (.v (.func (.func fn) #[] #[]))) /\ s'.evs xs = some qs)
  (he:∀ args w,(callFunc fn args).run P w = .ok (.enter fn args) w) (hq:qs.map PV.nilD = ps.map (PV.ren ρ)) (hos:AllOb s ρ os) (hV:LookIn os' osV) (hS:LookIn os' osS) (hAS:AllOb s ρ osS) (hcov:(os'.map (·.1)).all (fun i=>inL (osV.map (·.1)) i || inL (osS.map (·.1)) i) = true) (hSo:(osS.map (·.1)).all (inL (os.map (·.1))) = true)
  (hks:os'.map (·.1) = ks) (hcl:os'.all (fun x=>x.2.named ks) = true) (hr:r.named ks = true) (hok:calO ρ js (os.map (·.1)) pins ks f = true)
  (hg:Wd ops (⟨dst,.call ⟨.value x,xs.toArray,ats⟩,ty,pos,after,gd⟩:Oper) s) (hk:okE f (VO ρ js dst r osV) = true) (h:PQe P ctx ops Q rest fs (s.app (VO ρ js dst r osV))) :
  PQe P ctx ops Q (⟨dst,.call ⟨.value x,xs.toArray,ats⟩,ty,pos,after,gd⟩ :: rest) (f :: fs) s:=by
 simp only [calO,Bool.and_eq_true] at hok;obtain ⟨⟨⟨⟨⟨c1,c2⟩,c3⟩,c4⟩,c5⟩,c6⟩:=hok;refine .step (e:=VO ρ js dst r osV) (fun s' hn hee ho hfr hal=>?_) hg hk h;obtain ⟨h1,h2⟩:=hev s' (fun hx hq=>hee hx hq);have hinj:∀ i j,i ∈ os.map (·.1) ++ ks -> j ∈ os.map (·.1) ++ ks -> rn ρ i = rn ρ j -> i = j:=fun i j hi hj e=>by
  have h3:=List.all_eq_true.1 (List.all_eq_true.1 c1 i hi) j hj;rw [Bool.or_eq_true,Bool.not_eq_true'] at h3;rcases h3 with h | h
  ·exact Nat.eq_of_beq_eq_true h
  ·rw [e,Nat.beq_refl] at h;cases h
 have hok':uq s' ρ js (os.map (·.1)) pins ks = true:=by
  unfold uq;rw [Bool.and_eq_true,Bool.and_eq_true];refine ⟨⟨c1,?_⟩,?_⟩
  ·rw [List.all_eq_true] at c2 ⊢;intro i hi;have:=c2 i hi;rw [Bool.or_eq_true] at this ⊢;exact this.imp (fun h=>h) fun h=>hfr _ (zM.1 h)
  ·rw [List.all_eq_true] at c5 ⊢;intro i hi;have:=c5 i hi;rw [Bool.or_eq_true,Bool.or_eq_true] at this;rw [Bool.or_eq_true];rcases this with (h | h) | h
   ·exact .inl h
   ·refine .inr ?_;have hf:=hfr _ (zM.1 h);rw [Bool.and_eq_true];refine ⟨jU js hf,?_⟩;simp only [PState.fresh,Bool.and_eq_true,List.all_eq_true] at hf;rw [List.all_eq_true];intro y hy;rw [Bool.or_eq_true];exact .inl (hf.2 y hy).2
   ·refine .inr ?_;obtain ⟨a,ha1,ha2⟩:=List.any_eq_true.1 h;simp only [Bool.and_eq_true,beq_iff_eq] at ha2;have hx:=hal a ha1;rw [Nat.eq_of_beq_eq_true ha2.1,ha2.2] at hx;unfold PState.aloneX at hx;rw [Bool.and_eq_true,zp] at hx;rw [Bool.and_eq_true];refine ⟨hx.1,?_⟩;rw [List.all_eq_true] at c4;have hx2:=hx.2;rw [List.all_eq_true] at hx2 ⊢;intro y hy;have:=hx2 y hy;rw [Bool.or_eq_true] at this ⊢;rcases this with h | h
    ·exact .inr (c4 _ (zM.1 h))
    ·exact .inl h
 have hl:=LR.callObj (P:=P) (ctx:=ctx) (dst:=dst) (ty:=ty) (pos:=pos) (after:=after) (gd:=gd) (ats:=ats) ρ js ks hc hK h1 he h2 hq (hos.keep (fun hi hl=>ho (zM.1 hi) hl) c6) hks hcl hr hok';have hAS':AllOb s' ρ osS:=hAS.keep (f:=f) (fun hi hl=>ho (zM.1 hi) hl) (by
  rw [List.all_eq_true] at c6 hSo ⊢;exact fun i hi=>c6 i (zM.1 (hSo i hi)))
 refine hl.post (Sub.drop ?_ ?_ ?_)
 ·cases dst <;> rfl
 ·intro i p hp;have hat:=xI hp;have hlt:i < s'.n:=YK (s:=s'.app (VO ρ js dst r osV)) hp;refine XE (by cases dst <;> exact hlt) ?_;simp only [PState.app,VO] at hat
  cases dst with
  | none=>simpa [XJ,PState.putD,PState.callO,xC] using hat
  | some d=>simpa [XJ,PState.putD,PState.put,PState.callO,xC] using hat
 ·intro id o hlo;have e1:(s'.app (VO ρ js dst r osV)).objs = osV.foldr (fun x l=>zd (rn ρ x.1) (x.2.ren ρ) l) s'.objs:=by
   simp only [PState.app,VO,List.foldr_map]
  have e2:((s'.callO ρ js os os').putD dst (r.ren ρ)).objs = os'.foldr (fun x l=>zd (rn ρ x.1) (x.2.ren ρ) l) (os.foldr (fun x l=>wg (rn ρ x.1) l) s'.objs):=by cases dst <;> rfl
  rw [e1] at hlo;rw [e2];have inj':∀ i,i ∈ os'.map (·.1) -> ∀ j ∈ os'.map (·.1),rn ρ j = rn ρ i -> j = i:=fun i hi j hj e=>hinj j i (List.mem_append_right _ (hks ▸ hj)) (List.mem_append_right _ (hks ▸ hi)) e
  rcases ur hlo with ⟨i,o1,h3,h4,h5⟩ | ⟨h3,h4⟩
  ·have h6:=hV.get i o1 h3;rw [h4,h5];exact zfa h6 (inj' i (ze h6))
  ·by_cases hex:∃ i ∈ os'.map (·.1),rn ρ i = id
   ·obtain ⟨i,hi,rfl⟩:=hex;have h5:=List.all_eq_true.1 hcov i hi;rw [Bool.or_eq_true] at h5;rcases h5 with h5 | h5
    ·exact absurd rfl (h3 i (zM.1 h5))
    ·obtain ⟨o2,h6⟩:=qL (zM.1 h5);have h7:=hAS'.get i o2 h6;rw [h4] at h7
     cases h7
     exact zfa (hS.get i o2 h6) (inj' i hi)
   ·rw [lookN fun i hi e=>hex ⟨i,hi,e⟩,zga fun i hi e=>hex ⟨i,by rw [hks];exact zM.1 (List.all_eq_true.1 c3 i hi),e⟩];exact h4
end
section
variable {P:Program} {ctx:Ctx} {s:PState}
variable {dst:Option Tmp} {ty:TypeId} {pos:String} {after:Array Edge} {gd:Option (Nat × Bool)}
theorem zha {os os':List (Nat × Ob)} {pins:List Nat} {r:PV} (ρ:List (Nat × Nat)) (js ks:List Nat) (osV osS:List (Nat × Ob)) (hV:LookIn os' osV) (hS:LookIn os' osS) (hAS:AllOb s ρ osS) (hcov:(os'.map (·.1)).all (fun i=>inL (osV.map (·.1)) i || inL (osS.map (·.1)) i) = true) (c3:(os.map (·.1)).all (inL ks) = true)
  (hks:os'.map (·.1) = ks) (hok:uq s ρ js (os.map (·.1)) pins ks = true):Sub ctx ((s.callO ρ js os os').putD dst (r.ren ρ)) (s.app (VO ρ js dst r osV)):=by
 have hinj:∀ i j,i ∈ os.map (·.1) ++ ks -> j ∈ os.map (·.1) ++ ks -> rn ρ i = rn ρ j -> i = j:=fun i j hi hj e=>by
  simp only [uq,Bool.and_eq_true] at hok;have h3:=List.all_eq_true.1 (List.all_eq_true.1 hok.1.1 i hi) j hj;rw [Bool.or_eq_true,Bool.not_eq_true'] at h3;rcases h3 with h | h
  ·exact Nat.eq_of_beq_eq_true h
  ·rw [e,Nat.beq_refl] at h;cases h
 refine Sub.drop ?_ ?_ ?_
 ·cases dst <;> rfl
 ·intro i p hp;have hat:=xI hp;have hlt:i < s.n:=YK (s:=s.app (VO ρ js dst r osV)) hp;refine XE (by cases dst <;> exact hlt) ?_;simp only [PState.app,VO] at hat
  cases dst with
  | none=>simpa [XJ,PState.putD,PState.callO,xC] using hat
  | some d=>simpa [XJ,PState.putD,PState.put,PState.callO,xC] using hat
 ·intro id o hlo;have e1:(s.app (VO ρ js dst r osV)).objs = osV.foldr (fun x l=>zd (rn ρ x.1) (x.2.ren ρ) l) s.objs:=by
   simp only [PState.app,VO,List.foldr_map]
  have e2:((s.callO ρ js os os').putD dst (r.ren ρ)).objs = os'.foldr (fun x l=>zd (rn ρ x.1) (x.2.ren ρ) l) (os.foldr (fun x l=>wg (rn ρ x.1) l) s.objs):=by cases dst <;> rfl
  rw [e1] at hlo;rw [e2];have inj':∀ i,i ∈ os'.map (·.1) -> ∀ j ∈ os'.map (·.1),rn ρ j = rn ρ i -> j = i:=fun i hi j hj e=>hinj j i (List.mem_append_right _ (hks ▸ hj)) (List.mem_append_right _ (hks ▸ hi)) e
  rcases ur hlo with ⟨i,o1,h3,h4,h5⟩ | ⟨h3,h4⟩
  ·have h6:=hV.get i o1 h3;rw [h4,h5];exact zfa h6 (inj' i (ze h6))
  ·by_cases hex:∃ i ∈ os'.map (·.1),rn ρ i = id
   ·obtain ⟨i,hi,rfl⟩:=hex;have h5:=List.all_eq_true.1 hcov i hi;rw [Bool.or_eq_true] at h5;rcases h5 with h5 | h5
    ·exact absurd rfl (h3 i (zM.1 h5))
    ·obtain ⟨o2,h6⟩:=qL (zM.1 h5);have h7:=hAS.get i o2 h6;rw [h4] at h7
     cases h7
     exact zfa (hS.get i o2 h6) (inj' i hi)
   ·rw [lookN fun i hi e=>hex ⟨i,hi,e⟩,zga fun i hi e=>hex ⟨i,by rw [hks];exact zM.1 (List.all_eq_true.1 c3 i hi),e⟩];exact h4
theorem LR.callObjS {x:Operand} {xs:List Operand} {ats:Array TypeId} {fn:FuncId} {ps qs:List PV} {os os':List (Nat × Ob)} {pins:List Nat} {r:PV} (ρ:List (Nat × Nat)) (js ks:List Nat) (osV osS:List (Nat × Ob))
  (hc:PObj P fn ps os pins r (fun _:Unit=>os')) (hK:∀ b,ctx.K b -> ctx.S b) (hx:s.ev x = some (.d (.v (.func (.func fn) #[] #[])))) (he:∀ args w,(callFunc fn args).run P w = .ok (.enter fn args) w) (hps:s.evs xs = some qs)
  (hq:qs.map PV.nilD = ps.map (PV.ren ρ)) (hos:AllOb s ρ os) (hV:LookIn os' osV) (hS:LookIn os' osS) (hAS:AllOb s ρ osS) (hcov:(os'.map (·.1)).all (fun i=>inL (osV.map (·.1)) i || inL (osS.map (·.1)) i) = true) (c3:(os.map (·.1)).all (inL ks) = true)
  (hks:os'.map (·.1) = ks) (hcl:os'.all (fun x=>x.2.named ks) = true) (hr:r.named ks = true) (hok:uq s ρ js (os.map (·.1)) pins ks = true) :
  Local P ctx ⟨dst,.call ⟨.value x,xs.toArray,ats⟩,ty,pos,after,gd⟩ s (s.app (VO ρ js dst r osV)):=
 (LR.callObj (P:=P) (ctx:=ctx) (dst:=dst) (ty:=ty) (pos:=pos) (after:=after) (gd:=gd) (ats:=ats) ρ js ks hc hK hx he hps hq hos hks hcl hr hok).post (zha ρ js ks osV osS hV hS hAS hcov c3 hks hok)
theorem LR.appTD {α:Type} {enc:α -> List DV} {L R:List α} {x y:Operand} {id m k bs':Nat} {t t' e e':TypeId} (js:List Nat) (hK:∀ b,ctx.K b -> ctx.S b) (hE:ElemOK P t e k bs') (hu':P.underlying t' = some (.slice e')) (hx:s.ev x = some (.row id m)) (hm:m = L.length)
  (hl:look s.objs id = some (.row e k (L.map enc))) (hy:Src ctx s y (R.map enc) k) (hk:∀ x,(enc x).length = k) (hb:(L.length + R.length) * bs' <= 140737488355328) (h1:Nat.ble 1 bs' = true) (ha:(s.junks js).alone id = true) :
  Local P ctx ⟨dst,.call ⟨.builtin .append,#[x,y],#[t,t']⟩,ty,pos,after,gd⟩ s (((s.junks js).setO id (.row e k [])).putD dst (.d (.sl ((L ++ R).map enc)))):=by
 refine (LR.appT (enc:=enc) (L:=L) (R:=R) (dst:=dst) js hE hu' hx hm hl hy hk hb h1 ha).post ?_;rintro a w ⟨g,hg⟩;have hl1:look (((s.junks js).setO id (.row e k ((L ++ R).map enc))).putD dst (.row id (L ++ R).length)).objs id = some (.row e k ((L ++ R).map enc)):=by
  rw [yD];show look (zd id _ _) id = _;rw [zC,if_pos rfl]
 have hha:∀ i p,i < s.n -> xY (s.junks js).sl i = some p -> p.has id = false:=fun i p hi hp=>by
  have:(s.junks js).at i = some p:=XE (by rw [yi];exact hi) hp;exact XF ha this
 -- the row becomes data
 have hs2:∃ g',RelG ctx g' { n:=s.n,sl:=XJ dst (PV.d (.sl ((L ++ R).map enc))) ++ (s.junks js).sl,objs:=wg id (s.junks js).objs } a w:=by
  cases dst with
  | none=>
   have:=Sub.frz (s:=((s.junks js).setO id (.row e k ((L ++ R).map enc))).putD none (.row id (L ++ R).length)) (ctx:=ctx) (n:=(L ++ R).length) [] hK hl1 (by simp) (by simp) a w ⟨g,hg⟩;refine Sub.same ?_ ?_ (fun i=>?_) a w this
   ·simp [PState.frz,PState.putD,PState.setO,yi]
   ·rfl
   ·show look (wg id (zd id _ _)) i = look (wg id _) i;rw [zg,zg,zC]
    by_cases h:i = id <;> simp [h]
  | some d=>
   by_cases hd:d < s.n
   ·have:=Sub.frz (s:=((s.junks js).setO id (.row e k ((L ++ R).map enc))).putD (some d) (.row id (L ++ R).length)) (ctx:=ctx) (n:=(L ++ R).length) [d] hK hl1 (by simp) (by
     intro j hj;rw [List.mem_singleton] at hj;subst hj;refine XE (by show j < (s.junks js).n;rw [yi];exact hd) ?_;show xY ((j,_) :: _) j = _;rw [zi,if_pos rfl]) a w ⟨g,hg⟩
    refine Sub.drop ?_ (fun i p hp=>?_) (fun i o ho=>?_) a w this
    ·simp [PState.frz,PState.putD,PState.put,PState.setO,yi]
    ·have h1:xY ((d,PV.d (.sl ((L ++ R).map enc))) :: (s.junks js).sl) i = some p:=xI hp;have h2:=YK hp;refine XE (by show i < (s.junks js).n;rw [yi];exact h2) ?_;show xY ((d,_) :: (d,_) :: _) i = some p;simp only [zi] at h1 ⊢
     split
     ·rename_i e;rw [if_pos e] at h1;exact h1
     ·rename_i e;rw [if_neg e] at h1;exact h1
    ·show look (wg id (zd id _ _)) i = some o;have ho':look (wg id (s.junks js).objs) i = some o:=ho;rw [zg,zC];rw [zg] at ho'
     by_cases h:i = id <;> simp_all
   ·have:=Sub.frz (s:=((s.junks js).setO id (.row e k ((L ++ R).map enc))).putD (some d) (.row id (L ++ R).length)) (ctx:=ctx) (n:=(L ++ R).length) [] hK hl1 (by simp) (by simp) a w ⟨g,hg⟩;refine Sub.drop ?_ (fun i p hp=>?_) (fun i o ho=>?_) a w this
    ·simp [PState.frz,PState.putD,PState.put,PState.setO,yi]
    ·have h1:xY ((d,PV.d (.sl ((L ++ R).map enc))) :: (s.junks js).sl) i = some p:=xI hp;have h2:i < s.n:=YK (s:={ n:=s.n,sl:=XJ (some d) (PV.d (.sl ((L ++ R).map enc))) ++ (s.junks js).sl,objs:=wg id (s.junks js).objs }) hp;refine XE (by show i < (s.junks js).n;rw [yi];exact h2) ?_;show xY ((d,_) :: _) i = some p;simp only [zi] at h1 ⊢;have hne:¬ d = i:=fun e=>hd (by rw [e];exact h2)
     rw [if_neg hne] at h1 ⊢;exact h1
    ·show look (wg id (zd id _ _)) i = some o;have ho':look (wg id (s.junks js).objs) i = some o:=ho;rw [zg,zC];rw [zg] at ho'
     by_cases h:i = id <;> simp_all
 obtain ⟨g',hg'⟩:=hs2;have hfr:PState.fresh { n:=s.n,sl:=XJ dst (PV.d (.sl ((L ++ R).map enc))) ++ (s.junks js).sl,objs:=wg id (s.junks js).objs } id = true:=by
  unfold PState.fresh;rw [Bool.and_eq_true];unfold PState.alone at ha;rw [Bool.and_eq_true] at ha;refine ⟨Wg fun x hx hh q hq=>?_,List.all_eq_true.2 fun x hx=>?_⟩
  ·cases dst with
   | none=>exact ZJ ha.1 hx hq hh
   | some d=>
    have hq:xY ((d,PV.d (.sl ((L ++ R).map enc))) :: (s.junks js).sl) x.1 = some q:=hq;rcases List.mem_cons.1 hx with h | h
    ·rw [h] at hh;simp [PV.has] at hh
    ·simp only [zi] at hq
     split at hq
     ·cases hq;rfl
     ·exact ZJ ha.1 h hq hh
  ·have h2:=WB hx;have h3:=List.all_eq_true.1 ha.2 x h2.2;simp [h2.1,h3]
 have h3:=hg'.new (Below.refl _ w) hfr none (fun b n e=>by cases e) (.row e k []) (.rowNil e k (zG _ _ _));refine Sub.drop ?_ (fun i p hp=>?_) (fun i o ho=>?_) a w ⟨_,h3⟩
 ·cases dst <;> simp [PState.putD,PState.put,PState.setO,yi]
 ·have h1:=xI hp;have h2:i < s.n:=by have:=YK hp;cases dst <;> simpa [PState.putD,PState.put,PState.setO,yi] using this
  refine XE h2 ?_
  cases dst <;> exact h1
 ·show look (zd id _ (wg id _)) i = some o;rw [yD] at ho;have ho':look (zd id (.row e k []) (s.junks js).objs) i = some o:=ho;rw [zC,zg];rw [zC] at ho'
  by_cases h:i = id <;> simp_all
end
end Go.Ep

namespace Go.Proofs
open Go.Ep Tryz
set_option maxHeartbeats 1000000
set_option maxRecDepth 100000
set_option linter.unusedVariables false
set_option linter.unusedSimpArgs false


theorem QM (l1:List EV) (most2:Int) (r0:Bool) (h:(UE l1 most2).wp (· = r0)):PFun prog 4 [.d (.sl (List.map EV.e l1)),.d (.v (.int .i64 most2))] (.d (.v (.bool r0))):=by
 refine fI (sl:=[(0,_),(1,_)]) func4 rfl ntmps4 rfl rfl ?_;intro ctx hK;refine wQ<|wR<|wa ?_;refine wN<|wQ<|wQ<|wR<|wm ?_;refine ws (lM (enc:=EV.e) (L:=l1) underlying22 rfl)<|wm ?_;refine ws (LR.gtr rfl rfl)<|wN ?_;refine xD h rfl (fun _ h=>?_) (fun _ h=>?_)
 ·refine wQ<|wR<|wa ?_;refine wN<|wX ?_;cases h;exact xT
 ·refine wK<|wQ<|wQ<|wR<|wa ?_;refine wN ?_;refine PWc.jnX (zH h) (fun (_:Unit) (_:Unit)=>⟨32,[],[]⟩) (fun h=>?_) ?_
  ·refine wB<|wM (fun (i21:Int) (_:Unit)=>⟨32,[(0,.d (.sl (List.map EV.e l1))),(5,.d (.v (.int .i64 i21)))],[]⟩) () h (sP) ?_;rintro N i21 _ h;refine wQ<|wQ<|wR<|wm ?_;refine wm ?_;refine ws (lM (enc:=EV.e) (L:=l1) underlying22 rfl)<|ws (LR.lss rfl rfl)<|wN ?_;refine xD h rfl (fun _ h=>?_) (fun _ h=>?_)
   ·refine wK<|wQ<|wB<|wQ ?_;refine wJ (zH h) (fun (v23:Bool) (_:Unit)=>⟨32,[(0,.d (.sl (List.map EV.e l1))),(5,.d (.v (.int .i64 i21))),(31,.d (.v (.bool v23)))],[]⟩) (fun h=>?_) ?_
    ·refine wR<|wm ?_;refine wm ?_;obtain ⟨x24,hy25,h⟩:=zq h;refine ws (iX (enc:=EV.e) (L:=l1) (y:=x24) underlying22 sizeOf34 rfl rfl hy25 (fun _=>rfl))<|ws (fE underlying34 rfl sizeOf32 (by decide) rfl rfl)<|ws (LR.loadEp isAgg32 rfl rfl)<|ws (lM (enc:=DT.e) (L:=x24.kills) underlying32 rfl)<|ws (LR.gtr rfl rfl)<|wm ?_;refine xG (d:=23) h rfl (fun _ h=>?_) (fun _ h=>?_)
     ·refine wf<|wf<|wf<|wf<|wf<|wf<|wy (tl:=[(0,_),(5,_),(23,_),(24,_),(25,_),(26,_),(27,_),(28,_),(29,_)]) (to:=[]) ?_;refine wf<|ws (pT rfl rfl)<|wN ?_;exact ⟨true,(),h,sP⟩
     ·refine wt (mV rfl)<|wt (mV rfl) ?_;obtain ⟨x27,hy28,h⟩:=zq h;refine wt (iX (enc:=EV.e) (L:=l1) (y:=x27) underlying22 sizeOf34 rfl rfl hy28 (fun _=>rfl))<|wt (fE underlying34 rfl sizeOf9 (by decide) rfl rfl)<|wt (LR.loadEp isAgg9 rfl rfl)<|wt (LR.lenStr underlying9 rfl)<|wy (tl:=[(0,_),(5,_),(23,_),(24,_),(25,_),(26,_),(27,_),(28,_),(29,_)]) (to:=[]) ?_;refine wt (LR.gtr rfl rfl)<|ws (pF rfl rfl)<|wN ?_;exact ⟨(decide (200 < (ByteArray.size x27.text:Int))),(),h,sP⟩
    ·rintro v23 _ h;refine xD h rfl (fun _ h=>?_) (fun _ h=>?_)
     ·refine wQ<|wR<|wa ?_;refine wN<|wX ?_;cases h;exact xT
     ·refine wK<|wR<|wm ?_;refine ws (LR.addW rfl rfl)<|wa ?_;refine wN ?_;exact ⟨(IntKind.i64.wrap (i21 + 1)),(),h,sP⟩
   ·refine wZ ?_;exact ⟨(),(),h,sP⟩
  ·rintro _ _ h;refine wQ<|wR<|wa ?_;refine wN<|wX ?_;cases h;exact xT

theorem UJ (l1:List EV) (r0:Bool) (h:(ZN l1).wp (· = r0)):PFun prog 5 [.d (.sl (List.map EV.e l1))] (.d (.v (.bool r0))):=by
 refine fI (sl:=[(0,_)]) func5 rfl ntmps5 rfl rfl ?_;intro ctx hK;refine wQ<|wR<|wa ?_;refine wN<|wQ<|wQ<|wR<|wa ?_;refine wN ?_;refine PWc.jnX (zH h) (fun (_:Unit) (_:Unit)=>⟨37,[],[]⟩) (fun h=>?_) ?_
 ·refine wB<|wM (fun (i69:Int) (_:Unit)=>⟨37,[(0,.d (.sl (List.map EV.e l1))),(3,.d (.v (.int .i64 i69)))],[]⟩) () h (sP) ?_;rintro N i69 _ h;refine wQ<|wQ<|wR<|wm ?_;refine wm ?_;refine ws (lM (enc:=EV.e) (L:=l1) underlying22 rfl)<|ws (LR.lss rfl rfl)<|wN ?_;refine xD h rfl (fun _ h=>?_) (fun _ h=>?_)
  ·refine wK<|wQ ?_;refine PWc.jnX (zH h) (fun (_:Unit) (_:Unit)=>⟨37,[(0,.d (.sl (List.map EV.e l1))),(3,.d (.v (.int .i64 i69)))],[]⟩) (fun h=>?_) ?_
   ·refine wB<|wQ<|wR<|wa ?_;refine wN<|wB<|wM (fun (k92:Int) (_:Unit)=>⟨37,[(0,.d (.sl (List.map EV.e l1))),(3,.d (.v (.int .i64 i69))),(4,.d (.v (.int .i64 k92)))],[]⟩) () h (sP) ?_;rintro N k92 _ h;refine wQ<|wQ<|wR<|wm ?_;refine wm ?_;refine wm ?_;obtain ⟨x93,hy94,h⟩:=zq h;refine ws (iX (enc:=EV.e) (L:=l1) (y:=x93) underlying22 sizeOf34 rfl rfl hy94 (fun _=>rfl))<|ws (fE underlying34 rfl sizeOf32 (by decide) rfl rfl)<|ws (LR.loadEp isAgg32 rfl rfl)<|ws (lM (enc:=DT.e) (L:=x93.kills) underlying32 rfl)<|ws (LR.lss rfl rfl)<|wN ?_;refine xD h rfl (fun _ h=>?_) (fun _ h=>?_)
    ·refine wK<|wQ<|wB<|wQ<|wD (by kernel_rfl) (by kernel_rfl)<|qm ?_;refine qm ?_;obtain ⟨x96,hy97,h⟩:=zq h;refine qs (fun _ U W=>iX (enc:=EV.e) (L:=l1) (y:=x96) underlying22 sizeOf34 U U hy97 (fun _=>rfl)) ?_;refine qs (fun _ U W=>fE underlying34 rfl sizeOf32 (by decide) rfl U) ?_;refine qs (fun _ U W=>LR.loadEp isAgg32 U rfl)<|qm ?_;obtain ⟨x98,hy99,h⟩:=zq h;refine qs (fun _ U W=>iX (enc:=DT.e) (L:=x96.kills) (y:=x98) underlying32 sizeOf31 U U hy99 (fun _=>rfl)) ?_;refine qs (fun _ U W=>fE underlying31 rfl sizeOf29 (by decide) rfl U) ?_;refine qs (fun _ U W=>LR.loadEp isAgg29 U rfl)<|qm ?_;refine qm ?_;obtain ⟨x100,hy101,h⟩:=zq h;refine qs (fun _ U W=>iX (enc:=EV.e) (L:=l1) (y:=x100) underlying22 sizeOf34 U U hy101 (fun _=>rfl)) ?_;refine qs (fun _ U W=>fE underlying34 rfl sizeOf31 (by decide) rfl U) ?_;refine qs (fun _ U W=>fE underlying31 rfl sizeOf29 (by decide) rfl U) ?_;refine qs (fun _ U W=>LR.loadEp isAgg29 U rfl) ?_;refine qs (fun _ U W=>LR.geq U U)<|qN ?_;refine xD h rfl (fun _ h=>?_) (fun _ h=>?_)
     ·refine wQ<|wz (tl:=[]) (to:=[]) ?_;refine wR<|wa ?_;refine wN<|wX ?_;cases h;exact xT
     ·refine wK<|wz (tl:=[(0,_),(3,_),(4,_)]) (to:=[]) ?_;refine wR<|wm ?_;refine ws (LR.addW rfl rfl)<|wa ?_;refine wN ?_;exact ⟨(IntKind.i64.wrap (k92 + 1)),(),h,sP⟩
    ·refine wZ ?_;exact ⟨(),(),h,sP⟩
   ·rintro _ _ h;refine wR<|wm ?_;refine ws (LR.addW rfl rfl)<|wa ?_;refine wN ?_;exact ⟨(IntKind.i64.wrap (i69 + 1)),(),h,sP⟩
  ·refine wZ ?_;exact ⟨(),(),h,sP⟩
 ·rintro _ _ h;refine wQ<|wR<|wa ?_;refine wN<|wX ?_;cases h;exact xT

theorem xf (d1:DT) (r0:Bool) (h:(yp d1).wp (· = r0)):PFun prog 48 [.agg (List.map .d (DT.e d1))] (.d (.v (.bool r0))):=by
 refine fI (sl:=[(0,_)]) func48 rfl ntmps48 rfl rfl ?_;intro ctx hK;refine wQ<|wR<|ws (LR.box rfl rfl rfl rfl)<|wa ?_;refine wN<|wQ ?_;refine wJ (zH h) (fun (v2:Bool) (_:Unit)=>⟨16,[(2,.d (.v (.bool v2)))],[]⟩) (fun h=>?_) ?_
 ·refine wR<|ws (fR underlying31 rfl sizeOf28 (by decide) rfl rfl)<|ws (lD isAgg28 rfl rfl rfl)<|ws (LR.gtr rfl rfl)<|wm ?_;refine xG (d:=6) h rfl (fun _ h=>?_) (fun _ h=>?_)
  ·refine wt (fR underlying31 rfl sizeOf29 (by decide) rfl rfl)<|wt (lD isAgg29 rfl rfl rfl)<|wt (LR.gtr rfl rfl)<|ws (pT rfl rfl)<|wm ?_;refine xG (d:=11) h rfl (fun _ h=>?_) (fun _ h=>?_)
   ·refine wt (fR underlying31 rfl sizeOf29 (by decide) rfl rfl)<|wt (lD isAgg29 rfl rfl rfl)<|wt (LR.leq rfl rfl)<|ws (pT rfl rfl)<|wa ?_;refine wN ?_;exact ⟨(decide (d1.n <= 281474976710655)),(),h,sP⟩
   ·refine wf<|wf<|wf<|ws (pF rfl rfl)<|wa ?_;refine wN ?_;exact ⟨false,(),h,sP⟩
  ·refine wf<|wf<|wf<|ws (pF rfl rfl)<|wm ?_;refine wf<|wf<|wf<|ws (pF rfl rfl)<|wa ?_;refine wN ?_;exact ⟨false,(),h,sP⟩
 ·rintro v2 _ h;refine wX ?_;cases h;exact xT

theorem VP (v1:Int) (r0:Int × Int) (h:(uN v1).wp (· = r0)):PFun prog 72 [.d (.v (.int .u64 v1))] (.tup [.d (.v (.int .u16 r0.1)),.d (.v (.int .u64 r0.2))]):=by
 refine fI (sl:=[(0,_)]) func72 rfl ntmps72 rfl rfl ?_;intro ctx hK;refine wQ<|wR<|wa ?_;refine wa ?_;refine wN<|wQ<|wR<|wm ?_;refine ws (LR.shr rfl rfl (by decide) rfl) ?_;refine ws (LR.convInt underlying28 (by rw [underlying29];rfl) rfl rfl) ?_;refine wm ?_;refine ws (LR.and rfl rfl)<|wa ?_;refine wa ?_;refine wN<|wX ?_;cases h;exact ⟨.inr rfl,_,.cons (.tmp rfl rfl)<|.cons (.tmp rfl rfl)<|.nil,rfl⟩

theorem UK (v1:Int) (r0:DT × Bool) (h:(ZO v1).wp (· = r0)):PFun prog 47 [.d (.v (.int .u64 v1))] (.tup [.agg (List.map .d (DT.e r0.1)),.d (.v (.bool r0.2))]):=by
 refine fI (sl:=[(0,_)]) func47 rfl ntmps47 rfl rfl ?_;intro ctx hK;refine wQ<|wR<|ws (LR.allocZ (cs:=[_,_]) zeroValue31 rfl rfl rfl rfl)<|wa ?_;refine wN<|wQ<|wR<|wm ?_;obtain ⟨v2,hy3,h⟩:=zY h;refine xN (VP v1 v2 hy3) call72<|wm ?_;refine ws (LR.extract rfl rfl)<|ws (LR.extract rfl rfl)<|wa ?_;refine wa ?_;refine wN<|wQ<|wR<|wm ?_;refine wm ?_;refine ws (LR.build (ns:=[_,_]) ul rfl rfl rfl)<|ws (LR.allocZ (cs:=[_,_]) zeroValue31 rfl rfl rfl rfl)<|ws (sB (ns:=[_,_]) sizeOf31 rfl rfl rfl rfl rfl rfl rfl)<|wN<|wQ<|wQ<|wR<|ws (lA (ps:=[_,_]) isAgg31 sizeOf31 rfl rfl rfl rfl) ?_;obtain ⟨v4,hy5,h⟩:=zY h;refine xN (xf (⟨v2.1,v2.2⟩:DT) v4 hy5) call48<|ws (LR.not rfl)<|wN ?_;refine xD h rfl (fun _ h=>?_) (fun _ h=>?_)
 ·refine wQ<|wR<|ws (LR.build (ns:=[_,_]) ul rfl rfl rfl)<|ws (sB (ns:=[_,_]) sizeOf31 rfl rfl rfl rfl rfl rfl rfl)<|wa ?_;refine wN<|wX ?_;cases h;exact ⟨.inr rfl,_,.cons (.agg isAgg31 sizeOf31 rfl rfl rfl rfl)<|.cons (.tmp rfl rfl)<|.nil,rfl⟩
 ·refine wK<|wQ<|wR<|ws (lA (ps:=[_,_]) isAgg31 sizeOf31 rfl rfl rfl rfl)<|ws (sB (ns:=[_,_]) sizeOf31 rfl rfl rfl rfl rfl rfl rfl)<|wa ?_;refine wN<|wX ?_;cases h;exact ⟨.inr rfl,_,.cons (.agg isAgg31 sizeOf31 rfl rfl rfl rfl)<|.cons (.tmp rfl rfl)<|.nil,rfl⟩


theorem UL (f1:Int) (r0:Bool) (h:(ZP f1).wp (· = r0)):PFun prog 49 [.d (.v (.int .u8 f1))] (.d (.v (.bool r0))):=by
 refine fI (sl:=[(0,_)]) func49 rfl ntmps49 rfl rfl ?_;intro ctx hK;refine wQ<|wR<|wa ?_;refine wN<|wQ ?_;refine wJ (zH h) (fun (v2:Bool) (_:Unit)=>⟨9,[(2,.d (.v (.bool v2)))],[]⟩) (fun h=>?_) ?_
 ·refine wR<|wm ?_;refine ws (LR.geq rfl rfl)<|wm ?_;refine xG (d:=5) h rfl (fun _ h=>?_) (fun _ h=>?_)
  ·refine wt (mV rfl)<|wt (LR.leq rfl rfl)<|ws (pT rfl rfl)<|wa ?_;refine wN ?_;exact ⟨(decide (f1 <= 5)),(),h,sP⟩
  ·refine wf<|wf<|ws (pF rfl rfl)<|wa ?_;refine wN ?_;exact ⟨false,(),h,sP⟩
 ·rintro v2 _ h;refine wX ?_;cases h;exact xT

theorem UM (s1:ByteArray) (r0:Bool) (h:(ZQ s1).wp (· = r0)):PFun prog 50 [.d (.v (.string s1))] (.d (.v (.bool r0))):=by
 refine fI (sl:=[(0,_)]) func50 rfl ntmps50 rfl rfl ?_;intro ctx hK;refine wQ<|wR<|wa ?_;refine wN<|wQ<|wQ<|wR<|wm ?_;refine ws (LR.lenStr underlying9 rfl)<|ws (LR.gtr rfl rfl)<|wN ?_;refine xD h rfl (fun _ h=>?_) (fun _ h=>?_)
 ·refine wQ<|wR<|wa ?_;refine wN<|wX ?_;cases h;exact xT
 ·refine wK<|wQ<|wQ<|wR<|wm ?_;refine ws (LR.lenStr underlying9 rfl)<|wm ?_;refine wN ?_;refine PWc.jnX (zH h) (fun (_:Unit) (_:Unit)=>⟨23,[],[]⟩) (fun h=>?_) ?_
  ·refine wB<|wM (fun (v20:Int) (_:Unit)=>⟨23,[(0,.d (.v (.string s1))),(8,.d (.v (.int .i64 (ByteArray.size s1:Int)))),(9,.d (.v (.int .i64 v20)))],[]⟩) () h (sP) ?_;rintro N v20 _ h;refine wQ<|wR<|ws (LR.lss rfl rfl)<|wN<|wQ ?_;refine xD h rfl (fun _ h=>?_) (fun _ h=>?_)
   ·refine wK<|wQ<|wB<|wQ<|wR<|wm ?_;refine wa ?_;refine wN<|wQ ?_;refine wJ (zH h) (fun (v22:Bool) (_:Unit)=>⟨23,[(0,.d (.v (.string s1))),(8,.d (.v (.int .i64 (ByteArray.size s1:Int)))),(9,.d (.v (.int .i64 v20))),(21,.d (.v (.bool v22)))],[]⟩) (fun h=>?_) ?_
    ·refine wR<|wm ?_;refine wm ?_;obtain ⟨b23,hy24,h⟩:=zq h;refine ws (LR.strIdx underlying9 rfl rfl hy24)<|ws (LR.lss rfl rfl)<|wm ?_;refine xG (d:=16) h rfl (fun _ h=>?_) (fun _ h=>?_)
     ·refine wf<|wf<|wf<|wf<|ws (pT rfl rfl)<|wN ?_;exact ⟨true,(),h,sP⟩
     ·refine wt (mV rfl)<|wt (mV rfl) ?_;obtain ⟨b26,hy27,h⟩:=zq h;refine wt (LR.strIdx underlying9 rfl rfl hy27)<|wt (LR.gtr rfl rfl)<|ws (pF rfl rfl)<|wN ?_;exact ⟨(decide (126 < b26)),(),h,sP⟩
    ·rintro v22 _ h;refine xD h rfl (fun _ h=>?_) (fun _ h=>?_)
     ·refine wQ<|wR<|wa ?_;refine wN<|wX ?_;cases h;exact xT
     ·refine wK<|wR<|ws (LR.addW rfl rfl)<|wm ?_;refine wN ?_;exact ⟨(IntKind.i64.wrap (v20 + 1)),(),h,sP⟩
   ·refine wZ ?_;exact ⟨(),(),h,sP⟩
  ·rintro _ _ h;refine wQ<|wR<|wa ?_;refine wN<|wX ?_;cases h;exact xT

theorem vP (x1:Int) (r0:Bool) (h:(xA x1).wp (· = r0)):PFun prog 92 [.d (.v (.int .u64 x1))] (.d (.v (.bool r0))):=by
 refine fI (sl:=[(0,_)]) func92 rfl ntmps92 rfl rfl ?_;intro ctx hK;refine wQ<|wR<|wa ?_;refine wN<|wQ<|wR<|wm ?_;refine wm ?_;refine ws (nQ rfl rfl)<|wa ?_;refine wN<|wX ?_;cases h;exact xT

theorem xx (x1:Int) (y2:Int) (r0:Int) (h:(yQ x1 y2).wp (· = r0)):PFun prog 76 [.d (.v (.int .u64 x1)),.d (.v (.int .u64 y2))] (.d (.v (.int .i64 r0))):=by
 refine fI (sl:=[(0,_),(1,_)]) func76 rfl ntmps76 rfl rfl ?_;intro ctx hK;refine wQ<|wR<|wa ?_;refine wN<|wQ<|wR<|wm ?_;obtain ⟨v3,hy4,h⟩:=zY h;refine xN (vP x1 v3 hy4) call92<|wa ?_;refine wN<|wQ<|wR<|wm ?_;obtain ⟨v5,hy6,h⟩:=zY h;refine xN (vP y2 v5 hy6) call92<|wa ?_;refine wN<|wQ<|wQ<|wR<|wm ?_;refine wN ?_;refine xD h rfl (fun _ h=>?_) (fun _ h=>?_)
 ·refine wQ<|wQ<|wR<|wm ?_;refine wN ?_;refine xD h rfl (fun _ h=>?_) (fun _ h=>?_)
  ·refine wQ<|wR<|wa ?_;refine wN<|wX ?_;cases h;exact xT
  ·refine wK<|wQ<|wR<|wa ?_;refine wN<|wX ?_;cases h;exact xT
 ·refine wK<|wQ<|wQ<|wR<|wm ?_;refine wN ?_;refine xD h rfl (fun _ h=>?_) (fun _ h=>?_)
  ·refine wQ<|wR<|wa ?_;refine wN<|wX ?_;cases h;exact xT
  ·refine wK<|wQ<|wQ<|wR<|wm ?_;refine wm ?_;refine ws (LR.lss rfl rfl)<|wN ?_;refine xD h rfl (fun _ h=>?_) (fun _ h=>?_)
   ·refine wQ<|wR<|wa ?_;refine wN<|wX ?_;cases h;exact xT
   ·refine wK<|wQ<|wQ<|wR<|wm ?_;refine wm ?_;refine ws (LR.gtr rfl rfl)<|wN ?_;refine xD h rfl (fun _ h=>?_) (fun _ h=>?_)
    ·refine wQ<|wR<|wa ?_;refine wN<|wX ?_;cases h;exact xT
    ·refine wK<|wQ<|wR<|wa ?_;refine wN<|wX ?_;cases h;exact xT

theorem vQ (x1:Int) (r0:Bool) (h:(xB x1).wp (· = r0)):PFun prog 96 [.d (.v (.int .u16 x1))] (.d (.v (.bool r0))):=by
 refine fI (sl:=[(0,_)]) func96 rfl ntmps96 rfl rfl ?_;intro ctx hK;refine wQ<|wR<|wa ?_;refine wN<|wQ<|wR<|wm ?_;refine wm ?_;refine ws (nQ rfl rfl)<|wa ?_;refine wN<|wX ?_;cases h;exact xT


theorem uv (x1:Int) (y2:Int) (r0:Int) (h:(yd x1 y2).wp (· = r0)):PFun prog 83 [.d (.v (.int .u16 x1)),.d (.v (.int .u16 y2))] (.d (.v (.int .i64 r0))):=by
 refine fI (sl:=[(0,_),(1,_)]) func83 rfl ntmps83 rfl rfl ?_;intro ctx hK;refine wQ<|wR<|wa ?_;refine wN<|wQ<|wR<|wm ?_;obtain ⟨v3,hy4,h⟩:=zY h;refine xN (vQ x1 v3 hy4) call96<|wa ?_;refine wN<|wQ<|wR<|wm ?_;obtain ⟨v5,hy6,h⟩:=zY h;refine xN (vQ y2 v5 hy6) call96<|wa ?_;refine wN<|wQ<|wQ<|wR<|wm ?_;refine wN ?_;refine xD h rfl (fun _ h=>?_) (fun _ h=>?_)
 ·refine wQ<|wQ<|wR<|wm ?_;refine wN ?_;refine xD h rfl (fun _ h=>?_) (fun _ h=>?_)
  ·refine wQ<|wR<|wa ?_;refine wN<|wX ?_;cases h;exact xT
  ·refine wK<|wQ<|wR<|wa ?_;refine wN<|wX ?_;cases h;exact xT
 ·refine wK<|wQ<|wQ<|wR<|wm ?_;refine wN ?_;refine xD h rfl (fun _ h=>?_) (fun _ h=>?_)
  ·refine wQ<|wR<|wa ?_;refine wN<|wX ?_;cases h;exact xT
  ·refine wK<|wQ<|wQ<|wR<|wm ?_;refine wm ?_;refine ws (LR.lss rfl rfl)<|wN ?_;refine xD h rfl (fun _ h=>?_) (fun _ h=>?_)
   ·refine wQ<|wR<|wa ?_;refine wN<|wX ?_;cases h;exact xT
   ·refine wK<|wQ<|wQ<|wR<|wm ?_;refine wm ?_;refine ws (LR.gtr rfl rfl)<|wN ?_;refine xD h rfl (fun _ h=>?_) (fun _ h=>?_)
    ·refine wQ<|wR<|wa ?_;refine wN<|wX ?_;cases h;exact xT
    ·refine wK<|wQ<|wR<|wa ?_;refine wN<|wX ?_;cases h;exact xT

theorem QN (a1:DT) (b2:DT) (r0:Int) (h:(UF a1 b2).wp (· = r0)):PFun prog 63 [.agg (List.map .d (DT.e a1)),.agg (List.map .d (DT.e b2))] (.d (.v (.int .i64 r0))):=by
 refine fI (sl:=[(0,_),(1,_)]) func63 rfl ntmps63 rfl rfl ?_;intro ctx hK;refine wQ<|wR<|ws (LR.box rfl rfl rfl rfl)<|ws (LR.box rfl rfl rfl rfl)<|wa ?_;refine wN<|wQ<|wQ<|wR<|ws (fR underlying31 rfl sizeOf28 (by decide) rfl rfl)<|ws (lD isAgg28 rfl rfl rfl)<|ws (fR underlying31 rfl sizeOf28 (by decide) rfl rfl)<|ws (lD isAgg28 rfl rfl rfl) ?_;obtain ⟨v3,hy4,h⟩:=zY h;refine xN (uv a1.dev b2.dev v3 hy4) call83<|wa ?_;refine wN<|wQ<|wR<|wm ?_;refine ws (nQ rfl rfl)<|wN ?_;refine xD h rfl (fun _ h=>?_) (fun _ h=>?_)
 ·refine wQ<|wR<|wm ?_;refine wa ?_;refine wN<|wX ?_;cases h;exact xT
 ·refine wK<|wQ<|wR<|ws (fR underlying31 rfl sizeOf29 (by decide) rfl rfl)<|ws (lD isAgg29 rfl rfl rfl)<|ws (fR underlying31 rfl sizeOf29 (by decide) rfl rfl)<|ws (lD isAgg29 rfl rfl rfl) ?_;obtain ⟨v6,hy7,h⟩:=zY h;refine xN (xx a1.n b2.n v6 hy7) call76<|wa ?_;refine wN<|wX ?_;cases h;exact xT

theorem UN (l1:List DT) (r0:Bool) (h:(ZR l1).wp (· = r0)):PFun prog 51 [.d (.sl (List.map DT.e l1))] (.d (.v (.bool r0))):=by
 refine fI (sl:=[(0,_)]) func51 rfl ntmps51 rfl rfl ?_;intro ctx hK;refine wQ<|wR<|wa ?_;refine wN<|wQ<|wQ<|wR<|wm ?_;refine ws (lM (enc:=DT.e) (L:=l1) underlying32 rfl)<|wm ?_;refine wN ?_;refine PWc.jnX (zH h) (fun (_:Unit) (_:Unit)=>⟨25,[],[]⟩) (fun h=>?_) ?_
 ·refine wB<|wM (fun (v23:Int) (_:Unit)=>⟨25,[(0,.d (.sl (List.map DT.e l1))),(5,.d (.v (.int .i64 (l1.length:Int)))),(6,.d (.v (.int .i64 v23)))],[]⟩) () h (sP) ?_;rintro N v23 _ h;refine wQ<|wR<|ws (LR.lss rfl rfl)<|wN<|wQ ?_;refine xD h rfl (fun _ h=>?_) (fun _ h=>?_)
  ·refine wK<|wQ<|wB<|wQ<|wR<|wm ?_;refine wa ?_;refine wN<|wQ ?_;refine wJ (zH h) (fun (v25:Bool) (_:Unit)=>⟨25,[(0,.d (.sl (List.map DT.e l1))),(5,.d (.v (.int .i64 (l1.length:Int)))),(6,.d (.v (.int .i64 v23))),(23,.d (.v (.bool v25)))],[]⟩) (fun h=>?_) ?_
   ·refine wD (by kernel_rfl) (by kernel_rfl)<|qm ?_;refine qs (fun _ U W=>LR.gtr U U)<|qm ?_;refine xQ (d:=11) h rfl (fun _ h=>?_) (fun _ h=>?_)
    ·refine qt (fun _ U W=>mV U) ?_;refine qt (fun _ U W=>mV U) ?_;refine qt (fun _ U W=>LR.subW U U) ?_;obtain ⟨x27,hy28,h⟩:=zq h;refine qt (fun _ U W=>iX (enc:=DT.e) (L:=l1) (y:=x27) underlying32 sizeOf31 U U hy28 (fun _=>rfl)) ?_;refine qt (fun _ U W=>lE (ys:=[_,_]) isAgg31 sizeOf31 U rfl rfl) ?_;refine qt (fun _ U W=>mV U) ?_;refine qt (fun _ U W=>mV U) ?_;obtain ⟨x29,hy30,h⟩:=zq h;refine qt (fun _ U W=>iX (enc:=DT.e) (L:=l1) (y:=x29) underlying32 sizeOf31 U U hy30 (fun _=>rfl)) ?_;refine qt (fun _ U W=>lE (ys:=[_,_]) isAgg31 sizeOf31 U rfl rfl) ?_;obtain ⟨v31,hy32,h⟩:=zY h;refine qt (fun _ U W=>cN (QN x27 x29 v31 hy32) U call63 (vc (fun a b=>U a b) rfl rfl) rfl rfl rfl) ?_;refine qt (fun _ U W=>LR.geq U U) ?_;refine qs (fun _ U W=>pT U U)<|qN ?_;exact ⟨(decide (0 <= v31)),(),h,sP⟩
    ·refine kF<|kF<|kF<|kF<|kF<|kF<|kF<|kF<|kF ?_;refine kF<|kF ?_;refine qs (fun _ U W=>pF U U)<|qN ?_;exact ⟨false,(),h,sP⟩
   ·rintro v25 _ h;refine xD h rfl (fun _ h=>?_) (fun _ h=>?_)
    ·refine wQ<|wR<|wa ?_;refine wN<|wX ?_;cases h;exact xT
    ·refine wK<|wR<|ws (LR.addW rfl rfl)<|wm ?_;refine wN ?_;exact ⟨(IntKind.i64.wrap (v23 + 1)),(),h,sP⟩
  ·refine wZ ?_;exact ⟨(),(),h,sP⟩
 ·rintro _ _ h;refine wQ<|wR<|wa ?_;refine wN<|wX ?_;cases h;exact xT

theorem Yl (e1:EV) (r0:Bool) (h:(vw e1).wp (· = r0)):PFun prog 26 [.agg (List.map .d (EV.e e1))] (.d (.v (.bool r0))):=by
 refine fI (sl:=[(0,_)]) func26 rfl ntmps26 rfl rfl ?_;intro ctx hK;refine wQ<|wR<|ws (LR.box rfl rfl rfl rfl)<|wa ?_;refine wN<|wQ<|wQ<|wR<|ws (fR underlying34 rfl sizeOf29 (by decide) rfl rfl)<|ws (lD isAgg29 rfl rfl rfl) ?_;obtain ⟨v2,hy3,h⟩:=zY h;refine xN (UK e1.cid v2 hy3) call47<|wm ?_;refine ws (LR.extract rfl rfl)<|ws (LR.extract rfl rfl)<|ws (LR.allocZ (cs:=[_,_]) zeroValue31 rfl rfl rfl rfl)<|ws (sB (ns:=[_,_]) sizeOf31 rfl rfl rfl rfl rfl rfl rfl)<|wa ?_;refine wN<|wQ ?_;refine wJ (zH h) (fun (v4:Bool) (_:Unit)=>⟨72,[(1,.ref 1 0),(20,.d (.v (.bool v4)))],[(1,.cells 34 [.d (.v (.int .u16 e1.dot.dev)),.d (.v (.int .u64 e1.dot.n)),.d (.v (.int .u8 e1.kind)),.d (.v (.int .u64 e1.cid)),.d (.v (.int .u8 e1.field)),.d (.v (.string e1.text)),.d (.sl (List.map DT.e e1.kills))])]⟩) (fun h=>?_) ?_
 ·refine wR<|wm ?_;refine ws (LR.not rfl)<|wm ?_;refine xG (d:=15) h rfl (fun _ h=>?_) (fun _ h=>?_)
  ·refine wf<|wf<|wf<|wf<|ws (pT rfl rfl)<|wN ?_;exact ⟨true,(),h,sP⟩
  ·refine wt (fR underlying34 rfl sizeOf31 (by decide) rfl rfl)<|wt (lA (ps:=[_,_]) isAgg31 sizeOf31 rfl rfl rfl rfl) ?_;obtain ⟨v6,hy7,h⟩:=zY h;refine wt (cN (xf e1.dot v6 hy7) rfl call48 rfl rfl rfl rfl)<|wt (LR.not rfl)<|ws (pF rfl rfl)<|wN ?_;exact ⟨(!v6),(),h,sP⟩
 ·rintro v4 _ h;refine xD h rfl (fun _ h=>?_) (fun _ h=>?_)
  ·refine wQ<|wR<|wa ?_;refine wN<|wX ?_;cases h;exact xT
  ·refine wK<|wQ<|wQ<|wR<|ws (fR underlying34 rfl sizeOf5 (by decide) rfl rfl)<|ws (lD isAgg5 rfl rfl rfl)<|wN ?_;refine PWc.jnX (zH h) (fun (_:Unit) (_:Unit)=>⟨72,[(1,.ref 1 0)],[(1,.cells 34 [.d (.v (.int .u16 e1.dot.dev)),.d (.v (.int .u64 e1.dot.n)),.d (.v (.int .u8 e1.kind)),.d (.v (.int .u64 e1.cid)),.d (.v (.int .u8 e1.field)),.d (.v (.string e1.text)),.d (.sl (List.map DT.e e1.kills))])]⟩) (fun h=>?_) ?_
   ·refine wB<|wQ<|wR<|ws (eQ rfl rfl)<|wa ?_;refine wN ?_;refine xD h rfl (fun _ h=>?_) (fun _ h=>?_)
    ·refine wQ ?_;refine wJ (zH h) (fun (v10:Bool) (_:Unit)=>⟨72,[(1,.ref 1 0),(34,.d (.v (.bool v10)))],[(1,.cells 34 [.d (.v (.int .u16 e1.dot.dev)),.d (.v (.int .u64 e1.dot.n)),.d (.v (.int .u8 e1.kind)),.d (.v (.int .u64 e1.cid)),.d (.v (.int .u8 e1.field)),.d (.v (.string e1.text)),.d (.sl (List.map DT.e e1.kills))])]⟩) (fun h=>?_) ?_
     ·refine wR<|ws (fR underlying34 rfl sizeOf5 (by decide) rfl rfl)<|ws (lD isAgg5 rfl rfl rfl) ?_;obtain ⟨v11,hy12,h⟩:=zY h;refine xN (UL e1.field v11 hy12) call49<|ws (LR.not rfl)<|wm ?_;refine xG (d:=29) h rfl (fun _ h=>?_) (fun _ h=>?_)
      ·refine wf<|wf<|wf<|wf<|ws (pT rfl rfl)<|wN ?_;exact ⟨true,(),h,sP⟩
      ·refine wt (fR underlying34 rfl sizeOf9 (by decide) rfl rfl)<|wt (lD isAgg9 rfl rfl rfl) ?_;obtain ⟨v14,hy15,h⟩:=zY h;refine wt (cN (UM e1.text v14 hy15) rfl call50 rfl rfl rfl rfl)<|wt (LR.not rfl)<|ws (pF rfl rfl)<|wN ?_;exact ⟨(!v14),(),h,sP⟩
     ·rintro v10 _ h;refine xD h rfl (fun _ h=>?_) (fun _ h=>?_)
      ·refine wQ<|wR<|wa ?_;refine wN<|wX ?_;cases h;exact xT
      ·refine wK ?_;exact ⟨(),(),h,sP⟩
    ·refine wQ<|wR<|ws (eQ rfl rfl)<|wa ?_;refine wN ?_;refine xD h rfl (fun _ h=>?_) (fun _ h=>?_)
     ·refine wQ ?_;refine wJ (zH h) (fun (v18:Bool) (_:Unit)=>⟨72,[(1,.ref 1 0),(44,.d (.v (.bool v18)))],[(1,.cells 34 [.d (.v (.int .u16 e1.dot.dev)),.d (.v (.int .u64 e1.dot.n)),.d (.v (.int .u8 e1.kind)),.d (.v (.int .u64 e1.cid)),.d (.v (.int .u8 e1.field)),.d (.v (.string e1.text)),.d (.sl (List.map DT.e e1.kills))])]⟩) (fun h=>?_) ?_
      ·refine wR<|ws (fR underlying34 rfl sizeOf5 (by decide) rfl rfl)<|ws (lD isAgg5 rfl rfl rfl)<|ws (nQ rfl rfl)<|wm ?_;refine xG (d:=40) h rfl (fun _ h=>?_) (fun _ h=>?_)
       ·refine wf<|wf<|wf<|ws (pT rfl rfl)<|wN ?_;exact ⟨true,(),h,sP⟩
       ·refine wt (fR underlying34 rfl sizeOf9 (by decide) rfl rfl)<|wt (lD isAgg9 rfl rfl rfl)<|wt (LR.neqStr rfl rfl)<|ws (pF rfl rfl)<|wN ?_;exact ⟨(!decide (e1.text = (⟨#[]⟩:ByteArray))),(),h,sP⟩
      ·rintro v18 _ h;refine xD h rfl (fun _ h=>?_) (fun _ h=>?_)
       ·refine wQ<|wR<|wa ?_;refine wN<|wX ?_;cases h;exact xT
       ·refine wK ?_;exact ⟨(),(),h,sP⟩
     ·refine wQ<|wR<|wa ?_;refine wN<|wX ?_;cases h;exact xT
   ·rintro _ _ h;refine wQ<|wQ ?_;refine wJ (zH h) (fun (v21:Bool) (_:Unit)=>⟨72,[(1,.ref 1 0),(54,.d (.v (.bool v21)))],[(1,.cells 34 [.d (.v (.int .u16 e1.dot.dev)),.d (.v (.int .u64 e1.dot.n)),.d (.v (.int .u8 e1.kind)),.d (.v (.int .u64 e1.cid)),.d (.v (.int .u8 e1.field)),.d (.v (.string e1.text)),.d (.sl (List.map DT.e e1.kills))])]⟩) (fun h=>?_) ?_
    ·refine wR<|ws (fR underlying34 rfl sizeOf32 (by decide) rfl rfl)<|ws (lD isAgg32 rfl rfl rfl)<|ws (lM (enc:=DT.e) (L:=e1.kills) underlying32 rfl)<|ws (LR.gtr rfl rfl)<|wm ?_;refine xG (d:=49) h rfl (fun _ h=>?_) (fun _ h=>?_)
     ·refine wf<|wf<|wf<|wf<|ws (pT rfl rfl)<|wN ?_;exact ⟨true,(),h,sP⟩
     ·refine wt (fR underlying34 rfl sizeOf32 (by decide) rfl rfl)<|wt (lD isAgg32 rfl rfl rfl) ?_;obtain ⟨v23,hy24,h⟩:=zY h;refine wt (cN (UN e1.kills v23 hy24) rfl call51 rfl rfl rfl rfl)<|wt (LR.not rfl)<|ws (pF rfl rfl)<|wN ?_;exact ⟨(!v23),(),h,sP⟩
    ·rintro v21 _ h;refine xD h rfl (fun _ h=>?_) (fun _ h=>?_)
     ·refine wQ<|wR<|wa ?_;refine wN<|wX ?_;cases h;exact xT
     ·refine wK<|wQ<|wQ<|wR<|ws (fR underlying34 rfl sizeOf32 (by decide) rfl rfl)<|ws (lD isAgg32 rfl rfl rfl)<|ws (lM (enc:=DT.e) (L:=e1.kills) underlying32 rfl)<|wm ?_;refine wN ?_;refine PWc.jnX (zH h) (fun (_:Unit) (_:Unit)=>⟨72,[],[]⟩) (fun h=>?_) ?_
      ·refine wB<|wM (fun (v43:Int) (_:Unit)=>⟨72,[(1,.ref 1 0),(56,.d (.sl (List.map DT.e e1.kills))),(57,.d (.v (.int .i64 (e1.kills.length:Int)))),(58,.d (.v (.int .i64 v43)))],[(1,.cells 34 [.d (.v (.int .u16 e1.dot.dev)),.d (.v (.int .u64 e1.dot.n)),.d (.v (.int .u8 e1.kind)),.d (.v (.int .u64 e1.cid)),.d (.v (.int .u8 e1.field)),.d (.v (.string e1.text)),.d (.sl (List.map DT.e e1.kills))])]⟩) () h (sP) ?_;rintro N v43 _ h;refine wQ<|wR<|ws (LR.lss rfl rfl)<|wN<|wQ ?_;refine xD h rfl (fun _ h=>?_) (fun _ h=>?_)
       ·refine wK<|wQ<|wB<|wQ<|wR ?_;obtain ⟨x45,hy46,h⟩:=zq h;refine ws (iX (enc:=DT.e) (L:=e1.kills) (y:=x45) underlying32 sizeOf31 rfl rfl hy46 (fun _=>rfl))<|ws (lE (ys:=[_,_]) isAgg31 sizeOf31 rfl rfl rfl)<|ws (LR.allocZ (cs:=[_,_]) zeroValue31 rfl rfl rfl rfl)<|ws (sB (ns:=[_,_]) sizeOf31 rfl rfl rfl rfl rfl rfl rfl)<|wN<|wQ ?_;refine wJ (zH h) (fun (v47:Bool) (_:Unit)=>⟨72,[(1,.ref 1 0),(56,.d (.sl (List.map DT.e e1.kills))),(57,.d (.v (.int .i64 (e1.kills.length:Int)))),(58,.d (.v (.int .i64 v43))),(70,.d (.v (.bool v47)))],[(1,.cells 34 [.d (.v (.int .u16 e1.dot.dev)),.d (.v (.int .u64 e1.dot.n)),.d (.v (.int .u8 e1.kind)),.d (.v (.int .u64 e1.cid)),.d (.v (.int .u8 e1.field)),.d (.v (.string e1.text)),.d (.sl (List.map DT.e e1.kills))])]⟩) (fun h=>?_) ?_
        ·refine wR<|ws (lA (ps:=[_,_]) isAgg31 sizeOf31 rfl rfl rfl rfl) ?_;obtain ⟨v48,hy49,h⟩:=zY h;refine xN (xf x45 v48 hy49) call48<|ws (LR.not rfl)<|wm ?_;refine xG (d:=65) h rfl (fun _ h=>?_) (fun _ h=>?_)
         ·refine wf<|wf<|wf<|wf<|ws (pT rfl rfl)<|wN ?_;exact ⟨true,(),h,sP⟩
         ·refine wt (lA (ps:=[_,_]) isAgg31 sizeOf31 rfl rfl rfl rfl)<|wt (fR underlying34 rfl sizeOf31 (by decide) rfl rfl)<|wt (lA (ps:=[_,_]) isAgg31 sizeOf31 rfl rfl rfl rfl)<|wt (LR.eqlAgg rfl rfl rfl rfl eq31)<|ws (pF rfl rfl)<|wN ?_;exact ⟨((decide (x45.dev = e1.dot.dev) && decide (x45.n = e1.dot.n))),(),h,sP⟩
        ·rintro v47 _ h;refine xD h rfl (fun _ h=>?_) (fun _ h=>?_)
         ·refine wQ<|wR<|wa ?_;refine wN<|wX ?_;cases h;exact xT
         ·refine wK<|wR<|ws (LR.addW rfl rfl)<|wm ?_;refine wN ?_;exact ⟨(IntKind.i64.wrap (v43 + 1)),(),h,sP⟩
       ·refine wZ ?_;exact ⟨(),(),h,sP⟩
      ·rintro _ _ h;refine wQ<|wR<|wa ?_;refine wN<|wX ?_;cases h;exact xT



theorem uw (l1:List RN) (r0:List RN) (h:(xu l1).wp (· = r0)):PRow prog 73 [.d (.sl (List.map RN.e l1))] 79 2 (List.map RN.e r0):=by
 refine PRow.intro (sl:=[(0,_)]) func73 rfl ntmps73 rfl rfl ?_;intro ctx hK;refine wQ<|wR<|ws (aR 79 2 rfl)<|wN<|wQ<|wR<|ws (aR 79 2 rfl)<|wN<|wQ ?_;refine wQ<|wR<|wm ?_;refine ws (lM (enc:=RN.e) (L:=l1) underlying61 rfl)<|wm ?_;refine wN ?_;refine wJ (zH h) (fun (some2:List RN) (_:Unit)=>⟨78,[(3,.row 3 (some2.length))],[(3,.row 79 2 (List.map RN.e some2))]⟩) (fun h=>?_) ?_
 ·refine wB<|wM (fun (⟨v23,some24⟩:Int × List RN) (_:Unit)=>⟨78,[(3,.row 3 (some24.length)),(10,.d (.sl (List.map RN.e l1))),(11,.d (.v (.int .i64 (l1.length:Int)))),(12,.d (.v (.int .i64 v23)))],[(3,.row 79 2 (List.map RN.e some24))]⟩) () h (sP) ?_;rintro N ⟨v23,some24⟩ _ h;refine wQ<|wR<|ws (LR.lss rfl rfl)<|wN<|wQ ?_;refine xD h rfl (fun _ h=>?_) (fun _ h=>?_)
  ·refine wK<|wQ ?_;refine wJ (zH h) (fun (some26:List RN) (_:Unit)=>⟨78,[(3,.row 3 (some26.length)),(10,.d (.sl (List.map RN.e l1))),(11,.d (.v (.int .i64 (l1.length:Int)))),(12,.d (.v (.int .i64 v23)))],[(3,.row 79 2 (List.map RN.e some26))]⟩) (fun h=>?_) ?_
   ·refine wB<|wQ<|wR ?_;obtain ⟨x27,hy28,h⟩:=zq h;refine ws (iX (enc:=RN.e) (L:=l1) (y:=x27) underlying61 sizeOf79 rfl rfl hy28 (fun _=>rfl))<|ws (lE (ys:=[_,_]) isAgg79 sizeOf79 rfl rfl rfl)<|ws (LR.allocZ (cs:=[_,_]) zeroValue79 rfl rfl rfl rfl)<|ws (sB (ns:=[_,_]) sizeOf79 rfl rfl rfl rfl rfl rfl rfl)<|wN<|wQ ?_;refine wJ (zH h) (fun (v29:Bool) (_:Unit)=>⟨78,[(3,.row 3 (some24.length)),(5,.ref 5 0),(10,.d (.sl (List.map RN.e l1))),(11,.d (.v (.int .i64 (l1.length:Int)))),(12,.d (.v (.int .i64 v23))),(30,.d (.v (.bool v29)))],[(3,.row 79 2 (List.map RN.e some24)),(5,.cells 79 [.d (.v (.int .u64 x27.lo)),.d (.v (.int .u64 x27.hi))])]⟩) (fun h=>?_) ?_
    ·refine wR<|ws (fR underlying79 rfl sizeOf29 (by decide) rfl rfl)<|ws (lD isAgg29 rfl rfl rfl)<|ws (LR.gtr rfl rfl)<|wm ?_;refine xG (d:=19) h rfl (fun _ h=>?_) (fun _ h=>?_)
     ·refine wt (fR underlying79 rfl sizeOf29 (by decide) rfl rfl)<|wt (lD isAgg29 rfl rfl rfl)<|wt (fR underlying79 rfl sizeOf29 (by decide) rfl rfl)<|wt (lD isAgg29 rfl rfl rfl)<|wt (LR.leq rfl rfl)<|ws (pT rfl rfl)<|wm ?_;refine xG (d:=26) h rfl (fun _ h=>?_) (fun _ h=>?_)
      ·refine wy (tl:=[(3,_),(5,_),(10,_),(11,_),(12,_),(20,_),(21,_),(22,_),(23,_),(24,_),(26,_)]) (to:=[(3,_),(5,_)]) ?_;refine wt (fR underlying79 rfl sizeOf29 (by decide) rfl rfl)<|wt (lD isAgg29 rfl rfl rfl)<|wt (LR.leq rfl rfl)<|ws (pT rfl rfl)<|wN ?_;exact ⟨(decide (x27.hi <= 281474976710655)),(),h,sP⟩
      ·refine wy (tl:=[(3,_),(5,_),(10,_),(11,_),(12,_),(20,_),(21,_),(22,_),(23,_),(24,_),(26,_)]) (to:=[(3,_),(5,_)]) ?_;refine wf<|wf<|wf<|ws (pF rfl rfl)<|wN ?_;exact ⟨false,(),h,sP⟩
     ·refine wf<|wf<|wf<|wf<|wf<|ws (pF rfl rfl)<|wm ?_;refine wf<|wy (tl:=[(3,_),(5,_),(10,_),(11,_),(12,_),(20,_),(21,_),(22,_),(23,_),(24,_),(26,_),(27,_)]) (to:=[(3,_),(5,_)]) ?_;refine wf<|wf<|ws (pF rfl rfl)<|wN ?_;exact ⟨false,(),h,sP⟩
    ·rintro v29 _ h;refine xD h rfl (fun _ h=>?_) (fun _ h=>?_)
     ·refine wR<|wm ?_;refine ws (lA (ps:=[_,_]) isAgg79 sizeOf79 rfl rfl rfl rfl)<|ws (LR.buildSliceD [.tmp 32] wd rfl rfl (.cons rfl rfl rfl<|.nil) (by decide) (by decide)) ?_;obtain ⟨hy33,h⟩:=zw h;refine ws (LR.appT (enc:=RN.e) (L:=some24) (R:=[x27]) [3,31] wd underlying61 rfl rfl rfl (Src.slT (enc:=RN.e) (R:=[x27]) rfl (fun _=>rfl)) (fun _=>rfl) hy33 rfl rfl)<|wa ?_;refine wN ?_;exact ⟨(some24 ++ [x27]),(),h,sP⟩
     ·refine wK ?_;exact ⟨some24,(),h,sP⟩
   ·rintro some26 _ h;refine wR<|ws (LR.addW rfl rfl)<|wm ?_;refine wN ?_;exact ⟨((IntKind.i64.wrap (v23 + 1)),some26),(),h,sP⟩
  ·refine wZ ?_;exact ⟨some24,(),h,sP⟩
 ·rintro some2 _ h;refine wQ<|wR<|wm ?_;obtain ⟨hy35,h⟩:=zw h;refine PWl.sortFn (encD:=RN.e) (enc:=RN.v) (l:=some2) srt90_91 (fun _=>rfl) RN.v1 (fun _=>rfl) rfl call90 rfl rfl rfl (by simp) hy35 rfl (fun s34 hy36 hy37=>?_);replace h:=iSrt h s34 hy36 hy37;have hy36l:=hy36.length_eq;refine wN<|wQ<|wR<|ws (aR 79 2 rfl)<|wN<|wQ<|wQ<|wR<|wm ?_;refine ws (LR.lenRow underlying61 rfl)<|wm ?_;refine wN ?_;refine wJ (zH h) (fun (out38:List RN) (_:Unit)=>⟨78,[(6,.row 6 (out38.length))],[(6,.row 79 2 (List.map RN.e out38))]⟩) (fun h=>?_) ?_
  ·refine wB ?_;refine wM (fun (⟨v69,out70⟩:Int × List RN) (_:Unit)=>⟨78,[(6,.row 6 (out70.length)),(38,.row 3 (some2.length)),(39,.d (.v (.int .i64 (some2.length:Int)))),(40,.d (.v (.int .i64 v69)))],[(3,.row 79 2 (List.map RN.e s34)),(6,.row 79 2 (List.map RN.e out70))]⟩) () h (sO rfl (.cons rfl rfl<|.cons rfl (by first | rfl | (simp;done) | (congr 1;first | (simp;done) | (simp;omega) | omega))<|.c2 rfl rfl rfl rfl<|.nil) (.c2 rfl rfl rfl rfl<|.nil)) ?_;rintro N ⟨v69,out70⟩ _ h;refine wQ<|wR<|ws (LR.lss rfl rfl)<|wN<|wQ ?_;refine xD h rfl (fun _ h=>?_) (fun _ h=>?_)
   ·refine wK<|wQ ?_;refine wJ (zH h) (fun (out72:List RN) (_:Unit)=>⟨78,[(6,.row 6 (out72.length)),(38,.row 3 (some2.length)),(39,.d (.v (.int .i64 (some2.length:Int)))),(40,.d (.v (.int .i64 v69)))],[(3,.row 79 2 (List.map RN.e s34)),(6,.row 79 2 (List.map RN.e out72))]⟩) (fun h=>?_) ?_
    ·refine wB<|wQ<|wR ?_;obtain ⟨x73,hy74,h⟩:=zq h;refine ws (LR.idxRowT (L:=s34) (y:=x73) underlying61 sizeOf79 rfl (by first | (simp;done) | (simp;omega) | omega) rfl hy74) ?_;refine ws (LR.loadRpT (enc:=RN.e) (L:=s34) (y:=x73) isAgg79 sizeOf79 rfl rfl hy74.2)<|ws (LR.allocZ (cs:=[_,_]) zeroValue79 rfl rfl rfl rfl)<|ws (sB (ns:=[_,_]) sizeOf79 rfl rfl rfl rfl rfl rfl rfl)<|wN<|wQ<|wQ<|wR<|wm ?_;refine ws (LR.lenRow underlying61 rfl)<|ws (LR.subW rfl rfl)<|wa ?_;refine wN<|wQ ?_;refine wJ (zH h) (fun (v75:Bool) (_:Unit)=>⟨78,[(6,.row 6 (out70.length)),(8,.ref 8 0),(9,.d (.v (.int .i64 ((IntKind.i64.wrap ((out70.length:Int) - 1)))))),(38,.row 3 (some2.length)),(39,.d (.v (.int .i64 (some2.length:Int)))),(40,.d (.v (.int .i64 v69))),(59,.d (.v (.bool v75)))],[(3,.row 79 2 (List.map RN.e s34)),(6,.row 79 2 (List.map RN.e out70)),(8,.cells 79 [.d (.v (.int .u64 x73.lo)),.d (.v (.int .u64 x73.hi))])]⟩) (fun h=>?_) ?_
     ·refine wD (by kernel_rfl) (by kernel_rfl)<|qm ?_;refine qs (fun _ U W=>LR.geq U U)<|qm ?_;refine xQ (d:=49) h rfl (fun _ h=>?_) (fun _ h=>?_)
      ·refine qt (fun _ U W=>fR underlying79 rfl sizeOf29 (by decide) rfl U) ?_;refine qt (fun _ U W=>lD isAgg29 U (W rfl) rfl) ?_;refine qt (fun _ U W=>mV U) ?_;refine qt (fun _ U W=>mV U) ?_;obtain ⟨x77,hy78,h⟩:=zq h;refine qt (fun _ U W=>LR.idxRowT (L:=out70) (y:=x77) underlying61 sizeOf79 U rfl U hy78) ?_;refine qt (fun _ U W=>LR.fieldRp underlying79 rfl sizeOf29 (by decide) rfl U) ?_;refine qt (fun _ U W=>LR.loadRpF (enc:=RN.e) (L:=out70) (y:=x77) isAgg29 U (W rfl) hy78.2 rfl) ?_;refine qt (fun _ U W=>LR.addW U U) ?_;refine qt (fun _ U W=>LR.leq U U) ?_;refine qs (fun _ U W=>pT U U)<|qN ?_;exact ⟨(decide (x73.lo <= (IntKind.u64.wrap (x77.hi + 1)))),(),h,sO rfl (.c2 rfl rfl rfl rfl<|.cons rfl rfl<|.cons rfl (by first | rfl | (simp;done) | (congr 1;first | (simp;done) | (simp;omega) | omega))<|.c2 rfl rfl rfl rfl<|.cons rfl rfl<|.nil) (.c2 rfl rfl rfl rfl<|.cons rfl rfl<|.nil)⟩
      ·refine kF<|kF<|kF<|kF<|kF<|kF<|kF<|kF<|kF ?_;refine qs (fun _ U W=>pF U U)<|qN ?_;exact ⟨false,(),h,sO rfl (.c2 rfl rfl rfl rfl<|.cons rfl rfl<|.cons rfl (by first | rfl | (simp;done) | (congr 1;first | (simp;done) | (simp;omega) | omega))<|.c2 rfl rfl rfl rfl<|.cons rfl rfl<|.nil) (.c2 rfl rfl rfl rfl<|.cons rfl rfl<|.nil)⟩
     ·rintro v75 _ h;refine xD h rfl (fun _ h=>?_) (fun _ h=>?_)
      ·refine wQ<|wz (tl:=[(6,_),(8,_),(9,_),(38,_),(39,_),(40,_)]) (to:=[(3,_),(6,_),(8,_)]) ?_;refine PWc.regionE [⟨[60],[],[],[],[],[6],[],[]⟩,{ws:=[61]},⟨[62],[],[],[],[],[6],[],[]⟩,{ws:=[63]},⟨[64],[],[],[],[],[6],[],[]⟩,⟨[65],[],[],[],[],[6],[],[]⟩,⟨[66],[],[6],[],[],[],[],[]⟩,⟨[67],[],[],[],[],[8],[],[]⟩,⟨[68],[],[8],[],[],[],[],[]⟩,{ws:=[69]},⟨[70],[],[],[],[],[6],[],[]⟩,⟨[71],[],[],[],[],[6],[],[]⟩,⟨[],[6],[6],[],[],[],[],[]⟩] (by kernel_rfl) (by kernel_rfl) rfl<|km ?_;refine km ?_;refine km ?_;refine km ?_;obtain ⟨x80,hy81,h⟩:=zq h;refine kp (fun _ U W=>LR.idxRowT (L:=out70) (y:=x80) underlying61 sizeOf79 U rfl U hy81) ?_;refine kp (fun _ U W=>LR.fieldRp underlying79 rfl sizeOf29 (by decide) rfl U) ?_;refine kp (fun _ U W=>LR.loadRpF (enc:=RN.e) (L:=out70) (y:=x80) isAgg29 U (W rfl rfl) hy81.2 rfl) ?_;refine kp (fun _ U W=>fR underlying79 rfl sizeOf29 (by decide) rfl U) ?_;refine kp (fun _ U W=>lD isAgg29 U (W rfl rfl) rfl) ?_;refine kp (fun _ U W=>LR.maxI U U) ?_;obtain ⟨x82,hy83,h⟩:=zq h;refine kp (fun _ U W=>LR.idxRowT (L:=out70) (y:=x82) underlying61 sizeOf79 U rfl U hy83) ?_;refine kp (fun _ U W=>LR.fieldRp underlying79 rfl sizeOf29 (by decide) rfl U) ?_;refine ks (fun _ U W=>LR.storeRpT (enc:=RN.e) (L:=out70) (a:=x82) (b:=(⟨x82.lo,(max x80.hi x73.hi)⟩:RN)) sizeOf29 U U rfl rfl (W rfl rfl) hy83.2 rfl rfl)<|PQe.nil<|wZ ?_;exact ⟨(List.set out70 ((Int.toNat ((IntKind.i64.wrap ((out70.length:Int) - 1))))) (⟨x82.lo,(max x80.hi x73.hi)⟩:RN)),(),h,sO rfl (.cons rfl (by first | rfl | (simp;done) | (congr 1;first | (simp;done) | (simp;omega) | omega))<|.cons rfl (by first | rfl | (simp;done) | (congr 1;first | (simp;done) | (simp;omega) | omega))<|.c2 rfl rfl rfl rfl<|.nil) (.c2 rfl rfl rfl rfl<|.nil)⟩
      ·refine wK<|wR<|wm ?_;refine ws (lA (ps:=[_,_]) isAgg79 sizeOf79 rfl rfl rfl rfl)<|ws (LR.buildSliceD [.tmp 73] wd rfl rfl (.cons rfl rfl rfl<|.nil) (by decide) (by decide)) ?_;obtain ⟨hy84,h⟩:=zw h;refine ws (LR.appT (enc:=RN.e) (L:=out70) (R:=[x73]) [6,72] wd underlying61 rfl rfl rfl (Src.slT (enc:=RN.e) (R:=[x73]) rfl (fun _=>rfl)) (fun _=>rfl) hy84 rfl rfl)<|wa ?_;refine wN ?_;exact ⟨(out70 ++ [x73]),(),h,sO rfl (.cons rfl rfl<|.cons rfl (by first | rfl | (simp;done) | (congr 1;first | (simp;done) | (simp;omega) | omega))<|.c2 rfl rfl rfl rfl<|.nil) (.c2 rfl rfl rfl rfl<|.nil)⟩
    ·rintro out72 _ h;refine wR<|ws (LR.addW rfl rfl)<|wm ?_;refine wN ?_;exact ⟨((IntKind.i64.wrap (v69 + 1)),out72),(),h,sO rfl (.cons rfl rfl<|.cons rfl (by first | rfl | (simp;done) | (congr 1;first | (simp;done) | (simp;omega) | omega))<|.c2 rfl rfl rfl rfl<|.nil) (.c2 rfl rfl rfl rfl<|.nil)⟩
   ·refine wZ ?_;exact ⟨out70,(),h,sP⟩
  ·rintro out38 _ h;refine wQ<|wR<|wm ?_;refine wa ?_;refine wN<|wX ?_;cases h;exact ⟨.inr rfl,2,rfl,.inr ⟨6,_,rfl,(by simp),rfl⟩⟩

theorem Zx (x1:RN) (n2:Int) (r0:Int) (h:(vK x1 n2).wp (· = r0)):PFun prog 75 [.agg (List.map .d (RN.e x1)),.d (.v (.int .u64 n2))] (.d (.v (.int .i64 r0))):=by
 refine fI (sl:=[(0,_),(1,_)]) func75 rfl ntmps75 rfl rfl ?_;intro ctx hK;refine wQ<|wR<|ws (LR.box rfl rfl rfl rfl)<|wa ?_;refine wN<|wQ<|wR<|ws (fR underlying79 rfl sizeOf29 (by decide) rfl rfl)<|ws (lD isAgg29 rfl rfl rfl)<|wm ?_;obtain ⟨v3,hy4,h⟩:=zY h;refine xN (xx x1.hi n2 v3 hy4) call76<|wa ?_;refine wN<|wX ?_;cases h;exact xT


theorem yA (x1:List RN) (target2:Int) (r0:Int × Bool) (h:(zI x1 target2).wp (· = r0)):PFun prog 74 [.d (.sl (List.map RN.e x1)),.d (.v (.int .u64 target2)),.d (.v (.func (.func 75) #[] #[]))] (.tup [.d (.v (.int .i64 r0.1)),.d (.v (.bool r0.2))]):=by
 refine fI (sl:=[(0,_),(1,_),(2,_)]) func74 rfl ntmps74 rfl rfl ?_;intro ctx hK;refine wQ<|wR<|wa ?_;refine wa ?_;refine wN<|wQ<|wR<|wm ?_;refine ws (lM (enc:=RN.e) (L:=x1) underlying61 rfl)<|wa ?_;refine wN<|wQ<|wR<|wm ?_;refine wa ?_;refine wa ?_;refine wN<|wQ ?_;refine wJ (zH h) (fun (i3:Int) (_:Unit)=>⟨49,[(0,.d (.sl (List.map RN.e x1))),(1,.d (.v (.int .u64 target2))),(2,.d (.v (.func (.func 75) #[] #[]))),(8,.d (.v (.int .i64 (x1.length:Int)))),(9,.d (.v (.int .i64 i3)))],[]⟩) (fun h=>?_) ?_
 ·refine wB<|wM (fun (⟨i18,j19⟩:Int × Int) (_:Unit)=>⟨49,[(0,.d (.sl (List.map RN.e x1))),(1,.d (.v (.int .u64 target2))),(2,.d (.v (.func (.func 75) #[] #[]))),(8,.d (.v (.int .i64 (x1.length:Int)))),(9,.d (.v (.int .i64 i18))),(10,.d (.v (.int .i64 j19)))],[]⟩) () h (sP) ?_;rintro N ⟨i18,j19⟩ _ h;refine wQ<|wQ<|wR<|wm ?_;refine wm ?_;refine ws (LR.lss rfl rfl)<|wN ?_;refine xD h rfl (fun _ h=>?_) (fun _ h=>?_)
  ·refine wK<|wB<|wQ<|wR<|wm ?_;refine wm ?_;refine ws (LR.addW rfl rfl) ?_;refine ws (LR.convInt underlying112 (by rw [underlying3];rfl) rfl rfl) ?_;refine ws (LR.shr rfl rfl (by decide) rfl) ?_;refine ws (LR.convInt underlying3 (by rw [underlying112];rfl) rfl rfl) ?_;refine wa ?_;refine wN<|wQ<|wR<|wm ?_;refine wm ?_;refine wm ?_;obtain ⟨x21,hy22,h⟩:=zq h;refine ws (iX (enc:=RN.e) (L:=x1) (y:=x21) underlying61 sizeOf79 rfl rfl hy22 (fun _=>rfl))<|ws (lE (ys:=[_,_]) isAgg79 sizeOf79 rfl rfl rfl)<|wy (tl:=[(0,_),(1,_),(2,_),(8,_),(9,_),(10,_),(11,_),(24,_),(28,_)]) (to:=[]) ?_;refine wm ?_;obtain ⟨v23,hy24,h⟩:=zY h;refine xN (Zx x21 target2 v23 hy24) call75<|ws (LR.lss rfl rfl)<|wN ?_;refine xD h rfl (fun _ h=>?_) (fun _ h=>?_)
   ·refine wR<|wm ?_;refine ws (LR.addW rfl rfl)<|wa ?_;refine wN ?_;exact ⟨((IntKind.i64.wrap (((IntKind.i64.wrap ((Int.fdiv ((IntKind.u64.wrap (IntKind.i64.wrap (i18 + j19)))) (2 ^ 1))))) + 1)),j19),(),h,sP⟩
   ·refine wR<|wm ?_;refine wa ?_;refine wN ?_;exact ⟨(i18,(IntKind.i64.wrap ((Int.fdiv ((IntKind.u64.wrap (IntKind.i64.wrap (i18 + j19)))) (2 ^ 1))))),(),h,sP⟩
  ·refine wZ ?_;exact ⟨i18,(),h,sP⟩
 ·rintro i3 _ h;refine wQ ?_;refine wJ (zH h) (fun (v26:Bool) (_:Unit)=>⟨49,[(6,.d (.v (.int .i64 i3))),(7,.d (.v (.bool v26)))],[]⟩) (fun h=>?_) ?_
  ·refine wR<|wm ?_;refine wm ?_;refine wm ?_;refine ws (LR.lss rfl rfl)<|wm ?_;refine xG (d:=39) h rfl (fun _ h=>?_) (fun _ h=>?_)
   ·refine wt (mV rfl)<|wt (mV rfl)<|wt (mV rfl) ?_;obtain ⟨x28,hy29,h⟩:=zq h;refine wt (iX (enc:=RN.e) (L:=x1) (y:=x28) underlying61 sizeOf79 rfl rfl hy29 (fun _=>rfl))<|wt (lE (ys:=[_,_]) isAgg79 sizeOf79 rfl rfl rfl)<|wt (mV rfl) ?_;obtain ⟨v30,hy31,h⟩:=zY h;refine wt (cN (Zx x28 target2 v30 hy31) rfl call75 rfl rfl rfl rfl)<|wt (eQ rfl rfl)<|ws (pT rfl rfl)<|wa ?_;refine wy (tl:=[(6,_),(48,_)]) (to:=[]) ?_;refine wa ?_;refine wN ?_;exact ⟨(decide (v30 = 0)),(),h,sP⟩
   ·refine wf<|wf<|wf<|wf<|wf<|wf<|wf<|wf<|ws (pF rfl rfl) ?_;refine wa ?_;refine wy (tl:=[(6,_),(48,_)]) (to:=[]) ?_;refine wa ?_;refine wN ?_;exact ⟨false,(),h,sP⟩
  ·rintro v26 _ h;refine wX ?_;cases h;exact ⟨.inr rfl,_,.cons (.tmp rfl rfl)<|.cons (.tmp rfl rfl)<|.nil,rfl⟩

theorem JH (l1:List RN) (n2:Int) (r0:Bool) (h:(Xp l1 n2).wp (· = r0)):PFun prog 52 [.d (.sl (List.map RN.e l1)),.d (.v (.int .u64 n2))] (.d (.v (.bool r0))):=by
 refine fI (sl:=[(0,_),(1,_)]) func52 rfl ntmps52 rfl rfl ?_;intro ctx hK;refine wQ<|wR<|wa ?_;refine wN<|wQ<|wR<|wm ?_;obtain ⟨v3,hy4,h⟩:=zY h;refine ws (LR.rowN (uw l1 v3 hy4) rfl call73 rfl rfl rfl rfl)<|wa ?_;refine wN<|wQ<|wR<|wm ?_;refine wm ?_;obtain ⟨v5,hy6,h⟩:=zY h;refine PWl.frz [0,8,10] hK (.cons rfl<|.cons rfl<|.cons rfl<|.nil) rfl (by simp) ?_;refine xN (yA v3 n2 v5 hy6) call74<|wm ?_;refine ws (LR.extract rfl rfl)<|ws (LR.extract rfl rfl)<|wa ?_;refine wa ?_;refine wN<|wQ ?_;refine wJ (zH h) (fun (v7:Bool) (_:Unit)=>⟨28,[(4,.d (.v (.bool v7)))],[]⟩) (fun h=>?_) ?_
 ·refine wR<|wm ?_;refine wm ?_;refine ws (lM (enc:=RN.e) (L:=v3) underlying61 rfl)<|ws (LR.lss rfl rfl)<|wm ?_;refine xG (d:=19) h rfl (fun _ h=>?_) (fun _ h=>?_)
  ·refine wt (mV rfl)<|wy (tl:=[(1,_),(4,_),(5,_),(19,_),(20,_)]) (to:=[]) ?_;refine wt (mV rfl) ?_;obtain ⟨x9,hy10,h⟩:=zq h;refine wt (iX (enc:=RN.e) (L:=v3) (y:=x9) underlying61 sizeOf79 rfl rfl hy10 (fun _=>rfl))<|wt (fE underlying79 rfl sizeOf29 (by decide) rfl rfl)<|wt (LR.loadEp isAgg29 rfl rfl)<|wt (mV rfl)<|wt (LR.leq rfl rfl)<|ws (pT rfl rfl)<|wa ?_;refine wN ?_;exact ⟨(decide (x9.lo <= n2)),(),h,sP⟩
  ·refine wf<|wy (tl:=[(1,_),(4,_),(5,_),(19,_),(20,_)]) (to:=[]) ?_;refine wf<|wf<|wf<|wf<|wf<|wf<|ws (pF rfl rfl)<|wa ?_;refine wN ?_;exact ⟨false,(),h,sP⟩
 ·rintro v7 _ h;refine wX ?_;cases h;exact xT

theorem Wi (c1:List PT) (r0:List (Int × List RN)) (h:(YT c1).wp (· = r0)):PMap prog 59 [.d (.sl (List.map PT.e c1))] [.u16] false (zN kI (eL RN.e) r0):=by
 refine PMap.intro (sl:=[(0,_)]) func59 rfl ntmps59 rfl rfl ?_;intro ctx hK;refine wQ<|wR<|wa ?_;refine wN<|wQ<|wR<|ws (LR.makeMap [.u16] false rfl)<|wa ?_;refine wN<|wQ<|wQ<|wR<|wm ?_;refine ws (lM (enc:=PT.e) (L:=c1) underlying42 rfl)<|wm ?_;refine wN<|wB ?_;obtain ⟨hy10,h⟩:=zw h;have hN:=hy10.1;refine PWc.loopRows (bid:=0) (N:=c1.length) (mid:=6) (n:=28) (ks:=[.u16]) (e:=79) (k:=2) (fun i=>[(3,.mp 6),(7,.d (.sl (List.map PT.e c1))),(8,.d (.v (.int .i64 (c1.length:Int)))),(9,.d (.v (.int .i64 (i:Int))))]) (fun i=>xZ kI RN.e (AL.grow [] ((List.take i c1).filterMap zU))) [(3,.mp 6)] [] 0 hK (by decide) (fun i x hx id h=>by simp only [List.mem_cons,List.not_mem_nil,or_false] at hx;rcases hx with rfl | rfl | rfl | rfl <;> first | (simp [PV.has] at h;done) | (simp [PV.has] at h;exact h.symm) | (simp [PV.has] at h;omega)) rfl (fun i=>Xf (fun x d hd=>by simp only [RN.e,List.mem_cons,List.not_mem_nil,or_false] at hd;rcases hd with rfl | rfl <;> exact ⟨_,rfl⟩) _) (sP) (fun i hi=>?_) (zN kI (eL RN.e) (AL.grow ([]:List (Int × List RN)) (List.filterMap zU c1))) (by simp only [List.take_length];exact qI _) (fun ctx vm bs ck=>?_) (fun bs ck=>?_)
 ·obtain ⟨p,hp⟩:∃ p,c1[i]? = some p:=⟨_,List.getElem?_eq_getElem hi⟩
  have hidx:(0:Int) <= (i:Int) /\ c1[(i:Int).toNat]? = some p:=⟨by omega,by simpa using hp⟩
  have htk:=AL.grow_take hp zU;have hwi:=zWa (i:=i) (by omega)
  by_cases hd:0 < p.dev
  ·have hf:zU p = some (p.dev,p.runs):=by simp [zU,hd]
   have hbd:=AL.grow_bound hy10 hp hf;rw [hf] at htk;rcases XK (eK:=kI) (enc:=RN.e) Qy (p.dev) (AL.grow [] ((List.take i c1).filterMap zU)) with ⟨j,l,h1,h2,h3,h4⟩ | ⟨h1,h2,h3⟩
   ·simp only [h3] at hbd;refine .found (nl:=l.length) (nl':=(List.length (l ++ p.runs))) (l:=(List.map RN.e l)) (l':=(List.map RN.e (l ++ p.runs))) (by simp) (by simp) h2 (by rw [htk];simp only [AL.grow,Option.toList,List.foldl] at h3 h4 ⊢;rw [h3];exact h4 _) fun ctx vm bs ck hvm=>?_
    have hpf:yO (kI (p.dev)) (vO vm) 0 = some j:=by rw [Yk hvm];exact h1
    have h:(M.bind (M.idx c1 (i:Int)) fun x2=>M.yY ((l.length + x2.runs.length) * 16 <= 140737488355328)<|M.pure ()).wp (fun _=>True):=⟨p,hidx,hbd,trivial⟩
    refine wQ<|wR<|ws (LR.lss rfl rfl)<|wN<|wQ<|PWc.condT (congrArg (fun b=>some (PV.d (.v (.bool b)))) (decide_eq_true (Int.ofNat_lt.2 hi)))<|wK<|wQ<|wB ?_;refine wQ<|wR ?_;obtain ⟨x2,hy3,h⟩:=zq h;have hE:=idxU hy3 hidx;subst hE;refine ws (iX (enc:=PT.e) (L:=c1) (y:=x2) underlying42 sizeOf63 rfl rfl hy3 (fun _=>rfl))<|ws (lE (ys:=[_,_]) isAgg63 sizeOf63 rfl rfl rfl)<|ws (LR.allocZ (cs:=[_,_]) zeroValue63 rfl rfl rfl rfl)<|ws (sB (ns:=[_,_]) sizeOf63 rfl rfl rfl rfl rfl rfl rfl)<|wN<|wQ<|wR<|ws (fR underlying63 rfl sizeOf28 (by decide) rfl rfl)<|ws (lD isAgg28 rfl rfl rfl) ?_;refine ws (LR.gtr rfl rfl)<|wN<|PWc.condT (congrArg (fun b=>some (PV.d (.v (.bool b)))) (decide_eq_true hd))<|wz (tl:=[(3,_),(5,_),(7,_),(8,_),(9,_)]) (to:=[(5,_),(6,_),(50,_)]) ?_;refine PWc.regionE [⟨[16],[],[],[],[],[6],[],[]⟩,⟨[17],[],[],[],[],[5],[],[]⟩,⟨[18],[],[5],[],[],[],[],[]⟩,⟨[19],[],[],[],[],[6],[],[]⟩,⟨[20],[],[],[],[],[5],[],[]⟩,⟨[21],[],[5],[],[],[],[],[]⟩,⟨[22],[],[6],[],[],[50],[],[]⟩,⟨[23],[],[],[],[],[5],[],[]⟩,⟨[24],[],[5],[],[],[],[],[]⟩,⟨[22,25],[6,50],[6,50],[],[(50,[22])],[50],[],[6]⟩,⟨[],[6],[6,50],[],[],[],[50],[]⟩] (by kernel_rfl) (by kernel_rfl) rfl<|km ?_;refine kp (fun _ U W=>fR underlying63 rfl sizeOf28 (by decide) rfl U) ?_;refine kp (fun _ U W=>lD isAgg28 U (W rfl rfl) rfl)<|km ?_;refine kp (fun _ U W=>fR underlying63 rfl sizeOf28 (by decide) rfl U) ?_;refine kp (fun _ U W=>lD isAgg28 U (W rfl rfl) rfl) ?_;refine kp (fun _ U W=>LR.lookupP underlying86 UD U (W rfl rfl) U rfl hpf rfl) ?_;refine kp (fun _ U W=>fR underlying63 rfl sizeOf61 (by decide) rfl U) ?_;refine kp (fun _ U W=>lD isAgg61 U (W rfl rfl) rfl) ?_;obtain ⟨hy4,h⟩:=zw h;refine PQe.stepX [22] (fun _ U W ha=>LR.appP (enc:=RN.e) (L:=l) (R:=x2.runs) [22] wd underlying61 (U rfl rfl) rfl (W rfl rfl) (W rfl rfl) rfl (fun _ h1 h2=>Src.slT (enc:=RN.e) (R:=x2.runs) (zVa h1 h2 (U rfl rfl)) (fun _=>rfl)) (fun _=>rfl) hy4 rfl ha) rfl rfl (.inl rfl) rfl ?_;refine ks (fun _ U W=>LR.mapUpdateP underlying86 UD U (W rfl rfl) U rfl rfl U hpf)<|PQe.nil<|wR<|ws (LR.addW rfl rfl)<|wm ?_;refine wN ?_;exact ⟨rfl,sO rfl (.c2 rfl rfl rfl rfl<|.cons rfl rfl<|.cons rfl (congrArg (fun z=>PV.d (.v (.int .i64 z))) hwi)<|.nil) (.c2 rfl rfl rfl rfl<|.nil)⟩
   ·simp only [h2,List.length_nil,Nat.zero_add] at hbd;refine .fresh (q:=25) (nl':=p.runs.length) (l':=(List.map RN.e p.runs)) (by simp) (by decide) (by rw [htk];simp only [AL.grow,Option.toList,List.foldl] at h2 h3 ⊢;rw [h2];exact h3 _) fun ctx vm bs ck hvm=>?_
    have hpf:yO (kI (p.dev)) (vO vm) 0 = none:=by rw [Yk hvm];exact h1
    have h:(M.bind (M.idx c1 (i:Int)) fun x5=>M.yY (x5.runs.length * 16 <= 140737488355328)<|M.pure ()).wp (fun _=>True):=⟨p,hidx,hbd,trivial⟩
    refine wQ<|wR<|ws (LR.lss rfl rfl)<|wN<|wQ<|PWc.condT (congrArg (fun b=>some (PV.d (.v (.bool b)))) (decide_eq_true (Int.ofNat_lt.2 hi)))<|wK<|wQ<|wB ?_;refine wQ<|wR ?_;obtain ⟨x5,hy6,h⟩:=zq h;have hE:=idxU hy6 hidx;subst hE;refine ws (iX (enc:=PT.e) (L:=c1) (y:=x5) underlying42 sizeOf63 rfl rfl hy6 (fun _=>rfl))<|ws (lE (ys:=[_,_]) isAgg63 sizeOf63 rfl rfl rfl)<|ws (LR.allocZ (cs:=[_,_]) zeroValue63 rfl rfl rfl rfl)<|ws (sB (ns:=[_,_]) sizeOf63 rfl rfl rfl rfl rfl rfl rfl)<|wN<|wQ<|wR<|ws (fR underlying63 rfl sizeOf28 (by decide) rfl rfl)<|ws (lD isAgg28 rfl rfl rfl) ?_;refine ws (LR.gtr rfl rfl)<|wN<|PWc.condT (congrArg (fun b=>some (PV.d (.v (.bool b)))) (decide_eq_true hd))<|wz (tl:=[(3,_),(5,_),(7,_),(8,_),(9,_)]) (to:=[(5,_),(6,_)]) ?_;refine PWc.regionE [⟨[16],[],[],[],[],[6],[],[]⟩,⟨[17],[],[],[],[],[5],[],[]⟩,⟨[18],[],[5],[],[],[],[],[]⟩,⟨[19],[],[],[],[],[6],[],[]⟩,⟨[20],[],[],[],[],[5],[],[]⟩,⟨[21],[],[5],[],[],[],[],[]⟩,⟨[22],[],[6],[],[],[],[],[]⟩,⟨[23],[],[],[],[],[5],[],[]⟩,⟨[24],[],[5],[],[],[],[],[]⟩,⟨[25],[25],[],[25],[],[25],[],[]⟩,⟨[],[6],[6,25],[],[],[],[25],[]⟩] (by kernel_rfl) (by kernel_rfl) rfl<|km ?_;refine kp (fun _ U W=>fR underlying63 rfl sizeOf28 (by decide) rfl U) ?_;refine kp (fun _ U W=>lD isAgg28 U (W rfl rfl) rfl)<|km ?_;refine kp (fun _ U W=>fR underlying63 rfl sizeOf28 (by decide) rfl U) ?_;refine kp (fun _ U W=>lD isAgg28 U (W rfl rfl) rfl) ?_;refine kp (fun _ U W=>LR.lookupPN underlying86 UD U (W rfl rfl) U rfl zeroValue61 rfl hpf) ?_;refine kp (fun _ U W=>fR underlying63 rfl sizeOf61 (by decide) rfl U) ?_;refine kp (fun _ U W=>lD isAgg61 U (W rfl rfl) rfl) ?_;obtain ⟨hy7,h⟩:=zw h;refine PQe.stepN (fun _ U W hf=>LR.appNilX (enc:=RN.e) (R:=x5.runs) wd underlying61 (U rfl rfl) hf (Src.slT (enc:=RN.e) (R:=x5.runs) (evObjs (U rfl rfl)) (fun _=>rfl)) (fun _=>rfl) hy7 rfl (Wh hf)) rfl (.inl rfl) rfl ?_;refine ks (fun _ U W=>LR.mapUpdatePN underlying86 UD U (W rfl rfl) U rfl rfl U hpf)<|PQe.nil<|wR<|ws (LR.addW rfl rfl)<|wm ?_;refine wN ?_;exact ⟨rfl,sO rfl (.c2 rfl rfl rfl rfl<|.cons rfl rfl<|.cons rfl (congrArg (fun z=>PV.d (.v (.int .i64 z))) hwi)<|.nil) (.c2 rfl rfl rfl rfl<|.nil)⟩
  ·have hf:zU p = none:=by simp [zU,hd]
   rw [hf] at htk;refine .skip (by rw [htk];rfl) fun ctx vm bs ck=>?_
   have h:(M.bind (M.idx c1 (i:Int)) fun x8=>M.pure ()).wp (fun _=>True):=⟨p,hidx,trivial⟩
   refine wQ<|wR<|ws (LR.lss rfl rfl)<|wN<|wQ<|PWc.condT (congrArg (fun b=>some (PV.d (.v (.bool b)))) (decide_eq_true (Int.ofNat_lt.2 hi)))<|wK<|wQ<|wB ?_;refine wQ<|wR ?_;obtain ⟨x8,hy9,h⟩:=zq h;have hE:=idxU hy9 hidx;subst hE;refine ws (iX (enc:=PT.e) (L:=c1) (y:=x8) underlying42 sizeOf63 rfl rfl hy9 (fun _=>rfl))<|ws (lE (ys:=[_,_]) isAgg63 sizeOf63 rfl rfl rfl)<|ws (LR.allocZ (cs:=[_,_]) zeroValue63 rfl rfl rfl rfl)<|ws (sB (ns:=[_,_]) sizeOf63 rfl rfl rfl rfl rfl rfl rfl)<|wN<|wQ<|wR<|ws (fR underlying63 rfl sizeOf28 (by decide) rfl rfl)<|ws (lD isAgg28 rfl rfl rfl) ?_;refine ws (LR.gtr rfl rfl)<|wN<|PWc.condF (congrArg (fun b=>some (PV.d (.v (.bool b)))) (decide_eq_false hd))<|wK<|wR<|ws (LR.addW rfl rfl)<|wm ?_;refine wN ?_;exact ⟨rfl,sO rfl (.c2 rfl rfl rfl rfl<|.cons rfl rfl<|.cons rfl (congrArg (fun z=>PV.d (.v (.int .i64 z))) hwi)<|.nil) (.cons rfl rfl<|.nil)⟩
 ·have h:(M.pure ()).wp (fun _=>True):=trivial;refine wQ<|wR<|ws (LR.lss rfl rfl)<|wN<|wQ<|PWc.condF (congrArg (fun b=>some (PV.d (.v (.bool b)))) (decide_eq_false (by omega))) ?_;refine wZ ?_;exact ⟨rfl,sP⟩
 ·refine wQ<|wR<|wm ?_;refine wa ?_;refine wN<|wX ?_;cases h;exact ⟨.inr rfl,2,6,_,_,rfl,rfl,rfl⟩

theorem JI (c1:List PT) (dev2:Int) (r0:List RN) (h:(Xq c1 dev2).wp (· = r0)):PRow prog 53 [.d (.sl (List.map PT.e c1)),.d (.v (.int .u16 dev2))] 79 2 (List.map RN.e r0):=by
 refine PRow.intro (sl:=[(0,_),(1,_)]) func53 rfl ntmps53 rfl rfl ?_;intro ctx hK;refine wQ<|wR<|ws (aR 79 2 rfl)<|wN<|wQ<|wR<|wm ?_;obtain ⟨v3,hy4,h⟩:=zY h;refine PWl.mapN (Wi c1 v3 hy4) rfl call59 rfl rfl rfl rfl rfl (fun bs5 ck5 _=>?_);refine wm ?_;refine ws (LR.getO (eV:=(eL RN.e)) (zv:=([]:List RN)) (q:=dev2) (m:=v3) Qy underlying86 UD zeroValue61 (zRd1 (.slice none 0 0) rfl) rfl rfl rfl rfl rfl rfl) ?_;obtain ⟨v6,hy7,h⟩:=zY h;refine ws (LR.rowN (uw (AL.getZ v3 dev2 ([]:List RN)) v6 hy7) rfl call73 rfl rfl rfl rfl)<|wy (tl:=[(0,_),(1,_),(5,_),(6,_),(7,_),(8,_),(9,_)]) (to:=[(6,_),(9,_)]) ?_;refine wa ?_;refine wN<|wX ?_;cases h;exact ⟨.inr rfl,4,rfl,.inr ⟨9,_,rfl,(by simp),rfl⟩⟩

theorem Zg (c1:List PT) (d2:DT) (r0:Bool) (h:(uO c1 d2).wp (· = r0)):PFun prog 27 [.d (.sl (List.map PT.e c1)),.agg (List.map .d (DT.e d2))] (.d (.v (.bool r0))):=by
 refine fI (sl:=[(0,_),(1,_)]) func27 rfl ntmps27 rfl rfl ?_;intro ctx hK;refine wQ<|wR<|ws (LR.box rfl rfl rfl rfl)<|wa ?_;refine wN<|wQ ?_;refine wJ (zH h) (fun (v3:Bool) (_:Unit)=>⟨17,[(4,.d (.v (.bool v3)))],[]⟩) (fun h=>?_) ?_
 ·refine wD (by kernel_rfl) (by kernel_rfl) ?_;refine qs (fun _ U W=>fR underlying31 rfl sizeOf28 (by decide) rfl U) ?_;refine qs (fun _ U W=>lD isAgg28 U (W rfl) rfl) ?_;refine qs (fun _ U W=>LR.gtr U U)<|qm ?_;refine xQ (d:=8) h rfl (fun _ h=>?_) (fun _ h=>?_)
  ·refine qt (fun _ U W=>mV U) ?_;refine qt (fun _ U W=>fR underlying31 rfl sizeOf28 (by decide) rfl U) ?_;refine qt (fun _ U W=>lD isAgg28 U (W rfl) rfl) ?_;obtain ⟨v5,hy6,h⟩:=zY h;refine qt (fun _ U W=>cN (PRow.fun (JI c1 d2.dev v5 hy6)) U call53 (vc (fun a b=>U a b) rfl rfl) rfl rfl rfl) ?_;refine qt (fun _ U W=>fR underlying31 rfl sizeOf29 (by decide) rfl U) ?_;refine qt (fun _ U W=>lD isAgg29 U (W rfl) rfl) ?_;obtain ⟨v7,hy8,h⟩:=zY h;refine qt (fun _ U W=>cN (JH v5 d2.n v7 hy8) U call52 (vc (fun a b=>U a b) rfl rfl) rfl rfl rfl) ?_;refine qs (fun _ U W=>pT U U) ?_;refine qs (fun _ U W=>aS U)<|qN ?_;exact ⟨v7,(),h,sP⟩
  ·refine kF<|kF<|kF<|kF<|kF<|kF<|kF ?_;refine qs (fun _ U W=>pF U U) ?_;refine qs (fun _ U W=>aS U)<|qN ?_;exact ⟨false,(),h,sP⟩
 ·rintro v3 _ h;refine wX ?_;cases h;exact xT
end Go.Proofs


/- Texts that the walks and laws lean on, side by side. -/
import Derived.WalkSpells
import Derived.Test.YthcldkmidhhgbaaProg
import Derived.KernelRfl
import Derived.Shelf.SlGeneric
import Derived.Shelf.SlLaysF0
import Derived.Ground.SlsfProg
import Derived.Test.YthcldkmidhhgbaaAPl2
import Derived.Test.YthcldkmidhhgbaaAPl3
set_option linter.unusedVariables false
set_option linter.unusedSimpArgs false
namespace Go.Ep
open Go.RowKit
section
variable {ctx : Ctx} {s : PState}
/-- An object is said otherwise. -/
theorem Sub.obj {id : Nat} {o o' : Ob} (hl : look s.objs id = some o) (hob : ∀ (w : World) (g : Ghost) (S : Nat → Prop), ObRd w g S id o → ObRd w g S id o') : Sub ctx s { s with objs := putO id o' s.objs } := by
  rintro a w ⟨g, h1⟩
  refine ⟨g, ?_⟩
  have hF : ∀ b, Free ctx g s.objs b → Free ctx g (putO id o' s.objs) b := fun b hb => ⟨hb.1, fun i o2 n ho hgi => by
    rw [look_putO] at ho
    by_cases ei : i = id
    · subst ei; exact hb.2 i _ n hl hgi
    · rw [if_neg ei] at ho; exact hb.2 i o2 n ho hgi⟩
  have hst : Stays w w (Free ctx g s.objs) := ⟨Nat.le_refl _, fun _ _ _ => rfl⟩
  have hlk : ∀ i o2, look (putO id o' s.objs) i = some o2 → ∃ o3, look s.objs i = some o3 := fun i o2 ho => by
    rw [look_putO] at ho
    by_cases ei : i = id
    · subst ei; exact ⟨_, hl⟩
    · rw [if_neg ei] at ho; exact ⟨_, ho⟩
  refine ⟨h1.defers, h1.size, fun i p hp => (h1.slots i p hp).keep hst (fun b hb _ => hF b hb) (fun _ _ => rfl), fun i o2 ho => ?_, fun i i2 o2 o3 b n m ho ho2 hgi hgi2 => ?_, fun i o2 b n ho hgi => ?_, h1.os, h1.tape, h1.output, h1.grows, h1.keep⟩
  · rw [look_putO] at ho
    by_cases ei : i = id
    · subst ei
      rw [if_pos rfl] at ho
      cases ho
      exact hob _ _ _ ((h1.objs i _ hl).keep hst (fun b hb _ => hF b hb) (fun _ _ _ => rfl) rfl (fun _ _ => rfl))
    · rw [if_neg ei] at ho
      exact (h1.objs i o2 ho).keep hst (fun b hb _ => hF b hb) (fun _ _ _ => rfl) rfl (fun _ _ => rfl)
  · obtain ⟨o4, e4⟩ := hlk i o2 ho
    obtain ⟨o5, e5⟩ := hlk i2 o3 ho2
    exact h1.inj i i2 o4 o5 b n m e4 e5 hgi hgi2
  · obtain ⟨o4, e4⟩ := hlk i o2 ho
    exact h1.own i o4 b n e4 hgi
theorem Sub.mapF {id : Nat} {nl : Bool} {ks : List IntKind} {ag : Bool} {m : List (List Int × List DV)} {bs : List Nat} {ck : Nat} (hl : look s.objs id = some (.mapN nl ks ag m bs ck)) (hn : nl = false) : Sub ctx s { s with objs := putO id (.map ks ag m bs ck) s.objs } :=
  Sub.obj hl fun w g S h => by
    subst hn
    cases h with
    | mapN _ _ _ _ _ blk n es h hh hm => exact .map _ _ _ _ _ blk n es h hh hm
theorem Sub.mapToN {id : Nat} {ks : List IntKind} {ag : Bool} {m : List (List Int × List DV)} {bs : List Nat} {ck : Nat} (hl : look s.objs id = some (.map ks ag m bs ck)) : Sub ctx s { s with objs := putO id (.mapN false ks ag m bs ck) s.objs } :=
  Sub.obj hl fun w g S h => by
    cases h with
    | map _ _ _ _ _ blk n es h hh hm => exact .mapN _ _ _ _ _ blk n es h hh hm
end
section
variable {P : Program} {ctx : Ctx} {Q : PQ} {s : PState}
variable {dst : Option Tmp} {ty : TypeId} {pos : String} {after : Array Edge} {gd : Option (Nat × Bool)}
variable {id : Nat} {nl : Bool} {ks : List IntKind} {ag : Bool} {m : List (List Int × List DV)} {bs : List Nat} {ck : Nat}
/-- What a nil map has. -/
theorem PWc.mapNil {c : Code} (hl : look s.objs id = some (.mapN nl ks ag m bs ck)) (h : (nl = true → m = [] ∧ bs = []) → PWc P ctx c Q s) : PWc P ctx c Q s := fun a w hr => by
  refine h ?_ a w hr
  obtain ⟨g, hg⟩ := hr
  intro hn
  subst hn
  cases hg.objs id _ hl with
  | mapNil => exact ⟨rfl, rfl⟩
theorem PWl.mapNil {ops : Array Oper} {l : List Oper} (hl : look s.objs id = some (.mapN nl ks ag m bs ck)) (h : (nl = true → m = [] ∧ bs = []) → PWl P ctx ops Q l s) : PWl P ctx ops Q l s := fun a w hr => by
  refine h ?_ a w hr
  obtain ⟨g, hg⟩ := hr
  intro hn
  subst hn
  cases hg.objs id _ hl with
  | mapNil => exact ⟨rfl, rfl⟩
section
variable {x kx : Operand} {t kt et : TypeId} {ns : List Int} {z : Value} {zs : List DV} {p : PV}
  (hu : P.underlying t = some (.map kt et)) (K : KeyOK P kt ks) (hz : ∀ w, (zeroValue et).run P w = .ok z w) (hzr : ∀ (w : World) (g : Ghost) (S : Nat → Prop), Rd w g S (elP ag zs) z) (hk : s.ev kx = some (keyP ks ns)) (hn : ns.length = ks.length) (hp : elP ag ((mget m ns).getD zs) = p)
  (hx : s.ev x = some (.mp id)) (hl : look s.objs id = some (.mapN nl ks ag m bs ck))
include hu K hz hzr hk hn hp hx hl
theorem LR.lookupOkN : Local P ctx ⟨dst, .lookup t x kx true, ty, pos, after, gd⟩ s (s.putD dst (.tup [p, .d (.v (.bool (mget m ns).isSome))])) :=
  local_pure (o := ⟨dst, .lookup t x kx true, ty, pos, after, gd⟩) fun a w g hg => by
    have h := hg.ev hx
    generalize hv : a.eval x = v at h
    have fin : ∀ v, Rd w g (Free ctx g s.objs) p v → Rd w g (Free ctx g s.objs) (.tup [p, .d (.v (.bool (mget m ns).isSome))]) (.tuple [v, .bool (mget m ns).isSome].toArray) := fun v h2 => .tup _ [v, .bool (mget m ns).isSome] rfl (fun i q u hq hu => by
      match i with
      | 0 => simp at hq hu; subst hq; subst hu; exact h2
      | 1 => simp at hq hu; subst hq; subst hu; exact .d (.v _ rfl)
      | _ + 2 => simp at hq)
    cases h with
    | mpNil _ hgn =>
      cases hg.objs id _ hl with
      | mapN _ _ _ _ _ blk' n' es h' hh hm => rw [hgn] at h'; cases h'
      | mapNil =>
        refine ⟨_, ?_, fin z (hp ▸ hzr w g _)⟩
        simp only [execOp, hv, keyP_eq (hg.ev hk), Sem.run_bind, run_lookup_nil (w := w) hu K hn hz true, Result.andThen_ok, Sem.run_pure]
        rfl
    | mp _ blk n hgi =>
      cases hg.objs id _ hl with
      | mapNil _ _ _ h' => rw [hgi] at h'; cases h'
      | mapN _ _ _ _ _ blk' n' es h' hh hm =>
        rw [hgi] at h'; cases h'
        obtain ⟨v, h1, h2⟩ := run_lookup (g := g) hu K hn hh hm hz (hzr w g _) true
        refine ⟨_, ?_, fin v (hp ▸ h2)⟩
        simp only [execOp, hv, keyP_eq (hg.ev hk), Sem.run_bind, h1, Result.andThen_ok, Sem.run_pure]
        rfl
end
theorem LR.deleteN {x kx : Operand} {t kt et : TypeId} {ats : Array TypeId} {ns : List Int} (hats : ats[0]? = some t) (hu : P.underlying t = some (.map kt et)) (K : KeyOK P kt ks) (hx : s.ev x = some (.mp id)) (hl : look s.objs id = some (.mapN nl ks ag m bs ck))
    (hk : s.ev kx = some (keyP ks ns)) (hn : ns.length = ks.length) :
    Local P ctx ⟨dst, .call ⟨.builtin .delete, #[x, kx], ats⟩, ty, pos, after, gd⟩ s ((s.setO id (.mapN nl ks ag (mdel m ns) (bdel m ns bs) ck)).putD dst (.tup [])) := by
  refine local_value (o := ⟨dst, .call ⟨.builtin .delete, #[x, kx], ats⟩, ty, pos, after, gd⟩) fun a w g hg => ?_
  have h := hg.ev hx
  generalize hxv : a.eval x = v at h
  cases h with
  | mpNil _ hgn =>
    cases ho : hg.objs id _ hl with
    | mapN _ _ _ _ _ blk' n' es h' hh hm => rw [hgn] at h'; cases h'
    | mapNil =>
      have hexec : (execOp a.eval ⟨dst, .call ⟨.builtin .delete, #[x, kx], ats⟩, ty, pos, after, gd⟩).run P w = .ok (.value (.tuple #[])) w := by
        simp only [execOp, resolve, invoke, builtin, hxv, keyP_eq (hg.ev hk), Sem.run_bind, Sem.run_pure, Result.andThen_ok, List.map_toArray, List.map_cons, List.map_nil]
        have a0 : (#[Value.map none, keyV ks ns] : Array Value)[0]? = some (.map none) := rfl
        have a1 : (#[Value.map none, keyV ks ns] : Array Value)[1]? = some (keyV ks ns) := rfl
        simp only [Builtin.delete_, hats, a0, a1, Sem.run_bind, run_underlying hu, Result.andThen_ok, K.check w _ ns hn, Sem.run_pure]
      obtain ⟨g', h2⟩ := Sub.obj (o' := .mapN true ks ag [] [] ck) hl (fun _ _ _ h => h) a w ⟨g, hg⟩
      exact ⟨.tuple #[], _, hexec, g', h2.put dst (.tup [] [] rfl (by simp))⟩
  | mp _ blk n hgi =>
    cases hg.objs id _ hl with
    | mapNil _ _ _ h' => rw [hgi] at h'; cases h'
    | mapN _ _ _ _ _ blk' n' es h' hh hm =>
      rw [hgi] at h'; cases h'
      obtain ⟨es', hrun, hm'⟩ := run_delete (P := P) (ty := ty) hats hu K hn hh hm
      have hexec : (execOp a.eval ⟨dst, .call ⟨.builtin .delete, #[x, kx], ats⟩, ty, pos, after, gd⟩).run P w = .ok (.value (.tuple #[])) { w with heap := w.heap.setIfInBounds blk (.map es' ck) } := by
        simp only [execOp, resolve, invoke, builtin, hxv, keyP_eq (hg.ev hk), Sem.run_bind, Sem.run_pure, Result.andThen_ok, List.map_toArray, List.map_cons, List.map_nil, hrun]
      refine ⟨.tuple #[], _, hexec, g, ?_⟩
      have hown := hg.own id _ blk n hl hgi
      have hother : ∀ k, k < w.heap.size → k ≠ blk → ({ w with heap := w.heap.setIfInBounds blk (.map es' ck) } : World).heap[k]? = w.heap[k]? := fun k _ hne => set_other w blk k _ hne
      have hst : Stays w { w with heap := w.heap.setIfInBounds blk (.map es' ck) } (Free ctx g s.objs) := ⟨by simp, fun b ⟨_, h2⟩ hlt => hother b hlt fun e => by subst e; exact h2 id _ n hl hgi⟩
      exact (hg.wrote hl hgi (w' := { w with heap := w.heap.setIfInBounds blk (.map es' ck) }) rfl rfl rfl (by simp) hother hown.2 (.mapN ks ag _ _ _ blk n es' hgi (set_same w blk _ hown.1) (hm'.keep hst (fun b hb _ => free_put hl b hb)))).put dst (.tup [] [] rfl (by simp))
def PWL (P : Program) (ctx : Ctx) (c : Code) (Q : PQ) (s : PState) : Prop := ∀ a w, Rel ctx s a w → LoopAt P c (lift ctx Q) a w
theorem PWL.step {c : Code} (h : PWc P ctx c (Then (PWL P ctx c Q) Q) s) : PWL P ctx c Q s := fun a w hr => by
  refine LoopAt.step (wp_mono (h a w hr) fun e a' w' ⟨t, h1, h2⟩ => ?_)
  cases e with
  | normal => exact h1 a' w' h2
  | _ => exact ⟨t, h1, h2⟩
theorem PWL.sub {c : Code} {t : PState} (hs : Sub ctx s t) (h : PWL P ctx c Q t) : PWL P ctx c Q s := fun a w hr => h a w (hs a w hr)
theorem LR.rangeN {id mid : Nat} {x : Operand} {t kt et : TypeId} (hu : P.underlying t = some (.map kt et)) (hx : s.ev x = some (.mp mid)) (hl : look s.objs mid = some (.mapN nl ks ag m bs ck)) (hf : s.fresh id = true) :
    Local P ctx ⟨some id, .range t x, ty, pos, after, gd⟩ s (s.newO id (.iterO mid bs ck []) (.ref id 0)) :=
  local_value (o := ⟨some id, .range t x, ty, pos, after, gd⟩) fun a w g hg => by
    have h := hg.ev hx
    have hne : mid ≠ id := fun e => by subst e; rw [fresh_look hf] at hl; cases hl
    generalize hv : a.eval x = v at h
    cases h with
    | mpNil _ hgn =>
      cases hg.objs mid _ hl with
      | mapN _ _ _ _ _ blk' n' es h' hh hm => rw [hgn] at h'; cases h'
      | mapNil =>
        refine ⟨_, _, ?_, iter_new (o := ⟨some id, .range t x, ty, pos, after, gd⟩) rfl hf hg (it := .mapIter none 0 #[] 0) fun w' g' S' _ _ h1 h2 h3 => .iterON mid ck w.heap.size 0 h2 h3 (by rw [h1 mid hne]; exact hgn)⟩
        simp [execOp, hv, Instr.range, run_underlying hu, Result.andThen]
    | mp _ blk n hgi =>
      cases hg.objs mid _ hl with
      | mapNil _ _ _ h' => rw [hgi] at h'; cases h'
      | mapN _ _ _ _ _ blk' n' es h' hh hm =>
        rw [hgi] at h'; cases h'
        refine ⟨_, _, ?_, iter_new (o := ⟨some id, .range t x, ty, pos, after, gd⟩) rfl hf hg (it := .mapIter (some blk) ck #[] ck) fun w' g' S' _ _ h1 h2 h3 => .iterO mid bs ck [] w.heap.size 0 blk n h2 h3 (by rw [h1 mid hne]; exact hgi)⟩
        simp [execOp, hv, Instr.range, run_underlying hu, MapKept.run_getObj_map hh, Result.andThen]
section
variable {ops : Array Oper} {rest : List Oper} {it : Operand} {L : List Nat} {mid : Nat}
theorem PWl.nextN (hx : s.ev it = some (.ref id 0)) (hl : look s.objs id = some (.iterO mid bs ck L)) (hlm : look s.objs mid = some (.mapN nl ks ag m bs ck)) (hL : ∀ i ∈ L, i < m.length) (hgd : gd = none)
    (hdone : (∀ i, i < m.length → i ∈ L) → PWl P ctx ops Q rest (s.putD dst (.tup [.d (.v (.bool false))])))
    (hstep : ∀ i, i < m.length → i ∉ L → PWl P ctx ops Q rest ((s.setO id (.iterO mid bs ck (L ++ [i]))).putD dst (.tup [.d (.v (.bool true)), .junk, .junk]))) :
    PWl P ctx ops Q (⟨dst, .next it false, ty, pos, after, gd⟩ :: rest) s := by
  have hne : mid ≠ id := fun e => by subst e; rw [hl] at hlm; cases hlm
  cases nl with
  | false =>
    have hb : ∀ (t : PState) (t' : PState), t.n = t'.n → t.sl = t'.sl → look t.objs mid = some (.map ks ag m bs ck) → look t'.objs mid = some (.mapN false ks ag m bs ck) → (∀ j, j ≠ mid → look t.objs j = look t'.objs j) → Sub ctx t t' := fun t t' h1 h2 h3 h4 h5 => by
      intro a w hr
      have := Sub.mapToN h3 a w hr
      refine Sub.drop (s := { t with objs := putO mid (.mapN false ks ag m bs ck) t.objs }) (t := t') h1 (fun i p hp => ?_) (fun j o ho => ?_) a w this
      · unfold PState.at at hp ⊢; rw [h1, h2]; exact hp
      · show look (putO mid _ t.objs) j = some o
        rw [look_putO]
        by_cases e : j = mid
        · subst e; rw [if_pos rfl, ← h4]; exact ho
        · rw [if_neg e, h5 j e]; exact ho
    refine PWl.sub (Sub.mapF hlm rfl) (PWl.nextO (mid := mid) hx (by show look (putO mid _ s.objs) id = _; rw [look_putO, if_neg (Ne.symm hne)]; exact hl) (by show look (putO mid _ s.objs) mid = _; rw [look_putO, if_pos rfl]) hL hgd (fun hd => PWl.sub (hb _ _ ?_ ?_ ?_ ?_ ?_) (hdone hd)) (fun i hi hn => PWl.sub (hb _ _ ?_ ?_ ?_ ?_ ?_) (hstep i hi hn)))
    · cases dst <;> rfl
    · cases dst <;> rfl
    · cases dst <;> (show look (putO mid _ s.objs) mid = _; rw [look_putO, if_pos rfl])
    · cases dst <;> exact hlm
    · intro j hj; cases dst <;> (show look (putO mid _ s.objs) j = _; rw [look_putO, if_neg hj]; rfl)
    · cases dst <;> rfl
    · cases dst <;> rfl
    · cases dst <;> (show look (putO id _ (putO mid _ s.objs)) mid = _; rw [look_putO, if_neg hne, look_putO, if_pos rfl])
    · cases dst <;> (show look (putO id _ s.objs) mid = _; rw [look_putO, if_neg hne]; exact hlm)
    · intro j hj; cases dst <;> (show look (putO id _ (putO mid _ s.objs)) j = look (putO id _ s.objs) j; rw [look_putO, look_putO, look_putO, if_neg hj])
  | true =>
    rintro a w ⟨g, hg⟩
    have hr := hg.ev hx
    generalize hv : a.eval it = v at hr
    refine wpList_plain hgd fun K hK => ?_
    cases hr with
    | ref _ _ blk n hgi =>
      cases hg.objs mid _ hlm with
      | mapNil _ _ _ hgm =>
        cases hg.objs id _ hl with
        | iterO _ _ _ _ blk' n' b n2 h' hh hgm2 => rw [hgm] at hgm2; cases hgm2
        | iterON _ _ blk' n' h' hh _ =>
          rw [hgi] at h'; cases h'
          have hrun : (execOp a.eval ⟨dst, .next it false, ty, pos, after, gd⟩).run P w = .ok (.value (.tuple #[.bool false])) w := by
            have hgr : (getObj blk).run P w = .ok (.mapIter none 0 #[] 0) w := by simp [getObj, Sem.run, hh]
            simp only [execOp, hv, Instr.next, Sem.run_bind, hgr, Result.andThen_ok, Sem.run_pure]
          unfold Oper.wp
          rw [hrun]
          exact hK _ _ (hdone (by simp) _ _ ⟨g, hg.put dst (.tup [.d (.v (.bool false))] [.bool false] rfl (fun i p u hp hu => by
            cases i with
            | zero => simp at hp hu; subst hp; subst hu; exact .d (.v _ rfl)
            | succ i => simp at hp))⟩)
theorem LR.entryN {i : Nat} {ns : List Int} {cs : List DV} {kp p : PV} (hx : s.ev it = some (.ref id 0)) (hl : look s.objs id = some (.iterO mid bs ck (L ++ [i]))) (hlm : look s.objs mid = some (.mapN nl ks ag m bs ck)) (hi : m[i]? = some (ns, cs)) (hkp : keyP ks ns = kp) (hp : elP ag cs = p) :
    Local P ctx ⟨dst, .entry it, ty, pos, after, gd⟩ s (s.putD dst (.tup [kp, p])) := by
  have hne : mid ≠ id := fun e => by subst e; rw [hl] at hlm; cases hlm
  cases nl with
  | true =>
    refine local_pure (o := ⟨dst, .entry it, ty, pos, after, gd⟩) fun a w g hg => ?_
    cases hg.objs mid _ hlm with
    | mapNil => simp at hi
  | false =>
    refine local_pure (o := ⟨dst, .entry it, ty, pos, after, gd⟩) fun a w g hg => ?_
    have hr := hg.ev hx
    generalize hv : a.eval it = v at hr
    cases hr with
    | ref _ _ blk n hgi =>
      have hob := hg.objs id _ hl
      generalize hLL : L ++ [i] = LL at hob
      cases hob with
      | iterON => simp at hLL
      | iterO _ _ _ _ blk' n' b n2 h' hh hgm =>
        subst hLL
        rw [hgi] at h'; cases h'
        cases hg.objs mid _ hlm with
        | mapN _ _ _ _ _ bm nm es hgm2 hb2 hm =>
          rw [hgm] at hgm2; cases hgm2
          obtain ⟨e, us, g1, g2, g3, g4, g5, g6, g7, g8⟩ := hm.ent i ns cs hi
          have := run_entry (P := P) hh hb2 hm.stamps hm.nodup g1
          refine ⟨.tuple [e.key, e.val].toArray, by simp only [execOp, hv, Sem.run_bind, this, Result.andThen_ok, Sem.run_pure], .tup _ [e.key, e.val] rfl (fun j p' u hp' hu => ?_)⟩
          subst hkp; subst hp
          match j with
          | 0 => simp at hp' hu; subst hp'; subst hu; rw [g2]; exact keyV_rd w g _ ks ns
          | 1 => simp at hp' hu; subst hp'; subst hu; rw [g3]; exact elV_rd g4 g5 g6 g8
          | _ + 2 => simp at hp'
end
end
section
variable {P : Program} {ctx : Ctx} {Q : PQ} {s : PState}
variable {dst : Option Tmp} {ty : TypeId} {pos : String} {after : Array Edge} {gd : Option (Nat × Bool)}
variable {κ ν : Type} [DecidableEq κ] {eK : κ → List Int} {eV : ν → List DV} {m : List (κ × ν)} {q : κ} {zv : ν} (inj : ∀ a b, eK a = eK b → a = b)
variable {x kx : Operand} {t kt et : TypeId} {ks : List IntKind} {ag : Bool} {z : Value} {p kp : PV} {id : Nat} {nl : Bool} {bs : List Nat} {ck : Nat}
section
variable (hu : P.underlying t = some (.map kt et)) (K : KeyOK P kt ks) (hz : ∀ w, (zeroValue et).run P w = .ok z w) (hzr : ∀ (w : World) (g : Ghost) (S : Nat → Prop), Rd w g S (elP ag (eV zv)) z) (hk : s.ev kx = some kp) (hkp : kp = keyP ks (eK q)) (hn : (eK q).length = ks.length) (hp : elP ag (eV (AL.getZ m q zv)) = p)
include inj hu K hz hzr hk hkp hn hp
theorem LR.getOkN (hx : s.ev x = some (.mp id)) (hl : look s.objs id = some (.mapN nl ks ag (encM eK eV m) bs ck)) : Local P ctx ⟨dst, .lookup t x kx true, ty, pos, after, gd⟩ s (s.putD dst (.tup [p, .d (.v (.bool (AL.has m q)))])) := by
  have := LR.lookupOkN (P := P) (ctx := ctx) (dst := dst) (ty := ty) (pos := pos) (after := after) (gd := gd) (p := p) hu K hz hzr (by rw [hk, hkp]) hn (by rw [mget_encM inj, getD_map]; exact hp) hx hl
  rw [mget_encM inj, Option.isSome_map] at this
  exact this
end
include inj in
theorem LR.delN {ats : Array TypeId} (hu : P.underlying t = some (.map kt et)) (K : KeyOK P kt ks) (hx : s.ev x = some (.mp id)) (hl : look s.objs id = some (.mapN nl ks ag (encM eK eV m) bs ck)) (hk : s.ev kx = some kp) (hkp : kp = keyP ks (eK q)) (hn : (eK q).length = ks.length) (hats : ats[0]? = some t) :
    Local P ctx ⟨dst, .call ⟨.builtin .delete, #[x, kx], ats⟩, ty, pos, after, gd⟩ s ((s.setO id (.mapN nl ks ag (encM eK eV (AL.del m q)) (bdel (encM eK eV m) (eK q) bs) ck)).putD dst (.tup [])) := by
  have := LR.deleteN (P := P) (ctx := ctx) (dst := dst) (ty := ty) (pos := pos) (after := after) (gd := gd) hats hu K hx hl (by rw [hk, hkp]) hn
  rwa [mdel_encM inj] at this
end
section
variable {ctx : Ctx} {s : PState}
end
end Go.Ep

namespace Go.Ep
open Go.RowKit
section
variable {P : Program} {ctx : Ctx} {Q : PQ} {s : PState}
variable {dst : Option Tmp} {ty : TypeId} {pos : String} {after : Array Edge} {gd : Option (Nat × Bool)}

theorem delO_mem {id : Nat} : ∀ {l : List (Nat × Ob)} {x : Nat × Ob}, x ∈ delO id l → x.1 ≠ id ∧ x ∈ l
  | [], x, h => by simp [delO] at h
  | (k, p) :: r, x, h => by
    unfold delO at h
    by_cases e : id = k
    · rw [if_pos e] at h; have := delO_mem h; exact ⟨this.1, List.mem_cons_of_mem _ this.2⟩
    · rw [if_neg e] at h
      rcases List.mem_cons.1 h with h | h
      · subst h; exact ⟨Ne.symm e, List.mem_cons_self⟩
      · have := delO_mem h; exact ⟨this.1, List.mem_cons_of_mem _ this.2⟩
section
variable {x kx : Operand} {t kt et : TypeId} {ks : List IntKind} {m : List (List Int × Value)} {ns : List Int} {bs : List Nat} {ck id : Nat} {ov : Option (Nat × PV)}
variable (hu : P.underlying t = some (.map kt et)) (K : KeyOK P kt ks) (hx : s.ev x = some (.mp id)) (hl : look s.objs id = some (.mapP ks m ov bs ck)) (hk : s.ev kx = some (keyP ks ns)) (hn : ns.length = ks.length)
include hu K hx hl hk hn
omit hu K hx hl hk hn in
end
end

section
variable {P : Program} {ctx : Ctx} {ops : Array Oper} {Q : PState → Prop} {s : PState}
variable {dst : Option Tmp} {ty : TypeId} {pos : String} {after : Array Edge} {gd : Option (Nat × Bool)}
theorem Local.post {o : Oper} {t u : PState} (h : Local P ctx o s t) (hs : Sub ctx t u) : Local P ctx o s u := fun a w hr K Qx hK => h a w hr K Qx fun a' w' h' => hK a' w' (hs a' w' h')
theorem Local.pre {o : Oper} {t u : PState} (hs : Sub ctx s t) (h : Local P ctx o t u) : Local P ctx o s u := fun a w hr K Qx hK => h a w (hs a w hr) K Qx hK
section
variable {α : Type} {enc : α → List DV} {L R : List α} {x y : Operand} {id mid m k bs' : Nat} {t t' e e' : TypeId} {ks : List IntKind} {mm : List (List Int × Value)} {j : Nat} {p : PV} {bs : List Nat} {ck : Nat}
end
end
end Go.Ep

namespace Go.Ep
open Go.RowKit
section
variable {ctx : Ctx} {s : PState}
theorem RelG.obj {g : Ghost} {a : Act} {w : World} (h1 : RelG ctx g s a w) {id : Nat} {o o' : Ob} (hl : look s.objs id = some o) (hob : ObRd w g (Free ctx g s.objs) id o') : RelG ctx g { s with objs := putO id o' s.objs } a w := by
  have hF : ∀ b, Free ctx g s.objs b → Free ctx g (putO id o' s.objs) b := fun b hb => ⟨hb.1, fun i o2 n ho hgi => by
    rw [look_putO] at ho
    by_cases ei : i = id
    · subst ei; exact hb.2 i _ n hl hgi
    · rw [if_neg ei] at ho; exact hb.2 i o2 n ho hgi⟩
  have hst : Stays w w (Free ctx g s.objs) := ⟨Nat.le_refl _, fun _ _ _ => rfl⟩
  have hlk : ∀ i o2, look (putO id o' s.objs) i = some o2 → ∃ o3, look s.objs i = some o3 := fun i o2 ho => by
    rw [look_putO] at ho
    by_cases ei : i = id
    · subst ei; exact ⟨_, hl⟩
    · rw [if_neg ei] at ho; exact ⟨_, ho⟩
  refine ⟨h1.defers, h1.size, fun i p hp => (h1.slots i p hp).keep hst (fun b hb _ => hF b hb) (fun _ _ => rfl), fun i o2 ho => ?_, fun i i2 o2 o3 b n m ho ho2 hgi hgi2 => ?_, fun i o2 b n ho hgi => ?_, h1.os, h1.tape, h1.output, h1.grows, h1.keep⟩
  · rw [look_putO] at ho
    by_cases ei : i = id
    · subst ei
      rw [if_pos rfl] at ho
      cases ho
      exact hob.keep hst (fun b hb _ => hF b hb) (fun _ _ _ => rfl) rfl (fun _ _ => rfl)
    · rw [if_neg ei] at ho
      exact (h1.objs i o2 ho).keep hst (fun b hb _ => hF b hb) (fun _ _ _ => rfl) rfl (fun _ _ => rfl)
  · obtain ⟨o4, e4⟩ := hlk i o2 ho
    obtain ⟨o5, e5⟩ := hlk i2 o3 ho2
    exact h1.inj i i2 o4 o5 b n m e4 e5 hgi hgi2
  · obtain ⟨o4, e4⟩ := hlk i o2 ho
    exact h1.own i o4 b n e4 hgi
variable {id : Nat} {nl : Bool} {ks : List IntKind} {ag : Bool} {m : List (List Int × List DV)} {bs : List Nat} {ck : Nat}
theorem Sub.nToH (hl : look s.objs id = some (.mapN nl ks ag m bs ck)) : Sub ctx s { s with objs := putO id (.mapH nl ks ag m) s.objs } :=
  Sub.obj hl fun w g S h => by
    cases h with
    | mapNil _ _ _ h => exact .mapHNil _ _ h
    | mapN _ _ _ _ _ blk n es h hh hm => exact .mapH _ _ _ _ _ blk n es h hh hm
theorem Sub.toH (hl : look s.objs id = some (.map ks ag m bs ck)) : Sub ctx s { s with objs := putO id (.mapH false ks ag m) s.objs } :=
  Sub.obj hl fun w g S h => by
    cases h with
    | map _ _ _ _ _ blk n es h hh hm => exact .mapH _ _ _ _ _ blk n es h hh hm
theorem Sub.hT (hl : look s.objs id = some (.mapH nl ks ag m)) (hn : nl = true) : Sub ctx s { s with objs := putO id (.mapN true ks ag m [] 0) s.objs } :=
  Sub.obj hl fun w g S h => by
    subst hn
    cases h with
    | mapHNil _ _ h => exact .mapNil _ _ _ h
theorem openH (hl : look s.objs id = some (.mapH nl ks ag m)) {a : Act} {w : World} (hr : Rel ctx s a w) : ∃ bs ck, Rel ctx { s with objs := putO id (.mapN nl ks ag m bs ck) s.objs } a w := by
  obtain ⟨g, hg⟩ := hr
  have h := hg.objs id _ hl
  cases h with
  | mapHNil _ _ h => exact ⟨[], 0, g, hg.obj hl (.mapNil _ _ _ h)⟩
  | mapH _ _ _ bs ck blk n es h hh hm => exact ⟨bs, ck, g, hg.obj hl (.mapN _ _ _ _ _ blk n es h hh hm)⟩
variable {P : Program} {Q : PQ}
theorem PWc.openH {c : Code} (hl : look s.objs id = some (.mapH nl ks ag m)) (h : ∀ bs ck, PWc P ctx c Q { s with objs := putO id (.mapN nl ks ag m bs ck) s.objs }) : PWc P ctx c Q s := fun a w hr => by
  obtain ⟨bs, ck, h2⟩ := Go.Ep.openH hl hr
  exact h bs ck a w h2
theorem PWl.openH {ops : Array Oper} {l : List Oper} (hl : look s.objs id = some (.mapH nl ks ag m)) (h : ∀ bs ck, PWl P ctx ops Q l { s with objs := putO id (.mapN nl ks ag m bs ck) s.objs }) : PWl P ctx ops Q l s := fun a w hr => by
  obtain ⟨bs, ck, h2⟩ := Go.Ep.openH hl hr
  exact h bs ck a w h2
theorem look_put2 (id : Nat) (o o' : Ob) (l : List (Nat × Ob)) (i : Nat) : look (putO id o (putO id o' l)) i = look (putO id o l) i := by
  rw [look_putO, look_putO, look_putO]
  by_cases h : i = id <;> simp [h]
theorem Sub.same {t : PState} (hn : s.n = t.n) (hs : s.sl = t.sl) (ho : ∀ i, look s.objs i = look t.objs i) : Sub ctx s t :=
  Sub.drop hn (fun i p hp => by rw [at_eq] at hp ⊢; rw [hn, hs]; exact hp) (fun i o h => by rw [ho]; exact h)
theorem PWc.hF {c : Code} (hl : look s.objs id = some (.mapH nl ks ag m)) (hn : nl = false) (h : ∀ bs ck, PWc P ctx c Q { s with objs := putO id (.map ks ag m bs ck) s.objs }) : PWc P ctx c Q s :=
  PWc.openH hl fun bs ck => PWc.sub (Sub.mapF (id := id) (by show look (putO id _ _) id = _; rw [look_putO, if_pos rfl]) hn) (PWc.sub (Sub.same (t := { s with objs := putO id (.map ks ag m bs ck) s.objs }) rfl rfl fun i => by
    show look (putO id _ (putO id _ _)) i = look (putO id _ _) i
    rw [look_put2]) (h bs ck))
theorem Local.openH {o : Oper} {t : PState} (hl : look s.objs id = some (.mapH nl ks ag m)) (h : ∀ bs ck, Local P ctx o { s with objs := putO id (.mapN nl ks ag m bs ck) s.objs } t) : Local P ctx o s t := fun a w hr K Qx hK => by
  obtain ⟨bs, ck, h2⟩ := Go.Ep.openH hl hr
  exact h bs ck a w h2 K Qx hK
theorem closeP {dst : Option Nat} {p : PV} {m' : List (List Int × List DV)} (hl : look s.objs id = some (.mapH nl ks ag m')) : Sub ctx (({ s with objs := putO id (.mapN nl ks ag m' bs ck) s.objs } : PState).putD dst p) (s.putD dst p) := by
  refine Sub.trans (Sub.nToH (id := id) (nl := nl) (ks := ks) (ag := ag) (m := m') (bs := bs) (ck := ck) ?_) (Sub.same ?_ ?_ fun i => ?_)
  · rw [putD_objs]; show look (putO id _ _) id = _; rw [look_putO, if_pos rfl]
  · cases dst <;> rfl
  · cases dst <;> rfl
  · rw [putD_objs]
    show look (putO id _ _) i = _
    rw [putD_objs]
    show look (putO id _ (putO id _ _)) i = _
    rw [look_put2, look_putO]
    by_cases h : i = id
    · rw [if_pos h, h, hl]
    · rw [if_neg h]
theorem ev_objs {x : Operand} (l : List (Nat × Ob)) : ({ s with objs := l } : PState).ev x = s.ev x := by cases x <;> rfl
end
section
variable {P : Program} {ctx : Ctx} {Q : PQ} {s : PState}
variable {dst : Option Tmp} {ty : TypeId} {pos : String} {after : Array Edge} {gd : Option (Nat × Bool)}
variable {κ ν : Type} [DecidableEq κ] {eK : κ → List Int} {eV : ν → List DV} {m : List (κ × ν)} {q : κ} {zv : ν} (inj : ∀ a b, eK a = eK b → a = b)
variable {x kx : Operand} {t kt et : TypeId} {ks : List IntKind} {ag : Bool} {z : Value} {p kp : PV} {id : Nat} {nl : Bool} {bs : List Nat} {ck : Nat}
section
variable (hu : P.underlying t = some (.map kt et)) (K : KeyOK P kt ks) (hz : ∀ w, (zeroValue et).run P w = .ok z w) (hzr : ∀ (w : World) (g : Ghost) (S : Nat → Prop), Rd w g S (elP ag (eV zv)) z) (hk : s.ev kx = some kp) (hkp : kp = keyP ks (eK q)) (hn : (eK q).length = ks.length) (hp : elP ag (eV (AL.getZ m q zv)) = p)
include inj hu K hz hzr hk hkp hn hp
theorem LR.getOkH (hx : s.ev x = some (.mp id)) (hl : look s.objs id = some (.mapH nl ks ag (encM eK eV m))) : Local P ctx ⟨dst, .lookup t x kx true, ty, pos, after, gd⟩ s (s.putD dst (.tup [p, .d (.v (.bool (AL.has m q)))])) :=
  Local.openH hl fun bs ck => (LR.getOkN inj hu K hz hzr (by rw [ev_objs]; exact hk) hkp hn hp (by rw [ev_objs]; exact hx) (by show look (putO id _ _) id = _; rw [look_putO, if_pos rfl])).post (closeP hl)
end
include inj in
theorem LR.delH {ats : Array TypeId} (hu : P.underlying t = some (.map kt et)) (K : KeyOK P kt ks) (hx : s.ev x = some (.mp id)) (hl : look s.objs id = some (.mapH nl ks ag (encM eK eV m))) (hk : s.ev kx = some kp) (hkp : kp = keyP ks (eK q)) (hn : (eK q).length = ks.length) (hats : ats[0]? = some t) :
    Local P ctx ⟨dst, .call ⟨.builtin .delete, #[x, kx], ats⟩, ty, pos, after, gd⟩ s ((s.setO id (.mapH nl ks ag (encM eK eV (AL.del m q)))).putD dst (.tup [])) :=
  Local.openH hl fun bs ck => (LR.delN inj hu K (by rw [ev_objs]; exact hx) (by show look (putO id _ _) id = _; rw [look_putO, if_pos rfl]) (by rw [ev_objs]; exact hk) hkp hn hats).post
    (Sub.trans (Sub.nToH (id := id) (by rw [putD_objs]; show look (putO id _ _) id = _; rw [look_putO, if_pos rfl]))
      (Sub.same (by cases dst <;> rfl) (by cases dst <;> rfl) fun i => by
        cases dst <;> (show look (putO id _ (putO id _ (putO id _ _))) i = look (putO id _ _) i; rw [look_put2, look_putO, look_putO, look_putO]; by_cases h : i = id <;> simp [h])))
include inj in
end
inductive JCs (nm : List Nat) : List PV → List PV → Prop
  | nil : JCs nm [] []
  | keep {p : PV} {cs cs' : List PV} (h : p.named nm = true) (t : JCs nm cs cs') : JCs nm (p :: cs) (p :: cs')
  | junk {p : PV} {cs cs' : List PV} (t : JCs nm cs cs') : JCs nm (p :: cs) (.junk :: cs')
inductive JOb (nm : List Nat) : Ob → Ob → Prop
  | same {o : Ob} (h : o.named nm = true) : JOb nm o o
  | cells {T : TypeId} {cs cs' : List PV} (h : JCs nm cs cs') : JOb nm (.cells T cs) (.cells T cs')
inductive JObs (nm : List Nat) : List (Nat × Ob) → List (Nat × Ob) → Prop
  | nil : JObs nm [] []
  | cons {k : Nat} {o o' : Ob} {F F' : List (Nat × Ob)} (h : JOb nm o o') (t : JObs nm F F') : JObs nm ((k, o) :: F) ((k, o') :: F')
theorem JCs.len {nm : List Nat} {cs cs' : List PV} (h : JCs nm cs cs') : cs'.length = cs.length := by
  induction h with
  | nil => rfl
  | keep _ _ ih => simp [ih]
  | junk _ ih => simp [ih]
theorem JCs.get {nm : List Nat} {cs cs' : List PV} (h : JCs nm cs cs') : ∀ (i : Nat) (p : PV), cs'[i]? = some p → p = .junk ∨ cs[i]? = some p := by
  induction h with
  | nil => intro i p h; simp at h
  | keep _ _ ih =>
    intro i p h
    cases i with
    | zero => exact .inr (by simpa using h)
    | succ i => simpa using ih i p (by simpa using h)
  | junk _ ih =>
    intro i p h
    cases i with
    | zero => exact .inl (by simpa using h.symm)
    | succ i => simpa using ih i p (by simpa using h)
theorem JCs.named {nm : List Nat} {cs cs' : List PV} (h : JCs nm cs cs') : PV.named.namedL nm cs' = true := by
  induction h with
  | nil => rfl
  | keep h _ ih => simp only [PV.named.namedL, h, ih, Bool.and_self]
  | junk _ ih => simp only [PV.named.namedL, PV.named, ih, Bool.and_self]
theorem JOb.named {nm : List Nat} {o o' : Ob} (h : JOb nm o o') : o'.named nm = true := by
  cases h with
  | same h => exact h
  | cells h => exact h.named
theorem JOb.rd {nm : List Nat} {o o' : Ob} (h : JOb nm o o') {w : World} {g : Ghost} {S : Nat → Prop} {id : Nat} (hr : ObRd w g S id o) : ObRd w g S id o' := by
  cases h with
  | same => exact hr
  | cells h =>
    cases hr with
    | cells _ _ blk n us hgi hh hl hr' h1 =>
      refine .cells _ _ blk n us hgi hh (h.len.trans hl) (fun i p u hp hu => ?_) h1
      rcases h.get i p hp with rfl | h2
      · exact .junk u
      · exact hr' i p u h2 hu
theorem JObs.look {nm : List Nat} {F F' : List (Nat × Ob)} (h : JObs nm F F') : ∀ (id : Nat) (o' : Ob), Go.Ep.look F' id = some o' → ∃ o, Go.Ep.look F id = some o ∧ JOb nm o o' := by
  induction h with
  | nil => intro id o' h; simp [Go.Ep.look] at h
  | cons h _ ih =>
    intro id o' hl
    simp only [Go.Ep.look] at hl ⊢
    split at hl
    · rename_i e; cases hl; exact ⟨_, by rw [if_pos e], h⟩
    · rename_i e; rw [if_neg e]; exact ih id o' hl
theorem JObs.keys {nm : List Nat} {F F' : List (Nat × Ob)} (h : JObs nm F F') : F'.map (·.1) = F.map (·.1) := by
  induction h with
  | nil => rfl
  | cons _ _ ih => simp [ih]
theorem look_nkey {l : List (Nat × Ob)} {i : Nat} (h : i ∉ l.map (·.1)) : look l i = none := by
  cases hl : look l i with
  | none => rfl
  | some o => exact absurd (look_key hl) h
theorem OwnB.app {g : Ghost} {a b : List (Nat × Ob)} {k : Nat} (h : OwnB g (a ++ b) k) : OwnB g a k ∨ OwnB g b k := by
  obtain ⟨id, o, n, h1, h2⟩ := h
  rw [look_append] at h1
  cases hl : look a id with
  | none => rw [hl, Option.none_or] at h1; exact .inr ⟨id, o, n, h1, h2⟩
  | some q => rw [hl, Option.some_or] at h1; exact .inl ⟨id, q, n, hl, h2⟩
theorem PObj.frame {G : Type} {P : Program} {f : FuncId} {ps : List PV} {os : List (Nat × Ob)} {pins ks : List Nat} {r : PV} {os' : G → List (Nat × Ob)} (F F' : List (Nat × Ob)) (hc : PObj P f ps os pins r os')
    (hks : ∀ gh, (os' gh).map (·.1) = ks) (hcl : ∀ gh, (os' gh).all (fun x => x.2.named ks) = true) (hr : r.named ks = true) (hd : ((F.map (·.1)).all fun k => !inL (os.map (·.1)) k && !inL ks k) = true) (hj : JObs (pins ++ F.map (·.1)) F F') :
    PObj P f ps (os ++ F) (pins ++ F.map (·.1)) r (fun gh => os' gh ++ F') := by
  intro w g S vs hlen hreal hobs hdis
  have hd1 : ∀ k ∈ F.map (·.1), k ∉ os.map (·.1) ∧ k ∉ ks := fun k hk => by
    have h := List.all_eq_true.1 hd k hk
    rw [Bool.and_eq_true, Bool.not_eq_true', Bool.not_eq_true', inL_false, inL_false] at h
    exact h
  have lookR : ∀ {id o}, look F id = some o → look (os ++ F) id = some o := fun {id o} h => by
    rw [look_append, look_nkey (hd1 id (look_key h)).1, Option.none_or]; exact h
  have ownL : ∀ {b}, OwnB g os b → OwnB g (os ++ F) b := fun ⟨id, o, n, h1, h2⟩ => ⟨id, o, n, look_left h1, h2⟩
  have ownR : ∀ {b}, OwnB g F b → OwnB g (os ++ F) b := fun ⟨id, o, n, h1, h2⟩ => ⟨id, o, n, lookR h1, h2⟩
  have hnF : ∀ {id o b n}, look F id = some o → g id = some (b, n) → ¬ OwnB g os b := fun {id o b n} h1 h2 ⟨id2, o2, n2, h3, h4⟩ => by
    have := hobs.inj id id2 o o2 b n n2 (lookR h1) (look_left h3) h2 h4
    subst this
    exact (hd1 id (look_key h1)).1 (look_key h3)
  refine (hc w g S vs hlen hreal ⟨fun id o h => hobs.rd id o (look_left h), fun i j oi oj b n m hi hj => hobs.inj i j oi oj b n m (look_left hi) (look_left hj), fun id o b n h => hobs.lt id o b n (look_left h)⟩ (fun b hb h => hdis b hb (ownL h))).mono fun e w' ⟨u, g', gh, he, hpost⟩ => ?_
  have hks' := hks gh
  have hcl' := hcl gh
  let G' : Ghost := fun j => if inL (F.map (·.1)) j then g j else g' j
  refine ⟨u, G', gh, he, ?_⟩
  show ObPost w g S (os ++ F) (pins ++ F.map (·.1)) r (os' gh ++ F') w' G' u
  generalize os' gh = os1 at hpost hks' hcl' ⊢
  have gF : ∀ {j}, j ∈ F.map (·.1) → G' j = g j := fun {j} h => by simp only [G', inL_iff.2 h, if_true]
  have gN : ∀ {j}, j ∉ F.map (·.1) → G' j = g' j := fun {j} h => by simp only [G', inL_false.2 h, Bool.false_eq_true, if_false]
  have gK : ∀ {j}, j ∈ ks → G' j = g' j := fun {j} h => gN fun h2 => (hd1 j h2).2 h
  have gP : ∀ {j}, j ∈ pins ++ F.map (·.1) → G' j = g j := fun {j} h => by
    by_cases hf : j ∈ F.map (·.1)
    · exact gF hf
    · rw [gN hf]; exact hpost.pin j ((List.mem_append.1 h).resolve_right hf)
  have split : ∀ {id o}, look (os1 ++ F') id = some o → (look os1 id = some o ∧ id ∈ ks) ∨ ∃ o0, look F id = some o0 ∧ JOb (pins ++ F.map (·.1)) o0 o := fun {id o} h => by
    rw [look_append] at h
    cases hl : look os1 id with
    | none => rw [hl, Option.none_or] at h; exact .inr (hj.look id o h)
    | some q => rw [hl, Option.some_or] at h; cases h; exact .inl ⟨rfl, hks' ▸ look_key hl⟩
  have hA : ∀ b, After w g S os g' os1 b → After w g S (os ++ F) G' (os1 ++ F') b := fun b ⟨h1, h2⟩ => ⟨by
    rcases h1 with h1 | h1 | h1
    · exact .inl h1
    · exact .inr (.inl (ownL h1))
    · exact .inr (.inr h1), fun ⟨id, o, n, hl, hgi⟩ => by
    rcases split hl with ⟨h3, h4⟩ | ⟨o0, h3, h4⟩
    · rw [gK h4] at hgi; exact h2 ⟨id, o, n, h3, hgi⟩
    · rw [gF (look_key h3)] at hgi
      rcases h1 with h1 | h1 | h1
      · exact hdis b h1 ⟨id, o0, n, lookR h3, hgi⟩
      · exact hnF h3 hgi h1
      · have := hobs.lt id o0 b n (lookR h3) hgi; omega⟩
  have hS : ∀ b, S b → b < w.heap.size → After w g S (os ++ F) G' (os1 ++ F') b := fun b hb hlt => ⟨.inl hb, fun ⟨id, o, n, hl, hgi⟩ => by
    rcases split hl with ⟨h3, h4⟩ | ⟨o0, h3, h4⟩
    · rw [gK h4] at hgi
      rcases hpost.own b ⟨id, o, n, h3, hgi⟩ with h5 | h5
      · exact hdis b hb (ownL h5)
      · omega
    · rw [gF (look_key h3)] at hgi
      exact hdis b hb ⟨id, o0, n, lookR h3, hgi⟩⟩
  have hst : Stays w w' S := ⟨hpost.grows, fun b hb hlt => hpost.keep b hlt fun h => hdis b hb (ownL h)⟩
  have hst' : Stays w' w' (After w g S os g' os1) := ⟨Nat.le_refl _, fun _ _ _ => rfl⟩
  refine ⟨hpost.eos, hpost.tape, hpost.output, hpost.grows, fun k hk h => hpost.keep k hk fun h2 => h (ownL h2), fun b ⟨id, o, n, hl, hgi⟩ => ?_, fun id h => gP h, ?_, ⟨fun id o hl => ?_, fun i j oi oj b n m hi hj' hgi hgj => ?_, fun id o b n hl hgi => ?_⟩⟩
  · rcases split hl with ⟨h3, h4⟩ | ⟨o0, h3, h4⟩
    · rw [gK h4] at hgi
      exact (hpost.own b ⟨id, o, n, h3, hgi⟩).imp ownL (fun h => h)
    · rw [gF (look_key h3)] at hgi
      exact .inl (ownR ⟨id, o0, n, h3, hgi⟩)
  · exact hpost.res.keep hst' (fun b hb _ => hA b hb) fun j hjj => gK (PV.named_has hr hjj)
  · rcases split hl with ⟨h3, h4⟩ | ⟨o0, h3, h4⟩
    · have hn := (List.all_eq_true.1 hcl') _ (look_mem h3)
      exact (hpost.obs.rd id o h3).keep hst' (fun b hb _ => hA b hb) (fun _ _ _ => rfl) (gK h4) fun j hjj => gK (Ob.named_has hn hjj)
    · exact (h4.rd (hobs.rd id o0 (lookR h3))).keep hst hS (fun b n hgi => hpost.keep b (hobs.lt id o0 b n (lookR h3) hgi) (hnF h3 hgi)) (gF (look_key h3)) fun j hjj => gP (Ob.named_has h4.named hjj)
  · rcases split hi with ⟨h3, h4⟩ | ⟨o0, h3, h4⟩ <;> rcases split hj' with ⟨h5, h6⟩ | ⟨o2, h5, h6⟩
    · rw [gK h4] at hgi; rw [gK h6] at hgj; exact hpost.obs.inj i j oi oj b n m h3 h5 hgi hgj
    · rw [gK h4] at hgi; rw [gF (look_key h5)] at hgj
      exfalso
      rcases hpost.own b ⟨i, oi, n, h3, hgi⟩ with h7 | h7
      · exact hnF h5 hgj h7
      · have := hobs.lt j o2 b m (lookR h5) hgj; omega
    · rw [gF (look_key h3)] at hgi; rw [gK h6] at hgj
      exfalso
      rcases hpost.own b ⟨j, oj, m, h5, hgj⟩ with h7 | h7
      · exact hnF h3 hgi h7
      · have := hobs.lt i o0 b n (lookR h3) hgi; omega
    · rw [gF (look_key h3)] at hgi; rw [gF (look_key h5)] at hgj
      exact hobs.inj i j o0 o2 b n m (lookR h3) (lookR h5) hgi hgj
  · rcases split hl with ⟨h3, h4⟩ | ⟨o0, h3, h4⟩
    · rw [gK h4] at hgi; exact hpost.obs.lt id o b n h3 hgi
    · rw [gF (look_key h3)] at hgi
      exact Nat.lt_of_lt_of_le (hobs.lt id o0 b n (lookR h3) hgi) hpost.grows
section
variable {ctx : Ctx} {s : PState}
inductive RSl (s : PState) (ρ : List (Nat × Nat)) : List (Nat × PV) → Prop
  | nil : RSl s ρ []
  | cons {i : Nat} {p : PV} {r : List (Nat × PV)} (h : s.at i = some (p.ren ρ)) (t : RSl s ρ r) : RSl s ρ ((i, p) :: r)
theorem RSl.get {ρ : List (Nat × Nat)} {l : List (Nat × PV)} (h : RSl s ρ l) : ∀ i p, getS l i = some p → s.at i = some (p.ren ρ) := by
  induction h with
  | nil => intro i p h; simp [getS] at h
  | cons h _ ih =>
    intro i p hl
    rw [getS_cons] at hl
    split at hl
    · rename_i e; subst e; cases hl; exact h
    · exact ih i p hl
def injR (ρ : List (Nat × Nat)) (ks : List Nat) : Bool := ks.all fun i => ks.all fun j => Nat.beq i j || !Nat.beq (rn ρ i) (rn ρ j)
theorem Sub.rnm (ρ : List (Nat × Nat)) {n : Nat} {tl : List (Nat × PV)} {to : List (Nat × Ob)} (hn : s.n = n) (hs : RSl s ρ tl) (ho : AllOb s ρ to) (hi : injR ρ (to.map (·.1)) = true) : Sub ctx s ⟨n, tl, to⟩ := by
  rintro a w ⟨g, h⟩
  have hlo := ho.get
  have hF : ∀ b, Free ctx g s.objs b → Free ctx (fun i => g (rn ρ i)) to b := fun b hb => ⟨hb.1, fun id o n h1 h2 => hb.2 _ _ n (hlo id o h1) h2⟩
  have hst : Stays w w (Free ctx g s.objs) := ⟨Nat.le_refl _, fun _ _ _ => rfl⟩
  have hinj : ∀ i j, i ∈ to.map (·.1) → j ∈ to.map (·.1) → rn ρ i = rn ρ j → i = j := fun i j h1 h2 e => by
    have h3 := List.all_eq_true.1 (List.all_eq_true.1 hi i h1) j h2
    rw [Bool.or_eq_true, Bool.not_eq_true'] at h3
    rcases h3 with h3 | h3
    · exact Nat.eq_of_beq_eq_true h3
    · rw [e, Nat.beq_refl] at h3; cases h3
  refine ⟨fun i => g (rn ρ i), h.defers, by rw [h.size, hn], fun i p hp => ?_, fun id o hl => ?_, fun i j oi oj b n m h1 h2 hgi hgj => ?_, fun id o b n h1 hgi => ?_, h.os, h.tape, h.output, h.grows, h.keep⟩
  · have h1 := hs.get i p (at_get hp)
    exact ((h.slots i _ h1).unren rfl).keep hst (fun b hb _ => hF b hb) (fun _ _ => rfl)
  · exact ((h.objs _ _ (hlo id o hl)).unren rfl rfl).keep hst (fun b hb _ => hF b hb) (fun _ _ _ => rfl) rfl (fun _ _ => rfl)
  · exact hinj i j (look_key h1) (look_key h2) (h.inj _ _ _ _ b n m (hlo i oi h1) (hlo j oj h2) hgi hgj)
  · exact h.own _ _ b n (hlo id o h1) hgi
end
inductive LookIn (os' : List (Nat × Ob)) : List (Nat × Ob) → Prop
  | nil : LookIn os' []
  | cons {i : Nat} {o : Ob} {r : List (Nat × Ob)} (h : Go.Ep.look os' i = some o) (t : LookIn os' r) : LookIn os' ((i, o) :: r)
theorem LookIn.get {os' l : List (Nat × Ob)} (h : LookIn os' l) : ∀ i o, Go.Ep.look l i = some o → Go.Ep.look os' i = some o := by
  induction h with
  | nil => intro i o h; simp [Go.Ep.look] at h
  | cons h _ ih =>
    intro j o2 hl
    simp only [Go.Ep.look] at hl
    split at hl
    · rename_i e; subst e; cases hl; exact h
    · exact ih j o2 hl
theorem lookF {ρ : List (Nat × Nat)} {acc : List (Nat × Ob)} {i : Nat} {o : Ob} : ∀ {l : List (Nat × Ob)}, look l i = some o → (∀ j ∈ l.map (·.1), rn ρ j = rn ρ i → j = i) → look (l.foldr (fun x l => putO (rn ρ x.1) (x.2.ren ρ) l) acc) (rn ρ i) = some (o.ren ρ)
  | [], h, _ => by simp [look] at h
  | (k, q) :: r, h, hi => by
    rw [List.foldr_cons, look_putO]
    by_cases e : rn ρ i = rn ρ k
    · rw [if_pos e]
      have := hi k (by simp) e.symm
      subst this
      simp [look] at h
      rw [h]
    · rw [if_neg e]
      refine lookF (l := r) ?_ (fun j hj => hi j (by simp only [List.map_cons, List.mem_cons]; exact .inr hj))
      simp only [look] at h
      rw [if_neg (fun e2 => e (by rw [e2]))] at h
      exact h
theorem lookN {ρ : List (Nat × Nat)} {acc : List (Nat × Ob)} {j : Nat} : ∀ {l : List (Nat × Ob)}, (∀ i ∈ l.map (·.1), rn ρ i ≠ j) → look (l.foldr (fun x l => putO (rn ρ x.1) (x.2.ren ρ) l) acc) j = look acc j
  | [], _ => rfl
  | (k, q) :: r, h => by
    rw [List.foldr_cons, look_putO, if_neg (fun e => h k (by simp) e.symm)]
    exact lookN fun i hi => h i (by simp only [List.map_cons, List.mem_cons]; exact .inr hi)
theorem lookDN {ρ : List (Nat × Nat)} {acc : List (Nat × Ob)} {j : Nat} : ∀ {l : List (Nat × Ob)}, (∀ i ∈ l.map (·.1), rn ρ i ≠ j) → look (l.foldr (fun x l => delO (rn ρ x.1) l) acc) j = look acc j
  | [], _ => rfl
  | (k, q) :: r, h => by
    rw [List.foldr_cons, look_delO, if_neg (fun e => h k (by simp) e.symm)]
    exact lookDN fun i hi => h i (by simp only [List.map_cons, List.mem_cons]; exact .inr hi)
theorem key_look {l : List (Nat × Ob)} {i : Nat} (h : i ∈ l.map (·.1)) : ∃ o, look l i = some o := by
  cases hl : look l i with
  | some o => exact ⟨o, rfl⟩
  | none =>
    exfalso
    induction l with
    | nil => cases h
    | cons x r ih =>
      simp only [look] at hl
      split at hl
      · cases hl
      · rename_i e
        simp only [List.map_cons, List.mem_cons] at h
        exact ih (h.resolve_left e) hl
section
variable {P : Program} {ctx : Ctx} {Q : PState → Prop} {s : PState} {ops : Array Oper} {rest : List Oper} {fs : List Ft} {f : Ft}
variable {dst : Option Tmp} {ty : TypeId} {pos : String} {after : Array Edge} {gd : Option (Nat × Bool)}
theorem PQe.callObjS {x : Operand} {xs : List Operand} {ats : Array TypeId} {fn : FuncId} {ps qs : List PV} {os os' : List (Nat × Ob)} {pins : List Nat} {r : PV} (ρ : List (Nat × Nat)) (js ks : List Nat) (osV osS : List (Nat × Ob))
    (hc : PObj P fn ps os pins r (fun _ : Unit => os')) (hK : ∀ b, ctx.K b → ctx.S b)
    (hev : ∀ s' : PState, (∀ {y q}, readsX (⟨dst, .call ⟨.value x, xs.toArray, ats⟩, ty, pos, after, gd⟩ : Oper) y = true → s.ev y = some q → s'.ev y = some q) → s'.ev x = some (.d (.v (.func (.func fn) #[] #[]))) ∧ s'.evs xs = some qs)
    (he : ∀ args w, (callFunc fn args).run P w = .ok (.enter fn args) w) (hq : qs.map PV.nilD = ps.map (PV.ren ρ)) (hos : AllOb s ρ os) (hV : LookIn os' osV) (hS : LookIn os' osS) (hAS : AllOb s ρ osS) (hcov : (os'.map (·.1)).all (fun i => inL (osV.map (·.1)) i || inL (osS.map (·.1)) i) = true) (hSo : (osS.map (·.1)).all (inL (os.map (·.1))) = true)
    (hks : os'.map (·.1) = ks) (hcl : os'.all (fun x => x.2.named ks) = true) (hr : r.named ks = true) (hok : calO ρ js (os.map (·.1)) pins ks f = true)
    (hg : Wd ops (⟨dst, .call ⟨.value x, xs.toArray, ats⟩, ty, pos, after, gd⟩ : Oper) s) (hk : okE f (effO ρ js dst r osV) = true) (h : PQe P ctx ops Q rest fs (s.app (effO ρ js dst r osV))) :
    PQe P ctx ops Q (⟨dst, .call ⟨.value x, xs.toArray, ats⟩, ty, pos, after, gd⟩ :: rest) (f :: fs) s := by
  simp only [calO, Bool.and_eq_true] at hok
  obtain ⟨⟨⟨⟨⟨c1, c2⟩, c3⟩, c4⟩, c5⟩, c6⟩ := hok
  refine .step (e := effO ρ js dst r osV) (fun s' hn hee ho hfr hal => ?_) hg hk h
  obtain ⟨h1, h2⟩ := hev s' (fun hx hq => hee hx hq)
  have hinj : ∀ i j, i ∈ os.map (·.1) ++ ks → j ∈ os.map (·.1) ++ ks → rn ρ i = rn ρ j → i = j := fun i j hi hj e => by
    have h3 := List.all_eq_true.1 (List.all_eq_true.1 c1 i hi) j hj
    rw [Bool.or_eq_true, Bool.not_eq_true'] at h3
    rcases h3 with h | h
    · exact Nat.eq_of_beq_eq_true h
    · rw [e, Nat.beq_refl] at h; cases h
  have hok' : callOK s' ρ js (os.map (·.1)) pins ks = true := by
    unfold callOK
    rw [Bool.and_eq_true, Bool.and_eq_true]
    refine ⟨⟨c1, ?_⟩, ?_⟩
    · rw [List.all_eq_true] at c2 ⊢
      intro i hi
      have := c2 i hi
      rw [Bool.or_eq_true] at this ⊢
      exact this.imp (fun h => h) fun h => hfr _ (inL_iff.1 h)
    · rw [List.all_eq_true] at c5 ⊢
      intro i hi
      have := c5 i hi
      rw [Bool.or_eq_true, Bool.or_eq_true] at this
      rw [Bool.or_eq_true]
      rcases this with (h | h) | h
      · exact .inl h
      · refine .inr ?_
        have hf := hfr _ (inL_iff.1 h)
        rw [Bool.and_eq_true]
        refine ⟨chk_junks js hf, ?_⟩
        simp only [PState.fresh, Bool.and_eq_true, List.all_eq_true] at hf
        rw [List.all_eq_true]
        intro y hy
        rw [Bool.or_eq_true]
        exact .inl (hf.2 y hy).2
      · refine .inr ?_
        obtain ⟨a, ha1, ha2⟩ := List.any_eq_true.1 h
        simp only [Bool.and_eq_true, beq_iff_eq] at ha2
        have hx := hal a ha1
        rw [Nat.eq_of_beq_eq_true ha2.1, ha2.2] at hx
        unfold PState.aloneX at hx
        rw [Bool.and_eq_true, junks_objs] at hx
        rw [Bool.and_eq_true]
        refine ⟨hx.1, ?_⟩
        rw [List.all_eq_true] at c4
        have hx2 := hx.2
        rw [List.all_eq_true] at hx2 ⊢
        intro y hy
        have := hx2 y hy
        rw [Bool.or_eq_true] at this ⊢
        rcases this with h | h
        · exact .inr (c4 _ (inL_iff.1 h))
        · exact .inl h
  have hl := LR.callObj (P := P) (ctx := ctx) (dst := dst) (ty := ty) (pos := pos) (after := after) (gd := gd) (ats := ats) ρ js ks hc hK h1 he h2 hq (hos.keep (fun hi hl => ho (inL_iff.1 hi) hl) c6) hks hcl hr hok'
  have hAS' : AllOb s' ρ osS := hAS.keep (f := f) (fun hi hl => ho (inL_iff.1 hi) hl) (by
    rw [List.all_eq_true] at c6 hSo ⊢
    exact fun i hi => c6 i (inL_iff.1 (hSo i hi)))
  refine hl.post (Sub.drop ?_ ?_ ?_)
  · cases dst <;> rfl
  · intro i p hp
    have hat := at_get hp
    have hlt : i < s'.n := at_lt (s := s'.app (effO ρ js dst r osV)) hp
    refine at_of (by cases dst <;> exact hlt) ?_
    simp only [PState.app, effO] at hat
    cases dst with
    | none => simpa [dstL, PState.putD, PState.callO, junks_sl] using hat
    | some d => simpa [dstL, PState.putD, PState.put, PState.callO, junks_sl] using hat
  · intro id o hlo
    have e1 : (s'.app (effO ρ js dst r osV)).objs = osV.foldr (fun x l => putO (rn ρ x.1) (x.2.ren ρ) l) s'.objs := by
      simp only [PState.app, effO, List.foldr_map]
    have e2 : ((s'.callO ρ js os os').putD dst (r.ren ρ)).objs = os'.foldr (fun x l => putO (rn ρ x.1) (x.2.ren ρ) l) (os.foldr (fun x l => delO (rn ρ x.1) l) s'.objs) := by cases dst <;> rfl
    rw [e1] at hlo
    rw [e2]
    have inj' : ∀ i, i ∈ os'.map (·.1) → ∀ j ∈ os'.map (·.1), rn ρ j = rn ρ i → j = i := fun i hi j hj e => hinj j i (List.mem_append_right _ (hks ▸ hj)) (List.mem_append_right _ (hks ▸ hi)) e
    rcases lookR hlo with ⟨i, o1, h3, h4, h5⟩ | ⟨h3, h4⟩
    · have h6 := hV.get i o1 h3
      rw [h4, h5]
      exact lookF h6 (inj' i (look_key h6))
    · by_cases hex : ∃ i ∈ os'.map (·.1), rn ρ i = id
      · obtain ⟨i, hi, rfl⟩ := hex
        have h5 := List.all_eq_true.1 hcov i hi
        rw [Bool.or_eq_true] at h5
        rcases h5 with h5 | h5
        · exact absurd rfl (h3 i (inL_iff.1 h5))
        · obtain ⟨o2, h6⟩ := key_look (inL_iff.1 h5)
          have h7 := hAS'.get i o2 h6
          rw [h4] at h7
          cases h7
          exact lookF (hS.get i o2 h6) (inj' i hi)
      · rw [lookN fun i hi e => hex ⟨i, hi, e⟩, lookDN fun i hi e => hex ⟨i, by rw [hks]; exact inL_iff.1 (List.all_eq_true.1 c3 i hi), e⟩]
        exact h4
end
section
variable {P : Program} {ctx : Ctx} {s : PState}
variable {dst : Option Tmp} {ty : TypeId} {pos : String} {after : Array Edge} {gd : Option (Nat × Bool)}
theorem callO_sub {os os' : List (Nat × Ob)} {pins : List Nat} {r : PV} (ρ : List (Nat × Nat)) (js ks : List Nat) (osV osS : List (Nat × Ob)) (hV : LookIn os' osV) (hS : LookIn os' osS) (hAS : AllOb s ρ osS) (hcov : (os'.map (·.1)).all (fun i => inL (osV.map (·.1)) i || inL (osS.map (·.1)) i) = true) (c3 : (os.map (·.1)).all (inL ks) = true)
    (hks : os'.map (·.1) = ks) (hok : callOK s ρ js (os.map (·.1)) pins ks = true) : Sub ctx ((s.callO ρ js os os').putD dst (r.ren ρ)) (s.app (effO ρ js dst r osV)) := by
  have hinj : ∀ i j, i ∈ os.map (·.1) ++ ks → j ∈ os.map (·.1) ++ ks → rn ρ i = rn ρ j → i = j := fun i j hi hj e => by
    simp only [callOK, Bool.and_eq_true] at hok
    have h3 := List.all_eq_true.1 (List.all_eq_true.1 hok.1.1 i hi) j hj
    rw [Bool.or_eq_true, Bool.not_eq_true'] at h3
    rcases h3 with h | h
    · exact Nat.eq_of_beq_eq_true h
    · rw [e, Nat.beq_refl] at h; cases h
  refine Sub.drop ?_ ?_ ?_
  · cases dst <;> rfl
  · intro i p hp
    have hat := at_get hp
    have hlt : i < s.n := at_lt (s := s.app (effO ρ js dst r osV)) hp
    refine at_of (by cases dst <;> exact hlt) ?_
    simp only [PState.app, effO] at hat
    cases dst with
    | none => simpa [dstL, PState.putD, PState.callO, junks_sl] using hat
    | some d => simpa [dstL, PState.putD, PState.put, PState.callO, junks_sl] using hat
  · intro id o hlo
    have e1 : (s.app (effO ρ js dst r osV)).objs = osV.foldr (fun x l => putO (rn ρ x.1) (x.2.ren ρ) l) s.objs := by
      simp only [PState.app, effO, List.foldr_map]
    have e2 : ((s.callO ρ js os os').putD dst (r.ren ρ)).objs = os'.foldr (fun x l => putO (rn ρ x.1) (x.2.ren ρ) l) (os.foldr (fun x l => delO (rn ρ x.1) l) s.objs) := by cases dst <;> rfl
    rw [e1] at hlo
    rw [e2]
    have inj' : ∀ i, i ∈ os'.map (·.1) → ∀ j ∈ os'.map (·.1), rn ρ j = rn ρ i → j = i := fun i hi j hj e => hinj j i (List.mem_append_right _ (hks ▸ hj)) (List.mem_append_right _ (hks ▸ hi)) e
    rcases lookR hlo with ⟨i, o1, h3, h4, h5⟩ | ⟨h3, h4⟩
    · have h6 := hV.get i o1 h3
      rw [h4, h5]
      exact lookF h6 (inj' i (look_key h6))
    · by_cases hex : ∃ i ∈ os'.map (·.1), rn ρ i = id
      · obtain ⟨i, hi, rfl⟩ := hex
        have h5 := List.all_eq_true.1 hcov i hi
        rw [Bool.or_eq_true] at h5
        rcases h5 with h5 | h5
        · exact absurd rfl (h3 i (inL_iff.1 h5))
        · obtain ⟨o2, h6⟩ := key_look (inL_iff.1 h5)
          have h7 := hAS.get i o2 h6
          rw [h4] at h7
          cases h7
          exact lookF (hS.get i o2 h6) (inj' i hi)
      · rw [lookN fun i hi e => hex ⟨i, hi, e⟩, lookDN fun i hi e => hex ⟨i, by rw [hks]; exact inL_iff.1 (List.all_eq_true.1 c3 i hi), e⟩]
        exact h4
theorem LR.callObjS {x : Operand} {xs : List Operand} {ats : Array TypeId} {fn : FuncId} {ps qs : List PV} {os os' : List (Nat × Ob)} {pins : List Nat} {r : PV} (ρ : List (Nat × Nat)) (js ks : List Nat) (osV osS : List (Nat × Ob))
    (hc : PObj P fn ps os pins r (fun _ : Unit => os')) (hK : ∀ b, ctx.K b → ctx.S b) (hx : s.ev x = some (.d (.v (.func (.func fn) #[] #[])))) (he : ∀ args w, (callFunc fn args).run P w = .ok (.enter fn args) w) (hps : s.evs xs = some qs)
    (hq : qs.map PV.nilD = ps.map (PV.ren ρ)) (hos : AllOb s ρ os) (hV : LookIn os' osV) (hS : LookIn os' osS) (hAS : AllOb s ρ osS) (hcov : (os'.map (·.1)).all (fun i => inL (osV.map (·.1)) i || inL (osS.map (·.1)) i) = true) (c3 : (os.map (·.1)).all (inL ks) = true)
    (hks : os'.map (·.1) = ks) (hcl : os'.all (fun x => x.2.named ks) = true) (hr : r.named ks = true) (hok : callOK s ρ js (os.map (·.1)) pins ks = true) :
    Local P ctx ⟨dst, .call ⟨.value x, xs.toArray, ats⟩, ty, pos, after, gd⟩ s (s.app (effO ρ js dst r osV)) :=
  (LR.callObj (P := P) (ctx := ctx) (dst := dst) (ty := ty) (pos := pos) (after := after) (gd := gd) (ats := ats) ρ js ks hc hK hx he hps hq hos hks hcl hr hok).post (callO_sub ρ js ks osV osS hV hS hAS hcov c3 hks hok)
theorem PWl.callObjS {G : Type} {Q : PQ} {ops : Array Oper} {rest : List Oper} {x : Operand} {xs : List Operand} {ats : Array TypeId} {fn : FuncId} {ps qs : List PV} {os : List (Nat × Ob)} {os' : G → List (Nat × Ob)} {pins : List Nat} {r : PV} (ρ : List (Nat × Nat)) (js ks : List Nat) (osV : G → List (Nat × Ob)) (osS : List (Nat × Ob))
    (hc : PObj P fn ps os pins r os') (hK : ∀ b, ctx.K b → ctx.S b) (hx : s.ev x = some (.d (.v (.func (.func fn) #[] #[])))) (he : ∀ args w, (callFunc fn args).run P w = .ok (.enter fn args) w) (hps : s.evs xs = some qs)
    (hq : qs.map PV.nilD = ps.map (PV.ren ρ)) (hos : AllOb s ρ os) (hV : ∀ gh, LookIn (os' gh) (osV gh)) (hS : ∀ gh, LookIn (os' gh) osS) (hAS : AllOb s ρ osS) (hcov : ∀ gh, ((os' gh).map (·.1)).all (fun i => inL ((osV gh).map (·.1)) i || inL (osS.map (·.1)) i) = true) (c3 : (os.map (·.1)).all (inL ks) = true)
    (hks : ∀ gh, (os' gh).map (·.1) = ks) (hcl : ∀ gh, (os' gh).all (fun x => x.2.named ks) = true) (hr : r.named ks = true) (hok : callOK s ρ js (os.map (·.1)) pins ks = true) (hgd : gd = none)
    (h : ∀ gh, PWl P ctx ops Q rest (s.app (effO ρ js dst r (osV gh)))) : PWl P ctx ops Q (⟨dst, .call ⟨.value x, xs.toArray, ats⟩, ty, pos, after, gd⟩ :: rest) s :=
  PWl.callObj ρ js ks hc hK hx he hps hq hos hks hcl hr hok hgd fun gh => PWl.sub (callO_sub ρ js ks (osV gh) osS (hV gh) (hS gh) hAS (hcov gh) c3 (hks gh) hok) (h gh)
/-- Data behind a row of one's own: taken as data. -/
theorem LR.appTD {α : Type} {enc : α → List DV} {L R : List α} {x y : Operand} {id m k bs' : Nat} {t t' e e' : TypeId} (js : List Nat) (hK : ∀ b, ctx.K b → ctx.S b) (hE : ElemOK P t e k bs') (hu' : P.underlying t' = some (.slice e')) (hx : s.ev x = some (.row id m)) (hm : m = L.length)
    (hl : look s.objs id = some (.row e k (L.map enc))) (hy : Src ctx s y (R.map enc) k) (hk : ∀ x, (enc x).length = k) (hb : (L.length + R.length) * bs' ≤ 140737488355328) (h1 : Nat.ble 1 bs' = true) (ha : (s.junks js).alone id = true) :
    Local P ctx ⟨dst, .call ⟨.builtin .append, #[x, y], #[t, t']⟩, ty, pos, after, gd⟩ s (((s.junks js).setO id (.row e k [])).putD dst (.d (.sl ((L ++ R).map enc)))) := by
  refine (LR.appT (enc := enc) (L := L) (R := R) (dst := dst) js hE hu' hx hm hl hy hk hb h1 ha).post ?_
  rintro a w ⟨g, hg⟩
  have hl1 : look (((s.junks js).setO id (.row e k ((L ++ R).map enc))).putD dst (.row id (L ++ R).length)).objs id = some (.row e k ((L ++ R).map enc)) := by
    rw [putD_objs]; show look (putO id _ _) id = _; rw [look_putO, if_pos rfl]
  have hha : ∀ i p, i < s.n → getS (s.junks js).sl i = some p → p.has id = false := fun i p hi hp => by
    have : (s.junks js).at i = some p := at_of (by rw [junks_n]; exact hi) hp
    exact alone_slot ha this
  -- the row becomes data
  have hs2 : ∃ g', RelG ctx g' { n := s.n, sl := dstL dst (PV.d (.sl ((L ++ R).map enc))) ++ (s.junks js).sl, objs := delO id (s.junks js).objs } a w := by
    cases dst with
    | none =>
      have := Sub.frz (s := ((s.junks js).setO id (.row e k ((L ++ R).map enc))).putD none (.row id (L ++ R).length)) (ctx := ctx) (n := (L ++ R).length) [] hK hl1 (by simp) (by simp) a w ⟨g, hg⟩
      refine Sub.same ?_ ?_ (fun i => ?_) a w this
      · simp [PState.frz, PState.putD, PState.setO, junks_n]
      · rfl
      · show look (delO id (putO id _ _)) i = look (delO id _) i
        rw [look_delO, look_delO, look_putO]
        by_cases h : i = id <;> simp [h]
    | some d =>
      by_cases hd : d < s.n
      · have := Sub.frz (s := ((s.junks js).setO id (.row e k ((L ++ R).map enc))).putD (some d) (.row id (L ++ R).length)) (ctx := ctx) (n := (L ++ R).length) [d] hK hl1 (by simp) (by
          intro j hj
          rw [List.mem_singleton] at hj
          subst hj
          refine at_of (by show j < (s.junks js).n; rw [junks_n]; exact hd) ?_
          show getS ((j, _) :: _) j = _
          rw [getS_cons, if_pos rfl]) a w ⟨g, hg⟩
        refine Sub.drop ?_ (fun i p hp => ?_) (fun i o ho => ?_) a w this
        · simp [PState.frz, PState.putD, PState.put, PState.setO, junks_n]
        · have h1 : getS ((d, PV.d (.sl ((L ++ R).map enc))) :: (s.junks js).sl) i = some p := at_get hp
          have h2 := at_lt hp
          refine at_of (by show i < (s.junks js).n; rw [junks_n]; exact h2) ?_
          show getS ((d, _) :: (d, _) :: _) i = some p
          simp only [getS_cons] at h1 ⊢
          split
          · rename_i e; rw [if_pos e] at h1; exact h1
          · rename_i e; rw [if_neg e] at h1; exact h1
        · show look (delO id (putO id _ _)) i = some o
          have ho' : look (delO id (s.junks js).objs) i = some o := ho
          rw [look_delO, look_putO]
          rw [look_delO] at ho'
          by_cases h : i = id <;> simp_all
      · have := Sub.frz (s := ((s.junks js).setO id (.row e k ((L ++ R).map enc))).putD (some d) (.row id (L ++ R).length)) (ctx := ctx) (n := (L ++ R).length) [] hK hl1 (by simp) (by simp) a w ⟨g, hg⟩
        refine Sub.drop ?_ (fun i p hp => ?_) (fun i o ho => ?_) a w this
        · simp [PState.frz, PState.putD, PState.put, PState.setO, junks_n]
        · have h1 : getS ((d, PV.d (.sl ((L ++ R).map enc))) :: (s.junks js).sl) i = some p := at_get hp
          have h2 : i < s.n := at_lt (s := { n := s.n, sl := dstL (some d) (PV.d (.sl ((L ++ R).map enc))) ++ (s.junks js).sl, objs := delO id (s.junks js).objs }) hp
          refine at_of (by show i < (s.junks js).n; rw [junks_n]; exact h2) ?_
          show getS ((d, _) :: _) i = some p
          simp only [getS_cons] at h1 ⊢
          have hne : ¬ d = i := fun e => hd (by rw [e]; exact h2)
          rw [if_neg hne] at h1 ⊢
          exact h1
        · show look (delO id (putO id _ _)) i = some o
          have ho' : look (delO id (s.junks js).objs) i = some o := ho
          rw [look_delO, look_putO]
          rw [look_delO] at ho'
          by_cases h : i = id <;> simp_all
  obtain ⟨g', hg'⟩ := hs2
  have hfr : PState.fresh { n := s.n, sl := dstL dst (PV.d (.sl ((L ++ R).map enc))) ++ (s.junks js).sl, objs := delO id (s.junks js).objs } id = true := by
    unfold PState.fresh
    rw [Bool.and_eq_true]
    unfold PState.alone at ha
    rw [Bool.and_eq_true] at ha
    refine ⟨chkS_of fun x hx hh q hq => ?_, List.all_eq_true.2 fun x hx => ?_⟩
    · cases dst with
      | none => exact chkS_mem ha.1 hx hq hh
      | some d =>
        have hq : getS ((d, PV.d (.sl ((L ++ R).map enc))) :: (s.junks js).sl) x.1 = some q := hq
        rcases List.mem_cons.1 hx with h | h
        · rw [h] at hh; simp [PV.has] at hh
        · simp only [getS_cons] at hq
          split at hq
          · cases hq; rfl
          · exact chkS_mem ha.1 h hq hh
    · have h2 := delO_mem hx
      have h3 := List.all_eq_true.1 ha.2 x h2.2
      simp [h2.1, h3]
  have h3 := hg'.new (Below.refl _ w) hfr none (fun b n e => by cases e) (.row e k []) (.rowNil e k (upd_same _ _ _))
  refine Sub.drop ?_ (fun i p hp => ?_) (fun i o ho => ?_) a w ⟨_, h3⟩
  · cases dst <;> simp [PState.putD, PState.put, PState.setO, junks_n]
  · have h1 := at_get hp
    have h2 : i < s.n := by have := at_lt hp; cases dst <;> simpa [PState.putD, PState.put, PState.setO, junks_n] using this
    refine at_of h2 ?_
    cases dst <;> exact h1
  · show look (putO id _ (delO id _)) i = some o
    rw [putD_objs] at ho
    have ho' : look (putO id (.row e k []) (s.junks js).objs) i = some o := ho
    rw [look_putO, look_delO]
    rw [look_putO] at ho'
    by_cases h : i = id <;> simp_all
end
end Go.Ep

namespace Go.Ep
open Go.RowKit
section
variable {P : Program} {ctx : Ctx} {Q : PQ} {s : PState}
variable {dst : Option Tmp} {ty : TypeId} {pos : String} {after : Array Edge} {gd : Option (Nat × Bool)}
theorem EpRd.of {w : World} {g : Ghost} {S : Nat → Prop} {ds : List DV} {u : Value} (h : Rd w g S (.ep ds 0) u) : EpRd w S ds u := by
  cases h with
  | ep _ b off _ c hS hb hc hr => exact ⟨b, off, c, rfl, hS, hb, hc, hr⟩
theorem EpRd.rd {w : World} {g : Ghost} {S : Nat → Prop} {ds : List DV} {u : Value} (h : EpRd w S ds u) : Rd w g S (.ep ds 0) u := by
  obtain ⟨b, off, c, rfl, hS, hb, hc, hr⟩ := h
  exact .ep ds b off 0 c hS hb hc hr
end
section
variable {ctx : Ctx} {s : PState}
inductive AllRef (s : PState) (id : Nat) : List Nat → Prop
  | nil : AllRef s id []
  | cons {j : Nat} {js : List Nat} (h : s.at j = some (.ref id 0)) (r : AllRef s id js) : AllRef s id (j :: js)
theorem AllRef.get {id : Nat} {js : List Nat} (h : AllRef s id js) : ∀ j ∈ js, s.at j = some (.ref id 0) := by
  induction h with
  | nil => intro j hj; cases hj
  | cons h _ ih =>
    intro j hj
    rcases List.mem_cons.1 hj with rfl | hj
    · exact h
    · exact ih j hj
end
inductive LendL (s : PState) : List PV → List PV → Prop
  | nil : LendL s [] []
  | data {q p : PV} {qs ps : List PV} (h : q.nilD = p) (hd : p.isData = true) (t : LendL s qs ps) : LendL s (q :: qs) (p :: ps)
  | row {id n k : Nat} {e : TypeId} {l : List (List DV)} {qs ps : List PV} (hl : look s.objs id = some (.row e k l)) (hn : l.length = n) (t : LendL s qs ps) : LendL s (.row id n :: qs) (.d (.sl l) :: ps)
section
variable {P : Program} {ctx : Ctx} {Q : PQ} {s : PState}
variable {dst : Option Tmp} {ty : TypeId} {pos : String} {after : Array Edge} {gd : Option (Nat × Bool)}
def LentS (ctx : Ctx) (g : Ghost) (s : PState) (b : Nat) : Prop := Free ctx g s.objs b ∨ ∃ id o n, look s.objs id = some o ∧ g id = some (b, n)
theorem LendL.rd {g : Ghost} {a : Act} {w : World} (hg : RelG ctx g s a w) {qs ps : List PV} (h : LendL s qs ps) : ∀ (vs : List Value), qs.length = vs.length → (∀ (i : Nat) (q : PV) (v : Value), qs[i]? = some q → vs[i]? = some v → Rd w g (Free ctx g s.objs) q v) →
    ps.length = vs.length ∧ ∀ (i : Nat) (p : PV) (v : Value), ps[i]? = some p → vs[i]? = some v → Rd w g0 (LentS ctx g s) p v := by
  have hst : Stays w w (Free ctx g s.objs) := ⟨Nat.le_refl _, fun _ _ _ => rfl⟩
  induction h with
  | nil => intro vs hl _; exact ⟨hl, fun i p v hp => by simp at hp⟩
  | @data q p qs ps h hd _ ih =>
    intro vs hl hr
    cases vs with
    | nil => simp at hl
    | cons v vs =>
      obtain ⟨h1, h2⟩ := ih vs (by simpa using hl) (fun i q u hq hu => hr (i + 1) q u (by simpa using hq) (by simpa using hu))
      refine ⟨by simp [h1], fun i p' u hp hu => ?_⟩
      cases i with
      | zero =>
        simp at hp hu; subst hp; subst hu; subst h
        exact (((hr 0 q v rfl rfl).nilD).data hd g0).keep hst (fun b hb _ => .inl hb) (fun _ _ => rfl)
      | succ i => exact h2 i p' u (by simpa using hp) (by simpa using hu)
  | @row id n k e l qs ps hlk hn _ ih =>
    intro vs hl hr
    cases vs with
    | nil => simp at hl
    | cons v vs =>
      obtain ⟨h1, h2⟩ := ih vs (by simpa using hl) (fun i q u hq hu => hr (i + 1) q u (by simpa using hq) (by simpa using hu))
      refine ⟨by simp [h1], fun i p' u hp hu => ?_⟩
      cases i with
      | succ i => exact h2 i p' u (by simpa using hp) (by simpa using hu)
      | zero =>
        simp at hp hu; subst hp; subst hu
        have hq := hr 0 (.row id n) v rfl rfl
        have hob := hg.objs id _ hlk
        cases hob with
        | rowNil _ _ hgn =>
          cases hq with
          | row _ _ blk cap hgi => rw [hgn] at hgi; cases hgi
          | rowNil => exact .d (.nil none 0 (Nat.zero_le _) (fun _ => rfl))
        | row _ _ _ blk' cap' cur hgi hh hlc hcap hcs hkk hr' =>
          cases hq with
          | rowNil _ hgn => rw [hgn] at hgi; cases hgi
          | row _ _ blk cap hgi' =>
            rw [hgi] at hgi'
            cases hgi'
            subst hn
            have hown := hg.own id _ blk' cap' hlk hgi
            refine .d (.sl l blk' 0 cap' k (fun i j => cur.getD (i * k + j) undef) hlc hcap (.inr ⟨id, _, cap', hlk, hgi⟩) hown.1 hkk ?_ ?_)
            · intro i j hi hj
              have hlt : i * k + j < cur.length := by rw [hcs]; exact idx_lt (by omega) hj
              rw [cell_of_heap hh]
              simp [hlt]
            · intro i cs j x hi hx
              obtain ⟨u, hu, hd⟩ := hr' i cs j x hi hx
              have e : cur.getD (i * k + j) undef = u := by simp [List.getD, hu]
              show DRd w _ x (cur.getD (i * k + j) undef)
              rw [e]
              exact hd.keep hst (fun b hb _ => .inl hb)
end
end Go.Ep

namespace Go.Ep
open Go Go.RowKit
def aIx (o : Nat) (i : Int) : Nat := o + i.toNat
namespace AR
def pl (k : IntKind) (A : A16) : List PV := (l A).map fun n => .d (.v (.int k n))
theorem pl_get {k : IntKind} {A : A16} {i : Nat} (h : i < 16) : (pl k A)[i]? = some (.d (.v (.int k (get A i)))) := by
  unfold pl; rw [List.getElem?_map, get_lt h]; rfl
theorem at_ {cs : List PV} {o i : Nat} {k : IntKind} {A : A16} (h : (cs.drop o).take 16 = pl k A) (hi : i < 16) : cs[o + i]? = some (.d (.v (.int k (get A i)))) := by
  rw [← pl_get hi, ← h, List.getElem?_take, if_pos hi, List.getElem?_drop]
theorem room {cs : List PV} {o : Nat} {k : IntKind} {A : A16} (h : (cs.drop o).take 16 = pl k A) : o + 16 ≤ cs.length := by
  have e := congrArg List.length h
  rw [List.length_take, List.length_drop] at e
  have : (pl k A).length = 16 := rfl
  omega
theorem parts {cs : List PV} {o : Nat} {k : IntKind} {A : A16} (h : (cs.drop o).take 16 = pl k A) : cs = cs.take o ++ (pl k A ++ cs.drop (o + 16)) := by
  have e : cs.drop o = pl k A ++ cs.drop (o + 16) := by
    rw [← h, ← List.drop_drop, List.take_append_drop]
  rw [← e, List.take_append_drop]
theorem put {cs : List PV} {o i : Nat} {k : IntKind} {A : A16} {v : Int} (h : (cs.drop o).take 16 = pl k A) (hi : i < 16) :
    cs.take (o + i) ++ [.d (.v (.int k v))] ++ cs.drop (o + i + 1) = cs.take o ++ pl k (set A i v) ++ cs.drop (o + 16) := by
  have hr := room h
  have e1 : cs.take (o + i) ++ [.d (.v (.int k v))] ++ cs.drop (o + i + 1) = cs.set (o + i) (.d (.v (.int k v))) := by
    rw [List.set_eq_take_append_cons_drop, if_pos (by omega), List.append_assoc]; rfl
  have hl : (cs.take o).length = o := by rw [List.length_take]; omega
  have hp : (pl k A).length = 16 := rfl
  have e2 : cs.set (o + i) (.d (.v (.int k v))) = cs.take o ++ ((pl k A).set i (.d (.v (.int k v))) ++ cs.drop (o + 16)) := by
    conv => lhs; rw [parts h]
    rw [List.set_append_right _ _ (by omega), hl, show o + i - o = i by omega, List.set_append_left _ _ (by omega)]
  rw [e1, e2, ← List.append_assoc]
  congr 2
  unfold pl
  rw [l_set, List.map_set]
end AR
section
variable {P : Program} {ctx : Ctx} {Q : PQ} {s : PState}
variable {dst : Option Tmp} {ty : TypeId} {pos : String} {after : Array Edge} {gd : Option (Nat × Bool)}
theorem run_indexArr {t e : TypeId} {n k : Nat} (hu : P.underlying t = some (.array n e)) (h2 : 1 < n) (hs : ∀ w, (sizeOf e).run P w = .ok k w) (b off : Nat) (ki : IntKind) (i : Int) (hi : 0 ≤ i ∧ i < (n : Int)) (w : World) :
    (Instr.indexAt t (.pointer (some ⟨b, off, none⟩)) (.int ki i)).run P w = .ok (.pointer (some ⟨b, off + i.toNat * k, none⟩)) w := by
  simp [Instr.indexAt, asIntOf, run_underlying hu, hi.1, hi.2, hs, Addr.add_lit, Result.andThen, Instr.sureAddr]
theorem LR.idxArr {x ix : Operand} {id o n : Nat} {ki : IntKind} {i : Int} {t e : TypeId} (hu : P.underlying t = some (.array n e)) (h2 : Nat.blt 1 n = true) (hs : ∀ w, (sizeOf e).run P w = .ok 1 w)
    (hx : s.ev x = some (.ref id o)) (hix : s.ev ix = some (.d (.v (.int ki i)))) (hi : 0 ≤ i ∧ i < (n : Int)) :
    Local P ctx ⟨dst, .indexAddr t x ix, ty, pos, after, gd⟩ s (s.putD dst (.ref id (aIx o i))) :=
  local_pure (o := ⟨dst, .indexAddr t x ix, ty, pos, after, gd⟩) fun a w g hg => by
    have h := hg.ev hx
    generalize hv : a.eval x = v at h
    cases h with
    | ref _ _ blk m hgi =>
      refine ⟨.pointer (some ⟨blk, aIx o i, none⟩), ?_, .ref id _ blk m hgi⟩
      have := run_indexArr (P := P) hu (by simpa [Nat.blt_eq] using h2) hs blk o ki i hi w
      rw [Nat.mul_one] at this
      simp [execOp, hv, ev_int hg hix, this, Result.andThen, aIx]
theorem LR.loadArr {x : Operand} {id o : Nat} {i : Int} {T T0 : TypeId} {cs : List PV} (k : IntKind) (A : A16) (ha : ∀ w, (isAgg T).run P w = .ok false w) (hx : s.ev x = some (.ref id (aIx o i))) (hl : look s.objs id = some (.cells T0 cs))
    (hi : 0 ≤ i ∧ i < ((16 : Nat) : Int)) (hA : (cs.drop o).take 16 = AR.pl k A) :
    Local P ctx ⟨dst, .load T x, ty, pos, after, gd⟩ s (s.putD dst (.d (.v (.int k (AR.get A i.toNat))))) := LR.loadRef ha hx hl (AR.at_ hA (AR.lt hi))
theorem LR.storeArr {x y : Operand} {id o : Nat} {i v : Int} {T T0 : TypeId} {cs ns : List PV} (k : IntKind) (A : A16) (hs : ∀ w, (sizeOf T).run P w = .ok 1 w) (hx : s.ev x = some (.ref id (aIx o i))) (hy : s.ev y = some (.d (.v (.int k v)))) (hl : look s.objs id = some (.cells T0 cs))
    (hi : 0 ≤ i ∧ i < ((16 : Nat) : Int)) (hA : (cs.drop o).take 16 = AR.pl k A) (hns : cs.take o ++ AR.pl k (AR.set A i.toNat v) ++ cs.drop (o + 16) = ns) :
    Local P ctx ⟨none, .store T x y, ty, pos, after, gd⟩ s (s.setO id (.cells T0 ns)) := by
  have h16 := AR.lt hi
  have hr := AR.room hA
  exact LR.store (ps := [.d (.v (.int k v))]) hs hx hy rfl rfl hl (by unfold aIx; omega) (by rw [← hns, ← AR.put hA h16]; rfl)
theorem LR.sliceArr {x : Operand} {id o n k : Nat} {t e : TypeId} (hu : P.underlying t = some (.array n e)) (hs : ∀ w, (sizeOf e).run P w = .ok k w) (hx : s.ev x = some (.ref id o)) :
    Local P ctx ⟨dst, .slice t x none none none, ty, pos, after, gd⟩ s (s.putD dst (.pa id o n)) :=
  local_pure (o := ⟨dst, .slice t x none none none, ty, pos, after, gd⟩) fun a w g hg => by
    have h := hg.ev hx
    generalize hv : a.eval x = v at h
    cases h with
    | ref _ _ blk m hgi =>
      refine ⟨.slice (some ⟨blk, o, none⟩) n n, ?_, .pa id o n blk m hgi⟩
      simp [execOp, hv, Instr.sliceAt, Instr.sureAddr, Instr.sliceBounds, run_underlying hu, hs, Addr.add_lit, Result.andThen]
theorem run_firstInts {w : World} {S : Nat → Prop} {k : IntKind} {L : List Int} {u : Value} (h : DRd w S (.sl (L.map (eK k))) u) {m : Nat} (hm : m ≤ L.length) :
    (Builtin.firstCells 1 m u).run P w = .ok ((L.take m).map (Value.int k)).toArray w ∧ ∃ ao cap, u = .slice ao L.length cap := by
  generalize hl : L.map (eK k) = l at h
  cases h with
  | nil a cap hc hn =>
    have hL : L = [] := by simpa using hl
    subst hL
    have h0 : m = 0 := by simpa using hm
    subst h0
    refine ⟨?_, a, cap, rfl⟩
    cases a with
    | none => simp [Builtin.firstCells]
    | some a => simpa [Builtin.firstCells] using run_loadCells_list (P := P) w a [] (fun j v hj => by simp at hj)
  | sl _ b off cap k' c hll hcap hS hb hkk hc hr =>
    subst hl
    refine ⟨?_, _, cap, by rw [List.length_map]⟩
    have key := run_loadCells_list (P := P) w ⟨b, off, none⟩ ((L.take m).map (Value.int k)) fun j v hj => by
      rw [List.getElem?_map, List.getElem?_take] at hj
      split at hj
      · rename_i hjm
        have hjl : j < L.length := by omega
        rw [List.getElem?_eq_getElem hjl] at hj
        simp only [Option.map_some, Option.some.injEq] at hj
        have hel : (L.map (eK k))[j]? = some (eK k L[j]) := by rw [List.getElem?_map, List.getElem?_eq_getElem hjl]; rfl
        have hk1 : k' = 1 := (hkk j _ hel).symm
        have h1 := hc j 0 (by rw [List.length_map]; exact hjl) (by omega)
        have h2 := hr j _ 0 (.v (.int k L[j])) hel rfl
        rw [hk1, Nat.mul_one, Nat.add_zero] at h1
        have h3 : c j 0 = .int k L[j] := by
          generalize c j 0 = z at h2
          cases h2 with
          | v => rfl
        rw [Addr.add_lit, h1, ← hj, h3]
      · cases hj
    rw [List.length_map, List.length_take, Nat.min_eq_left hm] at key
    simpa [Builtin.firstCells] using key
theorem LR.copyArr {x y : Operand} {id o : Nat} {T0 t1 t2 e : TypeId} {cs ns : List PV} (k : IntKind) (A : A16) {L : List Int} (hu : P.underlying t1 = some (.slice e)) (hs : ∀ w, (sizeOf e).run P w = .ok 1 w)
    (hx : s.ev x = some (.pa id o 16)) (hy : s.ev y = some (.d (.sl (L.map (eK k))))) (hl : look s.objs id = some (.cells T0 cs)) (hA : (cs.drop o).take 16 = AR.pl k A) (hns : cs.take o ++ AR.pl k (AR.over A L) ++ cs.drop (o + 16) = ns) :
    Local P ctx ⟨dst, .call ⟨.builtin .copy, #[x, y], #[t1, t2]⟩, ty, pos, after, gd⟩ s ((s.setO id (.cells T0 ns)).putD dst (.d (.v (.int .i64 (min L.length 16 : Nat))))) := by
  refine local_value (o := ⟨dst, .call ⟨.builtin .copy, #[x, y], #[t1, t2]⟩, ty, pos, after, gd⟩) fun a w g hg => ?_
  have hxv := hg.ev hx
  have hyv := hg.ev hy
  generalize hv : a.eval x = v at hxv
  generalize hv2 : a.eval y = v2 at hyv
  cases hyv with
  | d hyd =>
  obtain ⟨hf, ao, cap, rfl⟩ := run_firstInts (P := P) hyd (m := min L.length 16) (Nat.min_le_left _ _)
  cases hxv with
  | pa _ _ _ blk n hgi =>
    cases hg.objs id _ hl with
    | cells _ _ blk' n' us h' hh hulen hr h1 =>
      rw [hgi] at h'
      cases h'
      have hroom := AR.room hA
      let vs : List Value := (L.take (min L.length 16)).map (Value.int k)
      have hvl : vs.length = min L.length 16 := by simp only [vs, List.length_map, List.length_take]; omega
      have hv1 : ∀ u ∈ vs, u.oneCell' = true := fun u hu => by
        obtain ⟨i, _, rfl⟩ := List.mem_map.1 hu; rfl
      have hrun := run_storeCells_at P blk o T0 vs 0 us.toArray w hh (by simp; omega) hv1
      let new : List Value := us.take o ++ vs ++ us.drop (o + vs.length)
      have hrun' : (storeCells ⟨blk, o, none⟩ vs).run P w = .ok () (w.setRow blk new.toArray) := by
        simpa [new] using hrun
      refine ⟨.int .i64 (min L.length 16 : Nat), w.setRow blk new.toArray, ?_, g, ?_⟩
      · have hmin : Nat.min L.length 16 = min L.length 16 := rfl
        have hrun2 : (storeCells ⟨blk, o, none⟩ (List.take (min L.length 16) (List.map (Value.int k) L))).run P w = .ok () (w.setRow blk new.toArray) := by
          rw [← List.map_take]; exact hrun'
        simp [execOp, resolve, invoke, builtin, hv, hv2, Builtin.copy_, run_underlying hu, hs, Builtin.lenOf, hmin, hf, hrun2, Result.andThen, goInt]
      · have hown := hg.own id _ blk n hl hgi
        have hother : ∀ k, k < w.heap.size → k ≠ blk → (w.setRow blk new.toArray).heap[k]? = w.heap[k]? := fun k _ hne => setRow_other w blk k _ hne
        have hst : Stays w (w.setRow blk new.toArray) (Free ctx g s.objs) := ⟨by simp, fun b ⟨_, h2⟩ hlt => hother b hlt fun e => by subst e; exact h2 id _ n hl hgi⟩
        suffices hob : ObRd (w.setRow blk new.toArray) g (Free ctx g (putO id (.cells T0 ns) s.objs)) id (.cells T0 ns) from (hg.wrote (w' := w.setRow blk new.toArray) hl hgi rfl rfl rfl (by simp) hother hown.2 hob).put dst (.d (.v (.int .i64 (min L.length 16 : Nat)) rfl))
        have hF := free_put (ctx := ctx) (g := g) (ob' := .cells T0 ns) hl
        have hlt : (L.take 16) = L.take (min L.length 16) := by
          rcases Nat.le_total L.length 16 with h | h
          · rw [Nat.min_eq_left h, List.take_of_length_le h, List.take_of_length_le (Nat.le_refl _)]
          · rw [Nat.min_eq_right h]
        have hl16 : (L.take 16).length = min L.length 16 := by rw [List.length_take]; omega
        have hnl : ns = cs.take o ++ (vs.map fun u => PV.d (.v u)) ++ cs.drop (o + vs.length) := by
          rw [← hns]
          have e1 : AR.pl k (AR.over A L) = (vs.map fun u => PV.d (.v u)) ++ (AR.pl k A).drop (min L.length 16) := by
            unfold AR.pl
            rw [AR.l_over, List.map_append, List.map_drop, hl16, hlt]
            simp [vs, Function.comp_def]
          have e2 : cs.drop (o + vs.length) = (AR.pl k A).drop (min L.length 16) ++ cs.drop (o + 16) := by
            have hlo : (cs.take o).length = o := by rw [List.length_take]; omega
            have hp : (AR.pl k A).length = 16 := rfl
            conv => lhs; rw [AR.parts hA]
            rw [List.drop_append, List.drop_eq_nil_of_le (by omega), List.nil_append, hlo, show o + vs.length - o = min L.length 16 by omega, List.drop_append, show min L.length 16 - (AR.pl k A).length = 0 by omega, List.drop_zero]
          rw [e1, e2]
          simp only [List.append_assoc]
        refine .cells T0 _ blk n new hgi (heap_setRow_same hh) (by rw [hnl]; simp [new, hulen]) ?_ ?_
        · intro i q u hq hu
          rw [hnl] at hq
          have key : Rd w g (Free ctx g s.objs) q u := by
            simp only [new] at hu
            rw [List.append_assoc, List.getElem?_append] at hq hu
            have l1 : (cs.take o).length = o := by rw [List.length_take]; omega
            have l2 : (us.take o).length = o := by rw [List.length_take]; omega
            rw [l1] at hq; rw [l2] at hu
            by_cases h3 : i < o
            · rw [if_pos h3] at hq hu
              simp only [List.getElem?_take, h3, if_true] at hq hu
              exact hr i q u hq hu
            · rw [if_neg h3] at hq hu
              rw [List.getElem?_append] at hq hu
              rw [List.length_map] at hq
              by_cases h4 : i - o < vs.length
              · rw [if_pos h4] at hq hu
                rw [List.getElem?_map, hu] at hq
                simp only [Option.map_some, Option.some.injEq] at hq
                subst hq
                exact .d (.v _ (hv1 _ (List.mem_of_getElem? hu)))
              · rw [if_neg h4] at hq hu
                rw [List.getElem?_drop] at hq hu
                exact hr _ q u hq hu
          exact key.keep hst (fun b hb _ => hF b hb) (fun _ _ => rfl)
        · intro u hu
          simp only [new, List.append_assoc, List.mem_append] at hu
          rcases hu with hu | hu | hu
          · exact h1 u (List.mem_of_mem_take hu)
          · exact hv1 u hu
          · exact h1 u (List.mem_of_mem_drop hu)
/-- An array of one's own lent to a function that hands back a new row of numbers. -/
theorem LR.rowLendPa {id id2 o : Nat} {x y : Operand} {ats : Array TypeId} {f : FuncId} {e T0 : TypeId} {cs : List PV} {L : List Int} (k : IntKind) (A : A16) (hc : PRow P f [.d (.sl ((AR.l A).map (eK k)))] e 1 (L.map (eK k))) (hx : s.ev x = some (.d (.v (.func (.func f) #[] #[])))) (he : ∀ args w, (callFunc f args).run P w = .ok (.enter f args) w)
    (hy : s.ev y = some (.pa id2 o 16)) (hl : look s.objs id2 = some (.cells T0 cs)) (hA : (cs.drop o).take 16 = AR.pl k A) (hf : s.fresh id = true) :
    Local P ctx ⟨some id, .call ⟨.value x, #[y], ats⟩, ty, pos, after, gd⟩ s (s.newO id (.row e 1 (L.map (eK k))) (.row id L.length)) :=
  local_enter (o := ⟨some id, .call ⟨.value x, #[y], ats⟩, ty, pos, after, gd⟩) fun a w g hg => by
    refine ⟨f, _, exec_call (o := ⟨some id, .call ⟨.value x, #[y], ats⟩, ty, pos, after, gd⟩) rfl (ev_v hg hx) he w, ?_⟩
    have hyv := hg.ev hy
    have hob := hg.objs id2 _ hl
    rw [show (#[y].map a.eval : Array Value) = [a.eval y].toArray by simp]
    generalize hv : a.eval y = v at hyv
    cases hyv with
    | pa _ _ _ blk n hgi =>
    cases hob with
    | cells _ _ blk' n' us h' hh hulen hr h1 =>
    rw [hgi] at h'
    cases h'
    have hown := hg.own id2 _ blk n hl hgi
    have hroom := AR.room hA
    have hlen16 : ((AR.l A).map (eK k)).length = 16 := rfl
    have hd : DRd w (LentS ctx g s) (.sl ((AR.l A).map (eK k))) (.slice (some ⟨blk, o, none⟩) 16 16) := by
      have := DRd.sl (w := w) (S := LentS ctx g s) ((AR.l A).map (eK k)) blk o 16 1 (fun i _ => .int k (AR.get A i)) (by rw [hlen16]; omega) (by decide) (.inr ⟨id2, _, n, hl, hgi⟩) hown.1 (fun i cs' hi => ?_) (fun i j hi hj => ?_) (fun i cs' j x hi hx => ?_)
      · rwa [hlen16] at this
      · rw [List.getElem?_map] at hi
        cases hq : (AR.l A)[i]? with
        | none => rw [hq] at hi; cases hi
        | some q => rw [hq] at hi; simp only [Option.map_some, Option.some.injEq] at hi; subst hi; rfl
      · have hj0 : j = 0 := by omega
        subst hj0
        rw [hlen16] at hi
        rw [cell_of_heap hh, Nat.mul_one, Nat.add_zero]
        have h5 := AR.at_ hA hi
        have h6 : o + i < us.length := by rw [← hulen]; exact (List.getElem?_eq_some_iff.1 h5).1
        have h7 : us[o + i]? = some us[o + i] := List.getElem?_eq_getElem h6
        have h8 := hr _ _ _ h5 h7
        rw [h7]
        generalize us[o + i] = z at h8
        cases h8 with
        | d h => cases h with
          | v => rfl
      · have hi16 : i < 16 := by have := (List.getElem?_eq_some_iff.1 hi).1; rwa [hlen16] at this
        rw [List.getElem?_map, AR.get_lt hi16] at hi
        simp only [Option.map_some, Option.some.injEq] at hi
        subst hi
        cases j with
        | zero => simp [eK] at hx; subst hx; exact .v _ rfl
        | succ j => simp [eK] at hx
    refine (hc w (LentS ctx g s) [.slice (some ⟨blk, o, none⟩) 16 16] rfl (fun i p u hp hu => ?_)).mono fun en w' ⟨u, he, hb, hru⟩ => ⟨u, he, ?_⟩
    · cases i with
      | zero => simp at hp hu; subst hp; subst hu; exact .d hd
      | succ i => simp at hp
    generalize hLe : L.map (eK k) = l at hru
    have hll : l.length = L.length := by rw [← hLe, List.length_map]
    rw [← hll]
    cases hru with
    | nil =>
      exact ⟨upd g id none, (hg.new hb hf none (fun b n e => by cases e) (.row e 1 []) (.rowNil e 1 (upd_same _ _ _))).put (some id) (.rowNil id (upd_same _ _ _))⟩
    | row _ blk2 cap cur hbase hh2 hlc hcap hcs hk hr2 =>
      have hlt : blk2 < w'.heap.size := (Array.getElem?_eq_some_iff.1 hh2).1
      refine ⟨upd g id (some (blk2, cap)), (hg.new hb hf (some (blk2, cap)) (fun b n e => by cases e; exact ⟨hbase, hlt⟩) (.row e 1 l) ?_).put (some id) (.row id _ blk2 cap (upd_same _ _ _))⟩
      refine .row e 1 l blk2 cap cur (upd_same _ _ _) hh2 hlc hcap hcs hk fun i cs' j x hi hx => ?_
      obtain ⟨u2, hu2, hd2⟩ := hr2 i cs' j x hi hx
      refine ⟨u2, hu2, ?_⟩
      subst hLe
      rw [List.getElem?_map] at hi
      cases hq : L[i]? with
      | none => rw [hq] at hi; cases hi
      | some q =>
        rw [hq] at hi
        simp only [Option.map_some, Option.some.injEq] at hi
        subst hi
        cases j with
        | zero =>
          simp [eK] at hx
          subst hx
          cases hd2 with
          | v _ h => exact .v _ h
        | succ j => simp [eK] at hx
end
section
variable {P : Program} {ctx : Ctx} {Q : PQ} {s : PState}
variable {dst : Option Tmp} {ty : TypeId} {pos : String} {after : Array Edge} {gd : Option (Nat × Bool)}
variable {κ ν : Type} [DecidableEq κ] {eK : κ → List Int} {eV : ν → List DV} {m : List (κ × ν)} {q : κ} (inj : ∀ a b, eK a = eK b → a = b)
variable {x kx : Operand} {t kt et : TypeId} {ks : List IntKind} {ag : Bool} {kp : PV} {id : Nat} {nl : Bool}
include inj in
theorem LR.setH {vx : Operand} {v : ν} {pv : PV} (hu : P.underlying t = some (.map kt et)) (K : KeyOK P kt ks) (hx : s.ev x = some (.mp id)) (hl : look s.objs id = some (.mapH nl ks ag (encM eK eV m)))
    (hk : s.ev kx = some kp) (hkp : kp = keyP ks (eK q)) (hn : (eK q).length = ks.length) (hv : s.ev vx = some pv) (hq : elP ag (eV v) = pv) (h1 : ag = false → (eV v).length = 1) (hnl : nl = false) :
    Local P ctx ⟨none, .mapUpdate t x kx vx, ty, pos, after, gd⟩ s (s.setO id (.mapH nl ks ag (encM eK eV (AL.set m q v)))) := by
  subst hnl
  refine Local.openH hl fun bs ck => Local.pre (Sub.trans (Sub.mapF (id := id) (by show look (putO id _ _) id = _; rw [look_putO, if_pos rfl]) rfl) (Sub.same (t := { s with objs := putO id (.map ks ag (encM eK eV m) bs ck) s.objs }) rfl rfl fun i => by
    show look (putO id _ (putO id _ _)) i = look (putO id _ _) i
    rw [look_put2])) ((LR.setM (m := m) (bs := bs) (ck := ck) (id := id) inj hu K (by rw [ev_objs]; exact hx) (by show look (putO id _ _) id = _; rw [look_putO, if_pos rfl]) (by rw [ev_objs]; exact hk) hkp hn (by rw [ev_objs]; exact hv) hq h1).post
    (Sub.trans (Sub.toH (id := id) (by show look (putO id _ _) id = _; rw [look_putO, if_pos rfl])) (Sub.same rfl rfl fun i => by
      show look (putO id _ (putO id _ (putO id _ _))) i = look (putO id _ _) i
      rw [look_put2, look_putO, look_putO, look_putO]
      by_cases h : i = id <;> simp [h])))
end
end Go.Ep

namespace Go.Ep
def L26Act.e (x : L26Act) : List DV := [.v (.int .u8 x.kind), .v (.int .u8 x.slot), .v (.int .u64 x.try_), .v (.int .u16 x.dev), .v (.int .u64 x.epoch)]
def L26Act.v (x : L26Act) : List Value := [(.int .u8 x.kind), (.int .u8 x.slot), (.int .u64 x.try_), (.int .u16 x.dev), (.int .u64 x.epoch)]
theorem L26Act.v1 (x : L26Act) : ∀ u ∈ x.v, u.oneCell' = true := by
  intro u hu
  simp only [L26Act.v, List.mem_cons, List.not_mem_nil, or_false] at hu
  rcases hu with rfl | rfl | rfl | rfl | rfl <;> rfl
def L26Act.k (x : L26Act) : List Int := [x.kind, x.slot, x.try_, x.dev, x.epoch]
def TMember.e (x : TMember) : List DV := [.v (.int .u16 x.dev), .v (.int .u8 x.slot), .v (.int .u64 x.try_)]
def TMember.v (x : TMember) : List Value := [(.int .u16 x.dev), (.int .u8 x.slot), (.int .u64 x.try_)]
theorem TMember.v1 (x : TMember) : ∀ u ∈ x.v, u.oneCell' = true := by
  intro u hu
  simp only [TMember.v, List.mem_cons, List.not_mem_nil, or_false] at hu
  rcases hu with rfl | rfl | rfl <;> rfl
def TMember.k (x : TMember) : List Int := [x.dev, x.slot, x.try_]
def R26Roster.e (x : R26Roster) : List DV := [.v (.int .u64 x.epoch), .v (.int .u16 x.last), .sl (List.map TMember.e x.l), .v (.int .u64 x.tries.1), .v (.int .u64 x.tries.2.1), .v (.int .u64 x.tries.2.2.1), .v (.int .u64 x.tries.2.2.2.1), .v (.int .u64 x.tries.2.2.2.2.1), .v (.int .u64 x.tries.2.2.2.2.2.1), .v (.int .u64 x.tries.2.2.2.2.2.2.1), .v (.int .u64 x.tries.2.2.2.2.2.2.2.1), .v (.int .u64 x.tries.2.2.2.2.2.2.2.2.1), .v (.int .u64 x.tries.2.2.2.2.2.2.2.2.2.1), .v (.int .u64 x.tries.2.2.2.2.2.2.2.2.2.2.1), .v (.int .u64 x.tries.2.2.2.2.2.2.2.2.2.2.2.1), .v (.int .u64 x.tries.2.2.2.2.2.2.2.2.2.2.2.2.1), .v (.int .u64 x.tries.2.2.2.2.2.2.2.2.2.2.2.2.2.1), .v (.int .u64 x.tries.2.2.2.2.2.2.2.2.2.2.2.2.2.2.1), .v (.int .u64 x.tries.2.2.2.2.2.2.2.2.2.2.2.2.2.2.2)]
end Go.Ep

namespace Go.Proofs
open Go.Ep
set_option linter.unusedSimpArgs false

theorem elem32 : ElemOK Try.prog 32 35 3 16 := ElemOK.mk' (z := .agg #[.int .u16 0, .int .u8 0, .int .u64 0]) Try.underlying32 (by kernel_rfl) rfl
theorem elem44 : ElemOK Try.prog 44 28 1 8 := ElemOK.mk' (z := .int .u64 0) Try.underlying44 (by kernel_rfl) rfl
theorem build35 : BuildOK Try.prog 35 [(0, 1), (1, 1), (2, 1)] [.int .u16 0, .int .u8 0, .int .u64 0] := fun parts => by kernel_rfl
theorem build50 : BuildOK Try.prog 50 [(0, 1), (1, 1), (2, 1), (3, 16)] [.int .u64 0, .int .u16 0, .slice none 0 0, .int .u64 0, .int .u64 0, .int .u64 0, .int .u64 0, .int .u64 0, .int .u64 0, .int .u64 0, .int .u64 0, .int .u64 0, .int .u64 0, .int .u64 0, .int .u64 0, .int .u64 0, .int .u64 0, .int .u64 0, .int .u64 0] := fun parts => by kernel_rfl
theorem build55 : BuildOK Try.prog 55 [(0, 1), (1, 1), (2, 1), (3, 16)] [.int .u64 0, .int .u16 0, .map none, .int .u64 0, .int .u64 0, .int .u64 0, .int .u64 0, .int .u64 0, .int .u64 0, .int .u64 0, .int .u64 0, .int .u64 0, .int .u64 0, .int .u64 0, .int .u64 0, .int .u64 0, .int .u64 0, .int .u64 0, .int .u64 0] := fun parts => by kernel_rfl
theorem eq35 {a0 b0 : Int} {a1 b1 : Int} {a2 b2 : Int} : AggEq Try.prog 35 [.int .u16 a0, .int .u8 a1, .int .u64 a2] [.int .u16 b0, .int .u8 b1, .int .u64 b2] ((decide (a0 = b0) && (decide (a1 = b1) && decide (a2 = b2)))) := by
  refine ⟨by kernel_rfl, fun w => ?_⟩
  have hu : Try.prog.underlying 35 = some (.struct (Try.prog.fieldsOf 35)) := by simp only [Program.fieldsOf, Try.underlying35]
  rw [run_equalIn_agg w 9999 35 _ _ hu (by kernel_rfl)]
  simp [Program.fieldsOf, Try.underlying35, Op.eqFields, part, Try.isAgg5, Try.isAgg27, Try.isAgg28, run_equalIn_int _ 9998 5 _ _ _ _ Try.underlying5, run_equalIn_int _ 9998 27 _ _ _ _ Try.underlying27, run_equalIn_int _ 9998 28 _ _ _ _ Try.underlying28, Result.andThen, beq_bytes]
  all_goals (repeat' split) <;> simp_all
theorem key53 : KeyOK Try.prog 27 [.u16] := KeyOK.int Try.underlying27
end Go.Proofs

namespace Go.Ep
def ltMember (x y : TMember) : Bool := decide (x.dev < y.dev)
end Go.Ep

namespace Go.Ep
open Go

/-- epitaph/roster.New -/
def roster_New_o  : M (Int × Int × A16 × Bool × (List (Int × TMember))) :=
  M.pure ((1, 0, (0, 0, 0, 0, 0, 0, 0, 0, 0, 0, 0, 0, 0, 0, 0, 0), false, ([] : List (Int × TMember))))

/-- (*epitaph/roster.Roster).none -/
def roster_Roster_none_o (epoch_1 : Int) (last_2 : Int) (c3 : A16) (nl4 : Bool) (m5 : List (Int × TMember)) : M Bool :=
  M.pure (decide (epoch_1 = 0))

def roster_Roster_Members_o_l0 (m5 : List (Int × TMember)) : List Nat × List TMember → M (M.Step (List Nat × List TMember) (List TMember)) := fun ⟨seen29, out30⟩ =>
  M.need (∀ i ∈ seen29, i < List.length m5) <| M.bind (M.nxt (List.length m5) seen29) fun o => match o with
  | none =>
    M.pure (.done out30)
  | some j31 =>
    M.bind (M.idx m5 (Int.ofNat j31)) fun kv35 =>
    M.need ((List.length out30 + List.length ([kv35.2])) * 16 ≤ 140737488355328) <|
    M.pure (.next ((seen29 ++ [j31]), (out30 ++ [kv35.2])))
/-- (*epitaph/roster.Roster).Members -/
def roster_Roster_Members_o (epoch_1 : Int) (last_2 : Int) (c3 : A16) (nl4 : Bool) (m5 : List (Int × TMember)) : M (List TMember) :=
  M.bind (M.det (roster_Roster_none_o epoch_1 last_2 c3 nl4 m5)) fun y6 =>
  cond y6
    (M.pure ([] : List TMember))
    (M.bind (M.loop (roster_Roster_Members_o_l0 m5) ([], ([] : List TMember))) (fun out10 =>
    M.need (List.length out10 < 4611686018427387904) <| M.bind (M.srt ltMember out10) fun s39 =>
    M.pure s39))

def roster_Roster_Of_o_l0 (y7 : List TMember) (slot1 : Int) : Int → M (M.Step Int (M.Ex Unit (TMember × Bool))) := fun v18 =>
  cond ((decide (v18 < (List.length y7 : Int))))
    (M.bind (M.idx y7 v18) fun x20 =>
    cond (decide (x20.slot = slot1))
      (M.pure (.done (.ret (x20, true))))
      (M.pure (.next (IntKind.i64.wrap (v18 + 1)))))
    (M.pure (.done (.brk ())))
/-- (*epitaph/roster.Roster).Of -/
def roster_Roster_Of_o (slot1 : Int) (epoch_2 : Int) (last_3 : Int) (c4 : A16) (nl5 : Bool) (m6 : List (Int × TMember)) : M (TMember × Bool) :=
  M.bind (M.det (roster_Roster_Members_o epoch_2 last_3 c4 nl5 m6)) fun y7 =>
  M.bind (M.loop (roster_Roster_Of_o_l0 y7 slot1) 0) (M.exk (fun _ =>
  M.pure ((⟨0, 0, 0⟩ : TMember), false)))

/-- (*epitaph/roster.Roster).Join -/
def roster_Roster_Join_o (slot1 : Int) (try2 : Int) (epoch_3 : Int) (last_4 : Int) (c5 : A16) (nl6 : Bool) (m7 : List (Int × TMember)) : M (TMember × Int × Int × Int × Int × A16 × Bool × (List (Int × TMember))) :=
  M.bind (M.bind (M.det (roster_Roster_none_o epoch_3 last_4 c5 nl6 m7)) fun y9 =>
  cond y9
    (M.pure true)
    (cond (decide (16 ≤ slot1))
      (M.pure true)
      (M.pure (decide (try2 = 0))))) (fun v8 =>
  cond v8
    (M.pure ((⟨0, 0, 0⟩ : TMember), 0, 1, epoch_3, last_4, c5, nl6, m7))
    (M.bind (M.det (roster_Roster_Of_o slot1 epoch_3 last_4 c5 nl6 m7)) fun y14 =>
    M.need ((0 : Int) ≤ slot1 ∧ slot1 < ((16 : Nat) : Int)) <|
    M.bind (cond ((decide (try2 < (AR.get c5 (Int.toNat slot1)))))
      (M.pure true)
      (cond ((decide (try2 = (AR.get c5 (Int.toNat slot1)))))
        (M.pure (!y14.2))
        (M.pure false))) (fun v17 =>
    cond v17
      (M.pure ((⟨0, 0, 0⟩ : TMember), 0, 11, epoch_3, last_4, c5, nl6, m7))
      (cond ((decide (try2 = (AR.get c5 (Int.toNat slot1)))))
        (M.pure (y14.1, 0, 0, epoch_3, last_4, c5, nl6, m7))
        (cond (decide (last_4 = 65535))
          (M.pure ((⟨0, 0, 0⟩ : TMember), 0, 8, epoch_3, last_4, c5, nl6, m7))
          (M.need ((0 : Int) ≤ slot1 ∧ slot1 < ((16 : Nat) : Int)) <|
          M.need (nl6 = false) <|
          M.pure (((⟨(IntKind.u16.wrap (last_4 + 1)), slot1, try2⟩ : TMember), y14.1.dev, 0, (IntKind.u64.wrap (epoch_3 + 1)), (IntKind.u16.wrap (last_4 + 1)), (AR.set c5 (Int.toNat slot1) try2), nl6, (AL.set (AL.del m7 y14.1.dev) (IntKind.u16.wrap (last_4 + 1)) ((⟨(IntKind.u16.wrap (last_4 + 1)), slot1, try2⟩ : TMember)))))))))))

/-- (*epitaph/roster.Roster).Epoch -/
def roster_Roster_Epoch_o (epoch_1 : Int) (last_2 : Int) (c3 : A16) (nl4 : Bool) (m5 : List (Int × TMember)) : M Int :=
  M.bind (M.det (roster_Roster_none_o epoch_1 last_2 c3 nl4 m5)) fun y6 =>
  cond y6
    (M.pure 0)
    (M.pure epoch_1)

/-- epitaph/epitaphlaw26.works -/
def l26_works  : M Bool :=
  M.bind (M.det (roster_New_o)) fun y1 =>
  M.bind (M.det (roster_Roster_Join_o 3 1 y1.1 y1.2.1 y1.2.2.1 y1.2.2.2.1 y1.2.2.2.2)) fun y3 =>
  M.bind (M.det (roster_Roster_Join_o 3 1 y3.2.2.2.1 y3.2.2.2.2.1 y3.2.2.2.2.2.1 y3.2.2.2.2.2.2.1 y3.2.2.2.2.2.2.2)) fun y5 =>
  M.bind (M.det (roster_Roster_Join_o 3 2 y5.2.2.2.1 y5.2.2.2.2.1 y5.2.2.2.2.2.1 y5.2.2.2.2.2.2.1 y5.2.2.2.2.2.2.2)) fun y7 =>
  M.bind (cond (decide (y3.2.2.1 = 0))
    (cond (decide (y5.2.2.1 = 0))
      (cond (decide (y7.2.2.1 = 0))
        (cond (decide (y3.1.dev = 1))
          (cond (((decide (y5.1.dev = y3.1.dev) && (decide (y5.1.slot = y3.1.slot) && decide (y5.1.try_ = y3.1.try_)))))
            (cond (decide (y7.1.dev = 2))
              (cond (decide (y7.2.1 = 1))
                (M.bind (M.det (roster_Roster_Epoch_o y7.2.2.2.1 y7.2.2.2.2.1 y7.2.2.2.2.2.1 y7.2.2.2.2.2.2.1 y7.2.2.2.2.2.2.2)) fun y17 =>
                M.pure (decide (y17 = 3)))
                (M.pure false))
              (M.pure false))
            (M.pure false))
          (M.pure false))
        (M.pure false))
      (M.pure false))
    (M.pure false)) (fun v9 =>
  M.pure v9)

/-- (*epitaph/roster.Roster).Remove -/
def roster_Roster_Remove_o (dev1 : Int) (epoch_2 : Int) (last_3 : Int) (c4 : A16) (nl5 : Bool) (m6 : List (Int × TMember)) : M (Int × Int × Int × A16 × Bool × (List (Int × TMember))) :=
  M.bind (M.det (roster_Roster_none_o epoch_2 last_3 c4 nl5 m6)) fun y7 =>
  cond y7
    (M.pure (1, epoch_2, last_3, c4, nl5, m6))
    (cond (!(AL.has m6 dev1))
      (M.pure (6, epoch_2, last_3, c4, nl5, m6))
      (M.pure ((0, (IntKind.u64.wrap (epoch_2 + 1)), last_3, c4, nl5, (AL.del m6 dev1)))))

/-- (*epitaph/roster.Roster).Check -/
def roster_Roster_Check_o (dev1 : Int) (epoch2 : Int) (epoch_3 : Int) (last_4 : Int) (c5 : A16) (nl6 : Bool) (m7 : List (Int × TMember)) : M Int :=
  M.bind (M.det (roster_Roster_none_o epoch_3 last_4 c5 nl6 m7)) fun y8 =>
  cond y8
    (M.pure 1)
    (cond (!(AL.has m7 dev1))
      (M.pure 11)
      (cond (!decide (epoch2 = epoch_3))
        (M.pure 10)
        (M.pure 0)))

/-- (*epitaph/roster.Roster).Last -/
def roster_Roster_Last_o (epoch_1 : Int) (last_2 : Int) (c3 : A16) (nl4 : Bool) (m5 : List (Int × TMember)) : M Int :=
  M.bind (M.det (roster_Roster_none_o epoch_1 last_2 c3 nl4 m5)) fun y6 =>
  cond y6
    (M.pure 0)
    (M.pure last_2)

/-- slices.Clone[[]uint64,uint64] -/
def slices_Clone_sl_uint64_uint64 (s1 : List Int) : M (List Int) :=
  M.bind (M.isNil s1) fun b2 =>
  cond b2
    (M.pure ([] : List Int))
    (M.need ((List.length ([] : List Int) + List.length s1) * 8 ≤ 140737488355328) <|
    M.pure (([] : List Int) ++ s1))

def r26_Same_l0 (a1 : List TMember) (b2 : List TMember) : Int → M (M.Step Int (M.Ex Unit Bool)) := fun i17 =>
  cond ((decide (i17 < (List.length a1 : Int))))
    (M.bind (M.idx a1 i17) fun x19 =>
    M.bind (M.idx b2 i17) fun x21 =>
    cond ((!(decide (x19.dev = x21.dev) && (decide (x19.slot = x21.slot) && decide (x19.try_ = x21.try_)))))
      (M.pure (.done (.ret false)))
      (M.pure (.next (IntKind.i64.wrap (i17 + 1)))))
    (M.pure (.done (.brk ())))
/-- epitaph/epitaphref26.Same -/
def r26_Same (a1 : List TMember) (b2 : List TMember) : M Bool :=
  cond ((!decide ((List.length a1 : Int) = (List.length b2 : Int))))
    (M.pure false)
    (M.bind (M.loop (r26_Same_l0 a1 b2) 0) (M.exk (fun _ =>
    M.pure true)))

def roster_From_o_l0 (members3 : List TMember) (last2 : Int) (y9 : Int × Int × A16 × Bool × (List (Int × TMember))) (tries4 : List Int) (epoch1 : Int) : Int × (List (Int × TMember)) → M (M.Step (Int × (List (Int × TMember))) (M.Ex (List (Int × TMember)) (Unit ⊕ (Int × Int × A16 × Bool × (List (Int × TMember)))))) := fun ⟨v52, v53⟩ =>
  cond ((decide (v52 < (List.length members3 : Int))))
    (M.bind (M.idx members3 v52) fun x55 =>
    M.bind (cond (decide (x55.dev = 0))
      (M.pure true)
      (cond (decide (last2 < x55.dev))
        (M.pure true)
        (cond (decide (0 < v52))
          (M.bind (M.idx members3 (IntKind.i64.wrap (v52 - 1))) fun x61 =>
          M.pure (decide (x55.dev ≤ x61.dev)))
          (M.pure false)))) (fun v57 =>
    cond v57
      (M.pure (.done ((.ret (.inl ())))))
      (M.bind (cond (decide (16 ≤ x55.slot))
        (M.pure true)
        (cond (decide (x55.try_ = 0))
          (M.pure true)
          (M.need ((0 : Int) ≤ x55.slot ∧ x55.slot < ((16 : Nat) : Int)) <|
          M.pure ((!decide ((AR.get (AR.over y9.2.2.1 tries4) (Int.toNat x55.slot)) = x55.try_)))))) (fun v64 =>
      cond v64
        (M.pure (.done ((.ret (.inl ())))))
        (M.bind (M.det (roster_Roster_Of_o x55.slot epoch1 last2 (AR.over y9.2.2.1 tries4) y9.2.2.2.1 v53)) fun y69 =>
        cond y69.2
          (M.pure (.done ((.ret (.inl ())))))
          (M.need (y9.2.2.2.1 = false) <|
          M.pure (.next (((IntKind.i64.wrap (v52 + 1)), (AL.set v53 x55.dev x55))))))))))
    (M.pure (.done (.brk v53)))
/-- epitaph/roster.From -/
def roster_From_o (epoch1 : Int) (last2 : Int) (members3 : List TMember) (tries4 : List Int) : M (Unit ⊕ (Int × Int × A16 × Bool × (List (Int × TMember)))) :=
  M.bind (cond (decide (epoch1 = 0))
    (M.pure true)
    (cond (decide (281474976710655 < epoch1))
      (M.pure true)
      (M.pure ((!decide ((List.length tries4 : Int) = 16)))))) (fun v5 =>
  cond v5
    (M.pure (.inl ()))
    (M.bind (M.det (roster_New_o)) fun y9 =>
    M.bind (M.loop (roster_From_o_l0 members3 last2 y9 tries4 epoch1) (0, y9.2.2.2.2)) (M.exk (fun v11 =>
    M.pure (.inr (epoch1, last2, (AR.over y9.2.2.1 tries4), y9.2.2.2.1, v11))))))

/-- (*epitaph/roster.Roster).Tries -/
def roster_Roster_Tries_o (epoch_1 : Int) (last_2 : Int) (c3 : A16) (nl4 : Bool) (m5 : List (Int × TMember)) : M (List Int) :=
  M.bind (M.det (roster_Roster_none_o epoch_1 last_2 c3 nl4 m5)) fun y6 =>
  cond y6
    (M.pure ([] : List Int))
    (M.bind (M.det (slices_Clone_sl_uint64_uint64 (AR.l c3))) fun v9 =>
    M.pure v9)

def l26_Is_o_l0 (y7 : List Int) (x1 : R26Roster) : Int → M (M.Step Int (M.Ex Unit Int)) := fun i33 =>
  cond (decide (i33 < 16))
    (M.bind (M.idx y7 i33) fun x35 =>
    M.need ((0 : Int) ≤ i33 ∧ i33 < ((16 : Nat) : Int)) <|
    cond ((!decide (x35 = (AR.get x1.tries (Int.toNat i33)))))
      (M.pure (.done (.ret 0)))
      (M.pure (.next (IntKind.i64.wrap (i33 + 1)))))
    (M.pure (.done (.brk ())))
/-- epitaph/epitaphlaw26.Is -/
def l26_Is_o (x1 : R26Roster) (epoch_2 : Int) (last_3 : Int) (c4 : A16) (nl5 : Bool) (m6 : List (Int × TMember)) : M Int :=
  M.bind (M.det (roster_Roster_Tries_o epoch_2 last_3 c4 nl5 m6)) fun y7 =>
  M.bind (M.bind (M.det (roster_Roster_Epoch_o epoch_2 last_3 c4 nl5 m6)) fun y10 =>
  cond (!decide (y10 = x1.epoch))
    (M.pure true)
    (M.bind (M.det (roster_Roster_Last_o epoch_2 last_3 c4 nl5 m6)) fun y13 =>
    cond (!decide (y13 = x1.last))
      (M.pure true)
      (M.bind (M.det (roster_Roster_Members_o epoch_2 last_3 c4 nl5 m6)) fun y16 =>
      M.bind (M.det (r26_Same y16 x1.l)) fun v18 =>
      cond (!v18)
        (M.pure true)
        (M.pure ((!decide (((List.length y7) : Int) = 16))))))) (fun v9 =>
  cond v9
    (M.pure 0)
    (M.bind (M.loop (l26_Is_o_l0 y7 x1) 0) (M.exk (fun _ =>
    M.pure 1))))

/-- (*epitaph/roster.Roster).Get -/
def roster_Roster_Get_o (dev1 : Int) (epoch_2 : Int) (last_3 : Int) (c4 : A16) (nl5 : Bool) (m6 : List (Int × TMember)) : M (TMember × Bool) :=
  M.bind (M.det (roster_Roster_none_o epoch_2 last_3 c4 nl5 m6)) fun y7 =>
  cond y7
    (M.pure ((⟨0, 0, 0⟩ : TMember), false))
    (M.pure (((AL.getZ m6 dev1 (⟨0, 0, 0⟩ : TMember)), (AL.has m6 dev1))))

def r26_Of_l0 (r1 : R26Roster) (slot2 : Int) : Int → M (M.Step Int (M.Ex Unit (TMember × Bool))) := fun i16 =>
  cond ((decide (i16 < (List.length r1.l : Int))))
    (M.bind (M.idx r1.l i16) fun x18 =>
    cond (decide (x18.slot = slot2))
      (M.bind (M.idx r1.l i16) fun x21 =>
      M.pure (.done (.ret (x21, true))))
      (M.pure (.next (IntKind.i64.wrap (i16 + 1)))))
    (M.pure (.done (.brk ())))
/-- epitaph/epitaphref26.Of -/
def r26_Of (r1 : R26Roster) (slot2 : Int) : M (TMember × Bool) :=
  M.bind (M.loop (r26_Of_l0 r1 slot2) 0) (M.exk (fun _ =>
  M.pure ((⟨0, 0, 0⟩ : TMember), false)))

def r26_without_l0 (l1 : List TMember) (dev2 : Int) : Int × List TMember → M (M.Step (Int × List TMember) (List TMember)) := fun ⟨i22, out23⟩ =>
  cond ((decide (i22 < (List.length l1 : Int))))
    (M.bind (M.bind (M.idx l1 i22) fun x26 =>
    cond (!decide (x26.dev = dev2))
      (M.bind (M.idx l1 i22) fun x29 =>
      M.need ((List.length out23 + List.length ([x29])) * 16 ≤ 140737488355328) <|
      M.pure (out23 ++ [x29]))
      (M.pure out23)) (fun out25 =>
    M.pure (.next (((IntKind.i64.wrap (i22 + 1)), out25)))))
    (M.pure (.done out23))
/-- epitaph/epitaphref26.without -/
def r26_without (l1 : List TMember) (dev2 : Int) : M (List TMember) :=
  M.bind (M.loop (r26_without_l0 l1 dev2) (0, ([] : List TMember))) (fun out3 =>
  M.pure out3)

/-- epitaph/epitaphref26.Join -/
def r26_Join (r1 : R26Roster) (slot2 : Int) (try3 : Int) : M (R26Roster × TMember × Int × Int) :=
  M.bind (cond (decide (16 ≤ slot2))
    (M.pure true)
    (M.pure (decide (try3 = 0)))) (fun v4 =>
  cond v4
    (M.pure (r1, (⟨0, 0, 0⟩ : TMember), 0, 1))
    (M.bind (M.det (r26_Of r1 slot2)) fun v7 =>
    M.bind (M.need ((0 : Int) ≤ slot2 ∧ slot2 < ((16 : Nat) : Int)) <|
    cond ((decide (try3 < (AR.get r1.tries (Int.toNat slot2)))))
      (M.pure true)
      (M.need ((0 : Int) ≤ slot2 ∧ slot2 < ((16 : Nat) : Int)) <|
      cond ((decide (try3 = (AR.get r1.tries (Int.toNat slot2)))))
        (M.pure (!v7.2))
        (M.pure false))) (fun v9 =>
    cond v9
      (M.pure (r1, (⟨0, 0, 0⟩ : TMember), 0, 11))
      (M.need ((0 : Int) ≤ slot2 ∧ slot2 < ((16 : Nat) : Int)) <|
      cond ((decide (try3 = (AR.get r1.tries (Int.toNat slot2)))))
        (M.pure (r1, v7.1, 0, 0))
        (cond (decide (r1.last = 65535))
          (M.pure (r1, (⟨0, 0, 0⟩ : TMember), 0, 8))
          (M.bind (M.det (r26_without r1.l v7.1.dev)) fun v18 =>
          M.need ((List.length v18 + List.length ([(⟨(IntKind.u16.wrap (r1.last + 1)), slot2, try3⟩ : TMember)])) * 16 ≤ 140737488355328) <|
          M.need ((0 : Int) ≤ slot2 ∧ slot2 < ((16 : Nat) : Int)) <|
          M.pure (((⟨(IntKind.u64.wrap (r1.epoch + 1)), (IntKind.u16.wrap (r1.last + 1)), (v18 ++ [(⟨(IntKind.u16.wrap (r1.last + 1)), slot2, try3⟩ : TMember)]), (AR.set r1.tries (Int.toNat slot2) try3)⟩ : R26Roster), (⟨(IntKind.u16.wrap (r1.last + 1)), slot2, try3⟩ : TMember), v7.1.dev, 0))))))))

def r26_Get_l0 (r1 : R26Roster) (dev2 : Int) : Int → M (M.Step Int (M.Ex Unit (TMember × Bool))) := fun i16 =>
  cond ((decide (i16 < (List.length r1.l : Int))))
    (M.bind (M.idx r1.l i16) fun x18 =>
    cond (decide (x18.dev = dev2))
      (M.bind (M.idx r1.l i16) fun x21 =>
      M.pure (.done (.ret (x21, true))))
      (M.pure (.next (IntKind.i64.wrap (i16 + 1)))))
    (M.pure (.done (.brk ())))
/-- epitaph/epitaphref26.Get -/
def r26_Get (r1 : R26Roster) (dev2 : Int) : M (TMember × Bool) :=
  M.bind (M.loop (r26_Get_l0 r1 dev2) 0) (M.exk (fun _ =>
  M.pure ((⟨0, 0, 0⟩ : TMember), false)))

/-- epitaph/epitaphref26.Remove -/
def r26_Remove (r1 : R26Roster) (dev2 : Int) : M (R26Roster × Int) :=
  M.bind (M.det (r26_Get r1 dev2)) fun v3 =>
  cond (!v3.2)
    (M.pure (r1, 6))
    (M.bind (M.det (r26_without r1.l dev2)) fun v6 =>
    M.pure (((⟨(IntKind.u64.wrap (r1.epoch + 1)), r1.last, v6, r1.tries⟩ : R26Roster), 0)))

/-- epitaph/epitaphref26.Check -/
def r26_Check (r1 : R26Roster) (dev2 : Int) (epoch3 : Int) : M Int :=
  M.bind (M.det (r26_Get r1 dev2)) fun v4 =>
  cond (!v4.2)
    (M.pure 11)
    (cond (!decide (epoch3 = r1.epoch))
      (M.pure 10)
      (M.pure 0))

def l26_RosterPlays_l0 (l2 : List L26Act) : Int × Int × Int × List TMember × A16 × Int × Int × A16 × Bool × (List (Int × TMember)) → M (M.Step (Int × Int × Int × List TMember × A16 × Int × Int × A16 × Bool × (List (Int × TMember))) (M.Ex (Int × Int × List TMember × A16 × Int × Int × A16 × Bool × (List (Int × TMember))) Bool)) := fun ⟨i128, x129, x130, x131, ar132, v133, v134, ar135, nl136, v137⟩ =>
  cond ((decide (i128 < (List.length l2 : Int))))
    (M.bind (M.idx l2 i128) fun x139 =>
    M.bind (M.bind (cond (decide (x139.kind = 0))
      (M.pure (decide (x139.kind = 0)))
      (M.pure (decide (x139.kind = 1)))) (fun v151 =>
    cond v151
      (M.bind (M.det (roster_Roster_Join_o x139.slot x139.try_ v133 v134 ar135 nl136 v137)) fun y154 =>
      M.bind (M.det (r26_Join (⟨x129, x130, x131, ar132⟩ : R26Roster) x139.slot x139.try_)) fun v156 =>
      M.bind (cond (((decide (y154.1.dev = v156.2.1.dev) && (decide (y154.1.slot = v156.2.1.slot) && decide (y154.1.try_ = v156.2.1.try_)))))
        (cond (decide (y154.2.1 = v156.2.2.1))
          (M.pure (decide (y154.2.2.1 = v156.2.2.2)))
          (M.pure false))
        (M.pure false)) (fun ok158 =>
      M.pure (ok158, v156.1.epoch, v156.1.last, v156.1.l, v156.1.tries, y154.2.2.2.1, y154.2.2.2.2.1, y154.2.2.2.2.2.1, y154.2.2.2.2.2.2.1, y154.2.2.2.2.2.2.2)))
      (cond (decide (x139.kind = 2))
        (M.bind (M.det (r26_Remove (⟨x129, x130, x131, ar132⟩ : R26Roster) x139.dev)) fun v162 =>
        M.bind (M.det (roster_Roster_Remove_o x139.dev v133 v134 ar135 nl136 v137)) fun y164 =>
        M.pure (((decide (y164.1 = v162.2)), v162.1.epoch, v162.1.last, v162.1.l, v162.1.tries, y164.2.1, y164.2.2.1, y164.2.2.2.1, y164.2.2.2.2.1, y164.2.2.2.2.2)))
        (M.bind (M.det (roster_Roster_Check_o x139.dev x139.epoch v133 v134 ar135 nl136 v137)) fun y166 =>
        M.bind (M.det (r26_Check (⟨x129, x130, x131, ar132⟩ : R26Roster) x139.dev x139.epoch)) fun v168 =>
        M.pure (((decide (y166 = v168)), x129, x130, x131, ar132, v133, v134, ar135, nl136, v137)))))) (fun ⟨ok141, x142, x143, x144, ar145, v146, v147, ar148, nl149, v150⟩ =>
    M.bind (M.det (roster_Roster_Get_o x139.dev v146 v147 ar148 nl149 v150)) fun y170 =>
    M.bind (M.det (r26_Get (⟨x142, x143, x144, ar145⟩ : R26Roster) x139.dev)) fun v172 =>
    M.bind (M.det (roster_Roster_Of_o x139.slot v146 v147 ar148 nl149 v150)) fun y174 =>
    M.bind (M.det (r26_Of (⟨x142, x143, x144, ar145⟩ : R26Roster) x139.slot)) fun v176 =>
    M.bind (cond (!ok141)
      (M.pure true)
      (cond ((!(decide (y170.1.dev = v172.1.dev) && (decide (y170.1.slot = v172.1.slot) && decide (y170.1.try_ = v172.1.try_)))))
        (M.pure true)
        (cond (!(y170.2 == v172.2))
          (M.pure true)
          (cond ((!(decide (y174.1.dev = v176.1.dev) && (decide (y174.1.slot = v176.1.slot) && decide (y174.1.try_ = v176.1.try_)))))
            (M.pure true)
            (cond (!(y174.2 == v176.2))
              (M.pure true)
              (M.bind (M.det (l26_Is_o (⟨x142, x143, x144, ar145⟩ : R26Roster) v146 v147 ar148 nl149 v150)) fun y184 =>
              M.pure (decide (y184 = 0)))))))) (fun v178 =>
    cond v178
      (M.pure (.done (.ret false)))
      (M.pure (.next (((IntKind.i64.wrap (i128 + 1)), x142, x143, x144, ar145, v146, v147, ar148, nl149, v150)))))))
    (M.pure (.done (.brk (x129, x130, x131, ar132, v133, v134, ar135, nl136, v137))))
/-- epitaph/epitaphlaw26.RosterPlays -/
def l26_RosterPlays (last1 : Int) (l2 : List L26Act) : M Bool :=
  cond ((decide (60 < (List.length l2 : Int))))
    (M.bind (M.det (l26_works)) fun v4 =>
    M.pure v4)
    (M.need ((0 : Int) ≤ 16 ∧ (16 : Int) * 8 ≤ 140737488355328) <|
    M.bind (M.det (roster_From_o 1 last1 ([] : List TMember) (List.replicate (Int.toNat 16) 0))) fun y7 =>
    M.sum y7 (fun z9 =>
      M.pure false) (fun z10 =>
      M.bind (M.loop (l26_RosterPlays_l0 l2) (0, 1, last1, ([] : List TMember), (0, 0, 0, 0, 0, 0, 0, 0, 0, 0, 0, 0, 0, 0, 0, 0), z10.1, z10.2.1, z10.2.2.1, z10.2.2.2.1, z10.2.2.2.2)) (M.exk (fun ⟨x11, x12, x13, ar14, v15, v16, ar17, nl18, v19⟩ =>
      M.bind (M.bind (M.det (l26_Is_o (⟨x11, x12, x13, ar14⟩ : R26Roster) v15 v16 ar17 nl18 v19)) fun y188 =>
      cond (decide (y188 = 1))
        (M.bind (M.det (l26_works)) fun v191 =>
        M.pure v191)
        (M.pure false)) (fun v187 =>
      M.pure v187)))))
end Go.Ep

namespace Go.Proofs
open Go.Shelf
def Try.pdq33_ren : Go.Shelf.Ren := ⟨fun | 14 => 33 | 20 => 36 | 21 => 37 | 22 => 38 | 23 => 39 | 24 => 40 | 25 => 41 | 26 => 42 | 27 => 43 | 46 => 46 | 47 => 47 | 48 => 48 | 49 => 49 | 50 => 50 | 15 => 34 | 57 => 51 | 28 => 44 | 29 => 45 | n => n, fun | 24 => 35 | 22 => 32 | 3 => 3 | 25 => 72 | 4 => 4 | 0 => 0 | 46 => 82 | 45 => 81 | 50 => 86 | 66 => 91 | 39 => 78 | 55 => 28 | 70 => 94 | 76 => 96 | 77 => 97 | 53 => 89 | 5 => 5 | 9 => 9 | n => n, fun | n => n⟩
theorem Try.pdq33 : Go.Proofs.SlLaysF0.n14 Try.prog Try.pdq33_ren := {
  mixed := by kernel_rfl
  f14 := ⟨Try.f33.name, by decide, Try.func33.trans (congrArg some (by kernel_rfl))⟩
  f15 := Try.func34.trans (congrArg some (by kernel_rfl))
  f20 := ⟨Try.f36.name, by decide, Try.func36.trans (congrArg some (by kernel_rfl))⟩
  f21 := ⟨Try.f37.name, by decide, Try.func37.trans (congrArg some (by kernel_rfl))⟩
  f22 := ⟨Try.f38.name, by decide, Try.func38.trans (congrArg some (by kernel_rfl))⟩
  f23 := ⟨Try.f39.name, by decide, Try.func39.trans (congrArg some (by kernel_rfl))⟩
  f24 := ⟨Try.f40.name, by decide, Try.func40.trans (congrArg some (by kernel_rfl))⟩
  f25 := ⟨Try.f41.name, by decide, Try.func41.trans (congrArg some (by kernel_rfl))⟩
  f26 := ⟨Try.f42.name, by decide, Try.func42.trans (congrArg some (by kernel_rfl))⟩
  f27 := ⟨Try.f43.name, by decide, Try.func43.trans (congrArg some (by kernel_rfl))⟩
  f28 := Try.func44.trans (congrArg some (by kernel_rfl))
  f29 := Try.func45.trans (congrArg some (by kernel_rfl))
  f46 := ⟨Try.f46.name, by decide, Try.func46.trans (congrArg some (by kernel_rfl))⟩
  f47 := Try.func47.trans (congrArg some (by kernel_rfl))
  f48 := Try.func48.trans (congrArg some (by kernel_rfl))
  f49 := ⟨Try.f49.name, by decide, Try.func49.trans (congrArg some (by kernel_rfl))⟩
  f50 := ⟨Try.f50.name, by decide, Try.func50.trans (congrArg some (by kernel_rfl))⟩
  f57 := ⟨Try.f51.name, by decide, Try.func51.trans (congrArg some (by kernel_rfl))⟩
  t0 := Try.underlying0
  a0 := Try.isAgg0
  z0 := Try.sizeOf0
  v0 := Try.zeroValue0
  t3 := Try.underlying3
  a3 := Try.isAgg3
  z3 := Try.sizeOf3
  v3 := Try.zeroValue3
  t4 := Try.underlying4
  a4 := Try.isAgg4
  z4 := Try.sizeOf4
  v4 := Try.zeroValue4
  t5 := Try.underlying5
  a5 := Try.isAgg5
  z5 := Try.sizeOf5
  v5 := Try.zeroValue5
  t9 := Try.underlying9
  a9 := Try.isAgg9
  z9 := Try.sizeOf9
  v9 := Try.zeroValue9
  t22 := Try.underlying32
  a22 := Try.isAgg32
  z22 := Try.sizeOf32
  v22 := Try.zeroValue32
  t25 := Try.underlying72
  a25 := Try.isAgg72
  z25 := Try.sizeOf72
  v25 := Try.zeroValue72
  t39 := Try.underlying78
  a39 := Try.isAgg78
  z39 := Try.sizeOf78
  v39 := Try.zeroValue78
  t45 := Try.underlying81
  a45 := Try.isAgg81
  z45 := Try.sizeOf81
  v45 := Try.zeroValue81
  t46 := Try.underlying82
  a46 := Try.isAgg82
  z46 := Try.sizeOf82
  v46 := Try.zeroValue82
  t50 := Try.underlying86
  a50 := Try.isAgg86
  z50 := Try.sizeOf86
  v50 := Try.zeroValue86
  t53 := Try.underlying89
  a53 := Try.isAgg89
  z53 := Try.sizeOf89
  v53 := Try.zeroValue89
  t55 := Try.underlying28
  a55 := Try.isAgg28
  z55 := Try.sizeOf28
  v55 := Try.zeroValue28
  t66 := Try.underlying91
  a66 := Try.isAgg91
  z66 := Try.sizeOf91
  v66 := Try.zeroValue91
  t70 := Try.underlying94
  a70 := Try.isAgg94
  z70 := Try.sizeOf94
  v70 := Try.zeroValue94
  t76 := Try.underlying96
  a76 := Try.isAgg96
  z76 := Try.sizeOf96
  v76 := Try.zeroValue96
  t77 := Try.underlying97
  a77 := Try.isAgg97
  z77 := Try.sizeOf97
  v77 := Try.zeroValue97 }
def Try.bits34_ren : Go.Shelf.Ren := ⟨fun | 15 => 34 | 28 => 44 | 29 => 45 | n => n, fun | 39 => 78 | 3 => 3 | 53 => 89 | 55 => 28 | 4 => 4 | 5 => 5 | 9 => 9 | n => n, fun | n => n⟩
theorem Try.bits34 : Go.Proofs.SlLaysF0.n15 Try.prog Try.bits34_ren := {
  mixed := by kernel_rfl
  f15 := Try.func34.trans (congrArg some (by kernel_rfl))
  f28 := Try.func44.trans (congrArg some (by kernel_rfl))
  f29 := Try.func45.trans (congrArg some (by kernel_rfl))
  t3 := Try.underlying3
  a3 := Try.isAgg3
  z3 := Try.sizeOf3
  v3 := Try.zeroValue3
  t4 := Try.underlying4
  a4 := Try.isAgg4
  z4 := Try.sizeOf4
  v4 := Try.zeroValue4
  t5 := Try.underlying5
  a5 := Try.isAgg5
  z5 := Try.sizeOf5
  v5 := Try.zeroValue5
  t9 := Try.underlying9
  a9 := Try.isAgg9
  z9 := Try.sizeOf9
  v9 := Try.zeroValue9
  t39 := Try.underlying78
  a39 := Try.isAgg78
  z39 := Try.sizeOf78
  v39 := Try.zeroValue78
  t53 := Try.underlying89
  a53 := Try.isAgg89
  z53 := Try.sizeOf89
  v53 := Try.zeroValue89
  t55 := Try.underlying28
  a55 := Try.isAgg28
  z55 := Try.sizeOf28
  v55 := Try.zeroValue28 }
end Go.Proofs


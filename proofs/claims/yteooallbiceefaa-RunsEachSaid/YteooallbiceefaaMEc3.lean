/- Texts that the walks and laws lean on, side by side. -/
import Derived.Laws.BytesString
import Derived.Laws.IdiomStrings
import Derived.ProofKit
import Derived.Deep.Slices
import Derived.RangeFuncNested
import Derived.RangeFuncLeaves
import Derived.Shelf.Abstract
import Derived.WalkKit
import Derived.OwnWalkIn
import Derived.TacticsInMore
import Derived.LoopNIn
import Derived.LoopIn
import Derived.Test.YteooallbiceefaaMEc2
set_option linter.unusedVariables false
set_option linter.unusedSimpArgs false
namespace Go.Ep
open Go.RowKit

/-- A block of one of the objects. -/
def OwnB (g : Ghost) (os : List (Nat × Ob)) (b : Nat) : Prop := ∃ id o n, look os id = some o ∧ g id = some (b, n)
/-- Objects as they lie. -/
structure ObsRd (w : World) (g : Ghost) (S : Nat → Prop) (os : List (Nat × Ob)) : Prop where
  rd : ∀ id o, look os id = some o → ObRd w g S id o
  inj : ∀ i j oi oj b n m, look os i = some oi → look os j = some oj → g i = some (b, n) → g j = some (b, m) → i = j
  lt : ∀ id o b n, look os id = some o → g id = some (b, n) → b < w.heap.size

/-- The blocks for data behind the call. -/
def After (w : World) (g : Ghost) (S : Nat → Prop) (os : List (Nat × Ob)) (g' : Ghost) (os' : List (Nat × Ob)) (b : Nat) : Prop := (S b ∨ OwnB g os b ∨ w.heap.size ≤ b) ∧ ¬ OwnB g' os' b
structure ObPost (w : World) (g : Ghost) (S : Nat → Prop) (os : List (Nat × Ob)) (pins : List Nat) (r : PV) (os' : List (Nat × Ob)) (w' : World) (g' : Ghost) (u : Value) : Prop where
  eos : w'.os = w.os
  tape : w'.tape = w.tape
  output : w'.output = w.output
  grows : w.heap.size ≤ w'.heap.size
  keep : ∀ k, k < w.heap.size → ¬ OwnB g os k → w'.heap[k]? = w.heap[k]?
  own : ∀ b, OwnB g' os' b → OwnB g os b ∨ w.heap.size ≤ b
  pin : ∀ id ∈ pins, g' id = g id
  res : Rd w' g' (After w g S os g' os') r u
  obs : ObsRd w' g' (After w g S os g' os') os'
def PObj {G : Type} (P : Program) (f : FuncId) (ps : List PV) (os : List (Nat × Ob)) (pins : List Nat) (r : PV) (os' : G → List (Nat × Ob)) : Prop :=
  ∀ (w : World) (g : Ghost) (S : Nat → Prop) (vs : List Value), ps.length = vs.length → (∀ (i : Nat) (p : PV) (v : Value), ps[i]? = some p → vs[i]? = some v → Rd w g S p v) → ObsRd w g S os → (∀ b, S b → ¬ OwnB g os b) →
    Calls P f vs.toArray w (fun e w' => ∃ u g' gh, e = .returned u ∧ ObPost w g S os pins r (os' gh) w' g' u)

section
variable {ctx : Ctx}
/-- What is handed back: values as they stand. -/
inductive ResO (P : Program) (s : PState) : ResultVar → PV → Prop
  | tmp {t : Nat} {p : PV} (h : s.at t = some p) : ResO P s (.tmp t) p
  | agg {t T k id : Nat} {T0 : TypeId} {cs : List PV} (ha : ∀ w, (isAgg T).run P w = .ok true w) (hs : ∀ w, (sizeOf T).run P w = .ok k w) (h : s.at t = some (.ref id 0)) (hl : look s.objs id = some (.cells T0 cs)) (hk : cs.length = k) : ResO P s (.cell t T) (.agg cs)
  | cell {t T id : Nat} {T0 : TypeId} {p : PV} (ha : ∀ w, (isAgg T).run P w = .ok false w) (h : s.at t = some (.ref id 0)) (hl : look s.objs id = some (.cells T0 [p])) : ResO P s (.cell t T) p
inductive ResLO (P : Program) (s : PState) : List ResultVar → List PV → Prop
  | nil : ResLO P s [] []
  | cons {r : ResultVar} {p : PV} {rs : List ResultVar} {ps : List PV} (h : ResO P s r p) (t : ResLO P s rs ps) : ResLO P s (r :: rs) (p :: ps)
/-- The walk's end. -/
def EndsO {G : Type} (P : Program) (ctx : Ctx) (fn : Func) (pl : List (Nat × Ob)) (r : PV) (os' : G → List (Nat × Ob)) : PQ := fun e s => (e = .normal ∨ e = .ret) ∧ ∃ gh ps t, Sub ctx s t ∧ ResLO P t fn.results.toList ps ∧ tupOf ps = r ∧
  (∀ id o, look (os' gh) id = some o → look t.objs id = some o) ∧ ∀ id o, look pl id = some o → look t.objs id = some o

variable {P : Program} {s : PState}
theorem resO_real {g : Ghost} {a : Act} {w : World} (hg : RelG ctx g s a w) {rv : ResultVar} {p : PV} (h : ResO P s rv p) :
    ∃ v, (resOne a.tmps rv).run P w = .ok v w ∧ Rd w g (Free ctx g s.objs) p v := by
  cases h with
  | @tmp t _ h => exact ⟨_, rfl, hg.slots t _ h⟩
  | @agg t T k id T0 cs ha hs h hl hk =>
    have hr := hg.slots t _ h
    generalize hv : a.tmps.getD t undef = v at hr
    cases hr with
    | ref _ _ blk n hgi =>
      cases hg.objs id _ hl with
      | cells _ _ blk' n' us h' hh hlen hr' h1 =>
        rw [hgi] at h'
        cases h'
        refine ⟨.agg us.toArray, ?_, .agg cs us hlen hr' h1⟩
        have := run_loadAgg (P := P) (us := us) ha (by rw [← hlen, hk]; exact hs) (w := w) (b := blk) (o := 0) (fun j u hu => by rw [Nat.zero_add, cell_of_heap hh]; exact hu)
        show (do loadVar T (← asAddr (a.tmps.getD t undef)) : Sem Value).run P w = _
        rw [hv]
        simp only [asAddr, Sem.run_bind, Sem.run_pure, Result.andThen_ok]
        exact this
  | @cell t T id T0 p ha h hl =>
    have hr := hg.slots t _ h
    generalize hv : a.tmps.getD t undef = v at hr
    cases hr with
    | ref _ _ blk n hgi =>
      cases hg.objs id _ hl with
      | cells _ _ blk' n' us h' hh hlen hr' h1 =>
        rw [hgi] at h'
        cases h'
        have hlt : 0 < us.length := by rw [← hlen]; simp
        have hu : us[0]? = some us[0] := List.getElem?_eq_getElem hlt
        refine ⟨us[0], ?_, hr' 0 p _ rfl hu⟩
        have := run_loadOne (P := P) ha (w := w) (ad := ⟨blk, 0, none⟩) (u := us[0]) (by rw [cell_of_heap hh]; exact hu)
        show (do loadVar T (← asAddr (a.tmps.getD t undef)) : Sem Value).run P w = _
        rw [hv]
        simp only [asAddr, Sem.run_bind, Sem.run_pure, Result.andThen_ok]
        exact this
theorem resLO_real {g : Ghost} {a : Act} {w : World} (hg : RelG ctx g s a w) {rs : List ResultVar} {ps : List PV} (h : ResLO P s rs ps) :
    ∃ vs : List Value, (rs.mapM (resOne a.tmps)).run P w = .ok vs w ∧ ps.length = vs.length ∧
      ∀ (i : Nat) (p : PV) (v : Value), ps[i]? = some p → vs[i]? = some v → Rd w g (Free ctx g s.objs) p v := by
  induction h with
  | nil => exact ⟨[], by simp, rfl, by simp⟩
  | cons h _ ih =>
    obtain ⟨vs, h1, h2, h3⟩ := ih
    obtain ⟨v, hv1, hv2⟩ := resO_real hg h
    refine ⟨v :: vs, ?_, by simp [h2], ?_⟩
    · simp only [List.mapM_cons, Sem.run_bind, hv1, h1, Result.andThen_ok, Sem.run_pure]
    · intro i p u hp hu
      cases i with
      | zero => simp at hp hu; subst hp; subst hu; exact hv2
      | succ i => simp at hp hu; exact h3 i p u hp hu

/-- The pins of some objects: what holds the ghost of an object to what it was. -/
def pinL (pv : Nat → Option (Nat × Nat)) : List Nat → List (Nat × Ob)
  | [] => []
  | id :: r => (id + 1000, .pin id (pv id)) :: pinL pv r
theorem pinL_mem {pv : Nat → Option (Nat × Nat)} {pins : List Nat} {id : Nat} {o : Ob} (h : look (pinL pv pins) id = some o) : ∃ t ∈ pins, id = t + 1000 ∧ o = .pin t (pv t) := by
  induction pins with
  | nil => simp [pinL, look] at h
  | cons t r ih =>
    simp only [pinL, look] at h
    split at h
    · rename_i e; exact ⟨t, by simp, e, by simpa using h.symm⟩
    · obtain ⟨t', h1, h2, h3⟩ := ih h; exact ⟨t', by simp [h1], h2, h3⟩
theorem pinL_look {pv : Nat → Option (Nat × Nat)} {pins : List Nat} {t : Nat} (h : t ∈ pins) : look (pinL pv pins) (t + 1000) = some (.pin t (pv t)) := by
  induction pins with
  | nil => cases h
  | cons q r ih =>
    simp only [pinL, look]
    by_cases e : t = q
    · subst e; simp
    · rw [if_neg (by omega)]
      exact ih ((List.mem_cons.1 h).resolve_left e)
theorem look_append (l l' : List (Nat × Ob)) (id : Nat) : look (l ++ l') id = (look l id).or (look l' id) := by
  induction l with
  | nil => simp [look]
  | cons x r ih =>
    obtain ⟨k, o⟩ := x
    simp only [List.cons_append, look]
    split
    · rfl
    · exact ih
/-- Nothing that is handed names a pin; pinned are cells and maps. -/
def pinOK (ps : List PV) (os : List (Nat × Ob)) (pins : List Nat) : Bool :=
  pins.all fun t => ps.all (fun p => !p.has (t + 1000)) && os.all (fun x => x.1 != t + 1000 && !x.2.has (t + 1000)) && pins.all (fun t' => t' + 1000 != t)

theorem PObj.intro {G : Type} {f : FuncId} {fn : Func} {c : Code} {ps : List PV} {os : List (Nat × Ob)} {pins : List Nat} {r : PV} {os' : G → List (Nat × Ob)} {n : Nat} {sl : List (Nat × PV)} (hf : P.funcs[f]? = some fn) (hb : fn.body = some c) (hn : fn.ntmps = n) (hsl : args 0 ps = sl) (hpn : Nat.ble ps.length n = true) (hpin : pinOK ps os pins = true)
    (body : ∀ ctx : Ctx, (∀ b, ctx.K b → ctx.S b) → ∀ pv : Nat → Option (Nat × Nat), PWc P ctx c (EndsO P ctx fn (pinL pv pins) r os') ⟨n, sl, os ++ pinL pv pins⟩) : PObj P f ps os pins r os' := by
  intro w g S vs hlen hreal hobs hdis
  let ctx : Ctx := ⟨w, fun b => S b ∨ OwnB g os b, OwnB g os⟩
  let pv : Nat → Option (Nat × Nat) := g
  let g1 : Ghost := fun j => if pins.any (fun t => j == t + 1000) then none else g j
  simp only [pinOK, List.all_eq_true, Bool.and_eq_true, Bool.not_eq_true', bne_iff_ne, ne_eq] at hpin
  have g1pin : ∀ t ∈ pins, g1 (t + 1000) = none := fun t ht => by
    have : (pins.any fun t' => t + 1000 == t' + 1000) = true := List.any_eq_true.2 ⟨t, ht, by simp⟩
    simp only [g1, this, if_true]
  have g1ne : ∀ j, (∀ t ∈ pins, j ≠ t + 1000) → g1 j = g j := fun j hj => by
    have : (pins.any fun t' => j == t' + 1000) = false := by
      rw [List.any_eq_false]; intro t ht; simpa using hj t ht
    simp only [g1, this, Bool.false_eq_true, if_false]
  have g1p : ∀ p ∈ ps, ∀ j, p.has j = true → g1 j = g j := fun p hp j hj => g1ne j fun t ht e => by
    have := (hpin t ht).1.1 p hp
    rw [← e, hj] at this
    cases this
  have hosk : ∀ id o, look os id = some o → ∀ t ∈ pins, id ≠ t + 1000 := fun id o ho t ht => ((hpin t ht).1.2 _ (look_mem ho)).1
  have g1k : ∀ id o, look os id = some o → g1 id = g id := fun id o ho => g1ne id (hosk id o ho)
  have g1o : ∀ id o, look os id = some o → ∀ j, o.has j = true → g1 j = g j := fun id o ho j hj => g1ne j fun t ht e => by
    have := ((hpin t ht).1.2 _ (look_mem ho)).2
    simp only at this
    rw [← e, hj] at this
    cases this
  have hgp : ∀ t ∈ pins, g t = pv t := fun t _ => rfl
  have hlook : ∀ id o, look (os ++ pinL pv pins) id = some o → look os id = some o ∨ ∃ t ∈ pins, id = t + 1000 ∧ o = .pin t (pv t) := fun id o h => by
    rw [look_append] at h
    cases hl : look os id with
    | none => rw [hl, Option.none_or] at h; exact .inr (pinL_mem h)
    | some q => rw [hl, Option.some_or] at h; exact .inl h
  have hfree : ∀ b, S b → Free ctx g1 (os ++ pinL pv pins) b := fun b hb => ⟨.inl (.inl hb), fun id o n ho hg => by
    rcases hlook id o ho with h | ⟨t, ht, h, _⟩
    · rw [g1k id o h] at hg; exact hdis b hb ⟨id, o, n, h, hg⟩
    · rw [h, g1pin t ht] at hg; cases hg⟩
  have hst : Stays w w S := ⟨Nat.le_refl _, fun _ _ _ => rfl⟩
  have hpl : vs.length ≤ n := by rw [← hlen]; exact Nat.le_of_ble_eq_true hpn
  refine calls_of_wp hf hb ?_
  subst hsl
  have hrel : RelG ctx g1 ⟨n, args 0 ps, os ++ pinL pv pins⟩ { tmps := vs.toArray ++ Array.replicate (fn.ntmps - vs.toArray.size) undef, defers := [] } w := by
    rw [hn]
    refine ⟨rfl, by simp; omega, ?_, ?_, ?_, ?_, rfl, rfl, rfl, Nat.le_refl _, fun _ _ _ => rfl⟩
    · intro i p hp
      obtain ⟨j, h1, h2⟩ := args_get (at_get hp)
      have e : i = j := by omega
      subst e
      have hi' : i < vs.length := by rw [← hlen]; exact (List.getElem?_eq_some_iff.1 h2).1
      have hv : vs[i]? = some vs[i] := List.getElem?_eq_getElem hi'
      have e : (vs.toArray ++ Array.replicate (n - vs.toArray.size) undef).getD i undef = vs[i] := by
        simp [Array.getD_eq_getD_getElem?, Array.getElem?_append, hi']
      rw [e]
      exact (hreal i p _ h2 hv).keep (w' := w) (g' := g1) hst (fun b hb _ => hfree b hb) (fun j hj => g1p p (List.mem_of_getElem? h2) j hj)
    · intro id o ho
      rcases hlook id o ho with h | ⟨t, ht, rfl, rfl⟩
      · exact (hobs.rd id o h).keep hst (fun b hb _ => hfree b hb) (fun _ _ _ => rfl) (g1k id o h) (g1o id o h)
      · refine .pin t _ (g1pin t ht) ?_
        rw [g1ne t fun t' ht' e => (hpin t ht).2 t' ht' e.symm]
    · intro i j oi oj b n m hi hj hgi hgj
      rcases hlook i oi hi with h | ⟨t, ht, rfl, _⟩
      · rcases hlook j oj hj with h2 | ⟨t, ht, rfl, _⟩
        · rw [g1k i oi h] at hgi; rw [g1k j oj h2] at hgj; exact hobs.inj i j oi oj b n m h h2 hgi hgj
        · rw [g1pin t ht] at hgj; cases hgj
      · rw [g1pin t ht] at hgi; cases hgi
    · intro id o b n ho hg
      rcases hlook id o ho with h | ⟨t, ht, rfl, _⟩
      · rw [g1k id o h] at hg; exact ⟨hobs.lt id o b n h hg, .inr ⟨id, o, n, h, hg⟩⟩
      · rw [g1pin t ht] at hg; cases hg
  refine wp_mono (body ctx (fun b h => .inr h) pv _ w ⟨g1, hrel⟩) fun e a' w' ⟨s1, ⟨he, gh, qs, t, hsub, hres, hq, hos, hpl'⟩, hr1⟩ => ?_
  have main : a'.defers = [] ∧ ∃ v, (results fn a'.tmps).run P w' = .ok v w' ∧ (∃ u g' gh, Ending.returned v = .returned u ∧ ObPost w g S os pins r (os' gh) w' g' u) := by
    obtain ⟨g2, hg⟩ := hsub a' w' hr1
    obtain ⟨us, h1, h2, h3⟩ := resLO_real hg hres
    have hrun : (results fn a'.tmps).run P w' = .ok (if h : us.toArray.size = 1 then us.toArray[0] else .tuple us.toArray) w' := by
      rw [results_eq, Array.mapM_eq_mapM_toList]
      simp only [Sem.run_bind, Sem.run_map, h1, Result.andThen_ok, Sem.run_pure]
    have hFA : ∀ b, Free ctx g2 t.objs b → After w g S os g2 (os' gh) b := fun b ⟨f1, f2⟩ => ⟨by
      rcases f1 with (f1 | f1) | f1
      · exact .inl f1
      · exact .inr (.inl f1)
      · exact .inr (.inr f1), fun ⟨id, o, n, h4, h5⟩ => f2 id o n (hos id o h4) h5⟩
    have hst' : Stays w' w' (Free ctx g2 t.objs) := ⟨Nat.le_refl _, fun _ _ _ => rfl⟩
    refine ⟨hg.defers, _, hrun, _, g2, gh, rfl, hg.os, hg.tape, hg.output, hg.grows, hg.keep, fun b ⟨id, o, n, h4, h5⟩ => ?_, fun id hid => ?_, ?_, ⟨fun id o h4 => (hg.objs id o (hos id o h4)).keep hst' (fun b hb _ => hFA b hb) (fun _ _ _ => rfl) rfl (fun _ _ => rfl), fun i j oi oj b n m hi hj => hg.inj i j oi oj b n m (hos i oi hi) (hos j oj hj), fun id o b n h4 h5 => (hg.own id o b n (hos id o h4) h5).1⟩⟩
    · rcases (hg.own id o b n (hos id o h4) h5).2 with h6 | h6
      · exact .inr h6
      · exact .inl h6
    · have h6 := hg.objs _ _ (hpl' _ _ (pinL_look (pv := pv) hid))
      cases h6 with
      | pin _ _ _ ht => rw [ht, hgp id hid]
    · have hk : ∀ {p : PV} {v : Value}, Rd w' g2 (Free ctx g2 t.objs) p v → Rd w' g2 (After w g S os g2 (os' gh)) p v := fun h => h.keep hst' (fun b hb _ => hFA b hb) (fun _ _ => rfl)
      subst hq
      match qs, us, h2, h3 with
      | [p], [u], _, h3 => exact hk (h3 0 p u rfl rfl)
      | [], [], _, h3 => exact .tup [] [] rfl (by simp)
      | p :: q :: ps, u :: v :: us, h2, h3 =>
        have hne : ¬ (u :: v :: us).toArray.size = 1 := by simp
        rw [dif_neg hne]
        exact .tup _ _ h2 fun i p u hp hu => hk (h3 i p u hp hu)
  rcases he with rfl | rfl
  · exact main
  · exact main
end
end Go.Ep
namespace Go.Ep
open Go.RowKit
def rn (ρ : List (Nat × Nat)) (i : Nat) : Nat := match ρ with
  | [] => i
  | (a, b) :: r => bif Nat.beq a i then b else rn r i
mutual
def PV.ren (ρ : List (Nat × Nat)) : PV → PV
  | .ref i o => .ref (rn ρ i) o
  | .row i n => .row (rn ρ i) n
  | .rp i a b c => .rp (rn ρ i) a b c
  | .pc i a b c => .pc (rn ρ i) a b c
  | .mp i => .mp (rn ρ i)
  | .pa i o n => .pa (rn ρ i) o n
  | .agg cs => .agg (PV.renL ρ cs)
  | .tup cs => .tup (PV.renL ρ cs)
  | p => p
def PV.renL (ρ : List (Nat × Nat)) : List PV → List PV
  | [] => []
  | c :: r => c.ren ρ :: PV.renL ρ r
end
def Ob.ren (ρ : List (Nat × Nat)) : Ob → Ob
  | .cells T cs => .cells T (PV.renL ρ cs)
  | .iterO mid bs ck L => .iterO (rn ρ mid) bs ck L
  | .pin t x => .pin (rn ρ t) x
  | .mapP ks m ov bs ck => .mapP ks m (ov.map fun x => (x.1, x.2.ren ρ)) bs ck
  | o => o
theorem renL_map (ρ : List (Nat × Nat)) : ∀ cs : List PV, PV.renL ρ cs = cs.map (PV.ren ρ)
  | [] => by simp [PV.renL]
  | c :: r => by simp [PV.renL, renL_map ρ r]
section
variable {w : World} {g : Ghost} {S : Nat → Prop} {ρ : List (Nat × Nat)}
theorem Rd.ren {p : PV} {v : Value} (h : Rd w (fun i => g (rn ρ i)) S p v) : Rd w g S (p.ren ρ) v := by
  induction h with
  | junk u => exact .junk u
  | und => exact .und
  | d h => exact .d h
  | agg cs us hl h h1 ih =>
    rw [PV.ren, renL_map]
    refine .agg _ us (by simpa using hl) (fun i p u hp hu => ?_) h1
    rw [List.getElem?_map] at hp
    cases hc : cs[i]? with
    | none => rw [hc] at hp; cases hp
    | some q => rw [hc] at hp; simp only [Option.map_some, Option.some.injEq] at hp; subst hp; exact ih i q u hc hu
  | tup cs us hl h ih =>
    rw [PV.ren, renL_map]
    refine .tup _ us (by simpa using hl) (fun i p u hp hu => ?_)
    rw [List.getElem?_map] at hp
    cases hc : cs[i]? with
    | none => rw [hc] at hp; cases hp
    | some q => rw [hc] at hp; simp only [Option.map_some, Option.some.injEq] at hp; subst hp; exact ih i q u hc hu
  | ref id off blk n h => exact .ref _ off blk n h
  | row id n blk cap h => exact .row _ n blk cap h
  | rowNil id h => exact .rowNil _ h
  | rp id i off k blk cap h => exact .rp _ i off k blk cap h
  | pc id i n k blk cap h hi => exact .pc _ i n k blk cap h hi
  | pc0 id i k a c => exact .pc0 _ i k a c
  | ep cs b off o c hS hb hc hr => exact .ep cs b off o c hS hb hc hr
  | mp id blk n h => exact .mp _ blk n h
  | pa id off n blk c h => exact .pa _ off n blk c h
  | mpNil id h => exact .mpNil _ h
  | md ks ag m bs ck b es hS hb hh hm => exact .md ks ag m bs ck b es hS hb hh hm
  | mdNil ks ag => exact .mdNil ks ag
  | clo f cs us hl h => exact .clo f cs us hl h
theorem ObRd.ren {id : Nat} {o : Ob} (h : ObRd w (fun i => g (rn ρ i)) S id o) : ObRd w g S (rn ρ id) (o.ren ρ) := by
  cases h with
  | cells T cs blk n us h hh hl hr h1 =>
    rw [Ob.ren, renL_map]
    refine .cells T _ blk n us h hh (by simpa using hl) (fun i p u hp hu => ?_) h1
    rw [List.getElem?_map] at hp
    cases hc : cs[i]? with
    | none => rw [hc] at hp; cases hp
    | some q => rw [hc] at hp; simp only [Option.map_some, Option.some.injEq] at hp; subst hp; exact (hr i q u hc hu).ren
  | rowNil T k h => exact .rowNil T k h
  | row T k l blk cap cur h hh hlc hcap hcs hkk hr => exact .row T k l blk cap cur h hh hlc hcap hcs hkk hr
  | map ks ag m bs ck blk n es h hh hm => exact .map ks ag m bs ck blk n es h hh hm
  | mapNil ks ag ck h => exact .mapNil ks ag ck h
  | mapN ks ag m bs ck blk n es h hh hm => exact .mapN ks ag m bs ck blk n es h hh hm
  | mapHNil ks ag h => exact .mapHNil ks ag h
  | mapH ks ag m bs ck blk n es h hh hm => exact .mapH ks ag m bs ck blk n es h hh hm
  | iterO mid bs ck L blk n b n' h hh hm => exact .iterO _ bs ck L blk n b n' h hh hm
  | iterON mid ck blk n h hh hm => exact .iterON _ ck blk n h hh hm
  | iterD ks ag m bs ck L blk n b es h hh hs hb hb2 hm => exact .iterD ks ag m bs ck L blk n b es h hh hs hb hb2 hm
  | iterN ks ag blk n h hh => exact .iterN ks ag blk n h hh
  | pin tgt x h ht => exact .pin _ x h ht
  | mapP ks m ov bs ck blk n es h hh hsz hst hbl hnd hent hov =>
    rw [Ob.ren]
    refine .mapP ks m _ bs ck blk n es h hh hsz hst hbl hnd (fun i ns u hi => ?_) fun j p hj => ?_
    · obtain ⟨e, h1, h2, h3, h4, h5⟩ := hent i ns u hi
      refine ⟨e, h1, h2, h3, h4, fun hne => h5 fun p hp => ?_⟩
      exact hne (p.ren ρ) (by rw [hp]; rfl)
    · cases ov with
      | none => cases hj
      | some x =>
        obtain ⟨j', p'⟩ := x
        simp only [Option.map_some, Option.some.injEq, Prod.mk.injEq] at hj
        obtain ⟨rfl, rfl⟩ := hj
        obtain ⟨e, h1, h2⟩ := hov _ _ rfl
        exact ⟨e, h1, h2.ren⟩
end
end Go.Ep
namespace Go.Ep
open Go.RowKit
inductive AllOb (s : PState) (ρ : List (Nat × Nat)) : List (Nat × Ob) → Prop
  | nil : AllOb s ρ []
  | cons {id : Nat} {o : Ob} {r : List (Nat × Ob)} (h : look s.objs (rn ρ id) = some (o.ren ρ)) (t : AllOb s ρ r) : AllOb s ρ ((id, o) :: r)
theorem AllOb.get {s : PState} {ρ : List (Nat × Nat)} {os : List (Nat × Ob)} (h : AllOb s ρ os) : ∀ id o, look os id = some o → look s.objs (rn ρ id) = some (o.ren ρ) := by
  induction h with
  | nil => intro id o h; simp [look] at h
  | cons h _ ih =>
    intro id o hl
    simp only [look] at hl
    split at hl
    · rename_i e; subst e; cases hl; exact h
    · exact ih id o hl
theorem look_key {l : List (Nat × Ob)} {i : Nat} {o : Ob} (h : look l i = some o) : i ∈ l.map (·.1) := List.mem_map.2 ⟨(i, o), look_mem h, rfl⟩
section
variable {P : Program} {ctx : Ctx} {s : PState}
end
end Go.Ep
namespace Go.Ep
open Go.RowKit
section
variable {P : Program} {ctx : Ctx} {Q : PQ} {s : PState}
variable {dst : Option Tmp} {ty : TypeId} {pos : String} {after : Array Edge} {gd : Option (Nat × Bool)}
end
end Go.Ep
namespace Go.Ep
theorem look_left {a b : List (Nat × Ob)} {id : Nat} {o : Ob} (h : look a id = some o) : look (a ++ b) id = some o := by rw [look_append, h]; rfl
theorem EndsO.mk {G : Type} {P : Program} {ctx : Ctx} {fn : Func} {pl : List (Nat × Ob)} {r : PV} {os' : G → List (Nat × Ob)} {e : Exit} {s : PState} (gh : G) {n : Nat} {sl : List (Nat × PV)} {ps : List PV} (he : e = .normal ∨ e = .ret) (hsub : Sub ctx s ⟨n, sl, os' gh ++ pl⟩)
    (hres : ResLO P ⟨n, sl, os' gh ++ pl⟩ fn.results.toList ps) (hq : tupOf ps = r) (hd : (pl.all fun x => !inL ((os' gh).map (·.1)) x.1) = true) : EndsO P ctx fn pl r os' e s := by
  refine ⟨he, gh, ps, _, hsub, hres, hq, fun id o h => look_left h, fun id o h => ?_⟩
  show look (os' gh ++ pl) id = some o
  rw [look_append]
  cases hl : look (os' gh) id with
  | none => rw [Option.none_or]; exact h
  | some q =>
    have h1 := List.all_eq_true.1 hd _ (look_mem h)
    have h2 := inL_iff.2 (look_key hl)
    simp only at h1
    rw [h2] at h1
    cases h1
end Go.Ep
namespace Go.Ep
open Go.RowKit
section
variable {P : Program} {ctx : Ctx} {Q : PQ} {s : PState}
variable {dst : Option Tmp} {ty : TypeId} {pos : String} {after : Array Edge} {gd : Option (Nat × Bool)}
end
end Go.Ep
namespace Go.Ep
open Go.RowKit
section
variable {ctx : Ctx} {s : PState}
end
end Go.Ep
namespace Go.Ep
open Go.RowKit
section
variable {P : Program} {ctx : Ctx} {Q : PQ} {s : PState}
variable {dst : Option Tmp} {ty : TypeId} {pos : String} {after : Array Edge} {gd : Option (Nat × Bool)}
end
end Go.Ep
namespace Go.Ep
open Go.RowKit
section
variable {ctx : Ctx} {s : PState}
end
end Go.Ep

namespace Go.Proofs
open Go.Ep
set_option maxHeartbeats 1000000
set_option maxRecDepth 100000
set_option linter.unusedVariables false
set_option linter.unusedSimpArgs false


theorem runs_Norm_ok (l1 : List TRun) (r0 : List TRun) (h : (runs_Norm l1).wp (· = r0)) : PRow Try.prog 25 [.d (.sl (List.map TRun.e l1))] 34 2 (List.map TRun.e r0) := by
  refine PRow.intro (sl := [(0, _)]) Try.func25 rfl Try.ntmps25 rfl rfl ?_;intro ctx hK;refine PWc.seq ?_;refine PWc.region ?_;refine PWl.step (LR.assignNilRow 34 2 rfl) rfl ?_;refine PWl.nil ?_;refine PWc.seq ?_;refine PWc.region ?_;refine PWl.step (LR.assignNilRow 34 2 rfl) rfl ?_;refine PWl.nil ?_;refine PWc.seq ?_;refine PWc.seq ?_;refine PWc.region ?_;refine PWl.step (LR.move rfl) rfl ?_;refine PWl.step (LR.lenMap (enc := TRun.e) (L := l1) Try.underlying22 rfl) rfl ?_;refine PWl.step (LR.move rfl) rfl ?_;refine PWl.nil ?_;refine PWc.jn (iBind h) (fun (some2 : List TRun) (_ : Unit) => ⟨78, [(3, .row 3 (List.length some2))], [(3, .row 34 2 (List.map TRun.e some2))]⟩) (fun h => ?_) ?_
  · refine PWc.block ?_;refine PWc.loopM (fun (⟨v23, some24⟩ : Int × List TRun) (_ : Unit) => ⟨78, [(3, .row 3 (List.length some24)), (10, .d (.sl (List.map TRun.e l1))), (11, .d (.v (.int .i64 (List.length l1 : Int)))), (12, .d (.v (.int .i64 v23)))], [(3, .row 34 2 (List.map TRun.e some24))]⟩) () h (Sub.of rfl (.cons rfl rfl <| .cons rfl rfl <| .cons rfl rfl <| .cons rfl rfl <| .nil) (.cons rfl rfl <| .nil)) ?_;rintro N ⟨v23, some24⟩ _ h;refine PWc.seq ?_;refine PWc.region ?_;refine PWl.step (LR.lss rfl rfl) rfl ?_;refine PWl.nil ?_;refine PWc.seq ?_;refine PWc.cond rfl (fun hc25 => ?_) (fun hc25 => ?_)
    · replace h := iT hc25 h;refine PWc.skip ?_;refine PWc.seq ?_;refine PWc.jn (iBind h) (fun (some26 : List TRun) (_ : Unit) => ⟨78, [(3, .row 3 (List.length some26)), (10, .d (.sl (List.map TRun.e l1))), (11, .d (.v (.int .i64 (List.length l1 : Int)))), (12, .d (.v (.int .i64 v23)))], [(3, .row 34 2 (List.map TRun.e some26))]⟩) (fun h => ?_) ?_
      · refine PWc.block ?_;refine PWc.seq ?_;refine PWc.region ?_;replace h := iIdx h;obtain ⟨x27, hy28, h⟩ := h;refine PWl.step (LR.idxT (enc := TRun.e) (L := l1) (y := x27) Try.underlying22 Try.sizeOf34 rfl rfl hy28 (fun _ => rfl)) rfl ?_;refine PWl.step (LR.loadEpAgg (ys := [_, _]) Try.isAgg34 Try.sizeOf34 rfl rfl rfl) rfl ?_;refine PWl.step (LR.allocZ (cs := [_, _]) Try.zeroValue34 rfl rfl rfl rfl) rfl ?_;refine PWl.step (LR.storeB (ns := [_, _]) Try.sizeOf34 rfl rfl rfl rfl rfl rfl rfl) rfl ?_;refine PWl.nil ?_;refine PWc.seq ?_;refine PWc.jn (iBind h) (fun (v29 : Bool) (_ : Unit) => ⟨78, [(3, .row 3 (List.length some24)), (5, .ref 5 0), (10, .d (.sl (List.map TRun.e l1))), (11, .d (.v (.int .i64 (List.length l1 : Int)))), (12, .d (.v (.int .i64 v23))), (30, .d (.v (.bool v29)))], [(3, .row 34 2 (List.map TRun.e some24)), (5, .cells 34 [.d (.v (.int .u64 x27.lo)), .d (.v (.int .u64 x27.hi))])]⟩) (fun h => ?_) ?_
        · refine PWc.region ?_;refine PWl.step (LR.fieldRef Try.underlying34 rfl Try.sizeOf28 (by decide) rfl rfl) rfl ?_;refine PWl.step (LR.loadRef Try.isAgg28 rfl rfl rfl) rfl ?_;refine PWl.step (LR.gtr rfl rfl) rfl ?_;refine PWl.step (LR.move rfl) rfl ?_;refine PWl.split (d := 19) rfl (fun hg30 => ?_) (fun hg30 => ?_)
          · replace h := iT hg30 h;refine PWl.guardT (LR.fieldRef Try.underlying34 rfl Try.sizeOf28 (by decide) rfl rfl) rfl rfl rfl ?_;refine PWl.guardT (LR.loadRef Try.isAgg28 rfl rfl rfl) rfl rfl rfl ?_;refine PWl.guardT (LR.fieldRef Try.underlying34 rfl Try.sizeOf28 (by decide) rfl rfl) rfl rfl rfl ?_;refine PWl.guardT (LR.loadRef Try.isAgg28 rfl rfl rfl) rfl rfl rfl ?_;refine PWl.guardT (LR.leq rfl rfl) rfl rfl rfl ?_;refine PWl.step (LR.pickT rfl rfl) rfl ?_;refine PWl.step (LR.move rfl) rfl ?_;refine PWl.split (d := 26) rfl (fun hg31 => ?_) (fun hg31 => ?_)
            · replace h := iT hg31 h;refine PWl.re (tl := [(3, _), (5, _), (10, _), (11, _), (12, _), (20, _), (21, _), (22, _), (23, _), (24, _), (26, _)]) (to := [(3, _), (5, _)]) rfl (.cons rfl rfl <| .cons rfl rfl <| .cons rfl rfl <| .cons rfl rfl <| .cons rfl rfl <| .cons rfl rfl <| .cons rfl rfl <| .cons rfl rfl <| .cons rfl rfl <| .cons rfl rfl <| .cons rfl rfl <| .nil) (.cons rfl rfl <| .cons rfl rfl <| .nil) ?_;refine PWl.guardT (LR.fieldRef Try.underlying34 rfl Try.sizeOf28 (by decide) rfl rfl) rfl rfl rfl ?_;refine PWl.guardT (LR.loadRef Try.isAgg28 rfl rfl rfl) rfl rfl rfl ?_;refine PWl.guardT (LR.leq rfl rfl) rfl rfl rfl ?_;refine PWl.step (LR.pickT rfl rfl) rfl ?_;refine PWl.nil ?_;exact ⟨(decide (x27.hi ≤ 281474976710655)), (), h, Sub.of rfl (.cons rfl rfl <| .cons rfl rfl <| .cons rfl rfl <| .cons rfl rfl <| .cons rfl rfl <| .cons rfl rfl <| .nil) (.cons rfl rfl <| .cons rfl rfl <| .nil)⟩
            · replace h := iF hg31 h;refine PWl.re (tl := [(3, _), (5, _), (10, _), (11, _), (12, _), (20, _), (21, _), (22, _), (23, _), (24, _), (26, _)]) (to := [(3, _), (5, _)]) rfl (.cons rfl rfl <| .cons rfl rfl <| .cons rfl rfl <| .cons rfl rfl <| .cons rfl rfl <| .cons rfl rfl <| .cons rfl rfl <| .cons rfl rfl <| .cons rfl rfl <| .cons rfl rfl <| .cons rfl rfl <| .nil) (.cons rfl rfl <| .cons rfl rfl <| .nil) ?_;refine PWl.guardF rfl rfl rfl (by decide) ?_;refine PWl.guardF rfl rfl rfl (by decide) ?_;refine PWl.guardF rfl rfl rfl (by decide) ?_;refine PWl.step (LR.pickF rfl rfl) rfl ?_;refine PWl.nil ?_;exact ⟨false, (), h, Sub.of rfl (.cons rfl rfl <| .cons rfl rfl <| .cons rfl rfl <| .cons rfl rfl <| .cons rfl rfl <| .cons rfl rfl <| .nil) (.cons rfl rfl <| .cons rfl rfl <| .nil)⟩
          · replace h := iF hg30 h;refine PWl.guardF rfl rfl rfl (by decide) ?_;refine PWl.guardF rfl rfl rfl (by decide) ?_;refine PWl.guardF rfl rfl rfl (by decide) ?_;refine PWl.guardF rfl rfl rfl (by decide) ?_;refine PWl.guardF rfl rfl rfl (by decide) ?_;refine PWl.step (LR.pickF rfl rfl) rfl ?_;refine PWl.step (LR.move rfl) rfl ?_;refine PWl.guardF rfl rfl rfl (by decide) ?_;refine PWl.re (tl := [(3, _), (5, _), (10, _), (11, _), (12, _), (20, _), (21, _), (22, _), (23, _), (24, _), (26, _), (27, _)]) (to := [(3, _), (5, _)]) rfl (.cons rfl rfl <| .cons rfl rfl <| .cons rfl rfl <| .cons rfl rfl <| .cons rfl rfl <| .cons rfl rfl <| .cons rfl rfl <| .cons rfl rfl <| .cons rfl rfl <| .cons rfl rfl <| .cons rfl rfl <| .cons rfl rfl <| .nil) (.cons rfl rfl <| .cons rfl rfl <| .nil) ?_;refine PWl.guardF rfl rfl rfl (by decide) ?_;refine PWl.guardF rfl rfl rfl (by decide) ?_;refine PWl.step (LR.pickF rfl rfl) rfl ?_;refine PWl.nil ?_;exact ⟨false, (), h, Sub.of rfl (.cons rfl rfl <| .cons rfl rfl <| .cons rfl rfl <| .cons rfl rfl <| .cons rfl rfl <| .cons rfl rfl <| .nil) (.cons rfl rfl <| .cons rfl rfl <| .nil)⟩
        · rintro v29 _ h;refine PWc.cond rfl (fun hc32 => ?_) (fun hc32 => ?_)
          · replace h := iT hc32 h;refine PWc.region ?_;refine PWl.step (LR.move rfl) rfl ?_;refine PWl.step (LR.loadRefAgg (ps := [_, _]) Try.isAgg34 Try.sizeOf34 rfl rfl rfl rfl) rfl ?_;refine PWl.step (LR.buildSliceD [.tmp 32] elem22 rfl rfl (.cons rfl rfl rfl <| .nil) (by decide) (by decide)) rfl ?_;replace h := iNeed h;obtain ⟨hy33, h⟩ := h;refine PWl.step (LR.appT (enc := TRun.e) (L := some24) (R := [x27]) [3, 31] elem22 Try.underlying22 rfl rfl rfl (Src.slT (enc := TRun.e) (R := [x27]) rfl (fun _ => rfl)) (fun _ => rfl) hy33 rfl rfl) rfl ?_;refine PWl.step (LR.assign rfl) rfl ?_;refine PWl.nil ?_;exact ⟨(some24 ++ [x27]), (), h, Sub.of rfl (.cons rfl rfl <| .cons rfl rfl <| .cons rfl rfl <| .cons rfl rfl <| .nil) (.cons rfl rfl <| .nil)⟩
          · replace h := iF hc32 h;refine PWc.skip ?_;exact ⟨some24, (), h, Sub.of rfl (.cons rfl rfl <| .cons rfl rfl <| .cons rfl rfl <| .cons rfl rfl <| .nil) (.cons rfl rfl <| .nil)⟩
      · rintro some26 _ h;refine PWc.region ?_;refine PWl.step (LR.addW rfl rfl) rfl ?_;refine PWl.step (LR.move rfl) rfl ?_;refine PWl.nil ?_;exact ⟨((IntKind.i64.wrap (v23 + 1)), some26), (), h, Sub.of rfl (.cons rfl rfl <| .cons rfl rfl <| .cons rfl rfl <| .cons rfl rfl <| .nil) (.cons rfl rfl <| .nil)⟩
    · replace h := iF hc25 h;refine PWc.exit ?_;exact ⟨some24, (), h, Sub.of rfl (.cons rfl rfl <| .nil) (.cons rfl rfl <| .nil)⟩
  · rintro some2 _ h;refine PWc.seq ?_;refine PWc.region ?_;refine PWl.step (LR.move rfl) rfl ?_;replace h := iNeed h;obtain ⟨hy35, h⟩ := h;refine PWl.sortFn (encD := TRun.e) (enc := TRun.v) (l := some2) srt43_44 (fun _ => rfl) TRun.v1 (fun _ => rfl) rfl Try.call43 rfl rfl rfl (by simp) hy35 rfl (fun s34 hy36 hy37 => ?_);replace h := iSrt h s34 hy36 hy37;have hy36l := hy36.length_eq;refine PWl.nil ?_;refine PWc.seq ?_;refine PWc.region ?_;refine PWl.step (LR.assignNilRow 34 2 rfl) rfl ?_;refine PWl.nil ?_;refine PWc.seq ?_;refine PWc.seq ?_;refine PWc.region ?_;refine PWl.step (LR.move rfl) rfl ?_;refine PWl.step (LR.lenRow Try.underlying22 rfl) rfl ?_;refine PWl.step (LR.move rfl) rfl ?_;refine PWl.nil ?_;refine PWc.jn (iBind h) (fun (out38 : List TRun) (_ : Unit) => ⟨78, [(6, .row 6 (List.length out38))], [(6, .row 34 2 (List.map TRun.e out38))]⟩) (fun h => ?_) ?_
    · refine PWc.block ?_;refine PWc.loopM (fun (⟨v69, out70⟩ : Int × List TRun) (_ : Unit) => ⟨78, [(6, .row 6 (List.length out70)), (38, .row 3 (List.length some2)), (39, .d (.v (.int .i64 ((List.length some2) : Int)))), (40, .d (.v (.int .i64 v69)))], [(3, .row 34 2 (List.map TRun.e s34)), (6, .row 34 2 (List.map TRun.e out70))]⟩) () h (Sub.of rfl (.cons rfl rfl <| .cons rfl (by first | rfl | (simp; done) | (congr 1; first | (simp; done) | (simp; omega) | omega)) <| .cons rfl rfl <| .cons rfl rfl <| .nil) (.cons rfl rfl <| .cons rfl rfl <| .nil)) ?_;rintro N ⟨v69, out70⟩ _ h;refine PWc.seq ?_;refine PWc.region ?_;refine PWl.step (LR.lss rfl rfl) rfl ?_;refine PWl.nil ?_;refine PWc.seq ?_;refine PWc.cond rfl (fun hc71 => ?_) (fun hc71 => ?_)
      · replace h := iT hc71 h;refine PWc.skip ?_;refine PWc.seq ?_;refine PWc.jn (iBind h) (fun (out72 : List TRun) (_ : Unit) => ⟨78, [(6, .row 6 (List.length out72)), (38, .row 3 (List.length some2)), (39, .d (.v (.int .i64 ((List.length some2) : Int)))), (40, .d (.v (.int .i64 v69)))], [(3, .row 34 2 (List.map TRun.e s34)), (6, .row 34 2 (List.map TRun.e out72))]⟩) (fun h => ?_) ?_
        · refine PWc.block ?_;refine PWc.seq ?_;refine PWc.region ?_;replace h := iIdx h;obtain ⟨x73, hy74, h⟩ := h;refine PWl.step (LR.idxRowT (L := s34) (y := x73) Try.underlying22 Try.sizeOf34 rfl (by first | (simp; done) | (simp; omega) | omega) rfl hy74) rfl ?_;refine PWl.step (LR.loadRpT (enc := TRun.e) (L := s34) (y := x73) Try.isAgg34 Try.sizeOf34 rfl rfl hy74.2) rfl ?_;refine PWl.step (LR.allocZ (cs := [_, _]) Try.zeroValue34 rfl rfl rfl rfl) rfl ?_;refine PWl.step (LR.storeB (ns := [_, _]) Try.sizeOf34 rfl rfl rfl rfl rfl rfl rfl) rfl ?_;refine PWl.nil ?_;refine PWc.seq ?_;refine PWc.seq ?_;refine PWc.region ?_;refine PWl.step (LR.move rfl) rfl ?_;refine PWl.step (LR.lenRow Try.underlying22 rfl) rfl ?_;refine PWl.step (LR.subW rfl rfl) rfl ?_;refine PWl.step (LR.assign rfl) rfl ?_;refine PWl.nil ?_;refine PWc.seq ?_;refine PWc.jn (iBind h) (fun (v75 : Bool) (_ : Unit) => ⟨78, [(6, .row 6 (List.length out70)), (8, .ref 8 0), (9, .d (.v (.int .i64 ((IntKind.i64.wrap (((List.length out70) : Int) - 1)))))), (38, .row 3 (List.length some2)), (39, .d (.v (.int .i64 ((List.length some2) : Int)))), (40, .d (.v (.int .i64 v69))), (59, .d (.v (.bool v75)))], [(3, .row 34 2 (List.map TRun.e s34)), (6, .row 34 2 (List.map TRun.e out70)), (8, .cells 34 [.d (.v (.int .u64 x73.lo)), .d (.v (.int .u64 x73.hi))])]⟩) (fun h => ?_) ?_
          · refine PWc.regionD (by kernel_rfl) (by kernel_rfl) ?_;refine PQl.step (fun _ he ho => LR.move (he rfl rfl)) rfl ?_;refine PQl.step (fun _ he ho => LR.geq (he rfl rfl) (he rfl rfl)) rfl ?_;refine PQl.step (fun _ he ho => LR.move (he rfl rfl)) rfl ?_;refine PQl.split (d := 49) rfl (fun hg76 => ?_) (fun hg76 => ?_)
            · replace h := iT hg76 h;refine PQl.guardT (fun _ he ho => LR.fieldRef Try.underlying34 rfl Try.sizeOf28 (by decide) rfl (he rfl rfl)) rfl rfl rfl ?_;refine PQl.guardT (fun _ he ho => LR.loadRef Try.isAgg28 (he rfl rfl) (ho rfl) rfl) rfl rfl rfl ?_;refine PQl.guardT (fun _ he ho => LR.move (he rfl rfl)) rfl rfl rfl ?_;refine PQl.guardT (fun _ he ho => LR.move (he rfl rfl)) rfl rfl rfl ?_;replace h := iIdx h;obtain ⟨x77, hy78, h⟩ := h;refine PQl.guardT (fun _ he ho => LR.idxRowT (L := out70) (y := x77) Try.underlying22 Try.sizeOf34 (he rfl rfl) rfl (he rfl rfl) hy78) rfl rfl rfl ?_;refine PQl.guardT (fun _ he ho => LR.fieldRp Try.underlying34 rfl Try.sizeOf28 (by decide) rfl (he rfl rfl)) rfl rfl rfl ?_;refine PQl.guardT (fun _ he ho => LR.loadRpF (enc := TRun.e) (L := out70) (y := x77) Try.isAgg28 (he rfl rfl) (ho rfl) hy78.2 rfl) rfl rfl rfl ?_;refine PQl.guardT (fun _ he ho => LR.addW (he rfl rfl) (he rfl rfl)) rfl rfl rfl ?_;refine PQl.guardT (fun _ he ho => LR.leq (he rfl rfl) (he rfl rfl)) rfl rfl rfl ?_;refine PQl.step (fun _ he ho => LR.pickT (he rfl rfl) (he rfl rfl)) rfl ?_;refine PQl.nil ?_;exact ⟨(decide (x73.lo ≤ (IntKind.u64.wrap (x77.hi + 1)))), (), h, Sub.of rfl (.cons rfl rfl <| .cons rfl rfl <| .cons rfl rfl <| .cons rfl (by first | rfl | (simp; done) | (congr 1; first | (simp; done) | (simp; omega) | omega)) <| .cons rfl rfl <| .cons rfl rfl <| .cons rfl rfl <| .nil) (.cons rfl rfl <| .cons rfl rfl <| .cons rfl rfl <| .nil)⟩
            · replace h := iF hg76 h;refine PQl.guardF rfl rfl rfl (by decide) ?_;refine PQl.guardF rfl rfl rfl (by decide) ?_;refine PQl.guardF rfl rfl rfl (by decide) ?_;refine PQl.guardF rfl rfl rfl (by decide) ?_;refine PQl.guardF rfl rfl rfl (by decide) ?_;refine PQl.guardF rfl rfl rfl (by decide) ?_;refine PQl.guardF rfl rfl rfl (by decide) ?_;refine PQl.guardF rfl rfl rfl (by decide) ?_;refine PQl.guardF rfl rfl rfl (by decide) ?_;refine PQl.step (fun _ he ho => LR.pickF (he rfl rfl) (he rfl rfl)) rfl ?_;refine PQl.nil ?_;exact ⟨false, (), h, Sub.of rfl (.cons rfl rfl <| .cons rfl rfl <| .cons rfl rfl <| .cons rfl (by first | rfl | (simp; done) | (congr 1; first | (simp; done) | (simp; omega) | omega)) <| .cons rfl rfl <| .cons rfl rfl <| .cons rfl rfl <| .nil) (.cons rfl rfl <| .cons rfl rfl <| .cons rfl rfl <| .nil)⟩
          · rintro v75 _ h;refine PWc.cond rfl (fun hc79 => ?_) (fun hc79 => ?_)
            · replace h := iT hc79 h;refine PWc.seq ?_;refine PWc.re (tl := [(6, _), (8, _), (9, _), (38, _), (39, _), (40, _)]) (to := [(3, _), (6, _), (8, _)]) rfl (.cons rfl rfl <| .cons rfl rfl <| .cons rfl rfl <| .cons rfl rfl <| .cons rfl rfl <| .cons rfl rfl <| .nil) (.cons rfl rfl <| .cons rfl rfl <| .cons rfl rfl <| .nil) ?_;refine PWc.regionE [⟨[60], [], [], [], [], [6], [], []⟩, ⟨[61], [], [], [], [], [], [], []⟩, ⟨[62], [], [], [], [], [6], [], []⟩, ⟨[63], [], [], [], [], [], [], []⟩, ⟨[64], [], [], [], [], [6], [], []⟩, ⟨[65], [], [], [], [], [6], [], []⟩, ⟨[66], [], [6], [], [], [], [], []⟩, ⟨[67], [], [], [], [], [8], [], []⟩, ⟨[68], [], [8], [], [], [], [], []⟩, ⟨[69], [], [], [], [], [], [], []⟩, ⟨[70], [], [], [], [], [6], [], []⟩, ⟨[71], [], [], [], [], [6], [], []⟩, ⟨[], [6], [6], [], [], [], [], []⟩] (by kernel_rfl) (by kernel_rfl) rfl ?_;refine PQe.stepP (fun _ he ho => LR.move (he rfl rfl)) (.inl rfl) rfl ?_;refine PQe.stepP (fun _ he ho => LR.move (he rfl rfl)) (.inl rfl) rfl ?_;refine PQe.stepP (fun _ he ho => LR.move (he rfl rfl)) (.inl rfl) rfl ?_;refine PQe.stepP (fun _ he ho => LR.move (he rfl rfl)) (.inl rfl) rfl ?_;replace h := iIdx h;obtain ⟨x80, hy81, h⟩ := h;refine PQe.stepP (fun _ he ho => LR.idxRowT (L := out70) (y := x80) Try.underlying22 Try.sizeOf34 (he rfl rfl) rfl (he rfl rfl) hy81) (.inl rfl) rfl ?_;refine PQe.stepP (fun _ he ho => LR.fieldRp Try.underlying34 rfl Try.sizeOf28 (by decide) rfl (he rfl rfl)) (.inl rfl) rfl ?_;refine PQe.stepP (fun _ he ho => LR.loadRpF (enc := TRun.e) (L := out70) (y := x80) Try.isAgg28 (he rfl rfl) (ho rfl rfl) hy81.2 rfl) (.inl rfl) rfl ?_;refine PQe.stepP (fun _ he ho => LR.fieldRef Try.underlying34 rfl Try.sizeOf28 (by decide) rfl (he rfl rfl)) (.inl rfl) rfl ?_;refine PQe.stepP (fun _ he ho => LR.loadRef Try.isAgg28 (he rfl rfl) (ho rfl rfl) rfl) (.inl rfl) rfl ?_;refine PQe.stepP (fun _ he ho => LR.maxI (he rfl rfl) (he rfl rfl)) (.inl rfl) rfl ?_;replace h := iIdx h;obtain ⟨x82, hy83, h⟩ := h;refine PQe.stepP (fun _ he ho => LR.idxRowT (L := out70) (y := x82) Try.underlying22 Try.sizeOf34 (he rfl rfl) rfl (he rfl rfl) hy83) (.inl rfl) rfl ?_;refine PQe.stepP (fun _ he ho => LR.fieldRp Try.underlying34 rfl Try.sizeOf28 (by decide) rfl (he rfl rfl)) (.inl rfl) rfl ?_;refine PQe.stepS (fun _ he ho => LR.storeRpT (enc := TRun.e) (L := out70) (a := x82) (b := (⟨x82.lo, (max x80.hi x73.hi)⟩ : TRun)) Try.sizeOf28 (he rfl rfl) (he rfl rfl) rfl rfl (ho rfl rfl) hy83.2 rfl rfl) (.inl rfl) rfl ?_;refine PQe.nil ?_;refine PWc.exit ?_;exact ⟨(List.set out70 ((Int.toNat ((IntKind.i64.wrap (((List.length out70) : Int) - 1))))) (⟨x82.lo, (max x80.hi x73.hi)⟩ : TRun)), (), h, Sub.of rfl (.cons rfl (by first | rfl | (simp; done) | (congr 1; first | (simp; done) | (simp; omega) | omega)) <| .cons rfl (by first | rfl | (simp; done) | (congr 1; first | (simp; done) | (simp; omega) | omega)) <| .cons rfl rfl <| .cons rfl rfl <| .nil) (.cons rfl rfl <| .cons rfl rfl <| .nil)⟩
            · replace h := iF hc79 h;refine PWc.skip ?_;refine PWc.region ?_;refine PWl.step (LR.move rfl) rfl ?_;refine PWl.step (LR.loadRefAgg (ps := [_, _]) Try.isAgg34 Try.sizeOf34 rfl rfl rfl rfl) rfl ?_;refine PWl.step (LR.buildSliceD [.tmp 73] elem22 rfl rfl (.cons rfl rfl rfl <| .nil) (by decide) (by decide)) rfl ?_;replace h := iNeed h;obtain ⟨hy84, h⟩ := h;refine PWl.step (LR.appT (enc := TRun.e) (L := out70) (R := [x73]) [6, 72] elem22 Try.underlying22 rfl rfl rfl (Src.slT (enc := TRun.e) (R := [x73]) rfl (fun _ => rfl)) (fun _ => rfl) hy84 rfl rfl) rfl ?_;refine PWl.step (LR.assign rfl) rfl ?_;refine PWl.nil ?_;exact ⟨(out70 ++ [x73]), (), h, Sub.of rfl (.cons rfl rfl <| .cons rfl (by first | rfl | (simp; done) | (congr 1; first | (simp; done) | (simp; omega) | omega)) <| .cons rfl rfl <| .cons rfl rfl <| .nil) (.cons rfl rfl <| .cons rfl rfl <| .nil)⟩
        · rintro out72 _ h;refine PWc.region ?_;refine PWl.step (LR.addW rfl rfl) rfl ?_;refine PWl.step (LR.move rfl) rfl ?_;refine PWl.nil ?_;exact ⟨((IntKind.i64.wrap (v69 + 1)), out72), (), h, Sub.of rfl (.cons rfl rfl <| .cons rfl (by first | rfl | (simp; done) | (congr 1; first | (simp; done) | (simp; omega) | omega)) <| .cons rfl rfl <| .cons rfl rfl <| .nil) (.cons rfl rfl <| .cons rfl rfl <| .nil)⟩
      · replace h := iF hc71 h;refine PWc.exit ?_;exact ⟨out70, (), h, Sub.of rfl (.cons rfl rfl <| .nil) (.cons rfl rfl <| .nil)⟩
    · rintro out38 _ h;refine PWc.seq ?_;refine PWc.region ?_;refine PWl.step (LR.move rfl) rfl ?_;refine PWl.step (LR.assign rfl) rfl ?_;refine PWl.nil ?_;refine PWc.ret ?_;replace h : _ = r0 := h;subst h;exact ⟨.inr rfl, 2, rfl, .inr ⟨6, _, rfl, (by simp), rfl⟩⟩

theorem runs_Of_ok (nums1 : List Int) (r0 : List TRun) (h : (runs_Of nums1).wp (· = r0)) : PRow Try.prog 21 [.d (.sl (List.map (eK .u64) nums1))] 34 2 (List.map TRun.e r0) := by
  refine PRow.intro (sl := [(0, _)]) Try.func21 rfl Try.ntmps21 rfl rfl ?_;intro ctx hK;refine PWc.seq ?_;refine PWc.region ?_;refine PWl.step (LR.assignNilRow 34 2 rfl) rfl ?_;refine PWl.nil ?_;refine PWc.seq ?_;refine PWc.region ?_;refine PWl.step (LR.move rfl) rfl ?_;refine PWl.step (LR.lenMap (enc := (eK .u64)) (L := nums1) Try.underlying71 rfl) rfl ?_;replace h := iNeed h;obtain ⟨hy2, h⟩ := h;refine PWl.step (LR.make0 (n := Int.toNat (List.length nums1 : Int)) elem22 rfl rfl (by omega) (by omega) (by omega) rfl) rfl ?_;refine PWl.step (LR.assign rfl) rfl ?_;refine PWl.nil ?_;refine PWc.seq ?_;refine PWc.seq ?_;refine PWc.region ?_;refine PWl.step (LR.move rfl) rfl ?_;refine PWl.step (LR.lenMap (enc := (eK .u64)) (L := nums1) Try.underlying71 rfl) rfl ?_;refine PWl.step (LR.move rfl) rfl ?_;refine PWl.nil ?_;refine PWc.jn (iBind h) (fun (v3 : List TRun) (_ : Unit) => ⟨24, [(3, .row 8 (List.length v3))], [(8, .row 34 2 (List.map TRun.e v3))]⟩) (fun h => ?_) ?_
  · refine PWc.block ?_;refine PWc.loopM (fun (⟨v14, v15⟩ : Int × List TRun) (_ : Unit) => ⟨24, [(3, .row 8 (List.length v15)), (9, .d (.sl (List.map (eK .u64) nums1))), (10, .d (.v (.int .i64 (List.length nums1 : Int)))), (11, .d (.v (.int .i64 v14)))], [(8, .row 34 2 (List.map TRun.e v15))]⟩) () h (Sub.of rfl (.cons rfl rfl <| .cons rfl rfl <| .cons rfl rfl <| .cons rfl rfl <| .nil) (.cons rfl rfl <| .nil)) ?_;rintro N ⟨v14, v15⟩ _ h;refine PWc.seq ?_;refine PWc.region ?_;refine PWl.step (LR.lss rfl rfl) rfl ?_;refine PWl.nil ?_;refine PWc.seq ?_;refine PWc.cond rfl (fun hc16 => ?_) (fun hc16 => ?_)
    · replace h := iT hc16 h;refine PWc.skip ?_;refine PWc.seq ?_;refine PWc.block ?_;refine PWc.seq ?_;refine PWc.region ?_;replace h := iIdx h;obtain ⟨x17, hy18, h⟩ := h;refine PWl.step (LR.idxT (enc := (eK .u64)) (L := nums1) (y := x17) Try.underlying71 Try.sizeOf28 rfl rfl hy18 (fun _ => rfl)) rfl ?_;refine PWl.step (LR.loadEp Try.isAgg28 rfl rfl) rfl ?_;refine PWl.step (LR.assign rfl) rfl ?_;refine PWl.nil ?_;refine PWc.region ?_;refine PWl.step (LR.move rfl) rfl ?_;refine PWl.step (LR.move rfl) rfl ?_;refine PWl.step (LR.move rfl) rfl ?_;refine PWl.step (LR.build (ns := [_, _]) build34 rfl rfl rfl) rfl ?_;refine PWl.step (LR.buildSliceD [.tmp 18] elem22 rfl rfl (.cons rfl rfl rfl <| .nil) (by decide) (by decide)) rfl ?_;replace h := iNeed h;obtain ⟨hy19, h⟩ := h;refine PWl.step (LR.appT (enc := TRun.e) (L := v15) (R := [(⟨x17, x17⟩ : TRun)]) [3, 15] elem22 Try.underlying22 rfl rfl rfl (Src.slT (enc := TRun.e) (R := [(⟨x17, x17⟩ : TRun)]) rfl (fun _ => rfl)) (fun _ => rfl) hy19 rfl rfl) rfl ?_;refine PWl.step (LR.assign rfl) rfl ?_;refine PWl.nil ?_;refine PWc.region ?_;refine PWl.step (LR.addW rfl rfl) rfl ?_;refine PWl.step (LR.move rfl) rfl ?_;refine PWl.nil ?_;exact ⟨((IntKind.i64.wrap (v14 + 1)), (v15 ++ [(⟨x17, x17⟩ : TRun)])), (), h, Sub.of rfl (.cons rfl rfl <| .cons rfl rfl <| .cons rfl rfl <| .cons rfl rfl <| .nil) (.cons rfl rfl <| .nil)⟩
    · replace h := iF hc16 h;refine PWc.exit ?_;exact ⟨v15, (), h, Sub.of rfl (.cons rfl rfl <| .nil) (.cons rfl rfl <| .nil)⟩
  · rintro v3 _ h;refine PWc.seq ?_;refine PWc.region ?_;refine PWl.step (LR.move rfl) rfl ?_;replace h := iDet h;obtain ⟨v20, hy21, h⟩ := h;refine PWl.frz [3, 22] hK (.cons rfl <| .cons rfl <| .nil) rfl (by simp) ?_;refine PWl.step (LR.rowN (runs_Norm_ok v3 v20 hy21) rfl Try.call25 rfl rfl rfl rfl) rfl ?_;refine PWl.step (LR.assign rfl) rfl ?_;refine PWl.nil ?_;refine PWc.ret ?_;replace h : _ = r0 := h;subst h;exact ⟨.inr rfl, 2, rfl, .inr ⟨23, _, rfl, (by simp), rfl⟩⟩
end Go.Proofs

namespace Go.Ep
open Go

theorem wI64 {n : Int} (h : -9223372036854775808 ≤ n) (h' : n ≤ 9223372036854775807) : IntKind.i64.wrap n = n := by simp [IntKind.wrap, IntKind.bits, IntKind.signed]; omega
theorem wU64 {n : Int} (h : 0 ≤ n) (h' : n ≤ 18446744073709551615) : IntKind.u64.wrap n = n := by simp [IntKind.wrap, IntKind.bits, IntKind.signed]; omega
theorem wSucc {i : Nat} (h : i < 9223372036854775807) : IntKind.i64.wrap ((i : Int) + 1) = ((i + 1 : Nat) : Int) := by rw [wI64 (by omega) (by omega)]; rfl
theorem wU64_mod (n : Int) : IntKind.u64.wrap n = n % 18446744073709551616 := by simp [IntKind.wrap, IntKind.bits, IntKind.signed]

namespace M
variable {α β σ ρ τ ε : Type}
/-- A loop over a list's places; mk: the state at a place. -/
theorem loopL {body : σ → M (Step σ ρ)} (l : List ε) (mk : Nat → τ → σ) (f : τ → ε → τ) (g : τ → M ρ)
    (I : Nat → τ → Prop) (h1 : ∀ (i : Nat) (x : ε) (t : τ), l[i]? = some x → i < l.length → I i t → body (mk i t) = pure (.next (mk (i + 1) (f t x))) ∧ I (i + 1) (f t x))
    (h2 : ∀ t, I l.length t → body (mk l.length t) = (g t).bind fun r => pure (.done r)) (t0 : τ) (h0 : I 0 t0) : loop body (mk 0 t0) = g (l.foldl f t0) := by
  have key : ∀ k i t, i + k = l.length → I i t → loop body (mk i t) = g ((l.drop i).foldl f t) := by
    intro k
    induction k with
    | zero =>
      intro i t hi hI
      have : i = l.length := by omega
      subst this
      rw [loop_eq, h2 t hI, List.drop_length]
      rfl
    | succ k ih =>
      intro i t hi hI
      have hlt : i < l.length := by omega
      obtain ⟨h3, h4⟩ := h1 i l[i] t (List.getElem?_eq_getElem hlt) hlt hI
      rw [loop_next h3, ih (i + 1) _ (by omega) h4, List.drop_eq_getElem_cons hlt]
      rfl
  simpa using key l.length 0 t0 (by omega) h0
/-- Does each element pass? -/
theorem loopAll {body : σ → M (Step σ ρ)} (l : List ε) (mk : Nat → σ) (p : Nat → ε → Bool) (r1 r2 : ρ)
    (h1 : ∀ (i : Nat) (x : ε), l[i]? = some x → i < l.length → body (mk i) = if p i x then pure (.next (mk (i + 1))) else pure (.done r2))
    (h2 : body (mk l.length) = pure (.done r1)) : loop body (mk 0) = pure (if l.zipIdx.all (fun y => p y.2 y.1) then r1 else r2) := by
  have key : ∀ k i, i + k = l.length → loop body (mk i) = pure (if ((l.drop i).zipIdx i).all (fun y => p y.2 y.1) then r1 else r2) := by
    intro k
    induction k with
    | zero =>
      intro i hi
      have : i = l.length := by omega
      subst this
      rw [loop_done h2, List.drop_length]
      rfl
    | succ k ih =>
      intro i hi
      have hlt : i < l.length := by omega
      have h3 := h1 i l[i] (List.getElem?_eq_getElem hlt) hlt
      rw [List.drop_eq_getElem_cons hlt, List.zipIdx_cons, List.all_cons]
      by_cases hp : p i l[i] = true
      · rw [if_pos hp] at h3
        rw [loop_next h3, ih (i + 1) (by omega), hp, Bool.true_and]
      · rw [if_neg hp] at h3
        rw [loop_done h3]
        simp [hp]
  have := key l.length 0 (by omega)
  rw [List.drop_zero] at this
  exact this

/-- What came, as a list. -/
def came {ε : Type} (m : List ε) (L : List Nat) : List ε := L.filterMap fun i => m[i]?
theorem came_snoc {m : List ε} {L : List Nat} {i : Nat} {y : ε} (h : m[i]? = some y) : came m (L ++ [i]) = came m L ++ [y] := by simp [came, h]
theorem all_perm {n : Nat} {L : List Nat} (hn : L.Nodup) (hb : ∀ i ∈ L, i < n) (ha : ∀ i, i < n → i ∈ L) : L.Perm (List.range n) := by
  refine (List.perm_ext_iff_of_nodup hn List.nodup_range).2 fun i => ?_
  rw [List.mem_range]
  exact ⟨hb i, ha i⟩
theorem came_perm {m : List ε} {L : List Nat} (hn : L.Nodup) (hb : ∀ i ∈ L, i < m.length) (ha : ∀ i, i < m.length → i ∈ L) : (came m L).Perm m := by
  have h1 := (all_perm hn hb ha).filterMap fun i => m[i]?
  have h2 : (List.range m.length).filterMap (fun i => m[i]?) = m := by
    apply List.ext_getElem?
    intro i
    clear h1 hn hb ha
    have : (List.range m.length).filterMap (fun i => m[i]?) = m := by
      induction m with
      | nil => rfl
      | cons x r ih =>
        rw [List.length_cons, List.range_succ_eq_map, List.filterMap_cons]
        simp only [List.getElem?_cons_zero, List.filterMap_map]
        congr 1
    rw [this]
  rw [h2] at h1
  exact h1
theorem nodup_len {n : Nat} {L : List Nat} (hn : L.Nodup) (hb : ∀ i ∈ L, i < n) : L.length ≤ n := by
  have := List.Nodup.length_le_of_subset hn (l₂ := List.range n) (fun i hi => List.mem_range.2 (hb i hi))
  simpa using this

theorem full {n : Nat} {L : List Nat} (hn : L.Nodup) (hb : ∀ i ∈ L, i < n) (hl : n ≤ L.length) : ∀ i, i < n → i ∈ L := by
  intro i hi
  refine Classical.byContradiction fun hni => ?_
  have := nodup_len (n := n) (L := i :: L) (List.nodup_cons.2 ⟨hni, hn⟩) (fun j hj => by
    rcases List.mem_cons.1 hj with rfl | hj
    · exact hi
    · exact hb j hj)
  simp at this
  omega
/-- A map is gone over; mk: the state when the places L came. -/
theorem loopM {body : σ → M (Step σ ρ)} (m : List ε) (mk : List Nat → τ → σ) (f : τ → ε → M τ) (g : τ → M ρ) (I : List ε → τ → Prop) (Q : ρ → Prop)
    (hb : ∀ L t, (∀ i ∈ L, i < m.length) → body (mk L t) = need (∀ i ∈ L, i < m.length) ((nxt m.length L).bind fun o => match o with
      | none => (g t).bind fun r => pure (.done r)
      | some i => (idx m (Int.ofNat i)).bind fun y => (f t y).bind fun t' => pure (.next (mk (L ++ [i]) t'))))
    (hs : ∀ l t y, I l t → l.length < m.length → y ∈ m → ∃ t', f t y = pure t' ∧ I (l ++ [y]) t') (he : ∀ l t, l.Perm m → I l t → (g t).wp Q) (t0 : τ) (h0 : I [] t0) : (loop body (mk [] t0)).wp Q := by
  have key : ∀ k L t, L.length + k = m.length → L.Nodup → (∀ i ∈ L, i < m.length) → I (came m L) t → loopP body Q (mk L t) := by
    intro k
    induction k with
    | zero =>
      intro L t hk hn hlt hI
      refine loopP_in ?_
      rw [hb L t hlt]
      have hall : ∀ i, i < m.length → i ∈ L := fun i hi => full hn hlt (by omega) i hi
      refine ⟨hlt, ⟨⟨none, hall⟩, fun o ho => ?_⟩⟩
      cases o with
      | none =>
        have := he _ t (came_perm hn hlt hall) hI
        exact this
      | some i => exact absurd (hall i ho.1) ho.2
    | succ k ih =>
      intro L t hk hn hlt hI
      refine loopP_in ?_
      rw [hb L t hlt]
      have hex : ∃ i, i < m.length ∧ i ∉ L := by
        refine Classical.byContradiction fun hno => ?_
        have hall : ∀ i, i < m.length → i ∈ L := fun i hi => Classical.byContradiction fun h => hno ⟨i, hi, h⟩
        have := (all_perm hn hlt hall).length_eq
        simp at this
        omega
      obtain ⟨i0, hi0⟩ := hex
      refine ⟨hlt, ⟨⟨some i0, hi0⟩, fun o ho => ?_⟩⟩
      cases o with
      | none => exact absurd (ho i0 hi0.1) hi0.2
      | some i =>
        have hi := List.getElem?_eq_getElem ho.1
        obtain ⟨t', h1, h2⟩ := hs (came m L) t m[i] hI (by have := List.length_filterMap_le (fun i => m[i]?) L; unfold came; omega) (List.getElem_mem ho.1)
        show ((idx m (Int.ofNat i)).bind _).wp _
        rw [show (Int.ofNat i) = (i : Int) from rfl, idx_nat hi, pure_bind, h1, pure_bind]
        refine ih (L ++ [i]) t' (by simp; omega) ?_ ?_ (by rw [came_snoc hi]; exact h2)
        · rw [List.nodup_append]
          refine ⟨hn, by simp, fun a ha b hb' => ?_⟩
          rw [List.mem_singleton.1 hb']
          intro e
          exact ho.2 (e ▸ ha)
        · intro j hj
          rcases List.mem_append.1 hj with hj | hj
          · exact hlt j hj
          · rw [List.mem_singleton.1 hj]; exact ho.1
  exact key m.length [] t0 (by simp) List.nodup_nil (by simp) h0

end M

namespace AL
variable {κ ν : Type} [DecidableEq κ]
end AL
end Go.Ep

namespace Go.Ep
open Go.RowKit Go.ChangeShapes Go.WideShapes

abbrev All : Nat → Prop := fun _ => True

mutual
/-- How many values and letters a reading holds. -/
def bulk {H : Type} : DataW H → Nat
  | .lit (.string bytes) => bytes.length + 1
  | .lit _ => 1
  | .nil => 1
  | .ptr d => bulk d + 1
  | .slice elems spare => bulkAll elems + bulkAll spare + 1
  | .agg parts => bulkAll parts + 1
  | .iface _ d => bulk d + 1
  | .map entries => bulkEntries entries + 1
  | .held _ => 1
def bulkAll {H : Type} : List (DataW H) → Nat
  | [] => 0
  | d :: r => bulk d + bulkAll r
def bulkEntries {H : Type} : List (Lit × DataW H) → Nat
  | [] => 0
  | x :: r => bulkEntry x + bulkEntries r
def bulkEntry {H : Type} : Lit × DataW H → Nat
  | (.string bytes, d) => bytes.length + bulk d + 1
  | (_, d) => bulk d + 1
end
theorem one_bulk {H : Type} (d : DataW H) : 1 ≤ bulk d := by
  cases d with
  | lit l => cases l <;> simp [bulk]
  | nil => simp [bulk]
  | ptr d => simp [bulk]
  | slice elems spare => simp [bulk]
  | agg parts => simp [bulk]
  | iface t d => simp [bulk]
  | map entries => simp [bulk]
  | held h => simp [bulk]
theorem bulkAll_app {H : Type} (l r : List (DataW H)) : bulkAll (l ++ r) = bulkAll l + bulkAll r := by
  induction l with
  | nil => simp [bulkAll]
  | cons x l ih => simp only [List.cons_append, bulkAll, ih]; omega
def szL {α : Type} (sz : α → Nat) : List α → Nat
  | [] => 0
  | a :: r => sz a + szL sz r
theorem szL_app {α : Type} (sz : α → Nat) (l r : List α) : szL sz (l ++ r) = szL sz l + szL sz r := by
  induction l with
  | nil => simp [szL]
  | cons x l ih => simp only [List.cons_append, szL, ih]; omega
/-- What is read at this type is data of this kind. -/
structure Opn (P : Program) (t : TypeId) (k : Nat) {α : Type} (enc : α → List DV) (ok : α → Prop) (sz : α → Nat) : Prop where
  cells : P.cellsOf t = k
  op : ∀ {H : Type} {en : TypeId × Value → H} {w : World} {fuel : Nat} {cs : List Value} {x : DataW H × List MemPlace}, DataW.trod en P w 0 (fun _ => true) true fuel t cs = some x →
    ∃ a, ok a ∧ cs.length = k ∧ (enc a).length = k ∧ (∀ (j : Nat) (y : DV) (u : Value), (enc a)[j]? = some y → cs[j]? = some u → DRd w All y u) ∧ sz a ≤ bulk x.1

section
variable {P : Program} {t : TypeId}

theorem Opn.map {k : Nat} {α β : Type} {enc : α → List DV} {enc' : β → List DV} {ok : α → Prop} {ok' : β → Prop} {sz : α → Nat} {sz' : β → Nat} (h : Opn P t k enc ok sz) (f : α → β) (he : ∀ a, ok a → enc' (f a) = enc a) (ho : ∀ a, ok a → ok' (f a)) (hz : ∀ a, sz' (f a) ≤ sz a) : Opn P t k enc' ok' sz' :=
  ⟨h.cells, fun hx => let ⟨a, h1, h2, h3, h4, h5⟩ := h.op hx; ⟨f a, ho a h1, h2, by rw [he a h1]; exact h3, by rw [he a h1]; exact h4, Nat.le_trans (hz a) h5⟩⟩

theorem one_get {w : World} {y : DV} {u : Value} (h : DRd w All y u) : ∀ (j : Nat) (y' : DV) (u' : Value), [y][j]? = some y' → [u][j]? = some u' → DRd w All y' u' := by
  intro j y' u' h1 h2
  cases j with
  | zero => simp at h1 h2; subst h1; subst h2; exact h
  | succ j => simp at h1

def okK (k : IntKind) (n : Int) : Prop := (Lit.int k n).wf = true
theorem Opn.int {k : IntKind} (hu : P.underlying t = some (.int k)) (hc : P.cellsOf t = 1) : Opn P t 1 (eK k) (okK k) (fun _ => 1) := by
  refine ⟨hc, fun {H en w fuel cs x} h => ?_⟩
  cases fuel with
  | zero => simp [DataW.trod] at h
  | succ fuel =>
    unfold DataW.trod at h
    rw [hu] at h
    split at h <;> simp_all
    case h_2 n _ =>
      obtain ⟨⟨h1, h2⟩, _⟩ := h
      subst h1
      refine ⟨n, h2, rfl, ?_, one_bulk _⟩
      intro j y u h1 h3
      exact one_get (.v _ rfl) j y u h1 h3
theorem okU8 {n : Int} (h : okK .u8 n) : 0 ≤ n ∧ n < 256 := by
  simp [okK, Lit.wf, IntKind.min, IntKind.max, IntKind.signed, IntKind.bits] at h; omega
theorem Opn.slice {e : TypeId} {k : Nat} {α : Type} {enc : α → List DV} {ok : α → Prop} {sz : α → Nat} (h : Opn P e k enc ok sz) (hu : P.underlying t = some (.slice e)) (hc : P.cellsOf t = 1) (hk : 0 < k) :
    Opn P t 1 (eL enc) (fun l => l.length ≤ 9223372036854775807 ∧ ∀ a ∈ l, ok a) (fun l => szL sz l + 1) := by
  refine ⟨hc, fun {H en w fuel cs x} hx => ?_⟩
  rcases Deep.open_slice hu hx with ⟨rfl, _⟩ | ⟨a, len, cap, m, n, D, Pl, rfl, _, hl, hm, hmm, hxD, hel⟩
  · exact ⟨[], ⟨Nat.zero_le _, by simp⟩, rfl, rfl, one_get (.nil none 0 (Nat.zero_le _) (fun _ => rfl)), one_bulk _⟩
  simp only [if_true] at hmm
  subst hmm
  rw [h.cells] at hel
  have hcut : ∀ n0, n0 ≤ len → ∃ l : List α, l.length = n0 ∧ (∀ a ∈ l, ok a) ∧ szL sz l ≤ bulkAll ((List.range n0).map D) ∧ ∀ (i : Nat) (b : α), l[i]? = some b → (enc b).length = k ∧ ∀ (j : Nat) (y : DV), (enc b)[j]? = some y → ∃ u, w.cell? (a.add (i * k + j)) = some u ∧ DRd w All y u := by
    intro n0
    induction n0 with
    | zero => intro _; exact ⟨[], rfl, by simp, by simp [szL], by simp⟩
    | succ n0 ih =>
      intro hn
      obtain ⟨l, h1, h2, hz, h3⟩ := ih (by omega)
      obtain ⟨cs', hc', ht'⟩ := hel n0 (by omega)
      obtain ⟨b, hb1, hb2, hb3, hb4, hb5⟩ := h.op ht'
      obtain ⟨_, _, hcell⟩ := World.cells?_some hc'
      refine ⟨l ++ [b], by simp [h1], ?_, by rw [szL_app, List.range_succ, List.map_append, bulkAll_app]; simp only [szL, List.map_cons, List.map_nil, bulkAll]; simp only at hb5; omega, ?_⟩
      · intro a ha
        rcases List.mem_append.1 ha with ha | ha
        · exact h2 a ha
        · simp at ha; subst ha; exact hb1
      · intro i b' hi
        rw [List.getElem?_append] at hi
        split at hi
        · exact h3 i b' hi
        · rename_i hge
          have hi0 : i = n0 := by
            have : i - l.length < 1 := by simpa using (List.getElem?_eq_some_iff.1 hi).1
            omega
          subst hi0
          simp [h1] at hi
          subst hi
          refine ⟨hb3, fun j y hy => ?_⟩
          have hj : j < k := by rw [← hb3]; exact (List.getElem?_eq_some_iff.1 hy).1
          have hcj := hcell j hj
          rw [Deep.add_add] at hcj
          have hu' : cs'[j]? = some (cs'[j]'(by omega)) := List.getElem?_eq_getElem (by omega)
          exact ⟨_, by rw [hcj, hu'], hb4 j y _ hy hu'⟩
  obtain ⟨l, h1, h2, hz, h3⟩ := hcut len (Nat.le_refl _)
  refine ⟨l, ⟨by unfold maxLen at hm; omega, h2⟩, rfl, rfl, one_get ?_, ?_⟩
  rotate_left
  · rw [hxD]; simp only [bulk]; omega
  by_cases h0 : len = 0
  · have : l = [] := List.eq_nil_of_length_eq_zero (by omega)
    subst this
    subst h0
    exact .nil _ _ hm (fun e => by cases e)
  · -- the first cell tells that the address is a plain one
    have hl0 : 0 < l.length := by omega
    obtain ⟨hk0, hc0⟩ := h3 0 _ (List.getElem?_eq_getElem hl0)
    obtain ⟨u0, hu0, _⟩ := hc0 0 _ (List.getElem?_eq_getElem (by omega : 0 < (enc l[0]).length))
    have hspot : a.spot = none := by simpa [Addr.add] using World.cell?_spot hu0
    obtain ⟨b, off, spot⟩ := a
    simp only at hspot
    subst hspot
    have hb : b < w.heap.size := by
      rw [Addr.add_lit] at hu0
      unfold World.cell? at hu0
      cases hh : w.heap[b]? with
      | none => simp [hh] at hu0
      | some o => exact (Array.getElem?_eq_some_iff.1 hh).1
    have hlen : (l.map enc).length = len := by simp [h1]
    rw [← hlen]
    refine .sl _ b off m k (fun i j => (w.cell? ⟨b, off + (i * k + j), none⟩).getD undef) (by omega) hm trivial hb ?_ ?_ ?_
    · intro i cs hi
      rw [List.getElem?_map] at hi
      cases hx : l[i]? with
      | none => simp [hx] at hi
      | some y => simp [hx] at hi; subst hi; exact (h3 i y hx).1
    · intro i j hi hj
      have hil : i < l.length := by simpa using hi
      obtain ⟨e1, e2⟩ := h3 i _ (List.getElem?_eq_getElem hil)
      obtain ⟨u, hu, _⟩ := e2 j _ (List.getElem?_eq_getElem (by omega : j < (enc l[i]).length))
      rw [Addr.add_lit] at hu
      simp [hu]
    · intro i cs j x hi hx
      rw [List.getElem?_map] at hi
      cases hy : l[i]? with
      | none => simp [hy] at hi
      | some y =>
        simp [hy] at hi
        subst hi
        obtain ⟨u, hu, hd⟩ := (h3 i y hy).2 j x hx
        rw [Addr.add_lit] at hu
        simpa [hu] using hd

/-- The fields from offset off on. -/
structure OpnF (P : Program) (fs : List Field) (off k : Nat) {α : Type} (enc : α → List DV) (ok : α → Prop) (sz : α → Nat) : Prop where
  op : ∀ {H : Type} {en : TypeId × Value → H} {w : World} {n : Nat} {cs : List Value} {xs : List (DataW H × List MemPlace)}, xs.length = fs.length →
    (∀ (i : Nat) (f : Field), fs[i]? = some f → DataW.trod en P w 0 (fun _ => true) true n f.type ((cs.drop f.offset).take (P.cellsOf f.type)) = xs[i]?) →
    ∃ a, ok a ∧ (enc a).length = k ∧ (∀ (j : Nat) (y : DV) (u : Value), (enc a)[j]? = some y → cs[off + j]? = some u → DRd w All y u) ∧ sz a ≤ bulkAll (xs.map (·.1))

theorem OpnF.nil (off : Nat) : OpnF P [] off 0 (fun _ : Unit => []) (fun _ => True) (fun _ => 0) := ⟨fun _ _ => ⟨(), trivial, rfl, by simp, Nat.zero_le _⟩⟩
theorem OpnF.cons {f : Field} {fs : List Field} {off k1 k2 : Nat} {α β : Type} {e1 : α → List DV} {o1 : α → Prop} {e2 : β → List DV} {o2 : β → Prop} {z1 : α → Nat} {z2 : β → Nat} (h1 : Opn P f.type k1 e1 o1 z1) (ho : f.offset = off) (h2 : OpnF P fs (off + k1) k2 e2 o2 z2) :
    OpnF P (f :: fs) off (k1 + k2) (fun p : α × β => e1 p.1 ++ e2 p.2) (fun p => o1 p.1 ∧ o2 p.2) (fun p => z1 p.1 + z2 p.2) := by
  refine ⟨fun {H en w n cs xs} hlen hx => ?_⟩
  cases xs with
  | nil => simp at hlen
  | cons x xs =>
    have hx0 := hx 0 f rfl
    simp only [List.getElem?_cons_zero] at hx0
    obtain ⟨a, ha1, ha2, ha3, ha4, ha5⟩ := h1.op hx0
    obtain ⟨b, hb1, hb2, hb3, hb4⟩ := h2.op (xs := xs) (by simpa using hlen) (fun i f' hf => by have := hx (i + 1) f' (by simpa using hf); simpa using this)
    refine ⟨(a, b), ⟨ha1, hb1⟩, by simp [ha3, hb2], ?_, by simp only [List.map_cons, bulkAll]; omega⟩
    intro j y u hy hu
    simp only [List.getElem?_append] at hy
    by_cases hj : j < k1
    · rw [if_pos (by omega)] at hy
      refine ha4 j y u hy ?_
      rw [List.getElem?_take, h1.cells, if_pos hj, List.getElem?_drop, ho]
      exact hu
    · rw [if_neg (by omega), ha3] at hy
      refine hb3 (j - k1) y u hy ?_
      rw [← hu]
      congr 1
      omega
theorem Opn.struct {fs : List Field} {k : Nat} {α : Type} {enc : α → List DV} {ok : α → Prop} {sz : α → Nat} (hu : P.underlying t = some (.struct fs.toArray)) (hc : P.cellsOf t = k) (h : OpnF P fs 0 k enc ok sz) : Opn P t k enc ok (fun a => sz a + 1) := by
  refine ⟨hc, fun {H en w fuel cs x} hx => ?_⟩
  obtain ⟨xs, n, _, hxe, hlen, hxl, hf⟩ := DataW.trod_struct hu hx
  obtain ⟨a, h1, h2, h3, h4⟩ := h.op (cs := cs) (xs := xs) (by simpa using hxl) (fun i f hi => hf i f (by simpa using hi))
  exact ⟨a, h1, by rw [hlen, hc], h2, fun j y u hy hu => h3 j y u hy (by simpa using hu), by rw [hxe]; simp only [bulk]; omega⟩

/-- A one-cell argument. -/
theorem Opn.arg {H : Type} {en : TypeId × Value → H} {w : World} {v : Value} {d : DataW H} {ps : List MemPlace} {α : Type} {enc : α → DV} {ok : α → Prop} {sz : α → Nat} (h : Opn P t 1 (fun a => [enc a]) ok sz)
    (hx : DataW.Trod en P w 0 (fun _ => true) true t v d ps) (h1 : v.oneCell' = true) : ∃ a, ok a ∧ Rd w g0 All (.d (enc a)) v ∧ sz a ≤ bulk d := by
  obtain ⟨fuel, hf⟩ := hx
  obtain ⟨a, ha, _, _, hr, hz⟩ := h.op hf
  have hcs : v.cells.toList = [v] := by cases v <;> first | rfl | (simp [Value.oneCell'] at h1; done)
  exact ⟨a, ha, .d (hr 0 _ v rfl (by rw [hcs]; rfl)), hz⟩
theorem trodAll_below {H : Type} {en : TypeId × Value → H} (hl : laidOutB P = true) {W W' : World} (hb : Below W.heap.size W W') : ∀ {ts : List TypeId} {vs : List Value} {ds : List (DataW H)} {ps : List MemPlace},
    (∀ t ∈ ts, P.readableRec t = true ∧ t < P.types.size) → DataW.TrodAll en P W 0 (fun _ => true) true ts vs ds ps → (∀ x ∈ ps, x.block < W.heap.size) → DataW.TrodAll en P W' 0 (fun b => decide (b < W.heap.size)) true ts vs ds ps
  | [], [], [], ps, _, h, _ => h
  | t :: ts, v :: vs, d :: ds, ps, hr, h, hlt => by
    obtain ⟨p, q, h1, h2, rfl⟩ := h
    have hrt := hr t (by simp)
    exact ⟨p, q, Below.trod hl hrt.1 hrt.2 h1 hb (fun x hx => hlt x (List.mem_append.2 (.inl hx))), trodAll_below hl hb (fun t ht => hr t (by simp [ht])) h2 (fun x hx => hlt x (List.mem_append.2 (.inr hx))), rfl⟩
  | [], [], _ :: _, _, _, h, _ => h.elim
  | [], _ :: _, _, _, _, h, _ => h.elim
  | _ :: _, [], _, _, _, h, _ => h.elim
  | _ :: _, _ :: _, [], _, _, h, _ => h.elim
theorem trodAll_len {H : Type} {en : TypeId × Value → H} {w : World} {base : Nat} {sp : Nat → Bool} {hd : Bool} : ∀ {ts : List TypeId} {vs : List Value} {ds : List (DataW H)} {ps : List MemPlace}, DataW.TrodAll en P w base sp hd ts vs ds ps → ds.length = ts.length
  | [], [], [], _, _ => rfl
  | _ :: _, _ :: _, _ :: _, _, h => by
    obtain ⟨_, _, _, h2, _⟩ := h
    simp [trodAll_len h2]
  | [], [], _ :: _, _, h => h.elim
  | [], _ :: _, _, _, h => h.elim
  | _ :: _, [], _, _, h => h.elim
  | _ :: _, _ :: _, [], _, h => h.elim

/-- 'For every input true; the input reads as it did.' -/
theorem post_true {H : Type} {en : TypeId × Value → H} {fn : Func} {s : ChangeSpec} {tb : TypeId} {W W' : World} {args : Array Value} {ds gs : List (DataW H)} {before : List MemPlace} (hl : laidOutB P = true)
    (hW : DataW.Whole en P fn.params.toList s.vars false W args.toList ds gs before) (hv : s.vars = []) (hs : ∀ ds : List (DataW H), ds.length = fn.params.size → (s.fn H ds).results = [.lit (.bool true)] ∧ (s.fn H ds).args = ds ∧ (s.fn H ds).vars = [])
    (hres : fn.resultTypes = #[tb]) (htb : P.underlying tb = some .bool) (hr : ∀ t ∈ fn.params.toList, P.readableRec t = true ∧ t < P.types.size) (hb : Below W.heap.size W W') :
    s.post en P fn false true false false W args (.bool true) W' := by
  have hW' := hW
  obtain ⟨p, q, hA, hV, hpq, hfz, hnd⟩ := hW
  rw [hv] at hV
  obtain ⟨rfl, rfl⟩ := trodVars_none hV
  simp only [List.append_nil] at hpq
  subst hpq
  have hlt : ∀ x ∈ before, x.block < W.heap.size := fun x hx => by simpa using hW'.lt x hx
  have hlen : ds.length = fn.params.size := by simpa using trodAll_len hA
  obtain ⟨e1, e2, e3⟩ := hs (ds ++ []) (by simpa using hlen)
  refine ⟨ds, [], before, [], before, [], hW', ?_, ?_, ?_, hb.frame _, fun h => by cases h⟩
  · rw [e1, hres]
    exact trodAll_mk1 (shut_bool htb true)
  · rw [e2, List.append_nil]
    exact trodAll_below hl hb hr hA hlt
  · rw [e3, hv]; rfl
end
end Go.Ep

namespace Go.Proofs
open Go.RowKit Go.Shelf Go.Ep Go.Ep.M
set_option linter.unusedVariables false
attribute [local go_sem] Oper.semAt_some
namespace Ech
/-- The cells lie as they lay, but those of X. -/
def Kx (X : Nat → Prop) (A B : World) : Prop := A.heap.size ≤ B.heap.size ∧ ∀ (k : Nat) (o : Obj), ¬ X k → o.isCells = true → A.heap[k]? = some o → B.heap[k]? = some o
theorem Kx.t {X : Nat → Prop} {A B C : World} (h : Kx X A B) (k : Kx X B C) : Kx X A C := ⟨Nat.le_trans h.1 k.1, fun i o hx ho h1 => k.2 i o hx ho (h.2 i o hx ho h1)⟩
theorem Kx.refl (X : Nat → Prop) (A : World) : Kx X A A := ⟨Nat.le_refl _, fun _ _ _ _ h => h⟩
theorem Kx.b {X : Nat → Prop} (W : World) (l : Nat) (o o' : Obj) (h : W.heap[l]? = some o) (ho : o.isCells = false) : Kx X W (W.putObj l o') := ⟨(grownBy_putObj' W l o').size, fun b p _ hp h1 => by
  have : b ≠ l := fun e => by subst e; rw [h] at h1; cases h1; rw [hp] at ho; cases ho
  rw [World.putObj_heap_other this]; exact h1⟩
theorem Kx.alloc {X : Nat → Prop} (W : World) (o : Obj) : Kx X W (W.alloc o) := ⟨by simp, fun b _ _ _ h1 => by
  rw [Below.heap_alloc _ _ _ (Array.getElem?_eq_some_iff.1 h1).1]; exact h1⟩
theorem Kx.set {X : Nat → Prop} (W : World) (a : Addr) (v : Value) (ha : X a.block) : Kx X W (W.setCell a v) := ⟨by simp [World.setCell], fun b _ hb _ h1 => by
  rw [Below.heap_setCell _ _ _ _ (fun e => hb (by rw [e]; exact ha))]; exact h1⟩
theorem Kx.below {X : Nat → Prop} {A B : World} (h : Below A.heap.size A B) : Kx X A B := ⟨h.size, fun b _ _ _ h1 => (h.block b (Array.getElem?_eq_some_iff.1 h1).1).trans h1⟩
/-- The numbers from one on. -/
def upR (lo : Int) (c : Nat) : List Int := (List.range c).map fun k : Nat => lo + (k : Int)
theorem upR_succ (lo : Int) (c : Nat) : upR lo (c + 1) = upR lo c ++ [lo + (c : Int)] := by simp [upR, List.range_succ]
theorem upR_len (lo : Int) (c : Nat) : (upR lo c).length = c := by simp [upR]
def cnt (x : TRun) : Nat := (x.hi - x.lo + 1).toNat
/-- The numbers of the first k runs. -/
def pU (z : Nat → TRun) : Nat → List Int
  | 0 => []
  | k + 1 => pU z k ++ upR (z k).lo (cnt (z k))
theorem pU_mono (z : Nat → TRun) {j k : Nat} (h : j ≤ k) : (pU z j).length ≤ (pU z k).length := by
  induction k with
  | zero => obtain rfl : j = 0 := by omega
            exact Nat.le_refl _
  | succ k ih =>
    by_cases e : j = k + 1
    · subst e; exact Nat.le_refl _
    · have := ih (by omega)
      simp only [pU, List.length_append]
      omega
theorem pU_lt (z : Nat → TRun) {k len c : Nat} (h : k < len) (hc : c < cnt (z k)) : (pU z k ++ upR (z k).lo c).length < (pU z len).length := by
  have := pU_mono z (show k + 1 ≤ len from h)
  simp only [pU, List.length_append, upR_len] at this ⊢
  omega
theorem pU_pre (z : Nat → TRun) : ∀ {j k : Nat}, j ≤ k → pU z j <+: pU z k
  | j, 0, h => by obtain rfl : j = 0 := by omega
                  exact List.prefix_rfl
  | j, k + 1, h => by
    by_cases e : j = k + 1
    · subst e; exact List.prefix_rfl
    · exact (pU_pre z (by omega)).trans (List.prefix_append _ _)
theorem upR_pre (lo : Int) {c d : Nat} (h : c ≤ d) : upR lo c <+: upR lo d := by
  refine ⟨(List.range' c (d - c)).map fun k : Nat => lo + (k : Int), ?_⟩
  rw [upR, upR, ← List.map_append, List.range_eq_range', List.range_eq_range']
  have := List.range'_append (s := 0) (m := c) (n := d - c) (step := 1)
  rw [show 0 + 1 * c = c by omega, show c + (d - c) = d by omega] at this
  rw [this]
theorem pU_pre2 (z : Nat → TRun) {k len c : Nat} (h : k < len) (hc : c ≤ cnt (z k)) : pU z k ++ upR (z k).lo c <+: pU z len := by
  refine List.IsPrefix.trans ?_ (pU_pre z (show k + 1 ≤ len from h))
  obtain ⟨t, ht⟩ := upR_pre (z k).lo hc
  exact ⟨t, by rw [pU, List.append_assoc, ht]⟩

set_option maxRecDepth 100000 in
set_option maxHeartbeats 4000000 in
theorem each1_in (F : Fence) (n : Nat) (h26 : F.fn 26) (hro : F.round = none) (hn : 1 ≤ n) (l Bs b len cap : Nat) (cur : List Value) (z : Nat → TRun) (X : Nat → Prop) (hreach : len ≤ 9223372036854775807) (J Jx : List Int → World → Prop)
    (hz : ∀ j, j < len → 1 ≤ (z j).lo ∧ (z j).lo ≤ (z j).hi ∧ (z j).hi ≤ 281474976710655)
    (hY : ∀ pre x W, J pre W → pre.length < (pU z len).length → YieldAt F (n - 1) Try.prog l #[.int .u64 x] W fun e W' =>
      (e = .returned (.bool true) ∧ J (pre ++ [x]) W' ∧ Kx X W W') ∨ (e = .returned (.bool false) ∧ Jx (pre ++ [x]) W'))
    (W : World) (hXs : ∀ k, X k → k < W.heap.size) (hXb : ¬ X b) (hBs : W.cell? ⟨Bs, 0, none⟩ = some (.slice (some ⟨b, 0, none⟩) len cap)) (hb : W.heap[b]? = some (.cells cur.toArray 34 (0, 0))) (hc0 : ∀ j, j < len → cur[j * 2]? = some (.int .u64 (z j).lo)) (hc1 : ∀ j, j < len → cur[j * 2 + 1]? = some (.int .u64 (z j).hi)) (h0 : J [] W) (hJa : ∀ s A o, J s A → J s (A.alloc o))
    (hJs : ∀ s A, J s A → W.heap.size ≤ A.heap.size) :
    CallsIn F n Try.prog 26 #[.func (.yield l) #[] #[], .pointer (some ⟨Bs, 0, none⟩)] W fun e W' => (∃ v, e = .returned v) ∧
      ((∃ ys, ys = pU z len ∧ J ys W') ∨ (∃ pre, pre <+: pU z len ∧ Jx pre W')) := by
  refine callsIn_of_wp Try.func26 rfl h26 ?_ hro
  simp only [Try.ntmps26, List.size_toArray, List.length_cons, List.length_nil, Nat.reduceAdd, Nat.reduceSub, Array.replicate_succ, Array.replicate_zero, List.push_toArray, List.append_toArray, List.nil_append, List.cons_append]
  gi_wp2
  gi_loopw [8] (fun i wr => ∃ k : Nat, k ≤ len ∧ i = .int .i64 k ∧ J (pU z k) wr ∧ wr.heap[b]? = some (.cells cur.toArray 34 (0, 0)))
    (fun i _ => len - (intOf i).toNat)
  case atStart => exact ⟨0, Nat.zero_le _, rfl, h0, hb⟩
  case round =>
    obtain ⟨k, hk, rfl, hJ1, hnx⟩ := hrel
    by_cases hlt : k < len
    · have hcx0 : wr.cell? ⟨b, k * 2, none⟩ = some (.int .u64 (z k).lo) := by simp [World.cell?, hnx, hc0 k hlt]
      have hcx1 : wr.cell? ⟨b, k * 2 + 1, none⟩ = some (.int .u64 (z k).hi) := by simp [World.cell?, hnx, hc1 k hlt]
      have hz1 := hz k hlt
      have hJ2 := hJa _ _ (.cells #[.int .u64 (z k).lo, .int .u64 (z k).hi] 34) hJ1
      have hnx2 : (wr.alloc (.cells #[.int .u64 (z k).lo, .int .u64 (z k).hi] 34)).heap[b]? = some (.cells cur.toArray 34 (0, 0)) := (Below.heap_alloc _ _ _ (Array.getElem?_eq_some_iff.1 hnx).1).trans hnx
      have hBx := World.alloc_heap_new wr (.cells #[.int .u64 (z k).lo, .int .u64 (z k).hi] 34)
      have hXx : ¬ X wr.heap.size := fun h => by have := hXs _ h; have := hJs _ _ hJ1; omega
      gi_wp2
      generalize wr.alloc (.cells #[.int .u64 (z k).lo, .int .u64 (z k).hi] 34) = W1 at hJ2 hnx2 hBx ⊢
      generalize wr.heap.size = Bx at hBx hXx ⊢
      gi_loopw [5] (fun q w2 => ∃ c : Nat, c ≤ cnt (z k) ∧ q = .int .u64 ((z k).lo + (c : Int)) ∧ J (pU z k ++ upR (z k).lo c) w2 ∧ w2.heap[b]? = some (.cells cur.toArray 34 (0, 0)) ∧ w2.heap[Bx]? = some (.cells #[.int .u64 (z k).lo, .int .u64 (z k).hi] 34 (0, 0)))
        (fun q _ => ((z k).hi + 1 - intOf q).toNat)
      case atStart => exact ⟨0, Nat.zero_le _, by simp, by simpa [upR] using hJ2, hnx2, hBx⟩
      case round =>
        obtain ⟨c, hc, rfl, hJ3, hnx3, hBx3⟩ := hrel
        have hch : wr.cell? ⟨Bx, 1, none⟩ = some (.int .u64 (z k).hi) := by simp [World.cell?, hBx3]
        by_cases hlt2 : (z k).lo + (c : Int) ≤ (z k).hi
        · have hcl : c < cnt (z k) := by unfold cnt; omega
          obtain ⟨fn, tmps, assign, body, hy, hR⟩ := hY _ ((z k).lo + (c : Int)) _ hJ3 (pU_lt z hlt hcl)
          have hwr : IntKind.u64.wrap ((z k).lo + (c : Int) + 1) = (z k).lo + ((c + 1 : Nat) : Int) := by rw [wU64 (by omega) (by omega)]; omega
          gi_wp2
          refine hR.mono ?_
          rintro e W3 (⟨rfl, hJ4, hk3⟩ | ⟨rfl, hJx3⟩)
          · gi_wp2
            go_roundw
            case rel => exact ⟨c + 1, by omega, by simp, by rw [upR_succ, ← List.append_assoc]; exact hJ4, hk3.2 _ _ hXb rfl hnx3, hk3.2 _ _ hXx rfl hBx3⟩
            case measure => simp only [intOf]; omega
          · gi_wp2
            refine bodyPost_ret (results_none rfl _ _ _) rfl ?_
            exact ⟨⟨_, rfl⟩, .inr ⟨_, by have := pU_pre2 z hlt (show c + 1 ≤ cnt (z k) from hcl); rwa [upR_succ, ← List.append_assoc] at this, hJx3⟩⟩
        · obtain rfl : c = cnt (z k) := by unfold cnt at *; omega
          gi_wp2
          go_roundw
          case rel => exact ⟨k + 1, by omega, by simp, hJ3, hnx3⟩
          case measure => simp [intOf]; omega
    · obtain rfl : k = len := by omega
      gi_wp2
      go_end0
      exact ⟨⟨_, rfl⟩, .inl ⟨_, rfl, hJ1⟩⟩
set_option maxRecDepth 100000 in
set_option maxHeartbeats 1000000 in
theorem each1_nil_in (F : Fence) (n : Nat) (h26 : F.fn 26) (hro : F.round = none) (l Bs : Nat) (J : List Int → World → Prop) (W : World) (hBs : W.cell? ⟨Bs, 0, none⟩ = some (.slice none 0 0)) (h0 : J [] W) :
    CallsIn F n Try.prog 26 #[.func (.yield l) #[] #[], .pointer (some ⟨Bs, 0, none⟩)] W fun e W' => (∃ v, e = .returned v) ∧ J [] W' := by
  refine callsIn_of_wp Try.func26 rfl h26 ?_ hro
  simp only [Try.ntmps26, List.size_toArray, List.length_cons, List.length_nil, Nat.reduceAdd, Nat.reduceSub, Array.replicate_succ, Array.replicate_zero, List.push_toArray, List.append_toArray, List.nil_append, List.cons_append]
  gi_wp2
  gi_loopw [8] (fun i wr => i = .int .i64 0 ∧ J [] wr) (fun _ _ => 0)
  case atStart => exact ⟨rfl, h0⟩
  case round =>
    obtain ⟨rfl, hJs⟩ := hrel
    gi_wp2
    go_end0
    exact ⟨⟨_, rfl⟩, hJs⟩
/-- What the slice is: nil, or in a block of its own. -/
def Runs (W : World) (b : Nat) (sv : Value) (zs : List TRun) : Prop :=
  (sv = .slice none 0 0 ∧ zs = []) ∨ ∃ cap cur, sv = .slice (some ⟨b, 0, none⟩) zs.length cap ∧ zs.length ≤ 9223372036854775807 ∧ W.heap[b]? = some (.cells (List.toArray cur) 34 (0, 0)) ∧ (∀ j, j < zs.length → cur[j * 2]? = some (.int .u64 (zs[j]?.getD ⟨0, 0⟩).lo)) ∧ (∀ j, j < zs.length → cur[j * 2 + 1]? = some (.int .u64 (zs[j]?.getD ⟨0, 0⟩).hi))
theorem Runs.below {W W' : World} {N b : Nat} {sv : Value} {zs : List TRun} (h : Runs W b sv zs) (hb : Below N W W') (hlt : b < N) : Runs W' b sv zs := by
  rcases h with h | ⟨cap, cur, h1, h2, h3, h4, h5⟩
  · exact .inl h
  · exact .inr ⟨cap, cur, h1, h2, (hb.block b hlt).trans h3, h4, h5⟩
theorem rowRuns {W : World} {S : Nat → Prop} {base : Nat} {zs : List TRun} {u : Value} (h : RowRd W S base 34 2 (List.map TRun.e zs) u) : ∃ a len cap b, u = .slice a len cap ∧ base ≤ b ∧ (b < W.heap.size ∨ b = base) ∧ Runs W b u zs := by
  generalize hq : List.map TRun.e zs = q at h
  cases h with
  | nil => exact ⟨none, 0, 0, base, rfl, Nat.le_refl _, .inr rfl, .inl ⟨rfl, by simpa using hq⟩⟩
  | row _ blk cap cur hb hh hlc hcap hcs hk hr =>
    subst hq
    rw [List.length_map] at hlc ⊢
    have hm : zs.length ≤ 9223372036854775807 := by unfold maxLen at hcap; omega
    refine ⟨_, _, _, blk, rfl, hb, .inl (Array.getElem?_eq_some_iff.1 hh).1, .inr ⟨cap, cur, rfl, hm, hh, fun j hj => ?_, fun j hj => ?_⟩⟩
    · obtain ⟨u, h1, h2⟩ := hr j (TRun.e zs[j]) 0 _ (by simp [hj]) rfl
      cases h2
      simpa [hj] using h1
    · obtain ⟨u, h1, h2⟩ := hr j (TRun.e zs[j]) 1 _ (by simp [hj]) rfl
      cases h2
      simpa [hj] using h1
/-- All numbers of some runs. -/
def ptsR (zs : List TRun) : List Int := pU (fun j => zs[j]?.getD ⟨0, 0⟩) zs.length
theorem each_stops (F : Fence) (n : Nat) (h26 : F.fn 26) (hro : F.round = none) (hn : 1 ≤ n) (Bs b : Nat) (sv : Value) (zs : List TRun) (X : Nat → Prop) (w : World) (hz : ∀ x ∈ zs, 1 ≤ x.lo ∧ x.lo ≤ x.hi ∧ x.hi ≤ 281474976710655) (hX : ∀ k, X k → k < w.heap.size) (hXb : ¬ X b) (hBs : Bs < w.heap.size) (hc : w.cell? ⟨Bs, 0, none⟩ = some sv) (hI : Runs w b sv zs) :
    SeqStopsK F n Try.prog 26 #[.pointer (some ⟨Bs, 0, none⟩)] (fun x : Int => #[.int .u64 x]) (Kx X) (fun ys => ys = ptsR zs) (fun pre => pre <+: ptsR zs) (ptsR zs).length w := fun l J Jx W hW hJ _ hY h0 => by
  have hc' := (hW.cell (p := ⟨Bs, 0, none⟩) hBs).trans hc
  rcases hI with ⟨rfl, rfl⟩ | ⟨cap, cur, rfl, hl, hb, h1, h2⟩
  · exact (each1_nil_in F n h26 hro l Bs J W hc' h0).mono fun e W' ⟨he, hj⟩ => ⟨he, .inl ⟨_, rfl, hj⟩⟩
  · have hb' : W.heap[b]? = some (.cells cur.toArray 34 (0, 0)) := (hW.block b (Array.getElem?_eq_some_iff.1 hb).1).trans hb
    have hA : AbidesFrom W.heap.size (fun (s : List Int) A => J s A ∧ W.heap.size ≤ A.heap.size) := fun s A B row hs hg hr => ⟨hJ s A B row hs.1 hg hr, Nat.le_trans hs.2 hg.size⟩
    refine (each1_in F n h26 hro hn l Bs b zs.length cap cur (fun j => zs[j]?.getD ⟨0, 0⟩) X (by omega) (fun s A => J s A ∧ W.heap.size ≤ A.heap.size) Jx (fun j hj => ?_) (fun pre x W1 hj hlen => ?_) W (fun k hk => Nat.lt_of_lt_of_le (hX k hk) hW.size) hXb hc' hb' h1 h2 ⟨h0, Nat.le_refl _⟩ (fun s A o hs => hA s A _ none hs (World.grownBy_alloc A o none) (fun r e => by cases e)) (fun s A hs => hs.2)).mono ?_
    · have := hz (zs[j]?.getD ⟨0, 0⟩) (by simp [hj])
      exact this
    · obtain ⟨fn, tmps, assign, body, hy, hR⟩ := hY pre x W1 hj.1 hlen
      refine ⟨fn, tmps, assign, body, hy, hR.mono ?_⟩
      rintro e W' (⟨h1, h2, h3⟩ | h1)
      · exact .inl ⟨h1, ⟨h2, Nat.le_trans hj.2 h3.1⟩, h3⟩
      · exact .inr h1
    · rintro e W' ⟨he, ⟨ys, rfl, hj⟩ | ⟨pre, hp, hj⟩⟩
      · exact ⟨he, .inl ⟨_, rfl, hj.1⟩⟩
      · exact ⟨he, .inr ⟨_, hp, hj⟩⟩
/-- runs.Each: the list is put in order and boxed; the function value captures the box. -/
theorem each_in (l1 l2 : List TRun) (h : (runs_Norm l1).wp (· = l2)) (w : World) (a0 : Option Addr) (n0 c0 : Nat) (hv : DRd w All (.sl (List.map TRun.e l1)) (.slice a0 n0 c0)) :
    CallsIn Fence.wide 6 Try.prog 7 #[.slice a0 n0 c0] w fun e W' => ∃ Be b u, e = .returned (.func (.func 26) #[] #[.pointer (some ⟨Be, 0, none⟩)]) ∧ Below w.heap.size w W' ∧ w.heap.size ≤ Be ∧ Be < W'.heap.size ∧ W'.cell? ⟨Be, 0, none⟩ = some u ∧ w.heap.size ≤ b ∧ b < W'.heap.size ∧ Runs W' b u l2 := by
  have hN := runs_Norm_ok l1 l2 h (w.alloc (.cells #[.slice a0 n0 c0] 22)) All [.slice a0 n0 c0] rfl (fun i p u hp hu => by
    cases i with
    | zero =>
      simp at hp hu
      subst hp; subst hu
      exact .d (hv.keep ⟨by simp, fun b _ hb => Below.heap_alloc _ _ _ hb⟩ (fun b hb _ => hb))
    | succ i => simp at hp)
  refine callsIn_of_wp Try.func7 rfl trivial ?_ rfl
  simp only [Try.ntmps7, List.size_toArray, List.length_cons, List.length_nil, Nat.reduceAdd, Nat.reduceSub, Array.replicate_succ, Array.replicate_zero, List.push_toArray, List.append_toArray, List.nil_append, List.cons_append]
  gi_wp2
  refine ⟨trivial, (callsIn_wide.2 hN).mono ?_⟩
  rintro e w1 ⟨u, rfl, hB1, hrow⟩
  obtain ⟨a, len, cap, b, rfl, hb, hb2, hI⟩ := rowRuns hrow
  rw [World.size_alloc] at hB1 hb hb2
  have hbx : Boxed w1 w.heap.size 22 (.slice a0 n0 c0) := (hB1.block _ (by omega)).trans (Boxed.new w 22 (.slice a0 n0 c0))
  have hcx := hbx.cell
  have hfx := hbx.frozen
  gi_wp2
  go_ret
  have hs1 := hB1.size
  rw [World.size_alloc] at hs1
  have hbl : Below w.heap.size w (w1.setCell ⟨w.heap.size, 0, none⟩ (.slice a len cap)) := (((Below.refl _ w).alloc (Nat.le_refl _) _).trans (hB1.mono (by omega))).setCell (p := ⟨w.heap.size, 0, none⟩) (Nat.le_refl _) _
  have hsz : (w1.setCell ⟨w.heap.size, 0, none⟩ (.slice a len cap)).heap.size = w1.heap.size := by simp [World.setCell]
  have hcc := (hbx.set (.slice a len cap)).cell
  rcases hI with hI | ⟨cap', cur, h1, h2, h3, h4, h5⟩
  · exact ⟨w.heap.size, w.heap.size, _, rfl, hbl, Nat.le_refl _, by omega, hcc, Nat.le_refl _, by omega, .inl hI⟩
  · have hlt := (Array.getElem?_eq_some_iff.1 h3).1
    exact ⟨w.heap.size, b, _, rfl, hbl, Nat.le_refl _, by omega, hcc, by omega, by omega, .inr ⟨cap', cur, h1, h2, (Below.heap_setCell _ _ _ _ (by simp only; omega)).trans h3, h4, h5⟩⟩
end Ech
end Go.Proofs

namespace Go.Proofs
open Go.Ep
set_option maxHeartbeats 1000000
set_option maxRecDepth 100000
set_option linter.unusedVariables false
set_option linter.unusedSimpArgs false


theorem l06_few_ok (l1 : List TRun) (r0 : Bool) (h : (l06_few l1).wp (· = r0)) : PFun Try.prog 5 [.d (.sl (List.map TRun.e l1))] (.d (.v (.bool r0))) := by
  refine PFun.intro (sl := [(0, _)]) Try.func5 rfl Try.ntmps5 rfl rfl ?_;intro ctx hK;refine PWc.seq ?_;refine PWc.region ?_;refine PWl.step (LR.assign rfl) rfl ?_;refine PWl.nil ?_;refine PWc.seq ?_;refine PWc.region ?_;refine PWl.step (LR.move rfl) rfl ?_;refine PWl.step (LR.lenMap (enc := TRun.e) (L := l1) Try.underlying22 rfl) rfl ?_;refine PWl.step (LR.leq rfl rfl) rfl ?_;refine PWl.step (LR.assign rfl) rfl ?_;refine PWl.nil ?_;refine PWc.ret ?_;replace h : _ = r0 := h;subst h;exact ⟨.inr rfl, _, .cons (.tmp rfl rfl) <| .nil, rfl⟩

theorem r06_Eq_ok (a1 : List TRun) (b2 : List TRun) (r0 : Bool) (h : (r06_Eq a1 b2).wp (· = r0)) : PFun Try.prog 10 [.d (.sl (List.map TRun.e a1)), .d (.sl (List.map TRun.e b2))] (.d (.v (.bool r0))) := by
  refine PFun.intro (sl := [(0, _), (1, _)]) Try.func10 rfl Try.ntmps10 rfl rfl ?_;intro ctx hK;refine PWc.seq ?_;refine PWc.region ?_;refine PWl.step (LR.assign rfl) rfl ?_;refine PWl.nil ?_;refine PWc.seq ?_;refine PWc.seq ?_;refine PWc.region ?_;refine PWl.step (LR.move rfl) rfl ?_;refine PWl.step (LR.lenMap (enc := TRun.e) (L := a1) Try.underlying22 rfl) rfl ?_;refine PWl.step (LR.move rfl) rfl ?_;refine PWl.step (LR.lenMap (enc := TRun.e) (L := b2) Try.underlying22 rfl) rfl ?_;refine PWl.step (LR.neq rfl rfl) rfl ?_;refine PWl.nil ?_;refine PWc.cond rfl (fun hc3 => ?_) (fun hc3 => ?_)
  · replace h := iT hc3 h;refine PWc.seq ?_;refine PWc.region ?_;refine PWl.step (LR.assign rfl) rfl ?_;refine PWl.nil ?_;refine PWc.ret ?_;replace h : _ = r0 := h;subst h;exact ⟨.inr rfl, _, .cons (.tmp rfl rfl) <| .nil, rfl⟩
  · replace h := iF hc3 h;refine PWc.skip ?_;refine PWc.seq ?_;refine PWc.seq ?_;refine PWc.region ?_;refine PWl.step (LR.assign rfl) rfl ?_;refine PWl.nil ?_;refine PWc.jnX (iBind h) (fun (_ : Unit) (_ : Unit) => ⟨26, [], []⟩) (fun h => ?_) ?_
    · refine PWc.block ?_;refine PWc.loopM (fun (i17 : Int) (_ : Unit) => ⟨26, [(0, .d (.sl (List.map TRun.e a1))), (1, .d (.sl (List.map TRun.e b2))), (5, .d (.v (.int .i64 i17)))], []⟩) () h (Sub.of rfl (.cons rfl rfl <| .cons rfl rfl <| .cons rfl rfl <| .nil) (.nil)) ?_;rintro N i17 _ h;refine PWc.seq ?_;refine PWc.seq ?_;refine PWc.region ?_;refine PWl.step (LR.move rfl) rfl ?_;refine PWl.step (LR.move rfl) rfl ?_;refine PWl.step (LR.lenMap (enc := TRun.e) (L := a1) Try.underlying22 rfl) rfl ?_;refine PWl.step (LR.lss rfl rfl) rfl ?_;refine PWl.nil ?_;refine PWc.cond rfl (fun hc18 => ?_) (fun hc18 => ?_)
      · replace h := iT hc18 h;refine PWc.skip ?_;refine PWc.seq ?_;refine PWc.block ?_;refine PWc.seq ?_;refine PWc.regionD (by kernel_rfl) (by kernel_rfl) ?_;refine PQl.step (fun _ he ho => LR.move (he rfl rfl)) rfl ?_;refine PQl.step (fun _ he ho => LR.move (he rfl rfl)) rfl ?_;replace h := iIdx h;obtain ⟨x19, hy20, h⟩ := h;refine PQl.step (fun _ he ho => LR.idxT (enc := TRun.e) (L := a1) (y := x19) Try.underlying22 Try.sizeOf34 (he rfl rfl) (he rfl rfl) hy20 (fun _ => rfl)) rfl ?_;refine PQl.step (fun _ he ho => LR.loadEpAgg (ys := [_, _]) Try.isAgg34 Try.sizeOf34 (he rfl rfl) rfl rfl) rfl ?_;refine PQl.step (fun _ he ho => LR.move (he rfl rfl)) rfl ?_;refine PQl.step (fun _ he ho => LR.move (he rfl rfl)) rfl ?_;replace h := iIdx h;obtain ⟨x21, hy22, h⟩ := h;refine PQl.step (fun _ he ho => LR.idxT (enc := TRun.e) (L := b2) (y := x21) Try.underlying22 Try.sizeOf34 (he rfl rfl) (he rfl rfl) hy22 (fun _ => rfl)) rfl ?_;refine PQl.step (fun _ he ho => LR.loadEpAgg (ys := [_, _]) Try.isAgg34 Try.sizeOf34 (he rfl rfl) rfl rfl) rfl ?_;refine PQl.step (fun _ he ho => LR.neqAgg (he rfl rfl) (he rfl rfl) rfl rfl eq34) rfl ?_;refine PQl.nil ?_;refine PWc.cond rfl (fun hc23 => ?_) (fun hc23 => ?_)
        · replace h := iT hc23 h;refine PWc.seq ?_;refine PWc.region ?_;refine PWl.step (LR.assign rfl) rfl ?_;refine PWl.nil ?_;refine PWc.ret ?_;replace h : _ = r0 := h;subst h;exact ⟨.inr rfl, _, .cons (.tmp rfl rfl) <| .nil, rfl⟩
        · replace h := iF hc23 h;refine PWc.skip ?_;refine PWc.region ?_;refine PWl.step (LR.move rfl) rfl ?_;refine PWl.step (LR.addW rfl rfl) rfl ?_;refine PWl.step (LR.assign rfl) rfl ?_;refine PWl.nil ?_;exact ⟨(IntKind.i64.wrap (i17 + 1)), (), h, Sub.of rfl (.cons rfl rfl <| .cons rfl rfl <| .cons rfl rfl <| .nil) (.nil)⟩
      · replace h := iF hc18 h;refine PWc.exit ?_;exact ⟨(), (), h, Sub.of rfl (.nil) (.nil)⟩
    · rintro _ _ h;refine PWc.seq ?_;refine PWc.region ?_;refine PWl.step (LR.assign rfl) rfl ?_;refine PWl.nil ?_;refine PWc.ret ?_;replace h : _ = r0 := h;subst h;exact ⟨.inr rfl, _, .cons (.tmp rfl rfl) <| .nil, rfl⟩

end Go.Proofs

namespace Go.Proofs
open Go.Ep
set_option maxHeartbeats 1000000
set_option maxRecDepth 100000
set_option linter.unusedVariables false
set_option linter.unusedSimpArgs false


theorem runs_First_ok (l1 : List TRun) (r0 : Int) (h : (runs_First l1).wp (· = r0)) : PFun Try.prog 22 [.d (.sl (List.map TRun.e l1))] (.d (.v (.int .u64 r0))) := by
  refine PFun.intro (sl := [(0, _)]) Try.func22 rfl Try.ntmps22 rfl rfl ?_;intro ctx hK;refine PWc.seq ?_;refine PWc.region ?_;refine PWl.step (LR.assign rfl) rfl ?_;refine PWl.nil ?_;refine PWc.seq ?_;refine PWc.seq ?_;refine PWc.region ?_;refine PWl.step (LR.move rfl) rfl ?_;replace h := iDet h;obtain ⟨v2, hy3, h⟩ := h;refine PWl.step (LR.rowN (runs_Norm_ok l1 v2 hy3) rfl Try.call25 rfl rfl rfl rfl) rfl ?_;refine PWl.step (LR.assign rfl) rfl ?_;refine PWl.nil ?_;refine PWc.seq ?_;refine PWc.jn (iBind h) (fun (v4 : Bool) (_ : Unit) => ⟨20, [(0, .row 4 (List.length v2)), (14, .d (.v (.bool v4)))], [(4, .row 34 2 (List.map TRun.e v2))]⟩) (fun h => ?_) ?_
  · refine PWc.region ?_;refine PWl.step (LR.move rfl) rfl ?_;refine PWl.step (LR.lenRow Try.underlying22 rfl) rfl ?_;refine PWl.step (LR.gtr rfl rfl) rfl ?_;refine PWl.step (LR.move rfl) rfl ?_;refine PWl.split (d := 8) rfl (fun hg5 => ?_) (fun hg5 => ?_)
    · replace h := iT hg5 h;refine PWl.guardT (LR.move rfl) rfl rfl rfl ?_;replace h := iIdx h;obtain ⟨x6, hy7, h⟩ := h;refine PWl.guardT (LR.idxRowT (L := v2) (y := x6) Try.underlying22 Try.sizeOf34 rfl rfl rfl hy7) rfl rfl rfl ?_;refine PWl.guardT (LR.fieldRp Try.underlying34 rfl Try.sizeOf28 (by decide) rfl rfl) rfl rfl rfl ?_;refine PWl.guardT (LR.loadRpF (enc := TRun.e) (L := v2) (y := x6) Try.isAgg28 rfl rfl hy7.2 rfl) rfl rfl rfl ?_;refine PWl.guardT (LR.eql rfl rfl) rfl rfl rfl ?_;refine PWl.step (LR.pickT rfl rfl) rfl ?_;refine PWl.nil ?_;exact ⟨(decide (x6.lo = 1)), (), h, Sub.of rfl (.cons rfl rfl <| .cons rfl rfl <| .nil) (.cons rfl rfl <| .nil)⟩
    · replace h := iF hg5 h;refine PWl.guardF rfl rfl rfl (by decide) ?_;refine PWl.guardF rfl rfl rfl (by decide) ?_;refine PWl.guardF rfl rfl rfl (by decide) ?_;refine PWl.guardF rfl rfl rfl (by decide) ?_;refine PWl.guardF rfl rfl rfl (by decide) ?_;refine PWl.step (LR.pickF rfl rfl) rfl ?_;refine PWl.nil ?_;exact ⟨false, (), h, Sub.of rfl (.cons rfl rfl <| .cons rfl rfl <| .nil) (.cons rfl rfl <| .nil)⟩
  · rintro v4 _ h;refine PWc.cond rfl (fun hc8 => ?_) (fun hc8 => ?_)
    · replace h := iT hc8 h;refine PWc.seq ?_;refine PWc.region ?_;refine PWl.step (LR.move rfl) rfl ?_;replace h := iIdx h;obtain ⟨x9, hy10, h⟩ := h;refine PWl.step (LR.idxRowT (L := v2) (y := x9) Try.underlying22 Try.sizeOf34 rfl rfl rfl hy10) rfl ?_;refine PWl.step (LR.fieldRp Try.underlying34 rfl Try.sizeOf28 (by decide) rfl rfl) rfl ?_;refine PWl.step (LR.loadRpF (enc := TRun.e) (L := v2) (y := x9) Try.isAgg28 rfl rfl hy10.2 rfl) rfl ?_;refine PWl.step (LR.addW rfl rfl) rfl ?_;refine PWl.step (LR.assign rfl) rfl ?_;refine PWl.nil ?_;refine PWc.ret ?_;replace h : _ = r0 := h;subst h;exact ⟨.inr rfl, _, .cons (.tmp rfl rfl) <| .nil, rfl⟩
    · replace h := iF hc8 h;refine PWc.skip ?_;refine PWc.seq ?_;refine PWc.region ?_;refine PWl.step (LR.assign rfl) rfl ?_;refine PWl.nil ?_;refine PWc.ret ?_;replace h : _ = r0 := h;subst h;exact ⟨.inr rfl, _, .cons (.tmp rfl rfl) <| .nil, rfl⟩

theorem runs_Last_ok (l1 : List TRun) (r0 : Int) (h : (runs_Last l1).wp (· = r0)) : PFun Try.prog 23 [.d (.sl (List.map TRun.e l1))] (.d (.v (.int .u64 r0))) := by
  refine PFun.intro (sl := [(0, _)]) Try.func23 rfl Try.ntmps23 rfl rfl ?_;intro ctx hK;refine PWc.seq ?_;refine PWc.region ?_;refine PWl.step (LR.assign rfl) rfl ?_;refine PWl.nil ?_;refine PWc.seq ?_;refine PWc.seq ?_;refine PWc.region ?_;refine PWl.step (LR.move rfl) rfl ?_;replace h := iDet h;obtain ⟨v2, hy3, h⟩ := h;refine PWl.step (LR.rowN (runs_Norm_ok l1 v2 hy3) rfl Try.call25 rfl rfl rfl rfl) rfl ?_;refine PWl.step (LR.assign rfl) rfl ?_;refine PWl.nil ?_;refine PWc.seq ?_;refine PWc.region ?_;refine PWl.step (LR.move rfl) rfl ?_;refine PWl.step (LR.lenRow Try.underlying22 rfl) rfl ?_;refine PWl.step (LR.gtr rfl rfl) rfl ?_;refine PWl.nil ?_;refine PWc.cond rfl (fun hc4 => ?_) (fun hc4 => ?_)
  · replace h := iT hc4 h;refine PWc.seq ?_;refine PWc.region ?_;refine PWl.step (LR.move rfl) rfl ?_;refine PWl.step (LR.move rfl) rfl ?_;refine PWl.step (LR.lenRow Try.underlying22 rfl) rfl ?_;refine PWl.step (LR.subW rfl rfl) rfl ?_;replace h := iIdx h;obtain ⟨x5, hy6, h⟩ := h;refine PWl.step (LR.idxRowT (L := v2) (y := x5) Try.underlying22 Try.sizeOf34 rfl rfl rfl hy6) rfl ?_;refine PWl.step (LR.fieldRp Try.underlying34 rfl Try.sizeOf28 (by decide) rfl rfl) rfl ?_;refine PWl.step (LR.loadRpF (enc := TRun.e) (L := v2) (y := x5) Try.isAgg28 rfl rfl hy6.2 rfl) rfl ?_;refine PWl.step (LR.assign rfl) rfl ?_;refine PWl.nil ?_;refine PWc.ret ?_;replace h : _ = r0 := h;subst h;exact ⟨.inr rfl, _, .cons (.tmp rfl rfl) <| .nil, rfl⟩
  · replace h := iF hc4 h;refine PWc.skip ?_;refine PWc.seq ?_;refine PWc.region ?_;refine PWl.step (LR.assign rfl) rfl ?_;refine PWl.nil ?_;refine PWc.ret ?_;replace h : _ = r0 := h;subst h;exact ⟨.inr rfl, _, .cons (.tmp rfl rfl) <| .nil, rfl⟩
end Go.Proofs

namespace Go.Proofs

open Go.RowKit Go.Shelf Go.Ep
set_option linter.unusedVariables false
attribute [local go_sem] Oper.semAt_some
namespace Szr
def upto {α : Type} (f : Nat → α) (k : Nat) : List α := (List.range k).map f
theorem upto_succ {α : Type} (f : Nat → α) (k : Nat) : upto f (k + 1) = upto f k ++ [f k] := by simp [upto, List.range_succ]
theorem upto_length {α : Type} (f : Nat → α) (k : Nat) : (upto f k).length = k := by simp [upto]
theorem upto_all {α : Type} (d : α) (zs : List α) : upto (fun j => zs[j]?.getD d) zs.length = zs := by
  apply List.ext_getElem
  · simp [upto]
  · intro i h1 h2;simp [upto, h2]
/-- A block's cells stay. -/
def Kp (b : Nat) (X Y : World) : Prop := ∀ o : Obj, o.isCells = true → X.heap[b]? = some o → Y.heap[b]? = some o
theorem Kp.t {b : Nat} {A B C : World} (h : Kp b A B) (k : Kp b B C) : Kp b A C := fun o ho h1 => k o ho (h o ho h1)
theorem Kp.b {b : Nat} (W : World) (l : Nat) (o o' : Obj) (h : W.heap[l]? = some o) (ho : o.isCells = false) : Kp b W (W.putObj l o') := fun p hp h1 => by
  have : b ≠ l := fun e => by subst e; rw [h] at h1; cases h1; rw [hp] at ho; cases ho
  rw [World.putObj_heap_other this]; exact h1
theorem Kp.alloc {b : Nat} (W : World) (o : Obj) : Kp b W (W.alloc o) := fun p _ h1 => by
  have : b < W.heap.size := (Array.getElem?_eq_some_iff.1 h1).1;rw [Below.heap_alloc _ _ _ this]; exact h1

set_option maxRecDepth 100000 in
set_option maxHeartbeats 2000000 in
theorem values1_in (F : Fence) (n : Nat) (h7 : F.fn 53) (hro : F.round = none) (hn : 1 ≤ n) (l Bs b len cap : Nat) (cur : List Value) (z : Nat → TRun) (hreach : len ≤ 9223372036854775807) (J Jx : List TRun → World → Prop)
    (hY : ∀ pre x W, J pre W → pre.length < len → YieldAt F (n - 1) Try.prog l #[.agg #[.int .u64 x.lo, .int .u64 x.hi]] W fun e W' =>
      (e = .returned (.bool true) ∧ J (pre ++ [x]) W' ∧ Kp b W W') ∨ (e = .returned (.bool false) ∧ Jx (pre ++ [x]) W'))
    (W : World) (hBs : W.cell? ⟨Bs, 0, none⟩ = some (.slice (some ⟨b, 0, none⟩) len cap)) (hb : W.heap[b]? = some (.cells cur.toArray 34 (0, 0))) (hc0 : ∀ j, j < len → cur[j * 2]? = some (.int .u64 (z j).lo)) (hc1 : ∀ j, j < len → cur[j * 2 + 1]? = some (.int .u64 (z j).hi)) (h0 : J [] W) (hJa : ∀ s A o, J s A → J s (A.alloc o)) :
    CallsIn F n Try.prog 53 #[.func (.yield l) #[] #[], .pointer (some ⟨Bs, 0, none⟩)] W fun e W' => (∃ v, e = .returned v) ∧
      ((∃ ys, ys = upto z len ∧ J ys W') ∨ (∃ pre, (∃ k, k ≤ len ∧ pre = upto z k) ∧ Jx pre W')) := by
  refine callsIn_of_wp Try.func53 rfl h7 ?_ hro;simp only [Try.ntmps53, List.size_toArray, List.length_cons, List.length_nil, Nat.reduceAdd, Nat.reduceSub, Array.replicate_succ, Array.replicate_zero, List.push_toArray, List.append_toArray, List.nil_append, List.cons_append]
  gi_wp2
  gi_loopw [7] (fun i wr => ∃ k : Nat, k ≤ len ∧ i = .int .i64 k ∧ J (upto z k) wr ∧ wr.heap[b]? = some (.cells cur.toArray 34 (0, 0)))
    (fun i _ => len - (intOf i).toNat)
  case atStart => exact ⟨0, Nat.zero_le _, rfl, h0, hb⟩
  case round =>
    obtain ⟨k, hk, rfl, hJs, hnx⟩ := hrel
    by_cases hlt : k < len
    · have hcx0 : wr.cell? ⟨b, k * 2, none⟩ = some (.int .u64 (z k).lo) := by simp [World.cell?, hnx, hc0 k hlt]
      have hcx1 : wr.cell? ⟨b, k * 2 + 1, none⟩ = some (.int .u64 (z k).hi) := by simp [World.cell?, hnx, hc1 k hlt]
      gi_wp2
      have hJ' := hJa _ _ (.cells #[.int .u64 (z k).lo, .int .u64 (z k).hi] 34) hJs;obtain ⟨fn, tmps, assign, body, hy, hR⟩ := hY _ (z k) _ hJ' (by rw [upto_length]; exact hlt);have hB1 : Kp b wr (wr.alloc (.cells #[.int .u64 (z k).lo, .int .u64 (z k).hi] 34)) := Kp.alloc _ _;rw [hy];simp only [Oper.uponIn];refine ⟨fun _ => hn, hR.mono ?_⟩;rintro e W3 (⟨rfl, hJ3, hk3⟩ | ⟨rfl, hJx3⟩)
      · gi_wp2
        go_roundw
        case rel => exact ⟨k + 1, by omega, by simp, by rw [upto_succ]; exact hJ3, (hB1.t hk3) _ rfl hnx⟩
        case measure => simp [intOf]; omega
      · gi_wp2
        refine bodyPost_ret (results_none rfl _ _ _) rfl ?_;exact ⟨⟨_, rfl⟩, .inr ⟨_, ⟨k + 1, by omega, (upto_succ _ _).symm⟩, hJx3⟩⟩
    · obtain rfl : k = len := by omega
      gi_wp2
      go_end0
      exact ⟨⟨_, rfl⟩, .inl ⟨_, rfl, hJs⟩⟩
set_option maxRecDepth 100000 in
set_option maxHeartbeats 1000000 in
theorem values1_nil_in (F : Fence) (n : Nat) (h7 : F.fn 53) (hro : F.round = none) (l Bs : Nat) (J : List TRun → World → Prop) (W : World) (hBs : W.cell? ⟨Bs, 0, none⟩ = some (.slice none 0 0)) (h0 : J [] W) :
    CallsIn F n Try.prog 53 #[.func (.yield l) #[] #[], .pointer (some ⟨Bs, 0, none⟩)] W fun e W' => (∃ v, e = .returned v) ∧ J [] W' := by
  refine callsIn_of_wp Try.func53 rfl h7 ?_ hro;simp only [Try.ntmps53, List.size_toArray, List.length_cons, List.length_nil, Nat.reduceAdd, Nat.reduceSub, Array.replicate_succ, Array.replicate_zero, List.push_toArray, List.append_toArray, List.nil_append, List.cons_append]
  gi_wp2
  gi_loopw [7] (fun i wr => i = .int .i64 0 ∧ J [] wr) (fun _ _ => 0)
  case atStart => exact ⟨rfl, h0⟩
  case round =>
    obtain ⟨rfl, hJs⟩ := hrel
    gi_wp2
    go_end0
    exact ⟨⟨_, rfl⟩, hJs⟩
set_option maxHeartbeats 1000000 in
theorem values_in (F : Fence) (n : Nat) (h5 : F.fn 42) (hro : F.round = none) (a : Option Addr) (len cap : Nat) (w : World) :
    CallsIn F n Try.prog 42 #[.slice a len cap] w fun e w' => e = .returned (.func (.func 53) #[] #[.pointer (some ⟨w.heap.size, 0, none⟩)]) ∧ w' = w.alloc (.cells #[.slice a len cap] 22) := by
  refine callsIn_of_wp Try.func42 rfl h5 ?_ hro;simp only [Try.ntmps42, List.size_toArray, List.length_cons, List.length_nil, Nat.reduceAdd, Nat.reduceSub, Array.replicate_succ, Array.replicate_zero, List.push_toArray, List.append_toArray, List.nil_append, List.cons_append]
  gi_wp2
  go_ret
  exact ⟨rfl, rfl⟩
/-- What the slice is: nil, or in a block of its own. -/
def Runs (W : World) (b : Nat) (sv : Value) (zs : List TRun) : Prop :=
  (sv = .slice none 0 0 ∧ zs = []) ∨ ∃ cap cur, sv = .slice (some ⟨b, 0, none⟩) zs.length cap ∧ zs.length ≤ 9223372036854775807 ∧ W.heap[b]? = some (.cells (List.toArray cur) 34 (0, 0)) ∧ (∀ j, j < zs.length → cur[j * 2]? = some (.int .u64 (zs[j]?.getD ⟨0, 0⟩).lo)) ∧ (∀ j, j < zs.length → cur[j * 2 + 1]? = some (.int .u64 (zs[j]?.getD ⟨0, 0⟩).hi))
theorem values_stops (F : Fence) (n : Nat) (h7 : F.fn 53) (hro : F.round = none) (hn : 1 ≤ n) (Bs b : Nat) (sv : Value) (zs : List TRun) (w : World) (hBs : Bs < w.heap.size) (hc : w.cell? ⟨Bs, 0, none⟩ = some sv) (hI : Runs w b sv zs) :
    SeqStopsK F n Try.prog 53 #[.pointer (some ⟨Bs, 0, none⟩)] (fun x : TRun => #[.agg #[.int .u64 x.lo, .int .u64 x.hi]]) (Kp b) (fun ys => ys = zs) (fun _ => True) zs.length w := fun l J Jx W hW hJ _ hY h0 => by
  have hc' := (hW.cell (p := ⟨Bs, 0, none⟩) hBs).trans hc;rcases hI with ⟨rfl, rfl⟩ | ⟨cap, cur, rfl, hz, hb, h1, h2⟩
  · exact (values1_nil_in F n h7 hro l Bs J W hc' h0).mono fun e W' ⟨he, hj⟩ => ⟨he, .inl ⟨_, rfl, hj⟩⟩
  · have hb' : W.heap[b]? = some (.cells cur.toArray 34 (0, 0)) := (hW.block b (Array.getElem?_eq_some_iff.1 hb).1).trans hb;refine (values1_in F n h7 hro hn l Bs b zs.length cap cur (fun j => zs[j]?.getD ⟨0, 0⟩) (by omega) J Jx hY W hc' hb' h1 h2 h0 (fun s A o hs => hJ s A _ none hs (World.grownBy_alloc A o none) (fun r e => by cases e))).mono ?_;rintro e W' ⟨he, ⟨ys, rfl, hj⟩ | ⟨pre, _, hj⟩⟩
    · exact ⟨he, .inl ⟨_, upto_all _ zs, hj⟩⟩
    · exact ⟨he, .inr ⟨_, trivial, hj⟩⟩

theorem sumW_snoc (pre : List TRun) (x : TRun) : runs_SizeL (pre ++ [x]) = IntKind.u64.wrap (runs_SizeL pre + IntKind.u64.wrap (IntKind.u64.wrap (x.hi - x.lo) + 1)) := by simp [runs_SizeL]
theorem rowRuns {W : World} {S : Nat → Prop} {base : Nat} {zs : List TRun} {u : Value} (h : RowRd W S base 34 2 (List.map TRun.e zs) u) : ∃ a len cap b, u = .slice a len cap ∧ base ≤ b ∧ Runs W b u zs := by
  generalize hq : List.map TRun.e zs = q at h
  cases h with
  | nil => exact ⟨none, 0, 0, base, rfl, Nat.le_refl _, .inl ⟨rfl, by simpa using hq⟩⟩
  | row _ blk cap cur hb hh hlc hcap hcs hk hr =>
    subst hq;rw [List.length_map] at hlc ⊢;have hm : zs.length ≤ 9223372036854775807 := by unfold maxLen at hcap; omega
    refine ⟨_, _, _, blk, rfl, hb, .inr ⟨cap, cur, rfl, hm, hh, fun j hj => ?_, fun j hj => ?_⟩⟩
    · obtain ⟨u, h1, h2⟩ := hr j (TRun.e zs[j]) 0 _ (by simp [hj]) rfl
      cases h2
      simpa [hj] using h1
    · obtain ⟨u, h1, h2⟩ := hr j (TRun.e zs[j]) 1 _ (by simp [hj]) rfl
      cases h2
      simpa [hj] using h1
end Szr
set_option maxRecDepth 100000 in
set_option maxHeartbeats 2000000 in
theorem runs_Size_in (l1 l2 : List TRun) (h : (runs_Norm l1).wp (· = l2)) (w : World) (S : Nat → Prop) (v : Value) (hv : Rd w g0 S (.d (.sl (List.map TRun.e l1))) v) :
    CallsIn Fence.wide 5 Try.prog 24 #[v] w fun e W' => e = .returned (.int .u64 (runs_SizeL l2)) ∧ Below w.heap.size w W' := by
  have hN := runs_Norm_ok l1 l2 h (w.alloc (.cells #[.int .u64 0] 28)) S [v] rfl (fun i p u hp hu => by
    cases i with
    | zero =>
      simp at hp hu;subst hp; subst hu
      cases hv with
      | d hd => exact .d (hd.keep ⟨by simp, fun b _ hb => Below.heap_alloc _ _ _ hb⟩ (fun b hb _ => hb))
    | succ i => simp at hp)
  refine callsIn_of_wp_marks Try.func24 rfl trivial ?_ rfl;simp only [Try.ntmps24, List.size_toArray, List.length_cons, List.length_nil, Nat.reduceAdd, Nat.reduceSub, Array.replicate_succ, Array.replicate_zero, List.push_toArray, List.append_toArray, List.nil_append, List.cons_append]
  gi_wp2
  refine ⟨trivial, (callsIn_wide.2 hN).mono ?_⟩;rintro e w1 ⟨u, rfl, hB1, hrow⟩;obtain ⟨a, len, cap, b, rfl, hb, hI⟩ := Szr.rowRuns hrow;rw [World.size_alloc] at hB1 hb
  gi_wp2
  refine ⟨trivial, (Szr.values_in Fence.wide 4 trivial rfl a len cap w1).mono ?_⟩;rintro e w2 ⟨rfl, rfl⟩;have hA1 : Boxed w1 w.heap.size 28 (.int .u64 0) := (hB1.block _ (by omega)).trans (Boxed.new w 28 (.int .u64 0));have hB2 : Below w.heap.size w w1 := ((Below.refl _ w).alloc (Nat.le_refl _) _).trans (hB1.mono (by omega));have hsz := hB1.size
  gi_wp2
  have bN : Boxed (w1.alloc (.cells #[.slice a len cap] 22)) w1.heap.size 22 (.slice a len cap) := Boxed.new w1 22 _;have hAb : w.heap.size + 1 ≤ w1.heap.size := by rw [World.size_alloc] at hsz; exact hsz
  have hA2 : Boxed (w1.alloc (.cells #[.slice a len cap] 22)) w.heap.size 28 (.int .u64 0) := hA1.alloc _;have hB3 : Below w.heap.size w (w1.alloc (.cells #[.slice a len cap] 22)) := hB2.alloc (by omega) _;have hI2 : Szr.Runs (w1.alloc (.cells #[.slice a len cap] 22)) b (.slice a len cap) l2 := by
    rcases hI with h | ⟨cap', cur, h1, h2, h3, h4⟩
    · exact .inl h
    · exact .inr ⟨cap', cur, h1, h2, Szr.Kp.alloc w1 _ _ rfl h3, h4⟩
  have hs2 : (w1.alloc (.cells #[.slice a len cap] 22)).heap.size = w1.heap.size + 1 := World.size_alloc _ _
  generalize hW2 : w1.alloc (.cells #[.slice a len cap] 22) = w2 at bN hA2 hB3 hI2 hs2
  refine wpIn_rangeFunc_ownH (F := Fence.wide) rfl (by decide) (gf := 53) (lb := #[.pointer (some ⟨w1.heap.size, 0, none⟩)]) rfl trivial (enters_of Try.func53 (by kernel_rfl) rfl)
    (Szr.values_stops Fence.wide 4 trivial rfl (by decide) w1.heap.size b _ l2 w2 (by omega) bN.cell hI2) (fun h k => h.t k) (fun W l o o' _ h ho _ => Szr.Kp.b W l o o' h ho) (Below.refl _ _) (fun _ => rfl)
    (fun pre W => Boxed W w.heap.size 28 (.int .u64 (runs_SizeL pre)) ∧ Below w.heap.size w W)
    (fun _ _ _ => False)
    (OwnFrom.and (Own.from (boxed_own _ _ _) _) (ownFrom_below (Nat.le_refl _) (by omega)))
    (fun _ _ _ _ _ hs _ _ => hs)
    ⟨hA2, hB3⟩
    (fun x a' W => ∃ B, a' = { tmps := #[v, undef, .int .u64 0, .pointer (some ⟨w.heap.size, 0, none⟩), .pointer (some ⟨B, 0, none⟩), v, .slice a len cap, .func (.func 53) #[] #[.pointer (some ⟨w1.heap.size, 0, none⟩)], .agg #[.int .u64 x.lo, .int .u64 x.hi], undef, undef, undef, undef, undef, undef, undef, undef, undef], defers := [] } ∧ B ≠ w.heap.size ∧ W.heap[B]? = some (.cells #[.int .u64 x.lo, .int .u64 x.hi] 34 (0, 0)))
    ?hAx ?assign ?body ?done ?stop
  case hAx =>
    rintro x a' _ W W' row ⟨B, h1, h2, h3⟩ hg hr;refine ⟨B, h1, h2, (hg.block B (Array.getElem?_eq_some_iff.1 h3).1 (fun e => ?_)).trans h3⟩;obtain ⟨_, o, ho, hc⟩ := hr B e.symm;rw [h3] at ho; cases ho; cases hc
  case assign =>
    rintro l pre x W K ⟨hbx, hbe⟩ hK
    gi_wp2
    have hlt := hbx.lt;exact hK _ _ ((KeepsOthers.alloc W _).from _) (Szr.Kp.alloc W _) ⟨hbx.alloc _, hbe.alloc (by omega) _⟩ ⟨W.heap.size, rfl, by omega, World.alloc_heap_new W _⟩
  case body =>
    rintro l pre x a' W _ _ ⟨hbx, hbe⟩ ⟨B, rfl, hBA, hB⟩ _;have hcA : W.cell? ⟨w.heap.size, 0, none⟩ = some (.int .u64 (runs_SizeL pre)) := hbx.cell;have hfA := hbx.frozen;have hc0 : W.cell? ⟨B, 0, none⟩ = some (.int .u64 x.lo) := by simp [World.cell?, hB]
    have hc1 : W.cell? ⟨B, 1, none⟩ = some (.int .u64 x.hi) := by simp [World.cell?, hB]
    gi_wp2
    refine ⟨(KeepsOthers.setCell _ _ _).from _, fun o _ ho => ?_, ?_, hbe.setCell (p := ⟨w.heap.size, 0, none⟩) (Nat.le_refl _) _⟩
    · rw [Below.heap_setCell _ _ _ b (by simp only; omega)]; exact ho
    · rw [Szr.sumW_snoc]; exact hbx.set _
  case done =>
    rintro D ys W hD rfl ⟨hbx, hbe⟩ hK;have hcA : W.cell? ⟨w.heap.size, 0, none⟩ = some (.int .u64 (runs_SizeL ys)) := hbx.cell
    gi_wp2
    refine ⟨by simp, .inl ⟨_, _, rfl, run_takeDeferred hK, ?_⟩⟩;exact ⟨_, results_tmp rfl _ _ _, rfl, hbe.trans (belowK_b (w := w) (Nat.le_refl _) W D _ _ (by omega) hK rfl rfl)⟩
  case stop =>
    rintro D c pre W _ _ h _;exact h.elim
theorem runs_Size_ok (l1 : List TRun) (r0 : Int) (h : (runs_Size l1).wp (· = r0)) : PFun Try.prog 24 [.d (.sl (List.map TRun.e l1))] (.d (.v (.int .u64 r0))) := by
  obtain ⟨l2, h1, h2⟩ := h;replace h2 : runs_SizeL l2 = r0 := h2;subst h2;intro w S vs hl hv
  match vs, hl with
  | [v], _ =>
    refine (callsIn_wide.1 (runs_Size_in l1 l2 h1 w S v (hv 0 _ _ rfl rfl))).mono ?_;rintro e w' ⟨rfl, hb⟩;exact ⟨_, rfl, hb, .d (.v _ rfl)⟩
end Go.Proofs


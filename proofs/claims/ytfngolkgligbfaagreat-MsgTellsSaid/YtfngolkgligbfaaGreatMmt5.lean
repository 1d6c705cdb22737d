/- Texts that the walks and laws lean on, side by side. -/
import Derived.Laws.BytesString
import Derived.Laws.IdiomStrings
import Derived.Test.YtfngolkgligbfaaGreatMmt2
import Derived.Test.YtfngolkgligbfaaGreatMmt3
import Derived.Test.YtfngolkgligbfaaGreatMmt4
set_option linter.unusedVariables false
set_option linter.unusedSimpArgs false
namespace Go.Ep
open Go.RowKit

def OwnB (g : Ghost) (os : List (Nat × Ob)) (b : Nat) : Prop := ∃ id o n, look os id = some o ∧ g id = some (b, n)
structure ObsRd (w : World) (g : Ghost) (S : Nat → Prop) (os : List (Nat × Ob)) : Prop where
  rd : ∀ id o, look os id = some o → ObRd w g S id o
  inj : ∀ i j oi oj b n m, look os i = some oi → look os j = some oj → g i = some (b, n) → g j = some (b, m) → i = j
  lt : ∀ id o b n, look os id = some o → g id = some (b, n) → b < w.heap.size

def After (w : World) (g : Ghost) (S : Nat → Prop) (os : List (Nat × Ob)) (g' : Ghost) (os' : List (Nat × Ob)) (b : Nat) : Prop := (S b ∨ OwnB g os b ∨ w.heap.size ≤ b) ∧ ¬ OwnB g' os' b
structure ObPost (w : World) (g : Ghost) (S : Nat → Prop) (os : List (Nat × Ob)) (pins : List Nat) (r : PV) (os' : List (Nat × Ob)) (w' : World) (g' : Ghost) (u : Value) : Prop where
  eos : w'.os = w.os
  tape : w'.tape = w.tape
  output : w'.output = w.output
  grows : w.heap.size ≤ w'.heap.size
  keep : ∀ k, k < w.heap.size → ¬ OwnB g os k → w'.heap[k]? = w.heap[k]?
  own : ∀ b, OwnB g' os' b → OwnB g os b ∨ w.heap.size ≤ b
  pin : ∀ id ∈ pins, g' id = g id
  res : Rd w' g' (After w g S os g' os') r u
  obs : ObsRd w' g' (After w g S os g' os') os'
def PObj {G : Type} (P : Program) (f : FuncId) (ps : List PV) (os : List (Nat × Ob)) (pins : List Nat) (r : PV) (os' : G → List (Nat × Ob)) : Prop :=
  ∀ (w : World) (g : Ghost) (S : Nat → Prop) (vs : List Value), ps.length = vs.length → (∀ (i : Nat) (p : PV) (v : Value), ps[i]? = some p → vs[i]? = some v → Rd w g S p v) → ObsRd w g S os → (∀ b, S b → ¬ OwnB g os b) →
    Calls P f vs.toArray w (fun e w' => ∃ u g' gh, e = .returned u ∧ ObPost w g S os pins r (os' gh) w' g' u)

section
variable {ctx : Ctx}
inductive ResO (P : Program) (s : PState) : ResultVar → PV → Prop
  | tmp {t : Nat} {p : PV} (h : s.at t = some p) : ResO P s (.tmp t) p
  | agg {t T k id : Nat} {T0 : TypeId} {cs : List PV} (ha : ∀ w, (isAgg T).run P w = .ok true w) (hs : ∀ w, (sizeOf T).run P w = .ok k w) (h : s.at t = some (.ref id 0)) (hl : look s.objs id = some (.cells T0 cs)) (hk : cs.length = k) : ResO P s (.cell t T) (.agg cs)
  | cell {t T id : Nat} {T0 : TypeId} {p : PV} (ha : ∀ w, (isAgg T).run P w = .ok false w) (h : s.at t = some (.ref id 0)) (hl : look s.objs id = some (.cells T0 [p])) : ResO P s (.cell t T) p
inductive ResLO (P : Program) (s : PState) : List ResultVar → List PV → Prop
  | nil : ResLO P s [] []
  | cons {r : ResultVar} {p : PV} {rs : List ResultVar} {ps : List PV} (h : ResO P s r p) (t : ResLO P s rs ps) : ResLO P s (r :: rs) (p :: ps)
def EndsO {G : Type} (P : Program) (ctx : Ctx) (fn : Func) (pl : List (Nat × Ob)) (r : PV) (os' : G → List (Nat × Ob)) : PQ := fun e s => (e = .normal ∨ e = .ret) ∧ ∃ gh ps t, Sub ctx s t ∧ ResLO P t fn.results.toList ps ∧ tupOf ps = r ∧
  (∀ id o, look (os' gh) id = some o → look t.objs id = some o) ∧ ∀ id o, look pl id = some o → look t.objs id = some o

variable {P : Program} {s : PState}
theorem resO_real {g : Ghost} {a : Act} {w : World} (hg : RelG ctx g s a w) {rv : ResultVar} {p : PV} (h : ResO P s rv p) :
    ∃ v, (resOne a.tmps rv).run P w = .ok v w ∧ Rd w g (Free ctx g s.objs) p v := by
  cases h with
  | @tmp t _ h => exact ⟨_, rfl, hg.slots t _ h⟩
  | @agg t T k id T0 cs ha hs h hl hk =>
    have hr := hg.slots t _ h
    generalize hv : a.tmps.getD t undef = v at hr
    cases hr with
    | ref _ _ blk n hgi =>
      cases hg.objs id _ hl with
      | cells _ _ blk' n' us h' hh hlen hr' h1 =>
        rw [hgi] at h'
        cases h'
        refine ⟨.agg us.toArray, ?_, .agg cs us hlen hr' h1⟩;have := run_loadAgg (P := P) (us := us) ha (by rw [← hlen, hk]; exact hs) (w := w) (b := blk) (o := 0) (fun j u hu => by rw [Nat.zero_add, cell_of_heap hh]; exact hu);show (do loadVar T (← asAddr (a.tmps.getD t undef)) : Sem Value).run P w = _;rw [hv];simp only [asAddr, Sem.run_bind, Sem.run_pure, Result.andThen_ok];exact this
  | @cell t T id T0 p ha h hl =>
    have hr := hg.slots t _ h
    generalize hv : a.tmps.getD t undef = v at hr
    cases hr with
    | ref _ _ blk n hgi =>
      cases hg.objs id _ hl with
      | cells _ _ blk' n' us h' hh hlen hr' h1 =>
        rw [hgi] at h'
        cases h'
        have hlt : 0 < us.length := by rw [← hlen]; simp
        have hu : us[0]? = some us[0] := List.getElem?_eq_getElem hlt;refine ⟨us[0], ?_, hr' 0 p _ rfl hu⟩;have := run_loadOne (P := P) ha (w := w) (ad := ⟨blk, 0, none⟩) (u := us[0]) (by rw [cell_of_heap hh]; exact hu);show (do loadVar T (← asAddr (a.tmps.getD t undef)) : Sem Value).run P w = _;rw [hv];simp only [asAddr, Sem.run_bind, Sem.run_pure, Result.andThen_ok];exact this
theorem resLO_real {g : Ghost} {a : Act} {w : World} (hg : RelG ctx g s a w) {rs : List ResultVar} {ps : List PV} (h : ResLO P s rs ps) :
    ∃ vs : List Value, (rs.mapM (resOne a.tmps)).run P w = .ok vs w ∧ ps.length = vs.length ∧
      ∀ (i : Nat) (p : PV) (v : Value), ps[i]? = some p → vs[i]? = some v → Rd w g (Free ctx g s.objs) p v := by
  induction h with
  | nil => exact ⟨[], by simp, rfl, by simp⟩
  | cons h _ ih =>
    obtain ⟨vs, h1, h2, h3⟩ := ih;obtain ⟨v, hv1, hv2⟩ := resO_real hg h;refine ⟨v :: vs, ?_, by simp [h2], ?_⟩
    · simp only [List.mapM_cons, Sem.run_bind, hv1, h1, Result.andThen_ok, Sem.run_pure]
    · intro i p u hp hu
      cases i with
      | zero => simp at hp hu; subst hp; subst hu; exact hv2
      | succ i => simp at hp hu; exact h3 i p u hp hu

def pinL (pv : Nat → Nat × Nat) : List Nat → List (Nat × Ob)
  | [] => []
  | id :: r => (id + 1000, .pin id (pv id).1 (pv id).2) :: pinL pv r
theorem pinL_mem {pv : Nat → Nat × Nat} {pins : List Nat} {id : Nat} {o : Ob} (h : look (pinL pv pins) id = some o) : ∃ t ∈ pins, id = t + 1000 ∧ o = .pin t (pv t).1 (pv t).2 := by
  induction pins with
  | nil => simp [pinL, look] at h
  | cons t r ih =>
    simp only [pinL, look] at h
    split at h
    · rename_i e; exact ⟨t, by simp, e, by simpa using h.symm⟩
    · obtain ⟨t', h1, h2, h3⟩ := ih h; exact ⟨t', by simp [h1], h2, h3⟩
theorem pinL_look {pv : Nat → Nat × Nat} {pins : List Nat} {t : Nat} (h : t ∈ pins) : look (pinL pv pins) (t + 1000) = some (.pin t (pv t).1 (pv t).2) := by
  induction pins with
  | nil => cases h
  | cons q r ih =>
    simp only [pinL, look]
    by_cases e : t = q
    · subst e; simp
    · rw [if_neg (by omega)];exact ih ((List.mem_cons.1 h).resolve_left e)
theorem look_append (l l' : List (Nat × Ob)) (id : Nat) : look (l ++ l') id = (look l id).or (look l' id) := by
  induction l with
  | nil => simp [look]
  | cons x r ih =>
    obtain ⟨k, o⟩ := x;simp only [List.cons_append, look]
    split
    · rfl
    · exact ih
def pinOK (ps : List PV) (os : List (Nat × Ob)) (pins : List Nat) : Bool :=
  pins.all fun t => ps.all (fun p => !p.has (t + 1000)) && os.all (fun x => x.1 != t + 1000 && !x.2.has (t + 1000)) && (match look os t with | some (.cells ..) => true | some (.map ..) => true | _ => false) && pins.all (fun t' => t' + 1000 != t)

theorem PObj.intro {G : Type} {f : FuncId} {fn : Func} {c : Code} {ps : List PV} {os : List (Nat × Ob)} {pins : List Nat} {r : PV} {os' : G → List (Nat × Ob)} {n : Nat} {sl : List (Nat × PV)} (hf : P.funcs[f]? = some fn) (hb : fn.body = some c) (hn : fn.ntmps = n) (hsl : args 0 ps = sl) (hpn : Nat.ble ps.length n = true) (hpin : pinOK ps os pins = true)
    (body : ∀ ctx : Ctx, (∀ b, ctx.K b → ctx.S b) → ∀ pv : Nat → Nat × Nat, PWc P ctx c (EndsO P ctx fn (pinL pv pins) r os') ⟨n, sl, os ++ pinL pv pins⟩) : PObj P f ps os pins r os' := by
  intro w g S vs hlen hreal hobs hdis
  let ctx : Ctx := ⟨w, fun b => S b ∨ OwnB g os b, OwnB g os⟩
  let pv : Nat → Nat × Nat := fun t => (g t).getD (0, 0)
  let g1 : Ghost := fun j => if pins.any (fun t => j == t + 1000) then none else g j
  simp only [pinOK, List.all_eq_true, Bool.and_eq_true, Bool.not_eq_true', bne_iff_ne, ne_eq] at hpin;have g1pin : ∀ t ∈ pins, g1 (t + 1000) = none := fun t ht => by
    have : (pins.any fun t' => t + 1000 == t' + 1000) = true := List.any_eq_true.2 ⟨t, ht, by simp⟩;simp only [g1, this, if_true]
  have g1ne : ∀ j, (∀ t ∈ pins, j ≠ t + 1000) → g1 j = g j := fun j hj => by
    have : (pins.any fun t' => j == t' + 1000) = false := by
      rw [List.any_eq_false]; intro t ht; simpa using hj t ht
    simp only [g1, this, Bool.false_eq_true, if_false]
  have g1p : ∀ p ∈ ps, ∀ j, p.has j = true → g1 j = g j := fun p hp j hj => g1ne j fun t ht e => by
    have := (hpin t ht).1.1.1 p hp;rw [← e, hj] at this
    cases this
  have hosk : ∀ id o, look os id = some o → ∀ t ∈ pins, id ≠ t + 1000 := fun id o ho t ht => ((hpin t ht).1.1.2 _ (look_mem ho)).1
  have g1k : ∀ id o, look os id = some o → g1 id = g id := fun id o ho => g1ne id (hosk id o ho)
  have g1o : ∀ id o, look os id = some o → ∀ j, o.has j = true → g1 j = g j := fun id o ho j hj => g1ne j fun t ht e => by
    have := ((hpin t ht).1.1.2 _ (look_mem ho)).2;simp only at this;rw [← e, hj] at this
    cases this
  have hgp : ∀ t ∈ pins, g t = some (pv t) := fun t ht => by
    have h1 := (hpin t ht).1.2
    cases hl : look os t with
    | none => rw [hl] at h1; cases h1
    | some o =>
      rw [hl] at h1;have h2 := hobs.rd t o hl
      cases h2 with
      | cells _ _ blk n us h => simp [pv, h]
      | map _ _ _ _ _ blk n es h => simp [pv, h]
      | _ => cases h1
  have hlook : ∀ id o, look (os ++ pinL pv pins) id = some o → look os id = some o ∨ ∃ t ∈ pins, id = t + 1000 ∧ o = .pin t (pv t).1 (pv t).2 := fun id o h => by
    rw [look_append] at h
    cases hl : look os id with
    | none => rw [hl, Option.none_or] at h; exact .inr (pinL_mem h)
    | some q => rw [hl, Option.some_or] at h; exact .inl h
  have hfree : ∀ b, S b → Free ctx g1 (os ++ pinL pv pins) b := fun b hb => ⟨.inl (.inl hb), fun id o n ho hg => by
    rcases hlook id o ho with h | ⟨t, ht, h, _⟩
    · rw [g1k id o h] at hg; exact hdis b hb ⟨id, o, n, h, hg⟩
    · rw [h, g1pin t ht] at hg; cases hg⟩
  have hst : Stays w w S := ⟨Nat.le_refl _, fun _ _ _ => rfl⟩
  have hpl : vs.length ≤ n := by rw [← hlen]; exact Nat.le_of_ble_eq_true hpn
  refine calls_of_wp hf hb ?_;subst hsl;have hrel : RelG ctx g1 ⟨n, args 0 ps, os ++ pinL pv pins⟩ { tmps := vs.toArray ++ Array.replicate (fn.ntmps - vs.toArray.size) undef, defers := [] } w := by
    rw [hn];refine ⟨rfl, by simp; omega, ?_, ?_, ?_, ?_, rfl, rfl, rfl, Nat.le_refl _, fun _ _ _ => rfl⟩
    · intro i p hp;obtain ⟨j, h1, h2⟩ := args_get (at_get hp);have e : i = j := by omega
      subst e;have hi' : i < vs.length := by rw [← hlen]; exact (List.getElem?_eq_some_iff.1 h2).1
      have hv : vs[i]? = some vs[i] := List.getElem?_eq_getElem hi';have e : (vs.toArray ++ Array.replicate (n - vs.toArray.size) undef).getD i undef = vs[i] := by
        simp [Array.getD_eq_getD_getElem?, Array.getElem?_append, hi']
      rw [e];exact (hreal i p _ h2 hv).keep (w' := w) (g' := g1) hst (fun b hb _ => hfree b hb) (fun j hj => g1p p (List.mem_of_getElem? h2) j hj)
    · intro id o ho;rcases hlook id o ho with h | ⟨t, ht, rfl, rfl⟩
      · exact (hobs.rd id o h).keep hst (fun b hb _ => hfree b hb) (fun _ _ _ => rfl) (g1k id o h) (g1o id o h)
      · refine .pin t _ _ (g1pin t ht) ?_;rw [g1ne t fun t' ht' e => (hpin t ht).2 t' ht' e.symm];exact hgp t ht
    · intro i j oi oj b n m hi hj hgi hgj;rcases hlook i oi hi with h | ⟨t, ht, rfl, _⟩
      · rcases hlook j oj hj with h2 | ⟨t, ht, rfl, _⟩
        · rw [g1k i oi h] at hgi; rw [g1k j oj h2] at hgj; exact hobs.inj i j oi oj b n m h h2 hgi hgj
        · rw [g1pin t ht] at hgj; cases hgj
      · rw [g1pin t ht] at hgi; cases hgi
    · intro id o b n ho hg;rcases hlook id o ho with h | ⟨t, ht, rfl, _⟩
      · rw [g1k id o h] at hg; exact ⟨hobs.lt id o b n h hg, .inr ⟨id, o, n, h, hg⟩⟩
      · rw [g1pin t ht] at hg; cases hg
  refine wp_mono (body ctx (fun b h => .inr h) pv _ w ⟨g1, hrel⟩) fun e a' w' ⟨s1, ⟨he, gh, qs, t, hsub, hres, hq, hos, hpl'⟩, hr1⟩ => ?_
  have main : a'.defers = [] ∧ ∃ v, (results fn a'.tmps).run P w' = .ok v w' ∧ (∃ u g' gh, Ending.returned v = .returned u ∧ ObPost w g S os pins r (os' gh) w' g' u) := by
    obtain ⟨g2, hg⟩ := hsub a' w' hr1;obtain ⟨us, h1, h2, h3⟩ := resLO_real hg hres;have hrun : (results fn a'.tmps).run P w' = .ok (if h : us.toArray.size = 1 then us.toArray[0] else .tuple us.toArray) w' := by
      rw [results_eq, Array.mapM_eq_mapM_toList];simp only [Sem.run_bind, Sem.run_map, h1, Result.andThen_ok, Sem.run_pure]
    have hFA : ∀ b, Free ctx g2 t.objs b → After w g S os g2 (os' gh) b := fun b ⟨f1, f2⟩ => ⟨by
      rcases f1 with (f1 | f1) | f1
      · exact .inl f1
      · exact .inr (.inl f1)
      · exact .inr (.inr f1), fun ⟨id, o, n, h4, h5⟩ => f2 id o n (hos id o h4) h5⟩
    have hst' : Stays w' w' (Free ctx g2 t.objs) := ⟨Nat.le_refl _, fun _ _ _ => rfl⟩
    refine ⟨hg.defers, _, hrun, _, g2, gh, rfl, hg.os, hg.tape, hg.output, hg.grows, hg.keep, fun b ⟨id, o, n, h4, h5⟩ => ?_, fun id hid => ?_, ?_, ⟨fun id o h4 => (hg.objs id o (hos id o h4)).keep hst' (fun b hb _ => hFA b hb) (fun _ _ _ => rfl) rfl (fun _ _ => rfl), fun i j oi oj b n m hi hj => hg.inj i j oi oj b n m (hos i oi hi) (hos j oj hj), fun id o b n h4 h5 => (hg.own id o b n (hos id o h4) h5).1⟩⟩
    · rcases (hg.own id o b n (hos id o h4) h5).2 with h6 | h6
      · exact .inr h6
      · exact .inl h6
    · have h6 := hg.objs _ _ (hpl' _ _ (pinL_look (pv := pv) hid))
      cases h6 with
      | pin _ _ _ _ ht => rw [ht, hgp id hid]
    · have hk : ∀ {p : PV} {v : Value}, Rd w' g2 (Free ctx g2 t.objs) p v → Rd w' g2 (After w g S os g2 (os' gh)) p v := fun h => h.keep hst' (fun b hb _ => hFA b hb) (fun _ _ => rfl)
      subst hq
      match qs, us, h2, h3 with
      | [p], [u], _, h3 => exact hk (h3 0 p u rfl rfl)
      | [], [], _, h3 => exact .tup [] [] rfl (by simp)
      | p :: q :: ps, u :: v :: us, h2, h3 =>
        have hne : ¬ (u :: v :: us).toArray.size = 1 := by simp
        rw [dif_neg hne];exact .tup _ _ h2 fun i p u hp hu => hk (h3 i p u hp hu)
  rcases he with rfl | rfl
  · exact main
  · exact main
end
end Go.Ep
namespace Go.Ep
open Go.RowKit
def rn (ρ : List (Nat × Nat)) (i : Nat) : Nat := match ρ with
  | [] => i
  | (a, b) :: r => bif Nat.beq a i then b else rn r i
mutual
def PV.ren (ρ : List (Nat × Nat)) : PV → PV
  | .ref i o => .ref (rn ρ i) o
  | .row i n => .row (rn ρ i) n
  | .rp i a b c => .rp (rn ρ i) a b c
  | .pc i a b c => .pc (rn ρ i) a b c
  | .mp i => .mp (rn ρ i)
  | .agg cs => .agg (PV.renL ρ cs)
  | .tup cs => .tup (PV.renL ρ cs)
  | p => p
def PV.renL (ρ : List (Nat × Nat)) : List PV → List PV
  | [] => []
  | c :: r => c.ren ρ :: PV.renL ρ r
end
def Ob.ren (ρ : List (Nat × Nat)) : Ob → Ob
  | .cells T cs => .cells T (PV.renL ρ cs)
  | .iterO mid bs ck L => .iterO (rn ρ mid) bs ck L
  | .pin t b n => .pin (rn ρ t) b n
  | .mapP ks m ov bs ck => .mapP ks m (ov.map fun x => (x.1, x.2.ren ρ)) bs ck
  | o => o
theorem renL_map (ρ : List (Nat × Nat)) : ∀ cs : List PV, PV.renL ρ cs = cs.map (PV.ren ρ)
  | [] => by simp [PV.renL]
  | c :: r => by simp [PV.renL, renL_map ρ r]
section
variable {w : World} {g : Ghost} {S : Nat → Prop} {ρ : List (Nat × Nat)}
theorem Rd.ren {p : PV} {v : Value} (h : Rd w (fun i => g (rn ρ i)) S p v) : Rd w g S (p.ren ρ) v := by
  induction h with
  | junk u => exact .junk u
  | und => exact .und
  | d h => exact .d h
  | agg cs us hl h h1 ih =>
    rw [PV.ren, renL_map];refine .agg _ us (by simpa using hl) (fun i p u hp hu => ?_) h1;rw [List.getElem?_map] at hp
    cases hc : cs[i]? with
    | none => rw [hc] at hp; cases hp
    | some q => rw [hc] at hp; simp only [Option.map_some, Option.some.injEq] at hp; subst hp; exact ih i q u hc hu
  | tup cs us hl h ih =>
    rw [PV.ren, renL_map];refine .tup _ us (by simpa using hl) (fun i p u hp hu => ?_);rw [List.getElem?_map] at hp
    cases hc : cs[i]? with
    | none => rw [hc] at hp; cases hp
    | some q => rw [hc] at hp; simp only [Option.map_some, Option.some.injEq] at hp; subst hp; exact ih i q u hc hu
  | ref id off blk n h => exact .ref _ off blk n h
  | row id n blk cap h => exact .row _ n blk cap h
  | rowNil id h => exact .rowNil _ h
  | rp id i off k blk cap h => exact .rp _ i off k blk cap h
  | pc id i n k blk cap h hi => exact .pc _ i n k blk cap h hi
  | pc0 id i k a c => exact .pc0 _ i k a c
  | ep cs b off o c hS hb hc hr => exact .ep cs b off o c hS hb hc hr
  | mp id blk n h => exact .mp _ blk n h
  | md ks ag m bs ck b es hS hb hh hm => exact .md ks ag m bs ck b es hS hb hh hm
  | mdNil ks ag => exact .mdNil ks ag
theorem Rd.unren {q : PV} {v : Value} (h : Rd w g S q v) : ∀ {p : PV}, q = p.ren ρ → Rd w (fun i => g (rn ρ i)) S p v := by
  induction h with
  | junk u => intro p hp; cases p <;> simp only [PV.ren, reduceCtorEq] at hp; exact .junk u
  | und => intro p hp; cases p <;> simp only [PV.ren, reduceCtorEq] at hp; exact .und
  | d h => intro p hp; cases p <;> simp only [PV.ren, reduceCtorEq, PV.d.injEq] at hp; subst hp; exact .d h
  | agg cs us hl h h1 ih =>
    intro p hp
    cases p <;> simp only [PV.ren, reduceCtorEq, PV.agg.injEq] at hp
    rename_i cs'
    rw [renL_map] at hp;subst hp;exact .agg cs' us (by simpa using hl) (fun i p u hp hu => ih i (p.ren ρ) u (by simp [hp]) hu rfl) h1
  | tup cs us hl h ih =>
    intro p hp
    cases p <;> simp only [PV.ren, reduceCtorEq, PV.tup.injEq] at hp
    rename_i cs'
    rw [renL_map] at hp;subst hp;exact .tup cs' us (by simpa using hl) (fun i p u hp hu => ih i (p.ren ρ) u (by simp [hp]) hu rfl)
  | ref id off blk n h =>
    intro p hp
    cases p <;> simp only [PV.ren, reduceCtorEq, PV.ref.injEq] at hp
    obtain ⟨rfl, rfl⟩ := hp;exact .ref _ _ blk n h
  | row id n blk cap h =>
    intro p hp
    cases p <;> simp only [PV.ren, reduceCtorEq, PV.row.injEq] at hp
    obtain ⟨rfl, rfl⟩ := hp;exact .row _ _ blk cap h
  | rowNil id h =>
    intro p hp
    cases p <;> simp only [PV.ren, reduceCtorEq, PV.row.injEq] at hp
    obtain ⟨rfl, rfl⟩ := hp;exact .rowNil _ h
  | rp id i off k blk cap h =>
    intro p hp
    cases p <;> simp only [PV.ren, reduceCtorEq, PV.rp.injEq] at hp
    obtain ⟨rfl, rfl, rfl, rfl⟩ := hp;exact .rp _ _ _ _ blk cap h
  | pc id i n k blk cap h hi =>
    intro p hp
    cases p <;> simp only [PV.ren, reduceCtorEq, PV.pc.injEq] at hp
    obtain ⟨rfl, rfl, rfl, rfl⟩ := hp;exact .pc _ _ _ _ blk cap h hi
  | pc0 id i k a c =>
    intro p hp
    cases p <;> simp only [PV.ren, reduceCtorEq, PV.pc.injEq] at hp
    obtain ⟨rfl, rfl, rfl, rfl⟩ := hp;exact .pc0 _ _ _ a c
  | ep cs b off o c hS hb hc hr =>
    intro p hp
    cases p <;> simp only [PV.ren, reduceCtorEq, PV.ep.injEq] at hp
    obtain ⟨rfl, rfl⟩ := hp;exact .ep _ b off _ c hS hb hc hr
  | mp id blk n h =>
    intro p hp
    cases p <;> simp only [PV.ren, reduceCtorEq, PV.mp.injEq] at hp
    subst hp;exact .mp _ blk n h
  | md ks ag m bs ck b es hS hb hh hm =>
    intro p hp
    cases p <;> simp only [PV.ren, reduceCtorEq, PV.md.injEq] at hp
    obtain ⟨rfl, rfl, rfl⟩ := hp;exact .md _ _ _ bs ck b es hS hb hh hm
  | mdNil ks ag =>
    intro p hp
    cases p <;> simp only [PV.ren, reduceCtorEq, PV.md.injEq] at hp
    obtain ⟨rfl, rfl, rfl⟩ := hp;exact .mdNil _ _
theorem ObRd.ren {id : Nat} {o : Ob} (h : ObRd w (fun i => g (rn ρ i)) S id o) : ObRd w g S (rn ρ id) (o.ren ρ) := by
  cases h with
  | cells T cs blk n us h hh hl hr h1 =>
    rw [Ob.ren, renL_map];refine .cells T _ blk n us h hh (by simpa using hl) (fun i p u hp hu => ?_) h1;rw [List.getElem?_map] at hp
    cases hc : cs[i]? with
    | none => rw [hc] at hp; cases hp
    | some q => rw [hc] at hp; simp only [Option.map_some, Option.some.injEq] at hp; subst hp; exact (hr i q u hc hu).ren
  | rowNil T k h => exact .rowNil T k h
  | row T k l blk cap cur h hh hlc hcap hcs hkk hr => exact .row T k l blk cap cur h hh hlc hcap hcs hkk hr
  | map ks ag m bs ck blk n es h hh hm => exact .map ks ag m bs ck blk n es h hh hm
  | iterO mid bs ck L blk n b n' h hh hm => exact .iterO _ bs ck L blk n b n' h hh hm
  | iterD ks ag m bs ck L blk n b es h hh hs hb hb2 hm => exact .iterD ks ag m bs ck L blk n b es h hh hs hb hb2 hm
  | iterN ks ag blk n h hh => exact .iterN ks ag blk n h hh
  | pin tgt blk n h ht => exact .pin _ blk n h ht
  | mapP ks m ov bs ck blk n es h hh hsz hst hbl hnd hent hov =>
    rw [Ob.ren];refine .mapP ks m _ bs ck blk n es h hh hsz hst hbl hnd (fun i ns u hi => ?_) fun j p hj => ?_
    · obtain ⟨e, h1, h2, h3, h4, h5⟩ := hent i ns u hi;refine ⟨e, h1, h2, h3, h4, fun hne => h5 fun p hp => ?_⟩;exact hne (p.ren ρ) (by rw [hp]; rfl)
    · cases ov with
      | none => cases hj
      | some x =>
        obtain ⟨j', p'⟩ := x;simp only [Option.map_some, Option.some.injEq, Prod.mk.injEq] at hj;obtain ⟨rfl, rfl⟩ := hj;obtain ⟨e, h1, h2⟩ := hov _ _ rfl;exact ⟨e, h1, h2.ren⟩
theorem ObRd.unren {j : Nat} {q : Ob} (h : ObRd w g S j q) : ∀ {id : Nat} {o : Ob}, j = rn ρ id → q = o.ren ρ → ObRd w (fun i => g (rn ρ i)) S id o := by
  intro id o hj hq;subst hj
  cases h with
  | cells T cs blk n us h hh hl hr h1 =>
    cases o <;> simp only [Ob.ren, reduceCtorEq, Ob.cells.injEq] at hq
    obtain ⟨rfl, rfl⟩ := hq;rw [renL_map] at hl hr;exact .cells _ _ blk n us h hh (by simpa using hl) (fun i p u hp hu => (hr i (p.ren ρ) u (by simp [hp]) hu).unren rfl) h1
  | rowNil T k h =>
    cases o <;> simp only [Ob.ren, reduceCtorEq, Ob.row.injEq] at hq
    obtain ⟨rfl, rfl, rfl⟩ := hq;exact .rowNil _ _ h
  | row T k l blk cap cur h hh hlc hcap hcs hkk hr =>
    cases o <;> simp only [Ob.ren, reduceCtorEq, Ob.row.injEq] at hq
    obtain ⟨rfl, rfl, rfl⟩ := hq;exact .row _ _ _ blk cap cur h hh hlc hcap hcs hkk hr
  | map ks ag m bs ck blk n es h hh hm =>
    cases o <;> simp only [Ob.ren, reduceCtorEq, Ob.map.injEq] at hq
    obtain ⟨rfl, rfl, rfl, rfl, rfl⟩ := hq;exact .map _ _ _ _ _ blk n es h hh hm
  | iterO mid bs ck L blk n b n' h hh hm =>
    cases o <;> simp only [Ob.ren, reduceCtorEq, Ob.iterO.injEq] at hq
    obtain ⟨rfl, rfl, rfl, rfl⟩ := hq;exact .iterO _ _ _ _ blk n b n' h hh hm
  | iterD ks ag m bs ck L blk n b es h hh hs hb hb2 hm =>
    cases o <;> simp only [Ob.ren, reduceCtorEq, Ob.iterD.injEq] at hq
    obtain ⟨rfl, rfl, rfl, rfl, rfl, rfl⟩ := hq;exact .iterD _ _ _ _ _ _ blk n b es h hh hs hb hb2 hm
  | iterN ks ag blk n h hh =>
    cases o <;> simp only [Ob.ren, reduceCtorEq, Ob.iterD.injEq] at hq
    obtain ⟨rfl, rfl, rfl, rfl, rfl, rfl⟩ := hq;exact .iterN _ _ blk n h hh
  | pin tgt blk n h ht =>
    cases o <;> simp only [Ob.ren, reduceCtorEq, Ob.pin.injEq] at hq
    obtain ⟨rfl, rfl, rfl⟩ := hq;exact .pin _ _ _ h ht
  | mapP ks m ov bs ck blk n es h hh hsz hst hbl hnd hent hov =>
    cases o <;> simp only [Ob.ren, reduceCtorEq, Ob.mapP.injEq] at hq
    rename_i ov' _ _
    obtain ⟨rfl, rfl, rfl, rfl, rfl⟩ := hq;refine .mapP _ _ _ _ _ blk n es h hh hsz hst hbl hnd (fun i ns u hi => ?_) fun j p hj => ?_
    · obtain ⟨e, h1, h2, h3, h4, h5⟩ := hent i ns u hi;refine ⟨e, h1, h2, h3, h4, fun hne => h5 fun p hp => ?_⟩
      cases ov' with
      | none => cases hp
      | some x =>
        simp only [Option.map_some, Option.some.injEq, Prod.mk.injEq] at hp;exact hne x.2 (by rw [← hp.1])
    · subst hj;obtain ⟨e, h1, h2⟩ := hov j (p.ren ρ) rfl;exact ⟨e, h1, h2.unren rfl⟩
end
end Go.Ep
namespace Go.Ep
open Go.RowKit
def PState.callO (s : PState) (ρ : List (Nat × Nat)) (js : List Nat) (os os' : List (Nat × Ob)) : PState :=
  { n := s.n, sl := (s.junks js).sl, objs := os'.foldr (fun x l => putO (rn ρ x.1) (x.2.ren ρ) l) (os.foldr (fun x l => delO (rn ρ x.1) l) s.objs) }
inductive AllOb (s : PState) (ρ : List (Nat × Nat)) : List (Nat × Ob) → Prop
  | nil : AllOb s ρ []
  | cons {id : Nat} {o : Ob} {r : List (Nat × Ob)} (h : look s.objs (rn ρ id) = some (o.ren ρ)) (t : AllOb s ρ r) : AllOb s ρ ((id, o) :: r)
theorem AllOb.get {s : PState} {ρ : List (Nat × Nat)} {os : List (Nat × Ob)} (h : AllOb s ρ os) : ∀ id o, look os id = some o → look s.objs (rn ρ id) = some (o.ren ρ) := by
  induction h with
  | nil => intro id o h; simp [look] at h
  | cons h _ ih =>
    intro id o hl;simp only [look] at hl
    split at hl
    · rename_i e; subst e; cases hl; exact h
    · exact ih id o hl
def callOK (s : PState) (ρ : List (Nat × Nat)) (js okeys pins ks : List Nat) : Bool :=
  ((okeys ++ ks).all fun i => (okeys ++ ks).all fun j => Nat.beq i j || !Nat.beq (rn ρ i) (rn ρ j)) && ks.all (fun i => inL okeys i || s.fresh (rn ρ i)) &&
  ks.all fun i => inL pins i || (chkS (rn ρ i) (s.junks js).sl (s.junks js).sl && s.objs.all fun x => !x.2.has (rn ρ i) || inL (okeys.map (rn ρ)) x.1)
theorem lookR {ρ : List (Nat × Nat)} {acc : List (Nat × Ob)} {j : Nat} {o : Ob} : ∀ {l : List (Nat × Ob)}, look (l.foldr (fun x acc => putO (rn ρ x.1) (x.2.ren ρ) acc) acc) j = some o → (∃ i o1, look l i = some o1 ∧ j = rn ρ i ∧ o = o1.ren ρ) ∨ ((∀ i ∈ l.map (·.1), rn ρ i ≠ j) ∧ look acc j = some o)
  | [], h => .inr ⟨by simp, h⟩
  | (k, q) :: r, h => by
    rw [List.foldr_cons, look_putO] at h
    by_cases e : j = rn ρ k
    · rw [if_pos e] at h;exact .inl ⟨k, q, by simp [look], e, by simpa using h.symm⟩
    · rw [if_neg e] at h;rcases lookR h with ⟨i, o1, h1, h2, h3⟩ | ⟨h1, h2⟩
      · refine .inl ⟨i, o1, ?_, h2, h3⟩;simp only [look];rw [if_neg (fun e2 => e (by rw [h2, e2]))];exact h1
      · refine .inr ⟨fun i hi => ?_, h2⟩;simp only [List.map_cons, List.mem_cons] at hi;rcases hi with rfl | hi
        · exact fun e2 => e e2.symm
        · exact h1 i hi
theorem lookD {ρ : List (Nat × Nat)} {acc : List (Nat × Ob)} {j : Nat} {o : Ob} : ∀ {l : List (Nat × Ob)}, look (l.foldr (fun x acc => delO (rn ρ x.1) acc) acc) j = some o → (∀ i ∈ l.map (·.1), rn ρ i ≠ j) ∧ look acc j = some o
  | [], h => ⟨by simp, h⟩
  | (k, q) :: r, h => by
    rw [List.foldr_cons, look_delO] at h
    by_cases e : j = rn ρ k
    · rw [if_pos e] at h; cases h
    · rw [if_neg e] at h;obtain ⟨h1, h2⟩ := lookD h;refine ⟨fun i hi => ?_, h2⟩;simp only [List.map_cons, List.mem_cons] at hi;rcases hi with rfl | hi
      · exact fun e2 => e e2.symm
      · exact h1 i hi
theorem look_key {l : List (Nat × Ob)} {i : Nat} {o : Ob} (h : look l i = some o) : i ∈ l.map (·.1) := List.mem_map.2 ⟨(i, o), look_mem h, rfl⟩
section
variable {P : Program} {ctx : Ctx} {s : PState}
theorem callObj_core {G : Type} {f : FuncId} {ps qs : List PV} {os : List (Nat × Ob)} {pins : List Nat} {r : PV} {os' : G → List (Nat × Ob)} (ρ : List (Nat × Nat)) (js ks : List Nat) (hc : PObj P f ps os pins r os') (hK : ∀ b, ctx.K b → ctx.S b) (hq : qs.map PV.nilD = ps.map (PV.ren ρ)) (hos : AllOb s ρ os)
    (hks : ∀ gh, (os' gh).map (·.1) = ks) (hcl : ∀ gh, (os' gh).all (fun x => x.2.named ks) = true) (hr : r.named ks = true) (hok : callOK s ρ js (os.map (·.1)) pins ks = true) {g : Ghost} {a : Act} {w : World} (hg : RelG ctx g s a w) {vs : List Value} (hlen : qs.length = vs.length)
    (hreal : ∀ (i : Nat) (q : PV) (v : Value), qs[i]? = some q → vs[i]? = some v → Rd w g (Free ctx g s.objs) q v) (dst : Option Nat) :
    Calls P f vs.toArray w (fun e w' => ∃ u gh, e = .returned u ∧ Rel ctx ((s.callO ρ js os (os' gh)).putD dst (r.ren ρ)) (a.put dst u) w') := by
  let g0 : Ghost := fun i => g (rn ρ i)
  have hlo := hos.get;simp only [callOK, Bool.and_eq_true, List.all_eq_true, Bool.or_eq_true, Bool.not_eq_true'] at hok;obtain ⟨⟨hinj0, hfresh⟩, hnm⟩ := hok;have hinj : ∀ i j, i ∈ os.map (·.1) ++ ks → j ∈ os.map (·.1) ++ ks → rn ρ i = rn ρ j → i = j := fun i j hi hj e => by
    rcases hinj0 i hi j hj with h | h
    · exact Nat.eq_of_beq_eq_true h
    · rw [e, Nat.beq_refl] at h; cases h
  have hdis : ∀ b, Free ctx g s.objs b → ¬ OwnB g0 os b := fun b hb ⟨id, o, n, h1, h2⟩ => hb.2 _ _ n (hlo id o h1) h2
  have hobs : ObsRd w g0 (Free ctx g s.objs) os := ⟨fun id o h => (hg.objs _ _ (hlo id o h)).unren rfl rfl,
    fun i j oi oj b n m hi hj hgi hgj => hinj i j (List.mem_append_left _ (look_key hi)) (List.mem_append_left _ (look_key hj)) (hg.inj _ _ _ _ b n m (hlo i oi hi) (hlo j oj hj) hgi hgj),
    fun id o b n h h2 => (hg.own _ _ b n (hlo id o h) h2).1⟩
  have hpl : ps.length = qs.length := by have := congrArg List.length hq; simpa using this.symm
  refine (hc w g0 (Free ctx g s.objs) vs (by omega) (fun i p v hp hv => ?_) hobs hdis).mono fun e w' ⟨u, g', gh, he, hpost⟩ => ⟨u, gh, he, ?_⟩
  · cases hqi : qs[i]? with
    | none => have := List.getElem?_eq_none_iff.1 hqi; have := (List.getElem?_eq_some_iff.1 hp).1; omega
    | some q =>
      have h1 : (qs.map PV.nilD)[i]? = (ps.map (PV.ren ρ))[i]? := by rw [hq]
      rw [List.getElem?_map, List.getElem?_map, hqi, hp] at h1;simp only [Option.map_some, Option.some.injEq] at h1;exact (hreal i q v hqi hv).nilD.unren h1
  have hks' := hks gh;have hcl' := hcl gh
  generalize os' gh = os1 at hpost hks' hcl' ⊢
  let G' : Ghost := fun j => match ks.find? (fun i => Nat.beq (rn ρ i) j) with | some i => g' i | none => g j
  have hG1 : ∀ i ∈ ks, G' (rn ρ i) = g' i := fun i hi => by
    show (match ks.find? (fun k => Nat.beq (rn ρ k) (rn ρ i)) with | some i => g' i | none => g (rn ρ i)) = g' i
    cases hf : ks.find? (fun k => Nat.beq (rn ρ k) (rn ρ i)) with
    | none => have := List.find?_eq_none.1 hf i hi; simp at this
    | some k =>
      have h1 := List.find?_some hf;have h2 := List.mem_of_find?_eq_some hf;rw [hinj k i (List.mem_append_right _ h2) (List.mem_append_right _ hi) (Nat.eq_of_beq_eq_true h1)]
  have hG2 : ∀ j, (∀ i ∈ ks, rn ρ i ≠ j) → G' j = g j := fun j hj => by
    show (match ks.find? (fun k => Nat.beq (rn ρ k) j) with | some i => g' i | none => g j) = g j
    cases hf : ks.find? (fun k => Nat.beq (rn ρ k) j) with
    | none => rfl
    | some k => exact absurd (Nat.eq_of_beq_eq_true (by simpa using List.find?_some hf)) (hj k (List.mem_of_find?_eq_some hf))
  have hlookN : ∀ j o, look (s.callO ρ js os os1).objs j = some o → (∃ i o1, look os1 i = some o1 ∧ j = rn ρ i ∧ o = o1.ren ρ ∧ i ∈ ks) ∨ ((∀ i ∈ ks, rn ρ i ≠ j) ∧ (∀ i ∈ os.map (·.1), rn ρ i ≠ j) ∧ look s.objs j = some o) := fun j o h => by
    rcases lookR h with ⟨i, o1, h1, h2, h3⟩ | ⟨h1, h2⟩
    · exact .inl ⟨i, o1, h1, h2, h3, hks' ▸ look_key h1⟩
    · obtain ⟨h3, h4⟩ := lookD h2;exact .inr ⟨fun i hi => h1 i (hks' ▸ hi), h3, h4⟩
  have freeS : ∀ b, Free ctx g s.objs b → b < w.heap.size → Free ctx G' (s.callO ρ js os os1).objs b := fun b hb hlt => ⟨hb.1, fun j o n hj hgj => by
    rcases hlookN j o hj with ⟨i, o1, h1, h2, _, hik⟩ | ⟨h1, _, h3⟩
    · rw [h2, hG1 i hik] at hgj;rcases hpost.own b ⟨i, o1, n, h1, hgj⟩ with h | h
      · exact hdis b hb h
      · omega
    · rw [hG2 j h1] at hgj;exact hb.2 j o n h3 hgj⟩
  have freeA : ∀ b, After w g0 (Free ctx g s.objs) os g' os1 b → Free ctx G' (s.callO ρ js os os1).objs b := fun b ⟨h1, h2⟩ => ⟨by
    rcases h1 with h1 | ⟨id, o, n, h1, h3⟩ | h1
    · exact h1.1
    · rcases (hg.own _ _ b n (hlo id o h1) h3).2 with h4 | h4
      · exact .inr h4
      · exact .inl (hK b h4)
    · exact .inr (Nat.le_trans hg.grows h1), fun j o n hj hgj => by
    rcases hlookN j o hj with ⟨i, o1, h3, h4, _, hik⟩ | ⟨h3, h4, h5⟩
    · rw [h4, hG1 i hik] at hgj;exact h2 ⟨i, o1, n, h3, hgj⟩
    · rw [hG2 j h3] at hgj;rcases h1 with h1 | ⟨id, o', n', h1, h6⟩ | h1
      · exact h1.2 j o n h5 hgj
      · exact h4 id (look_key h1) (hg.inj j (rn ρ id) o _ b n n' h5 (hlo id o' h1) hgj h6).symm
      · have := (hg.own j o b n h5 hgj).1; omega⟩
  have hst : Stays w w' (Free ctx g s.objs) := ⟨hpost.grows, fun b hb hlt => hpost.keep b hlt (hdis b hb)⟩
  -- what is named elsewhere keeps its ghost
  have hslot : ∀ i p, (s.junks js).at i = some p → ∀ j, p.has j = true → G' j = g j := fun i p hp j hj => by
    by_cases hex : ∃ k ∈ ks, rn ρ k = j
    · obtain ⟨k, hk, rfl⟩ := hex;rw [hG1 k hk];rcases hnm k hk with h | ⟨h, _⟩
      · exact hpost.pin k (inL_iff.1 h)
      · rw [chkS_at (s := s.junks js) h hp] at hj; cases hj
    · exact hG2 j fun k hk e => hex ⟨k, hk, e⟩
  have hother : ∀ j o, look s.objs j = some o → (∀ i ∈ os.map (·.1), rn ρ i ≠ j) → ∀ jj, o.has jj = true → G' jj = g jj := fun j o hj hno jj hjj => by
    by_cases hex : ∃ k ∈ ks, rn ρ k = jj
    · obtain ⟨k, hk, rfl⟩ := hex;rw [hG1 k hk];rcases hnm k hk with h | ⟨_, h⟩
      · exact hpost.pin k (inL_iff.1 h)
      · rcases h _ (look_mem hj) with h2 | h2
        · rw [hjj] at h2; cases h2
        · obtain ⟨i, hi, he⟩ := List.mem_map.1 (inL_iff.1 h2);exact absurd he (hno i hi)
    · exact hG2 jj fun k hk e => hex ⟨k, hk, e⟩
  have hnown : ∀ j o b n, look s.objs j = some o → (∀ i ∈ os.map (·.1), rn ρ i ≠ j) → g j = some (b, n) → ¬ OwnB g0 os b := fun j o b n hj hno hgj ⟨id, o', n', h1, h2⟩ =>
    hno id (look_key h1) (hg.inj j (rn ρ id) o _ b n n' hj (hlo id o' h1) hgj h2).symm
  have main : RelG ctx G' (s.callO ρ js os os1) a w' := by
    refine ⟨hg.defers, hg.size, fun i p hp => ?_, fun j o hj => ?_, fun i j oi oj b n m hi hj hgi hgj => ?_, fun j o b n hj hgj => ?_, hpost.eos.trans hg.os, hpost.tape.trans hg.tape, hpost.output.trans hg.output, Nat.le_trans hg.grows hpost.grows, fun k hk hkK => ?_⟩
    · have hp' : (s.junks js).at i = some p := by
        rw [at_eq, junks_n];rw [at_eq] at hp;exact hp
      have h := (hg.junks js).slots i p hp';rw [junks_objs] at h;exact h.keep hst freeS (hslot i p hp')
    · rcases hlookN j o hj with ⟨i, o1, h1, rfl, rfl, hik⟩ | ⟨h1, h2, h3⟩
      · refine ObRd.ren ?_;have hst' : Stays w' w' (After w g0 (Free ctx g s.objs) os g' os1) := ⟨Nat.le_refl _, fun _ _ _ => rfl⟩
        have hn := (List.all_eq_true.1 hcl') _ (look_mem h1);exact (hpost.obs.rd i o1 h1).keep hst' (fun b hb _ => freeA b hb) (fun _ _ _ => rfl) (hG1 i hik) (fun jj hjj => hG1 jj (Ob.named_has hn hjj))
      · exact (hg.objs j o h3).keep hst freeS (fun b n hgj => hpost.keep b (hg.own j o b n h3 hgj).1 (hnown j o b n h3 h2 hgj)) (hG2 j h1) (hother j o h3 h2)
    · rcases hlookN i oi hi with ⟨k, o1, h1, rfl, _, hik⟩ | ⟨h1, h2, h3⟩
      · rw [hG1 k hik] at hgi;rcases hlookN j oj hj with ⟨k2, o2, h4, rfl, _, hik2⟩ | ⟨h4, h5, h6⟩
        · rw [hG1 k2 hik2] at hgj;rw [hpost.obs.inj k k2 o1 o2 b n m h1 h4 hgi hgj]
        · rw [hG2 j h4] at hgj;exfalso;rcases hpost.own b ⟨k, o1, n, h1, hgi⟩ with h | h
          · exact hnown j oj b m h6 h5 hgj h
          · have := (hg.own j oj b m h6 hgj).1; omega
      · rw [hG2 i h1] at hgi;rcases hlookN j oj hj with ⟨k2, o2, h4, rfl, _, hik2⟩ | ⟨h4, h5, h6⟩
        · rw [hG1 k2 hik2] at hgj;exfalso;rcases hpost.own b ⟨k2, o2, m, h4, hgj⟩ with h | h
          · exact hnown i oi b n h3 h2 hgi h
          · have := (hg.own i oi b n h3 hgi).1; omega
        · rw [hG2 j h4] at hgj;exact hg.inj i j oi oj b n m h3 h6 hgi hgj
    · rcases hlookN j o hj with ⟨k, o1, h1, rfl, _, hik⟩ | ⟨h1, h2, h3⟩
      · rw [hG1 k hik] at hgj;refine ⟨hpost.obs.lt k o1 b n h1 hgj, ?_⟩;rcases hpost.own b ⟨k, o1, n, h1, hgj⟩ with ⟨id, o', n', h4, h5⟩ | h
        · exact (hg.own _ _ b n' (hlo id o' h4) h5).2
        · exact .inl (Nat.le_trans hg.grows h)
      · rw [hG2 j h1] at hgj;obtain ⟨h4, h5⟩ := hg.own j o b n h3 hgj;exact ⟨Nat.lt_of_lt_of_le h4 hpost.grows, h5⟩
    · refine (hpost.keep k (Nat.lt_of_lt_of_le hk hg.grows) fun ⟨id, o, n, h1, h2⟩ => ?_).trans (hg.keep k hk hkK);rcases (hg.own _ _ k n (hlo id o h1) h2).2 with h | h
      · omega
      · exact hkK h
  refine ⟨G', main.put dst ?_⟩;have hst' : Stays w' w' (After w g0 (Free ctx g s.objs) os g' os1) := ⟨Nat.le_refl _, fun _ _ _ => rfl⟩
  exact (hpost.res.keep (w' := w') (g' := fun i => G' (rn ρ i)) hst' (fun b hb _ => freeA b hb) (fun jj hjj => hG1 jj (PV.named_has hr hjj))).ren
end
end Go.Ep
namespace Go.Ep
open Go.RowKit
section
variable {P : Program} {ctx : Ctx} {Q : PQ} {s : PState}
variable {dst : Option Tmp} {ty : TypeId} {pos : String} {after : Array Edge} {gd : Option (Nat × Bool)}
theorem evs_rd {xs : List Operand} {ps : List PV} (hps : s.evs xs = some ps) {a : Act} {w : World} {g : Ghost} (hg : RelG ctx g s a w) :
    ps.length = (xs.map a.eval).length ∧ ∀ (i : Nat) (p : PV) (v : Value), ps[i]? = some p → (xs.map a.eval)[i]? = some v → Rd w g (Free ctx g s.objs) p v := by
  refine ⟨by simpa using evs_len hps, fun i p v hp hv => ?_⟩;rw [List.getElem?_map] at hv
  cases hx : xs[i]? with
  | none => simp [hx] at hv
  | some x =>
    simp [hx] at hv;subst hv;exact hg.ev (evs_get hps hp hx)
theorem PWl.callObj {G : Type} {ops : Array Oper} {rest : List Oper} {x : Operand} {xs : List Operand} {ats : Array TypeId} {f : FuncId} {ps qs : List PV} {os : List (Nat × Ob)} {pins : List Nat} {r : PV} {os' : G → List (Nat × Ob)} (ρ : List (Nat × Nat)) (js ks : List Nat)
    (hc : PObj P f ps os pins r os') (hK : ∀ b, ctx.K b → ctx.S b) (hx : s.ev x = some (.d (.v (.func (.func f) #[] #[])))) (he : ∀ args w, (callFunc f args).run P w = .ok (.enter f args) w) (hps : s.evs xs = some qs) (hq : qs.map PV.nilD = ps.map (PV.ren ρ)) (hos : AllOb s ρ os)
    (hks : ∀ gh, (os' gh).map (·.1) = ks) (hcl : ∀ gh, (os' gh).all (fun x => x.2.named ks) = true) (hr : r.named ks = true) (hok : callOK s ρ js (os.map (·.1)) pins ks = true) (hgd : gd = none)
    (h : ∀ gh, PWl P ctx ops Q rest ((s.callO ρ js os (os' gh)).putD dst (r.ren ρ))) : PWl P ctx ops Q (⟨dst, .call ⟨.value x, xs.toArray, ats⟩, ty, pos, after, gd⟩ :: rest) s := by
  rintro a w ⟨g, hg⟩;refine wpList_plain hgd fun K hK2 => ?_
  obtain ⟨hlen, hreal⟩ := evs_rd hps hg;unfold Oper.wp;rw [exec_call (o := ⟨dst, .call ⟨.value x, xs.toArray, ats⟩, ty, pos, after, gd⟩) rfl (ev_v hg hx) he w];rw [List.map_toArray];refine (callObj_core ρ js ks hc hK hq hos hks hcl hr hok hg hlen hreal dst).mono fun en w' ⟨u, gh, he, hrel⟩ => ?_
  subst he;exact hK2 _ _ (h gh _ _ hrel)
theorem LR.callObj {x : Operand} {xs : List Operand} {ats : Array TypeId} {f : FuncId} {ps qs : List PV} {os os' : List (Nat × Ob)} {pins : List Nat} {r : PV} (ρ : List (Nat × Nat)) (js ks : List Nat)
    (hc : PObj P f ps os pins r (fun _ : Unit => os')) (hK : ∀ b, ctx.K b → ctx.S b) (hx : s.ev x = some (.d (.v (.func (.func f) #[] #[])))) (he : ∀ args w, (callFunc f args).run P w = .ok (.enter f args) w) (hps : s.evs xs = some qs) (hq : qs.map PV.nilD = ps.map (PV.ren ρ)) (hos : AllOb s ρ os)
    (hks : os'.map (·.1) = ks) (hcl : os'.all (fun x => x.2.named ks) = true) (hr : r.named ks = true) (hok : callOK s ρ js (os.map (·.1)) pins ks = true) :
    Local P ctx ⟨dst, .call ⟨.value x, xs.toArray, ats⟩, ty, pos, after, gd⟩ s ((s.callO ρ js os os').putD dst (r.ren ρ)) :=
  local_enter (o := ⟨dst, .call ⟨.value x, xs.toArray, ats⟩, ty, pos, after, gd⟩) fun a w g hg => by
    obtain ⟨hlen, hreal⟩ := evs_rd hps hg;refine ⟨f, _, exec_call (o := ⟨dst, .call ⟨.value x, xs.toArray, ats⟩, ty, pos, after, gd⟩) rfl (ev_v hg hx) he w, ?_⟩;rw [List.map_toArray];exact (callObj_core ρ js ks hc hK hq hos (fun _ => hks) (fun _ => hcl) hr hok hg hlen hreal dst).mono fun en w' ⟨u, _, he, hrel⟩ => ⟨u, he, hrel⟩
end
end Go.Ep
namespace Go.Ep
theorem look_left {a b : List (Nat × Ob)} {id : Nat} {o : Ob} (h : look a id = some o) : look (a ++ b) id = some o := by rw [look_append, h]; rfl
theorem EndsO.mk {G : Type} {P : Program} {ctx : Ctx} {fn : Func} {pl : List (Nat × Ob)} {r : PV} {os' : G → List (Nat × Ob)} {e : Exit} {s : PState} (gh : G) {n : Nat} {sl : List (Nat × PV)} {ps : List PV} (he : e = .normal ∨ e = .ret) (hsub : Sub ctx s ⟨n, sl, os' gh ++ pl⟩)
    (hres : ResLO P ⟨n, sl, os' gh ++ pl⟩ fn.results.toList ps) (hq : tupOf ps = r) (hd : (pl.all fun x => !inL ((os' gh).map (·.1)) x.1) = true) : EndsO P ctx fn pl r os' e s := by
  refine ⟨he, gh, ps, _, hsub, hres, hq, fun id o h => look_left h, fun id o h => ?_⟩;show look (os' gh ++ pl) id = some o;rw [look_append]
  cases hl : look (os' gh) id with
  | none => rw [Option.none_or]; exact h
  | some q =>
    have h1 := List.all_eq_true.1 hd _ (look_mem h);have h2 := inL_iff.2 (look_key hl);simp only at h1;rw [h2] at h1
    cases h1
end Go.Ep
namespace Go.Ep
open Go.RowKit
section
variable {P : Program} {ctx : Ctx} {Q : PQ} {s : PState}
variable {dst : Option Tmp} {ty : TypeId} {pos : String} {after : Array Edge} {gd : Option (Nat × Bool)}
end
end Go.Ep
namespace Go.Ep
open Go.RowKit
section
variable {ctx : Ctx} {s : PState}
end
end Go.Ep
namespace Go.Ep
open Go.RowKit
section
variable {P : Program} {ctx : Ctx} {Q : PQ} {s : PState}
variable {dst : Option Tmp} {ty : TypeId} {pos : String} {after : Array Edge} {gd : Option (Nat × Bool)}
end
end Go.Ep
namespace Go.Ep
open Go.RowKit
section
variable {ctx : Ctx} {s : PState}
end
end Go.Ep

namespace Go.Ep
open Go.RowKit
def effO (ρ : List (Nat × Nat)) (js : List Nat) (dst : Option Nat) (r : PV) (os' : List (Nat × Ob)) : Ef := ⟨dstL dst (r.ren ρ) ++ (js.map fun t => (t, PV.junk)).reverse, os'.map fun x => (rn ρ x.1, x.2.ren ρ)⟩
def calO (ρ : List (Nat × Nat)) (js okeys pins ks : List Nat) (f : Ft) : Bool :=
  ((okeys ++ ks).all fun i => (okeys ++ ks).all fun j => Nat.beq i j || !Nat.beq (rn ρ i) (rn ρ j)) && ks.all (inL okeys) && okeys.all (inL ks) && f.ao.all (inL (okeys.map (rn ρ))) &&
  (ks.all fun i => inL pins i || f.al.any fun a => Nat.beq a.1 (rn ρ i) && a.2 == js) && okeys.all fun i => inL f.ro (rn ρ i)
section
variable {P : Program} {ctx : Ctx} {Q : PState → Prop} {s : PState} {ops : Array Oper} {rest : List Oper} {fs : List Ft} {f : Ft}
variable {dst : Option Tmp} {ty : TypeId} {pos : String} {after : Array Edge} {gd : Option (Nat × Bool)}
theorem AllOb.keep {ρ : List (Nat × Nat)} {os : List (Nat × Ob)} {s' : PState} (h : AllOb s ρ os) (hk : ∀ {id ob}, inL f.ro id = true → look s.objs id = some ob → look s'.objs id = some ob) (hr : ((os.map (·.1)).all fun i => inL f.ro (rn ρ i)) = true) : AllOb s' ρ os := by
  induction h with
  | nil => exact .nil
  | cons h _ ih =>
    simp only [List.map_cons, List.all_cons, Bool.and_eq_true] at hr;exact .cons (hk hr.1 h) (ih hr.2)
theorem PQe.callObj {x : Operand} {xs : List Operand} {ats : Array TypeId} {fn : FuncId} {ps qs : List PV} {os os' : List (Nat × Ob)} {pins : List Nat} {r : PV} (ρ : List (Nat × Nat)) (js ks : List Nat)
    (hc : PObj P fn ps os pins r (fun _ : Unit => os')) (hK : ∀ b, ctx.K b → ctx.S b)
    (hev : ∀ s' : PState, (∀ {y q}, readsX (⟨dst, .call ⟨.value x, xs.toArray, ats⟩, ty, pos, after, gd⟩ : Oper) y = true → s.ev y = some q → s'.ev y = some q) → s'.ev x = some (.d (.v (.func (.func fn) #[] #[]))) ∧ s'.evs xs = some qs)
    (he : ∀ args w, (callFunc fn args).run P w = .ok (.enter fn args) w) (hq : qs.map PV.nilD = ps.map (PV.ren ρ)) (hos : AllOb s ρ os)
    (hks : os'.map (·.1) = ks) (hcl : os'.all (fun x => x.2.named ks) = true) (hr : r.named ks = true) (hok : calO ρ js (os.map (·.1)) pins ks f = true)
    (hg : Wd ops (⟨dst, .call ⟨.value x, xs.toArray, ats⟩, ty, pos, after, gd⟩ : Oper) s) (hk : okE f (effO ρ js dst r os') = true) (h : PQe P ctx ops Q rest fs (s.app (effO ρ js dst r os'))) :
    PQe P ctx ops Q (⟨dst, .call ⟨.value x, xs.toArray, ats⟩, ty, pos, after, gd⟩ :: rest) (f :: fs) s := by
  simp only [calO, Bool.and_eq_true] at hok;obtain ⟨⟨⟨⟨⟨c1, c2⟩, c3⟩, c4⟩, c5⟩, c6⟩ := hok;refine .step (e := effO ρ js dst r os') (fun s' hn hee ho _ hal => ?_) hg hk h;obtain ⟨h1, h2⟩ := hev s' (fun hx hq => hee hx hq);have hok' : callOK s' ρ js (os.map (·.1)) pins ks = true := by
    unfold callOK;rw [Bool.and_eq_true, Bool.and_eq_true];refine ⟨⟨c1, ?_⟩, ?_⟩
    · rw [List.all_eq_true] at c2 ⊢;intro i hi;rw [c2 i hi]; rfl
    · rw [List.all_eq_true] at c5 ⊢;intro i hi;have := c5 i hi;rw [Bool.or_eq_true] at this ⊢;rcases this with h | h
      · exact .inl h
      · refine .inr ?_;obtain ⟨a, ha1, ha2⟩ := List.any_eq_true.1 h;simp only [Bool.and_eq_true, beq_iff_eq] at ha2;have hx := hal a ha1;rw [Nat.eq_of_beq_eq_true ha2.1, ha2.2] at hx;unfold PState.aloneX at hx;rw [Bool.and_eq_true, junks_objs] at hx;rw [Bool.and_eq_true];refine ⟨hx.1, ?_⟩;rw [List.all_eq_true] at c4;have hx2 := hx.2;rw [List.all_eq_true] at hx2 ⊢;intro y hy;have := hx2 y hy;rw [Bool.or_eq_true] at this ⊢;rcases this with h | h
        · exact .inr (c4 _ (inL_iff.1 h))
        · exact .inl h
  have hl := LR.callObj (P := P) (ctx := ctx) (dst := dst) (ty := ty) (pos := pos) (after := after) (gd := gd) (ats := ats) ρ js ks hc hK h1 he h2 hq (hos.keep (fun hi hl => ho (inL_iff.1 hi) hl) c6) hks hcl hr hok'
  suffices hs : Sub ctx ((s'.callO ρ js os os').putD dst (r.ren ρ)) (s'.app (effO ρ js dst r os')) from fun a w hr K Qx hK => hl a w hr K Qx fun a' w' h' => hK a' w' (hs a' w' h')
  refine Sub.drop ?_ ?_ ?_
  · cases dst <;> rfl
  · intro i p hp;have hat := at_get hp;have hlt : i < s'.n := at_lt (s := s'.app (effO ρ js dst r os')) hp;refine at_of (by cases dst <;> exact hlt) ?_;simp only [PState.app, effO] at hat
    cases dst with
    | none => simpa [dstL, PState.putD, PState.callO, junks_sl] using hat
    | some d => simpa [dstL, PState.putD, PState.put, PState.callO, junks_sl] using hat
  · intro id o hlo;have e1 : (s'.app (effO ρ js dst r os')).objs = os'.foldr (fun x l => putO (rn ρ x.1) (x.2.ren ρ) l) s'.objs := by
      simp only [PState.app, effO, List.foldr_map]
    have e2 : ((s'.callO ρ js os os').putD dst (r.ren ρ)).objs = os'.foldr (fun x l => putO (rn ρ x.1) (x.2.ren ρ) l) (os.foldr (fun x l => delO (rn ρ x.1) l) s'.objs) := by cases dst <;> rfl
    rw [e1] at hlo;rw [e2];have hF : ∀ (l : List (Nat × Ob)) (A B : List (Nat × Ob)), (∀ j, (∀ y ∈ l, rn ρ y.1 ≠ j) → look A j = look B j) → ∀ j, look (l.foldr (fun x l => putO (rn ρ x.1) (x.2.ren ρ) l) A) j = look (l.foldr (fun x l => putO (rn ρ x.1) (x.2.ren ρ) l) B) j := by
      intro l
      induction l with
      | nil => intro A B h j; exact h j (by simp)
      | cons y r ih =>
        intro A B h j;rw [List.foldr_cons, List.foldr_cons, look_putO, look_putO]
        by_cases hj : j = rn ρ y.1
        · rw [if_pos hj, if_pos hj]
        · rw [if_neg hj, if_neg hj];have gen : ∀ (q : List (Nat × Ob)) (A B : List (Nat × Ob)) (j : Nat), (∀ y ∈ q, rn ρ y.1 ≠ j) → look (q.foldr (fun x l => putO (rn ρ x.1) (x.2.ren ρ) l) A) j = look A j := by
            intro q A B j hq
            induction q with
            | nil => rfl
            | cons z t iht =>
              rw [List.foldr_cons, look_putO, if_neg (fun e => hq z (by simp) e.symm)];exact iht fun y hy => hq y (by simp [hy])
          by_cases hr : ∀ z ∈ r, rn ρ z.1 ≠ j
          · rw [gen r A B j hr, gen r B A j hr];exact h j fun z hz => by
              rcases List.mem_cons.1 hz with rfl | hz
              · exact fun e => hj e.symm
              · exact hr z hz
          · obtain ⟨z, hz, hzj⟩ : ∃ z ∈ r, rn ρ z.1 = j := by
              refine Classical.byContradiction fun hc => hr fun z hz e => hc ⟨z, hz, e⟩
            have hin : ∀ (q : List (Nat × Ob)) (A B : List (Nat × Ob)), z ∈ q → look (q.foldr (fun x l => putO (rn ρ x.1) (x.2.ren ρ) l) A) j = look (q.foldr (fun x l => putO (rn ρ x.1) (x.2.ren ρ) l) B) j := by
              intro q A B hq
              induction q with
              | nil => cases hq
              | cons y t iht =>
                rw [List.foldr_cons, List.foldr_cons, look_putO, look_putO]
                by_cases hy : j = rn ρ y.1
                · rw [if_pos hy, if_pos hy]
                · rw [if_neg hy, if_neg hy];refine iht ?_;rcases List.mem_cons.1 hq with rfl | h
                  · exact absurd hzj.symm hy
                  · exact h
            exact hin r A B hz
    rw [hF os' _ s'.objs (fun j hj => ?_) id]
    · exact hlo
    · have hdel : ∀ (q : List (Nat × Ob)), (∀ y ∈ q, rn ρ y.1 ≠ j) → look (q.foldr (fun x l => delO (rn ρ x.1) l) s'.objs) j = look s'.objs j := by
        intro q hq
        induction q with
        | nil => rfl
        | cons z t iht =>
          rw [List.foldr_cons, look_delO, if_neg (fun e => hq z (by simp) e.symm)];exact iht fun y hy => hq y (by simp [hy])
      refine hdel os fun y hy e => ?_
      rw [List.all_eq_true] at c3;have := inL_iff.1 (c3 y.1 (List.mem_map.2 ⟨y, hy, rfl⟩));rw [← hks] at this;obtain ⟨z, hz, hze⟩ := List.mem_map.1 this;exact hj z hz (by rw [hze]; exact e)
end
section
variable {ctx : Ctx} {s : PState}
theorem Sub.nilCell {id j : Nat} {T : TypeId} {cs : List PV} (hl : look s.objs id = some (.cells T cs)) (hj : cs[j]? = some (.d (.v (.slice none 0 0)))) : Sub ctx s { s with objs := putO id (.cells T (cs.set j (.d (.sl [])))) s.objs } := by
  rintro a w ⟨g, h1⟩;refine ⟨g, ?_⟩;have hF : ∀ b, Free ctx g s.objs b → Free ctx g (putO id (.cells T (cs.set j (.d (.sl [])))) s.objs) b := fun b hb => ⟨hb.1, fun i o n ho hgi => by
    rw [look_putO] at ho
    by_cases ei : i = id
    · subst ei; exact hb.2 i _ n hl hgi
    · rw [if_neg ei] at ho; exact hb.2 i o n ho hgi⟩
  have hst : Stays w w (Free ctx g s.objs) := ⟨Nat.le_refl _, fun _ _ _ => rfl⟩
  refine ⟨h1.defers, h1.size, fun i p hp => (h1.slots i p hp).keep hst (fun b hb _ => hF b hb) (fun _ _ => rfl), fun i o ho => ?_, fun i i2 o o2 b n m ho ho2 hgi hgi2 => ?_, fun i o b n ho hgi => ?_, h1.os, h1.tape, h1.output, h1.grows, h1.keep⟩
  · rw [look_putO] at ho
    by_cases ei : i = id
    · subst ei;rw [if_pos rfl] at ho
      cases ho
      cases h1.objs i _ hl with
      | cells _ _ blk n us hgi hh hlen hr h1' =>
        refine .cells T _ blk n us hgi hh (by simpa using hlen) (fun q p u hp hu => ?_) h1';rw [List.getElem?_set] at hp
        split at hp
        · rename_i e
          subst e
          split at hp
          · simp only [Option.some.injEq] at hp;subst hp;have := (hr j _ u hj hu).of_v;subst this;exact .d (.nil none 0 (Nat.zero_le _) (fun _ => rfl))
          · cases hp
        · exact (hr q p u hp hu).keep hst (fun b hb _ => hF b hb) (fun _ _ => rfl)
    · rw [if_neg ei] at ho;exact (h1.objs i o ho).keep hst (fun b hb _ => hF b hb) (fun _ _ _ => rfl) rfl (fun _ _ => rfl)
  · have lk : ∀ {i : Nat} {o : Ob}, look (putO id (.cells T (cs.set j (.d (.sl [])))) s.objs) i = some o → ∃ o', look s.objs i = some o' := fun {i o} h => by
      rw [look_putO] at h
      by_cases ei : i = id
      · subst ei; exact ⟨_, hl⟩
      · rw [if_neg ei] at h; exact ⟨_, h⟩
    obtain ⟨_, h5⟩ := lk ho;obtain ⟨_, h6⟩ := lk ho2;exact h1.inj i i2 _ _ b n m h5 h6 hgi hgi2
  · rw [look_putO] at ho
    by_cases ei : i = id
    · subst ei; exact h1.own i _ b n hl hgi
    · rw [if_neg ei] at ho; exact h1.own i o b n ho hgi
end
end Go.Ep

namespace Go.Ep
open Go.RowKit
section
variable {P : Program} {ctx : Ctx} {Q : PQ} {s : PState}
variable {dst : Option Tmp} {ty : TypeId} {pos : String} {after : Array Edge} {gd : Option (Nat × Bool)}
theorem LR.strIdx {x i : Operand} {t : TypeId} {b : ByteArray} {k : IntKind} {n y : Int} (hu : P.underlying t = some .string) (hx : s.ev x = some (.d (.v (.string b)))) (hi : s.ev i = some (.d (.v (.int k n)))) (hy : 0 ≤ n ∧ (bytesL b)[n.toNat]? = some y) :
    Local P ctx ⟨dst, .index t x i, ty, pos, after, gd⟩ s (s.putD dst (.d (.v (.int .u8 y)))) :=
  local_pure (o := ⟨dst, .index t x i, ty, pos, after, gd⟩) fun a w g hg => by
    obtain ⟨h0, h1⟩ := hy;have hlt : n.toNat < b.size := by
      have := (List.getElem?_eq_some_iff.1 h1).1;simpa [bytesL] using this
    have hb : 0 ≤ n ∧ n < b.size := ⟨h0, by omega⟩
    have hv : ((b[n.toNat]'hlt).toNat : Int) = y := by
      have := (List.getElem?_eq_some_iff.1 h1).2;simp only [bytesL, List.getElem_map, Array.getElem_toList] at this;exact this
    refine ⟨.int .u8 y, ?_, .d (.v _ rfl)⟩;simp only [execOp, ev_v hg hx, ev_v hg hi, Sem.run_bind, run_index_string w t b k n hu, dif_pos hb, hv, Result.andThen_ok, Sem.run_pure]
end
end Go.Ep
namespace Go.Ep
open Go.RowKit
section
variable {P : Program} {ctx : Ctx} {s : PState}
variable {dst : Option Tmp} {ty : TypeId} {pos : String} {after : Array Edge} {gd : Option (Nat × Bool)}
end
end Go.Ep

namespace Go.Ep
open Go Go.RowKit
section
variable {P : Program} {ctx : Ctx} {Q : PQ} {s : PState}
variable {dst : Option Tmp} {ty : TypeId} {pos : String} {after : Array Edge} {gd : Option (Nat × Bool)}

theorem LR.pieceRow {x lo : Operand} {id n k : Nat} {t e : TypeId} {kx : IntKind} {i : Int} {l : List (List DV)} (hu : P.underlying t = some (.slice e)) (hs : ∀ w, (sizeOf e).run P w = .ok k w)
    (hx : s.ev x = some (.row id n)) (hl : look s.objs id = some (.row e k l)) (hn : n ≤ l.length) (hlo : s.ev lo = some (.d (.v (.int kx i)))) (hi : (0 : Int) ≤ i ∧ i ≤ (n : Int)) :
    Local P ctx ⟨dst, .slice t x (some lo) none none, ty, pos, after, gd⟩ s (s.putD dst (.pc id i.toNat (n - i.toNat) k)) :=
  local_pure (o := ⟨dst, .slice t x (some lo) none none, ty, pos, after, gd⟩) fun a w g hg => by
    have h := hg.ev hx;have hob := hg.objs id _ hl;have hit : i = (i.toNat : Int) := by omega
    have hle : i.toNat ≤ n := by omega
    generalize hv : a.eval x = v at h
    cases h with
    | row _ _ blk cap hgi =>
      cases hob with
      | rowNil _ _ hgn => rw [hgn] at hgi; cases hgi
      | row _ _ _ blk' cap' cur h' hh hlc hcap hcs hkk hr =>
        rw [hgi] at h'
        cases h'
        refine ⟨.slice (if cap = i.toNat then some ⟨blk, 0, none⟩ else some ⟨blk, 0 + i.toNat * k, none⟩) (n - i.toNat) (cap - i.toNat), ?_, ?_⟩
        · by_cases hc : cap = i.toNat <;>
          simp [execOp, hv, ev_int hg hlo, Instr.sliceAt, Instr.slice, Instr.sliceBounds, run_underlying hu, hs, run_sliceBound' (P := P) hit hle, Addr.add_lit, Result.andThen, hc]
        · by_cases h0 : n - i.toNat = 0
          · rw [h0]; exact .pc0 _ _ _ _ _
          · rw [if_neg (by omega), Nat.zero_add];exact .pc id _ _ k blk cap hgi (by omega)
    | rowNil _ hgn =>
      have h0 : i.toNat = 0 := by omega
      refine ⟨.slice none 0 0, ?_, ?_⟩
      · rw [h0] at hit;simp [execOp, hv, ev_int hg hlo, Instr.sliceAt, Instr.slice, Instr.sliceBounds, run_underlying hu, hs, run_sliceBound' (P := P) hit (show 0 ≤ 0 from Nat.le_refl _), Result.andThen]
      · rw [Nat.zero_sub]; exact .pc0 _ _ _ _ _

theorem LR.lenPc {x : Operand} {id i n k : Nat} {t e : TypeId} (hu : P.underlying t = some (.slice e)) (hx : s.ev x = some (.pc id i n k)) :
    Local P ctx ⟨dst, .call ⟨.builtin .len, #[x], #[t]⟩, ty, pos, after, gd⟩ s (s.putD dst (.d (.v (.int .i64 n)))) :=
  local_pure (o := ⟨dst, .call ⟨.builtin .len, #[x], #[t]⟩, ty, pos, after, gd⟩) fun a w g hg => by
    have h := hg.ev hx;have hE : P.underlying t = some (.slice (P.elem t)) := by simp [Program.elem, hu]
    refine ⟨.int .i64 n, ?_, .d (.v _ rfl)⟩
    generalize hv : a.eval x = v at h
    cases h <;> simp [execOp, resolve, invoke, builtin, hv, run_len_slice, hE, Result.andThen, goInt]

theorem LR.idxPc {x ix : Operand} {id i m : Nat} {ki : IntKind} {j : Int} {k : Nat} {t e : TypeId} (hu : P.underlying t = some (.slice e)) (hs : ∀ w, (sizeOf e).run P w = .ok k w)
    (hx : s.ev x = some (.pc id i m k)) (hix : s.ev ix = some (.d (.v (.int ki j)))) (hj : (0 : Int) ≤ j ∧ j < (m : Int)) :
    Local P ctx ⟨dst, .indexAddr t x ix, ty, pos, after, gd⟩ s (s.putD dst (.rp id (i + j.toNat) 0 k)) :=
  local_pure (o := ⟨dst, .indexAddr t x ix, ty, pos, after, gd⟩) fun a w g hg => by
    have h := hg.ev hx
    generalize hv : a.eval x = v at h
    cases h with
    | pc _ _ _ _ blk cap hgi hi =>
      refine ⟨.pointer (some ⟨blk, (i + j.toNat) * k + 0, none⟩), ?_, .rp id _ 0 k blk cap hgi⟩;have := run_indexAt (P := P) hu hs blk (i * k) m (cap - i) ki j j.toNat (by omega) (by omega) w;rw [show i * k + j.toNat * k = (i + j.toNat) * k + 0 by rw [Nat.add_mul, Nat.add_zero]] at this;simp [execOp, hv, ev_int hg hix, this, Result.andThen]
    | pc0 => omega

theorem LR.clearPc {x : Operand} {id i n k : Nat} {t e : TypeId} {l : List (List DV)} {z : Value} {zs : List Value} (hu : P.underlying t = some (.slice e)) (hx : s.ev x = some (.pc id i n k)) (hl : look s.objs id = some (.row e k l))
    (hz : ∀ w, (zeroValue e).run P w = .ok z w) (hzs : z.cells = zs.toArray) (h1 : (zs.all Value.oneCell') = true) (hk : zs.length = k) (hin : i + n ≤ l.length) (hd : dst = none) :
    Local P ctx ⟨dst, .call ⟨.builtin .clear, #[x], #[t]⟩, ty, pos, after, gd⟩ s (s.setO id (.row e k (l.take i ++ List.replicate n (zs.map zdv) ++ l.drop (i + n)))) := by
  subst hd;refine local_value (o := ⟨none, .call ⟨.builtin .clear, #[x], #[t]⟩, ty, pos, after, gd⟩) fun a w g hg => ?_
  have h := hg.ev hx;have hob := hg.objs id _ hl;have hE : P.underlying t = some (.slice e) := hu
  generalize hv : a.eval x = v at h
  have hnil : n = 0 → ∀ g', Rel ctx (s.setO id (.row e k (l.take i ++ List.replicate n (zs.map zdv) ++ l.drop (i + n)))) a w ∨ g' = g := by
    intro h0;subst h0;intro g'
    left
    simp only [List.replicate_zero, List.append_nil, Nat.add_zero, List.take_append_drop];refine ⟨g, ?_⟩;have hlk : ∀ j o, look (s.setO id (.row e k l)).objs j = some o ↔ look s.objs j = some o := by
      intro j o;simp only [PState.setO];rw [look_putO]
      by_cases hj : j = id
      · subst hj; rw [if_pos rfl, hl]
      · rw [if_neg hj]
    have hF : ∀ b, Free ctx g s.objs b → Free ctx g (s.setO id (.row e k l)).objs b := fun b ⟨h1, h2⟩ => ⟨h1, fun j o m hj => h2 j o m ((hlk j o).1 hj)⟩
    have hst : Stays w w (Free ctx g s.objs) := ⟨Nat.le_refl _, fun _ _ _ => rfl⟩
    exact ⟨hg.defers, hg.size, fun q p hp => (hg.slots q p hp).keep hst (fun b hb _ => hF b hb) (fun _ _ => rfl), fun j o hj => (hg.objs j o ((hlk j o).1 hj)).keep hst (fun b hb _ => hF b hb) (fun _ _ _ => rfl) rfl (fun _ _ => rfl),
      fun p q op oq b n m hp hq => hg.inj p q op oq b n m ((hlk p op).1 hp) ((hlk q oq).1 hq), fun j o b n hj => hg.own j o b n ((hlk j o).1 hj), hg.os, hg.tape, hg.output, hg.grows, hg.keep⟩
  cases h with
  | pc0 _ _ _ ao c =>
    rcases hnil rfl (fun _ => none) with hr | hr
    · refine ⟨.tuple #[], w, ?_, hr⟩
      cases ao <;> simp [execOp, resolve, invoke, builtin, hv, Builtin.clear_, run_underlying hE, Result.andThen]
    · rcases hnil rfl (fun _ => some (0, 0)) with hr2 | hr2
      · refine ⟨.tuple #[], w, ?_, hr2⟩
        cases ao <;> simp [execOp, resolve, invoke, builtin, hv, Builtin.clear_, run_underlying hE, Result.andThen]
      · have := congrFun (hr.trans hr2.symm) 0; cases this
  | pc _ _ _ _ blk cap hgi hi =>
    by_cases hn0 : n = 0
    · have hr : Rel ctx (s.setO id (.row e k (l.take i ++ List.replicate n (zs.map zdv) ++ l.drop (i + n)))) a w := by
        rcases hnil hn0 (fun _ => none) with hr | hr
        · exact hr
        · have := congrFun hr id; rw [hgi] at this; cases this
      subst hn0;refine ⟨.tuple #[], w, ?_, hr⟩;simp [execOp, resolve, invoke, builtin, hv, Builtin.clear_, run_underlying hE, Result.andThen]
    cases hob with
    | rowNil _ _ hgn => rw [hgn] at hgi; cases hgi
    | row _ _ _ blk' cap' cur h' hh hlc hcap hcs hkk hr =>
      rw [hgi] at h'
      cases h'
      have hlen : ((Builtin.zeroCells z.cells n).toList).length = n * k := by rw [zc_len, hzs]; simp [hk]
      have hroom : i * k + n * k ≤ cur.length := by
        rw [hcs, ← Nat.add_mul]; exact Nat.mul_le_mul_right k hi
      have hz1 : ∀ u ∈ (Builtin.zeroCells z.cells n).toList, u.oneCell' = true := by
        intro u hu;obtain ⟨j, hj⟩ := List.getElem?_of_mem hu;have hjl := (List.getElem?_eq_some_iff.1 hj).1;rw [hlen] at hjl;have hk0 : 0 < k := by
          rcases Nat.eq_zero_or_pos k with h | h
          · subst h; omega
          · exact h
        rw [hzs] at hj;simp [Builtin.zeroCells, hk, hjl] at hj;have ht : j % k < zs.length := by rw [hk]; exact Nat.mod_lt _ hk0
        rw [List.getElem?_eq_getElem ht] at hj;simp at hj;subst hj;simp at h1;exact h1 _ (List.getElem_mem ht)
      have hrun := run_storeCells_at P blk (i * k) e (Builtin.zeroCells z.cells n).toList 0 cur.toArray w hh (by simpa [hlen] using hroom) hz1
      let new : List Value := cur.take (i * k) ++ (Builtin.zeroCells z.cells n).toList ++ cur.drop (i * k + n * k)
      have hrun' : (storeCells ⟨blk, i * k, none⟩ (Builtin.zeroCells z.cells n).toList).run P w = .ok () (w.setRow blk new.toArray) := by
        simpa [hlen, new] using hrun
      refine ⟨.tuple #[], w.setRow blk new.toArray, ?_, g, ?_⟩
      · have hn' : ∃ n', n = n' + 1 := ⟨n - 1, by omega⟩
        obtain ⟨n', rfl⟩ := hn';simp [execOp, resolve, invoke, builtin, hv, Builtin.clear_, run_underlying hE, hz, hrun', Result.andThen]
      · have hown := hg.own id _ blk cap hl hgi;have hother : ∀ k, k < w.heap.size → k ≠ blk → (w.setRow blk new.toArray).heap[k]? = w.heap[k]? := fun k _ hne => setRow_other w blk k _ hne
        have hst : Stays w (w.setRow blk new.toArray) (Free ctx g s.objs) := ⟨by simp, fun b ⟨_, h2⟩ hlt => hother b hlt fun e => by subst e; exact h2 id _ cap hl hgi⟩
        refine hg.wrote hl hgi rfl rfl rfl (by simp) hother hown.2 ?_;have hll : (l.take i ++ List.replicate n (zs.map zdv) ++ l.drop (i + n)).length = l.length := by simp; omega
        have hget : ∀ t, new[t]? = if t < i * k then cur[t]? else if t < i * k + n * k then (Builtin.zeroCells z.cells n).toList[t - i * k]? else cur[t]? := by
          intro t;show (cur.take (i * k) ++ (Builtin.zeroCells z.cells n).toList ++ cur.drop (i * k + n * k))[t]? = _;rw [List.append_assoc, List.getElem?_append];have l1 : (cur.take (i * k)).length = i * k := by simp; omega
          rw [l1]
          by_cases h3 : t < i * k
          · rw [if_pos h3, if_pos h3]; simp [h3]
          · rw [if_neg h3, if_neg h3, List.getElem?_append, hlen]
            by_cases h4 : t - i * k < n * k
            · rw [if_pos h4, if_pos (by omega)]
            · rw [if_neg h4, if_neg (by omega), List.getElem?_drop]
              congr 1; omega
        have hlget : ∀ q, (l.take i ++ List.replicate n (zs.map zdv) ++ l.drop (i + n))[q]? = if q < i then l[q]? else if q < i + n then some (zs.map zdv) else l[q]? := by
          intro q;rw [List.append_assoc, List.getElem?_append];have l1 : (l.take i).length = i := by simp; omega
          rw [l1]
          by_cases h3 : q < i
          · rw [if_pos h3, if_pos h3]; simp [h3]
          · rw [if_neg h3, if_neg h3, List.getElem?_append];simp only [List.length_replicate]
            by_cases h4 : q - i < n
            · rw [if_pos h4, if_pos (by omega), List.getElem?_replicate, if_pos h4]
            · rw [if_neg h4, if_neg (by omega), List.getElem?_drop]
              congr 1; omega
        refine .row e k _ blk cap new hgi (heap_setRow_same hh) (by rw [hll]; exact hlc) hcap (by show (cur.take (i * k) ++ (Builtin.zeroCells z.cells n).toList ++ cur.drop (i * k + n * k)).length = _; rw [List.length_append, List.length_append, hlen, List.length_take, List.length_drop, Nat.min_eq_left (by omega), ← hcs]; omega) (fun q cs hq => ?_) (fun q cs t x hq hx => ?_)
        · rw [hlget] at hq
          split at hq
          · exact hkk q cs hq
          · split at hq
            · simp only [Option.some.injEq] at hq; subst hq; simpa using hk
            · exact hkk q cs hq
        · have hcsk : cs.length = k := by
            rw [hlget] at hq
            split at hq
            · exact hkk q cs hq
            · split at hq
              · simp only [Option.some.injEq] at hq; subst hq; simpa using hk
              · exact hkk q cs hq
          have htk : t < k := by rw [← hcsk]; exact (List.getElem?_eq_some_iff.1 hx).1
          rw [hlget] at hq;rw [hget]
          by_cases h3 : q < i
          · rw [if_pos h3] at hq;have : q * k + t < i * k := by
              have := Nat.mul_le_mul_right k (show q + 1 ≤ i by omega);rw [Nat.add_mul, Nat.one_mul] at this; omega
            rw [if_pos this];obtain ⟨u, h5, h6⟩ := hr q cs t x hq hx;exact ⟨u, h5, h6.keep hst (fun b hb _ => free_put hl b hb)⟩
          · rw [if_neg h3] at hq;have h3' : ¬ q * k + t < i * k := by
              have := Nat.mul_le_mul_right k (show i ≤ q by omega); omega
            rw [if_neg h3']
            by_cases h4 : q < i + n
            · rw [if_pos h4] at hq;have : q * k + t < i * k + n * k := by
                have := Nat.mul_le_mul_right k (show q + 1 ≤ i + n by omega);rw [Nat.add_mul, Nat.one_mul, Nat.add_mul] at this; omega
              rw [if_pos this];simp only [Option.some.injEq] at hq;subst hq;have htz : t < zs.length := by rw [hk]; exact htk
              rw [List.getElem?_map, List.getElem?_eq_getElem htz] at hx;simp only [Option.map_some, Option.some.injEq] at hx;subst hx;refine ⟨zs[t], ?_, zdv_rd _ _ _ (by simp at h1; exact h1 _ (List.getElem_mem htz))⟩;have e1 : q * k + t - i * k = (q - i) * k + t := by rw [Nat.sub_mul]; have := Nat.mul_le_mul_right k (show i ≤ q by omega); omega
              have hlt : (q - i) * k + t < n * k := by rw [← e1]; omega
              have e2 : ((q - i) * k + t) % k = t := by rw [Nat.mul_comm, Nat.mul_add_mod, Nat.mod_eq_of_lt htk]
              rw [e1, hzs];simp [Builtin.zeroCells, hlt, hk, e2];rw [List.getElem?_eq_getElem htz]; rfl
            · rw [if_neg h4] at hq;have : ¬ q * k + t < i * k + n * k := by
                have := Nat.mul_le_mul_right k (show i + n ≤ q by omega);rw [Nat.add_mul] at this; omega
              rw [if_neg this];obtain ⟨u, h5, h6⟩ := hr q cs t x hq hx;exact ⟨u, h5, h6.keep hst (fun b hb _ => free_put hl b hb)⟩

variable {α : Type} {enc : α → List DV} {L : List α}
theorem LR.pieceRowT {x lo : Operand} {id n k : Nat} {t e : TypeId} {kx : IntKind} {i : Int} (hu : P.underlying t = some (.slice e)) (hs : ∀ w, (sizeOf e).run P w = .ok k w)
    (hx : s.ev x = some (.row id n)) (hm : n = L.length) (hl : look s.objs id = some (.row e k (L.map enc))) (hlo : s.ev lo = some (.d (.v (.int kx i)))) (hi : (0 : Int) ≤ i ∧ i ≤ (L.length : Int)) :
    Local P ctx ⟨dst, .slice t x (some lo) none none, ty, pos, after, gd⟩ s (s.putD dst (.pc id i.toNat (L.length - i.toNat) k)) := by
  subst hm;exact LR.pieceRow hu hs hx hl (by simp) hlo hi
theorem LR.clearPcT {x : Operand} {id i n k : Nat} {t e : TypeId} {z : α} {zv : Value} {zs : List Value} (hu : P.underlying t = some (.slice e)) (hx : s.ev x = some (.pc id i n k)) (hl : look s.objs id = some (.row e k (L.map enc)))
    (hz : ∀ w, (zeroValue e).run P w = .ok zv w) (hzs : zv.cells = zs.toArray) (h1 : (zs.all Value.oneCell') = true) (hk : zs.length = k) (he : zs.map zdv = enc z) (hin : i + n ≤ L.length) (hd : dst = none) :
    Local P ctx ⟨dst, .call ⟨.builtin .clear, #[x], #[t]⟩, ty, pos, after, gd⟩ s (s.setO id (.row e k ((L.take i ++ List.replicate n z ++ L.drop (i + n)).map enc))) := by
  have := LR.clearPc (P := P) (ctx := ctx) (dst := dst) (ty := ty) (pos := pos) (after := after) (gd := gd) hu hx hl hz hzs h1 hk (by simpa using hin) hd;rw [he, ← List.map_take, ← List.map_drop, ← List.map_replicate, ← List.map_append, ← List.map_append] at this;exact this
end
end Go.Ep

namespace Go.Proofs
open Go.Ep
set_option maxHeartbeats 1000000
set_option maxRecDepth 100000
set_option linter.unusedVariables false
set_option linter.unusedSimpArgs false


theorem r13_Few_ok (l1 : List TEvent) (most2 : Int) (r0 : Bool) (h : (r13_Few l1 most2).wp (· = r0)) : PFun Tryz.prog 15 [.d (.sl (List.map TEvent.e l1)), .d (.v (.int .i64 most2))] (.d (.v (.bool r0))) := by
 refine fI (sl := [(0, _), (1, _)]) Tryz.func15 rfl Tryz.ntmps15 rfl rfl ?_;intro ctx hK;refine wQ ?_;refine wR ?_;refine wS (aS rfl) rfl ?_;refine wN ?_;refine wQ ?_;refine wQ ?_;refine wR ?_;refine wS (mV rfl) rfl ?_;refine wS (lM (enc := TEvent.e) (L := l1) Tryz.underlying22 rfl) rfl ?_;refine wS (mV rfl) rfl ?_;refine wS (LR.gtr rfl rfl) rfl ?_;refine wN ?_;refine wC rfl (fun hc3 => ?_) (fun hc3 => ?_)
 ·replace h := iT hc3 h;refine wQ ?_;refine wR ?_;refine wS (aS rfl) rfl ?_;refine wN ?_;refine wX ?_;replace h : _ = r0 := h;subst h;exact ⟨.inr rfl, _, .cons (.tmp rfl rfl) <| .nil, rfl⟩
 ·replace h := iF hc3 h;refine wK ?_;refine wQ ?_;refine wQ ?_;refine wR ?_;refine wS (aS rfl) rfl ?_;refine wN ?_;refine PWc.jnX (iBind h) (fun (_ : Unit) (_ : Unit) => ⟨32, [], []⟩) (fun h => ?_) ?_
  ·refine wB ?_;refine wM (fun (i21 : Int) (_ : Unit) => ⟨32, [(0, .d (.sl (List.map TEvent.e l1))), (5, .d (.v (.int .i64 i21)))], []⟩) () h (sO rfl (.c2 rfl rfl rfl rfl <| .nil) (.nil)) ?_;rintro N i21 _ h;refine wQ ?_;refine wQ ?_;refine wR ?_;refine wS (mV rfl) rfl ?_;refine wS (mV rfl) rfl ?_;refine wS (lM (enc := TEvent.e) (L := l1) Tryz.underlying22 rfl) rfl ?_;refine wS (LR.lss rfl rfl) rfl ?_;refine wN ?_;refine wC rfl (fun hc22 => ?_) (fun hc22 => ?_)
   ·replace h := iT hc22 h;refine wK ?_;refine wQ ?_;refine wB ?_;refine wQ ?_;refine wJ (iBind h) (fun (v23 : Bool) (_ : Unit) => ⟨32, [(0, .d (.sl (List.map TEvent.e l1))), (5, .d (.v (.int .i64 i21))), (31, .d (.v (.bool v23)))], []⟩) (fun h => ?_) ?_
    ·refine wR ?_;refine wS (mV rfl) rfl ?_;refine wS (mV rfl) rfl ?_;replace h := iIdx h;obtain ⟨x24, hy25, h⟩ := h;refine wS (iX (enc := TEvent.e) (L := l1) (y := x24) Tryz.underlying22 Tryz.sizeOf34 rfl rfl hy25 (fun _ => rfl)) rfl ?_;refine wS (fE Tryz.underlying34 rfl Tryz.sizeOf32 (by decide) rfl rfl) rfl ?_;refine wS (LR.loadEp Tryz.isAgg32 rfl rfl) rfl ?_;refine wS (lM (enc := TDot.e) (L := x24.kills) Tryz.underlying32 rfl) rfl ?_;refine wS (LR.gtr rfl rfl) rfl ?_;refine wS (mV rfl) rfl ?_;refine wL (d := 23) rfl (fun hg26 => ?_) (fun hg26 => ?_)
     ·replace h := iT hg26 h;refine wF rfl rfl rfl (by decide) ?_;refine wF rfl rfl rfl (by decide) ?_;refine wF rfl rfl rfl (by decide) ?_;refine wF rfl rfl rfl (by decide) ?_;refine wF rfl rfl rfl (by decide) ?_;refine wF rfl rfl rfl (by decide) ?_;refine wE (tl := [(0, _), (5, _), (23, _), (24, _), (25, _), (26, _), (27, _), (28, _), (29, _)]) (to := []) rfl (.c4 rfl rfl rfl rfl rfl rfl rfl rfl <| .c4 rfl rfl rfl rfl rfl rfl rfl rfl <| .cons rfl rfl <| .nil) (.nil) ?_;refine wF rfl rfl rfl (by decide) ?_;refine wS (pT rfl rfl) rfl ?_;refine wN ?_;exact ⟨true, (), h, sO rfl (.c2 rfl rfl rfl rfl <| .cons rfl rfl <| .nil) (.nil)⟩
     ·replace h := iF hg26 h;refine wT (mV rfl) rfl rfl rfl ?_;refine wT (mV rfl) rfl rfl rfl ?_;replace h := iIdx h;obtain ⟨x27, hy28, h⟩ := h;refine wT (iX (enc := TEvent.e) (L := l1) (y := x27) Tryz.underlying22 Tryz.sizeOf34 rfl rfl hy28 (fun _ => rfl)) rfl rfl rfl ?_;refine wT (fE Tryz.underlying34 rfl Tryz.sizeOf9 (by decide) rfl rfl) rfl rfl rfl ?_;refine wT (LR.loadEp Tryz.isAgg9 rfl rfl) rfl rfl rfl ?_;refine wT (LR.lenStr Tryz.underlying9 rfl) rfl rfl rfl ?_;refine wE (tl := [(0, _), (5, _), (23, _), (24, _), (25, _), (26, _), (27, _), (28, _), (29, _)]) (to := []) rfl (.c4 rfl rfl rfl rfl rfl rfl rfl rfl <| .c4 rfl rfl rfl rfl rfl rfl rfl rfl <| .cons rfl rfl <| .nil) (.nil) ?_;refine wT (LR.gtr rfl rfl) rfl rfl rfl ?_;refine wS (pF rfl rfl) rfl ?_;refine wN ?_;exact ⟨(decide (200 < (ByteArray.size x27.text : Int))), (), h, sO rfl (.c2 rfl rfl rfl rfl <| .cons rfl rfl <| .nil) (.nil)⟩
    ·rintro v23 _ h;refine wC rfl (fun hc29 => ?_) (fun hc29 => ?_)
     ·replace h := iT hc29 h;refine wQ ?_;refine wR ?_;refine wS (aS rfl) rfl ?_;refine wN ?_;refine wX ?_;replace h : _ = r0 := h;subst h;exact ⟨.inr rfl, _, .cons (.tmp rfl rfl) <| .nil, rfl⟩
     ·replace h := iF hc29 h;refine wK ?_;refine wR ?_;refine wS (mV rfl) rfl ?_;refine wS (LR.addW rfl rfl) rfl ?_;refine wS (aS rfl) rfl ?_;refine wN ?_;exact ⟨(IntKind.i64.wrap (i21 + 1)), (), h, sO rfl (.c2 rfl rfl rfl rfl <| .nil) (.nil)⟩
   ·replace h := iF hc22 h;refine wZ ?_;exact ⟨(), (), h, sO rfl (.nil) (.nil)⟩
  ·rintro _ _ h;refine wQ ?_;refine wR ?_;refine wS (aS rfl) rfl ?_;refine wN ?_;refine wX ?_;replace h : _ = r0 := h;subst h;exact ⟨.inr rfl, _, .cons (.tmp rfl rfl) <| .nil, rfl⟩

theorem r09_Few_ok (c1 : List TPart) (r0 : Bool) (h : (r09_Few c1).wp (· = r0)) : PFun Tryz.prog 50 [.d (.sl (List.map TPart.e c1))] (.d (.v (.bool r0))) := by
 refine fI (sl := [(0, _)]) Tryz.func50 rfl Tryz.ntmps50 rfl rfl ?_;intro ctx hK;refine wQ ?_;refine wR ?_;refine wS (aS rfl) rfl ?_;refine wN ?_;refine wQ ?_;refine wQ ?_;refine wR ?_;refine wS (mV rfl) rfl ?_;refine wS (lM (enc := TPart.e) (L := c1) Tryz.underlying42 rfl) rfl ?_;refine wS (LR.gtr rfl rfl) rfl ?_;refine wN ?_;refine wC rfl (fun hc2 => ?_) (fun hc2 => ?_)
 ·replace h := iT hc2 h;refine wQ ?_;refine wR ?_;refine wS (aS rfl) rfl ?_;refine wN ?_;refine wX ?_;replace h : _ = r0 := h;subst h;exact ⟨.inr rfl, _, .cons (.tmp rfl rfl) <| .nil, rfl⟩
 ·replace h := iF hc2 h;refine wK ?_;refine wQ ?_;refine wQ ?_;refine wR ?_;refine wS (aS rfl) rfl ?_;refine wN ?_;refine PWc.jnX (iBind h) (fun (_ : Unit) (_ : Unit) => ⟨20, [], []⟩) (fun h => ?_) ?_
  ·refine wB ?_;refine wM (fun (i12 : Int) (_ : Unit) => ⟨20, [(0, .d (.sl (List.map TPart.e c1))), (3, .d (.v (.int .i64 i12)))], []⟩) () h (sO rfl (.c2 rfl rfl rfl rfl <| .nil) (.nil)) ?_;rintro N i12 _ h;refine wQ ?_;refine wQ ?_;refine wR ?_;refine wS (mV rfl) rfl ?_;refine wS (mV rfl) rfl ?_;refine wS (lM (enc := TPart.e) (L := c1) Tryz.underlying42 rfl) rfl ?_;refine wS (LR.lss rfl rfl) rfl ?_;refine wN ?_;refine wC rfl (fun hc13 => ?_) (fun hc13 => ?_)
   ·replace h := iT hc13 h;refine wK ?_;refine wQ ?_;refine wB ?_;refine wQ ?_;refine wR ?_;refine wS (mV rfl) rfl ?_;refine wS (mV rfl) rfl ?_;replace h := iIdx h;obtain ⟨x14, hy15, h⟩ := h;refine wS (iX (enc := TPart.e) (L := c1) (y := x14) Tryz.underlying42 Tryz.sizeOf80 rfl rfl hy15 (fun _ => rfl)) rfl ?_;refine wS (fE Tryz.underlying80 rfl Tryz.sizeOf78 (by decide) rfl rfl) rfl ?_;refine wS (LR.loadEp Tryz.isAgg78 rfl rfl) rfl ?_;refine wS (lM (enc := TRun.e) (L := x14.runs) Tryz.underlying78 rfl) rfl ?_;refine wS (LR.gtr rfl rfl) rfl ?_;refine wN ?_;refine wC rfl (fun hc16 => ?_) (fun hc16 => ?_)
    ·replace h := iT hc16 h;refine wQ ?_;refine wR ?_;refine wS (aS rfl) rfl ?_;refine wN ?_;refine wX ?_;replace h : _ = r0 := h;subst h;exact ⟨.inr rfl, _, .cons (.tmp rfl rfl) <| .nil, rfl⟩
    ·replace h := iF hc16 h;refine wK ?_;refine wR ?_;refine wS (mV rfl) rfl ?_;refine wS (LR.addW rfl rfl) rfl ?_;refine wS (aS rfl) rfl ?_;refine wN ?_;exact ⟨(IntKind.i64.wrap (i12 + 1)), (), h, sO rfl (.c2 rfl rfl rfl rfl <| .nil) (.nil)⟩
   ·replace h := iF hc13 h;refine wZ ?_;exact ⟨(), (), h, sO rfl (.nil) (.nil)⟩
  ·rintro _ _ h;refine wQ ?_;refine wR ?_;refine wS (aS rfl) rfl ?_;refine wN ?_;refine wX ?_;replace h : _ = r0 := h;subst h;exact ⟨.inr rfl, _, .cons (.tmp rfl rfl) <| .nil, rfl⟩

theorem r20_Few_ok (d1 : TDelta) (r0 : Bool) (h : (r20_Few d1).wp (· = r0)) : PFun Tryz.prog 37 [.agg (List.map .d (TDelta.e d1))] (.d (.v (.bool r0))) := by
 refine fI (sl := [(0, _)]) Tryz.func37 rfl Tryz.ntmps37 rfl rfl ?_;intro ctx hK;refine wQ ?_;refine wR ?_;refine wS (LR.box rfl rfl rfl rfl) rfl ?_;refine wS (aS rfl) rfl ?_;refine wN ?_;refine wQ ?_;refine wJ (iBind h) (fun (v2 : Bool) (_ : Unit) => ⟨16, [(2, .d (.v (.bool v2)))], []⟩) (fun h => ?_) ?_
 ·refine wR ?_;refine wS (fR Tryz.underlying49 rfl Tryz.sizeOf42 (by decide) rfl rfl) rfl ?_;refine wS (lD Tryz.isAgg42 rfl rfl rfl) rfl ?_;replace h := iDet h;obtain ⟨v3, hy4, h⟩ := h;refine wS (cN (r09_Few_ok d1.from_ v3 hy4) rfl Tryz.call50 rfl rfl rfl rfl) rfl ?_;refine wS (mV rfl) rfl ?_;refine wL (d := 6) rfl (fun hg5 => ?_) (fun hg5 => ?_)
  ·replace h := iT hg5 h;refine wT (fR Tryz.underlying49 rfl Tryz.sizeOf42 (by decide) rfl rfl) rfl rfl rfl ?_;refine wT (lD Tryz.isAgg42 rfl rfl rfl) rfl rfl rfl ?_;replace h := iDet h;obtain ⟨v6, hy7, h⟩ := h;refine wT (cN (r09_Few_ok d1.to_ v6 hy7) rfl Tryz.call50 rfl rfl rfl rfl) rfl rfl rfl ?_;refine wS (pT rfl rfl) rfl ?_;refine wS (mV rfl) rfl ?_;refine wL (d := 11) rfl (fun hg8 => ?_) (fun hg8 => ?_)
   ·replace h := iT hg8 h;refine wT (fR Tryz.underlying49 rfl Tryz.sizeOf22 (by decide) rfl rfl) rfl rfl rfl ?_;refine wT (lD Tryz.isAgg22 rfl rfl rfl) rfl rfl rfl ?_;replace h := iDet h;obtain ⟨v9, hy10, h⟩ := h;refine wT (cN (r13_Few_ok d1.events 30 v9 hy10) rfl Tryz.call15 rfl rfl rfl rfl) rfl rfl rfl ?_;refine wS (pT rfl rfl) rfl ?_;refine wS (aS rfl) rfl ?_;refine wN ?_;exact ⟨v9, (), h, sO rfl (.cons rfl rfl <| .nil) (.nil)⟩
   ·replace h := iF hg8 h;refine wF rfl rfl rfl (by decide) ?_;refine wF rfl rfl rfl (by decide) ?_;refine wF rfl rfl rfl (by decide) ?_;refine wS (pF rfl rfl) rfl ?_;refine wS (aS rfl) rfl ?_;refine wN ?_;exact ⟨false, (), h, sO rfl (.cons rfl rfl <| .nil) (.nil)⟩
  ·replace h := iF hg5 h;refine wF rfl rfl rfl (by decide) ?_;refine wF rfl rfl rfl (by decide) ?_;refine wF rfl rfl rfl (by decide) ?_;refine wS (pF rfl rfl) rfl ?_;refine wS (mV rfl) rfl ?_;refine wF rfl rfl rfl (by decide) ?_;refine wF rfl rfl rfl (by decide) ?_;refine wF rfl rfl rfl (by decide) ?_;refine wS (pF rfl rfl) rfl ?_;refine wS (aS rfl) rfl ?_;refine wN ?_;exact ⟨false, (), h, sO rfl (.cons rfl rfl <| .nil) (.nil)⟩
 ·rintro v2 _ h;refine wX ?_;replace h : _ = r0 := h;subst h;exact ⟨.inr rfl, _, .cons (.tmp rfl rfl) <| .nil, rfl⟩

theorem r27_Few_ok (m1 : TMsg) (r0 : Bool) (h : (r27_Few m1).wp (· = r0)) : PFun Tryz.prog 29 [.agg (List.map .d (TMsg.e m1))] (.d (.v (.bool r0))) := by
 refine fI (sl := [(0, _)]) Tryz.func29 rfl Tryz.ntmps29 rfl rfl ?_;intro ctx hK;refine wQ ?_;refine wR ?_;refine wS (LR.box rfl rfl rfl rfl) rfl ?_;refine wS (aS rfl) rfl ?_;refine wN ?_;refine wQ ?_;refine wJ (iBind h) (fun (v2 : Bool) (_ : Unit) => ⟨16, [(2, .d (.v (.bool v2)))], []⟩) (fun h => ?_) ?_
 ·refine wR ?_;refine wS (fR Tryz.underlying51 rfl Tryz.sizeOf42 (by decide) rfl rfl) rfl ?_;refine wS (lD Tryz.isAgg42 rfl rfl rfl) rfl ?_;replace h := iDet h;obtain ⟨v3, hy4, h⟩ := h;refine wS (cN (r09_Few_ok m1.have_ v3 hy4) rfl Tryz.call50 rfl rfl rfl rfl) rfl ?_;refine wS (mV rfl) rfl ?_;refine wL (d := 6) rfl (fun hg5 => ?_) (fun hg5 => ?_)
  ·replace h := iT hg5 h;refine wT (fR Tryz.underlying51 rfl Tryz.sizeOf42 (by decide) rfl rfl) rfl rfl rfl ?_;refine wT (lD Tryz.isAgg42 rfl rfl rfl) rfl rfl rfl ?_;replace h := iDet h;obtain ⟨v6, hy7, h⟩ := h;refine wT (cN (r09_Few_ok m1.front v6 hy7) rfl Tryz.call50 rfl rfl rfl rfl) rfl rfl rfl ?_;refine wS (pT rfl rfl) rfl ?_;refine wS (mV rfl) rfl ?_;refine wL (d := 11) rfl (fun hg8 => ?_) (fun hg8 => ?_)
   ·replace h := iT hg8 h;refine wT (fR Tryz.underlying51 rfl Tryz.sizeOf49 (by decide) rfl rfl) rfl rfl rfl ?_;refine wT (lA (ps := [_, _, _]) Tryz.isAgg49 Tryz.sizeOf49 rfl rfl rfl rfl) rfl rfl rfl ?_;replace h := iDet h;obtain ⟨v9, hy10, h⟩ := h;refine wT (cN (r20_Few_ok m1.delta v9 hy10) rfl Tryz.call37 rfl rfl rfl rfl) rfl rfl rfl ?_;refine wS (pT rfl rfl) rfl ?_;refine wS (aS rfl) rfl ?_;refine wN ?_;exact ⟨v9, (), h, sO rfl (.cons rfl rfl <| .nil) (.nil)⟩
   ·replace h := iF hg8 h;refine wF rfl rfl rfl (by decide) ?_;refine wF rfl rfl rfl (by decide) ?_;refine wF rfl rfl rfl (by decide) ?_;refine wS (pF rfl rfl) rfl ?_;refine wS (aS rfl) rfl ?_;refine wN ?_;exact ⟨false, (), h, sO rfl (.cons rfl rfl <| .nil) (.nil)⟩
  ·replace h := iF hg5 h;refine wF rfl rfl rfl (by decide) ?_;refine wF rfl rfl rfl (by decide) ?_;refine wF rfl rfl rfl (by decide) ?_;refine wS (pF rfl rfl) rfl ?_;refine wS (mV rfl) rfl ?_;refine wF rfl rfl rfl (by decide) ?_;refine wF rfl rfl rfl (by decide) ?_;refine wF rfl rfl rfl (by decide) ?_;refine wS (pF rfl rfl) rfl ?_;refine wS (aS rfl) rfl ?_;refine wN ?_;exact ⟨false, (), h, sO rfl (.cons rfl rfl <| .nil) (.nil)⟩
 ·rintro v2 _ h;refine wX ?_;replace h : _ = r0 := h;subst h;exact ⟨.inr rfl, _, .cons (.tmp rfl rfl) <| .nil, rfl⟩

theorem dot_Good_ok (d1 : TDot) (r0 : Bool) (h : (dot_Good d1).wp (· = r0)) : PFun Tryz.prog 163 [.agg (List.map .d (TDot.e d1))] (.d (.v (.bool r0))) := by
 refine fI (sl := [(0, _)]) Tryz.func163 rfl Tryz.ntmps163 rfl rfl ?_;intro ctx hK;refine wQ ?_;refine wR ?_;refine wS (LR.box rfl rfl rfl rfl) rfl ?_;refine wS (aS rfl) rfl ?_;refine wN ?_;refine wQ ?_;refine wJ (iBind h) (fun (v2 : Bool) (_ : Unit) => ⟨16, [(2, .d (.v (.bool v2)))], []⟩) (fun h => ?_) ?_
 ·refine wR ?_;refine wS (fR Tryz.underlying31 rfl Tryz.sizeOf28 (by decide) rfl rfl) rfl ?_;refine wS (lD Tryz.isAgg28 rfl rfl rfl) rfl ?_;refine wS (LR.gtr rfl rfl) rfl ?_;refine wS (mV rfl) rfl ?_;refine wL (d := 6) rfl (fun hg3 => ?_) (fun hg3 => ?_)
  ·replace h := iT hg3 h;refine wT (fR Tryz.underlying31 rfl Tryz.sizeOf29 (by decide) rfl rfl) rfl rfl rfl ?_;refine wT (lD Tryz.isAgg29 rfl rfl rfl) rfl rfl rfl ?_;refine wT (LR.gtr rfl rfl) rfl rfl rfl ?_;refine wS (pT rfl rfl) rfl ?_;refine wS (mV rfl) rfl ?_;refine wL (d := 11) rfl (fun hg4 => ?_) (fun hg4 => ?_)
   ·replace h := iT hg4 h;refine wT (fR Tryz.underlying31 rfl Tryz.sizeOf29 (by decide) rfl rfl) rfl rfl rfl ?_;refine wT (lD Tryz.isAgg29 rfl rfl rfl) rfl rfl rfl ?_;refine wT (LR.leq rfl rfl) rfl rfl rfl ?_;refine wS (pT rfl rfl) rfl ?_;refine wS (aS rfl) rfl ?_;refine wN ?_;exact ⟨(decide (d1.n ≤ 281474976710655)), (), h, sO rfl (.cons rfl rfl <| .nil) (.nil)⟩
   ·replace h := iF hg4 h;refine wF rfl rfl rfl (by decide) ?_;refine wF rfl rfl rfl (by decide) ?_;refine wF rfl rfl rfl (by decide) ?_;refine wS (pF rfl rfl) rfl ?_;refine wS (aS rfl) rfl ?_;refine wN ?_;exact ⟨false, (), h, sO rfl (.cons rfl rfl <| .nil) (.nil)⟩
  ·replace h := iF hg3 h;refine wF rfl rfl rfl (by decide) ?_;refine wF rfl rfl rfl (by decide) ?_;refine wF rfl rfl rfl (by decide) ?_;refine wS (pF rfl rfl) rfl ?_;refine wS (mV rfl) rfl ?_;refine wF rfl rfl rfl (by decide) ?_;refine wF rfl rfl rfl (by decide) ?_;refine wF rfl rfl rfl (by decide) ?_;refine wS (pF rfl rfl) rfl ?_;refine wS (aS rfl) rfl ?_;refine wN ?_;exact ⟨false, (), h, sO rfl (.cons rfl rfl <| .nil) (.nil)⟩
 ·rintro v2 _ h;refine wX ?_;replace h : _ = r0 := h;subst h;exact ⟨.inr rfl, _, .cons (.tmp rfl rfl) <| .nil, rfl⟩

theorem shift_Split_ok (v1 : Int) (r0 : Int × Int) (h : (shift_Split v1).wp (· = r0)) : PFun Tryz.prog 206 [.d (.v (.int .u64 v1))] (.tup [.d (.v (.int .u16 r0.1)), .d (.v (.int .u64 r0.2))]) := by
 refine fI (sl := [(0, _)]) Tryz.func206 rfl Tryz.ntmps206 rfl rfl ?_;intro ctx hK;refine wQ ?_;refine wR ?_;refine wS (aS rfl) rfl ?_;refine wS (aS rfl) rfl ?_;refine wN ?_;refine wQ ?_;refine wR ?_;refine wS (mV rfl) rfl ?_;refine wS (LR.shr rfl rfl (by decide) rfl) rfl ?_;refine wS (LR.convInt Tryz.underlying28 (by rw [Tryz.underlying29]; rfl) rfl rfl) rfl ?_;refine wS (mV rfl) rfl ?_;refine wS (LR.and rfl rfl) rfl ?_;refine wS (aS rfl) rfl ?_;refine wS (aS rfl) rfl ?_;refine wN ?_;refine wX ?_;replace h : _ = r0 := h;subst h;exact ⟨.inr rfl, _, .cons (.tmp rfl rfl) <| .cons (.tmp rfl rfl) <| .nil, rfl⟩
end Go.Proofs

namespace Go.Proofs
open Go.Ep
set_option maxHeartbeats 1000000
set_option maxRecDepth 100000
set_option linter.unusedVariables false
set_option linter.unusedSimpArgs false


theorem dot_Unpack_ok (v1 : Int) (r0 : TDot × Bool) (h : (dot_Unpack v1).wp (· = r0)) : PFun Tryz.prog 162 [.d (.v (.int .u64 v1))] (.tup [.agg (List.map .d (TDot.e r0.1)), .d (.v (.bool r0.2))]) := by
 refine fI (sl := [(0, _)]) Tryz.func162 rfl Tryz.ntmps162 rfl rfl ?_;intro ctx hK;refine wQ ?_;refine wR ?_;refine wS (LR.allocZ (cs := [_, _]) Tryz.zeroValue31 rfl rfl rfl rfl) rfl ?_;refine wS (aS rfl) rfl ?_;refine wN ?_;refine wQ ?_;refine wR ?_;refine wS (mV rfl) rfl ?_;replace h := iDet h;obtain ⟨v2, hy3, h⟩ := h;refine wS (cN (shift_Split_ok v1 v2 hy3) rfl Tryz.call206 rfl rfl rfl rfl) rfl ?_;refine wS (mV rfl) rfl ?_;refine wS (LR.extract rfl rfl) rfl ?_;refine wS (LR.extract rfl rfl) rfl ?_;refine wS (aS rfl) rfl ?_;refine wS (aS rfl) rfl ?_;refine wN ?_;refine wQ ?_;refine wR ?_;refine wS (mV rfl) rfl ?_;refine wS (mV rfl) rfl ?_;refine wS (LR.build (ns := [_, _]) build31 rfl rfl rfl) rfl ?_;refine wS (LR.allocZ (cs := [_, _]) Tryz.zeroValue31 rfl rfl rfl rfl) rfl ?_;refine wS (sB (ns := [_, _]) Tryz.sizeOf31 rfl rfl rfl rfl rfl rfl rfl) rfl ?_;refine wN ?_;refine wQ ?_;refine wQ ?_;refine wR ?_;refine wS (lA (ps := [_, _]) Tryz.isAgg31 Tryz.sizeOf31 rfl rfl rfl rfl) rfl ?_;replace h := iDet h;obtain ⟨v4, hy5, h⟩ := h;refine wS (cN (dot_Good_ok (⟨v2.1, v2.2⟩ : TDot) v4 hy5) rfl Tryz.call163 rfl rfl rfl rfl) rfl ?_;refine wS (LR.not rfl) rfl ?_;refine wN ?_;refine wC rfl (fun hc6 => ?_) (fun hc6 => ?_)
 ·replace h := iT hc6 h;refine wQ ?_;refine wR ?_;refine wS (LR.build (ns := [_, _]) build31 rfl rfl rfl) rfl ?_;refine wS (sB (ns := [_, _]) Tryz.sizeOf31 rfl rfl rfl rfl rfl rfl rfl) rfl ?_;refine wS (aS rfl) rfl ?_;refine wN ?_;refine wX ?_;replace h : _ = r0 := h;subst h;exact ⟨.inr rfl, _, .cons (.agg Tryz.isAgg31 Tryz.sizeOf31 rfl rfl rfl rfl) <| .cons (.tmp rfl rfl) <| .nil, rfl⟩
 ·replace h := iF hc6 h;refine wK ?_;refine wQ ?_;refine wR ?_;refine wS (lA (ps := [_, _]) Tryz.isAgg31 Tryz.sizeOf31 rfl rfl rfl rfl) rfl ?_;refine wS (sB (ns := [_, _]) Tryz.sizeOf31 rfl rfl rfl rfl rfl rfl rfl) rfl ?_;refine wS (aS rfl) rfl ?_;refine wN ?_;refine wX ?_;replace h : _ = r0 := h;subst h;exact ⟨.inr rfl, _, .cons (.agg Tryz.isAgg31 Tryz.sizeOf31 rfl rfl rfl rfl) <| .cons (.tmp rfl rfl) <| .nil, rfl⟩

theorem field_Good_ok (f1 : Int) (r0 : Bool) (h : (field_Good f1).wp (· = r0)) : PFun Tryz.prog 164 [.d (.v (.int .u8 f1))] (.d (.v (.bool r0))) := by
 refine fI (sl := [(0, _)]) Tryz.func164 rfl Tryz.ntmps164 rfl rfl ?_;intro ctx hK;refine wQ ?_;refine wR ?_;refine wS (aS rfl) rfl ?_;refine wN ?_;refine wQ ?_;refine wJ (iBind h) (fun (v2 : Bool) (_ : Unit) => ⟨9, [(2, .d (.v (.bool v2)))], []⟩) (fun h => ?_) ?_
 ·refine wR ?_;refine wS (mV rfl) rfl ?_;refine wS (LR.geq rfl rfl) rfl ?_;refine wS (mV rfl) rfl ?_;refine wL (d := 5) rfl (fun hg3 => ?_) (fun hg3 => ?_)
  ·replace h := iT hg3 h;refine wT (mV rfl) rfl rfl rfl ?_;refine wT (LR.leq rfl rfl) rfl rfl rfl ?_;refine wS (pT rfl rfl) rfl ?_;refine wS (aS rfl) rfl ?_;refine wN ?_;exact ⟨(decide (f1 ≤ 5)), (), h, sO rfl (.cons rfl rfl <| .nil) (.nil)⟩
  ·replace h := iF hg3 h;refine wF rfl rfl rfl (by decide) ?_;refine wF rfl rfl rfl (by decide) ?_;refine wS (pF rfl rfl) rfl ?_;refine wS (aS rfl) rfl ?_;refine wN ?_;exact ⟨false, (), h, sO rfl (.cons rfl rfl <| .nil) (.nil)⟩
 ·rintro v2 _ h;refine wX ?_;replace h : _ = r0 := h;subst h;exact ⟨.inr rfl, _, .cons (.tmp rfl rfl) <| .nil, rfl⟩

theorem field_Text_ok (s1 : ByteArray) (r0 : Bool) (h : (field_Text s1).wp (· = r0)) : PFun Tryz.prog 165 [.d (.v (.string s1))] (.d (.v (.bool r0))) := by
 refine fI (sl := [(0, _)]) Tryz.func165 rfl Tryz.ntmps165 rfl rfl ?_;intro ctx hK;refine wQ ?_;refine wR ?_;refine wS (aS rfl) rfl ?_;refine wN ?_;refine wQ ?_;refine wQ ?_;refine wR ?_;refine wS (mV rfl) rfl ?_;refine wS (LR.lenStr Tryz.underlying9 rfl) rfl ?_;refine wS (LR.gtr rfl rfl) rfl ?_;refine wN ?_;refine wC rfl (fun hc2 => ?_) (fun hc2 => ?_)
 ·replace h := iT hc2 h;refine wQ ?_;refine wR ?_;refine wS (aS rfl) rfl ?_;refine wN ?_;refine wX ?_;replace h : _ = r0 := h;subst h;exact ⟨.inr rfl, _, .cons (.tmp rfl rfl) <| .nil, rfl⟩
 ·replace h := iF hc2 h;refine wK ?_;refine wQ ?_;refine wQ ?_;refine wR ?_;refine wS (mV rfl) rfl ?_;refine wS (LR.lenStr Tryz.underlying9 rfl) rfl ?_;refine wS (mV rfl) rfl ?_;refine wN ?_;refine PWc.jnX (iBind h) (fun (_ : Unit) (_ : Unit) => ⟨23, [], []⟩) (fun h => ?_) ?_
  ·refine wB ?_;refine wM (fun (v20 : Int) (_ : Unit) => ⟨23, [(0, .d (.v (.string s1))), (8, .d (.v (.int .i64 (ByteArray.size s1 : Int)))), (9, .d (.v (.int .i64 v20)))], []⟩) () h (sO rfl (.c2 rfl rfl rfl rfl <| .cons rfl rfl <| .nil) (.nil)) ?_;rintro N v20 _ h;refine wQ ?_;refine wR ?_;refine wS (LR.lss rfl rfl) rfl ?_;refine wN ?_;refine wQ ?_;refine wC rfl (fun hc21 => ?_) (fun hc21 => ?_)
   ·replace h := iT hc21 h;refine wK ?_;refine wQ ?_;refine wB ?_;refine wQ ?_;refine wR ?_;refine wS (mV rfl) rfl ?_;refine wS (aS rfl) rfl ?_;refine wN ?_;refine wQ ?_;refine wJ (iBind h) (fun (v22 : Bool) (_ : Unit) => ⟨23, [(0, .d (.v (.string s1))), (8, .d (.v (.int .i64 (ByteArray.size s1 : Int)))), (9, .d (.v (.int .i64 v20))), (21, .d (.v (.bool v22)))], []⟩) (fun h => ?_) ?_
    ·refine wR ?_;refine wS (mV rfl) rfl ?_;refine wS (mV rfl) rfl ?_;replace h := iIdx h;obtain ⟨b23, hy24, h⟩ := h;refine wS (LR.strIdx Tryz.underlying9 rfl rfl hy24) rfl ?_;refine wS (LR.lss rfl rfl) rfl ?_;refine wS (mV rfl) rfl ?_;refine wL (d := 16) rfl (fun hg25 => ?_) (fun hg25 => ?_)
     ·replace h := iT hg25 h;refine wF rfl rfl rfl (by decide) ?_;refine wF rfl rfl rfl (by decide) ?_;refine wF rfl rfl rfl (by decide) ?_;refine wF rfl rfl rfl (by decide) ?_;refine wS (pT rfl rfl) rfl ?_;refine wN ?_;exact ⟨true, (), h, sO rfl (.c4 rfl rfl rfl rfl rfl rfl rfl rfl <| .nil) (.nil)⟩
     ·replace h := iF hg25 h;refine wT (mV rfl) rfl rfl rfl ?_;refine wT (mV rfl) rfl rfl rfl ?_;replace h := iIdx h;obtain ⟨b26, hy27, h⟩ := h;refine wT (LR.strIdx Tryz.underlying9 rfl rfl hy27) rfl rfl rfl ?_;refine wT (LR.gtr rfl rfl) rfl rfl rfl ?_;refine wS (pF rfl rfl) rfl ?_;refine wN ?_;exact ⟨(decide (126 < b26)), (), h, sO rfl (.c4 rfl rfl rfl rfl rfl rfl rfl rfl <| .nil) (.nil)⟩
    ·rintro v22 _ h;refine wC rfl (fun hc28 => ?_) (fun hc28 => ?_)
     ·replace h := iT hc28 h;refine wQ ?_;refine wR ?_;refine wS (aS rfl) rfl ?_;refine wN ?_;refine wX ?_;replace h : _ = r0 := h;subst h;exact ⟨.inr rfl, _, .cons (.tmp rfl rfl) <| .nil, rfl⟩
     ·replace h := iF hc28 h;refine wK ?_;refine wR ?_;refine wS (LR.addW rfl rfl) rfl ?_;refine wS (mV rfl) rfl ?_;refine wN ?_;exact ⟨(IntKind.i64.wrap (v20 + 1)), (), h, sO rfl (.c2 rfl rfl rfl rfl <| .cons rfl rfl <| .nil) (.nil)⟩
   ·replace h := iF hc21 h;refine wZ ?_;exact ⟨(), (), h, sO rfl (.nil) (.nil)⟩
  ·rintro _ _ h;refine wQ ?_;refine wR ?_;refine wS (aS rfl) rfl ?_;refine wN ?_;refine wX ?_;replace h : _ = r0 := h;subst h;exact ⟨.inr rfl, _, .cons (.tmp rfl rfl) <| .nil, rfl⟩

theorem cmp_isNaN_uint16_ok (x1 : Int) (r0 : Bool) (h : (cmp_isNaN_uint16 x1).wp (· = r0)) : PFun Tryz.prog 219 [.d (.v (.int .u16 x1))] (.d (.v (.bool r0))) := by
 refine fI (sl := [(0, _)]) Tryz.func219 rfl Tryz.ntmps219 rfl rfl ?_;intro ctx hK;refine wQ ?_;refine wR ?_;refine wS (aS rfl) rfl ?_;refine wN ?_;refine wQ ?_;refine wR ?_;refine wS (mV rfl) rfl ?_;refine wS (mV rfl) rfl ?_;refine wS (nQ rfl rfl) rfl ?_;refine wS (aS rfl) rfl ?_;refine wN ?_;refine wX ?_;replace h : _ = r0 := h;subst h;exact ⟨.inr rfl, _, .cons (.tmp rfl rfl) <| .nil, rfl⟩

theorem cmp_Compare_uint16_ok (x1 : Int) (y2 : Int) (r0 : Int) (h : (cmp_Compare_uint16 x1 y2).wp (· = r0)) : PFun Tryz.prog 177 [.d (.v (.int .u16 x1)), .d (.v (.int .u16 y2))] (.d (.v (.int .i64 r0))) := by
 refine fI (sl := [(0, _), (1, _)]) Tryz.func177 rfl Tryz.ntmps177 rfl rfl ?_;intro ctx hK;refine wQ ?_;refine wR ?_;refine wS (aS rfl) rfl ?_;refine wN ?_;refine wQ ?_;refine wR ?_;refine wS (mV rfl) rfl ?_;replace h := iDet h;obtain ⟨v3, hy4, h⟩ := h;refine wS (cN (cmp_isNaN_uint16_ok x1 v3 hy4) rfl Tryz.call219 rfl rfl rfl rfl) rfl ?_;refine wS (aS rfl) rfl ?_;refine wN ?_;refine wQ ?_;refine wR ?_;refine wS (mV rfl) rfl ?_;replace h := iDet h;obtain ⟨v5, hy6, h⟩ := h;refine wS (cN (cmp_isNaN_uint16_ok y2 v5 hy6) rfl Tryz.call219 rfl rfl rfl rfl) rfl ?_;refine wS (aS rfl) rfl ?_;refine wN ?_;refine wQ ?_;refine wQ ?_;refine wR ?_;refine wS (mV rfl) rfl ?_;refine wN ?_;refine wC rfl (fun hc7 => ?_) (fun hc7 => ?_)
 ·replace h := iT hc7 h;refine wQ ?_;refine wQ ?_;refine wR ?_;refine wS (mV rfl) rfl ?_;refine wN ?_;refine wC rfl (fun hc8 => ?_) (fun hc8 => ?_)
  ·replace h := iT hc8 h;refine wQ ?_;refine wR ?_;refine wS (aS rfl) rfl ?_;refine wN ?_;refine wX ?_;replace h : _ = r0 := h;subst h;exact ⟨.inr rfl, _, .cons (.tmp rfl rfl) <| .nil, rfl⟩
  ·replace h := iF hc8 h;refine wK ?_;refine wQ ?_;refine wR ?_;refine wS (aS rfl) rfl ?_;refine wN ?_;refine wX ?_;replace h : _ = r0 := h;subst h;exact ⟨.inr rfl, _, .cons (.tmp rfl rfl) <| .nil, rfl⟩
 ·replace h := iF hc7 h;refine wK ?_;refine wQ ?_;refine wQ ?_;refine wR ?_;refine wS (mV rfl) rfl ?_;refine wN ?_;refine wC rfl (fun hc9 => ?_) (fun hc9 => ?_)
  ·replace h := iT hc9 h;refine wQ ?_;refine wR ?_;refine wS (aS rfl) rfl ?_;refine wN ?_;refine wX ?_;replace h : _ = r0 := h;subst h;exact ⟨.inr rfl, _, .cons (.tmp rfl rfl) <| .nil, rfl⟩
  ·replace h := iF hc9 h;refine wK ?_;refine wQ ?_;refine wQ ?_;refine wR ?_;refine wS (mV rfl) rfl ?_;refine wS (mV rfl) rfl ?_;refine wS (LR.lss rfl rfl) rfl ?_;refine wN ?_;refine wC rfl (fun hc10 => ?_) (fun hc10 => ?_)
   ·replace h := iT hc10 h;refine wQ ?_;refine wR ?_;refine wS (aS rfl) rfl ?_;refine wN ?_;refine wX ?_;replace h : _ = r0 := h;subst h;exact ⟨.inr rfl, _, .cons (.tmp rfl rfl) <| .nil, rfl⟩
   ·replace h := iF hc10 h;refine wK ?_;refine wQ ?_;refine wQ ?_;refine wR ?_;refine wS (mV rfl) rfl ?_;refine wS (mV rfl) rfl ?_;refine wS (LR.gtr rfl rfl) rfl ?_;refine wN ?_;refine wC rfl (fun hc11 => ?_) (fun hc11 => ?_)
    ·replace h := iT hc11 h;refine wQ ?_;refine wR ?_;refine wS (aS rfl) rfl ?_;refine wN ?_;refine wX ?_;replace h : _ = r0 := h;subst h;exact ⟨.inr rfl, _, .cons (.tmp rfl rfl) <| .nil, rfl⟩
    ·replace h := iF hc11 h;refine wK ?_;refine wQ ?_;refine wR ?_;refine wS (aS rfl) rfl ?_;refine wN ?_;refine wX ?_;replace h : _ = r0 := h;subst h;exact ⟨.inr rfl, _, .cons (.tmp rfl rfl) <| .nil, rfl⟩

theorem cmp_isNaN_uint64_ok (x1 : Int) (r0 : Bool) (h : (cmp_isNaN_uint64 x1).wp (· = r0)) : PFun Tryz.prog 220 [.d (.v (.int .u64 x1))] (.d (.v (.bool r0))) := by
 refine fI (sl := [(0, _)]) Tryz.func220 rfl Tryz.ntmps220 rfl rfl ?_;intro ctx hK;refine wQ ?_;refine wR ?_;refine wS (aS rfl) rfl ?_;refine wN ?_;refine wQ ?_;refine wR ?_;refine wS (mV rfl) rfl ?_;refine wS (mV rfl) rfl ?_;refine wS (nQ rfl rfl) rfl ?_;refine wS (aS rfl) rfl ?_;refine wN ?_;refine wX ?_;replace h : _ = r0 := h;subst h;exact ⟨.inr rfl, _, .cons (.tmp rfl rfl) <| .nil, rfl⟩
end Go.Proofs


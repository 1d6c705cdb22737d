/- Laws of the computations: loops over lists and maps, numbers that wrap. No program in sight. -/
import Derived.Test.YtacnidaafcfgiaaGreatLt
namespace Go.Ep
open Go

theorem wI64 {n : Int} (h : -9223372036854775808 ≤ n) (h' : n ≤ 9223372036854775807) : IntKind.i64.wrap n = n := by simp [IntKind.wrap, IntKind.bits, IntKind.signed]; omega
theorem wU64 {n : Int} (h : 0 ≤ n) (h' : n ≤ 18446744073709551615) : IntKind.u64.wrap n = n := by simp [IntKind.wrap, IntKind.bits, IntKind.signed]; omega
theorem wU16 {n : Int} (h : 0 ≤ n) (h' : n ≤ 65535) : IntKind.u16.wrap n = n := by simp [IntKind.wrap, IntKind.bits, IntKind.signed]; omega
theorem wU8 {n : Int} (h : 0 ≤ n) (h' : n ≤ 255) : IntKind.u8.wrap n = n := by simp [IntKind.wrap, IntKind.bits, IntKind.signed]; omega
theorem wSucc {i : Nat} (h : i < 9223372036854775807) : IntKind.i64.wrap ((i : Int) + 1) = ((i + 1 : Nat) : Int) := by rw [wI64 (by omega) (by omega)]; rfl
theorem wU64_mod (n : Int) : IntKind.u64.wrap n = n % 18446744073709551616 := by simp [IntKind.wrap, IntKind.bits, IntKind.signed]

namespace M
variable {α β σ ρ τ ε : Type}
theorem cond_dec (p : Prop) [Decidable p] (x y : M α) : cond (decide p) x y = if p then x else y := by by_cases h : p <;> simp [h]
theorem bind_ite (p : Prop) [Decidable p] (x y : M α) (f : α → M β) : (if p then x else y).bind f = if p then x.bind f else y.bind f := by split <;> rfl
theorem pure_ite (p : Prop) [Decidable p] (x y : α) : (if p then pure x else pure y : M α) = pure (if p then x else y) := by split <;> rfl

/-- A loop over a list's places; mk: the state at a place. -/
theorem loopL {body : σ → M (Step σ ρ)} (l : List ε) (mk : Nat → τ → σ) (f : τ → ε → τ) (g : τ → M ρ)
    (I : Nat → τ → Prop) (h1 : ∀ (i : Nat) (x : ε) (t : τ), l[i]? = some x → i < l.length → I i t → body (mk i t) = pure (.next (mk (i + 1) (f t x))) ∧ I (i + 1) (f t x))
    (h2 : ∀ t, I l.length t → body (mk l.length t) = (g t).bind fun r => pure (.done r)) (t0 : τ) (h0 : I 0 t0) : loop body (mk 0 t0) = g (l.foldl f t0) := by
  have key : ∀ k i t, i + k = l.length → I i t → loop body (mk i t) = g ((l.drop i).foldl f t) := by
    intro k
    induction k with
    | zero =>
      intro i t hi hI
      have : i = l.length := by omega
      subst this
      rw [loop_eq, h2 t hI, List.drop_length]
      rfl
    | succ k ih =>
      intro i t hi hI
      have hlt : i < l.length := by omega
      obtain ⟨h3, h4⟩ := h1 i l[i] t (List.getElem?_eq_getElem hlt) hlt hI
      rw [loop_next h3, ih (i + 1) _ (by omega) h4, List.drop_eq_getElem_cons hlt]
      rfl
  simpa using key l.length 0 t0 (by omega) h0
/-- .. that may end early: at the first element of whose kind it is. -/
theorem loopF {body : σ → M (Step σ ρ)} (l : List ε) (mk : Nat → σ) (p : Nat → ε → Bool) (r : Nat → ε → ρ) (d : M ρ)
    (h1 : ∀ (i : Nat) (x : ε), l[i]? = some x → i < l.length → body (mk i) = if p i x then pure (.done (r i x)) else pure (.next (mk (i + 1))))
    (h2 : body (mk l.length) = d.bind fun r => pure (.done r)) : loop body (mk 0) = match (l.zipIdx).find? (fun y => p y.2 y.1) with | some y => pure (r y.2 y.1) | none => d := by
  have key : ∀ k i, i + k = l.length → loop body (mk i) = match ((l.drop i).zipIdx i).find? (fun y => p y.2 y.1) with | some y => pure (r y.2 y.1) | none => d := by
    intro k
    induction k with
    | zero =>
      intro i hi
      have : i = l.length := by omega
      subst this
      rw [loop_eq, h2, List.drop_length]
      rfl
    | succ k ih =>
      intro i hi
      have hlt : i < l.length := by omega
      have h3 := h1 i l[i] (List.getElem?_eq_getElem hlt) hlt
      rw [List.drop_eq_getElem_cons hlt, List.zipIdx_cons, List.find?_cons]
      by_cases hp : p i l[i] = true
      · rw [if_pos hp] at h3
        rw [loop_done h3]
        simp [hp]
      · rw [if_neg hp] at h3
        rw [loop_next h3, ih (i + 1) (by omega)]
        simp [hp]
  simpa using key l.length 0 (by omega)
/-- Does each element pass? -/
theorem loopAll {body : σ → M (Step σ ρ)} (l : List ε) (mk : Nat → σ) (p : Nat → ε → Bool) (r1 r2 : ρ)
    (h1 : ∀ (i : Nat) (x : ε), l[i]? = some x → i < l.length → body (mk i) = if p i x then pure (.next (mk (i + 1))) else pure (.done r2))
    (h2 : body (mk l.length) = pure (.done r1)) : loop body (mk 0) = pure (if l.zipIdx.all (fun y => p y.2 y.1) then r1 else r2) := by
  have key : ∀ k i, i + k = l.length → loop body (mk i) = pure (if ((l.drop i).zipIdx i).all (fun y => p y.2 y.1) then r1 else r2) := by
    intro k
    induction k with
    | zero =>
      intro i hi
      have : i = l.length := by omega
      subst this
      rw [loop_done h2, List.drop_length]
      rfl
    | succ k ih =>
      intro i hi
      have hlt : i < l.length := by omega
      have h3 := h1 i l[i] (List.getElem?_eq_getElem hlt) hlt
      rw [List.drop_eq_getElem_cons hlt, List.zipIdx_cons, List.all_cons]
      by_cases hp : p i l[i] = true
      · rw [if_pos hp] at h3
        rw [loop_next h3, ih (i + 1) (by omega), hp, Bool.true_and]
      · rw [if_neg hp] at h3
        rw [loop_done h3]
        simp [hp]
  have := key l.length 0 (by omega)
  rw [List.drop_zero] at this
  exact this

/-- What came, as a list. -/
def came {ε : Type} (m : List ε) (L : List Nat) : List ε := L.filterMap fun i => m[i]?
theorem came_snoc {m : List ε} {L : List Nat} {i : Nat} {y : ε} (h : m[i]? = some y) : came m (L ++ [i]) = came m L ++ [y] := by simp [came, h]
theorem all_perm {n : Nat} {L : List Nat} (hn : L.Nodup) (hb : ∀ i ∈ L, i < n) (ha : ∀ i, i < n → i ∈ L) : L.Perm (List.range n) := by
  refine (List.perm_ext_iff_of_nodup hn List.nodup_range).2 fun i => ?_
  rw [List.mem_range]
  exact ⟨hb i, ha i⟩
theorem came_perm {m : List ε} {L : List Nat} (hn : L.Nodup) (hb : ∀ i ∈ L, i < m.length) (ha : ∀ i, i < m.length → i ∈ L) : (came m L).Perm m := by
  have h1 := (all_perm hn hb ha).filterMap fun i => m[i]?
  have h2 : (List.range m.length).filterMap (fun i => m[i]?) = m := by
    apply List.ext_getElem?
    intro i
    clear h1 hn hb ha
    have : (List.range m.length).filterMap (fun i => m[i]?) = m := by
      induction m with
      | nil => rfl
      | cons x r ih =>
        rw [List.length_cons, List.range_succ_eq_map, List.filterMap_cons]
        simp only [List.getElem?_cons_zero, List.filterMap_map]
        congr 1
    rw [this]
  rw [h2] at h1
  exact h1
theorem nodup_len {n : Nat} {L : List Nat} (hn : L.Nodup) (hb : ∀ i ∈ L, i < n) : L.length ≤ n := by
  have := List.Nodup.length_le_of_subset hn (l₂ := List.range n) (fun i hi => List.mem_range.2 (hb i hi))
  simpa using this

theorem full {n : Nat} {L : List Nat} (hn : L.Nodup) (hb : ∀ i ∈ L, i < n) (hl : n ≤ L.length) : ∀ i, i < n → i ∈ L := by
  intro i hi
  refine Classical.byContradiction fun hni => ?_
  have := nodup_len (n := n) (L := i :: L) (List.nodup_cons.2 ⟨hni, hn⟩) (fun j hj => by
    rcases List.mem_cons.1 hj with rfl | hj
    · exact hi
    · exact hb j hj)
  simp at this
  omega
/-- A map is gone over; mk: the state when the places L came. -/
theorem loopM {body : σ → M (Step σ ρ)} (m : List ε) (mk : List Nat → τ → σ) (f : τ → ε → M τ) (g : τ → M ρ) (I : List ε → τ → Prop) (Q : ρ → Prop)
    (hb : ∀ L t, (∀ i ∈ L, i < m.length) → body (mk L t) = need (∀ i ∈ L, i < m.length) ((nxt m.length L).bind fun o => match o with
      | none => (g t).bind fun r => pure (.done r)
      | some i => (idx m (Int.ofNat i)).bind fun y => (f t y).bind fun t' => pure (.next (mk (L ++ [i]) t'))))
    (hs : ∀ l t y, I l t → l.length < m.length → y ∈ m → ∃ t', f t y = pure t' ∧ I (l ++ [y]) t') (he : ∀ l t, l.Perm m → I l t → (g t).wp Q) (t0 : τ) (h0 : I [] t0) : (loop body (mk [] t0)).wp Q := by
  have key : ∀ k L t, L.length + k = m.length → L.Nodup → (∀ i ∈ L, i < m.length) → I (came m L) t → loopP body Q (mk L t) := by
    intro k
    induction k with
    | zero =>
      intro L t hk hn hlt hI
      refine loopP_in ?_
      rw [hb L t hlt]
      have hall : ∀ i, i < m.length → i ∈ L := fun i hi => full hn hlt (by omega) i hi
      refine ⟨hlt, ⟨⟨none, hall⟩, fun o ho => ?_⟩⟩
      cases o with
      | none =>
        have := he _ t (came_perm hn hlt hall) hI
        exact this
      | some i => exact absurd (hall i ho.1) ho.2
    | succ k ih =>
      intro L t hk hn hlt hI
      refine loopP_in ?_
      rw [hb L t hlt]
      have hex : ∃ i, i < m.length ∧ i ∉ L := by
        refine Classical.byContradiction fun hno => ?_
        have hall : ∀ i, i < m.length → i ∈ L := fun i hi => Classical.byContradiction fun h => hno ⟨i, hi, h⟩
        have := (all_perm hn hlt hall).length_eq
        simp at this
        omega
      obtain ⟨i0, hi0⟩ := hex
      refine ⟨hlt, ⟨⟨some i0, hi0⟩, fun o ho => ?_⟩⟩
      cases o with
      | none => exact absurd (ho i0 hi0.1) hi0.2
      | some i =>
        have hi := List.getElem?_eq_getElem ho.1
        obtain ⟨t', h1, h2⟩ := hs (came m L) t m[i] hI (by have := List.length_filterMap_le (fun i => m[i]?) L; unfold came; omega) (List.getElem_mem ho.1)
        show ((idx m (Int.ofNat i)).bind _).wp _
        rw [show (Int.ofNat i) = (i : Int) from rfl, idx_nat hi, pure_bind, h1, pure_bind]
        refine ih (L ++ [i]) t' (by simp; omega) ?_ ?_ (by rw [came_snoc hi]; exact h2)
        · rw [List.nodup_append]
          refine ⟨hn, by simp, fun a ha b hb' => ?_⟩
          rw [List.mem_singleton.1 hb']
          intro e
          exact ho.2 (e ▸ ha)
        · intro j hj
          rcases List.mem_append.1 hj with hj | hj
          · exact hlt j hj
          · rw [List.mem_singleton.1 hj]; exact ho.1
  exact key m.length [] t0 (by simp) List.nodup_nil (by simp) h0

/-- A map is gone over, whatever the rounds do. -/
theorem loopN {body : σ → M (Step σ ρ)} (n : Nat) (mk : List Nat → τ → σ) (I : List Nat → τ → Prop) (Q : ρ → Prop)
    (h : ∀ L t, I L t → L.Nodup → (∀ i ∈ L, i < n) → ∃ K : Option Nat → M (Step σ ρ), body (mk L t) = need (∀ i ∈ L, i < n) ((nxt n L).bind K) ∧ ((∀ i, i < n → i ∈ L) → (K none).wp (Step.post (fun _ => False) Q)) ∧
      ∀ i, i < n → i ∉ L → ∃ t', K (some i) = pure (.next (mk (L ++ [i]) t')) ∧ I (L ++ [i]) t') (t0 : τ) (h0 : I [] t0) : (loop body (mk [] t0)).wp Q := by
  have key : ∀ k L t, L.length + k = n → L.Nodup → (∀ i ∈ L, i < n) → I L t → loopP body Q (mk L t) := by
    intro k
    induction k with
    | zero =>
      intro L t hk hn hlt hI
      obtain ⟨K, h1, h2, h3⟩ := h L t hI hn hlt
      refine loopP_in ?_
      rw [h1]
      have hall : ∀ i, i < n → i ∈ L := full hn hlt (by omega)
      refine ⟨hlt, ⟨⟨none, hall⟩, fun o ho => ?_⟩⟩
      cases o with
      | none => exact (K none).mono (fun a ha => by cases a with | next s => exact ha.elim | done r => exact ha) (h2 hall)
      | some i => exact absurd (hall i ho.1) ho.2
    | succ k ih =>
      intro L t hk hn hlt hI
      obtain ⟨K, h1, h2, h3⟩ := h L t hI hn hlt
      refine loopP_in ?_
      rw [h1]
      have hex : ∃ i, i < n ∧ i ∉ L := by
        refine Classical.byContradiction fun hno => ?_
        have hall : ∀ i, i < n → i ∈ L := fun i hi => Classical.byContradiction fun h => hno ⟨i, hi, h⟩
        have := (all_perm hn hlt hall).length_eq
        simp at this
        omega
      obtain ⟨i0, hi0⟩ := hex
      refine ⟨hlt, ⟨⟨some i0, hi0⟩, fun o ho => ?_⟩⟩
      cases o with
      | none => exact absurd (ho i0 hi0.1) hi0.2
      | some i =>
        obtain ⟨t', h4, h5⟩ := h3 i ho.1 ho.2
        show (K (some i)).wp _
        rw [h4]
        refine ih (L ++ [i]) t' (by simp; omega) ?_ ?_ h5
        · rw [List.nodup_append]
          refine ⟨hn, by simp, fun a ha b hb' => ?_⟩
          rw [List.mem_singleton.1 hb']
          intro e
          exact ho.2 (e ▸ ha)
        · intro j hj
          rcases List.mem_append.1 hj with hj | hj
          · exact hlt j hj
          · rw [List.mem_singleton.1 hj]; exact ho.1
  exact key n [] t0 (by simp) List.nodup_nil (by simp) h0
end M

/-! ### Maps as lists -/
namespace AL
variable {κ ν : Type} [DecidableEq κ]
theorem get_set (m : List (κ × ν)) (k q : κ) (v : ν) : get (set m k v) q = if k = q then some v else get m q := by
  induction m with
  | nil => simp [set, get]
  | cons x r ih =>
    obtain ⟨a, u⟩ := x
    by_cases h : a = k
    · subst h; simp only [set, if_true, get]; split <;> rfl
    · simp only [set, h, if_false, get, ih]
      by_cases h2 : a = q
      · subst h2; simp [Ne.symm h]
      · simp [h2]
theorem getZ_set (m : List (κ × ν)) (k q : κ) (v z : ν) : getZ (set m k v) q z = if k = q then v else getZ m q z := by
  unfold getZ; rw [get_set]; split <;> rfl
theorem keys_set (m : List (κ × ν)) (k : κ) (v : ν) : (set m k v).map (·.1) = if k ∈ m.map (·.1) then m.map (·.1) else m.map (·.1) ++ [k] := by
  induction m with
  | nil => simp [set]
  | cons x r ih =>
    obtain ⟨a, u⟩ := x
    by_cases h : a = k
    · subst h; simp [set]
    · simp only [set, h, if_false, List.map_cons, ih, List.mem_cons, Ne.symm h, false_or]
      split <;> simp
theorem nodup_set {m : List (κ × ν)} (h : (m.map (·.1)).Nodup) (k : κ) (v : ν) : ((set m k v).map (·.1)).Nodup := by
  rw [keys_set]
  split
  · exact h
  · rename_i hk
    rw [List.nodup_append]
    refine ⟨h, by simp, fun a ha b hb => ?_⟩
    rw [List.mem_singleton.1 hb]
    intro e; exact hk (e ▸ ha)
theorem get_none {m : List (κ × ν)} {k : κ} : get m k = none ↔ k ∉ m.map (·.1) := by
  induction m with
  | nil => simp [get]
  | cons x r ih =>
    obtain ⟨a, u⟩ := x
    by_cases h : a = k
    · subst h; simp [get]
    · simp [get, h, ih, Ne.symm h]
theorem get_mem {m : List (κ × ν)} {k : κ} {v : ν} (h : get m k = some v) : (k, v) ∈ m := by
  induction m with
  | nil => simp [get] at h
  | cons x r ih =>
    obtain ⟨a, u⟩ := x
    by_cases e : a = k
    · subst e; simp [get] at h; subst h; simp
    · simp only [get, e, if_false] at h; exact List.mem_cons_of_mem _ (ih h)
theorem mem_get {m : List (κ × ν)} (hn : (m.map (·.1)).Nodup) {k : κ} {v : ν} (h : (k, v) ∈ m) : get m k = some v := by
  induction m with
  | nil => simp at h
  | cons x r ih =>
    obtain ⟨a, u⟩ := x
    simp only [List.map_cons, List.nodup_cons] at hn
    rcases List.mem_cons.1 h with e | h
    · cases e; simp [get]
    · have : a ≠ k := fun e => hn.1 (e ▸ List.mem_map.2 ⟨(k, v), h, rfl⟩)
      simp only [get, this, if_false]; exact ih hn.2 h
theorem len_set (m : List (κ × ν)) (k : κ) (v : ν) : (set m k v).length ≤ m.length + 1 := by
  induction m with
  | nil => simp [set]
  | cons x r ih =>
    obtain ⟨a, u⟩ := x
    unfold set
    split
    · simp
    · simpa using ih
end AL
end Go.Ep

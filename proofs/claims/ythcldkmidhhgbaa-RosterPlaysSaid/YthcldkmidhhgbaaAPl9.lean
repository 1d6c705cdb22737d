/- Texts that the walks and laws lean on, side by side. -/
import Derived.ProofKit
import Derived.Deep.Slices
import Derived.Test.YthcldkmidhhgbaaProg
import Derived.KernelRfl
import Derived.Test.YthcldkmidhhgbaaAPl2
import Derived.Test.YthcldkmidhhgbaaAPl4
set_option linter.unusedVariables false
set_option linter.unusedSimpArgs false
namespace Go.Ep
open Go

theorem wI64 {n : Int} (h : -9223372036854775808 ≤ n) (h' : n ≤ 9223372036854775807) : IntKind.i64.wrap n = n := by simp [IntKind.wrap, IntKind.bits, IntKind.signed]; omega
theorem wU64 {n : Int} (h : 0 ≤ n) (h' : n ≤ 18446744073709551615) : IntKind.u64.wrap n = n := by simp [IntKind.wrap, IntKind.bits, IntKind.signed]; omega
theorem wU16 {n : Int} (h : 0 ≤ n) (h' : n ≤ 65535) : IntKind.u16.wrap n = n := by simp [IntKind.wrap, IntKind.bits, IntKind.signed]; omega
theorem wSucc {i : Nat} (h : i < 9223372036854775807) : IntKind.i64.wrap ((i : Int) + 1) = ((i + 1 : Nat) : Int) := by rw [wI64 (by omega) (by omega)]; rfl
namespace M
variable {α β σ ρ τ ε : Type}
/-- A loop over a list's places; mk: the state at a place. -/
theorem loopL {body : σ → M (Step σ ρ)} (l : List ε) (mk : Nat → τ → σ) (f : τ → ε → τ) (g : τ → M ρ)
    (I : Nat → τ → Prop) (h1 : ∀ (i : Nat) (x : ε) (t : τ), l[i]? = some x → i < l.length → I i t → body (mk i t) = pure (.next (mk (i + 1) (f t x))) ∧ I (i + 1) (f t x))
    (h2 : ∀ t, I l.length t → body (mk l.length t) = (g t).bind fun r => pure (.done r)) (t0 : τ) (h0 : I 0 t0) : loop body (mk 0 t0) = g (l.foldl f t0) := by
  have key : ∀ k i t, i + k = l.length → I i t → loop body (mk i t) = g ((l.drop i).foldl f t) := by
    intro k
    induction k with
    | zero =>
      intro i t hi hI
      have : i = l.length := by omega
      subst this
      rw [loop_eq, h2 t hI, List.drop_length]
      rfl
    | succ k ih =>
      intro i t hi hI
      have hlt : i < l.length := by omega
      obtain ⟨h3, h4⟩ := h1 i l[i] t (List.getElem?_eq_getElem hlt) hlt hI
      rw [loop_next h3, ih (i + 1) _ (by omega) h4, List.drop_eq_getElem_cons hlt]
      rfl
  simpa using key l.length 0 t0 (by omega) h0
/-- What came, as a list. -/
def came {ε : Type} (m : List ε) (L : List Nat) : List ε := L.filterMap fun i => m[i]?
theorem came_snoc {m : List ε} {L : List Nat} {i : Nat} {y : ε} (h : m[i]? = some y) : came m (L ++ [i]) = came m L ++ [y] := by simp [came, h]
theorem all_perm {n : Nat} {L : List Nat} (hn : L.Nodup) (hb : ∀ i ∈ L, i < n) (ha : ∀ i, i < n → i ∈ L) : L.Perm (List.range n) := by
  refine (List.perm_ext_iff_of_nodup hn List.nodup_range).2 fun i => ?_
  rw [List.mem_range]
  exact ⟨hb i, ha i⟩
theorem came_perm {m : List ε} {L : List Nat} (hn : L.Nodup) (hb : ∀ i ∈ L, i < m.length) (ha : ∀ i, i < m.length → i ∈ L) : (came m L).Perm m := by
  have h1 := (all_perm hn hb ha).filterMap fun i => m[i]?
  have h2 : (List.range m.length).filterMap (fun i => m[i]?) = m := by
    apply List.ext_getElem?
    intro i
    clear h1 hn hb ha
    have : (List.range m.length).filterMap (fun i => m[i]?) = m := by
      induction m with
      | nil => rfl
      | cons x r ih =>
        rw [List.length_cons, List.range_succ_eq_map, List.filterMap_cons]
        simp only [List.getElem?_cons_zero, List.filterMap_map]
        congr 1
    rw [this]
  rw [h2] at h1
  exact h1
theorem nodup_len {n : Nat} {L : List Nat} (hn : L.Nodup) (hb : ∀ i ∈ L, i < n) : L.length ≤ n := by
  have := List.Nodup.length_le_of_subset hn (l₂ := List.range n) (fun i hi => List.mem_range.2 (hb i hi))
  simpa using this

theorem full {n : Nat} {L : List Nat} (hn : L.Nodup) (hb : ∀ i ∈ L, i < n) (hl : n ≤ L.length) : ∀ i, i < n → i ∈ L := by
  intro i hi
  refine Classical.byContradiction fun hni => ?_
  have := nodup_len (n := n) (L := i :: L) (List.nodup_cons.2 ⟨hni, hn⟩) (fun j hj => by
    rcases List.mem_cons.1 hj with rfl | hj
    · exact hi
    · exact hb j hj)
  simp at this
  omega
/-- A map is gone over; mk: the state when the places L came. -/
theorem loopM {body : σ → M (Step σ ρ)} (m : List ε) (mk : List Nat → τ → σ) (f : τ → ε → M τ) (g : τ → M ρ) (I : List ε → τ → Prop) (Q : ρ → Prop)
    (hb : ∀ L t, (∀ i ∈ L, i < m.length) → body (mk L t) = need (∀ i ∈ L, i < m.length) ((nxt m.length L).bind fun o => match o with
      | none => (g t).bind fun r => pure (.done r)
      | some i => (idx m (Int.ofNat i)).bind fun y => (f t y).bind fun t' => pure (.next (mk (L ++ [i]) t'))))
    (hs : ∀ l t y, I l t → l.length < m.length → y ∈ m → ∃ t', f t y = pure t' ∧ I (l ++ [y]) t') (he : ∀ l t, l.Perm m → I l t → (g t).wp Q) (t0 : τ) (h0 : I [] t0) : (loop body (mk [] t0)).wp Q := by
  have key : ∀ k L t, L.length + k = m.length → L.Nodup → (∀ i ∈ L, i < m.length) → I (came m L) t → loopP body Q (mk L t) := by
    intro k
    induction k with
    | zero =>
      intro L t hk hn hlt hI
      refine loopP_in ?_
      rw [hb L t hlt]
      have hall : ∀ i, i < m.length → i ∈ L := fun i hi => full hn hlt (by omega) i hi
      refine ⟨hlt, ⟨⟨none, hall⟩, fun o ho => ?_⟩⟩
      cases o with
      | none =>
        have := he _ t (came_perm hn hlt hall) hI
        exact this
      | some i => exact absurd (hall i ho.1) ho.2
    | succ k ih =>
      intro L t hk hn hlt hI
      refine loopP_in ?_
      rw [hb L t hlt]
      have hex : ∃ i, i < m.length ∧ i ∉ L := by
        refine Classical.byContradiction fun hno => ?_
        have hall : ∀ i, i < m.length → i ∈ L := fun i hi => Classical.byContradiction fun h => hno ⟨i, hi, h⟩
        have := (all_perm hn hlt hall).length_eq
        simp at this
        omega
      obtain ⟨i0, hi0⟩ := hex
      refine ⟨hlt, ⟨⟨some i0, hi0⟩, fun o ho => ?_⟩⟩
      cases o with
      | none => exact absurd (ho i0 hi0.1) hi0.2
      | some i =>
        have hi := List.getElem?_eq_getElem ho.1
        obtain ⟨t', h1, h2⟩ := hs (came m L) t m[i] hI (by have := List.length_filterMap_le (fun i => m[i]?) L; unfold came; omega) (List.getElem_mem ho.1)
        show ((idx m (Int.ofNat i)).bind _).wp _
        rw [show (Int.ofNat i) = (i : Int) from rfl, idx_nat hi, pure_bind, h1, pure_bind]
        refine ih (L ++ [i]) t' (by simp; omega) ?_ ?_ (by rw [came_snoc hi]; exact h2)
        · rw [List.nodup_append]
          refine ⟨hn, by simp, fun a ha b hb' => ?_⟩
          rw [List.mem_singleton.1 hb']
          intro e
          exact ho.2 (e ▸ ha)
        · intro j hj
          rcases List.mem_append.1 hj with hj | hj
          · exact hlt j hj
          · rw [List.mem_singleton.1 hj]; exact ho.1
  exact key m.length [] t0 (by simp) List.nodup_nil (by simp) h0

end M

namespace AL
variable {κ ν : Type} [DecidableEq κ]
theorem keys_set (m : List (κ × ν)) (k : κ) (v : ν) : (set m k v).map (·.1) = if k ∈ m.map (·.1) then m.map (·.1) else m.map (·.1) ++ [k] := by
  induction m with
  | nil => simp [set]
  | cons x r ih =>
    obtain ⟨a, u⟩ := x
    by_cases h : a = k
    · subst h; simp [set]
    · simp only [set, h, if_false, List.map_cons, ih, List.mem_cons, Ne.symm h, false_or]
      split <;> simp
theorem nodup_set {m : List (κ × ν)} (h : (m.map (·.1)).Nodup) (k : κ) (v : ν) : ((set m k v).map (·.1)).Nodup := by
  rw [keys_set]
  split
  · exact h
  · rename_i hk
    rw [List.nodup_append]
    refine ⟨h, by simp, fun a ha b hb => ?_⟩
    rw [List.mem_singleton.1 hb]
    intro e; exact hk (e ▸ ha)
theorem get_none {m : List (κ × ν)} {k : κ} : get m k = none ↔ k ∉ m.map (·.1) := by
  induction m with
  | nil => simp [get]
  | cons x r ih =>
    obtain ⟨a, u⟩ := x
    by_cases h : a = k
    · subst h; simp [get]
    · simp [get, h, ih, Ne.symm h]
theorem mem_get {m : List (κ × ν)} (hn : (m.map (·.1)).Nodup) {k : κ} {v : ν} (h : (k, v) ∈ m) : get m k = some v := by
  induction m with
  | nil => simp at h
  | cons x r ih =>
    obtain ⟨a, u⟩ := x
    simp only [List.map_cons, List.nodup_cons] at hn
    rcases List.mem_cons.1 h with e | h
    · cases e; simp [get]
    · have : a ≠ k := fun e => hn.1 (e ▸ List.mem_map.2 ⟨(k, v), h, rfl⟩)
      simp only [get, this, if_false]; exact ih hn.2 h
end AL
end Go.Ep

namespace Go.Ep.M.H
open Go

section
variable {κ ν : Type} [DecidableEq κ]
theorem del_sub (m : List (κ × ν)) (x : κ) : (AL.del m x).Sublist m := by
  induction m with
  | nil => exact List.Sublist.slnil
  | cons k r ih =>
    obtain ⟨k, v⟩ := k
    unfold AL.del
    split
    · exact List.sublist_cons_self _ _
    · exact ih.cons_cons _
theorem mem_del {m : List (κ × ν)} (hn : (m.map (·.1)).Nodup) (x : κ) (k : κ × ν) : k ∈ AL.del m x ↔ k ∈ m ∧ k.1 ≠ x := by
  induction m with
  | nil => simp [AL.del]
  | cons y r ih =>
    obtain ⟨q, v⟩ := y
    rw [List.map_cons, List.nodup_cons] at hn
    unfold AL.del
    split
    · rename_i e
      subst e
      rw [List.mem_cons]
      constructor
      · intro h; exact ⟨.inr h, fun e => hn.1 (e ▸ List.mem_map.2 ⟨k, h, rfl⟩)⟩
      · rintro ⟨h | h, h2⟩
        · subst h; exact absurd rfl h2
        · exact h
    · rename_i e
      rw [List.mem_cons, List.mem_cons, ih hn.2]
      constructor
      · rintro (h | ⟨h, h2⟩)
        · subst h; exact ⟨.inl rfl, e⟩
        · exact ⟨.inr h, h2⟩
      · rintro ⟨h | h, h2⟩
        · exact .inl h
        · exact .inr ⟨h, h2⟩
theorem mem_set {m : List (κ × ν)} (hn : (m.map (·.1)).Nodup) (x : κ) (v : ν) (k : κ × ν) : k ∈ AL.set m x v ↔ (k ∈ m ∧ k.1 ≠ x) ∨ k = (x, v) := by
  induction m with
  | nil => simp [AL.set]
  | cons y r ih =>
    obtain ⟨q, u⟩ := y
    rw [List.map_cons, List.nodup_cons] at hn
    unfold AL.set
    split
    · rename_i e
      subst e
      rw [List.mem_cons, List.mem_cons]
      constructor
      · rintro (h | h)
        · exact .inr h
        · exact .inl ⟨.inr h, fun e => hn.1 (e ▸ List.mem_map.2 ⟨k, h, rfl⟩)⟩
      · rintro (⟨h | h, h2⟩ | h)
        · subst h; exact absurd rfl h2
        · exact .inr h
        · exact .inl h
    · rename_i e
      rw [List.mem_cons, List.mem_cons, ih hn.2]
      constructor
      · rintro (h | ⟨h, h2⟩ | h)
        · subst h; exact .inl ⟨.inl rfl, e⟩
        · exact .inl ⟨.inr h, h2⟩
        · exact .inr h
      · rintro (⟨h | h, h2⟩ | h)
        · exact .inl h
        · exact .inr (.inl ⟨h, h2⟩)
        · exact .inr (.inr h)
end

theorem loopFind {ε ρ : Type} {body : Int → M (Step Int (Ex Unit ρ))} (l : List ε) (p : ε → Bool) (r : ε → ρ)
    (h1 : ∀ (i : Nat) (x : ε), l[i]? = some x → i < l.length → body (i : Int) = if p x then pure (.done (.ret (r x))) else pure (.next ((i + 1 : Nat) : Int)))
    (h2 : body (l.length : Int) = pure (.done (.brk ()))) : loop body 0 = pure (match l.find? p with | some x => .ret (r x) | none => .brk ()) := by
  have key : ∀ k i, i + k = l.length → loop body (i : Int) = pure (match (l.drop i).find? p with | some x => .ret (r x) | none => .brk ()) := by
    intro k
    induction k with
    | zero =>
      intro i hi
      have : i = l.length := by omega
      subst this
      rw [loop_done h2, List.drop_length]
      rfl
    | succ k ih =>
      intro i hi
      have hlt : i < l.length := by omega
      have h3 := h1 i l[i] (List.getElem?_eq_getElem hlt) hlt
      rw [List.drop_eq_getElem_cons hlt, List.find?_cons]
      by_cases hp : p l[i] = true
      · rw [if_pos hp] at h3
        rw [loop_done h3, hp]
      · rw [if_neg hp] at h3
        rw [loop_next h3, ih (i + 1) (by omega)]
        simp only [hp]
  simpa using key l.length 0 (by omega)
theorem loopE {ε σ ρ τ : Type} {body : σ → M (Step σ ρ)} (l : List ε) (mk : Nat → τ → σ) (I : Nat → τ → Prop) (Q : ρ → Prop)
    (h1 : ∀ (i : Nat) (x : ε) (t : τ), l[i]? = some x → i < l.length → I i t → ∃ t', body (mk i t) = pure (.next (mk (i + 1) t')) ∧ I (i + 1) t')
    (h2 : ∀ t, I l.length t → ∃ r, body (mk l.length t) = pure (.done r) ∧ Q r) (t0 : τ) (h0 : I 0 t0) : ∃ r, loop body (mk 0 t0) = pure r ∧ Q r := by
  have key : ∀ k i t, i + k = l.length → I i t → ∃ r, loop body (mk i t) = pure r ∧ Q r := by
    intro k
    induction k with
    | zero =>
      intro i t hi hI
      have : i = l.length := by omega
      subst this
      obtain ⟨r, h3, h4⟩ := h2 t hI
      exact ⟨r, loop_done h3, h4⟩
    | succ k ih =>
      intro i t hi hI
      have hlt : i < l.length := by omega
      obtain ⟨t', h3, h4⟩ := h1 i l[i] t (List.getElem?_eq_getElem hlt) hlt hI
      rw [loop_next h3]
      exact ih (i + 1) t' (by omega) h4
  exact key l.length 0 t0 (by omega) h0

def SrtM (l : List TMember) : Prop := l.Pairwise fun x y => x.dev < y.dev
theorem srtM_ext : ∀ {l l' : List TMember}, SrtM l → SrtM l' → (∀ d, d ∈ l ↔ d ∈ l') → l = l'
  | [], [], _, _, _ => rfl
  | [], y :: r, _, _, h => by have := (h y).2 (by simp); simp at this
  | x :: r, [], _, _, h => by have := (h x).1 (by simp); simp at this
  | x :: r, y :: t, h1, h2, h => by
    have hx := (h x).1 (by simp)
    have hy := (h y).2 (by simp)
    have e : x = y := by
      rcases List.mem_cons.1 hx with e | hx
      · exact e
      · rcases List.mem_cons.1 hy with e | hy
        · exact e.symm
        · have a1 := (List.pairwise_cons.1 h2).1 x hx
          have a2 := (List.pairwise_cons.1 h1).1 y hy
          omega
    subst e
    congr 1
    refine srtM_ext (List.pairwise_cons.1 h1).2 (List.pairwise_cons.1 h2).2 fun d => ?_
    have h3 := h d
    simp only [List.mem_cons] at h3
    constructor
    · intro hd
      rcases h3.1 (.inr hd) with e | h4
      · have := (List.pairwise_cons.1 h1).1 d hd
        rw [e] at this; omega
      · exact h4
    · intro hd
      rcases h3.2 (.inr hd) with e | h4
      · have := (List.pairwise_cons.1 h2).1 d hd
        rw [e] at this; omega
      · exact h4
theorem srtM_devs {l : List TMember} (h : SrtM l) : (l.map (·.dev)).Nodup := by
  unfold List.Nodup
  rw [List.pairwise_map]
  exact h.imp fun {a b} h => by omega
theorem srtM_of {s : List TMember} (hn : (s.map (·.dev)).Nodup) (h : s.Pairwise fun x y => ltMember y x = false) : SrtM s := by
  unfold List.Nodup at hn
  rw [List.pairwise_map] at hn
  refine (hn.and h).imp fun {a b} ⟨h1, h2⟩ => ?_
  unfold ltMember at h2
  have := of_decide_eq_false h2
  omega
theorem srt_wpM {l : List TMember} {Q : List TMember → Prop} (h : ∀ s, s.Perm l → (s.Pairwise fun x y => ltMember y x = false) → Q s) : (srt ltMember l).wp Q := by
  refine ⟨⟨l.mergeSort (fun x y => !ltMember y x), List.mergeSort_perm _ _, ?_⟩, fun s ⟨h1, h2⟩ => h s h1 h2⟩
  refine (List.pairwise_mergeSort (fun a b c h1 h2 => ?_) (fun a b => ?_) l).imp fun {x y} h => by simpa using h
  · simp [ltMember] at h1 h2 ⊢; omega
  · simp [ltMember]; omega

def ent (e : TMember) : Int × TMember := (e.dev, e)
theorem ent_inj {a b : TMember} (h : ent a = ent b) : a = b := (Prod.mk.inj h).2
theorem mem_ent {l : List TMember} {k : Int × TMember} : k ∈ l.map ent ↔ k.2 ∈ l ∧ k.1 = k.2.dev := by
  rw [List.mem_map]
  constructor
  · rintro ⟨e, h, rfl⟩; exact ⟨h, rfl⟩
  · rintro ⟨h1, h2⟩; exact ⟨k.2, h1, by unfold ent; rw [← h2]⟩
/-- A map has just the members of a list, under their numbers. -/
def Holds (m : List (Int × TMember)) (l : List TMember) : Prop := m.Perm (l.map ent)
theorem Holds.keys {m : List (Int × TMember)} {l : List TMember} (h : Holds m l) (hs : SrtM l) : (m.map (·.1)).Nodup := by
  have h1 := h.map (·.1)
  rw [List.map_map] at h1
  exact h1.nodup_iff.2 (srtM_devs hs)
theorem Holds.mem {m : List (Int × TMember)} {l : List TMember} (h : Holds m l) {k : Int × TMember} : k ∈ m ↔ k.2 ∈ l ∧ k.1 = k.2.dev := by rw [h.mem_iff, mem_ent]
theorem Holds.len {m : List (Int × TMember)} {l : List TMember} (h : Holds m l) : m.length = l.length := by rw [h.length_eq, List.length_map]
theorem nodup_ent {l : List TMember} (h : SrtM l) : (l.map ent).Nodup := by
  unfold List.Nodup
  rw [List.pairwise_map]
  exact h.imp fun {a b} h e => by rw [ent_inj e] at h; omega
theorem holds_of {m : List (Int × TMember)} {l : List TMember} (hn : (m.map (·.1)).Nodup) (hs : SrtM l) (h : ∀ k, k ∈ m ↔ k.2 ∈ l ∧ k.1 = k.2.dev) : Holds m l := by
  have hm : m.Nodup := by
    unfold List.Nodup at hn ⊢
    rw [List.pairwise_map] at hn
    exact hn.imp fun {a b} h e => h (by rw [e])
  exact (List.perm_ext_iff_of_nodup hm (nodup_ent hs)).2 fun k => by rw [h, mem_ent]
def atD (d : Int) (x : TMember) : Bool := decide (x.dev = d)
theorem Holds.get {m : List (Int × TMember)} {l : List TMember} (h : Holds m l) (hs : SrtM l) (d : Int) : AL.get m d = l.find? (atD d) := by
  cases hf : l.find? (atD d) with
  | some x =>
    have h1 := List.mem_of_find?_eq_some hf
    have h2 : x.dev = d := of_decide_eq_true (p := x.dev = d) (List.find?_some (p := atD d) hf)
    exact AL.mem_get (h.keys hs) (h.mem.2 ⟨h1, h2.symm⟩)
  | none =>
    refine AL.get_none.2 fun hk => ?_
    obtain ⟨k, hk1, hk2⟩ := List.mem_map.1 hk
    obtain ⟨h1, h2⟩ := h.mem.1 hk1
    have := List.find?_eq_none.1 hf k.2 h1
    exact this (decide_eq_true (by rw [← h2, hk2]))
theorem srtM_filter {l : List TMember} (h : SrtM l) (p : TMember → Bool) : SrtM (l.filter p) := h.sublist List.filter_sublist
/-- All but one. -/
def notD (d : Int) (x : TMember) : Bool := !decide (x.dev = d)
theorem Holds.del {m : List (Int × TMember)} {l : List TMember} (h : Holds m l) (hs : SrtM l) (d : Int) : Holds (AL.del m d) (l.filter (notD d)) :=
  holds_of ((h.keys hs).sublist ((del_sub m d).map _)) (srtM_filter hs _) fun k => by
    rw [mem_del (h.keys hs), h.mem, List.mem_filter]
    unfold notD
    constructor
    · rintro ⟨⟨h1, h2⟩, h3⟩; exact ⟨⟨h1, by rw [h2] at h3; simp [h3]⟩, h2⟩
    · rintro ⟨⟨h1, h3⟩, h2⟩; exact ⟨⟨h1, h2⟩, by rw [h2]; simpa using h3⟩
theorem srtM_snoc {l : List TMember} (hs : SrtM l) {a : TMember} (h : ∀ x ∈ l, x.dev < a.dev) : SrtM (l ++ [a]) :=
  List.pairwise_append.2 ⟨hs, List.pairwise_singleton _ _, fun x hx y hy => by rw [List.mem_singleton.1 hy]; exact h x hx⟩
theorem Holds.snoc {m : List (Int × TMember)} {l : List TMember} (h : Holds m l) (hs : SrtM l) {a : TMember} (hl : ∀ x ∈ l, x.dev < a.dev) : Holds (AL.set m a.dev a) (l ++ [a]) :=
  holds_of (AL.nodup_set (h.keys hs) _ _) (srtM_snoc hs hl) fun k => by
    rw [mem_set (h.keys hs), h.mem, List.mem_append, List.mem_singleton]
    constructor
    · rintro (⟨⟨h1, h2⟩, h3⟩ | h1)
      · exact ⟨.inl h1, h2⟩
      · subst h1; exact ⟨.inr rfl, rfl⟩
    · rintro ⟨h1 | h1, h2⟩
      · have := hl k.2 h1; exact .inl ⟨⟨h1, h2⟩, by omega⟩
      · exact .inr (by rw [← h1, ← h2])

theorem none_eq (e la : Int) (A : A16) (nl : Bool) (m : List (Int × TMember)) : roster_Roster_none_o e la A nl m = pure (decide (e = 0)) := rfl
theorem none_ff {e : Int} (he : 1 ≤ e) (la : Int) (A : A16) (nl : Bool) (m : List (Int × TMember)) : roster_Roster_none_o e la A nl m = pure false := by
  rw [none_eq, decide_eq_false (by omega)]
theorem Members_eq {e la : Int} {A : A16} {nl : Bool} {m : List (Int × TMember)} {l : List TMember} (he : 1 ≤ e) (hm : Holds m l) (hs : SrtM l) (hl : l.length ≤ 1000000000) : roster_Roster_Members_o e la A nl m = pure l := by
  unfold roster_Roster_Members_o
  rw [none_ff he, det_pure, pure_bind]
  refine eq_pure ?_
  show ((loop _ _).bind _).wp _
  refine M.loopM (body := roster_Roster_Members_o_l0 m) m (fun L (t : List TMember) => (L, t)) (fun t e => need ((t.length + 1) * 16 ≤ 140737488355328) (pure (t ++ [e.2]))) (fun t => pure t)
    (fun l t => t = l.map (·.2)) _ (fun L t hL => ?_) (fun l t y ht hlen hy => ?_) (fun q t hq ht => ?_) [] rfl
  · show need _ ((nxt _ _).bind _) = need _ ((nxt _ _).bind _)
    refine congrArg (fun k => need _ ((nxt _ _).bind k)) (funext fun o => ?_)
    cases o with
    | none => rfl
    | some i => rfl
  · have := hm.len
    subst ht
    exact ⟨_, need_true (by rw [List.length_map]; omega) _, by simp⟩
  · subst ht
    have hp : (q.map (·.2)).Perm l := by
      have := (hq.trans hm).map (·.2)
      rw [List.map_map] at this
      simpa [Function.comp_def, ent] using this
    show (need _ _).wp _
    rw [need_true (by rw [hp.length_eq]; omega)]
    refine srt_wpM fun s h1 h2 => ?_
    show s = l
    have h3 := h1.trans hp
    exact srtM_ext (srtM_of ((h3.map (·.dev)).nodup_iff.2 (srtM_devs hs)) h2) hs fun d => h3.mem_iff
def zM : TMember := ⟨0, 0, 0⟩
def fnd (p : TMember → Bool) (l : List TMember) : TMember × Bool := match l.find? p with | some x => (x, true) | none => (zM, false)
def atS (s : Int) (x : TMember) : Bool := decide (x.slot = s)
theorem find_loop {body : Int → M (Step Int (Ex Unit (TMember × Bool)))} (l : List TMember) (p : TMember → Bool) (hl : l.length ≤ 1000000000)
    (hb : ∀ i : Int, body i = cond (decide (i < (l.length : Int))) ((idx l i).bind fun x => cond (p x) (pure (.done (.ret (x, true)))) (pure (.next (IntKind.i64.wrap (i + 1))))) (pure (.done (.brk ())))) :
    (loop body 0).bind (exk fun _ => pure (zM, false)) = pure (fnd p l) := by
  rw [loopFind (body := body) l p (fun x => (x, true)) (fun i x hx hi => ?_) ?_]
  · rw [pure_bind]
    unfold fnd
    cases l.find? p <;> rfl
  · rw [hb, decide_eq_false (by omega), cond_false]
  · rw [hb, decide_eq_true (by omega), cond_true, idx_nat hx, pure_bind, wSucc (by omega)]
    cases p x <;> rfl
theorem Of_eq {e la : Int} {A : A16} {nl : Bool} {m : List (Int × TMember)} {l : List TMember} (he : 1 ≤ e) (hm : Holds m l) (hs : SrtM l) (hl : l.length ≤ 1000000000) (s : Int) : roster_Roster_Of_o s e la A nl m = pure (fnd (atS s) l) := by
  unfold roster_Roster_Of_o
  rw [Members_eq he hm hs hl, det_pure, pure_bind]
  exact find_loop l (atS s) hl fun i => rfl
theorem rOf_eq {x : R26Roster} (hl : x.l.length ≤ 1000000000) (s : Int) : r26_Of x s = pure (fnd (atS s) x.l) := by
  unfold r26_Of
  refine find_loop x.l (atS s) hl fun i => ?_
  show cond _ ((idx x.l i).bind _) _ = _
  congr 1
  refine ext' fun Q => ?_
  show (∃ y, (0 ≤ i ∧ x.l[i.toNat]? = some y) ∧ (cond (atS s y) ((idx x.l i).bind fun x21 => pure (.done (.ret (x21, true)))) _).wp Q) ↔ ∃ y, (0 ≤ i ∧ x.l[i.toNat]? = some y) ∧ _
  refine exists_congr fun y => and_congr_right fun hy => ?_
  rw [idx_eq hy.1 hy.2]
  rfl
theorem rGet_eq {x : R26Roster} (hl : x.l.length ≤ 1000000000) (d : Int) : r26_Get x d = pure (fnd (atD d) x.l) := by
  unfold r26_Get
  refine find_loop x.l (atD d) hl fun i => ?_
  show cond _ ((idx x.l i).bind _) _ = _
  congr 1
  refine ext' fun Q => ?_
  show (∃ y, (0 ≤ i ∧ x.l[i.toNat]? = some y) ∧ (cond (atD d y) ((idx x.l i).bind fun x21 => pure (.done (.ret (x21, true)))) _).wp Q) ↔ ∃ y, (0 ≤ i ∧ x.l[i.toNat]? = some y) ∧ _
  refine exists_congr fun y => and_congr_right fun hy => ?_
  rw [idx_eq hy.1 hy.2]
  rfl
theorem Get_eq {e la : Int} {A : A16} {nl : Bool} {m : List (Int × TMember)} {l : List TMember} (he : 1 ≤ e) (hm : Holds m l) (hs : SrtM l) (d : Int) : roster_Roster_Get_o d e la A nl m = pure (fnd (atD d) l) := by
  unfold roster_Roster_Get_o
  rw [none_ff he, det_pure, pure_bind, cond_false]
  unfold AL.getZ AL.has fnd
  rw [hm.get hs]
  cases l.find? (atD d) <;> rfl
theorem has_eq {m : List (Int × TMember)} {l : List TMember} (hm : Holds m l) (hs : SrtM l) (d : Int) : AL.has m d = (fnd (atD d) l).2 := by
  unfold AL.has fnd
  rw [hm.get hs]
  cases l.find? (atD d) <;> rfl
theorem without_eq (l : List TMember) (d : Int) (hl : l.length ≤ 1000000000) : r26_without l d = pure (l.filter (notD d)) := by
  unfold r26_without
  have h := loopL (body := r26_without_l0 l d) l (fun i (t : List TMember) => ((i : Int), t)) (fun t x => if notD d x then t ++ [x] else t) (fun t => pure t) (fun i t => t.length ≤ i)
    (fun i x t hx hi hI => ⟨?_, by split <;> (try rw [List.length_append, List.length_singleton]) <;> omega⟩) (fun t _ => ?_) [] (Nat.le_refl _)
  · have hf : ∀ (q t : List TMember), q.foldl (fun t x => if notD d x then t ++ [x] else t) t = t ++ q.filter (notD d) := by
      intro q
      induction q with
      | nil => intro t; simp
      | cons x r ih => intro t; rw [List.foldl_cons, ih, List.filter_cons]; split <;> simp
    rw [hf, List.nil_append] at h
    rw [show ((0 : Int), ([] : List TMember)) = (((0 : Nat) : Int), []) from rfl, h]
    rfl
  · show cond (decide ((i : Int) < (l.length : Int))) _ _ = _
    rw [decide_eq_true (by omega), cond_true, idx_nat hx, pure_bind]
    show M.bind (cond (notD d x) _ _) _ = _
    cases hn : notD d x with
    | true =>
      rw [cond_true, pure_bind, need_true (by simp; omega), pure_bind, wSucc (by omega), if_pos rfl]
    | false => rw [cond_false, pure_bind, wSucc (by omega), if_neg (by simp)]
  · show cond (decide ((l.length : Int) < (l.length : Int))) _ _ = _
    rw [decide_eq_false (by omega)]; rfl


/-- A roster has just what the document's has. -/
structure Rep (n : Nat) (x : R26Roster) (m : List (Int × TMember)) : Prop where
  e1 : 1 ≤ x.epoch
  e2 : x.epoch ≤ 1000000000000000000
  l1 : 0 ≤ x.last
  l2 : x.last ≤ 65535
  hm : Holds m x.l
  hs : SrtM x.l
  hb : ∀ a ∈ x.l, 1 ≤ a.dev ∧ a.dev ≤ x.last
  len : x.l.length ≤ n
  n9 : n ≤ 1000
theorem wE {e : Int} (h1 : 1 ≤ e) (h2 : e ≤ 1000000000000000000) : IntKind.u64.wrap (e + 1) = e + 1 := wU64 (by omega) (by omega)
theorem wL {e : Int} (h1 : 0 ≤ e) (h2 : e ≤ 65535) (h3 : e ≠ 65535) : IntKind.u16.wrap (e + 1) = e + 1 := wU16 (by omega) (by omega)
def newM (x : R26Roster) (s t : Int) : TMember := ⟨x.last + 1, s, t⟩
def addR (x : R26Roster) (s t : Int) : R26Roster := ⟨x.epoch + 1, x.last + 1, x.l.filter (notD (fnd (atS s) x.l).1.dev) ++ [newM x s t], AR.set x.tries s.toNat t⟩
def joinS (x : R26Roster) (s t : Int) : R26Roster × TMember × Int × Int :=
  cond (decide (16 ≤ s) || decide (t = 0)) (x, zM, 0, 1)
    (cond (decide (t < AR.get x.tries s.toNat) || (decide (t = AR.get x.tries s.toNat) && !(fnd (atS s) x.l).2)) (x, zM, 0, 11)
      (cond (decide (t = AR.get x.tries s.toNat)) (x, (fnd (atS s) x.l).1, 0, 0)
        (cond (decide (x.last = 65535)) (x, zM, 0, 8)
          (addR x s t, newM x s t, (fnd (atS s) x.l).1.dev, 0))))
theorem cond_tf (a b c : Bool) : (cond a (pure true) (cond b (pure c) (pure false)) : M Bool) = pure (a || (b && c)) := by cases a <;> cases b <;> rfl
theorem rJoin_eq {n : Nat} {x : R26Roster} {m : List (Int × TMember)} (h : Rep n x m) {s t : Int} (h0 : 0 ≤ s) : r26_Join x s t = pure (joinS x s t) := by
  have hl : x.l.length ≤ 1000000000 := by have := h.len; have := h.n9; omega
  unfold r26_Join joinS
  rw [cond_pure_or, pure_bind]
  cases hc : decide (16 ≤ s) || decide (t = 0) with
  | true => rfl
  | false =>
    rw [Bool.or_eq_false_iff] at hc
    have hs : 0 ≤ s ∧ s < ((16 : Nat) : Int) := ⟨h0, by have := of_decide_eq_false hc.1; omega⟩
    rw [cond_false, cond_false, rOf_eq hl, det_pure, pure_bind, need_true hs, need_true hs, cond_tf, pure_bind]
    cases decide (t < AR.get x.tries s.toNat) || (decide (t = AR.get x.tries s.toNat) && !(fnd (atS s) x.l).2) with
    | true => rfl
    | false =>
      rw [cond_false, cond_false, need_true hs]
      cases decide (t = AR.get x.tries s.toNat) with
      | true => rfl
      | false =>
        rw [cond_false, cond_false]
        cases hd : decide (x.last = 65535) with
        | true => rfl
        | false =>
          have h5 := of_decide_eq_false hd
          rw [cond_false, cond_false, without_eq _ _ hl, det_pure, pure_bind, need_true (by have := List.length_filter_le (notD (fnd (atS s) x.l).1.dev) x.l; simp; omega), need_true hs, wE h.e1 h.e2, wL h.l1 h.l2 h5]
          rfl
theorem Rep.add {n : Nat} {x : R26Roster} {m : List (Int × TMember)} (h : Rep n x m) (hn : n < 1000) (he : x.epoch < 1000000000000000000) {s t : Int} (hl : x.last ≠ 65535) : Rep (n + 1) (addR x s t) (AL.set (AL.del m (fnd (atS s) x.l).1.dev) (newM x s t).dev (newM x s t)) := by
  have hlt : ∀ y ∈ x.l.filter (notD (fnd (atS s) x.l).1.dev), y.dev < (newM x s t).dev := fun y hy => by
    have := (h.hb y (List.mem_filter.1 hy).1).2
    show y.dev < x.last + 1
    omega
  have h1 := h.e1
  have h2 := h.l1
  have h3 := h.l2
  refine ⟨?_, ?_, ?_, ?_, (h.hm.del h.hs _).snoc (srtM_filter h.hs _) hlt, srtM_snoc (srtM_filter h.hs _) hlt, fun a ha => ?_, ?_, by omega⟩
  · show 1 ≤ x.epoch + 1; omega
  · show x.epoch + 1 ≤ _; omega
  · show 0 ≤ x.last + 1; omega
  · show x.last + 1 ≤ 65535; omega
  · show 1 ≤ a.dev ∧ a.dev ≤ x.last + 1
    rcases List.mem_append.1 ha with ha | ha
    · have := h.hb a (List.mem_filter.1 ha).1; omega
    · rw [List.mem_singleton.1 ha]; show 1 ≤ x.last + 1 ∧ x.last + 1 ≤ x.last + 1; omega
  · have := List.length_filter_le (notD (fnd (atS s) x.l).1.dev) x.l
    have := h.len
    show (x.l.filter _ ++ [_]).length ≤ n + 1
    simp; omega
theorem Rep.up {n k : Nat} {x : R26Roster} {m : List (Int × TMember)} (h : Rep n x m) (hk : n ≤ k) (h9 : k ≤ 1000) : Rep k x m :=
  ⟨h.e1, h.e2, h.l1, h.l2, h.hm, h.hs, h.hb, by have := h.len; omega, h9⟩
theorem Join_eq {n : Nat} {x : R26Roster} {m : List (Int × TMember)} (h : Rep n x m) (hn : n < 1000) (he : x.epoch < 1000000000000000000) {s t : Int} (h0 : 0 ≤ s) :
    ∃ m', roster_Roster_Join_o s t x.epoch x.last x.tries false m = pure ((joinS x s t).2.1, (joinS x s t).2.2.1, (joinS x s t).2.2.2, (joinS x s t).1.epoch, (joinS x s t).1.last, (joinS x s t).1.tries, false, m') ∧ Rep (n + 1) (joinS x s t).1 m' := by
  have hl : x.l.length ≤ 1000000000 := by have := h.len; omega
  have hup := h.up (k := n + 1) (by omega) (by omega)
  unfold roster_Roster_Join_o joinS
  rw [none_ff h.e1, det_pure, pure_bind, cond_false, cond_pure_or, pure_bind]
  cases hc : decide (16 ≤ s) || decide (t = 0) with
  | true => exact ⟨m, rfl, hup⟩
  | false =>
    rw [Bool.or_eq_false_iff] at hc
    have hs : 0 ≤ s ∧ s < ((16 : Nat) : Int) := ⟨h0, by have := of_decide_eq_false hc.1; omega⟩
    rw [cond_false, cond_false, Of_eq h.e1 h.hm h.hs hl, det_pure, pure_bind, need_true hs, cond_tf, pure_bind]
    cases decide (t < AR.get x.tries s.toNat) || (decide (t = AR.get x.tries s.toNat) && !(fnd (atS s) x.l).2) with
    | true => exact ⟨m, rfl, hup⟩
    | false =>
      rw [cond_false, cond_false]
      cases decide (t = AR.get x.tries s.toNat) with
      | true => exact ⟨m, rfl, hup⟩
      | false =>
        rw [cond_false, cond_false]
        cases hd : decide (x.last = 65535) with
        | true => exact ⟨m, rfl, hup⟩
        | false =>
          have h5 := of_decide_eq_false hd
          rw [cond_false, cond_false, need_true hs, need_true rfl, wE h.e1 h.e2, wL h.l1 h.l2 h5]
          exact ⟨_, rfl, h.add hn he h5⟩
def removeS (x : R26Roster) (d : Int) : R26Roster × Int := cond (!(fnd (atD d) x.l).2) (x, 6) (⟨x.epoch + 1, x.last, x.l.filter (notD d), x.tries⟩, 0)
theorem rRemove_eq {n : Nat} {x : R26Roster} {m : List (Int × TMember)} (h : Rep n x m) (d : Int) : r26_Remove x d = pure (removeS x d) := by
  have hl : x.l.length ≤ 1000000000 := by have := h.len; have := h.n9; omega
  unfold r26_Remove removeS
  rw [rGet_eq hl, det_pure, pure_bind]
  cases !(fnd (atD d) x.l).2 with
  | true => rfl
  | false => rw [cond_false, cond_false, without_eq _ _ hl, det_pure, pure_bind, wE h.e1 h.e2]
theorem Remove_eq {n : Nat} {x : R26Roster} {m : List (Int × TMember)} (h : Rep n x m) (he : x.epoch < 1000000000000000000) (d : Int) :
    ∃ m', roster_Roster_Remove_o d x.epoch x.last x.tries false m = pure ((removeS x d).2, (removeS x d).1.epoch, (removeS x d).1.last, (removeS x d).1.tries, false, m') ∧ Rep n (removeS x d).1 m' := by
  unfold roster_Roster_Remove_o removeS
  rw [none_ff h.e1, det_pure, pure_bind, cond_false, has_eq h.hm h.hs]
  cases !(fnd (atD d) x.l).2 with
  | true => exact ⟨m, rfl, h⟩
  | false =>
    rw [cond_false, cond_false, wE h.e1 h.e2]
    refine ⟨_, rfl, ?_, ?_, h.l1, h.l2, h.hm.del h.hs d, srtM_filter h.hs _, fun a ha => h.hb a (List.mem_filter.1 ha).1, Nat.le_trans (List.length_filter_le _ _) h.len, h.n9⟩
    · have := h.e1; show 1 ≤ x.epoch + 1; omega
    · show x.epoch + 1 ≤ _; omega
def checkS (x : R26Roster) (d e : Int) : Int := cond (!(fnd (atD d) x.l).2) 11 (cond (!decide (e = x.epoch)) 10 0)
theorem rCheck_eq {n : Nat} {x : R26Roster} {m : List (Int × TMember)} (h : Rep n x m) (d e : Int) : r26_Check x d e = pure (checkS x d e) := by
  have hl : x.l.length ≤ 1000000000 := by have := h.len; have := h.n9; omega
  unfold r26_Check checkS
  rw [rGet_eq hl, det_pure, pure_bind, cond_pure, cond_pure]
theorem Check_eq {n : Nat} {x : R26Roster} {m : List (Int × TMember)} (h : Rep n x m) (d e : Int) : roster_Roster_Check_o d e x.epoch x.last x.tries false m = pure (checkS x d e) := by
  unfold roster_Roster_Check_o checkS
  rw [none_ff h.e1, det_pure, pure_bind, cond_false, has_eq h.hm h.hs, cond_pure, cond_pure]
theorem Epoch_eq {n : Nat} {x : R26Roster} {m : List (Int × TMember)} (h : Rep n x m) : roster_Roster_Epoch_o x.epoch x.last x.tries false m = pure x.epoch := by
  unfold roster_Roster_Epoch_o
  rw [none_ff h.e1, det_pure, pure_bind, cond_false]
theorem Last_eq {n : Nat} {x : R26Roster} {m : List (Int × TMember)} (h : Rep n x m) : roster_Roster_Last_o x.epoch x.last x.tries false m = pure x.last := by
  unfold roster_Roster_Last_o
  rw [none_ff h.e1, det_pure, pure_bind, cond_false]
theorem Clone_eq (l : List Int) (h : l.length ≤ 1000000000) : slices_Clone_sl_uint64_uint64 l = pure l := by
  unfold slices_Clone_sl_uint64_uint64
  refine eq_pure ⟨⟨false, fun h => by cases h⟩, fun b hb => ?_⟩
  cases b with
  | true => rw [hb rfl]; rfl
  | false =>
    show (need _ _).wp _
    rw [need_true (by simp; omega), List.nil_append]
    rfl
theorem Tries_eq {n : Nat} {x : R26Roster} {m : List (Int × TMember)} (h : Rep n x m) : roster_Roster_Tries_o x.epoch x.last x.tries false m = pure (AR.l x.tries) := by
  unfold roster_Roster_Tries_o
  rw [none_ff h.e1, det_pure, pure_bind, cond_false, Clone_eq _ (by rw [AR.l_len]; omega), det_pure, pure_bind]
theorem Same_eq (l : List TMember) (hl : l.length ≤ 1000000000) : r26_Same l l = pure true := by
  unfold r26_Same
  rw [decide_eq_true rfl, Bool.not_true, cond_false]
  rw [loopFind (body := r26_Same_l0 l l) l (fun _ => false) (fun _ => false) (fun i x hx hi => ?_) ?_]
  · have : l.find? (fun _ => false) = none := List.find?_eq_none.2 (by simp)
    rw [this]; rfl
  · show cond (decide ((l.length : Int) < (l.length : Int))) _ _ = _
    rw [decide_eq_false (by omega)]; rfl
  · show cond (decide ((i : Int) < (l.length : Int))) _ _ = _
    rw [decide_eq_true (by omega), cond_true, idx_nat hx, pure_bind, pure_bind]
    simp [wSucc (show i < 9223372036854775807 by omega)]
theorem Is_eq {n : Nat} {x : R26Roster} {m : List (Int × TMember)} (h : Rep n x m) : l26_Is_o x x.epoch x.last x.tries false m = pure 1 := by
  have hl : x.l.length ≤ 1000000000 := by have := h.len; have := h.n9; omega
  unfold l26_Is_o
  rw [Tries_eq h, det_pure, pure_bind, Epoch_eq h, det_pure, pure_bind, decide_eq_true rfl, Bool.not_true, cond_false, Last_eq h, det_pure, pure_bind, decide_eq_true rfl, Bool.not_true, cond_false, Members_eq h.e1 h.hm h.hs hl, det_pure, pure_bind, Same_eq _ hl, det_pure, pure_bind, Bool.not_true, cond_false, AR.l_len, show decide (((16 : Nat) : Int) = 16) = true from rfl, Bool.not_true, pure_bind, cond_false]
  rw [loopFind (body := l26_Is_o_l0 (AR.l x.tries) x) (AR.l x.tries) (fun _ => false) (fun _ => 0) (fun i y hy hi => ?_) ?_]
  · have : (AR.l x.tries).find? (fun _ => false) = none := List.find?_eq_none.2 (by simp)
    rw [this]; rfl
  · rw [AR.l_len]; rfl
  · rw [AR.l_len] at hi
    show cond (decide ((i : Int) < 16)) _ _ = _
    rw [decide_eq_true (by omega), cond_true, idx_nat hy, pure_bind, need_true (by omega), Int.toNat_natCast]
    rw [AR.get_lt hi] at hy
    simp only [Option.some.injEq] at hy
    simp [← hy, wSucc (show i < 9223372036854775807 by omega)]
def z16 : A16 := (0, 0, 0, 0, 0, 0, 0, 0, 0, 0, 0, 0, 0, 0, 0, 0)
def newR (e la : Int) (A : A16) : R26Roster := ⟨e, la, [], A⟩
theorem rep_new {e la : Int} {A : A16} (h1 : 1 ≤ e) (h2 : e ≤ 1000000000000000000) (h3 : 0 ≤ la) (h4 : la ≤ 65535) : Rep 0 (newR e la A) [] :=
  ⟨h1, h2, h3, h4, List.Perm.refl _, List.Pairwise.nil, fun a (ha : a ∈ []) => absurd ha List.not_mem_nil, Nat.le_refl _, by omega⟩
theorem works_eq : l26_works = pure true := by
  unfold l26_works
  rw [show roster_New_o = pure ((newR 1 0 z16).epoch, (newR 1 0 z16).last, (newR 1 0 z16).tries, false, []) from rfl, det_pure, pure_bind]
  have r0 : Rep 0 (newR 1 0 z16) [] := rep_new (by omega) (by omega) (by omega) (by omega)
  obtain ⟨m1, e1, r1⟩ := Join_eq r0 (by omega) (by decide) (s := 3) (t := 1) (by omega)
  have q1 : joinS (newR 1 0 z16) 3 1 = (⟨2, 1, [⟨1, 3, 1⟩], AR.set z16 3 1⟩, ⟨1, 3, 1⟩, 0, 0) := by decide
  rw [q1] at e1 r1
  obtain ⟨m2, e2, r2⟩ := Join_eq r1 (by omega) (by decide) (s := 3) (t := 1) (by omega)
  have q2 : joinS ⟨2, 1, [⟨1, 3, 1⟩], AR.set z16 3 1⟩ 3 1 = (⟨2, 1, [⟨1, 3, 1⟩], AR.set z16 3 1⟩, ⟨1, 3, 1⟩, 0, 0) := by decide
  rw [q2] at e2 r2
  obtain ⟨m3, e3, r3⟩ := Join_eq r2 (by omega) (by decide) (s := 3) (t := 2) (by omega)
  have q3 : joinS ⟨2, 1, [⟨1, 3, 1⟩], AR.set z16 3 1⟩ 3 2 = (⟨3, 2, [⟨2, 3, 2⟩], AR.set (AR.set z16 3 1) 3 2⟩, ⟨2, 3, 2⟩, 1, 0) := by decide
  rw [q3] at e3 r3
  have e4 := Epoch_eq r3
  dsimp only at e1 e2 e3 e4 ⊢
  rw [e1, det_pure, pure_bind]
  dsimp only
  rw [e2, det_pure, pure_bind]
  dsimp only
  rw [e3, det_pure, pure_bind]
  dsimp only
  rw [e4, det_pure]
  rfl


theorem loopB {ε σ β ρ τ : Type} {body : σ → M (Step σ (Ex β ρ))} (l : List ε) (mk : Nat → τ → σ) (g : τ → β) (bad : Nat → ε → Bool) (r : ρ) (I : Nat → τ → Prop)
    (h1 : ∀ (i : Nat) (x : ε) (t : τ), l[i]? = some x → i < l.length → I i t → (bad i x = true → body (mk i t) = pure (.done (.ret r))) ∧ (bad i x = false → ∃ t', body (mk i t) = pure (.next (mk (i + 1) t')) ∧ I (i + 1) t'))
    (h2 : ∀ t, I l.length t → body (mk l.length t) = pure (.done (.brk (g t)))) (t0 : τ) (h0 : I 0 t0) :
    (l.zipIdx.any (fun y => bad y.2 y.1) = true ∧ loop body (mk 0 t0) = pure (.ret r)) ∨ (l.zipIdx.any (fun y => bad y.2 y.1) = false ∧ ∃ t, loop body (mk 0 t0) = pure (.brk (g t)) ∧ I l.length t) := by
  have key : ∀ k i t, i + k = l.length → I i t → (((l.drop i).zipIdx i).any (fun y => bad y.2 y.1) = true ∧ loop body (mk i t) = pure (.ret r)) ∨ (((l.drop i).zipIdx i).any (fun y => bad y.2 y.1) = false ∧ ∃ t', loop body (mk i t) = pure (.brk (g t')) ∧ I l.length t') := by
    intro k
    induction k with
    | zero =>
      intro i t hi hI
      have : i = l.length := by omega
      subst this
      rw [List.drop_length]
      exact .inr ⟨rfl, t, loop_done (h2 t hI), hI⟩
    | succ k ih =>
      intro i t hi hI
      have hlt : i < l.length := by omega
      obtain ⟨h3, h4⟩ := h1 i l[i] t (List.getElem?_eq_getElem hlt) hlt hI
      rw [List.drop_eq_getElem_cons hlt, List.zipIdx_cons, List.any_cons]
      cases hp : bad i l[i] with
      | true => exact .inl ⟨rfl, loop_done (h3 hp)⟩
      | false =>
        obtain ⟨t', h5, h6⟩ := h4 hp
        rw [loop_next h5, Bool.false_or]
        exact ih (i + 1) t' (by omega) h6
  simpa using key l.length 0 t0 (by omega) h0

theorem over_l {A : A16} {L : List Int} (h : L.length = 16) : AR.l (AR.over A L) = L := by
  rw [AR.l_over, List.take_of_length_le (by omega), h, List.drop_eq_nil_of_le (by rw [AR.l_len]; omega), List.append_nil]
theorem over_get {A : A16} {L : List Int} (h : L.length = 16) (i : Nat) : AR.get (AR.over A L) i = L.getD i 0 := by
  unfold AR.get; rw [over_l h]
/-- Is a member's number wrong? its slot, its try? does its slot come again? -/
def bad1 (la : Int) (l : List TMember) (i : Nat) (x : TMember) : Bool := decide (x.dev = 0) || (decide (la < x.dev) || (decide (0 < i) && decide (x.dev ≤ (l.getD (i - 1) zM).dev)))
def bad2 (tr : List Int) (x : TMember) : Bool := decide (16 ≤ x.slot) || (decide (x.try_ = 0) || !decide (tr.getD x.slot.toNat 0 = x.try_))
def badF (la : Int) (l : List TMember) (tr : List Int) (i : Nat) (x : TMember) : Bool := bad1 la l i x || (bad2 tr x || (fnd (atS x.slot) (l.take i)).2)
def head0 (e : Int) (tr : List Int) : Bool := decide (e = 0) || (decide (281474976710655 < e) || !decide ((tr.length : Int) = 16))
def fromB (e la : Int) (l : List TMember) (tr : List Int) : Bool := !(head0 e tr) && !(l.zipIdx.any fun y => badF la l tr y.2 y.1)
theorem cond_tt (a b c : Bool) : (cond a (pure true) (cond b (pure true) (pure c)) : M Bool) = pure (a || (b || c)) := by cases a <;> cases b <;> rfl
theorem take_snoc {ε : Type} {l : List ε} {i : Nat} {x : ε} (h : l[i]? = some x) : l.take (i + 1) = l.take i ++ [x] := by
  obtain ⟨hlt, rfl⟩ := List.getElem?_eq_some_iff.1 h
  exact List.take_append_getElem hlt ▸ rfl
theorem b1_eq {la : Int} {l : List TMember} {i : Nat} {x : TMember} (hi : i < l.length) (hl : l.length ≤ 1000) {c : M Bool} :
    (cond (decide (x.dev = 0)) (pure true) (cond (decide (la < x.dev)) (pure true) (cond (decide ((0 : Int) < (i : Int))) ((idx l (IntKind.i64.wrap ((i : Int) - 1))).bind fun x61 => cond (decide (x.dev ≤ x61.dev)) (pure true) c) c)) : M Bool) = cond (bad1 la l i x) (pure true) c := by
  unfold bad1
  cases decide (x.dev = 0) with
  | true => rfl
  | false =>
    cases decide (la < x.dev) with
    | true => rfl
    | false =>
      rw [cond_false, cond_false, Bool.false_or, Bool.false_or]
      by_cases h0 : 0 < i
      · have hw : IntKind.i64.wrap ((i : Int) - 1) = ((i - 1 : Nat) : Int) := by rw [wI64 (by omega) (by omega)]; omega
        have hg : l[i - 1]? = some (l.getD (i - 1) zM) := by
          rw [List.getD_eq_getElem?_getD, List.getElem?_eq_getElem (by omega)]; rfl
        rw [decide_eq_true (by omega), decide_eq_true h0, cond_true, hw, idx_nat hg, pure_bind, Bool.true_and]
      · rw [decide_eq_false (by omega), decide_eq_false h0, cond_false, Bool.false_and, cond_false]
theorem From_eq {e la : Int} {l : List TMember} {tr : List Int} (he : 0 ≤ e) (h0 : 0 ≤ la) (h1 : la ≤ 65535) (hl : l.length ≤ 900) (hd : ∀ x ∈ l, 0 ≤ x.dev ∧ 0 ≤ x.slot) :
    (fromB e la l tr = false ∧ roster_From_o e la l tr = pure (.inl ())) ∨ (fromB e la l tr = true ∧ tr.length = 16 ∧ ∃ m, roster_From_o e la l tr = pure (.inr (e, la, AR.over z16 tr, false, m)) ∧ Rep l.length ⟨e, la, l, AR.over z16 tr⟩ m) := by
  unfold roster_From_o fromB head0
  rw [cond_tt, pure_bind]
  cases hh : decide (e = 0) || (decide (281474976710655 < e) || !decide ((tr.length : Int) = 16)) with
  | true => exact .inl ⟨rfl, rfl⟩
  | false =>
    rw [Bool.or_eq_false_iff, Bool.or_eq_false_iff, Bool.not_eq_false'] at hh
    have h16 : tr.length = 16 := by
      have := of_decide_eq_true hh.2.2
      omega
    have he0 := of_decide_eq_false hh.1
    have he1 := of_decide_eq_false hh.2.1
    rw [cond_false, Bool.not_false, Bool.true_and, show roster_New_o = pure (1, 0, z16, false, []) from rfl, det_pure, pure_bind]
    have key := loopB (body := roster_From_o_l0 l la (1, 0, z16, false, []) tr e) l (fun i (m : List (Int × TMember)) => ((i : Int), m)) (fun m => m) (badF la l tr) (.inl ())
      (fun i m => Holds m (l.take i) ∧ SrtM (l.take i) ∧ ∀ a ∈ l.take i, 1 ≤ a.dev ∧ a.dev ≤ la) (fun i x m hx hi hI => ?_) (fun m _ => ?_) [] ⟨List.Perm.refl _, by rw [List.take_zero]; exact List.Pairwise.nil, fun a ha => by rw [List.take_zero] at ha; cases ha⟩
    · rcases key with ⟨k1, k2⟩ | ⟨k1, m, k2, k3, k4, k5⟩
      · refine .inl ⟨by rw [k1]; rfl, ?_⟩
        rw [show ((0 : Nat) : Int) = 0 from rfl] at k2
        show M.bind (loop _ (0, [])) _ = _
        rw [k2]; rfl
      · rw [List.take_length] at k3 k4 k5
        refine .inr ⟨by rw [k1]; rfl, h16, m, ?_, by show 1 ≤ e; omega, by show e ≤ _; omega, h0, h1, k3, k4, k5, Nat.le_refl _, by show l.length ≤ 1000; omega⟩
        rw [show ((0 : Nat) : Int) = 0 from rfl] at k2
        show M.bind (loop _ (0, [])) _ = _
        rw [k2]; rfl
    · obtain ⟨hm, hs, hb⟩ := hI
      have hx2 := hd x (List.mem_of_getElem? hx)
      have hti : (l.take i).length = i := by rw [List.length_take]; omega
      have hbody : roster_From_o_l0 l la (1, 0, z16, false, []) tr e ((i : Int), m) = cond (badF la l tr i x) (pure (.done (.ret (.inl ())))) (pure (.next (((i + 1 : Nat) : Int), AL.set m x.dev x))) := by
        show cond (decide ((i : Int) < (l.length : Int))) _ _ = _
        rw [decide_eq_true (by omega), cond_true, idx_nat hx, pure_bind]
        have hb1 := b1_eq (la := la) (x := x) hi (by omega) (c := pure false)
        have hb2 : (cond (decide (16 ≤ x.slot)) (pure true) (cond (decide (x.try_ = 0)) (pure true) (need ((0 : Int) ≤ x.slot ∧ x.slot < ((16 : Nat) : Int)) (pure (!decide (AR.get (AR.over z16 tr) x.slot.toNat = x.try_))))) : M Bool) = pure (bad2 tr x) := by
          unfold bad2
          cases hc : decide (16 ≤ x.slot) with
          | true => rfl
          | false =>
            have := of_decide_eq_false hc
            rw [cond_false, need_true ⟨hx2.2, by omega⟩, over_get h16, cond_pure_or, Bool.false_or]
        have hb1' : (cond (decide (x.dev = 0)) (pure true) (cond (decide (la < x.dev)) (pure true) (cond (decide ((0 : Int) < (i : Int))) ((idx l (IntKind.i64.wrap ((i : Int) - 1))).bind fun x61 => pure (decide (x.dev ≤ x61.dev))) (pure false))) : M Bool) = pure (bad1 la l i x) := by
          rw [show (cond (bad1 la l i x) (pure true) (pure false) : M Bool) = pure (bad1 la l i x) by cases bad1 la l i x <;> rfl] at hb1
          rw [← hb1]
          congr 3
          refine congrArg (fun z => M.bind _ z) (funext fun y => ?_)
          cases decide (x.dev ≤ y.dev) <;> rfl
        show M.bind (cond (decide (x.dev = 0)) _ _) _ = _
        rw [hb1', pure_bind]
        unfold badF
        cases bad1 la l i x with
        | true => rfl
        | false =>
          show M.bind (cond (decide (16 ≤ x.slot)) _ _) _ = _
          rw [hb2, pure_bind]
          cases bad2 tr x with
          | true => rfl
          | false =>
            show M.bind (det (roster_Roster_Of_o _ _ _ _ _ _)) _ = _
            rw [Of_eq (by omega) hm hs (by rw [hti]; omega), det_pure, pure_bind]
            show cond (fnd (atS x.slot) (l.take i)).2 _ _ = _
            rw [need_true rfl, wSucc (by omega)]
            rfl
      rw [hbody]
      constructor
      · intro h; rw [h]; rfl
      · intro h
        rw [h]
        refine ⟨AL.set m x.dev x, rfl, ?_⟩
        unfold badF bad1 at h
        simp only [Bool.or_eq_false_iff] at h
        have d0 := of_decide_eq_false h.1.1
        have d1 := of_decide_eq_false h.1.2.1
        have d2 := h.1.2.2
        have hlast : ∀ y ∈ l.take i, y.dev < x.dev := fun y hy => by
          have hi0 : 0 < i := by
            rcases Nat.eq_zero_or_pos i with h | h
            · subst h; rw [List.take_zero] at hy; cases hy
            · exact h
          rw [decide_eq_true hi0, Bool.true_and] at d2
          have d3 := of_decide_eq_false d2
          have hg : l[i - 1]? = some (l.getD (i - 1) zM) := by
            rw [List.getD_eq_getElem?_getD, List.getElem?_eq_getElem (by omega)]; rfl
          have e1 := take_snoc hg
          rw [Nat.sub_add_cancel hi0] at e1
          rw [e1] at hy hs
          rcases List.mem_append.1 hy with hy | hy
          · have := (List.pairwise_append.1 hs).2.2 y hy _ (List.mem_singleton.2 rfl)
            omega
          · rw [List.mem_singleton.1 hy]; omega
        rw [take_snoc hx]
        exact ⟨hm.snoc hs hlast, srtM_snoc hs hlast, fun a ha => by
          rcases List.mem_append.1 ha with ha | ha
          · exact hb a ha
          · rw [List.mem_singleton.1 ha]; omega⟩
    · show cond (decide ((l.length : Int) < (l.length : Int))) _ _ = _
      rw [decide_eq_false (by omega)]; rfl
theorem rosterPlays_eq (la : Int) (l : List L26Act) (h1 : 0 ≤ la ∧ la ≤ 65535) (hl : ∀ a ∈ l, 0 ≤ a.slot) : l26_RosterPlays la l = pure true := by
  unfold l26_RosterPlays
  cases hc : decide (60 < (l.length : Int)) with
  | true => rw [cond_true, works_eq, det_pure, pure_bind]
  | false =>
    have hlen := of_decide_eq_false hc
    rw [cond_false, need_true (by omega)]
    rcases From_eq (e := 1) (la := la) (l := []) (tr := List.replicate (Int.toNat 16) 0) (by omega) h1.1 h1.2 (by simp) (by simp) with ⟨k1, k2⟩ | ⟨k1, h16, m, k2, k3⟩
    · rw [show fromB 1 la [] (List.replicate (Int.toNat 16) 0) = true from rfl] at k1; cases k1
    rw [k2, det_pure, pure_bind]
    show M.bind (loop (l26_RosterPlays_l0 l) _) _ = _
    have key := loopE (body := l26_RosterPlays_l0 l) l (fun i (y : R26Roster × List (Int × TMember)) => ((i : Int), y.1.epoch, y.1.last, y.1.l, y.1.tries, y.1.epoch, y.1.last, y.1.tries, false, y.2)) (fun i y => Rep i y.1 y.2 ∧ y.1.epoch ≤ 1 + i)
      (fun r => ∃ y : R26Roster × List (Int × TMember), r = .brk (y.1.epoch, y.1.last, y.1.l, y.1.tries, y.1.epoch, y.1.last, y.1.tries, false, y.2) ∧ Rep l.length y.1 y.2) (fun i a y ha hi hI => ?_) (fun y hI => ?_) (⟨1, la, [], AR.over z16 (List.replicate (Int.toNat 16) 0)⟩, m) ⟨k3, by show (1 : Int) ≤ 1 + _; omega⟩
    · obtain ⟨r, e1, y, e2, e3⟩ := key
      subst e2
      rw [show AR.over z16 (List.replicate (Int.toNat 16) 0) = z16 from rfl] at e1 ⊢
      show M.bind (loop _ ((0 : Int), 1, la, [], z16, 1, la, z16, false, m)) _ = _
      rw [show (((0 : Nat) : Int)) = 0 from rfl] at e1
      rw [e1, pure_bind, exk_brk]
      dsimp only
      have hI := Is_eq e3
      rw [hI, det_pure, pure_bind, decide_eq_true rfl, cond_true, works_eq, det_pure, pure_bind, pure_bind]
    · obtain ⟨x, m⟩ := y
      obtain ⟨hr, he⟩ := hI
      dsimp only at hr he ⊢
      have hsl := hl a (List.mem_of_getElem? ha)
      -- what the act does
      have hact : ∃ x' m', Rep (i + 1) x' m' ∧ x'.epoch ≤ 1 + (i + 1 : Nat) ∧ (M.bind (cond (decide (a.kind = 0)) (pure (decide (a.kind = 0))) (pure (decide (a.kind = 1)))) (fun v151 =>
          cond v151
            (M.bind (det (roster_Roster_Join_o a.slot a.try_ x.epoch x.last x.tries false m)) fun y154 =>
            M.bind (det (r26_Join (⟨x.epoch, x.last, x.l, x.tries⟩ : R26Roster) a.slot a.try_)) fun v156 =>
            M.bind (cond (((decide (y154.1.dev = v156.2.1.dev) && (decide (y154.1.slot = v156.2.1.slot) && decide (y154.1.try_ = v156.2.1.try_)))))
              (cond (decide (y154.2.1 = v156.2.2.1))
                (pure (decide (y154.2.2.1 = v156.2.2.2)))
                (pure false))
              (pure false)) (fun ok158 =>
            pure (ok158, v156.1.epoch, v156.1.last, v156.1.l, v156.1.tries, y154.2.2.2.1, y154.2.2.2.2.1, y154.2.2.2.2.2.1, y154.2.2.2.2.2.2.1, y154.2.2.2.2.2.2.2)))
            (cond (decide (a.kind = 2))
              (M.bind (det (r26_Remove (⟨x.epoch, x.last, x.l, x.tries⟩ : R26Roster) a.dev)) fun v162 =>
              M.bind (det (roster_Roster_Remove_o a.dev x.epoch x.last x.tries false m)) fun y164 =>
              pure (((decide (y164.1 = v162.2)), v162.1.epoch, v162.1.last, v162.1.l, v162.1.tries, y164.2.1, y164.2.2.1, y164.2.2.2.1, y164.2.2.2.2.1, y164.2.2.2.2.2)))
              (M.bind (det (roster_Roster_Check_o a.dev a.epoch x.epoch x.last x.tries false m)) fun y166 =>
              M.bind (det (r26_Check (⟨x.epoch, x.last, x.l, x.tries⟩ : R26Roster) a.dev a.epoch)) fun v168 =>
              pure (((decide (y166 = v168)), x.epoch, x.last, x.l, x.tries, x.epoch, x.last, x.tries, false, m))))) : M (Bool × Int × Int × List TMember × A16 × Int × Int × A16 × Bool × List (Int × TMember))) = pure (true, x'.epoch, x'.last, x'.l, x'.tries, x'.epoch, x'.last, x'.tries, false, m') := by
        rw [show (cond (decide (a.kind = 0)) (pure (decide (a.kind = 0))) (pure (decide (a.kind = 1))) : M Bool) = pure (decide (a.kind = 0) || decide (a.kind = 1)) by cases decide (a.kind = 0) <;> rfl, pure_bind]
        cases decide (a.kind = 0) || decide (a.kind = 1) with
        | true =>
          obtain ⟨m', e1, e2⟩ := Join_eq hr (by omega) (by omega) (s := a.slot) (t := a.try_) hsl
          have e3 := rJoin_eq hr (s := a.slot) (t := a.try_) hsl
          refine ⟨_, m', e2, ?_, ?_⟩
          · unfold joinS
            cases decide (16 ≤ a.slot) || decide (a.try_ = 0) with
            | true => show x.epoch ≤ _; omega
            | false =>
              cases decide (a.try_ < AR.get x.tries a.slot.toNat) || (decide (a.try_ = AR.get x.tries a.slot.toNat) && !(fnd (atS a.slot) x.l).2) with
              | true => show x.epoch ≤ _; omega
              | false =>
                cases decide (a.try_ = AR.get x.tries a.slot.toNat) with
                | true => show x.epoch ≤ _; omega
                | false =>
                  cases decide (x.last = 65535) with
                  | true => show x.epoch ≤ _; omega
                  | false => show x.epoch + 1 ≤ _; omega
          · rw [cond_true, e1, det_pure, pure_bind]
            show M.bind (det (r26_Join x a.slot a.try_)) _ = _
            rw [e3, det_pure, pure_bind]
            generalize joinS x a.slot a.try_ = q
            simp [pure_bind]
        | false =>
          rw [cond_false]
          cases decide (a.kind = 2) with
          | true =>
            obtain ⟨m', e1, e2⟩ := Remove_eq hr (by omega) a.dev
            have e3 := rRemove_eq hr a.dev
            refine ⟨_, m', e2.up (by omega) (by omega), ?_, ?_⟩
            · unfold removeS
              cases !(fnd (atD a.dev) x.l).2 with
              | true => show x.epoch ≤ _; omega
              | false => show x.epoch + 1 ≤ _; omega
            · rw [cond_true]
              show M.bind (det (r26_Remove x a.dev)) _ = _
              rw [e3, det_pure, pure_bind, e1, det_pure, pure_bind]
              generalize removeS x a.dev = q
              simp
          | false =>
            refine ⟨x, m, hr.up (by omega) (by omega), by omega, ?_⟩
            rw [cond_false, Check_eq hr, det_pure, pure_bind]
            show M.bind (det (r26_Check x a.dev a.epoch)) _ = _
            rw [rCheck_eq hr, det_pure, pure_bind]
            simp
      obtain ⟨x', m', r', e', hb⟩ := hact
      have hl' : x'.l.length ≤ 1000000000 := by have := r'.len; omega
      refine ⟨(x', m'), ?_, r', e'⟩
      show cond (decide ((i : Int) < (l.length : Int))) _ _ = _
      rw [decide_eq_true (by omega), cond_true, idx_nat ha, pure_bind]
      refine (congrArg (fun z => M.bind z _) hb).trans ?_
      rw [pure_bind]
      dsimp only
      rw [Get_eq r'.e1 r'.hm r'.hs, det_pure, pure_bind]
      show M.bind (det (r26_Get x' a.dev)) _ = _
      rw [rGet_eq hl', det_pure, pure_bind, Of_eq r'.e1 r'.hm r'.hs hl', det_pure, pure_bind]
      show M.bind (det (r26_Of x' a.slot)) _ = _
      rw [rOf_eq hl', det_pure, pure_bind]
      have hI : l26_Is_o (⟨x'.epoch, x'.last, x'.l, x'.tries⟩ : R26Roster) x'.epoch x'.last x'.tries false m' = pure 1 := Is_eq r'
      rw [hI, det_pure, pure_bind]
      simp [pure_bind, wSucc (show i < 9223372036854775807 by omega)]
    · obtain ⟨x, m⟩ := y
      refine ⟨_, ?_, (x, m), rfl, hI.1⟩
      show cond (decide ((l.length : Int) < (l.length : Int))) _ _ = _
      rw [decide_eq_false (by omega)]; rfl


/-- What was given out and is gone. -/
structure Gone (g : List Bool) (x : R26Roster) : Prop where
  len : g.length = 65536
  on : ∀ d : Nat, g[d]? = some true → (d : Int) ≤ x.last ∧ ∀ a ∈ x.l, a.dev ≠ d
theorem Gone.sub {g : List Bool} {x x' : R26Roster} (h : Gone g x) (h1 : x.last ≤ x'.last) (h2 : ∀ a ∈ x'.l, a ∈ x.l ∨ x.last < a.dev) : Gone g x' :=
  ⟨h.len, fun d hd => by
    obtain ⟨h3, h4⟩ := h.on d hd
    refine ⟨by omega, fun a ha => ?_⟩
    rcases h2 a ha with h5 | h5
    · exact h4 a h5
    · omega⟩
theorem Gone.put {g : List Bool} {x' : R26Roster} (h : Gone g x') {d : Int} (h0 : 0 ≤ d) (h1 : d ≤ x'.last) (h2 : ∀ a ∈ x'.l, a.dev ≠ d) : Gone (g.set d.toNat true) x' :=
  ⟨by rw [List.length_set]; exact h.len, fun q hq => by
    rw [List.getElem?_set] at hq
    split at hq
    · rename_i e; subst e
      refine ⟨by omega, fun a ha e => h2 a ha (by omega)⟩
    · exact h.on q hq⟩
end Go.Ep.M.H

namespace Go.Ep
open Go.RowKit Go.ChangeShapes Go.WideShapes

abbrev All : Nat → Prop := fun _ => True

mutual
/-- How many values and letters a reading holds. -/
def bulk {H : Type} : DataW H → Nat
  | .lit (.string bytes) => bytes.length + 1
  | .lit _ => 1
  | .nil => 1
  | .ptr d => bulk d + 1
  | .slice elems spare => bulkAll elems + bulkAll spare + 1
  | .agg parts => bulkAll parts + 1
  | .iface _ d => bulk d + 1
  | .map entries => bulkEntries entries + 1
  | .held _ => 1
def bulkAll {H : Type} : List (DataW H) → Nat
  | [] => 0
  | d :: r => bulk d + bulkAll r
def bulkEntries {H : Type} : List (Lit × DataW H) → Nat
  | [] => 0
  | x :: r => bulkEntry x + bulkEntries r
def bulkEntry {H : Type} : Lit × DataW H → Nat
  | (.string bytes, d) => bytes.length + bulk d + 1
  | (_, d) => bulk d + 1
end
theorem one_bulk {H : Type} (d : DataW H) : 1 ≤ bulk d := by
  cases d with
  | lit l => cases l <;> simp [bulk]
  | nil => simp [bulk]
  | ptr d => simp [bulk]
  | slice elems spare => simp [bulk]
  | agg parts => simp [bulk]
  | iface t d => simp [bulk]
  | map entries => simp [bulk]
  | held h => simp [bulk]
theorem bulkAll_app {H : Type} (l r : List (DataW H)) : bulkAll (l ++ r) = bulkAll l + bulkAll r := by
  induction l with
  | nil => simp [bulkAll]
  | cons x l ih => simp only [List.cons_append, bulkAll, ih]; omega
def szL {α : Type} (sz : α → Nat) : List α → Nat
  | [] => 0
  | a :: r => sz a + szL sz r
theorem szL_app {α : Type} (sz : α → Nat) (l r : List α) : szL sz (l ++ r) = szL sz l + szL sz r := by
  induction l with
  | nil => simp [szL]
  | cons x l ih => simp only [List.cons_append, szL, ih]; omega
/-- What is read at this type is data of this kind. -/
structure Opn (P : Program) (t : TypeId) (k : Nat) {α : Type} (enc : α → List DV) (ok : α → Prop) (sz : α → Nat) : Prop where
  cells : P.cellsOf t = k
  op : ∀ {H : Type} {en : TypeId × Value → H} {w : World} {fuel : Nat} {cs : List Value} {x : DataW H × List MemPlace}, DataW.trod en P w 0 (fun _ => true) true fuel t cs = some x →
    ∃ a, ok a ∧ cs.length = k ∧ (enc a).length = k ∧ (∀ (j : Nat) (y : DV) (u : Value), (enc a)[j]? = some y → cs[j]? = some u → DRd w All y u) ∧ sz a ≤ bulk x.1

section
variable {P : Program} {t : TypeId}

theorem Opn.map {k : Nat} {α β : Type} {enc : α → List DV} {enc' : β → List DV} {ok : α → Prop} {ok' : β → Prop} {sz : α → Nat} {sz' : β → Nat} (h : Opn P t k enc ok sz) (f : α → β) (he : ∀ a, ok a → enc' (f a) = enc a) (ho : ∀ a, ok a → ok' (f a)) (hz : ∀ a, sz' (f a) ≤ sz a) : Opn P t k enc' ok' sz' :=
  ⟨h.cells, fun hx => let ⟨a, h1, h2, h3, h4, h5⟩ := h.op hx; ⟨f a, ho a h1, h2, by rw [he a h1]; exact h3, by rw [he a h1]; exact h4, Nat.le_trans (hz a) h5⟩⟩

theorem one_get {w : World} {y : DV} {u : Value} (h : DRd w All y u) : ∀ (j : Nat) (y' : DV) (u' : Value), [y][j]? = some y' → [u][j]? = some u' → DRd w All y' u' := by
  intro j y' u' h1 h2
  cases j with
  | zero => simp at h1 h2; subst h1; subst h2; exact h
  | succ j => simp at h1

def okK (k : IntKind) (n : Int) : Prop := (Lit.int k n).wf = true
theorem Opn.int {k : IntKind} (hu : P.underlying t = some (.int k)) (hc : P.cellsOf t = 1) : Opn P t 1 (eK k) (okK k) (fun _ => 1) := by
  refine ⟨hc, fun {H en w fuel cs x} h => ?_⟩
  cases fuel with
  | zero => simp [DataW.trod] at h
  | succ fuel =>
    unfold DataW.trod at h
    rw [hu] at h
    split at h <;> simp_all
    case h_2 n _ =>
      obtain ⟨⟨h1, h2⟩, _⟩ := h
      subst h1
      refine ⟨n, h2, rfl, ?_, one_bulk _⟩
      intro j y u h1 h3
      exact one_get (.v _ rfl) j y u h1 h3
theorem okU16 {n : Int} (h : okK .u16 n) : 0 ≤ n ∧ n < 65536 := by
  simp [okK, Lit.wf, IntKind.min, IntKind.max, IntKind.signed, IntKind.bits] at h; omega
theorem okU8 {n : Int} (h : okK .u8 n) : 0 ≤ n ∧ n < 256 := by
  simp [okK, Lit.wf, IntKind.min, IntKind.max, IntKind.signed, IntKind.bits] at h; omega
theorem Opn.slice {e : TypeId} {k : Nat} {α : Type} {enc : α → List DV} {ok : α → Prop} {sz : α → Nat} (h : Opn P e k enc ok sz) (hu : P.underlying t = some (.slice e)) (hc : P.cellsOf t = 1) (hk : 0 < k) :
    Opn P t 1 (eL enc) (fun l => l.length ≤ 9223372036854775807 ∧ ∀ a ∈ l, ok a) (fun l => szL sz l + 1) := by
  refine ⟨hc, fun {H en w fuel cs x} hx => ?_⟩
  rcases Deep.open_slice hu hx with ⟨rfl, _⟩ | ⟨a, len, cap, m, n, D, Pl, rfl, _, hl, hm, hmm, hxD, hel⟩
  · exact ⟨[], ⟨Nat.zero_le _, by simp⟩, rfl, rfl, one_get (.nil none 0 (Nat.zero_le _) (fun _ => rfl)), one_bulk _⟩
  simp only [if_true] at hmm
  subst hmm
  rw [h.cells] at hel
  have hcut : ∀ n0, n0 ≤ len → ∃ l : List α, l.length = n0 ∧ (∀ a ∈ l, ok a) ∧ szL sz l ≤ bulkAll ((List.range n0).map D) ∧ ∀ (i : Nat) (b : α), l[i]? = some b → (enc b).length = k ∧ ∀ (j : Nat) (y : DV), (enc b)[j]? = some y → ∃ u, w.cell? (a.add (i * k + j)) = some u ∧ DRd w All y u := by
    intro n0
    induction n0 with
    | zero => intro _; exact ⟨[], rfl, by simp, by simp [szL], by simp⟩
    | succ n0 ih =>
      intro hn
      obtain ⟨l, h1, h2, hz, h3⟩ := ih (by omega)
      obtain ⟨cs', hc', ht'⟩ := hel n0 (by omega)
      obtain ⟨b, hb1, hb2, hb3, hb4, hb5⟩ := h.op ht'
      obtain ⟨_, _, hcell⟩ := World.cells?_some hc'
      refine ⟨l ++ [b], by simp [h1], ?_, by rw [szL_app, List.range_succ, List.map_append, bulkAll_app]; simp only [szL, List.map_cons, List.map_nil, bulkAll]; simp only at hb5; omega, ?_⟩
      · intro a ha
        rcases List.mem_append.1 ha with ha | ha
        · exact h2 a ha
        · simp at ha; subst ha; exact hb1
      · intro i b' hi
        rw [List.getElem?_append] at hi
        split at hi
        · exact h3 i b' hi
        · rename_i hge
          have hi0 : i = n0 := by
            have : i - l.length < 1 := by simpa using (List.getElem?_eq_some_iff.1 hi).1
            omega
          subst hi0
          simp [h1] at hi
          subst hi
          refine ⟨hb3, fun j y hy => ?_⟩
          have hj : j < k := by rw [← hb3]; exact (List.getElem?_eq_some_iff.1 hy).1
          have hcj := hcell j hj
          rw [Deep.add_add] at hcj
          have hu' : cs'[j]? = some (cs'[j]'(by omega)) := List.getElem?_eq_getElem (by omega)
          exact ⟨_, by rw [hcj, hu'], hb4 j y _ hy hu'⟩
  obtain ⟨l, h1, h2, hz, h3⟩ := hcut len (Nat.le_refl _)
  refine ⟨l, ⟨by unfold maxLen at hm; omega, h2⟩, rfl, rfl, one_get ?_, ?_⟩
  rotate_left
  · rw [hxD]; simp only [bulk]; omega
  by_cases h0 : len = 0
  · have : l = [] := List.eq_nil_of_length_eq_zero (by omega)
    subst this
    subst h0
    exact .nil _ _ hm (fun e => by cases e)
  · -- the first cell tells that the address is a plain one
    have hl0 : 0 < l.length := by omega
    obtain ⟨hk0, hc0⟩ := h3 0 _ (List.getElem?_eq_getElem hl0)
    obtain ⟨u0, hu0, _⟩ := hc0 0 _ (List.getElem?_eq_getElem (by omega : 0 < (enc l[0]).length))
    have hspot : a.spot = none := by simpa [Addr.add] using World.cell?_spot hu0
    obtain ⟨b, off, spot⟩ := a
    simp only at hspot
    subst hspot
    have hb : b < w.heap.size := by
      rw [Addr.add_lit] at hu0
      unfold World.cell? at hu0
      cases hh : w.heap[b]? with
      | none => simp [hh] at hu0
      | some o => exact (Array.getElem?_eq_some_iff.1 hh).1
    have hlen : (l.map enc).length = len := by simp [h1]
    rw [← hlen]
    refine .sl _ b off m k (fun i j => (w.cell? ⟨b, off + (i * k + j), none⟩).getD undef) (by omega) hm trivial hb ?_ ?_ ?_
    · intro i cs hi
      rw [List.getElem?_map] at hi
      cases hx : l[i]? with
      | none => simp [hx] at hi
      | some y => simp [hx] at hi; subst hi; exact (h3 i y hx).1
    · intro i j hi hj
      have hil : i < l.length := by simpa using hi
      obtain ⟨e1, e2⟩ := h3 i _ (List.getElem?_eq_getElem hil)
      obtain ⟨u, hu, _⟩ := e2 j _ (List.getElem?_eq_getElem (by omega : j < (enc l[i]).length))
      rw [Addr.add_lit] at hu
      simp [hu]
    · intro i cs j x hi hx
      rw [List.getElem?_map] at hi
      cases hy : l[i]? with
      | none => simp [hy] at hi
      | some y =>
        simp [hy] at hi
        subst hi
        obtain ⟨u, hu, hd⟩ := (h3 i y hy).2 j x hx
        rw [Addr.add_lit] at hu
        simpa [hu] using hd

/-- The fields from offset off on. -/
structure OpnF (P : Program) (fs : List Field) (off k : Nat) {α : Type} (enc : α → List DV) (ok : α → Prop) (sz : α → Nat) : Prop where
  op : ∀ {H : Type} {en : TypeId × Value → H} {w : World} {n : Nat} {cs : List Value} {xs : List (DataW H × List MemPlace)}, xs.length = fs.length →
    (∀ (i : Nat) (f : Field), fs[i]? = some f → DataW.trod en P w 0 (fun _ => true) true n f.type ((cs.drop f.offset).take (P.cellsOf f.type)) = xs[i]?) →
    ∃ a, ok a ∧ (enc a).length = k ∧ (∀ (j : Nat) (y : DV) (u : Value), (enc a)[j]? = some y → cs[off + j]? = some u → DRd w All y u) ∧ sz a ≤ bulkAll (xs.map (·.1))

theorem OpnF.nil (off : Nat) : OpnF P [] off 0 (fun _ : Unit => []) (fun _ => True) (fun _ => 0) := ⟨fun _ _ => ⟨(), trivial, rfl, by simp, Nat.zero_le _⟩⟩
theorem OpnF.cons {f : Field} {fs : List Field} {off k1 k2 : Nat} {α β : Type} {e1 : α → List DV} {o1 : α → Prop} {e2 : β → List DV} {o2 : β → Prop} {z1 : α → Nat} {z2 : β → Nat} (h1 : Opn P f.type k1 e1 o1 z1) (ho : f.offset = off) (h2 : OpnF P fs (off + k1) k2 e2 o2 z2) :
    OpnF P (f :: fs) off (k1 + k2) (fun p : α × β => e1 p.1 ++ e2 p.2) (fun p => o1 p.1 ∧ o2 p.2) (fun p => z1 p.1 + z2 p.2) := by
  refine ⟨fun {H en w n cs xs} hlen hx => ?_⟩
  cases xs with
  | nil => simp at hlen
  | cons x xs =>
    have hx0 := hx 0 f rfl
    simp only [List.getElem?_cons_zero] at hx0
    obtain ⟨a, ha1, ha2, ha3, ha4, ha5⟩ := h1.op hx0
    obtain ⟨b, hb1, hb2, hb3, hb4⟩ := h2.op (xs := xs) (by simpa using hlen) (fun i f' hf => by have := hx (i + 1) f' (by simpa using hf); simpa using this)
    refine ⟨(a, b), ⟨ha1, hb1⟩, by simp [ha3, hb2], ?_, by simp only [List.map_cons, bulkAll]; omega⟩
    intro j y u hy hu
    simp only [List.getElem?_append] at hy
    by_cases hj : j < k1
    · rw [if_pos (by omega)] at hy
      refine ha4 j y u hy ?_
      rw [List.getElem?_take, h1.cells, if_pos hj, List.getElem?_drop, ho]
      exact hu
    · rw [if_neg (by omega), ha3] at hy
      refine hb3 (j - k1) y u hy ?_
      rw [← hu]
      congr 1
      omega
theorem Opn.struct {fs : List Field} {k : Nat} {α : Type} {enc : α → List DV} {ok : α → Prop} {sz : α → Nat} (hu : P.underlying t = some (.struct fs.toArray)) (hc : P.cellsOf t = k) (h : OpnF P fs 0 k enc ok sz) : Opn P t k enc ok (fun a => sz a + 1) := by
  refine ⟨hc, fun {H en w fuel cs x} hx => ?_⟩
  obtain ⟨xs, n, _, hxe, hlen, hxl, hf⟩ := DataW.trod_struct hu hx
  obtain ⟨a, h1, h2, h3, h4⟩ := h.op (cs := cs) (xs := xs) (by simpa using hxl) (fun i f hi => hf i f (by simpa using hi))
  exact ⟨a, h1, by rw [hlen, hc], h2, fun j y u hy hu => h3 j y u hy (by simpa using hu), by rw [hxe]; simp only [bulk]; omega⟩

/-- A one-cell argument. -/
theorem Opn.arg {H : Type} {en : TypeId × Value → H} {w : World} {v : Value} {d : DataW H} {ps : List MemPlace} {α : Type} {enc : α → DV} {ok : α → Prop} {sz : α → Nat} (h : Opn P t 1 (fun a => [enc a]) ok sz)
    (hx : DataW.Trod en P w 0 (fun _ => true) true t v d ps) (h1 : v.oneCell' = true) : ∃ a, ok a ∧ Rd w g0 All (.d (enc a)) v ∧ sz a ≤ bulk d := by
  obtain ⟨fuel, hf⟩ := hx
  obtain ⟨a, ha, _, _, hr, hz⟩ := h.op hf
  have hcs : v.cells.toList = [v] := by cases v <;> first | rfl | (simp [Value.oneCell'] at h1; done)
  exact ⟨a, ha, .d (hr 0 _ v rfl (by rw [hcs]; rfl)), hz⟩
theorem trodAll_below {H : Type} {en : TypeId × Value → H} (hl : laidOutB P = true) {W W' : World} (hb : Below W.heap.size W W') : ∀ {ts : List TypeId} {vs : List Value} {ds : List (DataW H)} {ps : List MemPlace},
    (∀ t ∈ ts, P.readableRec t = true ∧ t < P.types.size) → DataW.TrodAll en P W 0 (fun _ => true) true ts vs ds ps → (∀ x ∈ ps, x.block < W.heap.size) → DataW.TrodAll en P W' 0 (fun b => decide (b < W.heap.size)) true ts vs ds ps
  | [], [], [], ps, _, h, _ => h
  | t :: ts, v :: vs, d :: ds, ps, hr, h, hlt => by
    obtain ⟨p, q, h1, h2, rfl⟩ := h
    have hrt := hr t (by simp)
    exact ⟨p, q, Below.trod hl hrt.1 hrt.2 h1 hb (fun x hx => hlt x (List.mem_append.2 (.inl hx))), trodAll_below hl hb (fun t ht => hr t (by simp [ht])) h2 (fun x hx => hlt x (List.mem_append.2 (.inr hx))), rfl⟩
  | [], [], _ :: _, _, _, h, _ => h.elim
  | [], _ :: _, _, _, _, h, _ => h.elim
  | _ :: _, [], _, _, _, h, _ => h.elim
  | _ :: _, _ :: _, [], _, _, h, _ => h.elim
theorem trodAll_len {H : Type} {en : TypeId × Value → H} {w : World} {base : Nat} {sp : Nat → Bool} {hd : Bool} : ∀ {ts : List TypeId} {vs : List Value} {ds : List (DataW H)} {ps : List MemPlace}, DataW.TrodAll en P w base sp hd ts vs ds ps → ds.length = ts.length
  | [], [], [], _, _ => rfl
  | _ :: _, _ :: _, _ :: _, _, h => by
    obtain ⟨_, _, _, h2, _⟩ := h
    simp [trodAll_len h2]
  | [], [], _ :: _, _, h => h.elim
  | [], _ :: _, _, _, h => h.elim
  | _ :: _, [], _, _, h => h.elim
  | _ :: _, _ :: _, [], _, h => h.elim

/-- 'For every input true; the input reads as it did.' -/
theorem post_true {H : Type} {en : TypeId × Value → H} {fn : Func} {s : ChangeSpec} {tb : TypeId} {W W' : World} {args : Array Value} {ds gs : List (DataW H)} {before : List MemPlace} (hl : laidOutB P = true)
    (hW : DataW.Whole en P fn.params.toList s.vars false W args.toList ds gs before) (hv : s.vars = []) (hs : ∀ ds : List (DataW H), ds.length = fn.params.size → (s.fn H ds).results = [.lit (.bool true)] ∧ (s.fn H ds).args = ds ∧ (s.fn H ds).vars = [])
    (hres : fn.resultTypes = #[tb]) (htb : P.underlying tb = some .bool) (hr : ∀ t ∈ fn.params.toList, P.readableRec t = true ∧ t < P.types.size) (hb : Below W.heap.size W W') :
    s.post en P fn false true false false W args (.bool true) W' := by
  have hW' := hW
  obtain ⟨p, q, hA, hV, hpq, hfz, hnd⟩ := hW
  rw [hv] at hV
  obtain ⟨rfl, rfl⟩ := trodVars_none hV
  simp only [List.append_nil] at hpq
  subst hpq
  have hlt : ∀ x ∈ before, x.block < W.heap.size := fun x hx => by simpa using hW'.lt x hx
  have hlen : ds.length = fn.params.size := by simpa using trodAll_len hA
  obtain ⟨e1, e2, e3⟩ := hs (ds ++ []) (by simpa using hlen)
  refine ⟨ds, [], before, [], before, [], hW', ?_, ?_, ?_, hb.frame _, fun h => by cases h⟩
  · rw [e1, hres]
    exact trodAll_mk1 (shut_bool htb true)
  · rw [e2, List.append_nil]
    exact trodAll_below hl hb hr hA hlt
  · rw [e3, hv]; rfl
end
end Go.Ep

namespace Go.Ep
set_option linter.unusedVariables false

def L26Act.ok (x : L26Act) : Prop := okK .u8 x.kind ∧ okK .u8 x.slot ∧ okK .u64 x.try_ ∧ okK .u16 x.dev ∧ okK .u64 x.epoch
def L26Act.sz (x : L26Act) : Nat := (1 + (1 + (1 + (1 + (1 + 0))))) + 1
def TMember.ok (x : TMember) : Prop := okK .u16 x.dev ∧ okK .u8 x.slot ∧ okK .u64 x.try_
def TMember.sz (x : TMember) : Nat := (1 + (1 + (1 + 0))) + 1
end Go.Ep
namespace Go.Proofs
open Go.Ep
set_option maxRecDepth 100000
theorem opnL26Act : Opn Try.prog 30 5 L26Act.e L26Act.ok L26Act.sz := (Opn.struct Try.underlying30 (by kernel_rfl) (OpnF.cons (Opn.int Try.underlying5 (by kernel_rfl)) rfl (OpnF.cons (Opn.int Try.underlying5 (by kernel_rfl)) rfl (OpnF.cons (Opn.int Try.underlying28 (by kernel_rfl)) rfl (OpnF.cons (Opn.int Try.underlying27 (by kernel_rfl)) rfl (OpnF.cons (Opn.int Try.underlying28 (by kernel_rfl)) rfl (OpnF.nil _))))))).map (fun p => ⟨p.1, p.2.1, p.2.2.1, p.2.2.2.1, p.2.2.2.2.1⟩) (fun _ _ => rfl) (fun p h => ⟨h.1, h.2.1, h.2.2.1, h.2.2.2.1, h.2.2.2.2.1⟩) (fun _ => Nat.le_refl _)
end Go.Proofs


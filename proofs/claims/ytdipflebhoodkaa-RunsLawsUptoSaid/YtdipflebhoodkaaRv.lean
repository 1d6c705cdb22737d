/- Runs, plainly: lists of runs as sets of numbers; what is in order is one for each set. No program in sight. -/
import Derived.Test.YtdipflebhoodkaaSp
namespace Go.Ep.M
open Go

def mayR (x : TRun) : Bool := decide (1 ≤ x.lo) && (decide (x.lo ≤ x.hi) && decide (x.hi ≤ 281474976710655))
theorem mayR_iff {x : TRun} : mayR x = true ↔ 1 ≤ x.lo ∧ x.lo ≤ x.hi ∧ x.hi ≤ 281474976710655 := by simp [mayR]
def inR (n : Int) (x : TRun) : Bool := mayR x && (decide (x.lo ≤ n) && decide (n ≤ x.hi))
theorem inR_iff {n : Int} {x : TRun} : inR n x = true ↔ (1 ≤ x.lo ∧ x.lo ≤ x.hi ∧ x.hi ≤ 281474976710655) ∧ x.lo ≤ n ∧ n ≤ x.hi := by simp [inR, mayR]
def hasR (l : List TRun) (n : Int) : Bool := l.any (inR n)
theorem hasR_iff {l : List TRun} {n : Int} : hasR l n = true ↔ ∃ x ∈ l, mayR x = true ∧ x.lo ≤ n ∧ n ≤ x.hi := by
  unfold hasR
  rw [List.any_eq_true]
  simp [inR]
@[simp] theorem hasR_nil (n : Int) : hasR [] n = false := rfl
theorem hasR_cons (x : TRun) (l : List TRun) (n : Int) : hasR (x :: l) n = (inR n x || hasR l n) := rfl
theorem hasR_app (a b : List TRun) (n : Int) : hasR (a ++ b) n = (hasR a n || hasR b n) := by simp [hasR]
theorem hasR_one (x : TRun) (n : Int) : hasR [x] n = inR n x := by simp [hasR]
theorem hasR_perm {a b : List TRun} (h : a.Perm b) (n : Int) : hasR a n = hasR b n := by
  rw [Bool.eq_iff_iff, hasR_iff, hasR_iff]
  simp only [h.mem_iff]
theorem hasR_filter (l : List TRun) (n : Int) : hasR (l.filter mayR) n = hasR l n := by
  rw [Bool.eq_iff_iff, hasR_iff, hasR_iff]
  simp only [List.mem_filter]
  exact ⟨fun ⟨x, ⟨h1, _⟩, h3⟩ => ⟨x, h1, h3⟩, fun ⟨x, h1, h2, h3⟩ => ⟨x, ⟨h1, h2⟩, h2, h3⟩⟩
theorem hasR_range {l : List TRun} {n : Int} (h : hasR l n = true) : 1 ≤ n ∧ n ≤ 281474976710655 := by
  obtain ⟨x, _, h2, h3, h4⟩ := hasR_iff.1 h
  have := mayR_iff.1 h2
  omega

/-- In order. -/
def Nf : List TRun → Prop
  | [] => True
  | x :: r => mayR x = true ∧ (∀ y ∈ r, x.hi + 1 < y.lo) ∧ Nf r
theorem Nf.may {l : List TRun} (h : Nf l) : ∀ x ∈ l, mayR x = true := by
  induction l with
  | nil => simp
  | cons y r ih =>
    intro x hx
    rcases List.mem_cons.1 hx with rfl | hx
    · exact h.1
    · exact ih h.2.2 x hx
theorem nf_snoc {l : List TRun} {z : TRun} : Nf (l ++ [z]) ↔ Nf l ∧ mayR z = true ∧ ∀ p ∈ l, p.hi + 1 < z.lo := by
  induction l with
  | nil => simp [Nf]
  | cons x r ih =>
    simp only [List.cons_append, Nf, ih, List.mem_append, List.mem_cons, List.not_mem_nil, or_false]
    constructor
    · rintro ⟨h1, h2, h3, h4, h5⟩
      refine ⟨⟨h1, fun y hy => h2 y (.inl hy), h3⟩, h4, fun p hp => ?_⟩
      rcases hp with rfl | hp
      · exact h2 z (.inr rfl)
      · exact h5 p hp
    · rintro ⟨⟨h1, h2, h3⟩, h4, h5⟩
      refine ⟨h1, fun y hy => ?_, h3, h4, fun p hp => h5 p (.inr hp)⟩
      rcases hy with hy | rfl
      · exact h2 y hy
      · exact h5 x (.inl rfl)
theorem nf_low {x : TRun} {r : List TRun} (h : Nf (x :: r)) {n : Int} (hn : hasR r n = true) : x.hi + 1 < n := by
  obtain ⟨y, h1, _, h3, _⟩ := hasR_iff.1 hn
  have := h.2.1 y h1
  omega
theorem nf_head {x : TRun} {r : List TRun} (h : Nf (x :: r)) : hasR (x :: r) x.lo = true := by
  rw [hasR_cons]
  have := mayR_iff.1 h.1
  rw [Bool.or_eq_true]
  exact .inl (inR_iff.2 ⟨this, by omega, by omega⟩)
theorem nf_least {x : TRun} {r : List TRun} (h : Nf (x :: r)) {n : Int} (hn : hasR (x :: r) n = true) : x.lo ≤ n := by
  rw [hasR_cons, Bool.or_eq_true] at hn
  rcases hn with hn | hn
  · exact (inR_iff.1 hn).2.1
  · have := nf_low h hn; have := mayR_iff.1 h.1; omega
theorem nf_hi {x : TRun} {r : List TRun} (h : Nf (x :: r)) {n : Int} (h1 : x.lo ≤ n) : hasR (x :: r) n = true ↔ n ≤ x.hi ∨ hasR r n = true := by
  rw [hasR_cons, Bool.or_eq_true, inR_iff]
  have := mayR_iff.1 h.1
  constructor
  · rintro (h2 | h2)
    · exact .inl h2.2.2
    · exact .inr h2
  · rintro (h2 | h2)
    · exact .inl ⟨this, h1, h2⟩
    · exact .inr h2
theorem nf_ext : ∀ {a b : List TRun}, Nf a → Nf b → (∀ n, hasR a n = hasR b n) → a = b
  | [], [], _, _, _ => rfl
  | [], y :: s, _, hb, h => by have := h y.lo; rw [nf_head hb] at this; simp at this
  | x :: r, [], ha, _, h => by have := h x.lo; rw [nf_head ha] at this; simp at this
  | x :: r, y :: s, ha, hb, h => by
    have h1 : x.lo = y.lo := by
      have h2 := nf_least hb (by rw [← h]; exact nf_head ha)
      have h3 := nf_least ha (by rw [h]; exact nf_head hb)
      omega
    have hx := mayR_iff.1 ha.1
    have hy := mayR_iff.1 hb.1
    have hle : ∀ {x y : TRun} {r s : List TRun}, Nf (x :: r) → Nf (y :: s) → (∀ n, hasR (x :: r) n = hasR (y :: s) n) → x.lo = y.lo → y.hi ≤ x.hi := by
      intro x y r s ha hb h h1
      have hx := mayR_iff.1 ha.1
      refine Classical.byContradiction fun hc => ?_
      have h2 : hasR (y :: s) (x.hi + 1) = true := (nf_hi hb (by omega)).2 (.inl (by omega))
      rw [← h, nf_hi ha (by omega)] at h2
      rcases h2 with h2 | h2
      · omega
      · have := nf_low ha h2; omega
    have h2 : x.hi = y.hi := by
      have := hle ha hb h h1
      have := hle hb ha (fun n => (h n).symm) h1.symm
      omega
    have he : x = y := by cases x; cases y; simp_all
    subst he
    rw [nf_ext ha.2.2 hb.2.2 fun n => ?_]
    rw [Bool.eq_iff_iff]
    have h3 := h n
    constructor
    · intro hn
      have := nf_low ha hn
      have h4 : hasR (x :: r) n = true := (nf_hi ha (by omega)).2 (.inr hn)
      rw [h3, nf_hi hb (by omega)] at h4
      rcases h4 with h4 | h4
      · omega
      · exact h4
    · intro hn
      have := nf_low hb hn
      have h4 : hasR (x :: s) n = true := (nf_hi hb (by omega)).2 (.inr hn)
      rw [← h3, nf_hi ha (by omega)] at h4
      rcases h4 with h4 | h4
      · omega
      · exact h4

/-! ### The points at which something begins or has ended -/
def putS (n : Int) (s : Bool × List Int) (x : Int) : Bool × List Int :=
  let t := if s.1 = false ∧ n ≤ x then (true, s.2 ++ [n]) else s
  if x = n then t else (t.1, t.2 ++ [x])
def putP (l : List Int) (n : Int) : List Int := let t := l.foldl (putS n) (false, []); if t.1 then t.2 else t.2 ++ [n]
abbrev Up (l : List Int) : Prop := l.Pairwise (· < ·)
theorem up_snoc {l : List Int} {z : Int} : Up (l ++ [z]) ↔ Up l ∧ ∀ p ∈ l, p < z := by
  unfold Up
  rw [List.pairwise_append]
  simp
theorem putS_inv (n : Int) : ∀ (l : List Int) (s : Bool × List Int), Up l → Up s.2 → (∀ p ∈ s.2, ∀ x ∈ l, p < x ∨ (p = n ∧ s.1 = true ∧ p ≤ x)) → (s.1 = true → n ∈ s.2) → (s.1 = false → ∀ p ∈ s.2, p < n) →
    Up (l.foldl (putS n) s).2 ∧ (∀ m, m ∈ (l.foldl (putS n) s).2 ↔ m ∈ s.2 ∨ (m ∈ l ∧ m ≠ n) ∨ (m = n ∧ (l.foldl (putS n) s).1 = true)) ∧ ((l.foldl (putS n) s).1 = false → ∀ p ∈ (l.foldl (putS n) s).2, p < n) ∧ (l.foldl (putS n) s).2.length ≤ s.2.length + l.length + (if s.1 then 0 else 1) ∧ ((l.foldl (putS n) s).1 = false → (l.foldl (putS n) s).2.length ≤ s.2.length + l.length)
  | [], s, _, hs, _, h2, h3 => by
    refine ⟨hs, fun m => ?_, h3, by simp, by simp⟩
    simp only [List.foldl_nil, List.not_mem_nil, false_and, false_or]
    exact ⟨fun h => .inl h, fun h => h.elim id fun ⟨e, h⟩ => e ▸ h2 h⟩
  | x :: r, (d, out), hl, hs, h1, h2, h3 => by
    rw [List.foldl_cons]
    have hl' := List.pairwise_cons.1 hl
    simp only at hs h1 h2 h3
    by_cases hc : d = false ∧ n ≤ x
    · obtain ⟨rfl, hnx⟩ := hc
      by_cases hx : x = n
      · have e : putS n (false, out) x = (true, out ++ [n]) := by simp [putS, hx]
        rw [e]
        obtain ⟨i1, i2, i3, i4, i5⟩ := putS_inv n r (true, out ++ [n]) hl'.2 (up_snoc.2 ⟨hs, h3 rfl⟩) (fun p hp y hy => by
          have := hl'.1 y hy
          rcases List.mem_append.1 hp with hp | hp
          · have := h3 rfl p hp; left; omega
          · simp at hp; left; omega) (fun _ => by simp) (fun h => by cases h)
        refine ⟨i1, fun m => ?_, i3, ?_, ?_⟩
        · rw [i2]
          simp only [List.mem_append, List.mem_cons, List.not_mem_nil, or_false]
          constructor
          · rintro ((h | h) | h | h)
            · exact .inl h
            · refine .inr (.inr ⟨h, ?_⟩)
              cases hb : (r.foldl (putS n) (true, out ++ [n])).1 with
              | true => rfl
              | false => have := i3 hb n ((i2 n).2 (.inl (by simp))); omega
            · exact .inr (.inl ⟨.inr h.1, h.2⟩)
            · exact .inr (.inr h)
          · rintro (h | ⟨h | h, h'⟩ | h)
            · exact .inl (.inl h)
            · exact absurd (h.trans hx) h'
            · exact .inr (.inl ⟨h, h'⟩)
            · exact .inr (.inr h)
        · simp at i4 ⊢; omega
        · intro hf; have := i5 hf; simp at this ⊢; omega
      · have e : putS n (false, out) x = (true, out ++ [n] ++ [x]) := by simp [putS, hx, hnx]
        rw [e]
        obtain ⟨i1, i2, i3, i4, i5⟩ := putS_inv n r (true, out ++ [n] ++ [x]) hl'.2 (up_snoc.2 ⟨up_snoc.2 ⟨hs, h3 rfl⟩, fun p hp => by
          rcases List.mem_append.1 hp with hp | hp
          · have := h3 rfl p hp; omega
          · simp at hp; omega⟩) (fun p hp y hy => by
          have := hl'.1 y hy
          simp only [List.mem_append, List.mem_singleton] at hp
          rcases hp with (hp | hp) | hp
          · have := h3 rfl p hp; left; omega
          · left; omega
          · left; omega) (fun _ => by simp) (fun h => by cases h)
        refine ⟨i1, fun m => ?_, i3, ?_, ?_⟩
        · rw [i2]
          simp only [List.mem_append, List.mem_cons, List.not_mem_nil, or_false]
          constructor
          · rintro (((h | h) | h) | h | h)
            · exact .inl h
            · refine .inr (.inr ⟨h, ?_⟩)
              cases hb : (r.foldl (putS n) (true, out ++ [n] ++ [x])).1 with
              | true => rfl
              | false => have := i3 hb n ((i2 n).2 (.inl (by simp))); omega
            · exact .inr (.inl ⟨.inl h, fun e => hx (h.symm.trans e)⟩)
            · exact .inr (.inl ⟨.inr h.1, h.2⟩)
            · exact .inr (.inr h)
          · rintro (h | ⟨h | h, h'⟩ | h)
            · exact .inl (.inl (.inl h))
            · exact .inl (.inr h)
            · exact .inr (.inl ⟨h, h'⟩)
            · exact .inr (.inr h)
        · simp at i4 ⊢; omega
        · intro hf; have := i5 hf; simp at this ⊢; exfalso; have := i3 hf n ((i2 n).2 (.inl (by simp))); omega
    · by_cases hx : x = n
      · have hd : d = true := by cases d with | true => rfl | false => exact absurd ⟨rfl, by omega⟩ hc
        subst hd
        have e : putS n (true, out) x = (true, out) := by simp [putS, hx]
        rw [e]
        obtain ⟨i1, i2, i3, i4, i5⟩ := putS_inv n r (true, out) hl'.2 hs (fun p hp y hy => h1 p hp y (List.mem_cons_of_mem _ hy)) h2 h3
        refine ⟨i1, fun m => ?_, i3, ?_, ?_⟩
        · rw [i2]
          simp only [List.mem_cons]
          constructor
          · rintro (h | h | h)
            · exact .inl h
            · exact .inr (.inl ⟨.inr h.1, h.2⟩)
            · exact .inr (.inr h)
          · rintro (h | ⟨h | h, h'⟩ | h)
            · exact .inl h
            · exact absurd (h.trans hx) h'
            · exact .inr (.inl ⟨h, h'⟩)
            · exact .inr (.inr h)
        · simp at i4 ⊢; omega
        · intro hf; have := i5 hf; simp at this ⊢; omega
      · have e : putS n (d, out) x = (d, out ++ [x]) := by
          unfold putS
          simp only [hc, if_false, hx]
        rw [e]
        have hlt : d = false → x < n := fun h => by
          have : ¬ n ≤ x := fun h' => hc ⟨h, h'⟩
          omega
        obtain ⟨i1, i2, i3, i4, i5⟩ := putS_inv n r (d, out ++ [x]) hl'.2 (up_snoc.2 ⟨hs, fun p hp => by
          rcases h1 p hp x (by simp) with h | h
          · exact h
          · omega⟩) (fun p hp y hy => by
          rcases List.mem_append.1 hp with hp | hp
          · exact h1 p hp y (List.mem_cons_of_mem _ hy)
          · simp at hp; have := hl'.1 y hy; left; omega) (fun h => List.mem_append_left _ (h2 h)) (fun h p hp => by
          rcases List.mem_append.1 hp with hp | hp
          · exact h3 h p hp
          · simp at hp; rw [hp]; exact hlt h)
        refine ⟨i1, fun m => ?_, i3, ?_, ?_⟩
        · rw [i2]
          simp only [List.mem_append, List.mem_cons, List.not_mem_nil, or_false]
          constructor
          · rintro ((h | h) | h | h)
            · exact .inl h
            · exact .inr (.inl ⟨.inl h, fun e => hx (h.symm.trans e)⟩)
            · exact .inr (.inl ⟨.inr h.1, h.2⟩)
            · exact .inr (.inr h)
          · rintro (h | ⟨h | h, h'⟩ | h)
            · exact .inl (.inl h)
            · exact .inl (.inr h)
            · exact .inr (.inl ⟨h, h'⟩)
            · exact .inr (.inr h)
        · simp at i4 ⊢; omega
        · intro hf; have := i5 hf; simp at this ⊢; omega
theorem putP_props {l : List Int} (h : Up l) (n : Int) : Up (putP l n) ∧ (∀ m, m ∈ putP l n ↔ m ∈ l ∨ m = n) ∧ (putP l n).length ≤ l.length + 1 := by
  obtain ⟨i1, i2, i3, i4, i5⟩ := putS_inv n l (false, []) h (by simp [Up]) (by simp) (by simp) (by simp)
  unfold putP
  simp only
  cases hb : (l.foldl (putS n) (false, [])).1 with
  | true =>
    simp only [if_true]
    refine ⟨i1, fun m => ?_, by simpa using i4⟩
    rw [i2, hb]
    simp only [List.not_mem_nil, false_or, and_true]
    constructor
    · rintro (h | h)
      · exact .inl h.1
      · exact .inr h
    · rintro (h | h)
      · by_cases e : m = n
        · exact .inr e
        · exact .inl ⟨h, e⟩
      · exact .inr h
  | false =>
    have := i5 hb
    rw [if_neg (by simp)]
    refine ⟨up_snoc.2 ⟨i1, i3 hb⟩, fun m => ?_, by simp at this ⊢; omega⟩
    simp only [List.mem_append, List.mem_singleton, i2, hb, List.not_mem_nil, false_or]
    constructor
    · rintro ((h | h) | h)
      · exact .inl h.1
      · cases h.2
      · exact .inr h
    · rintro (h | h)
      · by_cases e : m = n
        · exact .inr e
        · exact .inl (.inl ⟨h, e⟩)
      · exact .inr h
def ptS (out : List Int) (x : TRun) : List Int := if mayR x then putP (putP out x.lo) (x.hi + 1) else out
def ptsP (l : List TRun) : List Int := l.foldl ptS []
theorem ptS_inv : ∀ (l : List TRun) (out : List Int), Up out → Up (l.foldl ptS out) ∧ (∀ m, m ∈ l.foldl ptS out ↔ m ∈ out ∨ ∃ x ∈ l, mayR x = true ∧ (m = x.lo ∨ m = x.hi + 1)) ∧ (l.foldl ptS out).length ≤ out.length + 2 * l.length
  | [], out, h => ⟨h, fun m => by simp, by simp⟩
  | x :: r, out, h => by
    rw [List.foldl_cons]
    obtain ⟨j1, j2, j3⟩ := putP_props h x.lo
    obtain ⟨k1, k2, k3⟩ := putP_props j1 (x.hi + 1)
    by_cases hm : mayR x = true
    · have e : ptS out x = putP (putP out x.lo) (x.hi + 1) := by simp [ptS, hm]
      rw [e]
      obtain ⟨i1, i2, i3⟩ := ptS_inv r _ k1
      refine ⟨i1, fun m => ?_, by simp; omega⟩
      rw [i2, k2, j2]
      constructor
      · rintro (((h | h) | h) | ⟨y, h1, h2⟩)
        · exact .inl h
        · exact .inr ⟨x, by simp, hm, .inl h⟩
        · exact .inr ⟨x, by simp, hm, .inr h⟩
        · exact .inr ⟨y, by simp [h1], h2⟩
      · rintro (h | ⟨y, h1, h2, h3⟩)
        · exact .inl (.inl (.inl h))
        · rcases List.mem_cons.1 h1 with rfl | h1
          · rcases h3 with h3 | h3
            · exact .inl (.inl (.inr h3))
            · exact .inl (.inr h3)
          · exact .inr ⟨y, h1, h2, h3⟩
    · have e : ptS out x = out := by simp [ptS, hm]
      rw [e]
      obtain ⟨i1, i2, i3⟩ := ptS_inv r _ h
      refine ⟨i1, fun m => ?_, by simp; omega⟩
      rw [i2]
      constructor
      · rintro (h | ⟨y, h1, h2⟩)
        · exact .inl h
        · exact .inr ⟨y, by simp [h1], h2⟩
      · rintro (h | ⟨y, h1, h2, h3⟩)
        · exact .inl h
        · rcases List.mem_cons.1 h1 with rfl | h1
          · exact absurd h2 hm
          · exact .inr ⟨y, h1, h2, h3⟩
theorem ptsP_props (l : List TRun) : Up (ptsP l) ∧ (∀ m, m ∈ ptsP l ↔ ∃ x ∈ l, mayR x = true ∧ (m = x.lo ∨ m = x.hi + 1)) ∧ (ptsP l).length ≤ 2 * l.length := by
  obtain ⟨h1, h2, h3⟩ := ptS_inv l [] (by simp [Up])
  exact ⟨h1, fun m => by rw [ptsP, h2]; simp, by simpa [ptsP] using h3⟩

/-! ### What two lists come to -/
def lastOr (out : List TRun) (p : Int) (z : TRun → TRun) (x : TRun) : List TRun := match out.getLast? with
  | some y => if y.hi + 1 = p then out.dropLast ++ [z y] else out ++ [x]
  | none => out ++ [x]
def setS (op : Bool → Bool → Bool) (a b : List TRun) (out : List TRun) (pq : Int × Int) : List TRun :=
  if op (hasR a pq.1) (hasR b pq.1) then lastOr out pq.1 (fun y => ⟨y.lo, pq.2 - 1⟩) ⟨pq.1, pq.2 - 1⟩ else out
def pairs (l : List Int) : List (Int × Int) := l.zip l.tail
def setR (op : Bool → Bool → Bool) (a b : List TRun) : List TRun := (pairs (ptsP (a ++ b))).foldl (setS op a b) []

theorem lastOr_nil (p : Int) (z : TRun → TRun) (x : TRun) : lastOr [] p z x = [x] := rfl
theorem lastOr_snoc (l : List TRun) (y : TRun) (p : Int) (z : TRun → TRun) (x : TRun) : lastOr (l ++ [y]) p z x = if y.hi + 1 = p then l ++ [z y] else l ++ [y] ++ [x] := by simp [lastOr]
theorem snoc_cases {α : Type} (l : List α) : l = [] ∨ ∃ r y, l = r ++ [y] := by
  rcases List.eq_nil_or_concat l with h | ⟨r, y, h⟩
  · exact .inl h
  · exact .inr ⟨r, y, by simpa using h⟩

theorem setS_inv (op : Bool → Bool → Bool) (a b : List TRun) : ∀ (P : List Int) (p : Int) (out : List TRun), Up (p :: P) → (∀ q ∈ p :: P, 1 ≤ q ∧ q ≤ 281474976710656) → Nf out → (∀ y ∈ out, y.hi < p) →
    Nf ((pairs (p :: P)).foldl (setS op a b) out) ∧ (∀ n, hasR ((pairs (p :: P)).foldl (setS op a b) out) n = true ↔ hasR out n = true ∨ ∃ pq ∈ pairs (p :: P), pq.1 ≤ n ∧ n < pq.2 ∧ op (hasR a pq.1) (hasR b pq.1) = true) ∧ ((pairs (p :: P)).foldl (setS op a b) out).length ≤ out.length + P.length
  | [], p, out, _, _, h, _ => by simp [pairs, h]
  | q :: P, p, out, hu, hr, h, hy => by
    have e : pairs (p :: q :: P) = (p, q) :: pairs (q :: P) := rfl
    rw [e, List.foldl_cons]
    have hu' := List.pairwise_cons.1 hu
    have hpq : p < q := hu'.1 q (by simp)
    have hp := hr p (by simp)
    have hq := hr q (by simp)
    have step : Nf (setS op a b out (p, q)) ∧ (∀ n, hasR (setS op a b out (p, q)) n = true ↔ hasR out n = true ∨ (p ≤ n ∧ n < q ∧ op (hasR a p) (hasR b p) = true)) ∧ (∀ y ∈ setS op a b out (p, q), y.hi < q) ∧ (setS op a b out (p, q)).length ≤ out.length + 1 := by
      unfold setS
      simp only
      by_cases hop : op (hasR a p) (hasR b p) = true
      · rw [if_pos hop]
        rcases snoc_cases out with rfl | ⟨l, y, rfl⟩
        · rw [lastOr_nil]
          have hm : mayR (⟨p, q - 1⟩ : TRun) = true := mayR_iff.2 ⟨hp.1, by simp only; omega, by simp only; omega⟩
          refine ⟨⟨hm, by simp, trivial⟩, fun n => ?_, fun y hy => ?_, by simp⟩
          · rw [hasR_one, inR_iff]
            have := mayR_iff.1 hm
            simp only at this ⊢
            simp only [hasR_nil, Bool.false_eq_true, false_or, hop, and_true]
            omega
          · simp at hy; subst hy; simp only; omega
        · rw [lastOr_snoc]
          obtain ⟨n1, n2, n3⟩ := nf_snoc.1 h
          have hym := mayR_iff.1 n2
          have hyp := hy y (by simp)
          by_cases hadj : y.hi + 1 = p
          · rw [if_pos hadj]
            have hm : mayR (⟨y.lo, q - 1⟩ : TRun) = true := mayR_iff.2 ⟨hym.1, by simp only; omega, by simp only; omega⟩
            refine ⟨nf_snoc.2 ⟨n1, hm, n3⟩, fun n => ?_, fun z hz => ?_, by simp⟩
            · rw [hasR_app, hasR_app, hasR_one, hasR_one, Bool.or_eq_true, Bool.or_eq_true, inR_iff, inR_iff]
              have := mayR_iff.1 hm
              simp only at this ⊢
              simp only [hop, and_true]
              constructor
              · rintro (h | h)
                · exact .inl (.inl h)
                · by_cases hc : n ≤ y.hi
                  · exact .inl (.inr ⟨hym, h.2.1, hc⟩)
                  · right; omega
              · rintro ((h | h) | h)
                · exact .inl h
                · right; omega
                · right; omega
            · rcases List.mem_append.1 hz with hz | hz
              · have := hy z (by simp [hz]); omega
              · simp at hz; subst hz; simp only; omega
          · rw [if_neg hadj]
            have hm : mayR (⟨p, q - 1⟩ : TRun) = true := mayR_iff.2 ⟨hp.1, by simp only; omega, by simp only; omega⟩
            refine ⟨nf_snoc.2 ⟨h, hm, fun z hz => ?_⟩, fun n => ?_, fun z hz => ?_, by simp⟩
            · simp only
              rcases List.mem_append.1 hz with hz | hz
              · have := n3 z hz; omega
              · simp at hz; subst hz; omega
            · rw [hasR_app (l ++ [y]), hasR_one, Bool.or_eq_true, inR_iff]
              have := mayR_iff.1 hm
              simp only at this ⊢
              simp only [hop, and_true]
              constructor
              · rintro (h | h)
                · exact .inl h
                · right; omega
              · rintro (h | h)
                · exact .inl h
                · right; omega
            · rcases List.mem_append.1 hz with hz | hz
              · have := hy z hz; omega
              · simp at hz; subst hz; simp only; omega
      · rw [if_neg hop]
        refine ⟨h, fun n => ?_, fun y hy' => by have := hy y hy'; omega, by omega⟩
        exact ⟨fun h => .inl h, fun h => h.elim id fun h => absurd h.2.2 hop⟩
    obtain ⟨s1, s2, s3, s4⟩ := step
    obtain ⟨i1, i2, i3⟩ := setS_inv op a b P q _ hu'.2 (fun z hz => hr z (List.mem_cons_of_mem _ hz)) s1 s3
    refine ⟨i1, fun n => ?_, by simp; omega⟩
    rw [i2, s2]
    simp only [List.mem_cons, exists_eq_or_imp]
    constructor
    · rintro ((h | h) | h)
      · exact .inl h
      · exact .inr (.inl h)
      · exact .inr (.inr h)
    · rintro (h | h | h)
      · exact .inl (.inl h)
      · exact .inl (.inr h)
      · exact .inr h

/-- Two places of a rising list that stand side by side. -/
theorem pairs_next : ∀ {P : List Int}, Up P → ∀ pq ∈ pairs P, pq.1 ∈ P ∧ pq.2 ∈ P ∧ pq.1 < pq.2 ∧ ∀ m ∈ P, m ≤ pq.1 ∨ pq.2 ≤ m
  | [], _, pq, h => by simp [pairs] at h
  | [p], _, pq, h => by simp [pairs] at h
  | p :: q :: P, hu, pq, h => by
    have e : pairs (p :: q :: P) = (p, q) :: pairs (q :: P) := rfl
    rw [e] at h
    have hu' := List.pairwise_cons.1 hu
    rcases List.mem_cons.1 h with rfl | h
    · refine ⟨by simp, by simp, hu'.1 q (by simp), fun m hm => ?_⟩
      rcases List.mem_cons.1 hm with rfl | hm
      · simp
      · right
        rcases List.mem_cons.1 hm with rfl | hm
        · simp
        · have := (List.pairwise_cons.1 hu'.2).1 m hm
          simp only; omega
    · obtain ⟨h1, h2, h3, h4⟩ := pairs_next hu'.2 pq h
      refine ⟨List.mem_cons_of_mem _ h1, List.mem_cons_of_mem _ h2, h3, fun m hm => ?_⟩
      rcases List.mem_cons.1 hm with rfl | hm
      · left; have := hu'.1 _ h1; omega
      · exact h4 m hm
theorem pairs_find : ∀ {P : List Int}, Up P → ∀ {u v n : Int}, u ∈ P → v ∈ P → u ≤ n → n < v → ∃ pq ∈ pairs P, pq.1 ≤ n ∧ n < pq.2
  | [], _, _, _, _, h, _, _, _ => by simp at h
  | [p], _, u, v, n, h1, h2, h3, h4 => by simp at h1 h2; omega
  | p :: q :: P, hu, u, v, n, h1, h2, h3, h4 => by
    have e : pairs (p :: q :: P) = (p, q) :: pairs (q :: P) := rfl
    have hu' := List.pairwise_cons.1 hu
    by_cases hc : n < q
    · refine ⟨(p, q), by rw [e]; simp, ?_, hc⟩
      rcases List.mem_cons.1 h1 with rfl | h1
      · exact h3
      · have : q ≤ u := by
          rcases List.mem_cons.1 h1 with rfl | h1
          · omega
          · have := (List.pairwise_cons.1 hu'.2).1 u h1; omega
        simp only; omega
    · have hv : v ∈ q :: P := by
        rcases List.mem_cons.1 h2 with rfl | h2
        · have := hu'.1 q (by simp); omega
        · exact h2
      obtain ⟨pq, h5, h6⟩ := pairs_find hu'.2 (u := q) (by simp) hv (by omega) h4
      exact ⟨pq, by rw [e]; exact List.mem_cons_of_mem _ h5, h6⟩
theorem pairs_len (P : List Int) : (pairs P).length = P.length - 1 := by simp [pairs]

theorem has_between {l : List TRun} {P : List Int} (hP : ∀ x ∈ l, mayR x = true → x.lo ∈ P ∧ x.hi + 1 ∈ P) {p q n : Int} (h1 : ∀ m ∈ P, m ≤ p ∨ q ≤ m) (h2 : p ≤ n) (h3 : n < q) : hasR l n = hasR l p := by
  rw [Bool.eq_iff_iff, hasR_iff, hasR_iff]
  constructor
  · rintro ⟨x, hx, hm, h4, h5⟩
    obtain ⟨h6, h7⟩ := hP x hx hm
    have := h1 _ h6
    have := h1 _ h7
    exact ⟨x, hx, hm, by omega, by omega⟩
  · rintro ⟨x, hx, hm, h4, h5⟩
    obtain ⟨h6, h7⟩ := hP x hx hm
    have := h1 _ h6
    have := h1 _ h7
    exact ⟨x, hx, hm, by omega, by omega⟩
theorem setR_props (op : Bool → Bool → Bool) (h0 : op false false = false) (a b : List TRun) : Nf (setR op a b) ∧ (∀ n, hasR (setR op a b) n = op (hasR a n) (hasR b n)) ∧ (setR op a b).length ≤ 2 * (a.length + b.length) := by
  obtain ⟨p1, p2, p3⟩ := ptsP_props (a ++ b)
  have hrange : ∀ q ∈ ptsP (a ++ b), 1 ≤ q ∧ q ≤ 281474976710656 := fun q hq => by
    obtain ⟨x, _, h2, h3⟩ := (p2 q).1 hq
    have := mayR_iff.1 h2
    omega
  have main : Nf (setR op a b) ∧ (∀ n, hasR (setR op a b) n = true ↔ ∃ pq ∈ pairs (ptsP (a ++ b)), pq.1 ≤ n ∧ n < pq.2 ∧ op (hasR a pq.1) (hasR b pq.1) = true) ∧ (setR op a b).length ≤ (ptsP (a ++ b)).length := by
    unfold setR
    generalize hP : ptsP (a ++ b) = P at p1 hrange
    cases P with
    | nil => simp [pairs, Nf]
    | cons p P =>
      obtain ⟨i1, i2, i3⟩ := setS_inv op a b P p [] p1 hrange trivial (by simp)
      exact ⟨i1, fun n => by rw [i2]; simp, by simp at i3 ⊢; omega⟩
  obtain ⟨m1, m2, m3⟩ := main
  refine ⟨m1, fun n => ?_, by simp at p3; omega⟩
  have hPa : ∀ x ∈ a, mayR x = true → x.lo ∈ ptsP (a ++ b) ∧ x.hi + 1 ∈ ptsP (a ++ b) := fun x hx hm => ⟨(p2 _).2 ⟨x, by simp [hx], hm, .inl rfl⟩, (p2 _).2 ⟨x, by simp [hx], hm, .inr rfl⟩⟩
  have hPb : ∀ x ∈ b, mayR x = true → x.lo ∈ ptsP (a ++ b) ∧ x.hi + 1 ∈ ptsP (a ++ b) := fun x hx hm => ⟨(p2 _).2 ⟨x, by simp [hx], hm, .inl rfl⟩, (p2 _).2 ⟨x, by simp [hx], hm, .inr rfl⟩⟩
  rw [Bool.eq_iff_iff, m2]
  constructor
  · rintro ⟨pq, h1, h2, h3, h4⟩
    obtain ⟨_, _, _, h5⟩ := pairs_next p1 pq h1
    rwa [has_between hPa h5 h2 h3, has_between hPb h5 h2 h3]
  · intro h
    have hex : ∃ u ∈ ptsP (a ++ b), ∃ v ∈ ptsP (a ++ b), u ≤ n ∧ n < v := by
      cases ha : hasR a n with
      | true =>
        obtain ⟨x, h1, h2, h3, h4⟩ := hasR_iff.1 ha
        exact ⟨_, (hPa x h1 h2).1, _, (hPa x h1 h2).2, h3, by omega⟩
      | false =>
        cases hb : hasR b n with
        | true =>
          obtain ⟨x, h1, h2, h3, h4⟩ := hasR_iff.1 hb
          exact ⟨_, (hPb x h1 h2).1, _, (hPb x h1 h2).2, h3, by omega⟩
        | false => rw [ha, hb, h0] at h; cases h
    obtain ⟨u, hu, v, hv, h1, h2⟩ := hex
    obtain ⟨pq, h3, h4, h5⟩ := pairs_find p1 hu hv h1 h2
    obtain ⟨_, _, _, h6⟩ := pairs_next p1 pq h3
    exact ⟨pq, h3, h4, h5, by rwa [← has_between hPa h6 h4 h5, ← has_between hPb h6 h4 h5]⟩

def nrm (l : List TRun) : List TRun := setR (· || ·) l []
theorem nrm_nf (l : List TRun) : Nf (nrm l) := (setR_props _ rfl l []).1
theorem nrm_has (l : List TRun) (n : Int) : hasR (nrm l) n = hasR l n := by rw [nrm, (setR_props _ rfl l []).2.1]; simp
theorem nrm_len (l : List TRun) : (nrm l).length ≤ 2 * l.length := by
  have := (setR_props (· || ·) rfl l []).2.2
  rw [List.length_nil, Nat.add_zero] at this
  exact this
theorem nrm_of {l r : List TRun} (h : Nf r) (h2 : ∀ n, hasR r n = hasR l n) : r = nrm l := nf_ext h (nrm_nf l) fun n => by rw [h2, nrm_has]
theorem nrm_self {l : List TRun} (h : Nf l) : nrm l = l := (nrm_of h fun _ => rfl).symm
end Go.Ep.M

/- Texts that the walks and laws lean on, side by side. -/
import Derived.Test.YteooallbiceefaaProg
import Derived.KernelRfl
import Derived.Test.YteooallbiceefaaMEc2
import Derived.Test.YteooallbiceefaaMEc3
import Derived.Test.YteooallbiceefaaMEc4
set_option linter.unusedVariables false
set_option linter.unusedSimpArgs false
namespace Go.Ep.M.R
open Go

def mayR (x : TRun) : Bool := decide (1 ≤ x.lo) && (decide (x.lo ≤ x.hi) && decide (x.hi ≤ 281474976710655))
theorem mayR_iff {x : TRun} : mayR x = true ↔ 1 ≤ x.lo ∧ x.lo ≤ x.hi ∧ x.hi ≤ 281474976710655 := by simp [mayR]
def inR (n : Int) (x : TRun) : Bool := mayR x && (decide (x.lo ≤ n) && decide (n ≤ x.hi))
theorem inR_iff {n : Int} {x : TRun} : inR n x = true ↔ (1 ≤ x.lo ∧ x.lo ≤ x.hi ∧ x.hi ≤ 281474976710655) ∧ x.lo ≤ n ∧ n ≤ x.hi := by simp [inR, mayR]
def hasR (l : List TRun) (n : Int) : Bool := l.any (inR n)
theorem hasR_iff {l : List TRun} {n : Int} : hasR l n = true ↔ ∃ x ∈ l, mayR x = true ∧ x.lo ≤ n ∧ n ≤ x.hi := by
  unfold hasR
  rw [List.any_eq_true]
  simp [inR]
@[simp] theorem hasR_nil (n : Int) : hasR [] n = false := rfl
theorem hasR_cons (x : TRun) (l : List TRun) (n : Int) : hasR (x :: l) n = (inR n x || hasR l n) := rfl
theorem hasR_app (a b : List TRun) (n : Int) : hasR (a ++ b) n = (hasR a n || hasR b n) := by simp [hasR]
theorem hasR_one (x : TRun) (n : Int) : hasR [x] n = inR n x := by simp [hasR]
theorem hasR_perm {a b : List TRun} (h : a.Perm b) (n : Int) : hasR a n = hasR b n := by
  rw [Bool.eq_iff_iff, hasR_iff, hasR_iff]
  simp only [h.mem_iff]
theorem hasR_filter (l : List TRun) (n : Int) : hasR (l.filter mayR) n = hasR l n := by
  rw [Bool.eq_iff_iff, hasR_iff, hasR_iff]
  simp only [List.mem_filter]
  exact ⟨fun ⟨x, ⟨h1, _⟩, h3⟩ => ⟨x, h1, h3⟩, fun ⟨x, h1, h2, h3⟩ => ⟨x, ⟨h1, h2⟩, h2, h3⟩⟩
theorem hasR_range {l : List TRun} {n : Int} (h : hasR l n = true) : 1 ≤ n ∧ n ≤ 281474976710655 := by
  obtain ⟨x, _, h2, h3, h4⟩ := hasR_iff.1 h
  have := mayR_iff.1 h2
  omega

/-- In order. -/
def Nf : List TRun → Prop
  | [] => True
  | x :: r => mayR x = true ∧ (∀ y ∈ r, x.hi + 1 < y.lo) ∧ Nf r
theorem Nf.may {l : List TRun} (h : Nf l) : ∀ x ∈ l, mayR x = true := by
  induction l with
  | nil => simp
  | cons y r ih =>
    intro x hx
    rcases List.mem_cons.1 hx with rfl | hx
    · exact h.1
    · exact ih h.2.2 x hx
theorem nf_snoc {l : List TRun} {z : TRun} : Nf (l ++ [z]) ↔ Nf l ∧ mayR z = true ∧ ∀ p ∈ l, p.hi + 1 < z.lo := by
  induction l with
  | nil => simp [Nf]
  | cons x r ih =>
    simp only [List.cons_append, Nf, ih, List.mem_append, List.mem_cons, List.not_mem_nil, or_false]
    constructor
    · rintro ⟨h1, h2, h3, h4, h5⟩
      refine ⟨⟨h1, fun y hy => h2 y (.inl hy), h3⟩, h4, fun p hp => ?_⟩
      rcases hp with rfl | hp
      · exact h2 z (.inr rfl)
      · exact h5 p hp
    · rintro ⟨⟨h1, h2, h3⟩, h4, h5⟩
      refine ⟨h1, fun y hy => ?_, h3, h4, fun p hp => h5 p (.inr hp)⟩
      rcases hy with hy | rfl
      · exact h2 y hy
      · exact h5 x (.inl rfl)
theorem nf_low {x : TRun} {r : List TRun} (h : Nf (x :: r)) {n : Int} (hn : hasR r n = true) : x.hi + 1 < n := by
  obtain ⟨y, h1, _, h3, _⟩ := hasR_iff.1 hn
  have := h.2.1 y h1
  omega
theorem nf_head {x : TRun} {r : List TRun} (h : Nf (x :: r)) : hasR (x :: r) x.lo = true := by
  rw [hasR_cons]
  have := mayR_iff.1 h.1
  rw [Bool.or_eq_true]
  exact .inl (inR_iff.2 ⟨this, by omega, by omega⟩)
theorem nf_least {x : TRun} {r : List TRun} (h : Nf (x :: r)) {n : Int} (hn : hasR (x :: r) n = true) : x.lo ≤ n := by
  rw [hasR_cons, Bool.or_eq_true] at hn
  rcases hn with hn | hn
  · exact (inR_iff.1 hn).2.1
  · have := nf_low h hn; have := mayR_iff.1 h.1; omega
theorem nf_hi {x : TRun} {r : List TRun} (h : Nf (x :: r)) {n : Int} (h1 : x.lo ≤ n) : hasR (x :: r) n = true ↔ n ≤ x.hi ∨ hasR r n = true := by
  rw [hasR_cons, Bool.or_eq_true, inR_iff]
  have := mayR_iff.1 h.1
  constructor
  · rintro (h2 | h2)
    · exact .inl h2.2.2
    · exact .inr h2
  · rintro (h2 | h2)
    · exact .inl ⟨this, h1, h2⟩
    · exact .inr h2
theorem nf_ext : ∀ {a b : List TRun}, Nf a → Nf b → (∀ n, hasR a n = hasR b n) → a = b
  | [], [], _, _, _ => rfl
  | [], y :: s, _, hb, h => by have := h y.lo; rw [nf_head hb] at this; simp at this
  | x :: r, [], ha, _, h => by have := h x.lo; rw [nf_head ha] at this; simp at this
  | x :: r, y :: s, ha, hb, h => by
    have h1 : x.lo = y.lo := by
      have h2 := nf_least hb (by rw [← h]; exact nf_head ha)
      have h3 := nf_least ha (by rw [h]; exact nf_head hb)
      omega
    have hx := mayR_iff.1 ha.1
    have hy := mayR_iff.1 hb.1
    have hle : ∀ {x y : TRun} {r s : List TRun}, Nf (x :: r) → Nf (y :: s) → (∀ n, hasR (x :: r) n = hasR (y :: s) n) → x.lo = y.lo → y.hi ≤ x.hi := by
      intro x y r s ha hb h h1
      have hx := mayR_iff.1 ha.1
      refine Classical.byContradiction fun hc => ?_
      have h2 : hasR (y :: s) (x.hi + 1) = true := (nf_hi hb (by omega)).2 (.inl (by omega))
      rw [← h, nf_hi ha (by omega)] at h2
      rcases h2 with h2 | h2
      · omega
      · have := nf_low ha h2; omega
    have h2 : x.hi = y.hi := by
      have := hle ha hb h h1
      have := hle hb ha (fun n => (h n).symm) h1.symm
      omega
    have he : x = y := by cases x; cases y; simp_all
    subst he
    rw [nf_ext ha.2.2 hb.2.2 fun n => ?_]
    rw [Bool.eq_iff_iff]
    have h3 := h n
    constructor
    · intro hn
      have := nf_low ha hn
      have h4 : hasR (x :: r) n = true := (nf_hi ha (by omega)).2 (.inr hn)
      rw [h3, nf_hi hb (by omega)] at h4
      rcases h4 with h4 | h4
      · omega
      · exact h4
    · intro hn
      have := nf_low hb hn
      have h4 : hasR (x :: s) n = true := (nf_hi hb (by omega)).2 (.inr hn)
      rw [← h3, nf_hi ha (by omega)] at h4
      rcases h4 with h4 | h4
      · omega
      · exact h4

def putS (n : Int) (s : Bool × List Int) (x : Int) : Bool × List Int :=
  let t := if s.1 = false ∧ n ≤ x then (true, s.2 ++ [n]) else s
  if x = n then t else (t.1, t.2 ++ [x])
def putP (l : List Int) (n : Int) : List Int := let t := l.foldl (putS n) (false, []); if t.1 then t.2 else t.2 ++ [n]
abbrev Up (l : List Int) : Prop := l.Pairwise (· < ·)
theorem up_snoc {l : List Int} {z : Int} : Up (l ++ [z]) ↔ Up l ∧ ∀ p ∈ l, p < z := by
  unfold Up
  rw [List.pairwise_append]
  simp
theorem putS_inv (n : Int) : ∀ (l : List Int) (s : Bool × List Int), Up l → Up s.2 → (∀ p ∈ s.2, ∀ x ∈ l, p < x ∨ (p = n ∧ s.1 = true ∧ p ≤ x)) → (s.1 = true → n ∈ s.2) → (s.1 = false → ∀ p ∈ s.2, p < n) →
    Up (l.foldl (putS n) s).2 ∧ (∀ m, m ∈ (l.foldl (putS n) s).2 ↔ m ∈ s.2 ∨ (m ∈ l ∧ m ≠ n) ∨ (m = n ∧ (l.foldl (putS n) s).1 = true)) ∧ ((l.foldl (putS n) s).1 = false → ∀ p ∈ (l.foldl (putS n) s).2, p < n) ∧ (l.foldl (putS n) s).2.length ≤ s.2.length + l.length + (if s.1 then 0 else 1) ∧ ((l.foldl (putS n) s).1 = false → (l.foldl (putS n) s).2.length ≤ s.2.length + l.length)
  | [], s, _, hs, _, h2, h3 => by
    refine ⟨hs, fun m => ?_, h3, by simp, by simp⟩
    simp only [List.foldl_nil, List.not_mem_nil, false_and, false_or]
    exact ⟨fun h => .inl h, fun h => h.elim id fun ⟨e, h⟩ => e ▸ h2 h⟩
  | x :: r, (d, out), hl, hs, h1, h2, h3 => by
    rw [List.foldl_cons]
    have hl' := List.pairwise_cons.1 hl
    simp only at hs h1 h2 h3
    by_cases hc : d = false ∧ n ≤ x
    · obtain ⟨rfl, hnx⟩ := hc
      by_cases hx : x = n
      · have e : putS n (false, out) x = (true, out ++ [n]) := by simp [putS, hx]
        rw [e]
        obtain ⟨i1, i2, i3, i4, i5⟩ := putS_inv n r (true, out ++ [n]) hl'.2 (up_snoc.2 ⟨hs, h3 rfl⟩) (fun p hp y hy => by
          have := hl'.1 y hy
          rcases List.mem_append.1 hp with hp | hp
          · have := h3 rfl p hp; left; omega
          · simp at hp; left; omega) (fun _ => by simp) (fun h => by cases h)
        refine ⟨i1, fun m => ?_, i3, ?_, ?_⟩
        · rw [i2]
          simp only [List.mem_append, List.mem_cons, List.not_mem_nil, or_false]
          constructor
          · rintro ((h | h) | h | h)
            · exact .inl h
            · refine .inr (.inr ⟨h, ?_⟩)
              cases hb : (r.foldl (putS n) (true, out ++ [n])).1 with
              | true => rfl
              | false => have := i3 hb n ((i2 n).2 (.inl (by simp))); omega
            · exact .inr (.inl ⟨.inr h.1, h.2⟩)
            · exact .inr (.inr h)
          · rintro (h | ⟨h | h, h'⟩ | h)
            · exact .inl (.inl h)
            · exact absurd (h.trans hx) h'
            · exact .inr (.inl ⟨h, h'⟩)
            · exact .inr (.inr h)
        · simp at i4 ⊢; omega
        · intro hf; have := i5 hf; simp at this ⊢; omega
      · have e : putS n (false, out) x = (true, out ++ [n] ++ [x]) := by simp [putS, hx, hnx]
        rw [e]
        obtain ⟨i1, i2, i3, i4, i5⟩ := putS_inv n r (true, out ++ [n] ++ [x]) hl'.2 (up_snoc.2 ⟨up_snoc.2 ⟨hs, h3 rfl⟩, fun p hp => by
          rcases List.mem_append.1 hp with hp | hp
          · have := h3 rfl p hp; omega
          · simp at hp; omega⟩) (fun p hp y hy => by
          have := hl'.1 y hy
          simp only [List.mem_append, List.mem_singleton] at hp
          rcases hp with (hp | hp) | hp
          · have := h3 rfl p hp; left; omega
          · left; omega
          · left; omega) (fun _ => by simp) (fun h => by cases h)
        refine ⟨i1, fun m => ?_, i3, ?_, ?_⟩
        · rw [i2]
          simp only [List.mem_append, List.mem_cons, List.not_mem_nil, or_false]
          constructor
          · rintro (((h | h) | h) | h | h)
            · exact .inl h
            · refine .inr (.inr ⟨h, ?_⟩)
              cases hb : (r.foldl (putS n) (true, out ++ [n] ++ [x])).1 with
              | true => rfl
              | false => have := i3 hb n ((i2 n).2 (.inl (by simp))); omega
            · exact .inr (.inl ⟨.inl h, fun e => hx (h.symm.trans e)⟩)
            · exact .inr (.inl ⟨.inr h.1, h.2⟩)
            · exact .inr (.inr h)
          · rintro (h | ⟨h | h, h'⟩ | h)
            · exact .inl (.inl (.inl h))
            · exact .inl (.inr h)
            · exact .inr (.inl ⟨h, h'⟩)
            · exact .inr (.inr h)
        · simp at i4 ⊢; omega
        · intro hf; have := i5 hf; simp at this ⊢; exfalso; have := i3 hf n ((i2 n).2 (.inl (by simp))); omega
    · by_cases hx : x = n
      · have hd : d = true := by cases d with | true => rfl | false => exact absurd ⟨rfl, by omega⟩ hc
        subst hd
        have e : putS n (true, out) x = (true, out) := by simp [putS, hx]
        rw [e]
        obtain ⟨i1, i2, i3, i4, i5⟩ := putS_inv n r (true, out) hl'.2 hs (fun p hp y hy => h1 p hp y (List.mem_cons_of_mem _ hy)) h2 h3
        refine ⟨i1, fun m => ?_, i3, ?_, ?_⟩
        · rw [i2]
          simp only [List.mem_cons]
          constructor
          · rintro (h | h | h)
            · exact .inl h
            · exact .inr (.inl ⟨.inr h.1, h.2⟩)
            · exact .inr (.inr h)
          · rintro (h | ⟨h | h, h'⟩ | h)
            · exact .inl h
            · exact absurd (h.trans hx) h'
            · exact .inr (.inl ⟨h, h'⟩)
            · exact .inr (.inr h)
        · simp at i4 ⊢; omega
        · intro hf; have := i5 hf; simp at this ⊢; omega
      · have e : putS n (d, out) x = (d, out ++ [x]) := by
          unfold putS
          simp only [hc, if_false, hx]
        rw [e]
        have hlt : d = false → x < n := fun h => by
          have : ¬ n ≤ x := fun h' => hc ⟨h, h'⟩
          omega
        obtain ⟨i1, i2, i3, i4, i5⟩ := putS_inv n r (d, out ++ [x]) hl'.2 (up_snoc.2 ⟨hs, fun p hp => by
          rcases h1 p hp x (by simp) with h | h
          · exact h
          · omega⟩) (fun p hp y hy => by
          rcases List.mem_append.1 hp with hp | hp
          · exact h1 p hp y (List.mem_cons_of_mem _ hy)
          · simp at hp; have := hl'.1 y hy; left; omega) (fun h => List.mem_append_left _ (h2 h)) (fun h p hp => by
          rcases List.mem_append.1 hp with hp | hp
          · exact h3 h p hp
          · simp at hp; rw [hp]; exact hlt h)
        refine ⟨i1, fun m => ?_, i3, ?_, ?_⟩
        · rw [i2]
          simp only [List.mem_append, List.mem_cons, List.not_mem_nil, or_false]
          constructor
          · rintro ((h | h) | h | h)
            · exact .inl h
            · exact .inr (.inl ⟨.inl h, fun e => hx (h.symm.trans e)⟩)
            · exact .inr (.inl ⟨.inr h.1, h.2⟩)
            · exact .inr (.inr h)
          · rintro (h | ⟨h | h, h'⟩ | h)
            · exact .inl (.inl h)
            · exact .inl (.inr h)
            · exact .inr (.inl ⟨h, h'⟩)
            · exact .inr (.inr h)
        · simp at i4 ⊢; omega
        · intro hf; have := i5 hf; simp at this ⊢; omega
theorem putP_props {l : List Int} (h : Up l) (n : Int) : Up (putP l n) ∧ (∀ m, m ∈ putP l n ↔ m ∈ l ∨ m = n) ∧ (putP l n).length ≤ l.length + 1 := by
  obtain ⟨i1, i2, i3, i4, i5⟩ := putS_inv n l (false, []) h (by simp [Up]) (by simp) (by simp) (by simp)
  unfold putP
  simp only
  cases hb : (l.foldl (putS n) (false, [])).1 with
  | true =>
    simp only [if_true]
    refine ⟨i1, fun m => ?_, by simpa using i4⟩
    rw [i2, hb]
    simp only [List.not_mem_nil, false_or, and_true]
    constructor
    · rintro (h | h)
      · exact .inl h.1
      · exact .inr h
    · rintro (h | h)
      · by_cases e : m = n
        · exact .inr e
        · exact .inl ⟨h, e⟩
      · exact .inr h
  | false =>
    have := i5 hb
    rw [if_neg (by simp)]
    refine ⟨up_snoc.2 ⟨i1, i3 hb⟩, fun m => ?_, by simp at this ⊢; omega⟩
    simp only [List.mem_append, List.mem_singleton, i2, hb, List.not_mem_nil, false_or]
    constructor
    · rintro ((h | h) | h)
      · exact .inl h.1
      · cases h.2
      · exact .inr h
    · rintro (h | h)
      · by_cases e : m = n
        · exact .inr e
        · exact .inl (.inl ⟨h, e⟩)
      · exact .inr h
def ptS (out : List Int) (x : TRun) : List Int := if mayR x then putP (putP out x.lo) (x.hi + 1) else out
def ptsP (l : List TRun) : List Int := l.foldl ptS []
theorem ptS_inv : ∀ (l : List TRun) (out : List Int), Up out → Up (l.foldl ptS out) ∧ (∀ m, m ∈ l.foldl ptS out ↔ m ∈ out ∨ ∃ x ∈ l, mayR x = true ∧ (m = x.lo ∨ m = x.hi + 1)) ∧ (l.foldl ptS out).length ≤ out.length + 2 * l.length
  | [], out, h => ⟨h, fun m => by simp, by simp⟩
  | x :: r, out, h => by
    rw [List.foldl_cons]
    obtain ⟨j1, j2, j3⟩ := putP_props h x.lo
    obtain ⟨k1, k2, k3⟩ := putP_props j1 (x.hi + 1)
    by_cases hm : mayR x = true
    · have e : ptS out x = putP (putP out x.lo) (x.hi + 1) := by simp [ptS, hm]
      rw [e]
      obtain ⟨i1, i2, i3⟩ := ptS_inv r _ k1
      refine ⟨i1, fun m => ?_, by simp; omega⟩
      rw [i2, k2, j2]
      constructor
      · rintro (((h | h) | h) | ⟨y, h1, h2⟩)
        · exact .inl h
        · exact .inr ⟨x, by simp, hm, .inl h⟩
        · exact .inr ⟨x, by simp, hm, .inr h⟩
        · exact .inr ⟨y, by simp [h1], h2⟩
      · rintro (h | ⟨y, h1, h2, h3⟩)
        · exact .inl (.inl (.inl h))
        · rcases List.mem_cons.1 h1 with rfl | h1
          · rcases h3 with h3 | h3
            · exact .inl (.inl (.inr h3))
            · exact .inl (.inr h3)
          · exact .inr ⟨y, h1, h2, h3⟩
    · have e : ptS out x = out := by simp [ptS, hm]
      rw [e]
      obtain ⟨i1, i2, i3⟩ := ptS_inv r _ h
      refine ⟨i1, fun m => ?_, by simp; omega⟩
      rw [i2]
      constructor
      · rintro (h | ⟨y, h1, h2⟩)
        · exact .inl h
        · exact .inr ⟨y, by simp [h1], h2⟩
      · rintro (h | ⟨y, h1, h2, h3⟩)
        · exact .inl h
        · rcases List.mem_cons.1 h1 with rfl | h1
          · exact absurd h2 hm
          · exact .inr ⟨y, h1, h2, h3⟩
theorem ptsP_props (l : List TRun) : Up (ptsP l) ∧ (∀ m, m ∈ ptsP l ↔ ∃ x ∈ l, mayR x = true ∧ (m = x.lo ∨ m = x.hi + 1)) ∧ (ptsP l).length ≤ 2 * l.length := by
  obtain ⟨h1, h2, h3⟩ := ptS_inv l [] (by simp [Up])
  exact ⟨h1, fun m => by rw [ptsP, h2]; simp, by simpa [ptsP] using h3⟩

def lastOr (out : List TRun) (p : Int) (z : TRun → TRun) (x : TRun) : List TRun := match out.getLast? with
  | some y => if y.hi + 1 = p then out.dropLast ++ [z y] else out ++ [x]
  | none => out ++ [x]
def setS (op : Bool → Bool → Bool) (a b : List TRun) (out : List TRun) (pq : Int × Int) : List TRun :=
  if op (hasR a pq.1) (hasR b pq.1) then lastOr out pq.1 (fun y => ⟨y.lo, pq.2 - 1⟩) ⟨pq.1, pq.2 - 1⟩ else out
def pairs (l : List Int) : List (Int × Int) := l.zip l.tail
def setR (op : Bool → Bool → Bool) (a b : List TRun) : List TRun := (pairs (ptsP (a ++ b))).foldl (setS op a b) []

theorem lastOr_nil (p : Int) (z : TRun → TRun) (x : TRun) : lastOr [] p z x = [x] := rfl
theorem lastOr_snoc (l : List TRun) (y : TRun) (p : Int) (z : TRun → TRun) (x : TRun) : lastOr (l ++ [y]) p z x = if y.hi + 1 = p then l ++ [z y] else l ++ [y] ++ [x] := by simp [lastOr]
theorem snoc_cases {α : Type} (l : List α) : l = [] ∨ ∃ r y, l = r ++ [y] := by
  rcases List.eq_nil_or_concat l with h | ⟨r, y, h⟩
  · exact .inl h
  · exact .inr ⟨r, y, by simpa using h⟩

theorem setS_inv (op : Bool → Bool → Bool) (a b : List TRun) : ∀ (P : List Int) (p : Int) (out : List TRun), Up (p :: P) → (∀ q ∈ p :: P, 1 ≤ q ∧ q ≤ 281474976710656) → Nf out → (∀ y ∈ out, y.hi < p) →
    Nf ((pairs (p :: P)).foldl (setS op a b) out) ∧ (∀ n, hasR ((pairs (p :: P)).foldl (setS op a b) out) n = true ↔ hasR out n = true ∨ ∃ pq ∈ pairs (p :: P), pq.1 ≤ n ∧ n < pq.2 ∧ op (hasR a pq.1) (hasR b pq.1) = true) ∧ ((pairs (p :: P)).foldl (setS op a b) out).length ≤ out.length + P.length
  | [], p, out, _, _, h, _ => by simp [pairs, h]
  | q :: P, p, out, hu, hr, h, hy => by
    have e : pairs (p :: q :: P) = (p, q) :: pairs (q :: P) := rfl
    rw [e, List.foldl_cons]
    have hu' := List.pairwise_cons.1 hu
    have hpq : p < q := hu'.1 q (by simp)
    have hp := hr p (by simp)
    have hq := hr q (by simp)
    have step : Nf (setS op a b out (p, q)) ∧ (∀ n, hasR (setS op a b out (p, q)) n = true ↔ hasR out n = true ∨ (p ≤ n ∧ n < q ∧ op (hasR a p) (hasR b p) = true)) ∧ (∀ y ∈ setS op a b out (p, q), y.hi < q) ∧ (setS op a b out (p, q)).length ≤ out.length + 1 := by
      unfold setS
      simp only
      by_cases hop : op (hasR a p) (hasR b p) = true
      · rw [if_pos hop]
        rcases snoc_cases out with rfl | ⟨l, y, rfl⟩
        · rw [lastOr_nil]
          have hm : mayR (⟨p, q - 1⟩ : TRun) = true := mayR_iff.2 ⟨hp.1, by simp only; omega, by simp only; omega⟩
          refine ⟨⟨hm, by simp, trivial⟩, fun n => ?_, fun y hy => ?_, by simp⟩
          · rw [hasR_one, inR_iff]
            have := mayR_iff.1 hm
            simp only at this ⊢
            simp only [hasR_nil, Bool.false_eq_true, false_or, hop, and_true]
            omega
          · simp at hy; subst hy; simp only; omega
        · rw [lastOr_snoc]
          obtain ⟨n1, n2, n3⟩ := nf_snoc.1 h
          have hym := mayR_iff.1 n2
          have hyp := hy y (by simp)
          by_cases hadj : y.hi + 1 = p
          · rw [if_pos hadj]
            have hm : mayR (⟨y.lo, q - 1⟩ : TRun) = true := mayR_iff.2 ⟨hym.1, by simp only; omega, by simp only; omega⟩
            refine ⟨nf_snoc.2 ⟨n1, hm, n3⟩, fun n => ?_, fun z hz => ?_, by simp⟩
            · rw [hasR_app, hasR_app, hasR_one, hasR_one, Bool.or_eq_true, Bool.or_eq_true, inR_iff, inR_iff]
              have := mayR_iff.1 hm
              simp only at this ⊢
              simp only [hop, and_true]
              constructor
              · rintro (h | h)
                · exact .inl (.inl h)
                · by_cases hc : n ≤ y.hi
                  · exact .inl (.inr ⟨hym, h.2.1, hc⟩)
                  · right; omega
              · rintro ((h | h) | h)
                · exact .inl h
                · right; omega
                · right; omega
            · rcases List.mem_append.1 hz with hz | hz
              · have := hy z (by simp [hz]); omega
              · simp at hz; subst hz; simp only; omega
          · rw [if_neg hadj]
            have hm : mayR (⟨p, q - 1⟩ : TRun) = true := mayR_iff.2 ⟨hp.1, by simp only; omega, by simp only; omega⟩
            refine ⟨nf_snoc.2 ⟨h, hm, fun z hz => ?_⟩, fun n => ?_, fun z hz => ?_, by simp⟩
            · simp only
              rcases List.mem_append.1 hz with hz | hz
              · have := n3 z hz; omega
              · simp at hz; subst hz; omega
            · rw [hasR_app (l ++ [y]), hasR_one, Bool.or_eq_true, inR_iff]
              have := mayR_iff.1 hm
              simp only at this ⊢
              simp only [hop, and_true]
              constructor
              · rintro (h | h)
                · exact .inl h
                · right; omega
              · rintro (h | h)
                · exact .inl h
                · right; omega
            · rcases List.mem_append.1 hz with hz | hz
              · have := hy z hz; omega
              · simp at hz; subst hz; simp only; omega
      · rw [if_neg hop]
        refine ⟨h, fun n => ?_, fun y hy' => by have := hy y hy'; omega, by omega⟩
        exact ⟨fun h => .inl h, fun h => h.elim id fun h => absurd h.2.2 hop⟩
    obtain ⟨s1, s2, s3, s4⟩ := step
    obtain ⟨i1, i2, i3⟩ := setS_inv op a b P q _ hu'.2 (fun z hz => hr z (List.mem_cons_of_mem _ hz)) s1 s3
    refine ⟨i1, fun n => ?_, by simp; omega⟩
    rw [i2, s2]
    simp only [List.mem_cons, exists_eq_or_imp]
    constructor
    · rintro ((h | h) | h)
      · exact .inl h
      · exact .inr (.inl h)
      · exact .inr (.inr h)
    · rintro (h | h | h)
      · exact .inl (.inl h)
      · exact .inl (.inr h)
      · exact .inr h

/-- Two places of a rising list that stand side by side. -/
theorem pairs_next : ∀ {P : List Int}, Up P → ∀ pq ∈ pairs P, pq.1 ∈ P ∧ pq.2 ∈ P ∧ pq.1 < pq.2 ∧ ∀ m ∈ P, m ≤ pq.1 ∨ pq.2 ≤ m
  | [], _, pq, h => by simp [pairs] at h
  | [p], _, pq, h => by simp [pairs] at h
  | p :: q :: P, hu, pq, h => by
    have e : pairs (p :: q :: P) = (p, q) :: pairs (q :: P) := rfl
    rw [e] at h
    have hu' := List.pairwise_cons.1 hu
    rcases List.mem_cons.1 h with rfl | h
    · refine ⟨by simp, by simp, hu'.1 q (by simp), fun m hm => ?_⟩
      rcases List.mem_cons.1 hm with rfl | hm
      · simp
      · right
        rcases List.mem_cons.1 hm with rfl | hm
        · simp
        · have := (List.pairwise_cons.1 hu'.2).1 m hm
          simp only; omega
    · obtain ⟨h1, h2, h3, h4⟩ := pairs_next hu'.2 pq h
      refine ⟨List.mem_cons_of_mem _ h1, List.mem_cons_of_mem _ h2, h3, fun m hm => ?_⟩
      rcases List.mem_cons.1 hm with rfl | hm
      · left; have := hu'.1 _ h1; omega
      · exact h4 m hm
theorem pairs_find : ∀ {P : List Int}, Up P → ∀ {u v n : Int}, u ∈ P → v ∈ P → u ≤ n → n < v → ∃ pq ∈ pairs P, pq.1 ≤ n ∧ n < pq.2
  | [], _, _, _, _, h, _, _, _ => by simp at h
  | [p], _, u, v, n, h1, h2, h3, h4 => by simp at h1 h2; omega
  | p :: q :: P, hu, u, v, n, h1, h2, h3, h4 => by
    have e : pairs (p :: q :: P) = (p, q) :: pairs (q :: P) := rfl
    have hu' := List.pairwise_cons.1 hu
    by_cases hc : n < q
    · refine ⟨(p, q), by rw [e]; simp, ?_, hc⟩
      rcases List.mem_cons.1 h1 with rfl | h1
      · exact h3
      · have : q ≤ u := by
          rcases List.mem_cons.1 h1 with rfl | h1
          · omega
          · have := (List.pairwise_cons.1 hu'.2).1 u h1; omega
        simp only; omega
    · have hv : v ∈ q :: P := by
        rcases List.mem_cons.1 h2 with rfl | h2
        · have := hu'.1 q (by simp); omega
        · exact h2
      obtain ⟨pq, h5, h6⟩ := pairs_find hu'.2 (u := q) (by simp) hv (by omega) h4
      exact ⟨pq, by rw [e]; exact List.mem_cons_of_mem _ h5, h6⟩
theorem pairs_len (P : List Int) : (pairs P).length = P.length - 1 := by simp [pairs]

theorem has_between {l : List TRun} {P : List Int} (hP : ∀ x ∈ l, mayR x = true → x.lo ∈ P ∧ x.hi + 1 ∈ P) {p q n : Int} (h1 : ∀ m ∈ P, m ≤ p ∨ q ≤ m) (h2 : p ≤ n) (h3 : n < q) : hasR l n = hasR l p := by
  rw [Bool.eq_iff_iff, hasR_iff, hasR_iff]
  constructor
  · rintro ⟨x, hx, hm, h4, h5⟩
    obtain ⟨h6, h7⟩ := hP x hx hm
    have := h1 _ h6
    have := h1 _ h7
    exact ⟨x, hx, hm, by omega, by omega⟩
  · rintro ⟨x, hx, hm, h4, h5⟩
    obtain ⟨h6, h7⟩ := hP x hx hm
    have := h1 _ h6
    have := h1 _ h7
    exact ⟨x, hx, hm, by omega, by omega⟩
theorem setR_props (op : Bool → Bool → Bool) (h0 : op false false = false) (a b : List TRun) : Nf (setR op a b) ∧ (∀ n, hasR (setR op a b) n = op (hasR a n) (hasR b n)) ∧ (setR op a b).length ≤ 2 * (a.length + b.length) := by
  obtain ⟨p1, p2, p3⟩ := ptsP_props (a ++ b)
  have hrange : ∀ q ∈ ptsP (a ++ b), 1 ≤ q ∧ q ≤ 281474976710656 := fun q hq => by
    obtain ⟨x, _, h2, h3⟩ := (p2 q).1 hq
    have := mayR_iff.1 h2
    omega
  have main : Nf (setR op a b) ∧ (∀ n, hasR (setR op a b) n = true ↔ ∃ pq ∈ pairs (ptsP (a ++ b)), pq.1 ≤ n ∧ n < pq.2 ∧ op (hasR a pq.1) (hasR b pq.1) = true) ∧ (setR op a b).length ≤ (ptsP (a ++ b)).length := by
    unfold setR
    generalize hP : ptsP (a ++ b) = P at p1 hrange
    cases P with
    | nil => simp [pairs, Nf]
    | cons p P =>
      obtain ⟨i1, i2, i3⟩ := setS_inv op a b P p [] p1 hrange trivial (by simp)
      exact ⟨i1, fun n => by rw [i2]; simp, by simp at i3 ⊢; omega⟩
  obtain ⟨m1, m2, m3⟩ := main
  refine ⟨m1, fun n => ?_, by simp at p3; omega⟩
  have hPa : ∀ x ∈ a, mayR x = true → x.lo ∈ ptsP (a ++ b) ∧ x.hi + 1 ∈ ptsP (a ++ b) := fun x hx hm => ⟨(p2 _).2 ⟨x, by simp [hx], hm, .inl rfl⟩, (p2 _).2 ⟨x, by simp [hx], hm, .inr rfl⟩⟩
  have hPb : ∀ x ∈ b, mayR x = true → x.lo ∈ ptsP (a ++ b) ∧ x.hi + 1 ∈ ptsP (a ++ b) := fun x hx hm => ⟨(p2 _).2 ⟨x, by simp [hx], hm, .inl rfl⟩, (p2 _).2 ⟨x, by simp [hx], hm, .inr rfl⟩⟩
  rw [Bool.eq_iff_iff, m2]
  constructor
  · rintro ⟨pq, h1, h2, h3, h4⟩
    obtain ⟨_, _, _, h5⟩ := pairs_next p1 pq h1
    rwa [has_between hPa h5 h2 h3, has_between hPb h5 h2 h3]
  · intro h
    have hex : ∃ u ∈ ptsP (a ++ b), ∃ v ∈ ptsP (a ++ b), u ≤ n ∧ n < v := by
      cases ha : hasR a n with
      | true =>
        obtain ⟨x, h1, h2, h3, h4⟩ := hasR_iff.1 ha
        exact ⟨_, (hPa x h1 h2).1, _, (hPa x h1 h2).2, h3, by omega⟩
      | false =>
        cases hb : hasR b n with
        | true =>
          obtain ⟨x, h1, h2, h3, h4⟩ := hasR_iff.1 hb
          exact ⟨_, (hPb x h1 h2).1, _, (hPb x h1 h2).2, h3, by omega⟩
        | false => rw [ha, hb, h0] at h; cases h
    obtain ⟨u, hu, v, hv, h1, h2⟩ := hex
    obtain ⟨pq, h3, h4, h5⟩ := pairs_find p1 hu hv h1 h2
    obtain ⟨_, _, _, h6⟩ := pairs_next p1 pq h3
    exact ⟨pq, h3, h4, h5, by rwa [← has_between hPa h6 h4 h5, ← has_between hPb h6 h4 h5]⟩

def nrm (l : List TRun) : List TRun := setR (· || ·) l []
theorem nrm_nf (l : List TRun) : Nf (nrm l) := (setR_props _ rfl l []).1
theorem nrm_has (l : List TRun) (n : Int) : hasR (nrm l) n = hasR l n := by rw [nrm, (setR_props _ rfl l []).2.1]; simp
theorem nrm_len (l : List TRun) : (nrm l).length ≤ 2 * l.length := by
  have := (setR_props (· || ·) rfl l []).2.2
  rw [List.length_nil, Nat.add_zero] at this
  exact this
theorem nrm_of {l r : List TRun} (h : Nf r) (h2 : ∀ n, hasR r n = hasR l n) : r = nrm l := nf_ext h (nrm_nf l) fun n => by rw [h2, nrm_has]
theorem nrm_self {l : List TRun} (h : Nf l) : nrm l = l := (nrm_of h fun _ => rfl).symm


theorem few_eq (l : List TRun) : l06_few l = pure (decide ((l.length : Int) ≤ 60)) := rfl
theorem runEq_iff (x y : TRun) : (decide (x.lo = y.lo) && decide (x.hi = y.hi)) = decide (x = y) := by
  rw [Bool.eq_iff_iff]
  cases x; cases y
  simp
theorem eqLoop {body : Int → M (Step Int (Ex Unit Bool))} (a b : List TRun) (hl : a.length = b.length) (hn : a.length ≤ 1000000000000)
    (hb : ∀ i : Int, body i = cond (decide (i < (a.length : Int))) (M.bind (M.idx a i) fun x => M.bind (M.idx b i) fun y => cond (!(decide (x.lo = y.lo) && decide (x.hi = y.hi))) (M.pure (.done (.ret false))) (M.pure (.next (IntKind.i64.wrap (i + 1))))) (M.pure (.done (.brk ())))) :
    M.bind (M.loop body 0) (M.exk fun _ => M.pure true) = pure (decide (a = b)) := by
  have := loopAll (body := body) a (fun i => (i : Int)) (fun i x => decide (b[i]? = some x)) (.brk ()) (.ret false) (fun i x hx hi => by
    have hb' : i < b.length := by omega
    rw [hb, idx_nat hx, idx_nat (List.getElem?_eq_getElem hb'), wSucc (by omega)]
    simp only [pure_bind, List.getElem?_eq_getElem hb', Option.some.injEq, runEq_iff]
    have : decide ((i : Int) < (a.length : Int)) = true := by simpa using hi
    rw [this, cond_true]
    by_cases he : b[i] = x
    · subst he; simp
    · rw [if_neg (by simpa using he)]
      have : decide (x = b[i]) = false := by simpa using fun h => he h.symm
      rw [this]; rfl) (by rw [hb]; simp)
  rw [show (0 : Int) = ((0 : Nat) : Int) from rfl, this]
  by_cases he : a = b
  · subst he
    rw [if_pos]
    · simp [pure_bind, exk_brk]
    · rw [List.all_eq_true]
      intro ⟨x, i⟩ hx
      rw [List.mk_mem_zipIdx_iff_getElem?] at hx
      simpa using hx
  · rw [if_neg]
    · simp [he, pure_bind, exk_ret]
    · intro hall
      rw [List.all_eq_true] at hall
      apply he
      apply List.ext_getElem (by omega)
      intro i h1 h2
      have := hall (a[i], i) (by rw [List.mk_mem_zipIdx_iff_getElem?]; exact List.getElem?_eq_getElem h1)
      simp [h2] at this
      exact this.symm
theorem req_eq (a b : List TRun) (h : a.length ≤ 1000000000000) : r06_Eq a b = pure (decide (a = b)) := by
  unfold r06_Eq
  by_cases hl : (a.length : Int) = b.length
  · simp only [hl, decide_true, Bool.not_true, cond_false]
    exact eqLoop a b (by omega) h fun i => rfl
  · have hne : a ≠ b := fun e => hl (by rw [e])
    simp [hl, hne]
theorem rmay_eq (x : TRun) : r06_may x = pure (mayR x) := by
  unfold r06_may
  rw [cond_pure_and, cond_pure_and, pure_bind]
  rfl
theorem rhas_eq (l : List TRun) (n : Int) (h : l.length ≤ 1000000000000) : r06_Has l n = pure (hasR l n) := by
  unfold r06_Has
  have := loopAll (body := r06_Has_l0 l n) l (fun i => (i : Int)) (fun _ x => !inR n x) (.brk ()) (.ret true) (fun i x hx hi => by
    unfold r06_Has_l0
    have h1 : decide ((i : Int) < (l.length : Int)) = true := by simpa using hi
    simp only [h1, cond_true, idx_nat hx, pure_bind, rmay_eq, det_pure, wSucc (show i < 9223372036854775807 by omega), cond_pure_and]
    unfold inR
    cases mayR x <;> cases decide (x.lo ≤ n) <;> cases decide (n ≤ x.hi) <;> rfl) (by unfold r06_Has_l0; simp)
  rw [show (0 : Int) = ((0 : Nat) : Int) from rfl, this, pure_bind]
  have e : l.zipIdx.all (fun y => !inR n y.1) = !hasR l n := by
    unfold hasR
    rw [Bool.eq_iff_iff]
    simp only [List.all_eq_true, Bool.not_eq_true', List.any_eq_false]
    constructor
    · intro h x hx
      obtain ⟨i, hi, he⟩ := List.getElem_of_mem hx
      have := h (x, i) (by rw [List.mk_mem_zipIdx_iff_getElem?]; rw [List.getElem?_eq_getElem hi, he])
      simpa using this
    · intro h y hy
      have := List.fst_mem_of_mem_zipIdx hy
      have := h _ this
      simpa using this
  simp only [e]
  cases hasR l n <;> rfl
theorem rput_eq (l : List Int) (n : Int) (h : l.length ≤ 100000000000) : r06_put l n = pure (putP l n) := by
  unfold r06_put
  have := loopL (body := r06_put_l0 l n) l (fun i (t : Bool × List Int) => (t.1, (i : Int), t.2)) (putS n) (fun t => pure t) (fun i t => t.2.length ≤ 2 * i) (fun i x t hx hi hI => by
    obtain ⟨d, out⟩ := t
    simp only at hI
    have h1 : decide ((i : Int) < (l.length : Int)) = true := by simpa using hi
    refine ⟨?_, ?_⟩
    · unfold r06_put_l0 putS
      simp only [h1, cond_true, idx_nat hx, pure_bind, wSucc (show i < 9223372036854775807 by omega)]
      cases d with
      | true =>
        by_cases hc : x = n
        · simp [hc, pure_bind]
        · simp only [Bool.not_true, cond_false, pure_bind, hc, decide_false, Bool.not_false, cond_true, if_false]
          rw [need_true (by simp; omega)]
          simp [pure_bind]
      | false =>
        by_cases hc1 : n ≤ x
        · simp only [Bool.not_false, cond_true, pure_bind, hc1, decide_true]
          rw [need_true (by simp; omega), pure_bind]
          by_cases hc : x = n
          · simp [hc, pure_bind]
          · simp only [hc, decide_false, Bool.not_false, cond_true]
            rw [need_true (by simp; omega)]
            simp [pure_bind]
        · simp only [Bool.not_false, cond_true, pure_bind, hc1, decide_false, cond_false]
          have hc : x ≠ n := by omega
          simp only [hc, decide_false, Bool.not_false, cond_true]
          rw [need_true (by simp; omega)]
          simp [pure_bind]
    · unfold putS
      simp only
      split <;> split <;> simp <;> omega) (fun t _ => by unfold r06_put_l0; simp [pure_bind]) (false, []) (by simp)
  rw [show ((false, (0 : Int), ([] : List Int)) : Bool × Int × List Int) = (false, ((0 : Nat) : Int), []) from rfl, this, pure_bind]
  unfold putP
  have hlen : (l.foldl (putS n) (false, [])).2.length ≤ 2 * l.length := by
    have : ∀ (l : List Int) (s : Bool × List Int), (l.foldl (putS n) s).2.length ≤ s.2.length + 2 * l.length := by
      intro l
      induction l with
      | nil => intro s; simp
      | cons x r ih =>
        intro s
        rw [List.foldl_cons]
        have := ih (putS n s x)
        have h2 : (putS n s x).2.length ≤ s.2.length + 2 := by
          unfold putS; simp only
          split <;> split <;> simp
        simp; omega
    simpa using this l (false, [])
  generalize l.foldl (putS n) (false, []) = t at hlen
  obtain ⟨d, out⟩ := t
  cases d with
  | true => rfl
  | false =>
    simp only [Bool.not_false, cond_true]
    rw [need_true (by simp at hlen ⊢; omega)]
    rfl
theorem rpts_eq (a b : List TRun) (h : a.length + b.length ≤ 10000000000) : r06_points a b = pure (ptsP (a ++ b)) := by
  unfold r06_points
  rw [need_true (by simp; omega), need_true (by simp; omega)]
  have hup : ∀ i, Up (((a ++ b).take i).foldl ptS []) ∧ (((a ++ b).take i).foldl ptS []).length ≤ 2 * (a ++ b).length := fun i => by
    obtain ⟨h1, _, h3⟩ := ptS_inv ((a ++ b).take i) [] (by simp [Up])
    refine ⟨h1, ?_⟩
    have : ((a ++ b).take i).length ≤ (a ++ b).length := by simp; omega
    simp only [List.length_nil, Nat.zero_add] at h3
    omega
  have := loopL (body := r06_points_l0 a b) (a ++ b) (fun i (t : List Int) => (t, (i : Int))) ptS (fun t => pure t) (fun i t => t = ((a ++ b).take i).foldl ptS []) (fun i x t hx hi hI => by
    have h1 : decide ((i : Int) < ((a ++ b).length : Int)) = true := decide_eq_true (by omega)
    have hlen : (a ++ b).length ≤ 10000000000 := by simp; omega
    obtain ⟨u1, u2⟩ := hup i
    rw [← hI] at u1 u2
    refine ⟨?_, ?_⟩
    · unfold r06_points_l0 ptS
      simp only [List.nil_append, h1, cond_true, idx_nat hx, pure_bind, wSucc (show i < 9223372036854775807 by omega), rmay_eq, det_pure]
      cases hm : mayR x with
      | false => simp [pure_bind]
      | true =>
        have hm' := mayR_iff.1 hm
        have hp := putP_props u1 x.lo
        rw [cond_true, rput_eq _ _ (by omega), det_pure, pure_bind, wU64 (by omega) (by omega), rput_eq _ _ (by omega), det_pure]
        simp [pure_bind]
    · rw [List.take_add_one, hx]
      simp [hI]) (fun t _ => by unfold r06_points_l0; simp [pure_bind]) [] (by simp)
  rw [show (([] : List Int), (0 : Int)) = ([], ((0 : Nat) : Int)) from rfl, this]
  simp only [pure_bind]
  rfl
theorem zip_tail_get {P : List Int} {i : Nat} {pq : Int × Int} (h : (pairs P)[i]? = some pq) : P[i]? = some pq.1 ∧ P[i + 1]? = some pq.2 := by
  unfold pairs at h
  rw [List.getElem?_zip_eq_some] at h
  obtain ⟨h1, h2⟩ := h
  rw [List.getElem?_tail] at h2
  exact ⟨h1, h2⟩
theorem rset_eq (op : Bool → Bool → Bool) (how : Int) (hop : ∀ x y, op x y = if how = 2 then (x && !y) else if how = 1 then (x && y) else (x || y)) (_h0 : op false false = false) (a b : List TRun) (h : a.length + b.length ≤ 10000000000) : r06_set a b how = pure (setR op a b) := by
  unfold r06_set
  rw [rpts_eq a b h, det_pure, pure_bind]
  obtain ⟨p1, p2, p3⟩ := ptsP_props (a ++ b)
  have hrange : ∀ q ∈ ptsP (a ++ b), 1 ≤ q ∧ q ≤ 281474976710656 := fun q hq => by
    obtain ⟨x, _, h2, h3⟩ := (p2 q).1 hq
    have := mayR_iff.1 h2
    omega
  unfold setR
  generalize ptsP (a ++ b) = P at p1 hrange p3
  simp only [List.length_append] at p3
  have hinv : ∀ i, i ≤ (pairs P).length → Nf (((pairs P).take i).foldl (setS op a b) []) ∧ (((pairs P).take i).foldl (setS op a b) []).length ≤ P.length := fun i hi => by
    cases P with
    | nil => simp [pairs, Nf]
    | cons p P =>
      have key : (pairs (p :: P)).take i = pairs (p :: P.take i) := by
        unfold pairs
        simp only [List.tail_cons]
        clear hi p1 hrange p3
        induction i generalizing p P with
        | zero => simp
        | succ i ih =>
          cases P with
          | nil => simp
          | cons q P =>
            simp only [List.zip_cons_cons, List.take_succ_cons]
            rw [ih q P]
      rw [key]
      have hsub : (p :: P.take i).Sublist (p :: P) := List.Sublist.cons_cons _ (List.take_sublist _ _)
      obtain ⟨i1, _, i3⟩ := setS_inv op a b (P.take i) p [] (List.Pairwise.sublist hsub p1) (fun q hq => hrange q (hsub.subset hq)) trivial (by simp)
      refine ⟨i1, ?_⟩
      simp at i3 ⊢
      omega
  have := loopL (body := r06_set_l0 P a b how) (pairs P) (fun i (t : List TRun) => ((i : Int), t)) (setS op a b) (fun t => pure t) (fun i t => i ≤ (pairs P).length ∧ t = ((pairs P).take i).foldl (setS op a b) []) (fun i pq t hx hi hI => by
    obtain ⟨hI1, hI⟩ := hI
    obtain ⟨g1, g2⟩ := zip_tail_get hx
    have hlt : i + 1 < P.length := (List.getElem?_eq_some_iff.1 g2).1
    have hPl : P.length ≤ 20000000000 := by omega
    have h1 : decide (((i + 1 : Nat) : Int) < (P.length : Int)) = true := by rw [decide_eq_true_eq]; omega
    obtain ⟨v1, v2⟩ := hinv i hI1
    rw [← hI] at v1 v2
    refine ⟨?_, by omega, by rw [List.take_add_one, hx]; simp [hI]⟩
    unfold r06_set_l0 setS
    have e2 : idx P ((i + 1 : Nat) : Int) = pure pq.2 := idx_nat g2
    have hq := hrange pq.2 (List.mem_of_getElem? g2)
    simp only [wSucc (show i < 9223372036854775807 by omega), h1, cond_true, idx_nat g1, e2, pure_bind, rhas_eq a pq.1 (by omega), rhas_eq b pq.1 (by omega), det_pure]
    rw [hop]
    have hin : ∀ (x y : Bool), (M.bind (cond x (M.pure true) (M.pure y)) fun in97 => M.bind (cond (decide (how = 1)) (M.bind (cond x (M.pure y) (M.pure false)) fun in101 => M.pure in101) (M.pure in97)) fun in99 => cond (decide (how = 2)) (M.bind (cond x (M.pure (!y)) (M.pure false)) fun in105 => M.pure in105) (M.pure in99)) = pure (if how = 2 then (x && !y) else if how = 1 then (x && y) else (x || y)) := by
      intro x y
      by_cases c2 : how = 2
      · subst c2; cases x <;> cases y <;> rfl
      · by_cases c1 : how = 1
        · subst c1; cases x <;> cases y <;> rfl
        · simp only [c1, c2, decide_false, cond_false, if_false]
          cases x <;> cases y <;> rfl
    have hin' := hin (hasR a pq.1) (hasR b pq.1)
    generalize (if how = 2 then (hasR a pq.1 && !hasR b pq.1) else if how = 1 then (hasR a pq.1 && hasR b pq.1) else (hasR a pq.1 || hasR b pq.1)) = inn at hin'
    -- the three steps are one
    have assoc : ∀ (K : Bool → M (List TRun)), (M.bind (cond (hasR a pq.1) (M.pure true) (M.pure (hasR b pq.1))) fun in97 => M.bind (cond (decide (how = 1)) (M.bind (cond (hasR a pq.1) (M.pure (hasR b pq.1)) (M.pure false)) fun in101 => M.pure in101) (M.pure in97)) fun in99 => M.bind (cond (decide (how = 2)) (M.bind (cond (hasR a pq.1) (M.pure (!hasR b pq.1)) (M.pure false)) fun in105 => M.pure in105) (M.pure in99)) K) = K inn := by
      intro K
      have := congrArg (fun m => M.bind m K) hin'
      exact this
    rw [assoc]
    cases inn with
    | false => rfl
    | true =>
      simp only [cond_true, if_true]
      rcases snoc_cases t with rfl | ⟨l, y, rfl⟩
      · have e : decide ((0 : Int) ≤ IntKind.i64.wrap (((([] : List TRun).length : Nat) : Int) - 1)) = false := by
          rw [wI64 (by simp) (by simp)]; simp
        rw [e]
        simp only [cond_false, pure_bind]
        rw [need_true (by simp), wU64 (by omega) (by omega)]
        rfl
      · have hy := (nf_snoc.1 v1).2.1
        have hym := mayR_iff.1 hy
        have e0 : IntKind.i64.wrap ((((l ++ [y]).length : Nat) : Int) - 1) = (l.length : Int) := by
          simp only [List.length_append, List.length_singleton] at v2 ⊢
          rw [wI64 (by omega) (by omega)]; omega
        have e1 : idx (l ++ [y]) (l.length : Int) = pure y := idx_nat (by simp)
        have e3 : decide ((0 : Int) ≤ (l.length : Int)) = true := by simp
        rw [e0, e3]
        simp only [cond_true, e1, pure_bind, wU64 (show 0 ≤ y.hi + 1 by omega) (by omega), wU64 (show 0 ≤ pq.2 - 1 by omega) (by omega)]
        rw [lastOr_snoc]
        by_cases hc : y.hi + 1 = pq.1
        · simp only [hc, decide_true, cond_true, if_true, Int.toNat_natCast]
          have : (l ++ [y]).set l.length (⟨y.lo, pq.2 - 1⟩ : TRun) = l ++ [⟨y.lo, pq.2 - 1⟩] := by simp
          rw [this]
          rfl
        · simp only [hc, decide_false, cond_false, if_false]
          rw [need_true (by simp only [List.length_append, List.length_singleton] at v2 ⊢; omega)]
          rfl) (fun t _ => by
    unfold r06_set_l0
    have e : decide (IntKind.i64.wrap (((pairs P).length : Int) + 1) < (P.length : Int)) = false := by
      rw [pairs_len, wI64 (by omega) (by omega)]
      simp; omega
    simp only [e, cond_false, pure_bind]) [] ⟨Nat.zero_le _, by simp⟩
  rw [show ((0 : Int), ([] : List TRun)) = (((0 : Nat) : Int), []) from rfl, this]
  simp only [pure_bind]

theorem rmeet_eq (a b : List TRun) (h : a.length + b.length ≤ 10000000000) : r06_Meet a b = pure (setR (· && ·) a b) := by
  unfold r06_Meet
  rw [rset_eq (· && ·) 1 (fun x y => by simp) rfl a b h, det_pure, pure_bind]
theorem rnorm_eq (l : List TRun) (h : l.length ≤ 10000000000) : r06_Norm l = pure (nrm l) := by
  unfold r06_Norm
  rw [rset_eq (· || ·) 0 (fun x y => by simp) rfl l [] (by simpa using h), det_pure, pure_bind]
  rfl

def addN (out : List TRun) (x : TRun) : List TRun := match out.getLast? with
  | some y => if x.lo ≤ y.hi + 1 then out.dropLast ++ [⟨y.lo, max y.hi x.hi⟩] else out ++ [x]
  | none => out ++ [x]
theorem addN_nil (x : TRun) : addN [] x = [x] := rfl
theorem addN_snoc (l : List TRun) (y x : TRun) : addN (l ++ [y]) x = if x.lo ≤ y.hi + 1 then l ++ [⟨y.lo, max y.hi x.hi⟩] else l ++ [y] ++ [x] := by simp [addN]
theorem addN_props {out : List TRun} {x : TRun} (h : Nf out) (hx : mayR x = true) (hlo : ∀ y ∈ out, y.lo ≤ x.lo) : Nf (addN out x) ∧ (∀ n, hasR (addN out x) n = (hasR out n || inR n x)) ∧ (∀ y ∈ addN out x, y.lo ≤ x.lo) ∧ (addN out x).length ≤ out.length + 1 := by
  have hxm := mayR_iff.1 hx
  rcases snoc_cases out with rfl | ⟨l, y, rfl⟩
  · rw [addN_nil]
    exact ⟨⟨hx, by simp, trivial⟩, fun n => by rw [hasR_one]; simp, by simp, by simp⟩
  · rw [addN_snoc]
    obtain ⟨n1, n2, n3⟩ := nf_snoc.1 h
    have hym := mayR_iff.1 n2
    have hyx := hlo y (by simp)
    by_cases hc : x.lo ≤ y.hi + 1
    · rw [if_pos hc]
      have hm : mayR (⟨y.lo, max y.hi x.hi⟩ : TRun) = true := mayR_iff.2 ⟨hym.1, by simp only; omega, by simp only; omega⟩
      refine ⟨nf_snoc.2 ⟨n1, hm, n3⟩, fun n => ?_, fun z hz => ?_, by simp⟩
      · rw [hasR_app, hasR_app, hasR_one, hasR_one, Bool.or_assoc]
        congr 1
        rw [Bool.eq_iff_iff, Bool.or_eq_true, inR_iff, inR_iff, inR_iff]
        have := mayR_iff.1 hm
        simp only at this ⊢
        omega
      · rcases List.mem_append.1 hz with hz | hz
        · exact hlo z (by simp [hz])
        · simp at hz; subst hz; exact hyx
    · rw [if_neg hc]
      refine ⟨nf_snoc.2 ⟨h, hx, fun z hz => ?_⟩, fun n => by rw [hasR_app (l ++ [y]), hasR_one], fun z hz => ?_, by simp⟩
      · rcases List.mem_append.1 hz with hz | hz
        · have := n3 z hz; omega
        · simp at hz; subst hz; omega
      · rcases List.mem_append.1 hz with hz | hz
        · exact hlo z hz
        · simp at hz; subst hz; exact Int.le_refl _
theorem addN_fold : ∀ (s out : List TRun), Nf out → (∀ x ∈ s, mayR x = true) → s.Pairwise (fun x y => x.lo ≤ y.lo) → (∀ y ∈ out, ∀ x ∈ s, y.lo ≤ x.lo) → Nf (s.foldl addN out) ∧ (∀ n, hasR (s.foldl addN out) n = (hasR out n || hasR s n)) ∧ (s.foldl addN out).length ≤ out.length + s.length
  | [], out, h, _, _, _ => ⟨h, by simp, by simp⟩
  | x :: r, out, h, hm, hp, hlo => by
    obtain ⟨a1, a2, a3, a4⟩ := addN_props h (hm x (by simp)) fun y hy => hlo y hy x (by simp)
    obtain ⟨p1, p2⟩ := List.pairwise_cons.1 hp
    obtain ⟨i1, i2, i3⟩ := addN_fold r _ a1 (fun y hy => hm y (List.mem_cons_of_mem _ hy)) p2 fun y hy z hz => by
      have := a3 y hy
      have := p1 z hz
      omega
    refine ⟨i1, fun n => ?_, by simp; omega⟩
    rw [List.foldl_cons, i2, a2, hasR_cons, Bool.or_assoc]

theorem srt_wp {l : List TRun} {Q : List TRun → Prop} (h : ∀ s, s.Perm l → s.Pairwise (fun x y => x.lo ≤ y.lo) → Q s) : (srt ltRun l).wp Q := by
  refine ⟨⟨l.mergeSort (fun x y => decide (x.lo ≤ y.lo)), List.mergeSort_perm _ _, ?_⟩, fun s ⟨h1, h2⟩ => h s h1 (h2.imp fun {x y} h => ?_)⟩
  · refine (List.pairwise_mergeSort (fun a b c h1 h2 => ?_) (fun a b => ?_) l).imp fun {x y} h => ?_
    · simp only [decide_eq_true_eq] at h1 h2 ⊢; omega
    · simp only [Bool.or_eq_true, decide_eq_true_eq]; omega
    · simp only [decide_eq_true_eq] at h; unfold ltRun; simp only [decide_eq_false_iff_not]; omega
  · unfold ltRun at h; simp only [decide_eq_false_iff_not] at h; omega
theorem norm_eq (l : List TRun) (h : l.length ≤ 1000000000000) : runs_Norm l = pure (nrm l) := by
  unfold runs_Norm
  have h1 := loopL (body := runs_Norm_l0 l) l (fun i (t : List TRun) => ((i : Int), t)) (fun t x => if mayR x then t ++ [x] else t) (fun t => pure t) (fun i t => t.length ≤ i) (fun i x t hx hi hI => by
    have h1 : decide ((i : Int) < (l.length : Int)) = true := by simpa using hi
    refine ⟨?_, by split <;> (try simp only [List.length_append, List.length_singleton]) <;> omega⟩
    unfold runs_Norm_l0
    simp only [h1, cond_true, idx_nat hx, pure_bind, wSucc (show i < 9223372036854775807 by omega)]
    have e : (cond (decide (0 < x.lo)) (cond (decide (x.lo ≤ x.hi)) (M.pure (decide (x.hi ≤ 281474976710655))) (M.pure false)) (M.pure false) : M Bool) = pure (mayR x) := by
      rw [cond_pure_and, cond_pure_and]
      refine congrArg pure ?_
      rw [Bool.eq_iff_iff, mayR_iff]
      simp only [Bool.and_eq_true, decide_eq_true_eq]
      omega
    rw [e, pure_bind]
    cases hm : mayR x with
    | false => simp [pure_bind]
    | true =>
      rw [cond_true, need_true (by simp; omega)]
      simp [pure_bind]) (fun t _ => by unfold runs_Norm_l0; simp [pure_bind]) [] (by simp)
  have hf : ∀ (l t : List TRun), l.foldl (fun t x => if mayR x then t ++ [x] else t) t = t ++ l.filter mayR := by
    intro l
    induction l with
    | nil => simp
    | cons x r ih =>
      intro t
      rw [List.foldl_cons, ih]
      cases hm : mayR x <;> simp [hm]
  rw [hf, List.nil_append] at h1
  have h1' : loop (runs_Norm_l0 l) (0, []) = pure (l.filter mayR) := h1
  have hfl : (l.filter mayR).length ≤ l.length := List.length_filter_le _ _
  rw [h1', pure_bind, need_true (by omega)]
  refine eq_pure (srt_wp fun s hs hp => ?_)
  have hsl := hs.length_eq
  have hmay : ∀ x ∈ s, mayR x = true := fun x hx => (List.mem_filter.1 (hs.mem_iff.1 hx)).2
  have hpre : ∀ i, Nf ((s.take i).foldl addN []) ∧ ((s.take i).foldl addN []).length ≤ i ∧ ∀ x, s[i]? = some x → ∀ y ∈ (s.take i).foldl addN [], y.lo ≤ x.lo := fun i => by
    obtain ⟨i1, i2, i3⟩ := addN_fold (s.take i) [] trivial (fun x hx => hmay x (List.mem_of_mem_take hx)) (List.Pairwise.sublist (List.take_sublist _ _) hp) (by simp)
    refine ⟨i1, by simp at i3; omega, fun x hx y hy => ?_⟩
    have hmy := mayR_iff.1 (i1.may y hy)
    have : hasR ((s.take i).foldl addN []) y.lo = true := hasR_iff.2 ⟨y, hy, i1.may y hy, by omega, by omega⟩
    rw [i2] at this
    simp only [hasR_nil, Bool.false_or] at this
    obtain ⟨z, hz, _, h3, _⟩ := hasR_iff.1 this
    -- z is ahead of x; y begins where one of those ahead begins
    have hall : ∀ (s out : List TRun), (∀ y ∈ s.foldl addN out, (∃ z ∈ out, y.lo = z.lo) ∨ ∃ z ∈ s, y.lo = z.lo) := by
      intro s
      induction s with
      | nil => intro out y hy; exact .inl ⟨y, hy, rfl⟩
      | cons a r ih =>
        intro out y hy
        rcases ih _ y hy with ⟨z, hz, e⟩ | ⟨z, hz, e⟩
        · rcases snoc_cases out with rfl | ⟨q, w, rfl⟩
          · rw [addN_nil] at hz; simp at hz; subst hz; exact .inr ⟨z, by simp, e⟩
          · rw [addN_snoc] at hz
            split at hz
            · rcases List.mem_append.1 hz with hz | hz
              · exact .inl ⟨z, by simp [hz], e⟩
              · simp at hz; subst hz; exact .inl ⟨w, by simp, e⟩
            · rcases List.mem_append.1 hz with hz | hz
              · exact .inl ⟨z, hz, e⟩
              · simp at hz; subst hz; exact .inr ⟨z, by simp, e⟩
        · exact .inr ⟨z, by simp [hz], e⟩
    rcases hall _ _ y hy with ⟨z, hz, _⟩ | ⟨z, hz, e⟩
    · simp at hz
    · obtain ⟨j, hj, hje⟩ := List.getElem_of_mem hz
      have hlt := (List.getElem?_eq_some_iff.1 hx).1
      have hji : j < i := by simp at hj; omega
      have := List.pairwise_iff_getElem.1 hp j i (by omega) hlt hji
      rw [List.getElem_take] at hje
      have hxe : s[i] = x := by rw [List.getElem?_eq_getElem hlt] at hx; simpa using hx
      rw [hje, hxe] at this
      omega
  have h2 := loopL (body := runs_Norm_l1 (l.filter mayR) s) s (fun i (t : List TRun) => ((i : Int), t)) addN (fun t => pure t) (fun i t => t = (s.take i).foldl addN []) (fun i x t hx hi hI => by
    obtain ⟨v1, v2, v3⟩ := hpre i
    have v3 := v3 x hx
    rw [← hI] at v1 v2 v3
    have hxm := mayR_iff.1 (hmay x (List.mem_of_getElem? hx))
    have h1 : decide ((i : Int) < ((l.filter mayR).length : Int)) = true := by simp; omega
    refine ⟨?_, by rw [List.take_add_one, hx]; simp [hI]⟩
    unfold runs_Norm_l1
    simp only [h1, cond_true, idx_nat hx, pure_bind, wSucc (show i < 9223372036854775807 by omega)]
    rcases snoc_cases t with rfl | ⟨q, y, rfl⟩
    · have e : decide ((0 : Int) ≤ IntKind.i64.wrap (((([] : List TRun).length : Nat) : Int) - 1)) = false := by
        rw [wI64 (by simp) (by simp)]; simp
      rw [e]
      simp only [cond_false, pure_bind]
      rw [need_true (by simp), addN_nil]
      rfl
    · have hy := (nf_snoc.1 v1).2.1
      have hym := mayR_iff.1 hy
      have e0 : IntKind.i64.wrap ((((q ++ [y]).length : Nat) : Int) - 1) = (q.length : Int) := by
        simp only [List.length_append, List.length_singleton] at v2 ⊢
        rw [wI64 (by omega) (by omega)]; omega
      have e1 : idx (q ++ [y]) (q.length : Int) = pure y := idx_nat (by simp)
      have e3 : decide ((0 : Int) ≤ (q.length : Int)) = true := by simp
      rw [e0, e3]
      simp only [cond_true, e1, pure_bind, wU64 (show 0 ≤ y.hi + 1 by omega) (by omega)]
      rw [addN_snoc]
      by_cases hc : x.lo ≤ y.hi + 1
      · simp only [hc, decide_true, cond_true, if_true, Int.toNat_natCast]
        have : (q ++ [y]).set q.length (⟨y.lo, max y.hi x.hi⟩ : TRun) = q ++ [⟨y.lo, max y.hi x.hi⟩] := by simp
        rw [this]
        rfl
      · simp only [hc, decide_false, cond_false, if_false]
        rw [need_true (by simp only [List.length_append, List.length_singleton] at v2 ⊢; omega)]
        rfl) (fun t _ => by
    unfold runs_Norm_l1
    have e : decide ((s.length : Int) < ((l.filter mayR).length : Int)) = false := by simp; omega
    simp only [e, cond_false, pure_bind]) [] (by simp)
  show (M.bind (M.loop (runs_Norm_l1 (l.filter mayR) s) (0, [])) fun out38 => M.pure out38).wp (· = nrm l)
  rw [show ((0 : Int), ([] : List TRun)) = (((0 : Nat) : Int), []) from rfl, h2]
  obtain ⟨i1, i2, _⟩ := addN_fold s [] trivial hmay hp (by simp)
  exact nrm_of i1 fun n => by rw [i2, hasR_perm hs, hasR_filter]; simp
def ones (nums : List Int) : List TRun := nums.map fun n => ⟨n, n⟩
theorem of_eq (nums : List Int) (h : nums.length ≤ 1000000000000) : runs_Of nums = pure (nrm (ones nums)) := by
  unfold runs_Of
  rw [need_true (by omega)]
  have h1 := loopL (body := runs_Of_l0 nums) nums (fun i (t : List TRun) => ((i : Int), t)) (fun t n => t ++ [⟨n, n⟩]) (fun t => pure t) (fun i t => t.length ≤ i) (fun i x t hx hi hI => by
    have h1 : decide ((i : Int) < (nums.length : Int)) = true := by simpa using hi
    refine ⟨?_, by simp; omega⟩
    unfold runs_Of_l0
    simp only [h1, cond_true, idx_nat hx, pure_bind, wSucc (show i < 9223372036854775807 by omega)]
    rw [need_true (by simp; omega)]) (fun t _ => by unfold runs_Of_l0; simp [pure_bind]) [] (by simp)
  have hf : ∀ (l : List Int) (t : List TRun), l.foldl (fun t n => t ++ [(⟨n, n⟩ : TRun)]) t = t ++ ones l := by
    intro l
    induction l with
    | nil => simp [ones]
    | cons x r ih => intro t; rw [List.foldl_cons, ih]; simp [ones]
  rw [show ((0 : Int), ([] : List TRun)) = (((0 : Nat) : Int), []) from rfl, h1, hf, List.nil_append, pure_bind, norm_eq _ (by simpa [ones] using h), det_pure, pure_bind]
theorem inR_one (n m : Int) : inR n ⟨m, m⟩ = true ↔ (1 ≤ n ∧ n ≤ 281474976710655) ∧ n = m := by
  rw [inR_iff]; simp only; omega
theorem hasR_ones (nums : List Int) (n : Int) : hasR (ones nums) n = true ↔ (1 ≤ n ∧ n ≤ 281474976710655) ∧ n ∈ nums := by
  unfold hasR ones
  rw [List.any_eq_true]
  simp only [List.mem_map]
  constructor
  · rintro ⟨x, ⟨m, hm, rfl⟩, h⟩
    have := (inR_one n m).1 h
    exact ⟨this.1, this.2 ▸ hm⟩
  · rintro ⟨h1, h2⟩
    exact ⟨_, ⟨n, h2, rfl⟩, (inR_one n n).2 ⟨h1, rfl⟩⟩
def firstR : List TRun → Int
  | [] => 1
  | x :: _ => if x.lo = 1 then x.hi + 1 else 1
def lastR (l : List TRun) : Int := match l.getLast? with | some x => x.hi | none => 0
theorem first_eq (l : List TRun) (h : l.length ≤ 1000000000000) : runs_First l = pure (firstR (nrm l)) := by
  unfold runs_First
  rw [norm_eq l h, det_pure, pure_bind]
  have hn := nrm_nf l
  generalize nrm l = v at hn
  cases v with
  | nil => rfl
  | cons x r =>
    have hx := mayR_iff.1 hn.1
    have e : decide ((0 : Int) < ((x :: r).length : Int)) = true := by simp only [List.length_cons, decide_eq_true_eq]; omega
    simp only [e, cond_true, idx_eq (l := x :: r) (i := 0) (y := x) (by omega) rfl, pure_bind, firstR, wU64 (show 0 ≤ x.hi + 1 by omega) (by omega)]
    by_cases hc : x.lo = 1 <;> simp [hc]
theorem last_eq (l : List TRun) (h : l.length ≤ 100000000000) : runs_Last l = pure (lastR (nrm l)) := by
  unfold runs_Last
  have hl := nrm_len l
  rw [norm_eq l (by omega), det_pure, pure_bind]
  generalize nrm l = v at hl
  rcases snoc_cases v with rfl | ⟨q, y, rfl⟩
  · rfl
  · have e0 : IntKind.i64.wrap ((((q ++ [y]).length : Nat) : Int) - 1) = (q.length : Int) := by
      simp only [List.length_append, List.length_singleton] at hl ⊢
      rw [wI64 (by omega) (by omega)]; omega
    have e1 : idx (q ++ [y]) (q.length : Int) = pure y := idx_nat (by simp)
    have e3 : decide ((0 : Int) < (((q ++ [y]).length : Nat) : Int)) = true := by simp only [List.length_append, List.length_singleton, decide_eq_true_eq]; omega
    rw [e0, e3]
    simp only [cond_true, e1, pure_bind, lastR]
    simp
def sizeR (l : List TRun) : Int := l.foldl (fun n x => n + (x.hi - x.lo + 1)) 0
theorem sizeR_mod (l : List TRun) : runs_SizeL l = IntKind.u64.wrap (sizeR l) := by
  have : ∀ (l : List TRun) (m n : Int), m % 18446744073709551616 = n % 18446744073709551616 → l.foldl (fun n x => IntKind.u64.wrap (n + IntKind.u64.wrap (IntKind.u64.wrap (x.hi - x.lo) + 1))) m % 18446744073709551616 = l.foldl (fun n x => n + (x.hi - x.lo + 1)) n % 18446744073709551616 := by
    intro l
    induction l with
    | nil => intro m n h; exact h
    | cons x r ih =>
      intro m n h
      rw [List.foldl_cons, List.foldl_cons]
      refine ih _ _ ?_
      rw [wU64_mod, wU64_mod, wU64_mod]
      omega
  have h2 : ∀ (l : List TRun) (m : Int), 0 ≤ m → m < 18446744073709551616 → 0 ≤ l.foldl (fun n x => IntKind.u64.wrap (n + IntKind.u64.wrap (IntKind.u64.wrap (x.hi - x.lo) + 1))) m ∧ l.foldl (fun n x => IntKind.u64.wrap (n + IntKind.u64.wrap (IntKind.u64.wrap (x.hi - x.lo) + 1))) m < 18446744073709551616 := by
    intro l
    induction l with
    | nil => intro m h1 h2; exact ⟨h1, h2⟩
    | cons x r ih =>
      intro m _ _
      rw [List.foldl_cons]
      refine ih _ ?_ ?_ <;> rw [wU64_mod] <;> omega
  unfold runs_SizeL sizeR
  have h3 := this l 0 0 rfl
  have h4 := h2 l 0 (by omega) (by omega)
  rw [wU64_mod]
  generalize List.foldl (fun n x => IntKind.u64.wrap (n + IntKind.u64.wrap (IntKind.u64.wrap (x.hi - x.lo) + 1))) 0 l = u at h3 h4 ⊢
  generalize List.foldl (fun n x => n + (x.hi - x.lo + 1)) 0 l = t at h3 ⊢
  omega
theorem size_eq (l : List TRun) (h : l.length ≤ 1000000000000) : runs_Size l = pure (IntKind.u64.wrap (sizeR (nrm l))) := by
  unfold runs_Size
  rw [norm_eq l h, det_pure, pure_bind, sizeR_mod]
theorem rsize_eq (l : List TRun) (h : l.length ≤ 10000000000) : r06_Size l = pure (IntKind.u64.wrap (sizeR (nrm l))) := by
  unfold r06_Size
  have hl := nrm_len l
  rw [rnorm_eq l h, det_pure, pure_bind]
  generalize nrm l = v at hl
  have h1 := loopL (body := r06_Size_l0 v) v (fun i (t : Int) => (t, (i : Int))) (fun n x => IntKind.u64.wrap (IntKind.u64.wrap (IntKind.u64.wrap (n + x.hi) - x.lo) + 1)) (fun t => pure t) (fun i t => True) (fun i x t hx hi hI => by
    have h1 : decide ((i : Int) < (v.length : Int)) = true := by simpa using hi
    refine ⟨?_, trivial⟩
    unfold r06_Size_l0
    simp only [h1, cond_true, idx_nat hx, pure_bind, wSucc (show i < 9223372036854775807 by omega)]) (fun t _ => by unfold r06_Size_l0; simp [pure_bind]) 0 trivial
  rw [show ((0 : Int), (0 : Int)) = ((0 : Int), ((0 : Nat) : Int)) from rfl, h1, pure_bind]
  refine congrArg pure ?_
  rw [← sizeR_mod]
  unfold runs_SizeL
  congr 1
  funext n x
  rw [wU64_mod, wU64_mod, wU64_mod, wU64_mod, wU64_mod, wU64_mod]
  omega


theorem works_eq : l06_works = pure true := by
  unfold l06_works
  have e : nrm (ones [5, 1, 2, 6]) = [⟨1, 2⟩, ⟨5, 6⟩] := by
    refine (nrm_of (r := [⟨1, 2⟩, ⟨5, 6⟩]) ⟨rfl, by simp, rfl, by simp, trivial⟩ fun n => ?_).symm
    rw [Bool.eq_iff_iff, hasR_ones, hasR_cons, hasR_one, Bool.or_eq_true, inR_iff, inR_iff]
    simp only [List.mem_cons, List.not_mem_nil, or_false]
    omega
  have e2 : nrm [⟨1, 2⟩, ⟨5, 6⟩] = [⟨1, 2⟩, ⟨5, 6⟩] := nrm_self ⟨rfl, by simp, rfl, by simp, trivial⟩
  rw [of_eq _ (by simp), det_pure, pure_bind, e, req_eq _ _ (by simp), first_eq _ (by simp), last_eq _ (by simp), size_eq _ (by simp), e2]
  simp only [det_pure, pure_bind, decide_true, cond_true]
  rfl


theorem sizeR_cons (x : TRun) (r : List TRun) : sizeR (x :: r) = (x.hi - x.lo + 1) + sizeR r := by
  have : ∀ (l : List TRun) (n : Int), l.foldl (fun n x => n + (x.hi - x.lo + 1)) n = n + l.foldl (fun n x => n + (x.hi - x.lo + 1)) 0 := by
    intro l
    induction l with
    | nil => intro n; simp
    | cons y s ih => intro n; rw [List.foldl_cons, List.foldl_cons, ih, ih (0 + _)]; omega
  unfold sizeR
  rw [List.foldl_cons, this]
  omega
end Go.Ep.M.R

namespace Go.Proofs
open Go.Ep Go.Ep.M
namespace Ech
/-- The number that came last. -/
def lastP (pre : List Int) : Int := pre.getLast?.getD 0
theorem lastP_snoc (pre : List Int) (x : Int) : lastP (pre ++ [x]) = x := by simp [lastP]
/-- What the law asks of each number. -/
def chk (l : List TRun) (last x : Int) : Bool := decide (last < x) && (M.R.hasR l x && decide (M.R.setR (· && ·) l [⟨IntKind.u64.wrap (last + 1), x⟩] = [⟨x, x⟩]))
theorem mem_upR {lo n : Int} {c : Nat} : n ∈ upR lo c ↔ lo ≤ n ∧ n < lo + (c : Int) := by
  simp only [upR, List.mem_map, List.mem_range]
  constructor
  · rintro ⟨k, h, rfl⟩
    omega
  · rintro ⟨h1, h2⟩
    exact ⟨(n - lo).toNat, by omega, by omega⟩
theorem upR_sorted (lo : Int) (c : Nat) : (upR lo c).Pairwise (· < ·) := by
  induction c with
  | zero => exact List.Pairwise.nil
  | succ c ih =>
    rw [upR_succ, List.pairwise_append]
    refine ⟨ih, List.pairwise_singleton _ _, fun a ha b hb => ?_⟩
    have := (mem_upR.1 ha).2
    simp at hb
    omega
def pts (zs : List TRun) : List Int := zs.flatMap fun x => upR x.lo (cnt x)
theorem pU_flat (z : Nat → TRun) (k : Nat) : pU z k = pts ((List.range k).map z) := by
  induction k with
  | zero => rfl
  | succ k ih => simp [pU, ih, pts, List.range_succ]
theorem ptsR_eq (zs : List TRun) : ptsR zs = pts zs := by
  rw [ptsR, pU_flat]
  congr 1
  apply List.ext_getElem
  · simp
  · intro i h1 h2
    simp [h2]
theorem mem_pts {n : Int} : ∀ {zs : List TRun}, M.R.Nf zs → (n ∈ pts zs ↔ M.R.hasR zs n = true)
  | [], _ => by simp [pts]
  | x :: r, h => by
    have hx := M.R.mayR_iff.1 h.1
    have e : pts (x :: r) = upR x.lo (cnt x) ++ pts r := by simp [pts]
    rw [e, List.mem_append, mem_pts h.2.2, M.R.hasR_cons, Bool.or_eq_true, mem_upR, M.R.inR_iff]
    unfold cnt
    constructor
    · rintro (h | h)
      · exact .inl ⟨hx, by omega, by omega⟩
      · exact .inr h
    · rintro (⟨_, h1, h2⟩ | h)
      · exact .inl ⟨by omega, by omega⟩
      · exact .inr h
theorem pts_sorted : ∀ {zs : List TRun}, M.R.Nf zs → (pts zs).Pairwise (· < ·)
  | [], _ => List.Pairwise.nil
  | x :: r, h => by
    have e : pts (x :: r) = upR x.lo (cnt x) ++ pts r := by simp [pts]
    rw [e, List.pairwise_append]
    refine ⟨upR_sorted _ _, pts_sorted h.2.2, fun a ha b hb => ?_⟩
    have h1 := (mem_upR.1 ha).2
    have h2 := M.R.nf_low h ((mem_pts h.2.2).1 hb)
    have hx := M.R.mayR_iff.1 h.1
    unfold cnt at h1
    omega
theorem pts_len : ∀ {zs : List TRun}, M.R.Nf zs → ((pts zs).length : Int) = M.R.sizeR zs
  | [], _ => rfl
  | x :: r, h => by
    have e : pts (x :: r) = upR x.lo (cnt x) ++ pts r := by simp [pts]
    have hx := M.R.mayR_iff.1 h.1
    rw [e, List.length_append, upR_len, M.R.sizeR_cons, ← pts_len h.2.2]
    unfold cnt
    omega
theorem sorted_below {P : List Int} (h : P.Pairwise (· < ·)) (b : Int) (hb : ∀ x ∈ P, 1 ≤ x ∧ x ≤ b) (h0 : 0 ≤ b) : (P.length : Int) ≤ b := by
  have key : ∀ (P : List Int) (a : Int), P.Pairwise (· < ·) → (∀ x ∈ P, a < x ∧ x ≤ b) → a ≤ b → (P.length : Int) ≤ b - a := by
    intro P
    induction P with
    | nil => intro a _ _ h; simp; omega
    | cons x r ih =>
      intro a hp hx hab
      obtain ⟨h1, h2⟩ := List.pairwise_cons.1 hp
      have hx0 := hx x (by simp)
      have := ih x h2 (fun y hy => ⟨h1 y hy, (hx y (by simp [hy])).2⟩) hx0.2
      simp only [List.length_cons]
      omega
  have := key P 0 h (fun x hx => ⟨by have := (hb x hx).1; omega, (hb x hx).2⟩) h0
  omega
theorem size_pts (l : List TRun) : IntKind.u64.wrap (M.R.sizeR (M.R.nrm l)) = ((ptsR (M.R.nrm l)).length : Int) := by
  have hn := M.R.nrm_nf l
  rw [ptsR_eq, ← pts_len hn]
  have := sorted_below (pts_sorted hn) 281474976710655 (fun x hx => M.R.hasR_range ((mem_pts hn).1 hx)) (by omega)
  exact wU64 (by omega) (by omega)
theorem good (l : List TRun) (q : List Int) (x : Int) (h : q ++ [x] <+: ptsR (M.R.nrm l)) : chk l (lastP q) x = true := by
  have hn := M.R.nrm_nf l
  obtain ⟨r, hr⟩ := h
  rw [ptsR_eq] at hr
  have hs := pts_sorted hn
  have hm : ∀ n, n ∈ q ++ [x] ++ r ↔ M.R.hasR l n = true := fun n => by rw [hr, mem_pts hn, M.R.nrm_has]
  rw [← hr] at hs
  obtain ⟨hs1, _, hs3⟩ := List.pairwise_append.1 hs
  obtain ⟨hq1, _, hq3⟩ := List.pairwise_append.1 hs1
  have hx : M.R.hasR l x = true := (hm x).1 (by simp)
  have hxr := M.R.hasR_range hx
  have hql : ∀ y ∈ q, y ≤ lastP q := by
    rcases M.R.snoc_cases q with rfl | ⟨p, y, rfl⟩
    · simp
    · intro z hz
      rw [lastP_snoc]
      rcases List.mem_append.1 hz with hz | hz
      · have := (List.pairwise_append.1 hq1).2.2 z hz y (by simp)
        omega
      · simp at hz
        omega
  have hl : 0 ≤ lastP q ∧ lastP q < x := by
    rcases M.R.snoc_cases q with rfl | ⟨p, y, rfl⟩
    · simp [lastP]
      omega
    · rw [lastP_snoc]
      have h1 := hq3 y (by simp) x (by simp)
      have h2 := M.R.hasR_range ((hm y).1 (by simp))
      omega
  have hw : IntKind.u64.wrap (lastP q + 1) = lastP q + 1 := wU64 (by omega) (by omega)
  have he : M.R.setR (· && ·) l [⟨lastP q + 1, x⟩] = [⟨x, x⟩] := by
    obtain ⟨p1, p2, _⟩ := M.R.setR_props (· && ·) rfl l [⟨lastP q + 1, x⟩]
    refine M.R.nf_ext p1 ⟨M.R.mayR_iff.2 ⟨hxr.1, Int.le_refl _, hxr.2⟩, by simp, trivial⟩ fun n => ?_
    rw [p2, M.R.hasR_one, M.R.hasR_one, Bool.eq_iff_iff, Bool.and_eq_true, M.R.inR_iff, M.R.inR_iff]
    simp only
    constructor
    · rintro ⟨h1, _, h2, h3⟩
      have : n = x := by
        have hmem := (hm n).2 h1
        rw [List.mem_append, List.mem_append] at hmem
        rcases hmem with (h | h) | h
        · have := hql n h
          omega
        · simpa using h
        · have := hs3 x (by simp) n h
          omega
      subst this
      omega
    · rintro ⟨h1, h2, h3⟩
      obtain rfl : n = x := by omega
      exact ⟨hx, by omega, by omega, by omega⟩
  simp only [chk, hw, he, hx, decide_eq_true hl.2, Bool.and_self, decide_true]
end Ech
end Go.Proofs

namespace Go.Proofs
open Go.RowKit Go.Shelf Go.Ep Go.Ep.M
set_option linter.unusedVariables false
attribute [local go_sem] Oper.semAt_some
namespace Ech
theorem slv {w : World} {x : List (List DV)} {v : Value} (h : DRd w All (.sl x) v) {B : Nat} {w' : World} (hb : Below B w w') (hB : w.heap.size ≤ B) : Rd w' g0 All (.d (.sl x)) v :=
  .d (h.keep ⟨hb.size, fun b _ hlt => hb.block b (by omega)⟩ (fun b hb _ => hb))
theorem isSl {w : World} {S : Nat → Prop} {x : List (List DV)} {v : Value} (h : DRd w S (.sl x) v) : ∃ a n c, v = .slice a n c := by
  cases h with
  | nil a cap _ _ => exact ⟨_, _, _, rfl⟩
  | sl => exact ⟨_, _, _, rfl⟩
theorem one {w : World} {p : PV} {v : Value} (h : Rd w g0 All p v) : ∀ (i : Nat) (q : PV) (u : Value), [p][i]? = some q → [v][i]? = some u → Rd w g0 All q u := fun i q u hp hu => by
  cases i with
  | zero => simp at hp hu; subst hp; subst hu; exact h
  | succ i => simp at hp
theorem two {w : World} {p p' : PV} {v v' : Value} (h : Rd w g0 All p v) (h' : Rd w g0 All p' v') : ∀ (i : Nat) (q : PV) (u : Value), [p, p'][i]? = some q → [v, v'][i]? = some u → Rd w g0 All q u := fun i q u hp hu => by
  match i with
  | 0 => simp at hp hu; subst hp; subst hu; exact h
  | 1 => simp at hp hu; subst hp; subst hu; exact h'
  | _ + 2 => simp at hp

theorem eqIn26 (w : World) (d : Nat) (f : Fn) (x y : Array Value) : (Op.equalIn (d + 1) 26 (.func f x y) .nilFunc).run Try.prog w = .ok false w := by simp [Op.equalIn, run_underlying Try.underlying26]
theorem eq26 (w : World) (f : Fn) (x y : Array Value) : (binOp BinOp.eql 26 (.func f x y) .nilFunc).run Try.prog w = .ok (.bool false) w := by
  have h : (Op.equal 26 (.func f x y) .nilFunc).run Try.prog w = .ok false w := eqIn26 w 9999 f x y
  simp [binOp, h]
theorem kfB {B : Nat} {A C : World} (h : Below A.heap.size A C) : KeepsFrom B A C := ⟨h.size, fun k o _ h1 _ => (h.block k (Array.getElem?_eq_some_iff.1 h1).1).trans h1⟩
/-- A slice of one run. -/
theorem oneRun {W : World} {b : Nat} {lo hi : Int} (h : W.heap[b]? = some (.cells #[.int .u64 lo, .int .u64 hi] 34 (0, 0))) : Rd W g0 All (.d (.sl (List.map TRun.e [⟨lo, hi⟩]))) (.slice (some ⟨b, 0, none⟩) 1 1) := by
  refine .d (DRd.sl [TRun.e ⟨lo, hi⟩] b 0 1 2 (fun _ j => if j = 0 then .int .u64 lo else .int .u64 hi) (by simp) (by decide) trivial (Array.getElem?_eq_some_iff.1 h).1 ?_ ?_ ?_)
  · intro i cs hi
    cases i with
    | zero => simp at hi; subst hi; rfl
    | succ i => simp at hi
  · intro i j hi hj
    obtain rfl : i = 0 := by simpa using hi
    match j, hj with
    | 0, _ => simp [World.cell?, h]
    | 1, _ => simp [World.cell?, h]
  · intro i cs j x hi hx
    cases i with
    | zero =>
      simp at hi; subst hi
      match j with
      | 0 => simp [TRun.e] at hx; subst hx; exact .v _ rfl
      | 1 => simp [TRun.e] at hx; subst hx; exact .v _ rfl
      | _ + 2 => simp [TRun.e] at hx
    | succ i => simp at hi
/-- The function's way out: the marks of the loops, one by one. -/
theorem leaves (w : World) (tmps : Array Value) (B : Nat) (h4 : tmps[4]? = some (.pointer (some ⟨B, 0, none⟩))) : ∀ (Ds : List Nat) (W : World), Ds.Nodup → (∀ D ∈ Ds, D ≠ B ∧ w.heap.size ≤ D ∧ W.heap[D]? = some (.deferred (some []))) → Boxed W B 4 (.bool true) → Below w.heap.size w W →
    LeavesInM Fence.wide 7 Try.prog Try.f3 tmps (fun e W' => e = .returned (.bool true) ∧ Below w.heap.size w W') (Ds.map fun D => { target := .collected D, args := #[] }) .returning W
  | [], W, _, _, hb, hB => by
    refine ⟨.bool true, ?_, rfl, hB⟩
    have hc := hb.cell
    simp [results, Try.f3, go_sem, h4, hc]
  | D :: Ds, W, hn, hD, hb, hB => by
    obtain ⟨hn1, hn2⟩ := List.nodup_cons.1 hn
    obtain ⟨d1, d2, d3⟩ := hD D (by simp)
    refine ⟨by simp, .inl ⟨_, _, rfl, run_takeDeferred d3, ?_⟩⟩
    refine leaves w tmps B h4 Ds _ hn2 (fun E hE => ?_) (hb.kept (grownBy_putObj' W D _) (fun e => d1 (by cases e; rfl))) (hB.trans (belowK_b (w := w) (Nat.le_refl _) W D _ _ d2 d3 rfl rfl))
    obtain ⟨e1, e2, e3⟩ := hD E (by simp [hE])
    exact ⟨e1, e2, (World.putObj_heap_other (fun e => hn1 (by subst e; exact hE))).trans e3⟩

set_option maxRecDepth 100000 in
set_option maxHeartbeats 4000000 in
theorem law_in (l : List TRun) (stop : Int) (hst : 0 ≤ stop ∧ stop ≤ 255) (w : World) (a0 : Option Addr) (n0 c0 : Nat) (hv : DRd w All (.sl (List.map TRun.e l)) (.slice a0 n0 c0)) :
    CallsIn Fence.wide 7 Try.prog 3 #[.slice a0 n0 c0, .int .u8 stop] w fun e W' => e = .returned (.bool true) ∧ Below w.heap.size w W' := by
  have hFew : (l06_few l).wp (· = decide ((l.length : Int) ≤ 60)) := by rw [M.R.few_eq]; rfl
  have hWorks : l06_works.wp (· = true) := by rw [M.R.works_eq]; rfl
  refine callsIn_of_wp_marks Try.func3 rfl trivial ?_ rfl
  simp only [Try.ntmps3, List.size_toArray, List.length_cons, List.length_nil, Nat.reduceAdd, Nat.reduceSub, Array.replicate_succ, Array.replicate_zero, List.push_toArray, List.append_toArray, List.nil_append, List.cons_append]
  gi_wp2
  have hsz0 : (((w.alloc (.cells #[.slice a0 n0 c0] 22)).alloc (.cells #[.int .u8 stop] 5)).alloc (.cells #[.bool false] 4)).heap.size = w.heap.size + 3 := by simp
  have hB0 : Below w.heap.size w (((w.alloc (.cells #[.slice a0 n0 c0] 22)).alloc (.cells #[.int .u8 stop] 5)).alloc (.cells #[.bool false] 4)) := (((Below.refl _ w).alloc (Nat.le_refl _) _).alloc (by simp) _).alloc (by simp; omega) _
  have bL := ((Boxed.new w 22 (.slice a0 n0 c0)).alloc (.cells #[.int .u8 stop] 5)).alloc (.cells #[.bool false] 4)
  have bS := (Boxed.new (w.alloc (.cells #[.slice a0 n0 c0] 22)) 5 (.int .u8 stop)).alloc (.cells #[.bool false] 4)
  have bR := Boxed.new ((w.alloc (.cells #[.slice a0 n0 c0] 22)).alloc (.cells #[.int .u8 stop] 5)) 4 (.bool false)
  simp only [World.size_alloc] at bS bR
  generalize (((w.alloc (.cells #[.slice a0 n0 c0] 22)).alloc (.cells #[.int .u8 stop] 5)).alloc (.cells #[.bool false] 4)) = W0 at hsz0 hB0 bL bS bR ⊢
  refine ⟨trivial, (callsIn_wide.2 (l06_few_ok l _ hFew W0 All [.slice a0 n0 c0] rfl (one (slv hv hB0 (Nat.le_refl _))))).mono ?_⟩
  rintro e W1 ⟨u, rfl, hB1, hu⟩
  cases hu.of_v
  have bL1 : Boxed W1 w.heap.size 22 (.slice a0 n0 c0) := (hB1.block _ (by omega)).trans bL
  have bS1 : Boxed W1 (w.heap.size + 1) 5 (.int .u8 stop) := (hB1.block _ (by omega)).trans bS
  have bR1 : Boxed W1 (w.heap.size + 1 + 1) 4 (.bool false) := (hB1.block _ (by omega)).trans bR
  have hB01 : Below w.heap.size w W1 := hB0.trans (hB1.mono (by omega))
  have hsz1 := hB1.size
  have cL := bL1.cell
  have cR := bR1.cell
  have fR := bR1.frozen
  by_cases hf : ((l.length : Int) ≤ 60)
  · have hfd : decide ((l.length : Int) ≤ 60) = true := decide_eq_true hf
    rw [hfd]
    have hNorm : (runs_Norm l).wp (· = M.R.nrm l) := by rw [M.R.norm_eq l (by omega)]; rfl
    have hSize : (r06_Size l).wp (· = ((ptsR (M.R.nrm l)).length : Int)) := by rw [M.R.rsize_eq l (by omega), size_pts]; rfl
    have hgood := good l
    have hHas : ∀ x, (r06_Has l x).wp (· = M.R.hasR l x) := fun x => by rw [M.R.rhas_eq l x (by omega)]; rfl
    have hMeet : ∀ lo hi, (r06_Meet l [⟨lo, hi⟩]).wp (· = M.R.setR (· && ·) l [⟨lo, hi⟩]) := fun lo hi => by rw [M.R.rmeet_eq l _ (by simp; omega)]; rfl
    have hEq : ∀ lo hi x, (r06_Eq (M.R.setR (· && ·) l [⟨lo, hi⟩]) [⟨x, x⟩]).wp (· = decide (M.R.setR (· && ·) l [⟨lo, hi⟩] = [⟨x, x⟩])) := fun lo hi x => by
      rw [M.R.req_eq _ _ (by have := (M.R.setR_props (· && ·) rfl l [⟨lo, hi⟩]).2.2; simp at this; omega)]; rfl
    have hnf : ∀ x ∈ M.R.nrm l, 1 ≤ x.lo ∧ x.lo ≤ x.hi ∧ x.hi ≤ 281474976710655 := fun x hx => M.R.mayR_iff.1 ((M.R.nrm_nf l).may x hx)
    gi_wp2
    refine ⟨trivial, (each_in l (M.R.nrm l) hNorm W1 a0 n0 c0 (hv.keep ⟨hB01.size, fun b _ hlt => hB01.block b hlt⟩ (fun b hb _ => hb))).mono ?_⟩
    rintro e W2 ⟨Be, b, u, rfl, hB2, hBe, hBe2, cE, hb, hb2, hI⟩
    have bL2 : Boxed W2 w.heap.size 22 (.slice a0 n0 c0) := (hB2.block _ (by omega)).trans bL1
    have hB02 : Below w.heap.size w W2 := hB01.trans (hB2.mono (by omega))
    have cL2 := bL2.cell
    have hq26 := eq26
    gi_wp2
    refine ⟨trivial, (callsIn_wide.2 (r06_Size_ok l _ hSize W2 All [.slice a0 n0 c0] rfl (one (slv hv hB02 (Nat.le_refl _))))).mono ?_⟩
    rintro e W3 ⟨u3, rfl, hB3, hu3⟩
    cases hu3.of_v
    have hsz2 := hB2.size
    have hsz3 := hB3.size
    have bL3 : Boxed W3 w.heap.size 22 (.slice a0 n0 c0) := (hB3.block _ (by omega)).trans bL2
    have bS3 : Boxed W3 (w.heap.size + 1) 5 (.int .u8 stop) := (hB3.block _ (by omega)).trans ((hB2.block _ (by omega)).trans bS1)
    have bR3 : Boxed W3 (w.heap.size + 1 + 1) 4 (.bool false) := (hB3.block _ (by omega)).trans ((hB2.block _ (by omega)).trans bR1)
    have cE3 : W3.cell? ⟨Be, 0, none⟩ = some u := (hB3.cell (p := ⟨Be, 0, none⟩) hBe2).trans cE
    have hI3 : Runs W3 b u (M.R.nrm l) := hI.below hB3 hb2
    have hB03 : Below w.heap.size w W3 := hB02.trans (hB3.mono (by omega))
    gi_wp2
    refine wpIn_loop (fun a' w' => ∃ (i : Nat) (Ds : List Nat) (u8 u9 u21 u22 u23 u24 u25 u58 u59 u60 u61 u62 u63 u64 u65 u66 u67 : Value), i ≤ 2 ∧ Ds.Nodup ∧ (∀ D ∈ Ds, W3.heap.size ≤ D ∧ w'.heap[D]? = some (.deferred (some []))) ∧ Below W3.heap.size W3 w' ∧ a' = { tmps := #[.slice a0 n0 c0, .int .u8 stop, .pointer (some ⟨w.heap.size, 0, none⟩), .pointer (some ⟨w.heap.size + 1, 0, none⟩), .pointer (some ⟨w.heap.size + 1 + 1, 0, none⟩), .func (.func 26) #[] #[.pointer (some ⟨Be, 0, none⟩)], .int .u64 ((ptsR (M.R.nrm l)).length : Int), .int .i64 i, u8, u9, undef, .slice a0 n0 c0, .bool true, .bool false, undef, .slice a0 n0 c0, .func (.func 26) #[] #[.pointer (some ⟨Be, 0, none⟩)], .func (.func 26) #[] #[.pointer (some ⟨Be, 0, none⟩)], .bool false, .slice a0 n0 c0, .int .u64 ((ptsR (M.R.nrm l)).length : Int), u21, u22, u23, u24, u25, undef, undef, undef, undef, undef, undef, undef, undef, undef, undef, undef, undef, undef, undef, undef, undef, undef, undef, undef, undef, undef, undef, undef, undef, undef, undef, undef, undef, undef, undef, undef, undef, u58, u59, u60, u61, u62, u63, u64, u65, u66, u67, undef], defers := Ds.map fun D => { target := .collected D, args := #[] } }) (fun a' _ => 2 - (intOf (a'.tmps.getD 7 undef)).toNat) ?start ?round
    case start => exact ⟨0, [], undef, undef, undef, undef, undef, undef, undef, undef, undef, undef, undef, undef, undef, undef, undef, undef, undef, by omega, List.nodup_nil, by simp, Below.refl _ _, rfl⟩
    case round =>
      rintro a' w' ⟨i, Ds, u8, u9, u21, u22, u23, u24, u25, u58, u59, u60, u61, u62, u63, u64, u65, u66, u67, hi, hnd, hDs, hBw, rfl⟩
      by_cases hi2 : i < 2
      · have hid : ((i : Int) < 2) = True := by simp; omega
        gi_wp2
        have hw's := hBw.size
        have bP0 := (Boxed.new w' 28 (.int .u64 0)).alloc (.cells #[.int .u64 0] 28)
        have bQ0 := Boxed.new (w'.alloc (.cells #[.int .u64 0] 28)) 28 (.int .u64 0)
        have hs4 : ((w'.alloc (.cells #[.int .u64 0] 28)).alloc (.cells #[.int .u64 0] 28)).heap.size = w'.heap.size + 2 := by simp
        have hB4 : Below W3.heap.size W3 ((w'.alloc (.cells #[.int .u64 0] 28)).alloc (.cells #[.int .u64 0] 28)) := (hBw.alloc hw's _).alloc (by simp; omega) _
        have hK4 : KeepsFrom 0 w' ((w'.alloc (.cells #[.int .u64 0] 28)).alloc (.cells #[.int .u64 0] 28)) := ((KeepsOthers.alloc _ _).trans (KeepsOthers.alloc _ _)).from _
        simp only [World.size_alloc] at bQ0
        generalize (w'.alloc (.cells #[.int .u64 0] 28)).alloc (.cells #[.int .u64 0] 28) = W4 at bP0 bQ0 hs4 hB4 hK4 ⊢
        refine wpIn_rangeFunc_ownG (F := Fence.wide) rfl (by decide) (gf := 26) (lb := #[.pointer (some ⟨Be, 0, none⟩)]) rfl trivial (enters_of Try.func26 (by kernel_rfl) rfl)
          (each_stops Fence.wide 6 trivial rfl (by decide) Be b u (M.R.nrm l) (fun k => k = w'.heap.size ∨ k = w'.heap.size + 1) W4 hnf (by rintro k (rfl | rfl) <;> omega) (by rintro (h | h) <;> omega) (by omega) ((hB4.cell (p := ⟨Be, 0, none⟩) (by simp; omega)).trans cE3) (hI3.below hB4 (by omega)))
          (fun h k => h.t k) (fun W l o o' _ h ho _ => Kx.b W l o o' h ho) (Below.refl _ _) (fun _ => rfl)
          (fun pre W => ((Boxed W w'.heap.size 28 (.int .u64 (lastP pre)) ∧ Boxed W (w'.heap.size + 1) 28 (.int .u64 pre.length)) ∧ (pre.length : Int) ≤ stop) ∧ (Below W3.heap.size W3 W ∧ KeepsFrom 0 W4 W))
          (fun c pre W => (c = .exit 2 ∨ (c = .ret ∧ ∃ q x, pre = q ++ [x] ∧ chk l (lastP q) x = false)) ∧ (c = .exit 2 → Boxed W (w'.heap.size + 1) 28 (.int .u64 (stop + 1)) ∧ (Below W3.heap.size W3 W ∧ KeepsFrom 0 W4 W)))
          (OwnFrom.and (OwnFrom.and (OwnFrom.and (Own.from (boxed_own _ _ _) _) (Own.from (boxed_own _ _ _) _)) (ownFrom_pure _ _)) (OwnFrom.and (ownFrom_below (by omega) (by omega)) (ownFrom_keepsFrom (Nat.le_refl _))))
          (fun c => OwnFrom.and (ownFrom_pure _ _) (fun s A B row hs hg hr hc => OwnFrom.and (Own.from (boxed_own (β := Unit) _ _ (fun _ => .int .u64 (stop + 1))) _) (OwnFrom.and (ownFrom_below (by omega) (by omega)) (ownFrom_keepsFrom (Nat.le_refl _))) () A B row (hs hc) hg hr))
          ⟨⟨⟨bP0, bQ0⟩, by simpa using hst.1⟩, hB4, KeepsFrom.refl _ _⟩
          (fun x => { tmps := #[.slice a0 n0 c0, .int .u8 stop, .pointer (some ⟨w.heap.size, 0, none⟩), .pointer (some ⟨w.heap.size + 1, 0, none⟩), .pointer (some ⟨w.heap.size + 1 + 1, 0, none⟩), .func (.func 26) #[] #[.pointer (some ⟨Be, 0, none⟩)], .int .u64 ((ptsR (M.R.nrm l)).length : Int), .int .i64 i, .pointer (some ⟨w'.heap.size, 0, none⟩), .pointer (some ⟨w'.heap.size + 1, 0, none⟩), .int .u64 x, .slice a0 n0 c0, .bool true, .bool false, undef, .slice a0 n0 c0, .func (.func 26) #[] #[.pointer (some ⟨Be, 0, none⟩)], .func (.func 26) #[] #[.pointer (some ⟨Be, 0, none⟩)], .bool false, .slice a0 n0 c0, .int .u64 ((ptsR (M.R.nrm l)).length : Int), .int .i64 i, .bool true, u23, u24, .func (.func 26) #[] #[.pointer (some ⟨Be, 0, none⟩)], .int .u64 x, undef, undef, undef, undef, undef, undef, undef, undef, undef, undef, undef, undef, undef, undef, undef, undef, undef, undef, undef, undef, undef, undef, undef, undef, undef, undef, undef, undef, undef, undef, undef, u58, u59, u60, u61, u62, u63, u64, u65, u66, u67, undef], defers := [] })
          ?assign ?body ?done ?stop
        case assign =>
          intro lr x W K hK
          gi_wp2
          exact hK
        case body =>
          rintro lr pre x W ⟨⟨⟨bP, bQ⟩, hpl⟩, hBW, hKW⟩ _
          have hsW := hBW.size
          have bL : Boxed W w.heap.size 22 (.slice a0 n0 c0) := (hBW.block _ (by omega)).trans bL3
          have bS : Boxed W (w.heap.size + 1) 5 (.int .u8 stop) := (hBW.block _ (by omega)).trans bS3
          have bR : Boxed W (w.heap.size + 1 + 1) 4 (.bool false) := (hBW.block _ (by omega)).trans bR3
          have cP := bP.cell
          have cL := bL.cell
          have cR := bR.cell
          have fR := bR.frozen
          by_cases hx : x ≤ lastP pre
          · have hxd : decide (x ≤ lastP pre) = true := decide_eq_true hx
            gi_wp2
            refine ⟨trivial, ?_⟩
            gi_wp2
            refine ⟨trivial, ?_⟩
            gi_wp2
            refine ⟨trivial, ?_⟩
            gi_wp2
            exact ⟨(KeepsOthers.setCell _ _ _).from _, .inr ⟨rfl, pre, x, rfl, by simp [chk]; omega⟩, fun h => by cases h⟩
          · have hxd : decide (x ≤ lastP pre) = false := decide_eq_false hx
            gi_wp2
            refine ⟨trivial, (CallsIn.inRound lr (callsIn_wide.2 (r06_Has_ok l x _ (hHas x) W All [.slice a0 n0 c0, .int .u64 x] rfl (two (slv hv (hB03.trans (hBW.mono (by omega))) (Nat.le_refl _)) (.d (.v _ rfl)))))).mono ?_⟩
            rintro e V1 ⟨ue, rfl, hV1, hue⟩
            cases hue.of_v
            have hsV1 := hV1.size
            have bL1 : Boxed V1 w.heap.size 22 (.slice a0 n0 c0) := (hV1.block _ bL.lt).trans bL
            have bR1 : Boxed V1 (w.heap.size + 1 + 1) 4 (.bool false) := (hV1.block _ bR.lt).trans bR
            have bP1 : Boxed V1 w'.heap.size 28 (.int .u64 (lastP pre)) := (hV1.block _ bP.lt).trans bP
            have cL1 := bL1.cell
            have cR1 := bR1.cell
            have fR1 := bR1.frozen
            have cP1 := bP1.cell
            cases hh : M.R.hasR l x with
            | false =>
              gi_wp2
              refine ⟨trivial, ?_⟩
              gi_wp2
              refine ⟨trivial, ?_⟩
              gi_wp2
              exact ⟨(kfB hV1).trans ((KeepsOthers.setCell _ _ _).from _), .inr ⟨rfl, pre, x, rfl, by simp [chk, hh]⟩, fun h => by cases h⟩
            | true =>
              gi_wp2
              have hV1a : Below V1.heap.size V1 (V1.alloc (.cells #[.int .u64 (IntKind.u64.wrap (lastP pre + 1)), .int .u64 x] 34)) := (Below.refl _ _).alloc (Nat.le_refl _) _
              have hV01 : Below w.heap.size w (V1.alloc (.cells #[.int .u64 (IntKind.u64.wrap (lastP pre + 1)), .int .u64 x] 34)) := ((hB03.trans (hBW.mono (by omega))).trans (hV1.mono (by omega))).trans (hV1a.mono (by omega))
              have hr1 := World.alloc_heap_new V1 (.cells #[.int .u64 (IntKind.u64.wrap (lastP pre + 1)), .int .u64 x] 34)
              have hk1 : KeepsFrom W4.heap.size V1 (V1.alloc (.cells #[.int .u64 (IntKind.u64.wrap (lastP pre + 1)), .int .u64 x] 34)) := (KeepsOthers.alloc _ _).from _
              refine ⟨trivial, (CallsIn.inRound lr (callsIn_wide.2 (r06_Meet_ok l [⟨IntKind.u64.wrap (lastP pre + 1), x⟩] _ (hMeet _ _) _ All [.slice a0 n0 c0, .slice (some ⟨V1.heap.size, 0, none⟩) 1 1] rfl (two (slv hv hV01 (Nat.le_refl _)) (oneRun hr1))))).mono ?_⟩
              rintro e V2 ⟨ue, rfl, hV2, hue2⟩
              replace hue2 := hue2.data
              obtain ⟨a2, n2, c2, rfl⟩ := isSl hue2
              gi_wp2
              have hV2a : Below V2.heap.size V2 (V2.alloc (.cells #[.int .u64 x, .int .u64 x] 34)) := (Below.refl _ _).alloc (Nat.le_refl _) _
              have hr2 := World.alloc_heap_new V2 (.cells #[.int .u64 x, .int .u64 x] 34)
              have hk2 : KeepsFrom W4.heap.size V2 (V2.alloc (.cells #[.int .u64 x, .int .u64 x] 34)) := (KeepsOthers.alloc _ _).from _
              refine ⟨trivial, (CallsIn.inRound lr (callsIn_wide.2 (r06_Eq_ok _ [⟨x, x⟩] _ (hEq _ _ _) _ All [.slice a2 n2 c2, .slice (some ⟨V2.heap.size, 0, none⟩) 1 1] rfl (two (slv (hue2.keep ⟨Nat.le_refl _, fun _ _ _ => rfl⟩ (fun _ _ _ => trivial)) hV2a (Nat.le_refl _)) (oneRun hr2))))).mono ?_⟩
              rintro e V3 ⟨ue, rfl, hV3, hue3⟩
              cases hue3.of_v
              have hW3 : Below W.heap.size W V3 := ((((hV1.trans (hV1a.mono (by omega))).trans (hV2.mono (by simp; omega))).trans (hV2a.mono (by have := hV2.size; simp at this; omega))).trans (hV3.mono (by have := hV2.size; simp at this ⊢; omega)))
              have hsW3 := hW3.size
              have bR3' : Boxed V3 (w.heap.size + 1 + 1) 4 (.bool false) := (hW3.block _ bR.lt).trans bR
              have bS3' : Boxed V3 (w.heap.size + 1) 5 (.int .u8 stop) := (hW3.block _ bS.lt).trans bS
              have bP3 : Boxed V3 w'.heap.size 28 (.int .u64 (lastP pre)) := (hW3.block _ bP.lt).trans bP
              have bQ3 : Boxed V3 (w'.heap.size + 1) 28 (.int .u64 pre.length) := (hW3.block _ bQ.lt).trans bQ
              have cR3 := bR3'.cell
              have fR3 := bR3'.frozen
              have cS3 := bS3'.cell
              have cP3 := bP3.cell
              have fP3 := bP3.frozen
              have cQ3 := bQ3.cell
              have fQ3 := bQ3.frozen
              cases hq : decide (M.R.setR (· && ·) l [⟨IntKind.u64.wrap (lastP pre + 1), x⟩] = [⟨x, x⟩]) with
              | false =>
                gi_wp2
                exact ⟨(kfB hW3).trans ((KeepsOthers.setCell _ _ _).from _), .inr ⟨rfl, pre, x, rfl, by simp [chk, hh, hq]⟩, fun h => by cases h⟩
              | true =>
                have hw1 : IntKind.u64.wrap ((pre.length : Int) + 1) = (pre.length : Int) + 1 := wU64 (by omega) (by omega)
                have hw2 : IntKind.u64.wrap stop = stop := wU64 (by omega) (by omega)
                have hBF : Below W3.heap.size W3 ((V3.setCell ⟨w'.heap.size, 0, none⟩ (.int .u64 x)).setCell ⟨w'.heap.size + 1, 0, none⟩ (.int .u64 ((pre.length : Int) + 1))) := ((hBW.trans (hW3.mono (by omega))).setCell (p := ⟨w'.heap.size, 0, none⟩) (by simp; omega) _).setCell (p := ⟨w'.heap.size + 1, 0, none⟩) (by simp; omega) _
                have hKF : ∀ B, KeepsFrom B W ((V3.setCell ⟨w'.heap.size, 0, none⟩ (.int .u64 x)).setCell ⟨w'.heap.size + 1, 0, none⟩ (.int .u64 ((pre.length : Int) + 1))) := fun B => (kfB hW3).trans (((KeepsOthers.setCell _ _ _).trans (KeepsOthers.setCell _ _ _)).from _)
                have bQF : Boxed ((V3.setCell ⟨w'.heap.size, 0, none⟩ (.int .u64 x)).setCell ⟨w'.heap.size + 1, 0, none⟩ (.int .u64 ((pre.length : Int) + 1))) (w'.heap.size + 1) 28 (.int .u64 ((pre.length : Int) + 1)) := (bQ3.other (by omega) _).set _
                gi_wp2
                · rename_i hle
                  exact ⟨hKF _, .inl rfl, fun _ => ⟨by have : stop = (pre.length : Int) := by omega
                                                       rw [this]; exact bQF, hBF, hKW.trans (hKF 0)⟩⟩
                · rename_i hle
                  exact ⟨hKF _, (Kx.below hW3).t ((Kx.set _ _ _ (.inl rfl)).t (Kx.set _ _ _ (.inr rfl))), ⟨⟨by rw [lastP_snoc]; exact (bP3.set (.int .u64 x)).other (by omega) _, by simpa using bQF⟩, by simpa using hle⟩, hBF, hKW.trans (hKF 0)⟩
        case done =>
          rintro D ys W hD rfl ⟨⟨⟨bP, bQ⟩, hpl⟩, hBW, hKW⟩ hK
          have hDn : D ∉ Ds := fun h => by have := (Array.getElem?_eq_some_iff.1 (hDs D h).2).1; omega
          have hDs' : ∀ E ∈ D :: Ds, W3.heap.size ≤ E ∧ W.heap[E]? = some (.deferred (some [])) := fun E hE => by
            rcases List.mem_cons.1 hE with rfl | hE
            · exact ⟨by omega, hK⟩
            · exact ⟨(hDs E hE).1, hKW.same _ _ (Nat.zero_le _) (hK4.same _ _ (Nat.zero_le _) (hDs E hE).2 rfl) rfl⟩
          have cQ := bQ.cell
          gi_wp2
          exact ⟨⟨i + 1, D :: Ds, _, _, _, _, _, _, _, _, _, _, _, _, _, _, _, _, _, by omega, List.nodup_cons.2 ⟨hDn, hnd⟩, hDs', hBW, rfl⟩, by simp [intOf]; omega⟩
        case stop =>
          rintro D c pre W hD hpre ⟨hc, hx⟩ hK
          rcases hc with rfl | ⟨rfl, q, x, rfl, hch⟩
          · obtain ⟨bQ, hBW, hKW⟩ := hx rfl
            have hDn : D ∉ Ds := fun h => by have := (Array.getElem?_eq_some_iff.1 (hDs D h).2).1; omega
            have hDs' : ∀ E ∈ D :: Ds, W3.heap.size ≤ E ∧ W.heap[E]? = some (.deferred (some [])) := fun E hE => by
              rcases List.mem_cons.1 hE with rfl | hE
              · exact ⟨by omega, hK⟩
              · exact ⟨(hDs E hE).1, hKW.same _ _ (Nat.zero_le _) (hK4.same _ _ (Nat.zero_le _) (hDs E hE).2 rfl) rfl⟩
            have bS : Boxed W (w.heap.size + 1) 5 (.int .u8 stop) := (hBW.block _ (by omega)).trans bS3
            have cS := bS.cell
            have cQ := bQ.cell
            have hw2 : IntKind.u64.wrap stop = stop := wU64 (by omega) (by omega)
            have hw3 : IntKind.u64.wrap (stop + 1) = stop + 1 := wU64 (by omega) (by omega)
            gi_wp2
            all_goals exact ⟨⟨i + 1, by omega, D :: Ds, List.nodup_cons.2 ⟨hDn, hnd⟩, hDs', by simp, by simp⟩, by simp [intOf]; omega⟩
          · rw [hgood q x hpre] at hch
            cases hch
      · obtain rfl : i = 2 := by omega
        gi_wp2
        have hsw' := hBw.size
        refine ⟨trivial, (callsIn_wide.2 (l06_works_ok _ hWorks w' All [] rfl (fun i p u hp _ => by simp at hp))).mono ?_⟩
        rintro e V ⟨u, rfl, hV, hu2⟩
        cases hu2.of_v
        have bR4 : Boxed V (w.heap.size + 1 + 1) 4 (.bool false) := (hV.block _ (by omega)).trans ((hBw.block _ (by omega)).trans bR3)
        have cR4 := bR4.cell
        have fR4 := bR4.frozen
        gi_wp2
        refine leaves w _ (w.heap.size + 1 + 1) rfl Ds _ hnd (fun D hD => ⟨?_, ?_, ?_⟩) (bR4.set _) (((hB03.trans (hBw.mono (by omega))).trans (hV.mono (by omega))).setCell (p := ⟨w.heap.size + 1 + 1, 0, none⟩) (by simp; omega) _)
        · have := (hDs D hD).1
          omega
        · have := (hDs D hD).1
          omega
        · have h1 := hDs D hD
          refine (Below.heap_setCell _ _ _ _ (by simp only; omega)).trans ((hV.block D (Array.getElem?_eq_some_iff.1 h1.2).1).trans h1.2)
  · have hfd : decide ((l.length : Int) ≤ 60) = false := decide_eq_false hf
    rw [hfd]
    gi_wp2
    refine ⟨trivial, (callsIn_wide.2 (l06_works_ok _ hWorks W1 All [] rfl (fun i p u hp _ => by simp at hp))).mono ?_⟩
    rintro e W2 ⟨u, rfl, hB2, hu2⟩
    cases hu2.of_v
    have bR2 : Boxed W2 (w.heap.size + 1 + 1) 4 (.bool false) := (hB2.block _ (by omega)).trans bR1
    have cR2 := bR2.cell
    have fR2 := bR2.frozen
    gi_wp2
    exact leaves w _ (w.heap.size + 1 + 1) rfl [] _ List.nodup_nil (by simp) (bR2.set _) ((hB01.trans (hB2.mono (by omega))).setCell (p := ⟨w.heap.size + 1 + 1, 0, none⟩) (by simp; omega) _)
end Ech
/-- The law, plainly: it tells true (where what it is handed is a byte). -/
def l06_RunsEach (_ : List TRun) (stop : Int) : M Bool := if 0 ≤ stop ∧ stop ≤ 255 then M.pure true else M.fail
theorem l06_RunsEach_ok (l1 : List TRun) (n2 : Int) (r0 : Bool) (h : (l06_RunsEach l1 n2).wp (· = r0)) : PFun Try.prog 3 [.d (.sl (List.map TRun.e l1)), .d (.v (.int .u8 n2))] (.d (.v (.bool r0))) := by
  unfold l06_RunsEach at h
  split at h
  · rename_i hs
    replace h : true = r0 := h
    subst h
    intro w S vs hl hv
    match vs, hl with
    | [v, u], _ =>
      cases (hv 1 _ _ rfl rfl).of_v
      cases hv 0 _ _ rfl rfl with
      | d hd =>
        obtain ⟨a, n, c, rfl⟩ := Ech.isSl hd
        refine (callsIn_wide.1 (Ech.law_in l1 n2 hs w a n c (hd.keep ⟨Nat.le_refl _, fun _ _ _ => rfl⟩ (fun _ _ _ => trivial)))).mono ?_
        rintro e w' ⟨rfl, hb⟩
        exact ⟨_, rfl, hb, .d (.v _ rfl)⟩
  · exact h.elim
end Go.Proofs

namespace Go.Ep
set_option linter.unusedVariables false

def TRun.ok (x : TRun) : Prop := okK .u64 x.lo ∧ okK .u64 x.hi
def TRun.sz (x : TRun) : Nat := (1 + (1 + 0)) + 1
end Go.Ep
namespace Go.Proofs
open Go.Ep
set_option maxRecDepth 100000
theorem opnTRun : Opn Try.prog 34 2 TRun.e TRun.ok TRun.sz := (Opn.struct Try.underlying34 (by kernel_rfl) (OpnF.cons (Opn.int Try.underlying28 (by kernel_rfl)) rfl (OpnF.cons (Opn.int Try.underlying28 (by kernel_rfl)) rfl (OpnF.nil _)))).map (fun p => ⟨p.1, p.2.1⟩) (fun _ _ => rfl) (fun p h => ⟨h.1, h.2.1⟩) (fun _ => Nat.le_refl _)
end Go.Proofs


/- Texts that the walks and laws lean on, side by side. -/
import Derived.Test.YtacnidaafcfgiaaMda2
import Derived.Test.YtacnidaafcfgiaaMda6
namespace Go.Ep.M.R
open Go

def mayR (x : TRun) : Bool := decide (1 ≤ x.lo) && (decide (x.lo ≤ x.hi) && decide (x.hi ≤ 281474976710655))
theorem mayR_iff {x : TRun} : mayR x = true ↔ 1 ≤ x.lo ∧ x.lo ≤ x.hi ∧ x.hi ≤ 281474976710655 := by simp [mayR]
def inR (n : Int) (x : TRun) : Bool := mayR x && (decide (x.lo ≤ n) && decide (n ≤ x.hi))
theorem inR_iff {n : Int} {x : TRun} : inR n x = true ↔ (1 ≤ x.lo ∧ x.lo ≤ x.hi ∧ x.hi ≤ 281474976710655) ∧ x.lo ≤ n ∧ n ≤ x.hi := by simp [inR, mayR]
def hasR (l : List TRun) (n : Int) : Bool := l.any (inR n)
theorem hasR_iff {l : List TRun} {n : Int} : hasR l n = true ↔ ∃ x ∈ l, mayR x = true ∧ x.lo ≤ n ∧ n ≤ x.hi := by
  unfold hasR
  rw [List.any_eq_true]
  simp [inR]
@[simp] theorem hasR_nil (n : Int) : hasR [] n = false := rfl
theorem hasR_cons (x : TRun) (l : List TRun) (n : Int) : hasR (x :: l) n = (inR n x || hasR l n) := rfl
theorem hasR_app (a b : List TRun) (n : Int) : hasR (a ++ b) n = (hasR a n || hasR b n) := by simp [hasR]
theorem hasR_one (x : TRun) (n : Int) : hasR [x] n = inR n x := by simp [hasR]
theorem hasR_perm {a b : List TRun} (h : a.Perm b) (n : Int) : hasR a n = hasR b n := by
  rw [Bool.eq_iff_iff, hasR_iff, hasR_iff]
  simp only [h.mem_iff]
theorem hasR_filter (l : List TRun) (n : Int) : hasR (l.filter mayR) n = hasR l n := by
  rw [Bool.eq_iff_iff, hasR_iff, hasR_iff]
  simp only [List.mem_filter]
  exact ⟨fun ⟨x, ⟨h1, _⟩, h3⟩ => ⟨x, h1, h3⟩, fun ⟨x, h1, h2, h3⟩ => ⟨x, ⟨h1, h2⟩, h2, h3⟩⟩
/-- In order. -/
def Nf : List TRun → Prop
  | [] => True
  | x :: r => mayR x = true ∧ (∀ y ∈ r, x.hi + 1 < y.lo) ∧ Nf r
theorem Nf.may {l : List TRun} (h : Nf l) : ∀ x ∈ l, mayR x = true := by
  induction l with
  | nil => simp
  | cons y r ih =>
    intro x hx
    rcases List.mem_cons.1 hx with rfl | hx
    · exact h.1
    · exact ih h.2.2 x hx
theorem nf_snoc {l : List TRun} {z : TRun} : Nf (l ++ [z]) ↔ Nf l ∧ mayR z = true ∧ ∀ p ∈ l, p.hi + 1 < z.lo := by
  induction l with
  | nil => simp [Nf]
  | cons x r ih =>
    simp only [List.cons_append, Nf, ih, List.mem_append, List.mem_cons, List.not_mem_nil, or_false]
    constructor
    · rintro ⟨h1, h2, h3, h4, h5⟩
      refine ⟨⟨h1, fun y hy => h2 y (.inl hy), h3⟩, h4, fun p hp => ?_⟩
      rcases hp with rfl | hp
      · exact h2 z (.inr rfl)
      · exact h5 p hp
    · rintro ⟨⟨h1, h2, h3⟩, h4, h5⟩
      refine ⟨h1, fun y hy => ?_, h3, h4, fun p hp => h5 p (.inr hp)⟩
      rcases hy with hy | rfl
      · exact h2 y hy
      · exact h5 x (.inl rfl)
theorem nf_low {x : TRun} {r : List TRun} (h : Nf (x :: r)) {n : Int} (hn : hasR r n = true) : x.hi + 1 < n := by
  obtain ⟨y, h1, _, h3, _⟩ := hasR_iff.1 hn
  have := h.2.1 y h1
  omega
theorem nf_head {x : TRun} {r : List TRun} (h : Nf (x :: r)) : hasR (x :: r) x.lo = true := by
  rw [hasR_cons]
  have := mayR_iff.1 h.1
  rw [Bool.or_eq_true]
  exact .inl (inR_iff.2 ⟨this, by omega, by omega⟩)
theorem nf_least {x : TRun} {r : List TRun} (h : Nf (x :: r)) {n : Int} (hn : hasR (x :: r) n = true) : x.lo ≤ n := by
  rw [hasR_cons, Bool.or_eq_true] at hn
  rcases hn with hn | hn
  · exact (inR_iff.1 hn).2.1
  · have := nf_low h hn; have := mayR_iff.1 h.1; omega
theorem nf_hi {x : TRun} {r : List TRun} (h : Nf (x :: r)) {n : Int} (h1 : x.lo ≤ n) : hasR (x :: r) n = true ↔ n ≤ x.hi ∨ hasR r n = true := by
  rw [hasR_cons, Bool.or_eq_true, inR_iff]
  have := mayR_iff.1 h.1
  constructor
  · rintro (h2 | h2)
    · exact .inl h2.2.2
    · exact .inr h2
  · rintro (h2 | h2)
    · exact .inl ⟨this, h1, h2⟩
    · exact .inr h2
theorem nf_ext : ∀ {a b : List TRun}, Nf a → Nf b → (∀ n, hasR a n = hasR b n) → a = b
  | [], [], _, _, _ => rfl
  | [], y :: s, _, hb, h => by have := h y.lo; rw [nf_head hb] at this; simp at this
  | x :: r, [], ha, _, h => by have := h x.lo; rw [nf_head ha] at this; simp at this
  | x :: r, y :: s, ha, hb, h => by
    have h1 : x.lo = y.lo := by
      have h2 := nf_least hb (by rw [← h]; exact nf_head ha)
      have h3 := nf_least ha (by rw [h]; exact nf_head hb)
      omega
    have hx := mayR_iff.1 ha.1
    have hy := mayR_iff.1 hb.1
    have hle : ∀ {x y : TRun} {r s : List TRun}, Nf (x :: r) → Nf (y :: s) → (∀ n, hasR (x :: r) n = hasR (y :: s) n) → x.lo = y.lo → y.hi ≤ x.hi := by
      intro x y r s ha hb h h1
      have hx := mayR_iff.1 ha.1
      refine Classical.byContradiction fun hc => ?_
      have h2 : hasR (y :: s) (x.hi + 1) = true := (nf_hi hb (by omega)).2 (.inl (by omega))
      rw [← h, nf_hi ha (by omega)] at h2
      rcases h2 with h2 | h2
      · omega
      · have := nf_low ha h2; omega
    have h2 : x.hi = y.hi := by
      have := hle ha hb h h1
      have := hle hb ha (fun n => (h n).symm) h1.symm
      omega
    have he : x = y := by cases x; cases y; simp_all
    subst he
    rw [nf_ext ha.2.2 hb.2.2 fun n => ?_]
    rw [Bool.eq_iff_iff]
    have h3 := h n
    constructor
    · intro hn
      have := nf_low ha hn
      have h4 : hasR (x :: r) n = true := (nf_hi ha (by omega)).2 (.inr hn)
      rw [h3, nf_hi hb (by omega)] at h4
      rcases h4 with h4 | h4
      · omega
      · exact h4
    · intro hn
      have := nf_low hb hn
      have h4 : hasR (x :: s) n = true := (nf_hi hb (by omega)).2 (.inr hn)
      rw [← h3, nf_hi ha (by omega)] at h4
      rcases h4 with h4 | h4
      · omega
      · exact h4

def putS (n : Int) (s : Bool × List Int) (x : Int) : Bool × List Int :=
  let t := if s.1 = false ∧ n ≤ x then (true, s.2 ++ [n]) else s
  if x = n then t else (t.1, t.2 ++ [x])
def putP (l : List Int) (n : Int) : List Int := let t := l.foldl (putS n) (false, []); if t.1 then t.2 else t.2 ++ [n]
abbrev Up (l : List Int) : Prop := l.Pairwise (· < ·)
theorem up_snoc {l : List Int} {z : Int} : Up (l ++ [z]) ↔ Up l ∧ ∀ p ∈ l, p < z := by
  unfold Up
  rw [List.pairwise_append]
  simp
theorem putS_inv (n : Int) : ∀ (l : List Int) (s : Bool × List Int), Up l → Up s.2 → (∀ p ∈ s.2, ∀ x ∈ l, p < x ∨ (p = n ∧ s.1 = true ∧ p ≤ x)) → (s.1 = true → n ∈ s.2) → (s.1 = false → ∀ p ∈ s.2, p < n) →
    Up (l.foldl (putS n) s).2 ∧ (∀ m, m ∈ (l.foldl (putS n) s).2 ↔ m ∈ s.2 ∨ (m ∈ l ∧ m ≠ n) ∨ (m = n ∧ (l.foldl (putS n) s).1 = true)) ∧ ((l.foldl (putS n) s).1 = false → ∀ p ∈ (l.foldl (putS n) s).2, p < n) ∧ (l.foldl (putS n) s).2.length ≤ s.2.length + l.length + (if s.1 then 0 else 1) ∧ ((l.foldl (putS n) s).1 = false → (l.foldl (putS n) s).2.length ≤ s.2.length + l.length)
  | [], s, _, hs, _, h2, h3 => by
    refine ⟨hs, fun m => ?_, h3, by simp, by simp⟩
    simp only [List.foldl_nil, List.not_mem_nil, false_and, false_or]
    exact ⟨fun h => .inl h, fun h => h.elim id fun ⟨e, h⟩ => e ▸ h2 h⟩
  | x :: r, (d, out), hl, hs, h1, h2, h3 => by
    rw [List.foldl_cons]
    have hl' := List.pairwise_cons.1 hl
    simp only at hs h1 h2 h3
    by_cases hc : d = false ∧ n ≤ x
    · obtain ⟨rfl, hnx⟩ := hc
      by_cases hx : x = n
      · have e : putS n (false, out) x = (true, out ++ [n]) := by simp [putS, hx]
        rw [e]
        obtain ⟨i1, i2, i3, i4, i5⟩ := putS_inv n r (true, out ++ [n]) hl'.2 (up_snoc.2 ⟨hs, h3 rfl⟩) (fun p hp y hy => by
          have := hl'.1 y hy
          rcases List.mem_append.1 hp with hp | hp
          · have := h3 rfl p hp; left; omega
          · simp at hp; left; omega) (fun _ => by simp) (fun h => by cases h)
        refine ⟨i1, fun m => ?_, i3, ?_, ?_⟩
        · rw [i2]
          simp only [List.mem_append, List.mem_cons, List.not_mem_nil, or_false]
          constructor
          · rintro ((h | h) | h | h)
            · exact .inl h
            · refine .inr (.inr ⟨h, ?_⟩)
              cases hb : (r.foldl (putS n) (true, out ++ [n])).1 with
              | true => rfl
              | false => have := i3 hb n ((i2 n).2 (.inl (by simp))); omega
            · exact .inr (.inl ⟨.inr h.1, h.2⟩)
            · exact .inr (.inr h)
          · rintro (h | ⟨h | h, h'⟩ | h)
            · exact .inl (.inl h)
            · exact absurd (h.trans hx) h'
            · exact .inr (.inl ⟨h, h'⟩)
            · exact .inr (.inr h)
        · simp at i4 ⊢; omega
        · intro hf; have := i5 hf; simp at this ⊢; omega
      · have e : putS n (false, out) x = (true, out ++ [n] ++ [x]) := by simp [putS, hx, hnx]
        rw [e]
        obtain ⟨i1, i2, i3, i4, i5⟩ := putS_inv n r (true, out ++ [n] ++ [x]) hl'.2 (up_snoc.2 ⟨up_snoc.2 ⟨hs, h3 rfl⟩, fun p hp => by
          rcases List.mem_append.1 hp with hp | hp
          · have := h3 rfl p hp; omega
          · simp at hp; omega⟩) (fun p hp y hy => by
          have := hl'.1 y hy
          simp only [List.mem_append, List.mem_singleton] at hp
          rcases hp with (hp | hp) | hp
          · have := h3 rfl p hp; left; omega
          · left; omega
          · left; omega) (fun _ => by simp) (fun h => by cases h)
        refine ⟨i1, fun m => ?_, i3, ?_, ?_⟩
        · rw [i2]
          simp only [List.mem_append, List.mem_cons, List.not_mem_nil, or_false]
          constructor
          · rintro (((h | h) | h) | h | h)
            · exact .inl h
            · refine .inr (.inr ⟨h, ?_⟩)
              cases hb : (r.foldl (putS n) (true, out ++ [n] ++ [x])).1 with
              | true => rfl
              | false => have := i3 hb n ((i2 n).2 (.inl (by simp))); omega
            · exact .inr (.inl ⟨.inl h, fun e => hx (h.symm.trans e)⟩)
            · exact .inr (.inl ⟨.inr h.1, h.2⟩)
            · exact .inr (.inr h)
          · rintro (h | ⟨h | h, h'⟩ | h)
            · exact .inl (.inl (.inl h))
            · exact .inl (.inr h)
            · exact .inr (.inl ⟨h, h'⟩)
            · exact .inr (.inr h)
        · simp at i4 ⊢; omega
        · intro hf; have := i5 hf; simp at this ⊢; exfalso; have := i3 hf n ((i2 n).2 (.inl (by simp))); omega
    · by_cases hx : x = n
      · have hd : d = true := by cases d with | true => rfl | false => exact absurd ⟨rfl, by omega⟩ hc
        subst hd
        have e : putS n (true, out) x = (true, out) := by simp [putS, hx]
        rw [e]
        obtain ⟨i1, i2, i3, i4, i5⟩ := putS_inv n r (true, out) hl'.2 hs (fun p hp y hy => h1 p hp y (List.mem_cons_of_mem _ hy)) h2 h3
        refine ⟨i1, fun m => ?_, i3, ?_, ?_⟩
        · rw [i2]
          simp only [List.mem_cons]
          constructor
          · rintro (h | h | h)
            · exact .inl h
            · exact .inr (.inl ⟨.inr h.1, h.2⟩)
            · exact .inr (.inr h)
          · rintro (h | ⟨h | h, h'⟩ | h)
            · exact .inl h
            · exact absurd (h.trans hx) h'
            · exact .inr (.inl ⟨h, h'⟩)
            · exact .inr (.inr h)
        · simp at i4 ⊢; omega
        · intro hf; have := i5 hf; simp at this ⊢; omega
      · have e : putS n (d, out) x = (d, out ++ [x]) := by
          unfold putS
          simp only [hc, if_false, hx]
        rw [e]
        have hlt : d = false → x < n := fun h => by
          have : ¬ n ≤ x := fun h' => hc ⟨h, h'⟩
          omega
        obtain ⟨i1, i2, i3, i4, i5⟩ := putS_inv n r (d, out ++ [x]) hl'.2 (up_snoc.2 ⟨hs, fun p hp => by
          rcases h1 p hp x (by simp) with h | h
          · exact h
          · omega⟩) (fun p hp y hy => by
          rcases List.mem_append.1 hp with hp | hp
          · exact h1 p hp y (List.mem_cons_of_mem _ hy)
          · simp at hp; have := hl'.1 y hy; left; omega) (fun h => List.mem_append_left _ (h2 h)) (fun h p hp => by
          rcases List.mem_append.1 hp with hp | hp
          · exact h3 h p hp
          · simp at hp; rw [hp]; exact hlt h)
        refine ⟨i1, fun m => ?_, i3, ?_, ?_⟩
        · rw [i2]
          simp only [List.mem_append, List.mem_cons, List.not_mem_nil, or_false]
          constructor
          · rintro ((h | h) | h | h)
            · exact .inl h
            · exact .inr (.inl ⟨.inl h, fun e => hx (h.symm.trans e)⟩)
            · exact .inr (.inl ⟨.inr h.1, h.2⟩)
            · exact .inr (.inr h)
          · rintro (h | ⟨h | h, h'⟩ | h)
            · exact .inl (.inl h)
            · exact .inl (.inr h)
            · exact .inr (.inl ⟨h, h'⟩)
            · exact .inr (.inr h)
        · simp at i4 ⊢; omega
        · intro hf; have := i5 hf; simp at this ⊢; omega
theorem putP_props {l : List Int} (h : Up l) (n : Int) : Up (putP l n) ∧ (∀ m, m ∈ putP l n ↔ m ∈ l ∨ m = n) ∧ (putP l n).length ≤ l.length + 1 := by
  obtain ⟨i1, i2, i3, i4, i5⟩ := putS_inv n l (false, []) h (by simp [Up]) (by simp) (by simp) (by simp)
  unfold putP
  simp only
  cases hb : (l.foldl (putS n) (false, [])).1 with
  | true =>
    simp only [if_true]
    refine ⟨i1, fun m => ?_, by simpa using i4⟩
    rw [i2, hb]
    simp only [List.not_mem_nil, false_or, and_true]
    constructor
    · rintro (h | h)
      · exact .inl h.1
      · exact .inr h
    · rintro (h | h)
      · by_cases e : m = n
        · exact .inr e
        · exact .inl ⟨h, e⟩
      · exact .inr h
  | false =>
    have := i5 hb
    rw [if_neg (by simp)]
    refine ⟨up_snoc.2 ⟨i1, i3 hb⟩, fun m => ?_, by simp at this ⊢; omega⟩
    simp only [List.mem_append, List.mem_singleton, i2, hb, List.not_mem_nil, false_or]
    constructor
    · rintro ((h | h) | h)
      · exact .inl h.1
      · cases h.2
      · exact .inr h
    · rintro (h | h)
      · by_cases e : m = n
        · exact .inr e
        · exact .inl (.inl ⟨h, e⟩)
      · exact .inr h
def ptS (out : List Int) (x : TRun) : List Int := if mayR x then putP (putP out x.lo) (x.hi + 1) else out
def ptsP (l : List TRun) : List Int := l.foldl ptS []
theorem ptS_inv : ∀ (l : List TRun) (out : List Int), Up out → Up (l.foldl ptS out) ∧ (∀ m, m ∈ l.foldl ptS out ↔ m ∈ out ∨ ∃ x ∈ l, mayR x = true ∧ (m = x.lo ∨ m = x.hi + 1)) ∧ (l.foldl ptS out).length ≤ out.length + 2 * l.length
  | [], out, h => ⟨h, fun m => by simp, by simp⟩
  | x :: r, out, h => by
    rw [List.foldl_cons]
    obtain ⟨j1, j2, j3⟩ := putP_props h x.lo
    obtain ⟨k1, k2, k3⟩ := putP_props j1 (x.hi + 1)
    by_cases hm : mayR x = true
    · have e : ptS out x = putP (putP out x.lo) (x.hi + 1) := by simp [ptS, hm]
      rw [e]
      obtain ⟨i1, i2, i3⟩ := ptS_inv r _ k1
      refine ⟨i1, fun m => ?_, by simp; omega⟩
      rw [i2, k2, j2]
      constructor
      · rintro (((h | h) | h) | ⟨y, h1, h2⟩)
        · exact .inl h
        · exact .inr ⟨x, by simp, hm, .inl h⟩
        · exact .inr ⟨x, by simp, hm, .inr h⟩
        · exact .inr ⟨y, by simp [h1], h2⟩
      · rintro (h | ⟨y, h1, h2, h3⟩)
        · exact .inl (.inl (.inl h))
        · rcases List.mem_cons.1 h1 with rfl | h1
          · rcases h3 with h3 | h3
            · exact .inl (.inl (.inr h3))
            · exact .inl (.inr h3)
          · exact .inr ⟨y, h1, h2, h3⟩
    · have e : ptS out x = out := by simp [ptS, hm]
      rw [e]
      obtain ⟨i1, i2, i3⟩ := ptS_inv r _ h
      refine ⟨i1, fun m => ?_, by simp; omega⟩
      rw [i2]
      constructor
      · rintro (h | ⟨y, h1, h2⟩)
        · exact .inl h
        · exact .inr ⟨y, by simp [h1], h2⟩
      · rintro (h | ⟨y, h1, h2, h3⟩)
        · exact .inl h
        · rcases List.mem_cons.1 h1 with rfl | h1
          · exact absurd h2 hm
          · exact .inr ⟨y, h1, h2, h3⟩
theorem ptsP_props (l : List TRun) : Up (ptsP l) ∧ (∀ m, m ∈ ptsP l ↔ ∃ x ∈ l, mayR x = true ∧ (m = x.lo ∨ m = x.hi + 1)) ∧ (ptsP l).length ≤ 2 * l.length := by
  obtain ⟨h1, h2, h3⟩ := ptS_inv l [] (by simp [Up])
  exact ⟨h1, fun m => by rw [ptsP, h2]; simp, by simpa [ptsP] using h3⟩

def lastOr (out : List TRun) (p : Int) (z : TRun → TRun) (x : TRun) : List TRun := match out.getLast? with
  | some y => if y.hi + 1 = p then out.dropLast ++ [z y] else out ++ [x]
  | none => out ++ [x]
def setS (op : Bool → Bool → Bool) (a b : List TRun) (out : List TRun) (pq : Int × Int) : List TRun :=
  if op (hasR a pq.1) (hasR b pq.1) then lastOr out pq.1 (fun y => ⟨y.lo, pq.2 - 1⟩) ⟨pq.1, pq.2 - 1⟩ else out
def pairs (l : List Int) : List (Int × Int) := l.zip l.tail
def setR (op : Bool → Bool → Bool) (a b : List TRun) : List TRun := (pairs (ptsP (a ++ b))).foldl (setS op a b) []

theorem lastOr_nil (p : Int) (z : TRun → TRun) (x : TRun) : lastOr [] p z x = [x] := rfl
theorem lastOr_snoc (l : List TRun) (y : TRun) (p : Int) (z : TRun → TRun) (x : TRun) : lastOr (l ++ [y]) p z x = if y.hi + 1 = p then l ++ [z y] else l ++ [y] ++ [x] := by simp [lastOr]
theorem snoc_cases {α : Type} (l : List α) : l = [] ∨ ∃ r y, l = r ++ [y] := by
  rcases List.eq_nil_or_concat l with h | ⟨r, y, h⟩
  · exact .inl h
  · exact .inr ⟨r, y, by simpa using h⟩

theorem setS_inv (op : Bool → Bool → Bool) (a b : List TRun) : ∀ (P : List Int) (p : Int) (out : List TRun), Up (p :: P) → (∀ q ∈ p :: P, 1 ≤ q ∧ q ≤ 281474976710656) → Nf out → (∀ y ∈ out, y.hi < p) →
    Nf ((pairs (p :: P)).foldl (setS op a b) out) ∧ (∀ n, hasR ((pairs (p :: P)).foldl (setS op a b) out) n = true ↔ hasR out n = true ∨ ∃ pq ∈ pairs (p :: P), pq.1 ≤ n ∧ n < pq.2 ∧ op (hasR a pq.1) (hasR b pq.1) = true) ∧ ((pairs (p :: P)).foldl (setS op a b) out).length ≤ out.length + P.length
  | [], p, out, _, _, h, _ => by simp [pairs, h]
  | q :: P, p, out, hu, hr, h, hy => by
    have e : pairs (p :: q :: P) = (p, q) :: pairs (q :: P) := rfl
    rw [e, List.foldl_cons]
    have hu' := List.pairwise_cons.1 hu
    have hpq : p < q := hu'.1 q (by simp)
    have hp := hr p (by simp)
    have hq := hr q (by simp)
    have step : Nf (setS op a b out (p, q)) ∧ (∀ n, hasR (setS op a b out (p, q)) n = true ↔ hasR out n = true ∨ (p ≤ n ∧ n < q ∧ op (hasR a p) (hasR b p) = true)) ∧ (∀ y ∈ setS op a b out (p, q), y.hi < q) ∧ (setS op a b out (p, q)).length ≤ out.length + 1 := by
      unfold setS
      simp only
      by_cases hop : op (hasR a p) (hasR b p) = true
      · rw [if_pos hop]
        rcases snoc_cases out with rfl | ⟨l, y, rfl⟩
        · rw [lastOr_nil]
          have hm : mayR (⟨p, q - 1⟩ : TRun) = true := mayR_iff.2 ⟨hp.1, by simp only; omega, by simp only; omega⟩
          refine ⟨⟨hm, by simp, trivial⟩, fun n => ?_, fun y hy => ?_, by simp⟩
          · rw [hasR_one, inR_iff]
            have := mayR_iff.1 hm
            simp only at this ⊢
            simp only [hasR_nil, Bool.false_eq_true, false_or, hop, and_true]
            omega
          · simp at hy; subst hy; simp only; omega
        · rw [lastOr_snoc]
          obtain ⟨n1, n2, n3⟩ := nf_snoc.1 h
          have hym := mayR_iff.1 n2
          have hyp := hy y (by simp)
          by_cases hadj : y.hi + 1 = p
          · rw [if_pos hadj]
            have hm : mayR (⟨y.lo, q - 1⟩ : TRun) = true := mayR_iff.2 ⟨hym.1, by simp only; omega, by simp only; omega⟩
            refine ⟨nf_snoc.2 ⟨n1, hm, n3⟩, fun n => ?_, fun z hz => ?_, by simp⟩
            · rw [hasR_app, hasR_app, hasR_one, hasR_one, Bool.or_eq_true, Bool.or_eq_true, inR_iff, inR_iff]
              have := mayR_iff.1 hm
              simp only at this ⊢
              simp only [hop, and_true]
              constructor
              · rintro (h | h)
                · exact .inl (.inl h)
                · by_cases hc : n ≤ y.hi
                  · exact .inl (.inr ⟨hym, h.2.1, hc⟩)
                  · right; omega
              · rintro ((h | h) | h)
                · exact .inl h
                · right; omega
                · right; omega
            · rcases List.mem_append.1 hz with hz | hz
              · have := hy z (by simp [hz]); omega
              · simp at hz; subst hz; simp only; omega
          · rw [if_neg hadj]
            have hm : mayR (⟨p, q - 1⟩ : TRun) = true := mayR_iff.2 ⟨hp.1, by simp only; omega, by simp only; omega⟩
            refine ⟨nf_snoc.2 ⟨h, hm, fun z hz => ?_⟩, fun n => ?_, fun z hz => ?_, by simp⟩
            · simp only
              rcases List.mem_append.1 hz with hz | hz
              · have := n3 z hz; omega
              · simp at hz; subst hz; omega
            · rw [hasR_app (l ++ [y]), hasR_one, Bool.or_eq_true, inR_iff]
              have := mayR_iff.1 hm
              simp only at this ⊢
              simp only [hop, and_true]
              constructor
              · rintro (h | h)
                · exact .inl h
                · right; omega
              · rintro (h | h)
                · exact .inl h
                · right; omega
            · rcases List.mem_append.1 hz with hz | hz
              · have := hy z hz; omega
              · simp at hz; subst hz; simp only; omega
      · rw [if_neg hop]
        refine ⟨h, fun n => ?_, fun y hy' => by have := hy y hy'; omega, by omega⟩
        exact ⟨fun h => .inl h, fun h => h.elim id fun h => absurd h.2.2 hop⟩
    obtain ⟨s1, s2, s3, s4⟩ := step
    obtain ⟨i1, i2, i3⟩ := setS_inv op a b P q _ hu'.2 (fun z hz => hr z (List.mem_cons_of_mem _ hz)) s1 s3
    refine ⟨i1, fun n => ?_, by simp; omega⟩
    rw [i2, s2]
    simp only [List.mem_cons, exists_eq_or_imp]
    constructor
    · rintro ((h | h) | h)
      · exact .inl h
      · exact .inr (.inl h)
      · exact .inr (.inr h)
    · rintro (h | h | h)
      · exact .inl (.inl h)
      · exact .inl (.inr h)
      · exact .inr h

/-- Two places of a rising list that stand side by side. -/
theorem pairs_next : ∀ {P : List Int}, Up P → ∀ pq ∈ pairs P, pq.1 ∈ P ∧ pq.2 ∈ P ∧ pq.1 < pq.2 ∧ ∀ m ∈ P, m ≤ pq.1 ∨ pq.2 ≤ m
  | [], _, pq, h => by simp [pairs] at h
  | [p], _, pq, h => by simp [pairs] at h
  | p :: q :: P, hu, pq, h => by
    have e : pairs (p :: q :: P) = (p, q) :: pairs (q :: P) := rfl
    rw [e] at h
    have hu' := List.pairwise_cons.1 hu
    rcases List.mem_cons.1 h with rfl | h
    · refine ⟨by simp, by simp, hu'.1 q (by simp), fun m hm => ?_⟩
      rcases List.mem_cons.1 hm with rfl | hm
      · simp
      · right
        rcases List.mem_cons.1 hm with rfl | hm
        · simp
        · have := (List.pairwise_cons.1 hu'.2).1 m hm
          simp only; omega
    · obtain ⟨h1, h2, h3, h4⟩ := pairs_next hu'.2 pq h
      refine ⟨List.mem_cons_of_mem _ h1, List.mem_cons_of_mem _ h2, h3, fun m hm => ?_⟩
      rcases List.mem_cons.1 hm with rfl | hm
      · left; have := hu'.1 _ h1; omega
      · exact h4 m hm
theorem pairs_find : ∀ {P : List Int}, Up P → ∀ {u v n : Int}, u ∈ P → v ∈ P → u ≤ n → n < v → ∃ pq ∈ pairs P, pq.1 ≤ n ∧ n < pq.2
  | [], _, _, _, _, h, _, _, _ => by simp at h
  | [p], _, u, v, n, h1, h2, h3, h4 => by simp at h1 h2; omega
  | p :: q :: P, hu, u, v, n, h1, h2, h3, h4 => by
    have e : pairs (p :: q :: P) = (p, q) :: pairs (q :: P) := rfl
    have hu' := List.pairwise_cons.1 hu
    by_cases hc : n < q
    · refine ⟨(p, q), by rw [e]; simp, ?_, hc⟩
      rcases List.mem_cons.1 h1 with rfl | h1
      · exact h3
      · have : q ≤ u := by
          rcases List.mem_cons.1 h1 with rfl | h1
          · omega
          · have := (List.pairwise_cons.1 hu'.2).1 u h1; omega
        simp only; omega
    · have hv : v ∈ q :: P := by
        rcases List.mem_cons.1 h2 with rfl | h2
        · have := hu'.1 q (by simp); omega
        · exact h2
      obtain ⟨pq, h5, h6⟩ := pairs_find hu'.2 (u := q) (by simp) hv (by omega) h4
      exact ⟨pq, by rw [e]; exact List.mem_cons_of_mem _ h5, h6⟩
theorem has_between {l : List TRun} {P : List Int} (hP : ∀ x ∈ l, mayR x = true → x.lo ∈ P ∧ x.hi + 1 ∈ P) {p q n : Int} (h1 : ∀ m ∈ P, m ≤ p ∨ q ≤ m) (h2 : p ≤ n) (h3 : n < q) : hasR l n = hasR l p := by
  rw [Bool.eq_iff_iff, hasR_iff, hasR_iff]
  constructor
  · rintro ⟨x, hx, hm, h4, h5⟩
    obtain ⟨h6, h7⟩ := hP x hx hm
    have := h1 _ h6
    have := h1 _ h7
    exact ⟨x, hx, hm, by omega, by omega⟩
  · rintro ⟨x, hx, hm, h4, h5⟩
    obtain ⟨h6, h7⟩ := hP x hx hm
    have := h1 _ h6
    have := h1 _ h7
    exact ⟨x, hx, hm, by omega, by omega⟩
theorem setR_props (op : Bool → Bool → Bool) (h0 : op false false = false) (a b : List TRun) : Nf (setR op a b) ∧ (∀ n, hasR (setR op a b) n = op (hasR a n) (hasR b n)) ∧ (setR op a b).length ≤ 2 * (a.length + b.length) := by
  obtain ⟨p1, p2, p3⟩ := ptsP_props (a ++ b)
  have hrange : ∀ q ∈ ptsP (a ++ b), 1 ≤ q ∧ q ≤ 281474976710656 := fun q hq => by
    obtain ⟨x, _, h2, h3⟩ := (p2 q).1 hq
    have := mayR_iff.1 h2
    omega
  have main : Nf (setR op a b) ∧ (∀ n, hasR (setR op a b) n = true ↔ ∃ pq ∈ pairs (ptsP (a ++ b)), pq.1 ≤ n ∧ n < pq.2 ∧ op (hasR a pq.1) (hasR b pq.1) = true) ∧ (setR op a b).length ≤ (ptsP (a ++ b)).length := by
    unfold setR
    generalize hP : ptsP (a ++ b) = P at p1 hrange
    cases P with
    | nil => simp [pairs, Nf]
    | cons p P =>
      obtain ⟨i1, i2, i3⟩ := setS_inv op a b P p [] p1 hrange trivial (by simp)
      exact ⟨i1, fun n => by rw [i2]; simp, by simp at i3 ⊢; omega⟩
  obtain ⟨m1, m2, m3⟩ := main
  refine ⟨m1, fun n => ?_, by simp at p3; omega⟩
  have hPa : ∀ x ∈ a, mayR x = true → x.lo ∈ ptsP (a ++ b) ∧ x.hi + 1 ∈ ptsP (a ++ b) := fun x hx hm => ⟨(p2 _).2 ⟨x, by simp [hx], hm, .inl rfl⟩, (p2 _).2 ⟨x, by simp [hx], hm, .inr rfl⟩⟩
  have hPb : ∀ x ∈ b, mayR x = true → x.lo ∈ ptsP (a ++ b) ∧ x.hi + 1 ∈ ptsP (a ++ b) := fun x hx hm => ⟨(p2 _).2 ⟨x, by simp [hx], hm, .inl rfl⟩, (p2 _).2 ⟨x, by simp [hx], hm, .inr rfl⟩⟩
  rw [Bool.eq_iff_iff, m2]
  constructor
  · rintro ⟨pq, h1, h2, h3, h4⟩
    obtain ⟨_, _, _, h5⟩ := pairs_next p1 pq h1
    rwa [has_between hPa h5 h2 h3, has_between hPb h5 h2 h3]
  · intro h
    have hex : ∃ u ∈ ptsP (a ++ b), ∃ v ∈ ptsP (a ++ b), u ≤ n ∧ n < v := by
      cases ha : hasR a n with
      | true =>
        obtain ⟨x, h1, h2, h3, h4⟩ := hasR_iff.1 ha
        exact ⟨_, (hPa x h1 h2).1, _, (hPa x h1 h2).2, h3, by omega⟩
      | false =>
        cases hb : hasR b n with
        | true =>
          obtain ⟨x, h1, h2, h3, h4⟩ := hasR_iff.1 hb
          exact ⟨_, (hPb x h1 h2).1, _, (hPb x h1 h2).2, h3, by omega⟩
        | false => rw [ha, hb, h0] at h; cases h
    obtain ⟨u, hu, v, hv, h1, h2⟩ := hex
    obtain ⟨pq, h3, h4, h5⟩ := pairs_find p1 hu hv h1 h2
    obtain ⟨_, _, _, h6⟩ := pairs_next p1 pq h3
    exact ⟨pq, h3, h4, h5, by rwa [← has_between hPa h6 h4 h5, ← has_between hPb h6 h4 h5]⟩

def nrm (l : List TRun) : List TRun := setR (· || ·) l []
theorem nrm_nf (l : List TRun) : Nf (nrm l) := (setR_props _ rfl l []).1
theorem nrm_has (l : List TRun) (n : Int) : hasR (nrm l) n = hasR l n := by rw [nrm, (setR_props _ rfl l []).2.1]; simp
theorem nrm_len (l : List TRun) : (nrm l).length ≤ 2 * l.length := by
  have := (setR_props (· || ·) rfl l []).2.2
  rw [List.length_nil, Nat.add_zero] at this
  exact this
theorem nrm_of {l r : List TRun} (h : Nf r) (h2 : ∀ n, hasR r n = hasR l n) : r = nrm l := nf_ext h (nrm_nf l) fun n => by rw [h2, nrm_has]
theorem nrm_self {l : List TRun} (h : Nf l) : nrm l = l := (nrm_of h fun _ => rfl).symm


theorem runEq_iff (x y : TRun) : (decide (x.lo = y.lo) && decide (x.hi = y.hi)) = decide (x = y) := by
  rw [Bool.eq_iff_iff]
  cases x; cases y
  simp
theorem eqLoop {body : Int → M (Step Int (Ex Unit Bool))} (a b : List TRun) (hl : a.length = b.length) (hn : a.length ≤ 1000000000000)
    (hb : ∀ i : Int, body i = cond (decide (i < (a.length : Int))) (M.bind (M.idx a i) fun x => M.bind (M.idx b i) fun y => cond (!(decide (x.lo = y.lo) && decide (x.hi = y.hi))) (M.pure (.done (.ret false))) (M.pure (.next (IntKind.i64.wrap (i + 1))))) (M.pure (.done (.brk ())))) :
    M.bind (M.loop body 0) (M.exk fun _ => M.pure true) = pure (decide (a = b)) := by
  have := loopAll (body := body) a (fun i => (i : Int)) (fun i x => decide (b[i]? = some x)) (.brk ()) (.ret false) (fun i x hx hi => by
    have hb' : i < b.length := by omega
    rw [hb, idx_nat hx, idx_nat (List.getElem?_eq_getElem hb'), wSucc (by omega)]
    simp only [pure_bind, List.getElem?_eq_getElem hb', Option.some.injEq, runEq_iff]
    have : decide ((i : Int) < (a.length : Int)) = true := by simpa using hi
    rw [this, cond_true]
    by_cases he : b[i] = x
    · subst he; simp
    · rw [if_neg (by simpa using he)]
      have : decide (x = b[i]) = false := by simpa using fun h => he h.symm
      rw [this]; rfl) (by rw [hb]; simp)
  rw [show (0 : Int) = ((0 : Nat) : Int) from rfl, this]
  by_cases he : a = b
  · subst he
    rw [if_pos]
    · simp [pure_bind, exk_brk]
    · rw [List.all_eq_true]
      intro ⟨x, i⟩ hx
      rw [List.mk_mem_zipIdx_iff_getElem?] at hx
      simpa using hx
  · rw [if_neg]
    · simp [he, pure_bind, exk_ret]
    · intro hall
      rw [List.all_eq_true] at hall
      apply he
      apply List.ext_getElem (by omega)
      intro i h1 h2
      have := hall (a[i], i) (by rw [List.mk_mem_zipIdx_iff_getElem?]; exact List.getElem?_eq_getElem h1)
      simp [h2] at this
      exact this.symm
theorem seq_eq (a b : List TRun) (h : a.length ≤ 1000000000000) : slices_Equal_sl_Run_Run a b = pure (decide (a = b)) := by
  unfold slices_Equal_sl_Run_Run
  by_cases hl : (a.length : Int) = b.length
  · simp only [hl, decide_true, Bool.not_true, cond_false]
    exact eqLoop a b (by omega) h fun i => rfl
  · have hne : a ≠ b := fun e => hl (by rw [e])
    simp [hl, hne]

def addN (out : List TRun) (x : TRun) : List TRun := match out.getLast? with
  | some y => if x.lo ≤ y.hi + 1 then out.dropLast ++ [⟨y.lo, max y.hi x.hi⟩] else out ++ [x]
  | none => out ++ [x]
theorem addN_nil (x : TRun) : addN [] x = [x] := rfl
theorem addN_snoc (l : List TRun) (y x : TRun) : addN (l ++ [y]) x = if x.lo ≤ y.hi + 1 then l ++ [⟨y.lo, max y.hi x.hi⟩] else l ++ [y] ++ [x] := by simp [addN]
theorem addN_props {out : List TRun} {x : TRun} (h : Nf out) (hx : mayR x = true) (hlo : ∀ y ∈ out, y.lo ≤ x.lo) : Nf (addN out x) ∧ (∀ n, hasR (addN out x) n = (hasR out n || inR n x)) ∧ (∀ y ∈ addN out x, y.lo ≤ x.lo) ∧ (addN out x).length ≤ out.length + 1 := by
  have hxm := mayR_iff.1 hx
  rcases snoc_cases out with rfl | ⟨l, y, rfl⟩
  · rw [addN_nil]
    exact ⟨⟨hx, by simp, trivial⟩, fun n => by rw [hasR_one]; simp, by simp, by simp⟩
  · rw [addN_snoc]
    obtain ⟨n1, n2, n3⟩ := nf_snoc.1 h
    have hym := mayR_iff.1 n2
    have hyx := hlo y (by simp)
    by_cases hc : x.lo ≤ y.hi + 1
    · rw [if_pos hc]
      have hm : mayR (⟨y.lo, max y.hi x.hi⟩ : TRun) = true := mayR_iff.2 ⟨hym.1, by simp only; omega, by simp only; omega⟩
      refine ⟨nf_snoc.2 ⟨n1, hm, n3⟩, fun n => ?_, fun z hz => ?_, by simp⟩
      · rw [hasR_app, hasR_app, hasR_one, hasR_one, Bool.or_assoc]
        congr 1
        rw [Bool.eq_iff_iff, Bool.or_eq_true, inR_iff, inR_iff, inR_iff]
        have := mayR_iff.1 hm
        simp only at this ⊢
        omega
      · rcases List.mem_append.1 hz with hz | hz
        · exact hlo z (by simp [hz])
        · simp at hz; subst hz; exact hyx
    · rw [if_neg hc]
      refine ⟨nf_snoc.2 ⟨h, hx, fun z hz => ?_⟩, fun n => by rw [hasR_app (l ++ [y]), hasR_one], fun z hz => ?_, by simp⟩
      · rcases List.mem_append.1 hz with hz | hz
        · have := n3 z hz; omega
        · simp at hz; subst hz; omega
      · rcases List.mem_append.1 hz with hz | hz
        · exact hlo z hz
        · simp at hz; subst hz; exact Int.le_refl _
theorem addN_fold : ∀ (s out : List TRun), Nf out → (∀ x ∈ s, mayR x = true) → s.Pairwise (fun x y => x.lo ≤ y.lo) → (∀ y ∈ out, ∀ x ∈ s, y.lo ≤ x.lo) → Nf (s.foldl addN out) ∧ (∀ n, hasR (s.foldl addN out) n = (hasR out n || hasR s n)) ∧ (s.foldl addN out).length ≤ out.length + s.length
  | [], out, h, _, _, _ => ⟨h, by simp, by simp⟩
  | x :: r, out, h, hm, hp, hlo => by
    obtain ⟨a1, a2, a3, a4⟩ := addN_props h (hm x (by simp)) fun y hy => hlo y hy x (by simp)
    obtain ⟨p1, p2⟩ := List.pairwise_cons.1 hp
    obtain ⟨i1, i2, i3⟩ := addN_fold r _ a1 (fun y hy => hm y (List.mem_cons_of_mem _ hy)) p2 fun y hy z hz => by
      have := a3 y hy
      have := p1 z hz
      omega
    refine ⟨i1, fun n => ?_, by simp; omega⟩
    rw [List.foldl_cons, i2, a2, hasR_cons, Bool.or_assoc]

theorem srt_wp {l : List TRun} {Q : List TRun → Prop} (h : ∀ s, s.Perm l → s.Pairwise (fun x y => x.lo ≤ y.lo) → Q s) : (srt ltRun l).wp Q := by
  refine ⟨⟨l.mergeSort (fun x y => decide (x.lo ≤ y.lo)), List.mergeSort_perm _ _, ?_⟩, fun s ⟨h1, h2⟩ => h s h1 (h2.imp fun {x y} h => ?_)⟩
  · refine (List.pairwise_mergeSort (fun a b c h1 h2 => ?_) (fun a b => ?_) l).imp fun {x y} h => ?_
    · simp only [decide_eq_true_eq] at h1 h2 ⊢; omega
    · simp only [Bool.or_eq_true, decide_eq_true_eq]; omega
    · simp only [decide_eq_true_eq] at h; unfold ltRun; simp only [decide_eq_false_iff_not]; omega
  · unfold ltRun at h; simp only [decide_eq_false_iff_not] at h; omega
theorem norm_eq (l : List TRun) (h : l.length ≤ 1000000000000) : runs_Norm l = pure (nrm l) := by
  unfold runs_Norm
  have h1 := loopL (body := runs_Norm_l0 l) l (fun i (t : List TRun) => ((i : Int), t)) (fun t x => if mayR x then t ++ [x] else t) (fun t => pure t) (fun i t => t.length ≤ i) (fun i x t hx hi hI => by
    have h1 : decide ((i : Int) < (l.length : Int)) = true := by simpa using hi
    refine ⟨?_, by split <;> (try simp only [List.length_append, List.length_singleton]) <;> omega⟩
    unfold runs_Norm_l0
    simp only [h1, cond_true, idx_nat hx, pure_bind, wSucc (show i < 9223372036854775807 by omega)]
    have e : (cond (decide (0 < x.lo)) (cond (decide (x.lo ≤ x.hi)) (M.pure (decide (x.hi ≤ 281474976710655))) (M.pure false)) (M.pure false) : M Bool) = pure (mayR x) := by
      rw [cond_pure_and, cond_pure_and]
      refine congrArg pure ?_
      rw [Bool.eq_iff_iff, mayR_iff]
      simp only [Bool.and_eq_true, decide_eq_true_eq]
      omega
    rw [e, pure_bind]
    cases hm : mayR x with
    | false => simp [pure_bind]
    | true =>
      rw [cond_true, need_true (by simp; omega)]
      simp [pure_bind]) (fun t _ => by unfold runs_Norm_l0; simp [pure_bind]) [] (by simp)
  have hf : ∀ (l t : List TRun), l.foldl (fun t x => if mayR x then t ++ [x] else t) t = t ++ l.filter mayR := by
    intro l
    induction l with
    | nil => simp
    | cons x r ih =>
      intro t
      rw [List.foldl_cons, ih]
      cases hm : mayR x <;> simp [hm]
  rw [hf, List.nil_append] at h1
  have h1' : loop (runs_Norm_l0 l) (0, []) = pure (l.filter mayR) := h1
  have hfl : (l.filter mayR).length ≤ l.length := List.length_filter_le _ _
  rw [h1', pure_bind, need_true (by omega)]
  refine eq_pure (srt_wp fun s hs hp => ?_)
  have hsl := hs.length_eq
  have hmay : ∀ x ∈ s, mayR x = true := fun x hx => (List.mem_filter.1 (hs.mem_iff.1 hx)).2
  have hpre : ∀ i, Nf ((s.take i).foldl addN []) ∧ ((s.take i).foldl addN []).length ≤ i ∧ ∀ x, s[i]? = some x → ∀ y ∈ (s.take i).foldl addN [], y.lo ≤ x.lo := fun i => by
    obtain ⟨i1, i2, i3⟩ := addN_fold (s.take i) [] trivial (fun x hx => hmay x (List.mem_of_mem_take hx)) (List.Pairwise.sublist (List.take_sublist _ _) hp) (by simp)
    refine ⟨i1, by simp at i3; omega, fun x hx y hy => ?_⟩
    have hmy := mayR_iff.1 (i1.may y hy)
    have : hasR ((s.take i).foldl addN []) y.lo = true := hasR_iff.2 ⟨y, hy, i1.may y hy, by omega, by omega⟩
    rw [i2] at this
    simp only [hasR_nil, Bool.false_or] at this
    obtain ⟨z, hz, _, h3, _⟩ := hasR_iff.1 this
    -- z is ahead of x; y begins where one of those ahead begins
    have hall : ∀ (s out : List TRun), (∀ y ∈ s.foldl addN out, (∃ z ∈ out, y.lo = z.lo) ∨ ∃ z ∈ s, y.lo = z.lo) := by
      intro s
      induction s with
      | nil => intro out y hy; exact .inl ⟨y, hy, rfl⟩
      | cons a r ih =>
        intro out y hy
        rcases ih _ y hy with ⟨z, hz, e⟩ | ⟨z, hz, e⟩
        · rcases snoc_cases out with rfl | ⟨q, w, rfl⟩
          · rw [addN_nil] at hz; simp at hz; subst hz; exact .inr ⟨z, by simp, e⟩
          · rw [addN_snoc] at hz
            split at hz
            · rcases List.mem_append.1 hz with hz | hz
              · exact .inl ⟨z, by simp [hz], e⟩
              · simp at hz; subst hz; exact .inl ⟨w, by simp, e⟩
            · rcases List.mem_append.1 hz with hz | hz
              · exact .inl ⟨z, hz, e⟩
              · simp at hz; subst hz; exact .inr ⟨z, by simp, e⟩
        · exact .inr ⟨z, by simp [hz], e⟩
    rcases hall _ _ y hy with ⟨z, hz, _⟩ | ⟨z, hz, e⟩
    · simp at hz
    · obtain ⟨j, hj, hje⟩ := List.getElem_of_mem hz
      have hlt := (List.getElem?_eq_some_iff.1 hx).1
      have hji : j < i := by simp at hj; omega
      have := List.pairwise_iff_getElem.1 hp j i (by omega) hlt hji
      rw [List.getElem_take] at hje
      have hxe : s[i] = x := by rw [List.getElem?_eq_getElem hlt] at hx; simpa using hx
      rw [hje, hxe] at this
      omega
  have h2 := loopL (body := runs_Norm_l1 (l.filter mayR) s) s (fun i (t : List TRun) => ((i : Int), t)) addN (fun t => pure t) (fun i t => t = (s.take i).foldl addN []) (fun i x t hx hi hI => by
    obtain ⟨v1, v2, v3⟩ := hpre i
    have v3 := v3 x hx
    rw [← hI] at v1 v2 v3
    have hxm := mayR_iff.1 (hmay x (List.mem_of_getElem? hx))
    have h1 : decide ((i : Int) < ((l.filter mayR).length : Int)) = true := by simp; omega
    refine ⟨?_, by rw [List.take_add_one, hx]; simp [hI]⟩
    unfold runs_Norm_l1
    simp only [h1, cond_true, idx_nat hx, pure_bind, wSucc (show i < 9223372036854775807 by omega)]
    rcases snoc_cases t with rfl | ⟨q, y, rfl⟩
    · have e : decide ((0 : Int) ≤ IntKind.i64.wrap (((([] : List TRun).length : Nat) : Int) - 1)) = false := by
        rw [wI64 (by simp) (by simp)]; simp
      rw [e]
      simp only [cond_false, pure_bind]
      rw [need_true (by simp), addN_nil]
      rfl
    · have hy := (nf_snoc.1 v1).2.1
      have hym := mayR_iff.1 hy
      have e0 : IntKind.i64.wrap ((((q ++ [y]).length : Nat) : Int) - 1) = (q.length : Int) := by
        simp only [List.length_append, List.length_singleton] at v2 ⊢
        rw [wI64 (by omega) (by omega)]; omega
      have e1 : idx (q ++ [y]) (q.length : Int) = pure y := idx_nat (by simp)
      have e3 : decide ((0 : Int) ≤ (q.length : Int)) = true := by simp
      rw [e0, e3]
      simp only [cond_true, e1, pure_bind, wU64 (show 0 ≤ y.hi + 1 by omega) (by omega)]
      rw [addN_snoc]
      by_cases hc : x.lo ≤ y.hi + 1
      · simp only [hc, decide_true, cond_true, if_true, Int.toNat_natCast]
        have : (q ++ [y]).set q.length (⟨y.lo, max y.hi x.hi⟩ : TRun) = q ++ [⟨y.lo, max y.hi x.hi⟩] := by simp
        rw [this]
        rfl
      · simp only [hc, decide_false, cond_false, if_false]
        rw [need_true (by simp only [List.length_append, List.length_singleton] at v2 ⊢; omega)]
        rfl) (fun t _ => by
    unfold runs_Norm_l1
    have e : decide ((s.length : Int) < ((l.filter mayR).length : Int)) = false := by simp; omega
    simp only [e, cond_false, pure_bind]) [] (by simp)
  show (M.bind (M.loop (runs_Norm_l1 (l.filter mayR) s) (0, [])) fun out38 => M.pure out38).wp (· = nrm l)
  rw [show ((0 : Int), ([] : List TRun)) = (((0 : Nat) : Int), []) from rfl, h2]
  obtain ⟨i1, i2, _⟩ := addN_fold s [] trivial hmay hp (by simp)
  exact nrm_of i1 fun n => by rw [i2, hasR_perm hs, hasR_filter]; simp
def ones (nums : List Int) : List TRun := nums.map fun n => ⟨n, n⟩
end Go.Ep.M.R

namespace Go.Ep.M.C
open Go

def rawC (c : List TPart) (k : Int) : List TRun := (c.filter fun p => decide (p.dev = k) && decide (0 < k)).flatMap (·.runs)
theorem rawC_nil (k : Int) : rawC [] k = [] := rfl
theorem rawC_cons (p : TPart) (c : List TPart) (k : Int) : rawC (p :: c) k = (if p.dev = k ∧ 0 < k then p.runs else []) ++ rawC c k := by
  unfold rawC
  rw [List.filter_cons]
  by_cases h : p.dev = k ∧ 0 < k
  · simp [h.1, h.2]
  · rw [if_neg (by simpa using h), if_neg h]; rfl
def totC (c : List TPart) : Nat := (c.map fun p => p.runs.length).sum
theorem totC_app (a b : List TPart) : totC (a ++ b) = totC a + totC b := by simp [totC]
theorem rawC_len (c : List TPart) (k : Int) : (rawC c k).length ≤ totC c := by
  induction c with
  | nil => simp [rawC]
  | cons p r ih =>
    rw [rawC_cons, List.length_append]
    have : totC (p :: r) = p.runs.length + totC r := by simp [totC]
    split
    · omega
    · simp; omega
theorem sum_zero (ks : List Int) : (ks.map fun _ => 0).sum = 0 := by
  induction ks with
  | nil => rfl
  | cons k r ih => rw [List.map_cons, List.sum_cons, ih]
/-- Over different devices, no more than all. -/
theorem rawC_sum (c : List TPart) (ks : List Int) (h : ks.Nodup) : (ks.map fun k => (rawC c k).length).sum ≤ totC c := by
  induction c with
  | nil => simp only [rawC_nil, List.length_nil, sum_zero]; exact Nat.zero_le _
  | cons p r ih =>
    have e : totC (p :: r) = p.runs.length + totC r := by simp [totC]
    have h1 : (ks.map fun k => (rawC (p :: r) k).length).sum = (ks.map fun k => if p.dev = k ∧ 0 < k then p.runs.length else 0).sum + (ks.map fun k => (rawC r k).length).sum := by
      clear h ih
      induction ks with
      | nil => rfl
      | cons k ks ih2 =>
        simp only [List.map_cons, List.sum_cons, rawC_cons, List.length_append] at ih2 ⊢
        by_cases hc : p.dev = k ∧ 0 < k
        · rw [if_pos hc, if_pos hc]; omega
        · rw [if_neg hc, if_neg hc, List.length_nil]; omega
    have h2 : (ks.map fun k => if p.dev = k ∧ 0 < k then p.runs.length else 0).sum ≤ p.runs.length := by
      clear ih h1 e
      induction ks with
      | nil => simp
      | cons k ks ih2 =>
        obtain ⟨n1, n2⟩ := List.nodup_cons.1 h
        simp only [List.map_cons, List.sum_cons]
        by_cases hk : p.dev = k
        · have h0 : (ks.map fun k => if p.dev = k ∧ 0 < k then p.runs.length else 0).sum = 0 := by
            have : (ks.map fun k => if p.dev = k ∧ 0 < k then p.runs.length else 0) = ks.map fun _ => 0 := by
              refine List.map_congr_left fun q hq => ?_
              rw [if_neg]
              rintro ⟨e, _⟩
              exact n1 (by rw [← hk, e]; exact hq)
            rw [this]; exact sum_zero ks
          rw [h0]
          split <;> omega
        · rw [if_neg (fun h => hk h.1)]
          have := ih2 n2
          omega
    omega

def OrdP (l : List TPart) : Prop := l.Pairwise fun x y => x.dev < y.dev
theorem ordP_ext : ∀ {l l' : List TPart}, OrdP l → OrdP l' → (∀ d, d ∈ l ↔ d ∈ l') → l = l'
  | [], [], _, _, _ => rfl
  | [], y :: r, _, _, h => absurd ((h y).2 (by simp)) (by simp)
  | x :: r, [], _, _, h => absurd ((h x).1 (by simp)) (by simp)
  | x :: r, y :: q, h1, h2, h => by
    obtain ⟨a1, a2⟩ := List.pairwise_cons.1 h1
    obtain ⟨b1, b2⟩ := List.pairwise_cons.1 h2
    have e : x = y := by
      rcases List.mem_cons.1 ((h x).1 (by simp)) with e | hx
      · exact e
      · rcases List.mem_cons.1 ((h y).2 (by simp)) with e | hy
        · exact e.symm
        · have := a1 y hy; have := b1 x hx; omega
    subst e
    congr 1
    refine ordP_ext a2 b2 fun d => ⟨fun hd => ?_, fun hd => ?_⟩
    · rcases List.mem_cons.1 ((h d).1 (List.mem_cons_of_mem _ hd)) with e | hx
      · subst e; have := a1 d hd; omega
      · exact hx
    · rcases List.mem_cons.1 ((h d).2 (List.mem_cons_of_mem _ hd)) with e | hx
      · subst e; have := b1 d hd; omega
      · exact hx
def partsOf (f : Int → List TRun) (ks : List Int) : List TPart := ks.filterMap fun k => if f k = [] then none else some ⟨k, f k⟩
theorem mem_partsOf {f : Int → List TRun} {ks : List Int} {p : TPart} : p ∈ partsOf f ks ↔ p.dev ∈ ks ∧ p.runs ≠ [] ∧ p.runs = f p.dev := by
  unfold partsOf
  rw [List.mem_filterMap]
  constructor
  · rintro ⟨k, hk, h⟩
    split at h
    · cases h
    · rename_i h0; cases h; exact ⟨hk, h0, rfl⟩
  · rintro ⟨h1, h2, h3⟩
    refine ⟨p.dev, h1, ?_⟩
    rw [if_neg (by rw [← h3]; exact h2), ← h3]
theorem ord_partsOf {f : Int → List TRun} {ks : List Int} (h : ks.Pairwise (· < ·)) : OrdP (partsOf f ks) := by
  unfold OrdP partsOf
  rw [List.pairwise_filterMap]
  refine h.imp fun {a b} hab x hx y hy => ?_
  split at hx
  · cases hx
  · split at hy
    · cases hy
    · cases hx; cases hy; exact hab
theorem len_partsOf (f : Int → List TRun) (ks : List Int) : (partsOf f ks).length ≤ ks.length := List.length_filterMap_le _ _
theorem tot_partsOf (f : Int → List TRun) (ks : List Int) : totC (partsOf f ks) = (ks.map fun k => (f k).length).sum := by
  induction ks with
  | nil => rfl
  | cons k ks ih =>
    have : partsOf f (k :: ks) = (if f k = [] then [] else [⟨k, f k⟩]) ++ partsOf f ks := by
      unfold partsOf
      by_cases h : f k = [] <;> simp [h]
    rw [this, totC_app, ih]
    by_cases h : f k = [] <;> simp [h, totC]
def dstep (l : List Int) (p : TPart) : List Int := if 0 < p.dev then V.insI l p.dev else l
def devsC (c : List TPart) : List Int := c.foldl dstep []
theorem devs_gen (c : List TPart) : ∀ l : List Int, l.Pairwise (· < ·) → (c.foldl dstep l).Pairwise (· < ·) ∧ (∀ k, k ∈ c.foldl dstep l ↔ k ∈ l ∨ ∃ p ∈ c, p.dev = k ∧ 0 < k) ∧ (c.foldl dstep l).length ≤ l.length + c.length := by
  induction c with
  | nil => intro l h; simp [h]
  | cons p r ih =>
    intro l h
    rw [List.foldl_cons]
    by_cases hp : 0 < p.dev
    · have e : dstep l p = V.insI l p.dev := by simp [dstep, hp]
      rw [e]
      obtain ⟨h1, h2, h3⟩ := ih _ (V.insI_sorted h p.dev)
      refine ⟨h1, fun k => ?_, by have := V.len_insI l p.dev; simp; omega⟩
      rw [h2, V.mem_insI]
      constructor
      · rintro ((rfl | h4) | ⟨x, h4, h5⟩)
        · exact .inr ⟨p, by simp, rfl, hp⟩
        · exact .inl h4
        · exact .inr ⟨x, by simp [h4], h5⟩
      · rintro (h4 | ⟨x, h4, h5, h6⟩)
        · exact .inl (.inr h4)
        · rcases List.mem_cons.1 h4 with rfl | h4
          · exact .inl (.inl h5.symm)
          · exact .inr ⟨x, h4, h5, h6⟩
    · have e : dstep l p = l := by simp [dstep, hp]
      rw [e]
      obtain ⟨h1, h2, h3⟩ := ih _ h
      refine ⟨h1, fun k => ?_, by simp; omega⟩
      rw [h2]
      constructor
      · rintro (h4 | ⟨x, h4, h5⟩)
        · exact .inl h4
        · exact .inr ⟨x, by simp [h4], h5⟩
      · rintro (h4 | ⟨x, h4, h5, h6⟩)
        · exact .inl h4
        · rcases List.mem_cons.1 h4 with rfl | h4
          · rw [h5] at hp; exact absurd h6 hp
          · exact .inr ⟨x, h4, h5, h6⟩
theorem devs_sorted (c : List TPart) : (devsC c).Pairwise (· < ·) := (devs_gen c [] List.Pairwise.nil).1
theorem sorted_nodup {l : List Int} (h : l.Pairwise (· < ·)) : l.Nodup := h.imp fun {a b} h e => by omega
theorem devs_nodup (c : List TPart) : (devsC c).Nodup := sorted_nodup (devs_sorted c)
theorem mem_devs {c : List TPart} {k : Int} : k ∈ devsC c ↔ (∃ p ∈ c, p.dev = k) ∧ 0 < k := by
  have := (devs_gen c [] List.Pairwise.nil).2.1 k
  unfold devsC
  rw [this]
  simp only [List.not_mem_nil, false_or]
  constructor
  · rintro ⟨p, h1, h2, h3⟩; exact ⟨⟨p, h1, h2⟩, h3⟩
  · rintro ⟨⟨p, h1, h2⟩, h3⟩; exact ⟨p, h1, h2, h3⟩
theorem len_devs (c : List TPart) : (devsC c).length ≤ c.length := by simpa [devsC] using (devs_gen c [] List.Pairwise.nil).2.2
def normC (c : List TPart) : List TPart := partsOf (fun k => R.nrm (rawC c k)) (devsC c)
theorem setR_nil {op : Bool → Bool → Bool} (h0 : op false false = false) : R.setR op [] [] = [] := by
  have := R.setR_props op h0 [] []
  exact R.nf_ext this.1 trivial fun n => by rw [this.2.1]; exact h0
theorem nrm_nil : R.nrm [] = [] := setR_nil rfl
/-- In order. -/
structure Canon (c : List TPart) : Prop where
  ord : OrdP c
  nf : ∀ p ∈ c, 0 < p.dev ∧ p.runs ≠ [] ∧ R.Nf p.runs
theorem canon_parts {f : Int → List TRun} {c : List TPart} (h : ∀ k, R.Nf (f k)) : Canon (partsOf f (devsC c)) := ⟨ord_partsOf (devs_sorted c), fun p hp => by
  obtain ⟨h1, h2, h3⟩ := mem_partsOf.1 hp
  exact ⟨(mem_devs.1 h1).2, h2, by rw [h3]; exact h _⟩⟩
theorem canon_norm (c : List TPart) : Canon (normC c) := canon_parts fun _ => R.nrm_nf _
theorem ordP_raw : ∀ {c : List TPart}, OrdP c → ∀ p ∈ c, 0 < p.dev → rawC c p.dev = p.runs
  | [], _, p, hp, _ => by simp at hp
  | q :: r, h, p, hp, h0 => by
    obtain ⟨h1, h2⟩ := List.pairwise_cons.1 h
    rw [rawC_cons]
    rcases List.mem_cons.1 hp with rfl | hp
    · rw [if_pos ⟨rfl, h0⟩]
      have : rawC r p.dev = [] := by
        unfold rawC
        have : (r.filter fun x => decide (x.dev = p.dev) && decide (0 < p.dev)) = [] := by
          rw [List.filter_eq_nil_iff]
          intro x hx
          have := h1 x hx
          simp; omega
        rw [this]; rfl
      rw [this, List.append_nil]
    · have := h1 p hp
      rw [if_neg (by omega), ordP_raw h2 p hp h0]; rfl
theorem Canon.eq_norm {c : List TPart} (h : Canon c) : c = normC c := by
  refine ordP_ext h.ord (canon_norm c).ord fun p => ?_
  unfold normC
  rw [mem_partsOf]
  constructor
  · intro hp
    obtain ⟨h1, h2, h3⟩ := h.nf p hp
    exact ⟨mem_devs.2 ⟨⟨p, hp, rfl⟩, h1⟩, h2, by rw [ordP_raw h.ord p hp h1, R.nrm_self h3]⟩
  · rintro ⟨h1, h2, h3⟩
    obtain ⟨⟨q, hq, hd⟩, h0⟩ := mem_devs.1 h1
    obtain ⟨g1, g2, g3⟩ := h.nf q hq
    have e : rawC c p.dev = q.runs := by rw [← hd]; exact ordP_raw h.ord q hq g1
    rw [e, R.nrm_self g3] at h3
    have : p = q := by cases p; cases q; simp_all
    rw [this]; exact hq
theorem len_normC (c : List TPart) : (normC c).length ≤ c.length := Nat.le_trans (len_partsOf _ _) (len_devs c)
theorem sum_le {ks : List Int} {f g : Int → Nat} (h : ∀ k, f k ≤ g k) : (ks.map f).sum ≤ (ks.map g).sum := by
  induction ks with
  | nil => simp
  | cons k r ih => have := h k; simp; omega
theorem sum_two (ks : List Int) (f g : Int → Nat) : (ks.map fun k => 2 * (f k + g k)).sum = 2 * ((ks.map f).sum + (ks.map g).sum) := by
  induction ks with
  | nil => rfl
  | cons k r ih => simp; omega
theorem tot_normC (c : List TPart) : totC (normC c) ≤ 2 * totC c := by
  unfold normC
  rw [tot_partsOf]
  refine Nat.le_trans (sum_le (g := fun k => 2 * ((rawC c k).length + 0)) fun k => by have := R.nrm_len (rawC c k); omega) ?_
  rw [sum_two]
  have h1 := rawC_sum c (devsC c) (devs_nodup _)
  have h2 := sum_zero (devsC c)
  omega


theorem get_grow (l : List (Int × List TRun)) : ∀ (m : List (Int × List TRun)) (k : Int), AL.getZ (AL.grow m l) k [] = AL.getZ m k [] ++ (l.filter fun x => decide (x.1 = k)).flatMap (·.2) := by
  induction l with
  | nil => intro m k; simp [AL.grow]
  | cons x r ih =>
    intro m k
    show AL.getZ (AL.grow (AL.set m x.1 (AL.getZ m x.1 [] ++ x.2)) r) k [] = _
    rw [ih, AL.getZ_set, List.filter_cons]
    by_cases h : x.1 = k
    · subst h; simp
    · simp [h]
theorem nodup_grow (l : List (Int × List TRun)) : ∀ m : List (Int × List TRun), (m.map (·.1)).Nodup → ((AL.grow m l).map (·.1)).Nodup := by
  induction l with
  | nil => intro m h; exact h
  | cons x r ih => intro m h; exact ih _ (AL.nodup_set h _ _)
theorem len_grow (l : List (Int × List TRun)) : ∀ m : List (Int × List TRun), (AL.grow m l).length ≤ m.length + l.length := by
  induction l with
  | nil => intro m; exact Nat.le_refl _
  | cons x r ih =>
    intro m
    have h1 := ih (AL.set m x.1 (AL.getZ m x.1 [] ++ x.2))
    have h2 := AL.len_set m x.1 (AL.getZ m x.1 [] ++ x.2)
    show (AL.grow (AL.set m x.1 (AL.getZ m x.1 [] ++ x.2)) r).length ≤ _
    simp only [List.length_cons]
    omega
theorem key_grow (l : List (Int × List TRun)) : ∀ (m : List (Int × List TRun)) (k : Int), k ∈ (AL.grow m l).map (·.1) → k ∈ m.map (·.1) ∨ ∃ x ∈ l, x.1 = k := by
  induction l with
  | nil => intro m k h; exact .inl h
  | cons x r ih =>
    intro m k h
    rcases ih _ k h with h | ⟨y, hy, e⟩
    · rw [AL.keys_set] at h
      split at h
      · exact .inl h
      · rcases List.mem_append.1 h with h | h
        · exact .inl h
        · exact .inr ⟨x, by simp, (List.mem_singleton.1 h).symm⟩
    · exact .inr ⟨y, by simp [hy], e⟩
def toldM (c : List TPart) : List (Int × List TRun) := AL.grow [] (c.filterMap ctx_toldF)
theorem told_get (c : List TPart) (k : Int) : AL.getZ (toldM c) k [] = rawC c k := by
  unfold toldM
  rw [get_grow]
  show [] ++ _ = _
  rw [List.nil_append]
  induction c with
  | nil => rfl
  | cons p r ih =>
    rw [rawC_cons, ← ih, List.filterMap_cons]
    by_cases h0 : 0 < p.dev
    · have e : ctx_toldF p = some (p.dev, p.runs) := by simp [ctx_toldF, h0]
      rw [e]
      simp only [List.filter_cons]
      by_cases h : p.dev = k
      · subst h; simp [h0]
      · simp [h]
    · have e : ctx_toldF p = none := by simp [ctx_toldF, h0]
      rw [e, if_neg (by rintro ⟨h1, h2⟩; omega)]; rfl
theorem told_nodup (c : List TPart) : ((toldM c).map (·.1)).Nodup := nodup_grow _ _ (by simp)
theorem told_len (c : List TPart) : (toldM c).length ≤ c.length := by
  have h1 := len_grow (c.filterMap ctx_toldF) []
  have h2 := List.length_filterMap_le ctx_toldF c
  unfold toldM
  simp at h1
  omega
theorem told_pos {c : List TPart} {k : Int} (h : k ∈ (toldM c).map (·.1)) : 0 < k ∧ k ∈ devsC c := by
  rcases key_grow _ _ _ h with h | ⟨x, hx, rfl⟩
  · simp at h
  · rw [List.mem_filterMap] at hx
    obtain ⟨p, hp, hx⟩ := hx
    unfold ctx_toldF at hx
    split at hx
    · rename_i h0; cases hx; exact ⟨h0, mem_devs.2 ⟨⟨p, hp, rfl⟩, h0⟩⟩
    · cases hx
theorem told_mem {c : List TPart} {e : Int × List TRun} (h : e ∈ toldM c) : e.2 = rawC c e.1 ∧ 0 < e.1 ∧ e.1 ∈ devsC c := by
  have h1 := AL.mem_get (told_nodup c) (k := e.1) (v := e.2) h
  have h2 := told_get c e.1
  unfold AL.getZ at h2
  rw [h1] at h2
  exact ⟨h2, told_pos (List.mem_map.2 ⟨e, h, rfl⟩)⟩
theorem told_at {c : List TPart} {k : Int} (h : rawC c k ≠ []) : (k, rawC c k) ∈ toldM c := by
  have h2 := told_get c k
  unfold AL.getZ at h2
  cases hg : AL.get (toldM c) k with
  | none => rw [hg] at h2; exact absurd h2.symm h
  | some v => rw [hg] at h2; simp only [Option.getD_some] at h2; subst h2; exact AL.get_mem hg
theorem tot_told (c : List TPart) : ((c.filterMap ctx_toldF).map fun x => x.2.length).sum ≤ totC c := by
  induction c with
  | nil => simp
  | cons p r ih =>
    have e : totC (p :: r) = p.runs.length + totC r := by simp [totC]
    rw [List.filterMap_cons]
    by_cases h0 : 0 < p.dev
    · have e2 : ctx_toldF p = some (p.dev, p.runs) := by simp [ctx_toldF, h0]
      rw [e2]; simp only [List.map_cons, List.sum_cons]; omega
    · have e2 : ctx_toldF p = none := by simp [ctx_toldF, h0]
      rw [e2]; simp only; omega
/-- Small enough. -/
def Sm (c : List TPart) : Prop := c.length ≤ 10000000000 ∧ totC c ≤ 10000000000
theorem told_eq (c : List TPart) (h : Sm c) : ctx_told c = pure (toldM c) := by
  unfold ctx_told
  rw [need_true]
  · rfl
  · have := tot_told c
    refine ⟨by have := h.1; omega, ?_⟩
    have := h.2
    omega
theorem order_eq (m : List (Int × List TRun)) (f : Int → List TRun) (ks : List Int) (hl : m.length ≤ 1000000000000) (hr : ∀ e ∈ m, e.2.length ≤ 1000000000000) (hn : (m.map (·.1)).Nodup) (hs : ks.Pairwise (· < ·)) (h1 : ∀ e ∈ m, R.nrm e.2 ≠ [] → e.1 ∈ ks ∧ R.nrm e.2 = f e.1) (h2 : ∀ k ∈ ks, f k ≠ [] → ∃ r, (k, r) ∈ m ∧ R.nrm r = f k) : ctx_order m = pure (partsOf f ks) := by
  unfold ctx_order
  have hall : ∀ Q : List TPart → Prop, (∀ l : List (Int × List TRun), l.Perm m → Q ((l.filter fun e => decide (R.nrm e.2 ≠ [])).map fun e => (⟨e.1, R.nrm e.2⟩ : TPart))) → (loop (ctx_order_l0 m) ([], ([] : List TPart))).wp Q := by
    intro Q hQ
    refine M.loopM (body := ctx_order_l0 m) m (fun L (t : List TPart) => (L, t)) (fun t e => (runs_Norm e.2).det.bind fun v => if 0 < v.length then need ((t.length + 1) * 32 ≤ 140737488355328) (pure (t ++ [(⟨e.1, v⟩ : TPart)])) else pure t) (fun t => pure t)
      (fun l t => t = ((l.filter fun e => decide (R.nrm e.2 ≠ [])).map fun e => (⟨e.1, R.nrm e.2⟩ : TPart))) Q (fun L t hL => ?_) (fun l t y ht hlen hy => ?_) (fun l t hp ht => ?_) [] rfl
    · unfold ctx_order_l0
      show need _ ((nxt _ _).bind _) = need _ ((nxt _ _).bind _)
      refine congrArg (fun k => need _ ((nxt _ _).bind k)) (funext fun o => ?_)
      cases o with
      | none => rfl
      | some i =>
        refine congrArg (fun k => (idx m (Int.ofNat i)).bind k) (funext fun y => ?_)
        rw [bind_assoc]
        refine congrArg (fun k => (runs_Norm y.2).det.bind k) (funext fun v => ?_)
        rw [cond_dec]
        by_cases h : 0 < v.length
        · rw [if_pos (by omega), if_pos h]; rfl
        · rw [if_neg (by omega), if_neg h]; rfl
    · have hle := List.length_filter_le (fun e : Int × List TRun => decide (R.nrm e.2 ≠ [])) l
      have htl : t.length ≤ l.length := by rw [ht, List.length_map]; exact hle
      rw [R.norm_eq y.2 (hr y hy), det_pure, pure_bind]
      refine ⟨if R.nrm y.2 = [] then t else t ++ [⟨y.1, R.nrm y.2⟩], ?_, ?_⟩
      · by_cases h : R.nrm y.2 = []
        · rw [if_neg (by rw [h]; simp), if_pos h]
        · rw [if_pos (by rw [List.length_pos_iff]; exact h), if_neg h, need_true (by omega)]
      · subst ht
        rw [List.filter_append, List.map_append]
        by_cases h : R.nrm y.2 = [] <;> simp [h]
    · subst ht; exact hQ l hp
  refine eq_pure (hall _ fun l hp => ?_)
  show (need _ _).wp _
  have hll := hp.length_eq
  have hle := List.length_filter_le (fun e : Int × List TRun => decide (R.nrm e.2 ≠ [])) l
  have hmem : ∀ d : TPart, d ∈ ((l.filter fun e => decide (R.nrm e.2 ≠ [])).map fun e => (⟨e.1, R.nrm e.2⟩ : TPart)) ↔ d ∈ partsOf f ks := by
    intro d
    rw [mem_partsOf, List.mem_map]
    constructor
    · rintro ⟨e, he, rfl⟩
      rw [List.mem_filter, hp.mem_iff] at he
      have h0 : R.nrm e.2 ≠ [] := by simpa using he.2
      obtain ⟨h3, h4⟩ := h1 e he.1 h0
      exact ⟨h3, h0, h4⟩
    · rintro ⟨h3, h4, h5⟩
      obtain ⟨r, h6, h7⟩ := h2 d.dev h3 (by rw [← h5]; exact h4)
      refine ⟨(d.dev, r), ?_, by show (⟨d.dev, R.nrm r⟩ : TPart) = d; rw [h7, ← h5]⟩
      rw [List.mem_filter, hp.mem_iff]
      refine ⟨h6, ?_⟩
      simp only [decide_eq_true_eq]
      rw [h7, ← h5]; exact h4
  have hnd : ((l.filter fun e => decide (R.nrm e.2 ≠ [])).map fun e => (⟨e.1, R.nrm e.2⟩ : TPart)).Pairwise (fun x y => x.dev ≠ y.dev) := by
    rw [List.pairwise_map]
    have : l.Pairwise (fun x y => x.1 ≠ y.1) := by
      have := (hp.map (·.1)).nodup_iff.2 hn
      exact List.pairwise_map.1 this
    exact (this.filter _)
  refine ⟨by simp only [List.length_map]; omega, ⟨?_, fun l' ⟨hp', hs'⟩ => ?_⟩⟩
  · refine ⟨partsOf f ks, ?_, ?_⟩
    · refine (List.perm_ext_iff_of_nodup ?_ ?_).2 fun d => (hmem d).symm
      · exact (ord_partsOf hs).imp fun {a b} h e => by subst e; omega
      · exact hnd.imp fun {a b} h e => by subst e; exact h rfl
    · exact (ord_partsOf hs).imp fun {a b} h => by simp [ltPart]; omega
  · show l' = _
    refine ordP_ext ?_ (ord_partsOf hs) fun d => by rw [hp'.mem_iff]; exact hmem d
    have hnd' := (hp'.pairwise_iff (fun {a b} h => Ne.symm h)).2 hnd
    exact (hs'.and hnd').imp fun {a b} ⟨h3, h4⟩ => by simp [ltPart] at h3; omega
theorem order_told (c : List TPart) (h : Sm c) : ctx_order (toldM c) = pure (normC c) := by
  refine order_eq _ _ _ (by have := told_len c; have := h.1; omega) (fun e he => ?_) (told_nodup c) (devs_sorted c) (fun e he h0 => ?_) (fun k hk h0 => ?_)
  · rw [(told_mem he).1]; have := rawC_len c e.1; have := h.2; omega
  · obtain ⟨h1, h2, h3⟩ := told_mem he
    exact ⟨h3, by rw [h1]⟩
  · exact ⟨_, told_at (fun e => h0 (by rw [e]; exact nrm_nil)), rfl⟩
theorem Norm_eq (c : List TPart) (h : Sm c) : ctx_Norm c = pure (normC c) := by
  unfold ctx_Norm
  rw [told_eq c h, det_pure, pure_bind, order_told c h, det_pure, pure_bind]
theorem partEq (x y : TPart) : (decide (x.dev = y.dev) && decide (x.runs = y.runs)) = decide (x = y) := by
  rw [Bool.eq_iff_iff]
  cases x; cases y
  simp
theorem eqP_eq (a b : List TPart) (ha : a.length ≤ 1000000000000) (hr : ∀ p ∈ a, p.runs.length ≤ 1000000000000) : slices_EqualFunc_Ctx_Ctx_Part_Part_ctx_eq_c1 a b = pure (decide (a = b)) := by
  unfold slices_EqualFunc_Ctx_Ctx_Part_Part_ctx_eq_c1
  by_cases hl : (a.length : Int) = b.length
  · simp only [hl, decide_true, Bool.not_true, cond_false]
    have := loopAll (body := slices_EqualFunc_Ctx_Ctx_Part_Part_ctx_eq_c1_l0 a b) a (fun i => (i : Int)) (fun i x => decide (b[i]? = some x)) (.brk ()) (.ret false) (fun i x hx hi => by
      have hb : i < b.length := by omega
      have hby := List.getElem?_eq_getElem hb
      unfold slices_EqualFunc_Ctx_Ctx_Part_Part_ctx_eq_c1_l0 ctx_eq_c1
      have h1 : decide ((i : Int) < (a.length : Int)) = true := by simpa using hi
      simp only [h1, cond_true, idx_nat hx, idx_nat hby, pure_bind, R.seq_eq x.runs _ (hr x (List.mem_of_getElem? hx)), det_pure, cond_pure_and, partEq, wSucc (show i < 9223372036854775807 by omega)]
      rw [hby]
      by_cases hxy : x = b[i] <;> simp [hxy, eq_comm, pure_bind]) (by unfold slices_EqualFunc_Ctx_Ctx_Part_Part_ctx_eq_c1_l0; simp)
    rw [show (0 : Int) = ((0 : Nat) : Int) from rfl, this]
    have hiff : (a.zipIdx.all fun y => decide (b[y.2]? = some y.1)) = decide (a = b) := by
      rw [Bool.eq_iff_iff, List.all_eq_true, decide_eq_true_eq]
      constructor
      · intro h
        apply List.ext_getElem?
        intro i
        by_cases hi : i < a.length
        · have := h (a[i], i) (by rw [List.mem_zipIdx_iff_getElem?]; exact List.getElem?_eq_getElem hi)
          simp only [decide_eq_true_eq] at this
          rw [this, List.getElem?_eq_getElem hi]
        · rw [List.getElem?_eq_none (by omega), List.getElem?_eq_none (by omega)]
      · rintro rfl y hy
        rw [List.mem_zipIdx_iff_getElem?] at hy
        simpa using hy
    rw [hiff]
    by_cases h : a = b <;> simp [h, exk, pure_bind]
  · have : ¬ a = b := fun e => hl (by rw [e])
    simp [hl, this]
theorem eq_eq (a b : List TPart) (ha : a.length ≤ 1000000000000) (hr : ∀ p ∈ a, p.runs.length ≤ 1000000000000) : ctx_eq a b = pure (decide (a = b)) := by
  unfold ctx_eq
  rw [eqP_eq a b ha hr, det_pure, pure_bind]
theorem run_le {c : List TPart} : ∀ p ∈ c, p.runs.length ≤ totC c := by
  induction c with
  | nil => intro p hp; simp at hp
  | cons q r ih =>
    intro p hp
    have e : totC (q :: r) = q.runs.length + totC r := by simp [totC]
    rcases List.mem_cons.1 hp with rfl | hp
    · omega
    · have := ih p hp; omega
theorem Good_eq (c : List TPart) (h : Sm c) : ctx_Good c = pure (decide (c = normC c)) := by
  unfold ctx_Good
  rw [Norm_eq c h, det_pure, pure_bind, eq_eq _ _ (by have := h.1; omega) (fun p hp => by have := run_le p hp; have := h.2; omega), det_pure, pure_bind]


/-- Small, and of devices. -/
structure Ok (c : List TPart) : Prop where
  dev : ∀ p ∈ c, 0 ≤ p.dev
  len : c.length ≤ 1000000000
  tot : totC c ≤ 1000000000
theorem Ok.sm {c : List TPart} (h : Ok c) : Sm c := ⟨by have := h.len; omega, by have := h.tot; omega⟩
section
variable (a b : List TPart) (ha : Ok a) (hb : Ok b)
include ha hb
end
theorem ok_nil : Ok [] := ⟨fun p h => by simp at h, by simp, by simp [totC]⟩
end Go.Ep.M.C

namespace Go.Ep.M.N
open Go

theorem wU8_mod (n : Int) : IntKind.u8.wrap n = n % 256 := by simp [IntKind.wrap, IntKind.bits, IntKind.signed]
def lenN (n : Nat) : Nat := if n = 0 then 0 else lenN (n / 256) + 1
theorem lenN_zero : lenN 0 = 0 := by rw [lenN]; rfl
theorem lenN_pos {n : Nat} (h : n ≠ 0) : lenN n = lenN (n / 256) + 1 := by rw [lenN, if_neg h]
theorem lenN_le : ∀ (k n : Nat), n < 256 ^ k → lenN n ≤ k
  | 0, n, h => by
    have : n = 0 := by simpa using h
    rw [this, lenN_zero]; exact Nat.le_refl _
  | k + 1, n, h => by
    by_cases h0 : n = 0
    · rw [h0, lenN_zero]; omega
    · rw [lenN_pos h0]
      have := lenN_le k (n / 256) (by rw [Nat.pow_succ] at h; omega)
      omega
theorem lt_lenN : ∀ (n : Nat), n < 256 ^ lenN n := by
  intro n
  induction n using Nat.strongRecOn with
  | _ n ih =>
    by_cases h0 : n = 0
    · rw [h0, lenN_zero]; decide
    · rw [lenN_pos h0, Nat.pow_succ]
      have := ih (n / 256) (by omega)
      omega
theorem lenN_ge : ∀ (k n : Nat), 256 ^ k ≤ n → k + 1 ≤ lenN n
  | 0, n, h => by
    have : n ≠ 0 := by intro h0; rw [h0] at h; simp at h
    rw [lenN_pos this]; omega
  | k + 1, n, h => by
    have hp : 0 < 256 ^ k := Nat.pow_pos (by decide)
    rw [Nat.pow_succ] at h
    have : n ≠ 0 := by omega
    rw [lenN_pos this]
    have := lenN_ge k (n / 256) (by omega)
    omega
theorem lenN_8 {n : Nat} (h : n < 18446744073709551616) : lenN n ≤ 8 := lenN_le 8 n (by simpa using h)

theorem fdiv256 (n : Nat) : Int.fdiv (n : Int) (2 ^ 8) = ((n / 256 : Nat) : Int) := by
  rw [Int.fdiv_eq_ediv_of_nonneg _ (by decide)]
  have : (2 ^ 8 : Int) = 256 := rfl
  rw [this]; omega
theorem len_loop : ∀ (n k : Nat), k + lenN n ≤ 1000 → loop shift_Len_l0 ((n : Int), (k : Int)) = pure (((k + lenN n : Nat)) : Int) := by
  intro n
  induction n using Nat.strongRecOn with
  | _ n ih =>
    intro k hk
    by_cases h0 : n = 0
    · subst h0
      rw [lenN_zero, Nat.add_zero]
      exact loop_done (by unfold shift_Len_l0; simp)
    · rw [lenN_pos h0] at hk ⊢
      rw [loop_next (s' := (((n / 256 : Nat) : Int), ((k + 1 : Nat) : Int))) (by
        unfold shift_Len_l0
        have : decide ((0 : Int) < (n : Int)) = true := by simp; omega
        simp only [this, cond_true, fdiv256, wSucc (show k < 9223372036854775807 by omega)]), ih (n / 256) (by omega) (k + 1) (by omega)]
      congr 2; omega
theorem Len_eq {v : Int} (h0 : 0 ≤ v) (h : v ≤ 18446744073709551615) : shift_Len v = pure (lenN v.toNat : Int) := by
  obtain ⟨n, rfl⟩ := Int.eq_ofNat_of_zero_le h0
  unfold shift_Len
  have := len_loop n 0 (by have := lenN_8 (n := n) (by omega); omega)
  rw [show (0 : Int) = ((0 : Nat) : Int) from rfl, this, pure_bind, Nat.zero_add, Int.toNat_natCast]
def byteAt (n i : Nat) : Int := ((n / 256 ^ i % 256 : Nat) : Int)
theorem Byte_eq (n i : Nat) (hi : i ≤ 7) : shift_Byte (n : Int) (i : Int) = pure (byteAt n i) := by
  have h8 : i = 0 ∨ i = 1 ∨ i = 2 ∨ i = 3 ∨ i = 4 ∨ i = 5 ∨ i = 6 ∨ i = 7 := by omega
  unfold shift_Byte byteAt
  rw [wU64 (show (0 : Int) ≤ (i : Int) by omega) (by omega), wU64 (show (0 : Int) ≤ 8 * (i : Int) by omega) (by omega)]
  have hd : decide ((7 : Int) < (i : Int)) = false := by simp; omega
  simp only [hd, cond_false]
  rw [need_true (by omega), wU8_mod, Int.fdiv_eq_ediv_of_nonneg _ (by exact Int.le_of_lt (Int.pow_pos (by decide)))]
  congr 1
  have e : (2 : Int) ^ min (8 * (i : Int)).toNat 64 = ((256 ^ i : Nat) : Int) := by
    rcases h8 with rfl | rfl | rfl | rfl | rfl | rfl | rfl | rfl <;> rfl
  rw [e]
  exact (by rw [Int.natCast_emod, Int.natCast_ediv]; rfl)
def be (n : Nat) : Nat → List Int
  | 0 => []
  | k + 1 => byteAt n k :: be n k
theorem be_len (n : Nat) : ∀ k, (be n k).length = k
  | 0 => rfl
  | k + 1 => by simp [be, be_len n k]
def encN (n : Nat) : List Int := (lenN n : Int) :: be n (lenN n)
def encI (v : Int) : List Int := encN v.toNat
theorem encI_len {v : Int} (h : v ≤ 18446744073709551615) : (encI v).length ≤ 9 := by
  have := lenN_8 (n := v.toNat) (by omega)
  simp [encI, encN, be_len]; omega
theorem app_loop (n : Nat) : ∀ (k : Nat) (out : List Int), k ≤ 8 → out.length + k ≤ 100000000000000 → loop (num_Append_l0 (n : Int)) ((k : Int) - 1, out) = pure (out ++ be n k)
  | 0, out, _, _ => by
    rw [be, List.append_nil]
    exact loop_done (by unfold num_Append_l0; simp)
  | k + 1, out, hk, ho => by
    have e : ((k + 1 : Nat) : Int) - 1 = (k : Int) := by omega
    rw [e, loop_next (s' := ((k : Int) - 1, out ++ [byteAt n k])) (by
      unfold num_Append_l0
      have h1 : decide ((0 : Int) ≤ (k : Int)) = true := by simp
      simp only [h1, cond_true, Byte_eq n k (by omega), det_pure, pure_bind]
      rw [need_true (by simp; omega), wI64 (by omega) (by omega)]), app_loop n k _ (by omega) (by simp; omega), be, List.append_assoc]
    rfl
theorem Append_eq (b : List Int) {v : Int} (h0 : 0 ≤ v) (h : v ≤ 18446744073709551615) (hb : b.length ≤ 10000000000000) : num_Append b v = pure (b ++ encI v) := by
  have h8 := lenN_8 (n := v.toNat) (by omega)
  unfold num_Append
  rw [Len_eq h0 h, det_pure, pure_bind, wI64 (show -9223372036854775808 ≤ (b.length : Int) + (lenN v.toNat : Int) by omega) (by omega), wI64 (by omega) (by omega), need_true (by omega), need_true (by simp; omega), need_true (by simp; omega), wU8 (by omega) (by omega), wI64 (by omega) (by omega)]
  have := app_loop v.toNat (lenN v.toNat) (([] : List Int) ++ b ++ [(lenN v.toNat : Int)]) h8 (by simp; omega)
  rw [show ((v.toNat : Nat) : Int) = v by omega] at this
  rw [this, pure_bind]
  simp [encI, encN]
def By (l : List Int) : Prop := ∀ x ∈ l, 0 ≤ x ∧ x ≤ 255
theorem By.drop {l : List Int} (h : By l) (n : Nat) : By (l.drop n) := fun x hx => h x (List.mem_of_mem_drop hx)
theorem By.take {l : List Int} (h : By l) (n : Nat) : By (l.take n) := fun x hx => h x (List.mem_of_mem_take hx)
theorem By.app {a b : List Int} (ha : By a) (hb : By b) : By (a ++ b) := fun x hx => (List.mem_append.1 hx).elim (ha x) (hb x)
theorem By.nil : By [] := fun x hx => by cases hx
def valB (l : List Int) : Int := l.foldl (fun v x => v * 256 + x) 0
theorem val_gen : ∀ (l : List Int) (v k : Nat), By l → v < 256 ^ k → ∃ n : Nat, l.foldl (fun v x => v * 256 + x) (v : Int) = (n : Int) ∧ n < 256 ^ (k + l.length) ∧ v * 256 ^ l.length ≤ n
  | [], v, k, _, hv => ⟨v, rfl, by simpa using hv, by simp⟩
  | x :: r, v, k, hb, hv => by
    have hx := hb x (by simp)
    obtain ⟨n, h1, h2, h3⟩ := val_gen r (v * 256 + x.toNat) (k + 1) (fun y hy => hb y (by simp [hy])) (by rw [Nat.pow_succ]; omega)
    refine ⟨n, ?_, by rw [show k + (x :: r).length = k + 1 + r.length by simp; omega]; exact h2, ?_⟩
    · rw [List.foldl_cons, ← h1]
      congr 1; omega
    · refine Nat.le_trans ?_ h3
      rw [List.length_cons, Nat.pow_succ]
      have : v * (256 ^ r.length * 256) = v * 256 * 256 ^ r.length := by rw [Nat.mul_comm (256 ^ r.length), Nat.mul_assoc]
      rw [this]
      exact Nat.mul_le_mul_right _ (by omega)
theorem val_range {l : List Int} (h : By l) (h8 : l.length ≤ 8) : 0 ≤ valB l ∧ valB l ≤ 18446744073709551615 := by
  obtain ⟨n, h1, h2, _⟩ := val_gen l 0 0 h (by decide)
  have h3 : 256 ^ (0 + l.length) ≤ 256 ^ 8 := Nat.pow_le_pow_right (by decide) (by omega)
  have h4 : (256 : Nat) ^ 8 = 18446744073709551616 := by decide
  rw [valB, show (0 : Int) = ((0 : Nat) : Int) from rfl, h1]
  omega
theorem bor_eq {v : Nat} {x : Int} (hv : v < 72057594037927936) (hx : 0 ≤ x ∧ x ≤ 255) : bOr .u64 (IntKind.u64.wrap ((v : Int) * 2 ^ 8)) (IntKind.u64.wrap x) = (v : Int) * 256 + x := by
  obtain ⟨y, rfl⟩ := Int.eq_ofNat_of_zero_le hx.1
  have e : ((v : Int) * 2 ^ 8) = ((2 ^ 8 * v : Nat) : Int) := by
    have : (2 ^ 8 : Int) = 256 := rfl
    have : (2 ^ 8 : Nat) = 256 := rfl
    omega
  have hb : 2 ^ 8 * v + y < 18446744073709551616 := by
    have : (2 ^ 8 : Nat) = 256 := rfl
    omega
  rw [e, wU64 (by omega) (by omega), wU64 (by omega) (by omega)]
  unfold bOr
  have bv : ∀ q : Nat, q < 18446744073709551616 → (BitVec.ofInt IntKind.u64.bits (q : Int)).toNat = q := fun q hq => by
    show (BitVec.ofInt 64 (q : Int)).toNat = q
    rw [BitVec.toNat_ofInt]; omega
  rw [BitVec.toNat_or, bv _ (by omega), bv _ (by omega), ← Nat.two_pow_add_eq_or_of_lt (show y < 2 ^ 8 by have : (2 ^ 8 : Nat) = 256 := rfl; omega) v, wU64 (by omega) (by omega)]
  have : (2 ^ 8 : Nat) = 256 := rfl
  omega

def rdN : List Int → Int × Nat × Int
  | [] => (0, 0, 2)
  | n :: r => if 8 < n ∨ (0 < n ∧ r.head? = some 0) then (0, 0, 4) else if (r.length : Int) < n then (0, 0, 2) else (valB (r.take n.toNat), n.toNat + 1, 0)
theorem rdN_cons (n : Int) (r : List Int) : rdN (n :: r) = if 8 < n ∨ (0 < n ∧ r.head? = some 0) then (0, 0, 4) else if (r.length : Int) < n then (0, 0, 2) else (valB (r.take n.toNat), n.toNat + 1, 0) := rfl
theorem rdN_cases (b : List Int) (hb : By b) : (rdN b = (0, 0, 2) ∨ rdN b = (0, 0, 4)) ∨ ∃ n r, b = n :: r ∧ 0 ≤ n ∧ n ≤ 8 ∧ n ≤ (r.length : Int) ∧ ¬ (0 < n ∧ r.head? = some 0) ∧ rdN b = (valB (r.take n.toNat), n.toNat + 1, 0) := by
  cases b with
  | nil => exact .inl (.inl rfl)
  | cons n r =>
    have hn := hb n (by simp)
    rw [rdN_cons]
    by_cases h1 : 8 < n ∨ (0 < n ∧ r.head? = some 0)
    · rw [if_pos h1]; exact .inl (.inr rfl)
    · rw [if_neg h1]
      by_cases h2 : (r.length : Int) < n
      · rw [if_pos h2]; exact .inl (.inl rfl)
      · rw [if_neg h2]
        exact .inr ⟨n, r, rfl, hn.1, by omega, by omega, fun h => h1 (.inr h), rfl⟩
theorem rdN_range (b : List Int) (hb : By b) : 0 ≤ (rdN b).1 ∧ (rdN b).1 ≤ 18446744073709551615 ∧ (rdN b).2.1 ≤ b.length ∧ ((rdN b).2.2 = 0 ∨ (rdN b).2.2 = 2 ∨ (rdN b).2.2 = 4) := by
  rcases rdN_cases b hb with (h | h) | ⟨n, r, rfl, h0, h8, hl, _, h⟩
  · rw [h]; simp
  · rw [h]; simp
  · rw [h]
    have := val_range (l := r.take n.toNat) (fun x hx => hb x (by simp [List.mem_of_mem_take hx])) (by rw [List.length_take]; omega)
    refine ⟨this.1, this.2, ?_, .inl rfl⟩
    simp; omega
theorem head_idx {r : List Int} (h : r ≠ []) : ∃ y, r.head? = some y ∧ r[0]? = some y := by
  cases r with
  | nil => exact absurd rfl h
  | cons y t => exact ⟨y, rfl, rfl⟩
theorem Read_eq (b : List Int) (hb : By b) (hl : b.length ≤ 1000000000000) : num_Read b 0 = pure ((rdN b).1, ((rdN b).2.1 : Int), (rdN b).2.2) := by
  unfold num_Read
  have h0 : decide ((b.length : Int) < 0) = false := by simp
  rw [show decide ((0 : Int) < 0) = false from rfl, cond_false, h0, pure_bind, cond_false]
  cases b with
  | nil => rfl
  | cons n r =>
    have hn := hb n (by simp)
    have hr : By r := fun x hx => hb x (by simp [hx])
    have h1 : decide ((0 : Int) = ((n :: r).length : Int)) = false := by simp; omega
    have hrl : r.length ≤ 1000000000000 := by simp at hl; omega
    have e1 : List.drop (Int.toNat (IntKind.i64.wrap (0 + 1))) (List.take (Int.toNat ((n :: r).length : Int)) (n :: r)) = r := by
      rw [wI64 (by omega) (by omega), Int.toNat_natCast, List.take_length]; rfl
    rw [h1, cond_false, idx_eq (y := n) (by omega) rfl, pure_bind, need_true (by rw [wI64 (by omega) (by omega)]; simp; omega), e1, wI64 (n := n) (by omega) (by omega)]
    rw [rdN_cons]
    have hc : (cond (decide (8 < n)) (pure true) (cond (decide (0 < n)) (cond (decide ((0 : Int) < (r.length : Int))) ((idx r 0).bind fun x14 => pure (decide (x14 = 0))) (pure false)) (pure false)) : M Bool) = pure (decide (8 < n ∨ (0 < n ∧ r.head? = some 0))) := by
      by_cases c1 : 8 < n
      · simp [c1]
      · by_cases c2 : 0 < n
        · by_cases c3 : r = []
          · subst c3; simp [c1, c2]
          · obtain ⟨y, h5, h6⟩ := head_idx c3
            have c4 : 0 < r.length := List.length_pos_iff.2 c3
            simp [c1, c2, c4, idx_eq (l := r) (i := 0) (y := y) (by omega) h6, h5, pure_bind]
        · simp [c1, c2]
    rw [hc, pure_bind]
    by_cases c1 : 8 < n ∨ (0 < n ∧ r.head? = some 0)
    · rw [decide_eq_true c1, cond_true, if_pos c1]; rfl
    · rw [decide_eq_false c1, cond_false, if_neg c1]
      by_cases c2 : (r.length : Int) < n
      · rw [decide_eq_true c2, cond_true, if_pos c2]; rfl
      · rw [decide_eq_false c2, cond_false, if_neg c2, need_true (by omega)]
        have e2 : List.drop (Int.toNat 0) (List.take (Int.toNat (IntKind.i64.wrap n)) (List.drop (Int.toNat (IntKind.i64.wrap (0 + 1))) (List.take (Int.toNat ((n :: r).length : Int)) (n :: r)))) = r.take n.toNat := by
          rw [e1, wI64 (by omega) (by omega)]; rfl
        have hlen : (r.take n.toNat).length = n.toNat := by rw [List.length_take]; omega
        have hloop := loopL (body := num_Read_l0 n 0 (n :: r)) (r.take n.toNat) (fun i t => (t, (i : Int))) (fun v x => v * 256 + x) (fun t => pure t) (fun i t => ∃ m : Nat, t = (m : Int) ∧ m < 256 ^ i) (fun i x t hx hi hI => by
          obtain ⟨m, rfl, hm⟩ := hI
          have hxr := (hr.take n.toNat) x (List.mem_of_getElem? hx)
          have hm7 : m < 72057594037927936 := by
            have h3 : 256 ^ i ≤ 256 ^ 7 := Nat.pow_le_pow_right (by decide) (by omega)
            have h4 : (256 : Nat) ^ 7 = 72057594037927936 := by decide
            omega
          refine ⟨?_, m * 256 + x.toNat, by omega, by rw [Nat.pow_succ]; omega⟩
          unfold num_Read_l0
          have hd : decide ((i : Int) < ((r.take n.toNat).length : Int)) = true := by simpa using hi
          simp only [e2, hd, cond_true, idx_nat hx, pure_bind, bor_eq hm7 hxr, wSucc (show i < 9223372036854775807 by omega)]) (fun t _ => by
          unfold num_Read_l0
          have hd : decide (((r.take n.toNat).length : Int) < ((r.take n.toNat).length : Int)) = false := by simp
          simp only [e2, hd, cond_false, pure_bind]) 0 ⟨0, rfl, by decide⟩
        have hloop' : loop (num_Read_l0 n 0 (n :: r)) (0, 0) = pure (valB (r.take n.toNat)) := hloop
        rw [hloop', pure_bind, wI64 (n := 0 + 1) (by omega) (by omega), wI64 (by omega) (by omega)]
        have : ((0 : Int) + 1 + n) = ((n.toNat + 1 : Nat) : Int) := by omega
        rw [this]
theorem be_val (n : Nat) : ∀ k, valB (be n k) = ((n % 256 ^ k : Nat) : Int) := by
  intro k
  have key : ∀ (k v : Nat), (be n k).foldl (fun v x => v * 256 + x) (v : Int) = ((v * 256 ^ k + n % 256 ^ k : Nat) : Int) := by
    intro k
    induction k with
    | zero => intro v; simp [be, Nat.mod_one]
    | succ k ih =>
      intro v
      rw [be, List.foldl_cons, show (v : Int) * 256 + byteAt n k = ((v * 256 + n / 256 ^ k % 256 : Nat) : Int) by unfold byteAt; omega, ih]
      congr 1
      have h1 : n % 256 ^ (k + 1) = 256 ^ k * (n / 256 ^ k % 256) + n % 256 ^ k := by
        rw [Nat.pow_succ, Nat.mod_mul]; omega
      rw [h1, Nat.add_mul, Nat.pow_succ, Nat.mul_comm (256 ^ k) (n / 256 ^ k % 256), Nat.add_assoc]
      congr 1
      rw [Nat.mul_comm (256 ^ k) 256, Nat.mul_assoc]
  have := key k 0
  simpa [valB] using this
theorem be_head {n : Nat} (h : lenN n ≠ 0) : (be n (lenN n)).head? ≠ some 0 := by
  obtain ⟨k, hk⟩ : ∃ k, lenN n = k + 1 := ⟨lenN n - 1, by omega⟩
  rw [hk, be, List.head?_cons]
  intro e
  have h1 : byteAt n k = 0 := by injection e
  unfold byteAt at h1
  have h2 := lt_lenN n
  rw [hk, Nat.pow_succ] at h2
  have hp : 0 < 256 ^ k := Nat.pow_pos (by decide)
  have h4 : n / 256 ^ k < 256 := (Nat.div_lt_iff_lt_mul hp).2 (by rw [Nat.mul_comm]; exact h2)
  have h3 : n / 256 ^ k = 0 := by
    generalize n / 256 ^ k = q at h1 h4 ⊢
    omega
  have h5 : n < 256 ^ k := by
    rcases Nat.div_eq_zero_iff.1 h3 with h | h
    · omega
    · exact h
  have := lenN_le k n h5
  omega
theorem rdN_enc {v : Int} (h0 : 0 ≤ v) (h : v ≤ 18446744073709551615) (r : List Int) : rdN (encI v ++ r) = (v, (encI v).length, 0) := by
  have h8 := lenN_8 (n := v.toNat) (by omega)
  have hl := be_len v.toNat (lenN v.toNat)
  have hv := be_val v.toNat (lenN v.toNat)
  rw [Nat.mod_eq_of_lt (lt_lenN _)] at hv
  show rdN ((lenN v.toNat : Int) :: (be v.toNat (lenN v.toNat) ++ r)) = _
  rw [rdN_cons, if_neg, if_neg (by rw [List.length_append]; omega)]
  · rw [Int.toNat_natCast, List.take_append_of_le_length (by omega), List.take_of_length_le (by omega), hv]
    simp [encI, encN, hl]; omega
  · intro hc
    rcases hc with hc | ⟨hc1, hc2⟩
    · omega
    · have hne : lenN v.toNat ≠ 0 := by omega
      refine be_head hne ?_
      rw [List.head?_append] at hc2
      obtain ⟨y, h5, _⟩ := head_idx (r := be v.toNat (lenN v.toNat)) (by intro e; rw [e] at hl; simp at hl; omega)
      rw [h5] at hc2 ⊢
      exact hc2
theorem be_of : ∀ (l : List Int), By l → ∀ n : Nat, valB l = (n : Int) → be n l.length = l := by
  intro l
  have key : ∀ (m : Nat) (l : List Int), l.length = m → By l → ∀ n : Nat, valB l = (n : Int) → be n l.length = l := by
    intro m
    induction m with
    | zero => intro l hl _ n _; have := List.eq_nil_of_length_eq_zero hl; subst this; rfl
    | succ m ih =>
      intro l hl hb n hn
      cases l with
      | nil => simp at hl
      | cons x r =>
        have hx := hb x (by simp)
        have hr : By r := fun y hy => hb y (by simp [hy])
        obtain ⟨q, h1, h2, h3⟩ := val_gen r 0 0 hr (by decide)
        obtain ⟨q2, h4, h5, h6⟩ := val_gen r x.toNat 1 hr (by omega)
        have hq : valB r = (q : Int) := h1
        have hq2 : valB (x :: r) = (q2 : Int) := by
          rw [valB, List.foldl_cons, ← h4]; congr 1; omega
        have hrl : r.length = m := by simpa using hl
        have e : q2 = n := by omega
        subst e
        have hlin : ∀ (l : List Int) (v : Int), l.foldl (fun v x => v * 256 + x) v = v * 256 ^ l.length + valB l := by
          intro l
          induction l with
          | nil => intro v; simp [valB]
          | cons y t iht =>
            intro v
            have e : valB (y :: t) = y * 256 ^ t.length + valB t := by rw [valB, List.foldl_cons, iht]; simp
            rw [List.foldl_cons, iht, e, List.length_cons, Int.pow_succ, Int.add_mul, Int.mul_assoc, Int.mul_comm 256, Int.add_assoc]
        have hsum : (q2 : Int) = x * 256 ^ r.length + (q : Int) := by
          rw [← hq, ← hlin r x, ← hq2, valB, List.foldl_cons]; congr 1; omega
        have hqlt : q < 256 ^ r.length := by simpa using h2
        have hnat : q2 = x.toNat * 256 ^ r.length + q := by
          have : ((q2 : Nat) : Int) = ((x.toNat * 256 ^ r.length + q : Nat) : Int) := by
            rw [hsum, Int.natCast_add, Int.natCast_mul, Int.natCast_pow, Int.toNat_of_nonneg hx.1]; rfl
          exact Int.ofNat.inj this
        have hp : 0 < 256 ^ r.length := Nat.pow_pos (by decide)
        have hdiv : q2 / 256 ^ r.length = x.toNat := by
          rw [hnat, Nat.mul_comm, Nat.mul_add_div hp, Nat.div_eq_of_lt hqlt, Nat.add_zero]
        rw [List.length_cons, be]
        have hb1 : byteAt q2 r.length = x := by unfold byteAt; rw [hdiv]; omega
        rw [hb1]
        congr 1
        have hbe : ∀ k, k ≤ r.length → be q2 k = be q k := by
          intro k hk
          induction k with
          | zero => rfl
          | succ k ihk =>
            rw [be, be, ihk (by omega)]
            congr 1
            show ((q2 / 256 ^ k % 256 : Nat) : Int) = ((q / 256 ^ k % 256 : Nat) : Int)
            congr 1
            have hs : 256 ^ r.length = 256 ^ k * (256 * 256 ^ (r.length - k - 1)) := by
              rw [← Nat.pow_succ', ← Nat.pow_add]; congr 1; omega
            have hpk : 0 < 256 ^ k := Nat.pow_pos (by decide)
            rw [hnat, hs, Nat.mul_left_comm, Nat.mul_add_div hpk]
            rw [Nat.mul_left_comm, Nat.mul_add_mod]
        rw [hbe _ (Nat.le_refl _)]
        exact ih r hrl hr q hq
  exact key l.length l rfl
theorem rdN_one {b : List Int} (hb : By b) (h : (rdN b).2.2 = 0) : b = encI (rdN b).1 ++ b.drop (rdN b).2.1 := by
  rcases rdN_cases b hb with (h1 | h1) | ⟨n, r, rfl, h0, h8, hl, hh, h1⟩
  · rw [h1] at h; simp at h
  · rw [h1] at h; simp at h
  · rw [h1]
    have hr : By r := fun x hx => hb x (by simp [hx])
    have hbt := hr.take n.toNat
    have hlt : (r.take n.toNat).length = n.toNat := by rw [List.length_take]; omega
    obtain ⟨q, h2, h3, h4⟩ := val_gen (r.take n.toNat) 0 0 hbt (by decide)
    have hq : valB (r.take n.toNat) = (q : Int) := h2
    have hbe := be_of _ hbt q hq
    rw [hlt] at hbe
    have hlen : lenN q = n.toNat := by
      apply Nat.le_antisymm
      · exact lenN_le _ _ (by simpa [hlt] using h3)
      · rcases Nat.eq_zero_or_pos n.toNat with hz | hz
        · omega
        · obtain ⟨k, hk⟩ : ∃ k, n.toNat = k + 1 := ⟨n.toNat - 1, by omega⟩
          rw [hk]
          refine lenN_ge k q ?_
          rw [hk, be] at hbe
          have hne : byteAt q k ≠ 0 := by
            intro e
            rw [e] at hbe
            refine hh ⟨by omega, ?_⟩
            have := congrArg List.head? hbe
            rw [List.head?_cons, List.head?_take, if_neg (by omega)] at this
            exact this.symm
          unfold byteAt at hne
          have hp : 0 < 256 ^ k := Nat.pow_pos (by decide)
          rcases Nat.lt_or_ge q (256 ^ k) with hlt2 | hge
          · rw [Nat.div_eq_of_lt hlt2] at hne; simp at hne
          · exact hge
    show n :: r = encI (valB (r.take n.toNat)) ++ (n :: r).drop (n.toNat + 1)
    rw [hq, encI, Int.toNat_natCast, encN, hlen, hbe, List.drop_succ_cons, List.cons_append, List.take_append_drop]
    congr 1; omega

abbrev RS := List Int × Int
structure Ok (s : RS) : Prop where
  by_ : By s.1
  len : s.1.length ≤ 1000000000
  nil : s.2 ≠ 0 → s.1 = []
def failS (e : Int) (s : RS) : RS := if s.2 = 0 ∧ e ≠ 0 then ([], e) else s
def numS (s : RS) : Int × RS := if s.2 ≠ 0 then (0, s) else if (rdN s.1).2.2 ≠ 0 then (0, failS (rdN s.1).2.2 s) else ((rdN s.1).1, (s.1.drop (rdN s.1).2.1, 0))
def uptoS (m : Int) (s : RS) : Int × RS := if m < (numS s).1 then (0, failS 4 (numS s).2) else numS s
def endS (s : RS) : Int × RS := let t := if 0 < s.1.length then failS 4 s else s; (t.2, t)
theorem ok_fail {s : RS} (h : Ok s) (e : Int) : Ok (failS e s) := by
  unfold failS
  by_cases c : s.2 = 0 ∧ e ≠ 0
  · rw [if_pos c]; exact ⟨By.nil, by simp, fun _ => rfl⟩
  · rw [if_neg c]; exact h
theorem fail_bad {s : RS} {e : Int} (h : e ≠ 0) : (failS e s).2 ≠ 0 := by
  unfold failS
  by_cases c : s.2 = 0
  · rw [if_pos ⟨c, h⟩]; exact h
  · rw [if_neg (fun q => c q.1)]; exact c
theorem num_of {s : RS} (h : s.2 ≠ 0) : numS s = (0, s) := if_pos h
theorem ok_num {s : RS} (h : Ok s) : Ok (numS s).2 ∧ 0 ≤ (numS s).1 ∧ (numS s).1 ≤ 18446744073709551615 := by
  unfold numS
  have hr := rdN_range s.1 h.by_
  by_cases c : s.2 ≠ 0
  · rw [if_pos c]; exact ⟨h, by simp, by simp⟩
  · rw [if_neg c]
    by_cases c2 : (rdN s.1).2.2 ≠ 0
    · rw [if_pos c2]; exact ⟨ok_fail h _, by simp, by simp⟩
    · rw [if_neg c2]
      exact ⟨⟨h.by_.drop _, by simp; have := h.len; omega, fun h => absurd rfl h⟩, hr.1, hr.2.1⟩
theorem ok_upto {s : RS} (h : Ok s) {m : Int} (hm : 0 ≤ m) : Ok (uptoS m s).2 ∧ 0 ≤ (uptoS m s).1 ∧ (uptoS m s).1 ≤ m := by
  unfold uptoS
  obtain ⟨h1, h2, h3⟩ := ok_num h
  by_cases c : m < (numS s).1
  · rw [if_pos c]; exact ⟨ok_fail h1 _, by simp, hm⟩
  · rw [if_neg c]; exact ⟨h1, h2, by omega⟩
theorem New_eq (b : List Int) (h : b.length ≤ 1000000000) : pack_New_o b = pure (b, 0) := by
  unfold pack_New_o; rw [need_true (by omega)]
theorem Err_eq (b : List Int) (e : Int) : pack_Reader_Err_o b e = pure (e, b, e) := rfl
theorem Fail_eq (e : Int) (s : RS) : pack_Reader_Fail_o e s.1 s.2 = pure (failS e s) := by
  unfold pack_Reader_Fail_o failS
  by_cases c : s.2 = 0 <;> by_cases c2 : e = 0 <;> simp [c, c2, pure_bind] <;> rw [← c]
theorem take_eq (b : List Int) (n : Nat) (e : Int) (h : n ≤ b.length) : pack_rest_take_o (n : Int) b e = pure (b.take n, b.drop n, e) := by
  unfold pack_rest_take_o
  rw [need_true (by omega), need_true (by omega)]
  simp
theorem Num_eq {s : RS} (h : Ok s) : pack_Reader_Num_o s.1 s.2 = pure (numS s) := by
  unfold pack_Reader_Num_o numS
  rw [Err_eq, det_pure, pure_bind]
  by_cases c : s.2 = 0
  · have hr := rdN_range s.1 h.by_
    simp only [c, decide_true, Bool.not_true, cond_false, Read_eq s.1 h.by_ (by have := h.len; omega), det_pure, pure_bind, ne_eq, not_true_eq_false, if_false]
    by_cases c2 : (rdN s.1).2.2 = 0
    · simp only [c2, decide_true, Bool.not_true, cond_false, take_eq s.1 (rdN s.1).2.1 0 hr.2.2.1, det_pure, pure_bind, not_true_eq_false, if_false]
    · have := Fail_eq (rdN s.1).2.2 s
      rw [c] at this
      simp only [c2, decide_false, Bool.not_false, cond_true, this, det_pure, pure_bind, not_false_eq_true, if_true]
  · simp [c]
theorem Upto_eq {s : RS} (h : Ok s) (m : Int) : pack_Reader_Upto_o m s.1 s.2 = pure (uptoS m s) := by
  unfold pack_Reader_Upto_o uptoS
  rw [Num_eq h, det_pure, pure_bind]
  by_cases c : m < (numS s).1
  · rw [decide_eq_true c, cond_true, if_pos c, Fail_eq 4 (numS s).2, det_pure, pure_bind]
  · rw [decide_eq_false c, cond_false, if_neg c]
theorem Left_eq (s : RS) : pack_Reader_Left_o s.1 s.2 = pure ((s.1.length : Int), s) := by
  unfold pack_Reader_Left_o pack_rest_Left_o
  rw [det_pure, pure_bind]
theorem End_eq (s : RS) : pack_Reader_End_o s.1 s.2 = pure (endS s) := by
  unfold pack_Reader_End_o endS
  rw [Left_eq, det_pure, pure_bind]
  by_cases c : 0 < s.1.length
  · have : decide ((0 : Int) < (s.1.length : Int)) = true := by simpa using c
    simp only [this, cond_true, Fail_eq, det_pure, pure_bind, if_pos c, Err_eq]
  · have : decide ((0 : Int) < (s.1.length : Int)) = false := by simpa using c
    simp only [this, cond_false, pure_bind, if_neg c, Err_eq, det_pure]

theorem put_eq (b row : List Int) (h : row.length + b.length ≤ 100000000000000) : pack_Writer_put_o b row = pure (row ++ b) := by
  unfold pack_Writer_put_o; rw [need_true (by omega)]
theorem WNum_eq {v : Int} (row : List Int) (h0 : 0 ≤ v) (h : v ≤ 18446744073709551615) (hr : row.length ≤ 10000000000000) : pack_Writer_Num_o v row = pure (row ++ encI v) := by
  unfold pack_Writer_Num_o
  have := encI_len h
  rw [Append_eq [] h0 h (by simp), det_pure, pure_bind, List.nil_append, put_eq _ _ (by omega), det_pure, pure_bind]
theorem Bytes_eq (row : List Int) (h : row.length ≤ 100000000000000) : pack_Writer_Bytes_o row = pure (row, row) := by
  unfold pack_Writer_Bytes_o; rw [need_true (by omega)]
structure Sim (B : List Int) (a : Int) (s : RS) : Prop where
  lo : 0 ≤ a
  hi : a ≤ B.length
  eq : s.2 = 0 → s.1 = B.drop a.toNat
structure OkB (B : List Int) : Prop where
  by_ : By B
  len : B.length ≤ 1000000000
theorem Sim.start (B : List Int) : Sim B 0 (B, 0) := ⟨Int.le_refl _, by omega, fun _ => rfl⟩
theorem OkB.ok {B : List Int} (h : OkB B) : Ok (B, 0) := ⟨h.by_, h.len, fun h => absurd rfl h⟩
theorem Sim.bad {B : List Int} {a : Int} {s t : RS} (h : Sim B a s) (ht : t.2 ≠ 0) : Sim B a t := ⟨h.lo, h.hi, fun h2 => absurd h2 ht⟩
variable {B : List Int} {a : Int} {s : RS}
end Go.Ep.M.N


/- Vectors, plainly: how many lack, how two stand, the reference, and the laws. No program in sight. -/
import Derived.Test.YtdipflebhoodkaaPv
namespace Go.Ep.M
open Go

/-! ### Sums -/
def sumI (l : List Int) : Int := l.foldr (· + ·) 0
theorem sumI_cons (x : Int) (l : List Int) : sumI (x :: l) = x + sumI l := rfl
theorem sumI_app (a b : List Int) : sumI (a ++ b) = sumI a + sumI b := by
  induction a with
  | nil => simp [sumI]
  | cons x r ih => rw [List.cons_append, sumI_cons, sumI_cons, ih]; omega
theorem sumI_perm {a b : List Int} (h : a.Perm b) : sumI a = sumI b := by
  induction h with
  | nil => rfl
  | cons x _ ih => rw [sumI_cons, sumI_cons, ih]
  | swap x y l => simp only [sumI_cons]; omega
  | trans _ _ h1 h2 => rw [h1, h2]
theorem sumI_nonneg {l : List Int} (h : ∀ x ∈ l, 0 ≤ x) : 0 ≤ sumI l := by
  induction l with
  | nil => simp [sumI]
  | cons x r ih => rw [sumI_cons]; have := h x (by simp); have := ih fun y hy => h y (List.mem_cons_of_mem _ hy); omega
theorem sumI_zero {l : List Int} (h : ∀ x ∈ l, 0 ≤ x) : sumI l = 0 ↔ ∀ x ∈ l, x = 0 := by
  induction l with
  | nil => simp [sumI]
  | cons x r ih =>
    have h1 := h x (by simp)
    have h2 := fun y hy => h y (List.mem_cons_of_mem x hy)
    have h3 := sumI_nonneg h2
    rw [sumI_cons, List.forall_mem_cons, ← ih h2]
    omega
theorem sumI_le {l : List Int} {c : Int} (h : ∀ x ∈ l, x ≤ c) : sumI l ≤ l.length * c := by
  induction l with
  | nil => simp [sumI]
  | cons x r ih =>
    have h1 := h x (by simp)
    have h2 := ih fun y hy => h y (List.mem_cons_of_mem x hy)
    rw [sumI_cons, List.length_cons]
    push_cast
    rw [Int.add_mul]
    omega
/-- Where f is nought outside some numbers, the sum is over those. -/
theorem sumI_sub {a b : List Int} (f : Int → Int) (ha : a.Pairwise (· < ·)) (hb : b.Pairwise (· < ·)) (h1 : ∀ x ∈ b, f x ≠ 0 → x ∈ a) (h2 : ∀ x ∈ a, x ∉ b → f x = 0) : sumI (a.map f) = sumI (b.map f) := by
  have hz : ∀ l : List Int, sumI (l.map f) = sumI ((l.filter fun x => decide (f x ≠ 0)).map f) := by
    intro l
    induction l with
    | nil => rfl
    | cons x r ih =>
      rw [List.map_cons, sumI_cons, List.filter_cons]
      by_cases h : f x = 0
      · simpa [h, sumI] using ih
      · simp only [decide_eq_true_eq, h, not_false_eq_true, if_true, ne_eq, List.map_cons, sumI_cons]
        rw [ih]
  rw [hz a, hz b]
  refine sumI_perm (List.Perm.map f ((List.perm_ext_iff_of_nodup ?_ ?_).2 fun x => ?_))
  · exact (ha.imp fun h => by omega).filter _
  · exact (hb.imp fun h => by omega).filter _
  · simp only [List.mem_filter, decide_eq_true_eq]
    constructor
    · rintro ⟨h3, h4⟩
      exact ⟨Classical.byContradiction fun h5 => h4 (h2 x h3 h5), h4⟩
    · rintro ⟨h3, h4⟩
      exact ⟨h1 x h3 h4, h4⟩

/-! ### What lacks -/
def lackF (a b : List TDot) (k : Int) : Int := max 0 (ofV b k - ofV a k)
def lackV (a b : List TDot) : Int := sumI ((devsL b).map (lackF a b))
theorem lackF_range (a b : List TDot) (k : Int) : 0 ≤ lackF a b k ∧ lackF a b k ≤ 281474976710655 := by
  have := ofV_range a k; have := ofV_range b k; unfold lackF; omega
theorem lackV_both (a b c : List TDot) (h : ∀ k, 0 < ofV b k → 0 < ofV c k) : sumI ((devsL c).map (lackF a b)) = lackV a b :=
  sumI_sub _ (devs_sorted _) (devs_sorted _) (fun x hx _ => mem_devs.2 (h x (mem_devs.1 hx))) fun x _ hx => by
    rw [mem_devs] at hx
    have := ofV_range a x; have := ofV_range b x
    unfold lackF; omega
theorem vec_Lack_eq (a b : List TDot) (ha : a.length ≤ 1000000000000) (hb : b.length ≤ 1000000000000) : vec_Lack a b = pure (lackV a b % 18446744073709551616) := by
  unfold vec_Lack
  rw [vec_told_eq a ha, det_pure, pure_bind, vec_told_eq b hb, det_pure, pure_bind]
  refine eq_pure ?_
  let g : Int × Int → Int := fun e => max e.2 (AL.getZ (toldM a) e.1 0) - AL.getZ (toldM a) e.1 0
  have := loopM (body := vec_Lack_l0 (toldM b) (toldM a)) (toldM b) (fun L (t : Int) => (t, L)) (fun t e => pure (IntKind.u64.wrap (t + IntKind.u64.wrap (g e)))) (fun t => pure t)
    (fun l t => t = sumI (l.map g) % 18446744073709551616) (fun n => (pure n).wp (· = lackV a b % 18446744073709551616)) (fun L t hL => ?_) (fun l t y ht _ hy => ?_) (fun l t hp ht => ?_) 0 rfl
  · exact this
  · unfold vec_Lack_l0
    show need _ ((nxt _ _).bind _) = need _ ((nxt _ _).bind _)
    refine congrArg (fun k => need _ ((nxt _ _).bind k)) (funext fun o => ?_)
    cases o with
    | none => rfl
    | some i => rfl
  · refine ⟨_, rfl, ?_⟩
    subst ht
    rw [List.map_append, sumI_app, wU64_mod, wU64_mod]
    simp only [List.map_cons, List.map_nil, sumI_cons]
    show _ = (_ + (g y + 0)) % _
    omega
  · show t = _
    subst ht
    congr 1
    rw [sumI_perm (hp.map g)]
    have e : (toldM b).map g = ((toldM b).map (·.1)).map (lackF a b) := by
      rw [List.map_map]
      refine List.map_congr_left fun x hx => ?_
      obtain ⟨h1, h2⟩ := told_mem hx
      show max x.2 (AL.getZ (toldM a) x.1 0) - AL.getZ (toldM a) x.1 0 = lackF a b x.1
      rw [told_get, lackF, ← h1]
      have := ofV_range a x.1
      omega
    rw [e]
    refine sumI_perm (List.Perm.map _ ((List.perm_ext_iff_of_nodup (told_nodup b) ((devs_sorted b).imp fun h => by omega)).2 fun k => ?_))
    rw [mem_devs, List.mem_map]
    constructor
    · rintro ⟨x, hx, rfl⟩
      obtain ⟨h1, h2⟩ := told_mem hx
      omega
    · intro h; exact ⟨_, told_at h, rfl⟩

/-- Is the first one at most the second one? -/
def withinV (a b : List TDot) : Bool := (devsL a).all fun k => decide (ofV a k ≤ ofV b k)
theorem withinV_iff {a b : List TDot} : withinV a b = true ↔ ∀ k, ofV a k ≤ ofV b k := by
  unfold withinV
  rw [List.all_eq_true]
  constructor
  · intro h k
    by_cases hk : 0 < ofV a k
    · simpa using h k (mem_devs.2 hk)
    · have := ofV_range b k; omega
  · intro h k _; simpa using h k
theorem lack_zero {a b : List TDot} : lackV b a = 0 ↔ withinV a b = true := by
  unfold lackV
  rw [sumI_zero (fun x hx => by rw [List.mem_map] at hx; obtain ⟨k, _, rfl⟩ := hx; exact (lackF_range b a k).1), withinV_iff]
  constructor
  · intro h k
    by_cases hk : 0 < ofV a k
    · have := h _ (List.mem_map.2 ⟨k, mem_devs.2 hk, rfl⟩)
      unfold lackF at this; omega
    · have := ofV_range b k; omega
  · intro h x hx
    rw [List.mem_map] at hx
    obtain ⟨k, _, rfl⟩ := hx
    have := h k; unfold lackF; omega
theorem sorted_len : ∀ (l : List Int) (lo hi : Int), l.Pairwise (· < ·) → (∀ x ∈ l, lo ≤ x ∧ x ≤ hi) → lo ≤ hi + 1 → (l.length : Int) ≤ hi + 1 - lo
  | [], lo, hi, _, _, h => by simp; omega
  | x :: r, lo, hi, hs, hb, h => by
    obtain ⟨h1, h2⟩ := List.pairwise_cons.1 hs
    have h3 := hb x (by simp)
    have := sorted_len r (x + 1) hi h2 (fun y hy => ⟨by have := h1 y hy; omega, (hb y (List.mem_cons_of_mem _ hy)).2⟩) (by omega)
    simp only [List.length_cons]; omega
/-- No device is above the greatest one. -/
def okL (v : List TDot) : Prop := ∀ d ∈ v, d.dev ≤ 65535
theorem lack_small {a b : List TDot} (h : okL b) : 0 ≤ lackV a b ∧ lackV a b < 18446744073709551616 := by
  have h1 : ∀ x ∈ (devsL b).map (lackF a b), 0 ≤ x ∧ x ≤ 281474976710655 := fun x hx => by
    rw [List.mem_map] at hx; obtain ⟨k, _, rfl⟩ := hx; exact lackF_range a b k
  have h2 := sumI_nonneg fun x hx => (h1 x hx).1
  have h3 := sumI_le fun x hx => (h1 x hx).2
  have h4 := sorted_len (devsL b) 1 65535 (devs_sorted b) (fun k hk => by
    obtain ⟨d, hd, h5, h6⟩ := ofV_pos.1 (mem_devs.1 hk)
    have := h d hd
    have := goodD_iff.1 h6
    omega) (by omega)
  rw [List.length_map] at h3
  unfold lackV
  refine ⟨h2, ?_⟩
  have h5 : ((devsL b).length : Int) * 281474976710655 ≤ 65535 * 281474976710655 := Int.mul_le_mul_of_nonneg_right (by omega) (by omega)
  omega
theorem lack_mod {a b : List TDot} (h : okL b) : lackV a b % 18446744073709551616 = lackV a b := by
  have := lack_small (a := a) h; omega
def ordV (l m : Bool) : Int := if l && m then 0 else if l then -1 else if m then 1 else 2
theorem vec_Order_eq (a b : List TDot) (ha : a.length ≤ 1000000000000) (hb : b.length ≤ 1000000000000) (oa : okL a) (ob : okL b) : vec_Order a b = pure (ordV (withinV a b) (withinV b a)) := by
  unfold vec_Order
  rw [vec_Lack_eq b a hb ha, vec_Lack_eq a b ha hb, lack_mod oa, lack_mod ob]
  simp only [det_pure, pure_bind]
  have h1 : decide (lackV b a = 0) = withinV a b := by rw [Bool.eq_iff_iff]; simp [lack_zero]
  have h2 : decide (lackV a b = 0) = withinV b a := by rw [Bool.eq_iff_iff]; simp [lack_zero]
  rw [h1, h2, cond_pure_and, pure_bind]
  cases withinV a b <;> cases withinV b a <;> rfl

/-! ### The reference -/
def cmpD (a b : TDot) : Int := if a = b then 0 else if ltDot a b then -1 else 1
theorem r07_Cmp_eq (a b : TDot) : r07_Cmp a b = pure (cmpD a b) := by
  unfold r07_Cmp cmpD
  have h1 : (decide (a.dev = b.dev) && decide (a.n = b.n)) = decide (a = b) := by
    rw [Bool.eq_iff_iff]; cases a; cases b; simp
  have h2 : (cond (decide (a.dev < b.dev)) (pure true) (cond (decide (a.dev = b.dev)) (pure (decide (a.n < b.n))) (pure false)) : M Bool) = pure (ltDot a b) := by
    rw [cond_pure_and, cond_pure_or]; rfl
  rw [h1, h2, cond_dec, pure_bind]
  split
  · rfl
  · cases ltDot a b <;> rfl
theorem cmpD_neg {a b : TDot} : cmpD a b < 0 ↔ ltDot a b = true := by
  unfold cmpD
  split
  · rename_i h; subst h; simp [ltDot]
  · split <;> simp_all
theorem cmpD_pos {a b : TDot} : 0 < cmpD a b ↔ ltDot b a = true := by
  unfold cmpD
  by_cases h : a = b
  · subst h; simp [ltDot]
  · rw [if_neg h]
    cases a; cases b
    simp only [TDot.mk.injEq] at h
    simp only [ltDot, Bool.or_eq_true, Bool.and_eq_true, decide_eq_true_eq]
    split <;> omega
theorem r07_Put_eq (l : List TDot) (d : TDot) (h : l.length ≤ 1000000000000) : r07_Put l d = pure ((l.filter fun x => ltDot x d) ++ [d] ++ (l.filter fun x => ltDot d x)) := by
  unfold r07_Put
  have c0 : ∀ o : List TDot, o.length ≤ 1000000000000 → True := fun _ _ => trivial
  have h1 := loopL (body := r07_Put_l0 l d) l (fun i (o : List TDot) => ((i : Int), o)) (fun o x => if ltDot x d then o ++ [x] else o) (fun o => pure o) (fun i o => o.length ≤ i) (fun i x o hx hi ho => by
    have h1 : decide ((i : Int) < (l.length : Int)) = true := by simpa using hi
    unfold r07_Put_l0
    simp only [h1, cond_true, idx_nat hx, pure_bind, r07_Cmp_eq, det_pure, wSucc (show i < 9223372036854775807 by omega), cond_dec, cmpD_neg]
    split
    · rw [need_true (by simp; omega)]; exact ⟨rfl, by simp; omega⟩
    · exact ⟨rfl, by omega⟩) (fun o _ => by unfold r07_Put_l0; simp [pure_bind]) [] (by simp)
  have h2 : ∀ o0 : List TDot, o0.length ≤ 1000000000001 → loop (r07_Put_l1 l d) (0, o0) = pure (l.foldl (fun o x => if ltDot d x then o ++ [x] else o) o0) := fun o0 ho0 => by
    have := loopL (body := r07_Put_l1 l d) l (fun i (o : List TDot) => ((i : Int), o)) (fun o x => if ltDot d x then o ++ [x] else o) (fun o => pure o) (fun i o => o.length ≤ o0.length + i) (fun i x o hx hi ho => by
      have h1 : decide ((i : Int) < (l.length : Int)) = true := by simpa using hi
      unfold r07_Put_l1
      simp only [h1, cond_true, idx_nat hx, pure_bind, r07_Cmp_eq, det_pure, wSucc (show i < 9223372036854775807 by omega), cond_dec, cmpD_pos]
      split
      · rw [need_true (by simp; omega)]; exact ⟨rfl, by simp; omega⟩
      · exact ⟨rfl, by omega⟩) (fun o _ => by unfold r07_Put_l1; simp [pure_bind]) o0 (by simp)
    exact this
  have hf : ∀ (p : TDot → Bool) (l o : List TDot), l.foldl (fun o x => if p x then o ++ [x] else o) o = o ++ l.filter p := by
    intro p l
    induction l with
    | nil => simp
    | cons x r ih =>
      intro o
      rw [List.foldl_cons, ih, List.filter_cons]
      split <;> simp
  rw [show ((0 : Int), ([] : List TDot)) = (((0 : Nat) : Int), []) from rfl, h1, hf, pure_bind, need_true, h2, hf, pure_bind]
  · rfl
  · have := List.length_filter_le (fun x => ltDot x d) l; simp; omega
  · have := List.length_filter_le (fun x => ltDot x d) l; simp; omega
/-- Dots with the number 1. -/
def ones (l : List Int) : List TDot := l.map fun k => ⟨k, 1⟩
theorem put_ones {l : List Int} (h : l.Pairwise (· < ·)) (k : Int) : ((ones l).filter fun x => ltDot x ⟨k, 1⟩) ++ [⟨k, 1⟩] ++ ((ones l).filter fun x => ltDot ⟨k, 1⟩ x) = ones (insI l k) := by
  induction l with
  | nil => rfl
  | cons a r ih =>
    obtain ⟨h1, h2⟩ := List.pairwise_cons.1 h
    have i2 := ih h2
    unfold insI
    by_cases c1 : k < a
    · rw [if_pos c1]
      have e1 : (ones (a :: r)).filter (fun x => ltDot x ⟨k, 1⟩) = [] := by
        rw [List.filter_eq_nil_iff]
        intro x hx
        simp only [ones, List.map_cons, List.mem_cons, List.mem_map] at hx
        rcases hx with rfl | ⟨b, hb, rfl⟩
        · simp [ltDot]; omega
        · have := h1 b hb; simp [ltDot]; omega
      have e2 : (ones (a :: r)).filter (fun x => ltDot ⟨k, 1⟩ x) = ones (a :: r) := by
        rw [List.filter_eq_self]
        intro x hx
        simp only [ones, List.map_cons, List.mem_cons, List.mem_map] at hx
        rcases hx with rfl | ⟨b, hb, rfl⟩
        · simp [ltDot]; omega
        · have := h1 b hb; simp [ltDot]; omega
      rw [e1, e2]; rfl
    · rw [if_neg c1]
      by_cases c2 : k = a
      · subst c2
        rw [if_pos rfl]
        have e1 : (ones (k :: r)).filter (fun x => ltDot x ⟨k, 1⟩) = [] := by
          rw [List.filter_eq_nil_iff]
          intro x hx
          simp only [ones, List.map_cons, List.mem_cons, List.mem_map] at hx
          rcases hx with rfl | ⟨b, hb, rfl⟩
          · simp [ltDot]
          · have := h1 b hb; simp [ltDot]; omega
        have e2 : (ones (k :: r)).filter (fun x => ltDot ⟨k, 1⟩ x) = ones r := by
          show List.filter _ (⟨k, 1⟩ :: ones r) = _
          rw [List.filter_cons, if_neg (by simp [ltDot]), List.filter_eq_self]
          intro x hx
          simp only [ones, List.mem_map] at hx
          obtain ⟨b, hb, rfl⟩ := hx
          have := h1 b hb; simp [ltDot]; omega
        rw [e1, e2]; rfl
      · rw [if_neg c2]
        show (List.filter _ (⟨a, 1⟩ :: ones r)) ++ _ ++ (List.filter _ (⟨a, 1⟩ :: ones r)) = ⟨a, 1⟩ :: ones (insI r k)
        rw [List.filter_cons, if_pos (by simp [ltDot]; omega), List.filter_cons, if_neg (by simp [ltDot]; omega), ← i2]
        rfl
theorem r08_devs_eq (a b : List TDot) (h : a.length + b.length ≤ 100000000000) : r08_devs a b = pure (ones (devsL (a ++ b))) := by
  unfold r08_devs
  rw [need_true (by simp; omega), need_true (by simp; omega)]
  have := loopL (body := r08_devs_l0 a b) (a ++ b) (fun i (l : List Int) => (ones l, (i : Int))) devStep (fun l => pure (ones l)) (fun i l => l.Pairwise (· < ·) ∧ l.length ≤ i) (fun i x l hx hi ⟨hs, hl⟩ => by
    have h1 : decide ((i : Int) < (([] ++ a ++ b).length : Int)) = true := by simp at hi ⊢; omega
    have hx' : ([] ++ a ++ b)[i]? = some x := by simpa using hx
    unfold r08_devs_l0
    simp only [h1, cond_true, idx_nat hx', pure_bind, r07_Good_eq, det_pure, wSucc (show i < 9223372036854775807 by simp at hi; omega)]
    unfold devStep
    cases hg : goodD x
    · exact ⟨rfl, by simpa using hs, by simp; omega⟩
    · simp only [cond_true, if_true, r07_Put_eq (ones l) ⟨x.dev, 1⟩ (by simp [ones]; simp at hi; omega), det_pure, pure_bind, put_ones hs]
      exact ⟨trivial, insI_sorted hs _, by have := len_insI l x.dev; omega⟩) (fun l _ => by unfold r08_devs_l0; simp [pure_bind]) [] ⟨List.Pairwise.nil, by simp⟩
  rw [show (([] : List TDot), (0 : Int)) = (ones [], ((0 : Nat) : Int)) from rfl, this]
  rfl
theorem vecOf_fold (f : Int → Int) (l : List Int) (o : List TDot) : l.foldl (fun o k => if 0 < f k then o ++ [⟨k, f k⟩] else o) o = o ++ vecOf f l := by
  induction l generalizing o with
  | nil => simp [vecOf]
  | cons k r ih =>
    rw [List.foldl_cons, ih]
    unfold vecOf
    rw [List.filterMap_cons]
    split
    · rename_i h0; simp
    · simp
theorem r08_both_eq (a b : List TDot) (g : Bool) (h : a.length + b.length ≤ 100000000000) : r08_both a b g = pure (if g then joinV a b else meetV a b) := by
  unfold r08_both
  rw [r08_devs_eq a b h, det_pure, pure_bind]
  let f : Int → Int := fun k => if g = decide (ofV a k < ofV b k) then ofV b k else ofV a k
  have := loopL (body := r08_both_l0 (ones (devsL (a ++ b))) a b g) (ones (devsL (a ++ b))) (fun i (o : List TDot) => ((i : Int), o)) (fun o (d : TDot) => if 0 < f d.dev then o ++ [⟨d.dev, f d.dev⟩] else o) (fun o => pure o) (fun i o => o.length ≤ i) (fun i x o hx hi ho => by
    have hlen : (ones (devsL (a ++ b))).length ≤ 100000000000 := by have := len_devs (a ++ b); simp [ones] at this ⊢; omega
    have h1 : decide ((i : Int) < ((ones (devsL (a ++ b))).length : Int)) = true := by simpa using hi
    unfold r08_both_l0
    simp only [h1, cond_true, idx_nat hx, pure_bind, r08_Of_eq a _ (by omega), r08_Of_eq b _ (by omega), det_pure, wSucc (show i < 9223372036854775807 by omega)]
    have e : (cond (g == decide (ofV a x.dev < ofV b x.dev)) (pure (ofV b x.dev)) (pure (ofV a x.dev)) : M Int) = pure (f x.dev) := by
      show _ = pure (if g = decide (ofV a x.dev < ofV b x.dev) then _ else _)
      by_cases hc : g = decide (ofV a x.dev < ofV b x.dev)
      · rw [if_pos hc, beq_iff_eq.2 hc]; rfl
      · rw [if_neg hc, beq_eq_false_iff_ne.2 hc]; rfl
    rw [e, pure_bind, cond_dec]
    split
    · rw [need_true (by simp; omega)]; exact ⟨rfl, by simp; omega⟩
    · exact ⟨rfl, by omega⟩) (fun o _ => by unfold r08_both_l0; simp [pure_bind]) [] (by simp)
  rw [show ((0 : Int), ([] : List TDot)) = (((0 : Nat) : Int), []) from rfl, this, pure_bind]
  refine congrArg pure ?_
  have e : (ones (devsL (a ++ b))).foldl (fun o (d : TDot) => if 0 < f d.dev then o ++ [⟨d.dev, f d.dev⟩] else o) [] = vecOf f (devsL (a ++ b)) := by
    rw [ones, List.foldl_map]
    simpa using vecOf_fold f (devsL (a ++ b)) []
  rw [e]
  unfold joinV meetV
  cases g
  · congr 1; funext k; show (if false = decide (ofV a k < ofV b k) then _ else _) = _
    split
    · rename_i hc; have := of_decide_eq_false hc.symm; omega
    · rename_i hc; simp at hc; omega
  · congr 1; funext k; show (if true = decide (ofV a k < ofV b k) then _ else _) = _
    split
    · rename_i hc; have := of_decide_eq_true hc.symm; omega
    · rename_i hc; simp at hc; omega
theorem r08_Join_eq (a b : List TDot) (h : a.length + b.length ≤ 100000000000) : r08_Join a b = pure (joinV a b) := by unfold r08_Join; rw [r08_both_eq a b true h, det_pure]; rfl
theorem r08_Meet_eq (a b : List TDot) (h : a.length + b.length ≤ 100000000000) : r08_Meet a b = pure (meetV a b) := by unfold r08_Meet; rw [r08_both_eq a b false h, det_pure]; rfl
theorem joinV_nil (v : List TDot) : joinV v [] = normV v := by rw [← normV_app, List.append_nil]
theorem r08_Norm_eq (v : List TDot) (h : v.length ≤ 100000000000) : r08_Norm v = pure (normV v) := by unfold r08_Norm; rw [r08_both_eq v [] true (by simpa using h), det_pure, ← joinV_nil]; rfl
theorem r08_Within_eq (a b : List TDot) (h : a.length + b.length ≤ 100000000000) : r08_Within a b = pure (withinV a b) := by
  unfold r08_Within
  rw [r08_devs_eq a b h, det_pure, pure_bind]
  have := loopAll (body := r08_Within_l0 (ones (devsL (a ++ b))) a b) (ones (devsL (a ++ b))) (fun i => (i : Int)) (fun _ x => decide (ofV a x.dev ≤ ofV b x.dev)) (.brk ()) (.ret false) (fun i x hx hi => by
    have hlen : (ones (devsL (a ++ b))).length ≤ 100000000000 := by have := len_devs (a ++ b); simp [ones] at this ⊢; omega
    have h1 : decide ((i : Int) < ((ones (devsL (a ++ b))).length : Int)) = true := by simpa using hi
    unfold r08_Within_l0
    simp only [h1, cond_true, idx_nat hx, pure_bind, r08_Of_eq a _ (by omega), r08_Of_eq b _ (by omega), det_pure, wSucc (show i < 9223372036854775807 by omega), cond_dec, decide_eq_true_eq]
    by_cases hc : ofV b x.dev < ofV a x.dev
    · rw [if_pos hc, if_neg (by omega)]
    · rw [if_neg hc, if_pos (by omega)]) (by unfold r08_Within_l0; simp)
  rw [show (0 : Int) = ((0 : Nat) : Int) from rfl, this, pure_bind]
  have e : ((ones (devsL (a ++ b))).zipIdx.all fun y => decide (ofV a y.1.dev ≤ ofV b y.1.dev)) = withinV a b := by
    rw [Bool.eq_iff_iff, withinV_iff, List.all_eq_true]
    constructor
    · intro hall k
      by_cases hk : 0 < ofV a k
      · have hm : k ∈ devsL (a ++ b) := mem_devs.2 (by rw [ofV_app]; omega)
        have hm2 : (⟨k, 1⟩ : TDot) ∈ ones (devsL (a ++ b)) := List.mem_map.2 ⟨k, hm, rfl⟩
        obtain ⟨i, hi⟩ := List.getElem?_of_mem hm2
        simpa using hall (⟨k, 1⟩, i) (by rw [List.mk_mem_zipIdx_iff_getElem?]; exact hi)
      · have := ofV_range b k; omega
    · intro h y _; simpa using h y.1.dev
  rw [e]
  cases withinV a b <;> rfl
theorem r08_Order_eq (a b : List TDot) (h : a.length + b.length ≤ 100000000000) : r08_Order a b = pure (ordV (withinV a b) (withinV b a)) := by
  unfold r08_Order
  rw [r08_Within_eq a b h, r08_Within_eq b a (by omega)]
  simp only [det_pure, pure_bind]
  cases withinV a b <;> cases withinV b a <;> rfl
theorem r08_Lack_eq (a b : List TDot) (h : a.length + b.length ≤ 100000000000) : r08_Lack a b = pure (lackV a b % 18446744073709551616) := by
  unfold r08_Lack
  rw [r08_devs_eq a b h, det_pure, pure_bind]
  have := loopL (body := r08_Lack_l0 (ones (devsL (a ++ b))) a b) (ones (devsL (a ++ b))) (fun i (n : Int) => (n, (i : Int))) (fun n (d : TDot) => (n + lackF a b d.dev) % 18446744073709551616) (fun o => pure o) (fun i n => 0 ≤ n ∧ n < 18446744073709551616) (fun i x n hx hi hn => by
    have hlen : (ones (devsL (a ++ b))).length ≤ 100000000000 := by have := len_devs (a ++ b); simp [ones] at this ⊢; omega
    have h1 : decide ((i : Int) < ((ones (devsL (a ++ b))).length : Int)) = true := by simpa using hi
    unfold r08_Lack_l0
    simp only [h1, cond_true, idx_nat hx, pure_bind, r08_Of_eq a _ (by omega), r08_Of_eq b _ (by omega), det_pure, wSucc (show i < 9223372036854775807 by omega), cond_dec, wU64_mod]
    refine ⟨?_, by omega⟩
    unfold lackF
    by_cases hc : ofV a x.dev < ofV b x.dev
    · rw [if_pos hc, pure_bind, show ((n + ofV b x.dev) % 18446744073709551616 - ofV a x.dev) % 18446744073709551616 = (n + max 0 (ofV b x.dev - ofV a x.dev)) % 18446744073709551616 by omega]
    · rw [if_neg hc, pure_bind, show (n + max 0 (ofV b x.dev - ofV a x.dev)) % 18446744073709551616 = n by omega]) (fun o _ => by unfold r08_Lack_l0; simp [pure_bind]) 0 (by omega)
  rw [show ((0 : Int), (0 : Int)) = ((0 : Int), ((0 : Nat) : Int)) from rfl, this, pure_bind]
  refine congrArg pure ?_
  rw [← lackV_both a b (a ++ b) (fun k hk => by rw [ofV_app]; omega), ones, List.foldl_map]
  have hf : ∀ (l : List Int) (n : Int), l.foldl (fun n k => (n + lackF a b k) % 18446744073709551616) (n % 18446744073709551616) = (n + sumI (l.map (lackF a b))) % 18446744073709551616 := by
    intro l
    induction l with
    | nil => intro n; simp [sumI]
    | cons k r ih =>
      intro n
      rw [List.foldl_cons, List.map_cons, sumI_cons, show (n % 18446744073709551616 + lackF a b k) % 18446744073709551616 = (n + lackF a b k) % 18446744073709551616 by omega, ih]
      congr 1; omega
  simpa using hf (devsL (a ++ b)) 0
end Go.Ep.M

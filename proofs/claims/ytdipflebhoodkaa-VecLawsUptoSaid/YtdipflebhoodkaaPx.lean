/- The laws of vectors, plainly. No program in sight. -/
import Derived.Test.YtdipflebhoodkaaPw
namespace Go.Ep.M
open Go

theorem l08_few_eq (v : List TDot) : l08_few v = pure (decide (v.length ≤ 100)) := by
  unfold l08_few
  refine congrArg pure ?_
  rw [Bool.eq_iff_iff]; simp; omega
theorem equal_eq (a b : List TDot) (h : a.length ≤ 1000000000000) : slices_Equal_sl_Dot_Dot a b = pure (decide (a = b)) := by
  have e : slices_Equal_sl_Dot_Dot a b = r07_Same a b := rfl
  rw [e, r07_Same_eq a b h]
theorem dot_Same_eq (a b : List TDot) (h : a.length ≤ 1000000000000) : dot_Same a b = pure (decide (a = b)) := by
  unfold dot_Same
  rw [equal_eq a b h, det_pure, pure_bind]
theorem len_vecOf (f : Int → Int) (ks : List Int) : (vecOf f ks).length ≤ ks.length := List.length_filterMap_le _ _
theorem len_join (a b : List TDot) : (joinV a b).length ≤ a.length + b.length := Nat.le_trans (len_vecOf _ _) (by have := len_devs (a ++ b); simpa using this)
theorem len_meet (a b : List TDot) : (meetV a b).length ≤ a.length + b.length := Nat.le_trans (len_vecOf _ _) (by have := len_devs (a ++ b); simpa using this)
theorem len_norm (a : List TDot) : (normV a).length ≤ a.length := Nat.le_trans (len_vecOf _ _) (len_devs a)
theorem vec_Good_eq (v : List TDot) (h : v.length ≤ 1000000000000) : vec_Good v = pure (decide (v = normV v)) := by
  unfold vec_Good
  rw [vec_Norm_eq v h, det_pure, pure_bind, dot_Same_eq _ _ h, det_pure, pure_bind]
theorem works_eq : l08_works = pure true := by
  unfold l08_works
  rw [vec_Join_eq _ _ (by decide), det_pure, pure_bind, r07_Same_eq _ _ (by decide), det_pure, pure_bind]
  have e1 : decide (joinV [⟨1, 3⟩, ⟨2, 1⟩] [⟨2, 4⟩] = [⟨1, 3⟩, ⟨2, 4⟩]) = true := by decide
  rw [e1, cond_true, vec_Meet_eq _ _ (by decide) (by decide), det_pure, pure_bind, need_true (by decide), r07_Same_eq _ _ (by decide), det_pure, pure_bind]
  have e2 : decide (meetV [⟨1, 3⟩, ⟨2, 1⟩] [⟨2, 4⟩] = List.drop (Int.toNat 1) (List.take (Int.toNat (List.length [(⟨1, 3⟩ : TDot), (⟨2, 1⟩ : TDot)] : Int)) [⟨1, 3⟩, ⟨2, 1⟩])) = true := by decide
  rw [e2, cond_true, vec_Order_eq _ _ (by decide) (by decide) (by unfold okL; decide) (by unfold okL; decide), det_pure, pure_bind, vec_Lack_eq _ _ (by decide) (by decide), det_pure, pure_bind]
  rfl

/-! ### The algebra -/
theorem vecOf_mono {f : Int → Int} {ks ls : List Int} (h1 : ks.Pairwise (· < ·)) (h2 : ls.Pairwise (· < ·)) (h : ∀ k, 0 < f k → (k ∈ ks ↔ k ∈ ls)) : vecOf f ks = vecOf f ls :=
  ord_ext (ord_vecOf h1) (ord_vecOf h2) fun d => by
    rw [mem_vecOf, mem_vecOf]
    constructor
    · rintro ⟨a, b, c⟩; exact ⟨(h _ (by omega)).1 a, b, c⟩
    · rintro ⟨a, b, c⟩; exact ⟨(h _ (by omega)).2 a, b, c⟩
theorem ofV_mem {l : List TDot} (ho : Ord l) {d : TDot} (hd : d ∈ l) (hg : goodD d = true) : ofV l d.dev = d.n := by
  induction l with
  | nil => simp at hd
  | cons x r ih =>
    obtain ⟨h1, h2⟩ := List.pairwise_cons.1 ho
    simp only [ofV]
    rcases List.mem_cons.1 hd with e | hd
    · subst e
      rw [if_pos ⟨rfl, hg⟩]
      have h3 : ¬ 0 < ofV r d.dev := by
        rw [ofV_pos]
        rintro ⟨y, hy, h4, _⟩
        have := h1 y hy; omega
      have := ofV_range r d.dev
      have := goodD_iff.1 hg
      omega
    · rw [if_neg, ih h2 hd]
      rintro ⟨h3, _⟩
      have := h1 d hd; omega
theorem ofV_vecOf {f : Int → Int} {ks : List Int} (h : ks.Pairwise (· < ·)) (hf : ∀ k, 0 < f k → 1 ≤ k ∧ f k ≤ 281474976710655 ∧ k ∈ ks) (k : Int) : ofV (vecOf f ks) k = max 0 (f k) := by
  by_cases h0 : 0 < f k
  · obtain ⟨h1, h2, h3⟩ := hf k h0
    have := ofV_mem (ord_vecOf h) (d := ⟨k, f k⟩) (mem_vecOf.2 ⟨h3, h0, rfl⟩) (goodD_iff.2 ⟨h1, by simp; omega, h2⟩)
    simp only at this
    omega
  · have h3 : ¬ 0 < ofV (vecOf f ks) k := by
      rw [ofV_pos]
      rintro ⟨d, hd, rfl, _⟩
      have := (mem_vecOf.1 hd); omega
    have := ofV_range (vecOf f ks) k
    omega
theorem ofV_one {v : List TDot} {k : Int} (h : 0 < ofV v k) : 1 ≤ k := by
  refine Classical.byContradiction fun hk => ?_
  rw [ofV_bad (by omega)] at h; omega
theorem ofV_norm (a : List TDot) (k : Int) : ofV (normV a) k = ofV a k := by
  have h := ofV_range a k
  rw [normV, ofV_vecOf (devs_sorted a) (fun q hq => ⟨ofV_one hq, (ofV_range a q).2, mem_devs.2 hq⟩)]; omega
theorem ofV_join (a b : List TDot) (k : Int) : ofV (joinV a b) k = max (ofV a k) (ofV b k) := by rw [← normV_app, ofV_norm, ofV_app]
theorem ofV_meet (a b : List TDot) (k : Int) : ofV (meetV a b) k = min (ofV a k) (ofV b k) := by
  have h := ofV_range a k
  have h' := ofV_range b k
  rw [meetV, ofV_vecOf (devs_sorted _) (fun q hq => ⟨ofV_one (v := a) (by omega), by have := ofV_range a q; omega, mem_devs.2 (by rw [ofV_app]; omega)⟩)]
  omega
/-- Ordered vectors that tell the same are the same. -/
theorem norm_ext {a b : List TDot} (h : ∀ k, ofV a k = ofV b k) : normV a = normV b := by
  unfold normV
  rw [show ofV a = ofV b from funext h]
  refine vecOf_mono (devs_sorted a) (devs_sorted b) fun k _ => ?_
  rw [mem_devs, mem_devs, h]
theorem norm_join (a b : List TDot) : normV (joinV a b) = joinV a b := by
  rw [← normV_app]
  exact norm_ext (ofV_norm _)
theorem norm_norm (a : List TDot) : normV (normV a) = normV a := norm_ext (ofV_norm a)
theorem norm_meet (a b : List TDot) : normV (meetV a b) = meetV a b := by
  have e : ofV (meetV a b) = fun k => min (ofV a k) (ofV b k) := funext (ofV_meet a b)
  unfold normV
  rw [e]
  conv => rhs; unfold meetV
  refine vecOf_mono (devs_sorted _) (devs_sorted _) fun k hk => ?_
  rw [mem_devs, mem_devs, ofV_meet, ofV_app]
  omega
theorem ext_norm {a b : List TDot} (ha : normV a = a) (hb : normV b = b) (h : ∀ k, ofV a k = ofV b k) : a = b := by rw [← ha, ← hb]; exact norm_ext h
theorem join_bad {v : List TDot} {d : TDot} (h : goodD d = false) : joinV v [d] = normV v := by
  rw [← normV_app]
  refine norm_ext fun k => ?_
  have := ofV_range v k
  rw [ofV_app]
  simp [ofV, h]
  omega

theorem vecPairs_eq (a b : List TDot) (oa : okL a) (ob : okL b) : l08_VecPairs a b = pure true := by
  unfold l08_VecPairs
  rw [l08_few_eq, l08_few_eq, works_eq]
  simp only [det_pure, pure_bind]
  by_cases h1 : a.length ≤ 100
  · by_cases h2 : b.length ≤ 100
    · have e1 : decide (a.length ≤ 100) = true := by simpa using h1
      have e2 : decide (b.length ≤ 100) = true := by simpa using h2
      rw [e1, e2, vec_Join_eq a b (by omega), r08_Join_eq a b (by omega), vec_Meet_eq a b (by omega) (by omega), r08_Meet_eq a b (by omega), vec_Order_eq a b (by omega) (by omega) oa ob, r08_Order_eq a b (by omega), vec_Lack_eq a b (by omega) (by omega), r08_Lack_eq a b (by omega)]
      have l1 := len_join a b
      have l2 := len_meet a b
      simp only [det_pure, pure_bind, Bool.not_true, cond_false, r07_Same_eq _ _ (show (joinV a b).length ≤ 1000000000000 by omega), r07_Same_eq _ _ (show (meetV a b).length ≤ 1000000000000 by omega), decide_true, cond_true]
    · have e1 : decide (a.length ≤ 100) = true := by simpa using h1
      have e2 : decide (b.length ≤ 100) = false := by simpa using h2
      rw [e1, e2]; rfl
  · have e1 : decide (a.length ≤ 100) = false := by simpa using h1
    rw [e1]; rfl
theorem vecTells_eq (v : List TDot) (d : TDot) : l08_VecTells v d = pure true := by
  unfold l08_VecTells
  rw [l08_few_eq, works_eq]
  simp only [det_pure, pure_bind]
  by_cases h1 : v.length ≤ 100
  · have e1 : decide (v.length ≤ 100) = true := by simpa using h1
    have l1 := len_norm v
    have l2 := len_join v [d]
    rw [e1, r08_Norm_eq v (by omega), vec_Norm_eq v (by omega), r07_Good_eq, vec_Good_eq v (by omega), vec_Of_eq v _ (by omega), r08_Of_eq v _ (by omega), vec_Has_eq v d (by omega), vec_Put_eq v d (by omega), r08_Join_eq v [d] (by simp; omega)]
    simp only [det_pure, pure_bind, Bool.not_true, cond_false, r07_Same_eq _ _ (show (normV v).length ≤ 1000000000000 by omega), r07_Same_eq _ _ (show v.length ≤ 1000000000000 by omega), r07_Same_eq _ _ (show (joinV v [d]).length ≤ 1000000000000 by simp at l2; omega), decide_true, cond_true, beq_self_eq_true]
    cases hg : goodD d
    · simp only [cond_false, Bool.false_and, pure_bind, join_bad hg, beq_self_eq_true, cond_true]
      rfl
    · simp only [cond_true, Bool.true_and, pure_bind, beq_self_eq_true]
      rfl
  · have e1 : decide (v.length ≤ 100) = false := by simpa using h1
    rw [e1]; rfl

theorem okL_join {a b : List TDot} (ha : okL a) (hb : okL b) : okL (joinV a b) := by
  intro d hd
  obtain ⟨h1, h2, h3⟩ := mem_vecOf.1 hd
  have h4 := mem_devs.1 h1
  rw [ofV_pos] at h4
  obtain ⟨x, hx, h5, _⟩ := h4
  rcases List.mem_append.1 hx with hx | hx
  · have := ha x hx; omega
  · have := hb x hx; omega
theorem okL_norm {a : List TDot} (ha : okL a) : okL (normV a) := by
  rw [← joinV_nil]; exact okL_join ha (fun d hd => by simp at hd)
theorem vecLaws_eq (a b c : List TDot) (ha : a.length ≤ 1000000000) (hb : b.length ≤ 1000000000) (hc : c.length ≤ 1000000000) (oa : okL a) : l08_VecLaws a b c = pure true := by
  unfold l08_VecLaws
  have l1 := len_norm a
  have l2 := len_join a b
  have l3 := len_join b a
  have l4 := len_join b c
  have l5 := len_meet a b
  have l6 := len_meet b c
  have l7 := len_join (joinV a b) c
  have l8 := len_meet (meetV a b) c
  have l9 := len_join a a
  have l10 := len_meet a (joinV a b)
  have l11 := len_join a (meetV a b)
  have e1 : joinV a b = joinV b a := ext_norm (norm_join _ _) (norm_join _ _) fun k => by rw [ofV_join, ofV_join]; omega
  have e2 : joinV (joinV a b) c = joinV a (joinV b c) := ext_norm (norm_join _ _) (norm_join _ _) fun k => by simp only [ofV_join]; omega
  have e3 : meetV (meetV a b) c = meetV a (meetV b c) := ext_norm (norm_meet _ _) (norm_meet _ _) fun k => by simp only [ofV_meet]; omega
  have e4 : joinV a a = normV a := ext_norm (norm_join _ _) (norm_norm _) fun k => by rw [ofV_join, ofV_norm]; omega
  have e5 : meetV a (joinV a b) = normV a := ext_norm (norm_meet _ _) (norm_norm _) fun k => by rw [ofV_meet, ofV_join, ofV_norm]; omega
  have e6 : joinV a (meetV a b) = normV a := ext_norm (norm_join _ _) (norm_norm _) fun k => by rw [ofV_join, ofV_meet, ofV_norm]; omega
  have w1 : withinV a (normV a) = true := withinV_iff.2 fun k => by rw [ofV_norm]; omega
  have w2 : withinV (normV a) a = true := withinV_iff.2 fun k => by rw [ofV_norm]; omega
  rw [vec_Norm_eq a (by omega), vec_Join_eq a b (by omega), vec_Join_eq b a (by omega), vec_Join_eq b c (by omega), vec_Meet_eq a b (by omega) (by omega), vec_Meet_eq b c (by omega) (by omega), vec_Join_eq a a (by omega)]
  simp only [det_pure, pure_bind]
  rw [r07_Same_eq _ _ (by omega), det_pure, pure_bind, decide_eq_true e1, cond_true, vec_Join_eq (joinV a b) c (by omega), det_pure, pure_bind, vec_Join_eq a (joinV b c) (by omega), det_pure, pure_bind, r07_Same_eq _ _ (by omega), det_pure, pure_bind, decide_eq_true e2, cond_true,
    vec_Meet_eq (meetV a b) c (by omega) (by omega), det_pure, pure_bind, vec_Meet_eq a (meetV b c) (by omega) (by omega), det_pure, pure_bind, r07_Same_eq _ _ (by omega), det_pure, pure_bind, decide_eq_true e3, cond_true,
    r07_Same_eq _ _ (by omega), det_pure, pure_bind, decide_eq_true e4, cond_true, vec_Meet_eq a (joinV a b) (by omega) (by omega), det_pure, pure_bind, r07_Same_eq _ _ (by omega), det_pure, pure_bind, decide_eq_true e5, cond_true,
    vec_Join_eq a (meetV a b) (by omega), det_pure, pure_bind, r07_Same_eq _ _ (by omega), det_pure, pure_bind, decide_eq_true e6, cond_true, vec_Good_eq _ (by omega), det_pure, pure_bind, decide_eq_true (norm_norm a).symm, cond_true,
    vec_Order_eq a (normV a) (by omega) (by omega) oa (okL_norm oa), det_pure, pure_bind, w1, w2, works_eq, det_pure]
  rfl
theorem has_iff {v : List TDot} {d : TDot} : (goodD d && decide (d.n ≤ ofV v d.dev)) = true ↔ goodD d = true ∧ d.n ≤ ofV v d.dev := by simp
theorem vecHas_eq (a b : List TDot) (d : TDot) (ha : a.length ≤ 1000000000) (hb : b.length ≤ 1000000000) (oa : okL a) (ob : okL b) (od : d.dev ≤ 65535) : l08_VecHas a b d = pure true := by
  unfold l08_VecHas
  have l2 := len_join a b
  have l5 := len_meet a b
  have l9 := len_join a [d]
  simp only [List.length_cons, List.length_nil] at l9
  have od' : okL [d] := fun x hx => by rw [List.mem_singleton.1 hx]; exact od
  have oj := okL_join oa od'
  have w1 : withinV a (joinV a [d]) = true := withinV_iff.2 fun k => by rw [ofV_join]; omega
  have q1 : (goodD d && decide (d.n ≤ ofV (joinV a b) d.dev)) = ((goodD d && decide (d.n ≤ ofV a d.dev)) || (goodD d && decide (d.n ≤ ofV b d.dev))) := by
    rw [ofV_join, Bool.eq_iff_iff]; simp only [Bool.and_eq_true, Bool.or_eq_true, decide_eq_true_eq]
    constructor
    · rintro ⟨h1, h2⟩; by_cases h3 : d.n ≤ ofV a d.dev
      · exact .inl ⟨h1, h3⟩
      · exact .inr ⟨h1, by omega⟩
    · rintro (⟨h1, h2⟩ | ⟨h1, h2⟩) <;> exact ⟨h1, by omega⟩
  have q2 : (goodD d && decide (d.n ≤ ofV (meetV a b) d.dev)) = ((goodD d && decide (d.n ≤ ofV a d.dev)) && (goodD d && decide (d.n ≤ ofV b d.dev))) := by
    rw [ofV_meet, Bool.eq_iff_iff]; simp only [Bool.and_eq_true, decide_eq_true_eq]
    constructor
    · rintro ⟨h1, h2⟩; exact ⟨⟨h1, by omega⟩, h1, by omega⟩
    · rintro ⟨⟨h1, h2⟩, _, h3⟩; exact ⟨h1, by omega⟩
  have q3 : (goodD d && decide (d.n ≤ ofV (joinV a [d]) d.dev)) = goodD d := by
    rw [ofV_join]
    cases hg : goodD d
    · rfl
    · have : ofV [d] d.dev = d.n := by have := goodD_iff.1 hg; simp [ofV, hg]; omega
      rw [this]; simp; omega
  rw [vec_Join_eq a b (by omega), vec_Meet_eq a b (by omega) (by omega), vec_Put_eq a d (by omega), vec_Order_eq a b (by omega) (by omega) oa ob, vec_Lack_eq a b (by omega) (by omega), vec_Lack_eq b a (by omega) (by omega), lack_mod ob, lack_mod oa, works_eq, r07_Good_eq, vec_Has_eq a d (by omega), vec_Has_eq b d (by omega)]
  simp only [det_pure, pure_bind]
  rw [vec_Has_eq (joinV a b) d (by omega), vec_Has_eq (meetV a b) d (by omega), vec_Has_eq (joinV a [d]) d (by omega), vec_Order_eq a (joinV a [d]) (by omega) (by omega) oa oj, q1, q2, q3, w1]
  simp only [det_pure, pure_bind]
  have h1 : decide (lackV b a = 0) = withinV a b := by rw [Bool.eq_iff_iff]; simp [lack_zero]
  have h2 : decide (lackV a b = 0) = withinV b a := by rw [Bool.eq_iff_iff]; simp [lack_zero]
  rw [h1, h2]
  generalize (goodD d && decide (d.n ≤ ofV a d.dev)) = x
  generalize (goodD d && decide (d.n ≤ ofV b d.dev)) = y
  generalize goodD d = z
  generalize withinV a b = l
  generalize withinV b a = m
  generalize withinV (joinV a [d]) a = n
  cases x <;> cases y <;> cases z <;> cases l <;> cases m <;> cases n <;> rfl
end Go.Ep.M

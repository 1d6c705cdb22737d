/- Runs, plainly: the statements. No program in sight. -/
import Derived.Test.YtdipflebhoodkaaRy
namespace Go.Ep.M
open Go

theorem runsTells_eq (l : List TRun) (n : Int) (nums : List Int) : l06_RunsTells l n nums = pure true := by
  unfold l06_RunsTells
  rw [few_eq, det_pure, pure_bind, works_eq]
  by_cases h1 : (l.length : Int) ≤ 60
  · by_cases h2 : (60 : Int) < nums.length
    · simp only [h1, h2, decide_true, Bool.not_true, cond_false, cond_true, pure_bind, det_pure]
    · simp only [h1, h2, decide_true, decide_false, Bool.not_true, cond_false, pure_bind, det_pure]
      have hl := nrm_len l
      have hn := nrm_len (ones nums)
      have ho : (ones nums).length = nums.length := by simp [ones]
      have hs := (setR_props (· || ·) rfl l [⟨n, n⟩]).2.2
      simp only [List.length_cons, List.length_nil] at hs
      rw [norm_eq l (by omega), rnorm_eq l (by omega), good_eq l (by omega), rgood_eq l (by omega), has_eq l n (by omega), rhas_eq l n (by omega), add_eq l n (by omega), rjoin_eq l _ (by simp; omega), size_eq l (by omega), rsize_eq l (by omega), first_eq l (by omega), rfirst_eq l (by omega), last_eq l (by omega), rlast_eq l (by omega), of_eq nums (by omega), rof_eq nums (by omega)]
      simp only [det_pure, pure_bind]
      rw [req_eq _ _ (by omega), req_eq _ _ (by omega), req_eq _ _ (by omega)]
      simp only [det_pure, pure_bind, decide_true, cond_true, beq_self_eq_true]
  · simp only [h1, decide_false, Bool.not_false, cond_true, pure_bind, det_pure]

theorem runsSets_eq (a b : List TRun) : l06_RunsSets a b = pure true := by
  unfold l06_RunsSets
  rw [few_eq, few_eq, works_eq]
  by_cases h1 : (a.length : Int) ≤ 60
  · by_cases h2 : (b.length : Int) ≤ 60
    · simp only [h1, h2, decide_true, Bool.not_true, cond_false, pure_bind, det_pure]
      have la := nrm_len a
      have l1 := (setR_props (· || ·) rfl a b).2.2
      have l2 := (setR_props (· && ·) rfl a b).2.2
      have l3 := (setR_props (fun x y => x && !y) rfl a b).2.2
      rw [join_eq a b (by omega), rjoin_eq a b (by omega), meetN_eq a b (by omega) (by omega), rmeet_eq a b (by omega), minus_eq a b (by omega) (by omega), rminus_eq a b (by omega), within_eq a b (by omega) (by omega), same_eq a b (by omega) (by omega), rnorm_eq a (by omega), rnorm_eq b (by omega)]
      simp only [det_pure, pure_bind]
      rw [req_eq _ _ (by omega), req_eq _ _ (by omega), req_eq _ _ (by omega), req_eq _ _ (by omega)]
      have e : (decide (setR (fun x y => x && !y) a b = []) == decide (((setR (fun x y => x && !y) a b).length : Int) = 0)) = true := by
        cases setR (fun x y => x && !y) a b with
        | nil => rfl
        | cons x r =>
          have : decide (((x :: r).length : Int) = 0) = false := by simp only [List.length_cons, decide_eq_false_iff_not]; omega
          rw [this]; rfl
      simp only [det_pure, pure_bind, decide_true, cond_true, beq_self_eq_true, e]
    · simp only [h1, h2, decide_true, decide_false, Bool.not_true, Bool.not_false, cond_false, cond_true, pure_bind, det_pure]
  · simp only [h1, decide_false, Bool.not_false, cond_true, pure_bind, det_pure]

/-! ### The first one that lacks -/
theorem first_props {v : List TRun} (h : Nf v) : hasR v (firstR v) = false ∧ (firstR v = 1 ∨ hasR v (firstR v - 1) = true) ∧ 1 ≤ firstR v ∧ firstR v ≤ 281474976710656 := by
  cases v with
  | nil => simp [firstR]
  | cons x r =>
    have hx := mayR_iff.1 h.1
    unfold firstR
    by_cases hc : x.lo = 1
    · simp only [hc, if_true]
      refine ⟨?_, .inr ?_, by omega, by omega⟩
      · rw [Bool.eq_false_iff]
        intro hh
        rw [nf_hi h (by omega)] at hh
        rcases hh with hh | hh
        · omega
        · have := nf_low h hh; omega
      · rw [nf_hi h (by omega)]; left; omega
    · simp only [hc, if_false]
      refine ⟨?_, .inl trivial, by omega, by omega⟩
      rw [Bool.eq_false_iff]
      intro hh
      have := nf_least h hh
      omega
def yth (nums : List Int) (from_ i : Nat) : Nat := (nums.length - 1 - i + from_) % nums.length
def ysR (nums : List Int) (from_ : Nat) : List Int := (List.range nums.length).map fun i => nums.getD (yth nums from_ i) 0
theorem ysR_mem (nums : List Int) (from_ : Nat) (n : Int) : n ∈ ysR nums from_ ↔ n ∈ nums := by
  unfold ysR
  simp only [List.mem_map, List.mem_range]
  constructor
  · rintro ⟨i, hi, rfl⟩
    have : yth nums from_ i < nums.length := Nat.mod_lt _ (by omega)
    simp [List.getD, this]
  · intro hn
    obtain ⟨j, hj, rfl⟩ := List.getElem_of_mem hn
    refine ⟨(nums.length - 1 + from_ + nums.length - j) % nums.length, Nat.mod_lt _ (by omega), ?_⟩
    have e : yth nums from_ ((nums.length - 1 + from_ + nums.length - j) % nums.length) = j := by
      unfold yth
      clear hn
      generalize nums.length = N at hj
      have h0 : 0 < N := by omega
      generalize hK : N - 1 + from_ + N - j = K
      have hm := Nat.mod_add_div K N
      have hlt := Nat.mod_lt K h0
      generalize K % N = r at hm hlt
      -- N - 1 - r + from_ is j + N * q for a q, or one N less
      have h1 : N - 1 - r + from_ + N = j + N * (K / N) := by omega
      have h2 : (N - 1 - r + from_ + N) % N = j := by
        rw [h1, Nat.add_mul_mod_self_left, Nat.mod_eq_of_lt hj]
      rwa [Nat.add_mod_right] at h2
    rw [e]
    simp [List.getD, hj]
theorem add_ones (l : List Int) (n : Int) : setR (· || ·) (nrm (ones l)) [⟨n, n⟩] = nrm (ones (l ++ [n])) := by
  obtain ⟨s1, s2, _⟩ := setR_props (· || ·) rfl (nrm (ones l)) [⟨n, n⟩]
  refine nrm_of s1 fun m => ?_
  rw [s2, nrm_has]
  simp only [ones, List.map_append, List.map_cons, List.map_nil]
  rw [hasR_app]
theorem ones_len (l : List Int) : (ones l).length = l.length := by simp [ones]
theorem runsOrder_eq (nums : List Int) (from_ : Int) (h0 : 0 ≤ from_) (hf : from_ ≤ 255) : l06_RunsOrder nums from_ = pure true := by
  unfold l06_RunsOrder
  rw [works_eq]
  by_cases h1 : (200 : Int) < nums.length
  · simp only [h1, decide_true, cond_true, det_pure, pure_bind]
  · simp only [h1, decide_false, cond_false]
    have hlen : nums.length ≤ 200 := by omega
    have hb : ∀ l : List Int, l.length ≤ nums.length → (nrm (ones l)).length ≤ 400 := fun l hl => by
      have := nrm_len (ones l); rw [ones_len] at this; omega
    have hyl : (ysR nums from_.toNat).length = nums.length := by simp [ysR]
    have hloop := loopL (body := l06_RunsOrder_l0 nums from_) nums (fun i (t : List TRun × List TRun) => (t.1, t.2, (i : Int))) (fun t _ => t) (fun t => pure t) (fun _ _ => False)
    clear hloop
    have hloop := loopL (body := l06_RunsOrder_l0 nums from_) nums.zipIdx (fun i (t : List TRun × List TRun) => (t.1, t.2, (i : Int)))
      (fun t x => (setR (· || ·) t.1 [⟨x.1, x.1⟩], setR (· || ·) t.2 [⟨nums.getD (yth nums from_.toNat x.2) 0, nums.getD (yth nums from_.toNat x.2) 0⟩])) (fun t => pure t) (fun i t => t = (nrm (ones (nums.take i)), nrm (ones ((ysR nums from_.toNat).take i)))) (fun i x t hx hi hI => by
      obtain ⟨x, k⟩ := x
      rw [List.getElem?_zipIdx] at hx
      have hlt : i < nums.length := by simpa using hi
      rw [List.getElem?_eq_getElem hlt] at hx
      simp only [Option.map_some, Option.some.injEq, Prod.mk.injEq, Nat.zero_add] at hx
      obtain ⟨hx1, hx2⟩ := hx
      subst hx2
      subst hI
      have hxg : nums[i]? = some x := by rw [List.getElem?_eq_getElem hlt, hx1]
      have hy : (ysR nums from_.toNat)[i]? = some (nums.getD (yth nums from_.toNat i) 0) := by simp [ysR, hlt]
      have hyi : yth nums from_.toNat i < nums.length := Nat.mod_lt _ (by omega)
      have e1 : decide ((i : Int) < (nums.length : Int)) = true := by simpa using hlt
      have e2 : Int.tmod (IntKind.i64.wrap (IntKind.i64.wrap (IntKind.i64.wrap ((nums.length : Int) - 1) - i) + IntKind.i64.wrap from_)) (nums.length : Int) = ((yth nums from_.toNat i : Nat) : Int) := by
        rw [wI64 (n := (nums.length : Int) - 1) (by omega) (by omega), wI64 (n := from_) (by omega) (by omega), wI64 (n := (nums.length : Int) - 1 - i) (by omega) (by omega), wI64 (by omega) (by omega)]
        have : (nums.length : Int) - 1 - i + from_ = ((nums.length - 1 - i + from_.toNat : Nat) : Int) := by omega
        rw [this]
        rfl
      have g1 := hb (nums.take i) (by simp; omega)
      have g2 := hb ((ysR nums from_.toNat).take i) (by simp; omega)
      refine ⟨?_, ?_⟩
      · unfold l06_RunsOrder_l0
        simp only [e1, cond_true, idx_nat hxg, pure_bind, wSucc (show i < 9223372036854775807 by omega)]
        rw [add_eq _ _ (by omega), det_pure, pure_bind, need_true (by omega), e2, idx_nat (List.getElem?_eq_getElem hyi), pure_bind, add_eq _ _ (by omega), det_pure, pure_bind]
        simp [List.getD, hyi]
      · simp only
        rw [add_ones, add_ones, List.take_add_one, List.take_add_one, hxg, hy]
        rfl) (fun t _ => by
      unfold l06_RunsOrder_l0
      simp [pure_bind]) ([], []) rfl
    rw [show (([], [], 0) : List TRun × List TRun × Int) = ([], [], ((0 : Nat) : Int)) from rfl, hloop]
    -- what came out
    have hfin : nums.zipIdx.foldl (fun (t : List TRun × List TRun) x => (setR (· || ·) t.1 [(⟨x.1, x.1⟩ : TRun)], setR (· || ·) t.2 [(⟨nums.getD (yth nums from_.toNat x.2) 0, nums.getD (yth nums from_.toNat x.2) 0⟩ : TRun)])) ([], []) = (nrm (ones nums), nrm (ones nums)) := by
      have key : ∀ (l : List (Int × Nat)) (u v : List Int), l.foldl (fun (t : List TRun × List TRun) x => (setR (· || ·) t.1 [(⟨x.1, x.1⟩ : TRun)], setR (· || ·) t.2 [(⟨nums.getD (yth nums from_.toNat x.2) 0, nums.getD (yth nums from_.toNat x.2) 0⟩ : TRun)])) (nrm (ones u), nrm (ones v)) = (nrm (ones (u ++ l.map (·.1))), nrm (ones (v ++ l.map fun x => nums.getD (yth nums from_.toNat x.2) 0))) := by
        intro l
        induction l with
        | nil => intro u v; simp
        | cons x r ih =>
          intro u v
          rw [List.foldl_cons]
          simp only
          rw [add_ones, add_ones, ih]
          simp
      have := key nums.zipIdx [] []
      have e0 : nrm (ones []) = [] := rfl
      rw [e0] at this
      rw [this, List.nil_append, List.nil_append]
      have f1 : nums.zipIdx.map (·.1) = nums := by simp
      have f2 : (nums.zipIdx.map fun x => nums.getD (yth nums from_.toNat x.2) 0) = ysR nums from_.toNat := by
        unfold ysR
        apply List.ext_getElem?
        intro i
        by_cases hi : i < nums.length
        · simp [hi]
        · simp [hi]
      rw [f1, f2]
      congr 1
      refine nf_ext (nrm_nf _) (nrm_nf _) fun n => ?_
      rw [nrm_has, nrm_has, Bool.eq_iff_iff, hasR_ones, hasR_ones, ysR_mem]
    rw [hfin]
    have hN := nrm_nf (ones nums)
    have hl := hb nums (Nat.le_refl _)
    have ho := of_eq nums (by omega)
    have hs := nrm_self hN
    obtain ⟨q1, q2, q3, q4⟩ := first_props hN
    generalize nrm (ones nums) = v at hN hl ho hs q1 q2 q3 q4
    simp only [pure_bind]
    rw [first_eq v (by omega), hs, det_pure, pure_bind, req_eq _ _ (by omega), ho, good_eq v (by omega), hs, has_eq v _ (by omega), q1]
    simp only [det_pure, pure_bind, decide_true, cond_true, Bool.not_false]
    rw [req_eq _ _ (by omega), det_pure, pure_bind, decide_eq_true (rfl : v = v), cond_true]
    by_cases hc : firstR v = 1
    · simp only [hc, decide_true, cond_true, pure_bind]
    · have q2' := q2.resolve_left hc
      rw [decide_eq_false hc, cond_false, wU64 (by omega) (by omega), has_eq v _ (by omega), q2', det_pure]
      rfl

/-! ### How many -/
theorem count_or {α : Type} (p q : α → Bool) (l : List α) : l.countP (fun x => p x || q x) + l.countP (fun x => p x && q x) = l.countP p + l.countP q := by
  induction l with
  | nil => rfl
  | cons x r ih =>
    simp only [List.countP_cons]
    cases p x <;> cases q x <;> simp <;> omega
theorem count_span (lo hi : Nat) (K : Nat) : (List.range K).countP (fun k => decide (lo ≤ k) && decide (k ≤ hi)) = min K (hi + 1) - lo := by
  induction K with
  | zero => simp
  | succ K ih =>
    rw [List.range_succ, List.countP_append, ih, List.countP_singleton]
    by_cases h1 : lo ≤ K <;> by_cases h2 : K ≤ hi <;> simp [h1, h2] <;> omega
theorem sizeR_cons (x : TRun) (r : List TRun) : sizeR (x :: r) = (x.hi - x.lo + 1) + sizeR r := by
  have : ∀ (l : List TRun) (n : Int), l.foldl (fun n x => n + (x.hi - x.lo + 1)) n = n + l.foldl (fun n x => n + (x.hi - x.lo + 1)) 0 := by
    intro l
    induction l with
    | nil => intro n; simp
    | cons y s ih => intro n; rw [List.foldl_cons, List.foldl_cons, ih, ih (0 + _)]; omega
  unfold sizeR
  rw [List.foldl_cons, this]
  omega
theorem size_count {K : Nat} (hK : (281474976710655 : Int) < K) : ∀ {l : List TRun}, Nf l → sizeR l = ((List.range K).countP fun k : Nat => hasR l (k : Int) : Nat)
  | [], _ => by simp [sizeR]
  | x :: r, h => by
    have hx := mayR_iff.1 h.1
    rw [sizeR_cons, size_count hK h.2.2]
    have h1 := count_or (fun k : Nat => inR (k : Int) x) (fun k : Nat => hasR r (k : Int)) (List.range K)
    have h2 : (List.range K).countP (fun k : Nat => inR (k : Int) x && hasR r (k : Int)) = 0 := by
      rw [List.countP_eq_zero]
      intro k _ hk
      rw [Bool.and_eq_true, inR_iff] at hk
      have := nf_low h hk.2
      omega
    have h3 : (List.range K).countP (fun k : Nat => inR (k : Int) x) = x.hi.toNat + 1 - x.lo.toNat := by
      have : (fun k : Nat => inR (k : Int) x) = fun k => decide (x.lo.toNat ≤ k) && decide (k ≤ x.hi.toNat) := by
        funext k
        rw [Bool.eq_iff_iff, inR_iff, Bool.and_eq_true, decide_eq_true_eq, decide_eq_true_eq]
        omega
      rw [this, count_span]
      omega
    have h4 : (fun k : Nat => hasR (x :: r) (k : Int)) = fun k : Nat => inR (k : Int) x || hasR r (k : Int) := rfl
    rw [h4]
    omega
theorem size_or (a b j m : List TRun) (ha : Nf a) (hb : Nf b) (hj : Nf j) (hm : Nf m) (ej : ∀ n, hasR j n = (hasR a n || hasR b n)) (em : ∀ n, hasR m n = (hasR a n && hasR b n)) : sizeR j + sizeR m = sizeR a + sizeR b := by
  obtain ⟨K, hK⟩ : ∃ K : Nat, (281474976710655 : Int) < K := ⟨281474976710656, by omega⟩
  rw [size_count hK ha, size_count hK hb, size_count hK hj, size_count hK hm]
  have := count_or (fun k : Nat => hasR a (k : Int)) (fun k : Nat => hasR b (k : Int)) (List.range K)
  have e1 : (fun k : Nat => hasR j (k : Int)) = fun k : Nat => hasR a (k : Int) || hasR b (k : Int) := funext fun k => ej k
  have e2 : (fun k : Nat => hasR m (k : Int)) = fun k : Nat => hasR a (k : Int) && hasR b (k : Int) := funext fun k => em k
  rw [e1, e2]
  omega
theorem nf_none {v : List TRun} (h : Nf v) (h2 : ∀ n, hasR v n = false) : v = [] := nf_ext h (trivial : Nf []) fun n => by rw [h2]; rfl
theorem nm_wrap (x y z w : Int) (h : x + y = z + w) : decide (IntKind.u64.wrap (IntKind.u64.wrap x + IntKind.u64.wrap y) = IntKind.u64.wrap (IntKind.u64.wrap z + IntKind.u64.wrap w)) = true := by
  rw [decide_eq_true_eq]
  simp only [wU64_mod]
  omega
theorem runsLaws_eq (a b : List TRun) (n : Int) (ha : a.length ≤ 100000000) (hb : b.length ≤ 100000000) : l06_RunsLaws a b n = pure true := by
  unfold l06_RunsLaws
  obtain ⟨j1, j2, j3⟩ := setR_props (· || ·) rfl a b
  obtain ⟨m1, m2, m3⟩ := setR_props (· && ·) rfl a b
  obtain ⟨d1, d2, d3⟩ := setR_props (fun x y => x && !y) rfl a b
  have ej : setR (· || ·) b a = setR (· || ·) a b := by
    obtain ⟨s1, s2, _⟩ := setR_props (· || ·) rfl b a
    exact nf_ext s1 j1 fun k => by rw [s2, j2, Bool.or_comm]
  have em : setR (· && ·) b a = setR (· && ·) a b := by
    obtain ⟨s1, s2, _⟩ := setR_props (· && ·) rfl b a
    exact nf_ext s1 m1 fun k => by rw [s2, m2, Bool.and_comm]
  rw [join_eq a b (by omega), meetN_eq a b (by omega) (by omega), minus_eq a b (by omega) (by omega), join_eq b a (by omega), meetN_eq b a (by omega) (by omega), ej, em, works_eq, has_eq a n (by omega), has_eq b n (by omega), size_eq a (by omega), size_eq b (by omega)]
  simp only [det_pure, pure_bind]
  have hz := nm_wrap (sizeR (nrm (setR (· || ·) a b))) (sizeR (nrm (setR (· && ·) a b))) (sizeR (nrm a)) (sizeR (nrm b)) (size_or _ _ _ _ (nrm_nf a) (nrm_nf b) (nrm_nf _) (nrm_nf _) (fun k => by rw [nrm_has, nrm_has, nrm_has, j2]) (fun k => by rw [nrm_has, nrm_has, nrm_has, m2]))
  have sj := nrm_self j1
  have sm := nrm_self m1
  have sd := nrm_self d1
  have hj := j2 n
  have hm := m2 n
  have hd := d2 n
  generalize setR (· || ·) a b = j at j1 j2 j3 hz sj hj
  generalize setR (· && ·) a b = m at m1 m2 m3 hz sm hm
  generalize setR (fun x y => x && !y) a b = d at d1 d2 d3 sd hd
  obtain ⟨u1, u2, u3⟩ := setR_props (· || ·) rfl d m
  have e1 : nrm (setR (· || ·) d m) = nrm a := nf_ext (nrm_nf _) (nrm_nf _) fun k => by
    rw [nrm_has, nrm_has, u2, d2, m2]; cases hasR a k <;> cases hasR b k <;> rfl
  have e2 : setR (· && ·) d b = [] := by
    obtain ⟨s1, s2, _⟩ := setR_props (· && ·) rfl d b
    exact nf_none s1 fun k => by rw [s2, d2]; cases hasR a k <;> cases hasR b k <;> rfl
  have e3 : setR (fun x y => x && !y) m a = [] := by
    obtain ⟨s1, s2, _⟩ := setR_props (fun x y => x && !y) rfl m a
    exact nf_none s1 fun k => by rw [s2, m2]; cases hasR a k <;> cases hasR b k <;> rfl
  have e4 : setR (fun x y => x && !y) a j = [] := by
    obtain ⟨s1, s2, _⟩ := setR_props (fun x y => x && !y) rfl a j
    exact nf_none s1 fun k => by rw [s2, j2]; cases hasR a k <;> cases hasR b k <;> rfl
  have tail : (M.bind (M.det (runs_Size j)) fun v70 => M.bind (M.det (runs_Size m)) fun v72 =>
      cond (decide (IntKind.u64.wrap (v70 + v72) = IntKind.u64.wrap (IntKind.u64.wrap (sizeR (nrm a)) + IntKind.u64.wrap (sizeR (nrm b))))) (M.bind (M.det (r06_Eq j j)) fun v81 => cond v81 (M.bind (M.det (r06_Eq m m)) fun v86 => cond v86 (M.bind (M.det (runs_Join d m)) fun v89 => M.bind (M.det (runs_Same v89 a)) fun v91 => cond v91 (M.bind (M.det (runs_Meet d b)) fun v94 => cond (decide ((v94.length : Int) = 0)) (M.bind (M.det (runs_Within m a)) fun v97 => cond v97 (M.bind (M.det (runs_Within a j)) fun v100 => cond v100 (M.bind (M.det (runs_Good j)) fun v103 => cond v103 (M.bind (M.det (runs_Good m)) fun v106 => cond v106 (M.bind (M.det (runs_Good d)) fun v109 => cond v109 (M.pure true) (M.pure false)) (M.pure false)) (M.pure false)) (M.pure false)) (M.pure false)) (M.pure false)) (M.pure false)) (M.pure false)) (M.pure false)) (M.pure false)) = pure true := by
    rw [size_eq j (by omega), size_eq m (by omega), req_eq j j (by omega), req_eq m m (by omega), join_eq d m (by omega), meetN_eq d b (by omega) (by omega), within_eq m a (by omega) (by omega), within_eq a j (by omega) (by omega), good_eq j (by omega), good_eq m (by omega), good_eq d (by omega)]
    simp only [det_pure, pure_bind]
    rw [same_eq _ a (by omega) (by omega), hz, e1, e2, e3, e4, sj, sm, sd]
    simp only [det_pure, pure_bind, decide_true, cond_true]
    rfl
  have tail' := tail
  rw [has_eq j n (by omega), has_eq m n (by omega), has_eq d n (by omega), hj, hm, hd]
  simp only [det_pure, pure_bind]
  cases hasR a n <;> cases hasR b n <;> exact tail
end Go.Ep.M

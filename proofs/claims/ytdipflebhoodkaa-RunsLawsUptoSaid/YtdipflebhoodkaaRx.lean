/- Runs, plainly: the program's functions. No program in sight. -/
import Derived.Test.YtdipflebhoodkaaRw
namespace Go.Ep.M
open Go

/-! ### Putting in order -/
def addN (out : List TRun) (x : TRun) : List TRun := match out.getLast? with
  | some y => if x.lo ≤ y.hi + 1 then out.dropLast ++ [⟨y.lo, max y.hi x.hi⟩] else out ++ [x]
  | none => out ++ [x]
theorem addN_nil (x : TRun) : addN [] x = [x] := rfl
theorem addN_snoc (l : List TRun) (y x : TRun) : addN (l ++ [y]) x = if x.lo ≤ y.hi + 1 then l ++ [⟨y.lo, max y.hi x.hi⟩] else l ++ [y] ++ [x] := by simp [addN]
theorem addN_props {out : List TRun} {x : TRun} (h : Nf out) (hx : mayR x = true) (hlo : ∀ y ∈ out, y.lo ≤ x.lo) : Nf (addN out x) ∧ (∀ n, hasR (addN out x) n = (hasR out n || inR n x)) ∧ (∀ y ∈ addN out x, y.lo ≤ x.lo) ∧ (addN out x).length ≤ out.length + 1 := by
  have hxm := mayR_iff.1 hx
  rcases snoc_cases out with rfl | ⟨l, y, rfl⟩
  · rw [addN_nil]
    exact ⟨⟨hx, by simp, trivial⟩, fun n => by rw [hasR_one]; simp, by simp, by simp⟩
  · rw [addN_snoc]
    obtain ⟨n1, n2, n3⟩ := nf_snoc.1 h
    have hym := mayR_iff.1 n2
    have hyx := hlo y (by simp)
    by_cases hc : x.lo ≤ y.hi + 1
    · rw [if_pos hc]
      have hm : mayR (⟨y.lo, max y.hi x.hi⟩ : TRun) = true := mayR_iff.2 ⟨hym.1, by simp only; omega, by simp only; omega⟩
      refine ⟨nf_snoc.2 ⟨n1, hm, n3⟩, fun n => ?_, fun z hz => ?_, by simp⟩
      · rw [hasR_app, hasR_app, hasR_one, hasR_one, Bool.or_assoc]
        congr 1
        rw [Bool.eq_iff_iff, Bool.or_eq_true, inR_iff, inR_iff, inR_iff]
        have := mayR_iff.1 hm
        simp only at this ⊢
        omega
      · rcases List.mem_append.1 hz with hz | hz
        · exact hlo z (by simp [hz])
        · simp at hz; subst hz; exact hyx
    · rw [if_neg hc]
      refine ⟨nf_snoc.2 ⟨h, hx, fun z hz => ?_⟩, fun n => by rw [hasR_app (l ++ [y]), hasR_one], fun z hz => ?_, by simp⟩
      · rcases List.mem_append.1 hz with hz | hz
        · have := n3 z hz; omega
        · simp at hz; subst hz; omega
      · rcases List.mem_append.1 hz with hz | hz
        · exact hlo z hz
        · simp at hz; subst hz; exact Int.le_refl _
theorem addN_fold : ∀ (s out : List TRun), Nf out → (∀ x ∈ s, mayR x = true) → s.Pairwise (fun x y => x.lo ≤ y.lo) → (∀ y ∈ out, ∀ x ∈ s, y.lo ≤ x.lo) → Nf (s.foldl addN out) ∧ (∀ n, hasR (s.foldl addN out) n = (hasR out n || hasR s n)) ∧ (s.foldl addN out).length ≤ out.length + s.length
  | [], out, h, _, _, _ => ⟨h, by simp, by simp⟩
  | x :: r, out, h, hm, hp, hlo => by
    obtain ⟨a1, a2, a3, a4⟩ := addN_props h (hm x (by simp)) fun y hy => hlo y hy x (by simp)
    obtain ⟨p1, p2⟩ := List.pairwise_cons.1 hp
    obtain ⟨i1, i2, i3⟩ := addN_fold r _ a1 (fun y hy => hm y (List.mem_cons_of_mem _ hy)) p2 fun y hy z hz => by
      have := a3 y hy
      have := p1 z hz
      omega
    refine ⟨i1, fun n => ?_, by simp; omega⟩
    rw [List.foldl_cons, i2, a2, hasR_cons, Bool.or_assoc]

theorem srt_wp {l : List TRun} {Q : List TRun → Prop} (h : ∀ s, s.Perm l → s.Pairwise (fun x y => x.lo ≤ y.lo) → Q s) : (srt ltRun l).wp Q := by
  refine ⟨⟨l.mergeSort (fun x y => decide (x.lo ≤ y.lo)), List.mergeSort_perm _ _, ?_⟩, fun s ⟨h1, h2⟩ => h s h1 (h2.imp fun {x y} h => ?_)⟩
  · refine (List.pairwise_mergeSort (fun a b c h1 h2 => ?_) (fun a b => ?_) l).imp fun {x y} h => ?_
    · simp only [decide_eq_true_eq] at h1 h2 ⊢; omega
    · simp only [Bool.or_eq_true, decide_eq_true_eq]; omega
    · simp only [decide_eq_true_eq] at h; unfold ltRun; simp only [decide_eq_false_iff_not]; omega
  · unfold ltRun at h; simp only [decide_eq_false_iff_not] at h; omega
theorem norm_eq (l : List TRun) (h : l.length ≤ 1000000000000) : runs_Norm l = pure (nrm l) := by
  unfold runs_Norm
  have h1 := loopL (body := runs_Norm_l0 l) l (fun i (t : List TRun) => ((i : Int), t)) (fun t x => if mayR x then t ++ [x] else t) (fun t => pure t) (fun i t => t.length ≤ i) (fun i x t hx hi hI => by
    have h1 : decide ((i : Int) < (l.length : Int)) = true := by simpa using hi
    refine ⟨?_, by split <;> (try simp only [List.length_append, List.length_singleton]) <;> omega⟩
    unfold runs_Norm_l0
    simp only [h1, cond_true, idx_nat hx, pure_bind, wSucc (show i < 9223372036854775807 by omega)]
    have e : (cond (decide (0 < x.lo)) (cond (decide (x.lo ≤ x.hi)) (M.pure (decide (x.hi ≤ 281474976710655))) (M.pure false)) (M.pure false) : M Bool) = pure (mayR x) := by
      rw [cond_pure_and, cond_pure_and]
      refine congrArg pure ?_
      rw [Bool.eq_iff_iff, mayR_iff]
      simp only [Bool.and_eq_true, decide_eq_true_eq]
      omega
    rw [e, pure_bind]
    cases hm : mayR x with
    | false => simp [pure_bind]
    | true =>
      rw [cond_true, need_true (by simp; omega)]
      simp [pure_bind]) (fun t _ => by unfold runs_Norm_l0; simp [pure_bind]) [] (by simp)
  have hf : ∀ (l t : List TRun), l.foldl (fun t x => if mayR x then t ++ [x] else t) t = t ++ l.filter mayR := by
    intro l
    induction l with
    | nil => simp
    | cons x r ih =>
      intro t
      rw [List.foldl_cons, ih]
      cases hm : mayR x <;> simp [hm]
  rw [hf, List.nil_append] at h1
  have h1' : loop (runs_Norm_l0 l) (0, []) = pure (l.filter mayR) := h1
  have hfl : (l.filter mayR).length ≤ l.length := List.length_filter_le _ _
  rw [h1', pure_bind, need_true (by omega)]
  refine eq_pure (srt_wp fun s hs hp => ?_)
  have hsl := hs.length_eq
  have hmay : ∀ x ∈ s, mayR x = true := fun x hx => (List.mem_filter.1 (hs.mem_iff.1 hx)).2
  have hpre : ∀ i, Nf ((s.take i).foldl addN []) ∧ ((s.take i).foldl addN []).length ≤ i ∧ ∀ x, s[i]? = some x → ∀ y ∈ (s.take i).foldl addN [], y.lo ≤ x.lo := fun i => by
    obtain ⟨i1, i2, i3⟩ := addN_fold (s.take i) [] trivial (fun x hx => hmay x (List.mem_of_mem_take hx)) (List.Pairwise.sublist (List.take_sublist _ _) hp) (by simp)
    refine ⟨i1, by simp at i3; omega, fun x hx y hy => ?_⟩
    have hmy := mayR_iff.1 (i1.may y hy)
    have : hasR ((s.take i).foldl addN []) y.lo = true := hasR_iff.2 ⟨y, hy, i1.may y hy, by omega, by omega⟩
    rw [i2] at this
    simp only [hasR_nil, Bool.false_or] at this
    obtain ⟨z, hz, _, h3, _⟩ := hasR_iff.1 this
    -- z is ahead of x; y begins where one of those ahead begins
    have hall : ∀ (s out : List TRun), (∀ y ∈ s.foldl addN out, (∃ z ∈ out, y.lo = z.lo) ∨ ∃ z ∈ s, y.lo = z.lo) := by
      intro s
      induction s with
      | nil => intro out y hy; exact .inl ⟨y, hy, rfl⟩
      | cons a r ih =>
        intro out y hy
        rcases ih _ y hy with ⟨z, hz, e⟩ | ⟨z, hz, e⟩
        · rcases snoc_cases out with rfl | ⟨q, w, rfl⟩
          · rw [addN_nil] at hz; simp at hz; subst hz; exact .inr ⟨z, by simp, e⟩
          · rw [addN_snoc] at hz
            split at hz
            · rcases List.mem_append.1 hz with hz | hz
              · exact .inl ⟨z, by simp [hz], e⟩
              · simp at hz; subst hz; exact .inl ⟨w, by simp, e⟩
            · rcases List.mem_append.1 hz with hz | hz
              · exact .inl ⟨z, hz, e⟩
              · simp at hz; subst hz; exact .inr ⟨z, by simp, e⟩
        · exact .inr ⟨z, by simp [hz], e⟩
    rcases hall _ _ y hy with ⟨z, hz, _⟩ | ⟨z, hz, e⟩
    · simp at hz
    · obtain ⟨j, hj, hje⟩ := List.getElem_of_mem hz
      have hlt := (List.getElem?_eq_some_iff.1 hx).1
      have hji : j < i := by simp at hj; omega
      have := List.pairwise_iff_getElem.1 hp j i (by omega) hlt hji
      rw [List.getElem_take] at hje
      have hxe : s[i] = x := by rw [List.getElem?_eq_getElem hlt] at hx; simpa using hx
      rw [hje, hxe] at this
      omega
  have h2 := loopL (body := runs_Norm_l1 (l.filter mayR) s) s (fun i (t : List TRun) => ((i : Int), t)) addN (fun t => pure t) (fun i t => t = (s.take i).foldl addN []) (fun i x t hx hi hI => by
    obtain ⟨v1, v2, v3⟩ := hpre i
    have v3 := v3 x hx
    rw [← hI] at v1 v2 v3
    have hxm := mayR_iff.1 (hmay x (List.mem_of_getElem? hx))
    have h1 : decide ((i : Int) < ((l.filter mayR).length : Int)) = true := by simp; omega
    refine ⟨?_, by rw [List.take_add_one, hx]; simp [hI]⟩
    unfold runs_Norm_l1
    simp only [h1, cond_true, idx_nat hx, pure_bind, wSucc (show i < 9223372036854775807 by omega)]
    rcases snoc_cases t with rfl | ⟨q, y, rfl⟩
    · have e : decide ((0 : Int) ≤ IntKind.i64.wrap (((([] : List TRun).length : Nat) : Int) - 1)) = false := by
        rw [wI64 (by simp) (by simp)]; simp
      rw [e]
      simp only [cond_false, pure_bind]
      rw [need_true (by simp), addN_nil]
      rfl
    · have hy := (nf_snoc.1 v1).2.1
      have hym := mayR_iff.1 hy
      have e0 : IntKind.i64.wrap ((((q ++ [y]).length : Nat) : Int) - 1) = (q.length : Int) := by
        simp only [List.length_append, List.length_singleton] at v2 ⊢
        rw [wI64 (by omega) (by omega)]; omega
      have e1 : idx (q ++ [y]) (q.length : Int) = pure y := idx_nat (by simp)
      have e3 : decide ((0 : Int) ≤ (q.length : Int)) = true := by simp
      rw [e0, e3]
      simp only [cond_true, e1, pure_bind, wU64 (show 0 ≤ y.hi + 1 by omega) (by omega)]
      rw [addN_snoc]
      by_cases hc : x.lo ≤ y.hi + 1
      · simp only [hc, decide_true, cond_true, if_true, Int.toNat_natCast]
        have : (q ++ [y]).set q.length (⟨y.lo, max y.hi x.hi⟩ : TRun) = q ++ [⟨y.lo, max y.hi x.hi⟩] := by simp
        rw [this]
        rfl
      · simp only [hc, decide_false, cond_false, if_false]
        rw [need_true (by simp only [List.length_append, List.length_singleton] at v2 ⊢; omega)]
        rfl) (fun t _ => by
    unfold runs_Norm_l1
    have e : decide ((s.length : Int) < ((l.filter mayR).length : Int)) = false := by simp; omega
    simp only [e, cond_false, pure_bind]) [] (by simp)
  show (M.bind (M.loop (runs_Norm_l1 (l.filter mayR) s) (0, [])) fun out38 => M.pure out38).wp (· = nrm l)
  rw [show ((0 : Int), ([] : List TRun)) = (((0 : Nat) : Int), []) from rfl, h2]
  obtain ⟨i1, i2, _⟩ := addN_fold s [] trivial hmay hp (by simp)
  exact nrm_of i1 fun n => by rw [i2, hasR_perm hs, hasR_filter]; simp
theorem good_eq (l : List TRun) (h : l.length ≤ 1000000000000) : runs_Good l = pure (decide (l = nrm l)) := by
  unfold runs_Good
  rw [norm_eq l h, det_pure, pure_bind, seq_eq _ _ h, det_pure, pure_bind]
theorem same_eq (a b : List TRun) (ha : a.length ≤ 100000000000) (hb : b.length ≤ 100000000000) : runs_Same a b = pure (decide (nrm a = nrm b)) := by
  have := nrm_len a
  unfold runs_Same
  rw [norm_eq a (by omega), det_pure, pure_bind, norm_eq b (by omega), det_pure, pure_bind, seq_eq _ _ (by omega), det_pure, pure_bind]

/-! ### Two lists behind each other -/
theorem growR_eq (n : Int) (h0 : 0 ≤ n) (h : n ≤ 1000000000000) : slices_Grow_sl_Run_Run_nil n = pure [] := by
  unfold slices_Grow_sl_Run_Run_nil
  have e : IntKind.i64.wrap (n - IntKind.i64.wrap (0 - 0)) = n := by
    rw [wI64 (n := 0 - 0) (by omega) (by omega), wI64 (by omega) (by omega)]; omega
  simp only [e, cond_dec]
  rw [if_neg (by omega)]
  split
  · rw [need_true ⟨by omega, by omega⟩, need_true ⟨by omega, by omega, by omega⟩]
    simp [pure_bind]
  · simp [pure_bind]
theorem concatR_eq (a b : List TRun) (h : a.length + b.length ≤ 1000000000000) : slices_Concat_sl_Run_Run [a, b] = pure (a ++ b) := by
  unfold slices_Concat_sl_Run_Run
  have e1 : slices_Concat_sl_Run_Run_l0 [a, b] (0, 0) = pure (.next ((a.length : Int), 1)) := by
    unfold slices_Concat_sl_Run_Run_l0
    have : IntKind.i64.wrap (0 + (a.length : Int)) = a.length := by rw [wI64 (by omega) (by omega)]; omega
    simp only [cond_dec, idx_eq (l := [a, b]) (i := 0) (y := a) (by omega) rfl, pure_bind, this]
    rw [if_pos (by simp), if_neg (by omega), wI64 (by omega) (by omega)]; rfl
  have e2 : slices_Concat_sl_Run_Run_l0 [a, b] ((a.length : Int), 1) = pure (.next ((a.length : Int) + b.length, 2)) := by
    unfold slices_Concat_sl_Run_Run_l0
    have : IntKind.i64.wrap ((a.length : Int) + b.length) = a.length + b.length := by rw [wI64 (by omega) (by omega)]
    simp only [cond_dec, idx_eq (l := [a, b]) (i := 1) (y := b) (by omega) rfl, pure_bind, this]
    rw [if_pos (by simp), if_neg (by omega), wI64 (by omega) (by omega)]; rfl
  have e3 : slices_Concat_sl_Run_Run_l0 [a, b] ((a.length : Int) + b.length, 2) = pure (.done ((a.length : Int) + b.length)) := by
    unfold slices_Concat_sl_Run_Run_l0
    simp
  have f1 : slices_Concat_sl_Run_Run_l1 [a, b] (0, []) = pure (.next (1, a)) := by
    unfold slices_Concat_sl_Run_Run_l1
    simp only [cond_dec, idx_eq (l := [a, b]) (i := 0) (y := a) (by omega) rfl, pure_bind]
    rw [if_pos (by simp), need_true (by simp; omega), wI64 (by omega) (by omega)]; rfl
  have f2 : slices_Concat_sl_Run_Run_l1 [a, b] (1, a) = pure (.next (2, a ++ b)) := by
    unfold slices_Concat_sl_Run_Run_l1
    simp only [cond_dec, idx_eq (l := [a, b]) (i := 1) (y := b) (by omega) rfl, pure_bind]
    rw [if_pos (by simp), need_true (by omega), wI64 (by omega) (by omega)]; rfl
  have f3 : slices_Concat_sl_Run_Run_l1 [a, b] (2, a ++ b) = pure (.done (a ++ b)) := by
    unfold slices_Concat_sl_Run_Run_l1
    simp
  rw [loop_next e1, loop_next e2, loop_done e3, pure_bind, growR_eq _ (by omega) (by omega), det_pure, pure_bind, loop_next f1, loop_next f2, loop_done f3, pure_bind]
theorem nrm_app (a b : List TRun) : nrm (a ++ b) = setR (· || ·) a b := by
  obtain ⟨s1, s2, _⟩ := setR_props (· || ·) rfl a b
  exact (nrm_of s1 fun n => by rw [s2, hasR_app]).symm
theorem join_eq (a b : List TRun) (h : a.length + b.length ≤ 1000000000000) : runs_Join a b = pure (setR (· || ·) a b) := by
  unfold runs_Join
  rw [concatR_eq a b h, det_pure, pure_bind, norm_eq _ (by simp; omega), det_pure, pure_bind, nrm_app]

/-! ### Some numbers -/
def ones (nums : List Int) : List TRun := nums.map fun n => ⟨n, n⟩
theorem of_eq (nums : List Int) (h : nums.length ≤ 1000000000000) : runs_Of nums = pure (nrm (ones nums)) := by
  unfold runs_Of
  rw [need_true (by omega)]
  have h1 := loopL (body := runs_Of_l0 nums) nums (fun i (t : List TRun) => ((i : Int), t)) (fun t n => t ++ [⟨n, n⟩]) (fun t => pure t) (fun i t => t.length ≤ i) (fun i x t hx hi hI => by
    have h1 : decide ((i : Int) < (nums.length : Int)) = true := by simpa using hi
    refine ⟨?_, by simp; omega⟩
    unfold runs_Of_l0
    simp only [h1, cond_true, idx_nat hx, pure_bind, wSucc (show i < 9223372036854775807 by omega)]
    rw [need_true (by simp; omega)]) (fun t _ => by unfold runs_Of_l0; simp [pure_bind]) [] (by simp)
  have hf : ∀ (l : List Int) (t : List TRun), l.foldl (fun t n => t ++ [(⟨n, n⟩ : TRun)]) t = t ++ ones l := by
    intro l
    induction l with
    | nil => simp [ones]
    | cons x r ih => intro t; rw [List.foldl_cons, ih]; simp [ones]
  rw [show ((0 : Int), ([] : List TRun)) = (((0 : Nat) : Int), []) from rfl, h1, hf, List.nil_append, pure_bind, norm_eq _ (by simpa [ones] using h), det_pure, pure_bind]
theorem inR_one (n m : Int) : inR n ⟨m, m⟩ = true ↔ (1 ≤ n ∧ n ≤ 281474976710655) ∧ n = m := by
  rw [inR_iff]; simp only; omega
theorem hasR_ones (nums : List Int) (n : Int) : hasR (ones nums) n = true ↔ (1 ≤ n ∧ n ≤ 281474976710655) ∧ n ∈ nums := by
  unfold hasR ones
  rw [List.any_eq_true]
  simp only [List.mem_map]
  constructor
  · rintro ⟨x, ⟨m, hm, rfl⟩, h⟩
    have := (inR_one n m).1 h
    exact ⟨this.1, this.2 ▸ hm⟩
  · rintro ⟨h1, h2⟩
    exact ⟨_, ⟨n, h2, rfl⟩, (inR_one n n).2 ⟨h1, rfl⟩⟩
theorem add_eq (l : List TRun) (n : Int) (h : l.length ≤ 100000000000) : runs_Add l n = pure (setR (· || ·) l [⟨n, n⟩]) := by
  unfold runs_Add
  have hl := nrm_len (ones [n])
  simp [ones] at hl
  rw [of_eq _ (by simp), det_pure, pure_bind, join_eq _ _ (by simp [ones]; omega), det_pure, pure_bind]
  congr 1
  obtain ⟨s1, s2, _⟩ := setR_props (· || ·) rfl l (nrm (ones [n]))
  obtain ⟨t1, t2, _⟩ := setR_props (· || ·) rfl l [⟨n, n⟩]
  refine nf_ext s1 t1 fun m => ?_
  rw [s2, t2, nrm_has]
  rfl
theorem rof_eq (nums : List Int) (h : nums.length ≤ 1000000000) : r06_Of nums = pure (nrm (ones nums)) := by
  unfold r06_Of
  have hs : ∀ i, i ≤ nums.length → (nrm (ones (nums.take i))).length ≤ 2 * nums.length := fun i hi => by
    have := nrm_len (ones (nums.take i))
    have h2 : (ones (nums.take i)).length = i := by simp [ones]; omega
    omega
  have h1 := loopL (body := r06_Of_l0 nums) nums (fun i (t : List TRun) => (t, (i : Int))) (fun t n => setR (· || ·) t [⟨n, n⟩]) (fun t => pure t) (fun i t => t = nrm (ones (nums.take i))) (fun i x t hx hi hI => by
    have h1 : decide ((i : Int) < (nums.length : Int)) = true := by simpa using hi
    have := hs i (by omega)
    refine ⟨?_, ?_⟩
    · unfold r06_Of_l0
      simp only [h1, cond_true, idx_nat hx, pure_bind, wSucc (show i < 9223372036854775807 by omega)]
      rw [rjoin_eq _ _ (by rw [hI]; simp; omega), det_pure, pure_bind]
    · obtain ⟨s1, s2, _⟩ := setR_props (· || ·) rfl t [⟨x, x⟩]
      refine nrm_of s1 fun n => ?_
      rw [s2, hI, nrm_has, List.take_add_one, hx]
      simp [ones, hasR_app]) (fun t _ => by unfold r06_Of_l0; simp [pure_bind]) [] (by rfl)
  rw [show (([] : List TRun), (0 : Int)) = ([], ((0 : Nat) : Int)) from rfl, h1, pure_bind]
  have hf : ∀ (l : List Int) (t : List TRun), Nf t → Nf (l.foldl (fun t n => setR (· || ·) t [(⟨n, n⟩ : TRun)]) t) ∧ ∀ n, hasR (l.foldl (fun t n => setR (· || ·) t [(⟨n, n⟩ : TRun)]) t) n = (hasR t n || hasR (ones l) n) := by
    intro l
    induction l with
    | nil => intro t ht; exact ⟨ht, by simp [ones]⟩
    | cons x r ih =>
      intro t ht
      obtain ⟨s1, s2, _⟩ := setR_props (· || ·) rfl t [⟨x, x⟩]
      obtain ⟨i1, i2⟩ := ih _ s1
      refine ⟨i1, fun n => ?_⟩
      rw [List.foldl_cons, i2, s2, Bool.or_assoc]
      congr 1
      rw [hasR_one]
      rfl
  obtain ⟨f1, f2⟩ := hf nums [] trivial
  exact congrArg pure (nrm_of f1 fun n => by rw [f2, hasR_nil, Bool.false_or])

/-! ### The first, the last, how many -/
def firstR : List TRun → Int
  | [] => 1
  | x :: _ => if x.lo = 1 then x.hi + 1 else 1
def lastR (l : List TRun) : Int := match l.getLast? with | some x => x.hi | none => 0
theorem first_eq (l : List TRun) (h : l.length ≤ 1000000000000) : runs_First l = pure (firstR (nrm l)) := by
  unfold runs_First
  rw [norm_eq l h, det_pure, pure_bind]
  have hn := nrm_nf l
  generalize nrm l = v at hn
  cases v with
  | nil => rfl
  | cons x r =>
    have hx := mayR_iff.1 hn.1
    have e : decide ((0 : Int) < ((x :: r).length : Int)) = true := by simp only [List.length_cons, decide_eq_true_eq]; omega
    simp only [e, cond_true, idx_eq (l := x :: r) (i := 0) (y := x) (by omega) rfl, pure_bind, firstR, wU64 (show 0 ≤ x.hi + 1 by omega) (by omega)]
    by_cases hc : x.lo = 1 <;> simp [hc]
theorem rfirst_eq (l : List TRun) (h : l.length ≤ 10000000000) : r06_First l = pure (firstR (nrm l)) := by
  unfold r06_First
  rw [rnorm_eq l h, det_pure, pure_bind]
  have hn := nrm_nf l
  generalize nrm l = v at hn
  cases v with
  | nil => rfl
  | cons x r =>
    have hx := mayR_iff.1 hn.1
    have e : decide (((x :: r).length : Int) = 0) = false := by simp only [List.length_cons, decide_eq_false_iff_not]; omega
    simp only [e, cond_false, idx_eq (l := x :: r) (i := 0) (y := x) (by omega) rfl, pure_bind, firstR, wU64 (show 0 ≤ x.hi + 1 by omega) (by omega)]
    by_cases hc : x.lo = 1 <;> simp [hc]
theorem last_eq (l : List TRun) (h : l.length ≤ 100000000000) : runs_Last l = pure (lastR (nrm l)) := by
  unfold runs_Last
  have hl := nrm_len l
  rw [norm_eq l (by omega), det_pure, pure_bind]
  generalize nrm l = v at hl
  rcases snoc_cases v with rfl | ⟨q, y, rfl⟩
  · rfl
  · have e0 : IntKind.i64.wrap ((((q ++ [y]).length : Nat) : Int) - 1) = (q.length : Int) := by
      simp only [List.length_append, List.length_singleton] at hl ⊢
      rw [wI64 (by omega) (by omega)]; omega
    have e1 : idx (q ++ [y]) (q.length : Int) = pure y := idx_nat (by simp)
    have e3 : decide ((0 : Int) < (((q ++ [y]).length : Nat) : Int)) = true := by simp only [List.length_append, List.length_singleton, decide_eq_true_eq]; omega
    rw [e0, e3]
    simp only [cond_true, e1, pure_bind, lastR]
    simp
theorem rlast_eq (l : List TRun) (h : l.length ≤ 10000000000) : r06_Last l = pure (lastR (nrm l)) := by
  unfold r06_Last
  have hl := nrm_len l
  rw [rnorm_eq l h, det_pure, pure_bind]
  generalize nrm l = v at hl
  rcases snoc_cases v with rfl | ⟨q, y, rfl⟩
  · rfl
  · have e0 : IntKind.i64.wrap ((((q ++ [y]).length : Nat) : Int) - 1) = (q.length : Int) := by
      simp only [List.length_append, List.length_singleton] at hl ⊢
      rw [wI64 (by omega) (by omega)]; omega
    have e1 : idx (q ++ [y]) (q.length : Int) = pure y := idx_nat (by simp)
    have e3 : decide ((((q ++ [y]).length : Nat) : Int) = 0) = false := by simp only [List.length_append, List.length_singleton, decide_eq_false_iff_not]; omega
    rw [e0, e3]
    simp only [cond_false, e1, pure_bind, lastR]
    simp
def sizeR (l : List TRun) : Int := l.foldl (fun n x => n + (x.hi - x.lo + 1)) 0
theorem sizeR_mod (l : List TRun) : runs_SizeL l = IntKind.u64.wrap (sizeR l) := by
  have : ∀ (l : List TRun) (m n : Int), m % 18446744073709551616 = n % 18446744073709551616 → l.foldl (fun n x => IntKind.u64.wrap (n + IntKind.u64.wrap (IntKind.u64.wrap (x.hi - x.lo) + 1))) m % 18446744073709551616 = l.foldl (fun n x => n + (x.hi - x.lo + 1)) n % 18446744073709551616 := by
    intro l
    induction l with
    | nil => intro m n h; exact h
    | cons x r ih =>
      intro m n h
      rw [List.foldl_cons, List.foldl_cons]
      refine ih _ _ ?_
      rw [wU64_mod, wU64_mod, wU64_mod]
      omega
  have h2 : ∀ (l : List TRun) (m : Int), 0 ≤ m → m < 18446744073709551616 → 0 ≤ l.foldl (fun n x => IntKind.u64.wrap (n + IntKind.u64.wrap (IntKind.u64.wrap (x.hi - x.lo) + 1))) m ∧ l.foldl (fun n x => IntKind.u64.wrap (n + IntKind.u64.wrap (IntKind.u64.wrap (x.hi - x.lo) + 1))) m < 18446744073709551616 := by
    intro l
    induction l with
    | nil => intro m h1 h2; exact ⟨h1, h2⟩
    | cons x r ih =>
      intro m _ _
      rw [List.foldl_cons]
      refine ih _ ?_ ?_ <;> rw [wU64_mod] <;> omega
  unfold runs_SizeL sizeR
  have h3 := this l 0 0 rfl
  have h4 := h2 l 0 (by omega) (by omega)
  rw [wU64_mod]
  generalize List.foldl (fun n x => IntKind.u64.wrap (n + IntKind.u64.wrap (IntKind.u64.wrap (x.hi - x.lo) + 1))) 0 l = u at h3 h4 ⊢
  generalize List.foldl (fun n x => n + (x.hi - x.lo + 1)) 0 l = t at h3 ⊢
  omega
theorem size_eq (l : List TRun) (h : l.length ≤ 1000000000000) : runs_Size l = pure (IntKind.u64.wrap (sizeR (nrm l))) := by
  unfold runs_Size
  rw [norm_eq l h, det_pure, pure_bind, sizeR_mod]
theorem rsize_eq (l : List TRun) (h : l.length ≤ 10000000000) : r06_Size l = pure (IntKind.u64.wrap (sizeR (nrm l))) := by
  unfold r06_Size
  have hl := nrm_len l
  rw [rnorm_eq l h, det_pure, pure_bind]
  generalize nrm l = v at hl
  have h1 := loopL (body := r06_Size_l0 v) v (fun i (t : Int) => (t, (i : Int))) (fun n x => IntKind.u64.wrap (IntKind.u64.wrap (IntKind.u64.wrap (n + x.hi) - x.lo) + 1)) (fun t => pure t) (fun i t => True) (fun i x t hx hi hI => by
    have h1 : decide ((i : Int) < (v.length : Int)) = true := by simpa using hi
    refine ⟨?_, trivial⟩
    unfold r06_Size_l0
    simp only [h1, cond_true, idx_nat hx, pure_bind, wSucc (show i < 9223372036854775807 by omega)]) (fun t _ => by unfold r06_Size_l0; simp [pure_bind]) 0 trivial
  rw [show ((0 : Int), (0 : Int)) = ((0 : Int), ((0 : Nat) : Int)) from rfl, h1, pure_bind]
  refine congrArg pure ?_
  rw [← sizeR_mod]
  unfold runs_SizeL
  congr 1
  funext n x
  rw [wU64_mod, wU64_mod, wU64_mod, wU64_mod, wU64_mod, wU64_mod]
  omega
end Go.Ep.M

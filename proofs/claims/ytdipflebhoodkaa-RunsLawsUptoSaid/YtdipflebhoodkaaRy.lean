/- Runs, plainly: is a number told; what both have; what the first one has alone. No program in sight. -/
import Derived.Test.YtdipflebhoodkaaRx
namespace Go.Ep.M
open Go

/-! ### Is a number told? -/
def cmp3 (x y : Int) : Int := if x < y then -1 else if y < x then 1 else 0
theorem cmp3_eq (x y : Int) : cmp_Compare_uint64 x y = pure (cmp3 x y) := by
  unfold cmp_Compare_uint64 cmp_isNaN_uint64 cmp3
  simp only [decide_true, Bool.not_true, det_pure, pure_bind, cond_false, cond_dec]
  split
  · rfl
  · split <;> rfl
theorem hasC_eq (x : TRun) (n : Int) : runs_Has_c1 x n = pure (cmp3 x.hi n) := by
  unfold runs_Has_c1
  rw [cmp3_eq, det_pure, pure_bind]
def cntB : List TRun → Int → Nat
  | [], _ => 0
  | x :: r, n => if x.hi < n then cntB r n + 1 else 0
theorem cntB_le (v : List TRun) (n : Int) : cntB v n ≤ v.length := by
  induction v with
  | nil => simp [cntB]
  | cons x r ih => unfold cntB; split <;> simp; omega
theorem cntB_uniq : ∀ {v : List TRun} {n : Int} {c : Nat}, c ≤ v.length → (∀ (k : Nat) (x : TRun), k < c → v[k]? = some x → x.hi < n) → (∀ (k : Nat) (x : TRun), c ≤ k → v[k]? = some x → n ≤ x.hi) → c = cntB v n
  | [], n, c, h, _, _ => by simp at h; simp [cntB, h]
  | x :: r, n, 0, _, _, h2 => by
    have := h2 0 x (by omega) rfl
    simp only [cntB]
    rw [if_neg (by omega)]
  | x :: r, n, c + 1, h, h1, h2 => by
    have := h1 0 x (by omega) rfl
    simp only [cntB]
    rw [if_pos this, ← cntB_uniq (v := r) (n := n) (c := c) (by simpa using h) (fun k y hk hy => h1 (k + 1) y (by omega) (by simpa using hy)) (fun k y hk hy => h2 (k + 1) y (by omega) (by simpa using hy))]
theorem nf_mono {v : List TRun} (h : Nf v) : ∀ {i j : Nat} {x y : TRun}, i < j → v[i]? = some x → v[j]? = some y → x.hi < y.hi := by
  induction v with
  | nil => intro i j x y _ hx; simp at hx
  | cons z r ih =>
    intro i j x y hij hx hy
    cases j with
    | zero => omega
    | succ j =>
      have hyr : r[j]? = some y := by simpa using hy
      have hym := List.mem_of_getElem? hyr
      cases i with
      | zero =>
        simp at hx
        subst hx
        have := h.2.1 y hym
        have := mayR_iff.1 (h.2.2.may y hym)
        omega
      | succ i => exact ih h.2.2 (show i < j by omega) (by simpa using hx) hyr
theorem bs_loop (v : List TRun) (n : Int) (hv : Nf v) (hl : v.length ≤ 1000000000000) : loop (slices_BinarySearchFunc_sl_Run_Run_uint64_runs_Has_c1_l0 v n) (0, (v.length : Int)) = pure (cntB v n : Int) := by
  refine eq_pure (loop_inv (fun s => ∃ i j : Nat, s = ((i : Int), (j : Int)) ∧ i ≤ j ∧ j ≤ v.length ∧ (∀ (k : Nat) (x : TRun), k < i → v[k]? = some x → x.hi < n) ∧ (∀ (k : Nat) (x : TRun), j ≤ k → v[k]? = some x → n ≤ x.hi)) (fun s => (s.2 - s.1).toNat) ?_ _ ⟨0, v.length, rfl, Nat.zero_le _, Nat.le_refl _, fun k x hk => absurd hk (Nat.not_lt_zero _), fun k x hk hx => absurd (List.getElem?_eq_some_iff.1 hx).1 (Nat.not_lt.2 hk)⟩)
  rintro _ ⟨i, j, rfl, hij, hj, h1, h2⟩
  unfold slices_BinarySearchFunc_sl_Run_Run_uint64_runs_Has_c1_l0
  simp only [cond_dec]
  by_cases hc : (i : Int) < j
  · rw [if_pos hc]
    have e : IntKind.i64.wrap (Int.fdiv (IntKind.u64.wrap (IntKind.i64.wrap ((i : Int) + j))) (2 ^ 1)) = (((i + j) / 2 : Nat) : Int) := by
      rw [wI64 (n := (i : Int) + j) (by omega) (by omega), wU64 (by omega) (by omega), Int.fdiv_eq_ediv_of_nonneg _ (by decide)]
      have : ((i : Int) + j) / 2 ^ 1 = (((i + j) / 2 : Nat) : Int) := by omega
      rw [this, wI64 (by omega) (by omega)]
    have hm : (i + j) / 2 < v.length := by omega
    rw [e]
    simp only [idx_nat (List.getElem?_eq_getElem hm), pure_bind, hasC_eq, det_pure, wSucc (show (i + j) / 2 < 9223372036854775807 by omega)]
    by_cases hlt : v[(i + j) / 2].hi < n
    · have : cmp3 v[(i + j) / 2].hi n < 0 := by unfold cmp3; rw [if_pos hlt]; decide
      rw [if_pos this]
      refine ⟨⟨(i + j) / 2 + 1, j, rfl, by omega, hj, fun k x hk hx => ?_, h2⟩, ?_⟩
      · by_cases e : k = (i + j) / 2
        · subst e; rw [List.getElem?_eq_getElem hm] at hx; cases hx; exact hlt
        · have := nf_mono hv (show k < (i + j) / 2 by omega) hx (List.getElem?_eq_getElem hm); omega
      · simp only; omega
    · have : ¬ cmp3 v[(i + j) / 2].hi n < 0 := by unfold cmp3; rw [if_neg hlt]; split <;> decide
      rw [if_neg this]
      refine ⟨⟨i, (i + j) / 2, rfl, by omega, by omega, h1, fun k x hk hx => ?_⟩, ?_⟩
      · by_cases e : k = (i + j) / 2
        · subst e; rw [List.getElem?_eq_getElem hm] at hx; cases hx; omega
        · have := nf_mono hv (show (i + j) / 2 < k by omega) (List.getElem?_eq_getElem hm) hx; omega
      · simp only; omega
  · rw [if_neg hc]
    have hij' : i = j := by omega
    subst hij'
    show (i : Int) = (cntB v n : Int)
    rw [← cntB_uniq hj h1 h2]
def hitB (v : List TRun) (n : Int) : Bool := match v[cntB v n]? with | some x => decide (cmp3 x.hi n = 0) | none => false
theorem bs_eq (v : List TRun) (n : Int) (hv : Nf v) (hl : v.length ≤ 1000000000000) : slices_BinarySearchFunc_sl_Run_Run_uint64_runs_Has_c1 v n = pure ((cntB v n : Int), hitB v n) := by
  unfold slices_BinarySearchFunc_sl_Run_Run_uint64_runs_Has_c1 hitB
  rw [bs_loop v n hv hl, pure_bind]
  by_cases hc : cntB v n < v.length
  · have : decide ((cntB v n : Int) < (v.length : Int)) = true := by simpa using hc
    rw [this, cond_true, idx_nat (List.getElem?_eq_getElem hc)]
    simp only [pure_bind, hasC_eq, det_pure, List.getElem?_eq_getElem hc]
  · have : decide ((cntB v n : Int) < (v.length : Int)) = false := by simpa using hc
    rw [this, cond_false, pure_bind, List.getElem?_eq_none (by omega)]
theorem cntB_has : ∀ {v : List TRun} (n : Int), Nf v → hasR v n = (match v[cntB v n]? with | some x => decide (x.lo ≤ n) | none => false)
  | [], n, _ => rfl
  | x :: r, n, h => by
    by_cases hc : x.hi < n
    · simp only [cntB, if_pos hc, List.getElem?_cons_succ]
      rw [← cntB_has n h.2.2, hasR_cons]
      have : inR n x = false := by
        rw [Bool.eq_false_iff]; intro h; have := (inR_iff.1 h).2.2; omega
      rw [this, Bool.false_or]
    · simp only [cntB, if_neg hc, List.getElem?_cons_zero]
      rw [Bool.eq_iff_iff, decide_eq_true_eq]
      constructor
      · exact nf_least h
      · intro hle; exact (nf_hi h hle).2 (.inl (by omega))
theorem has_eq (l : List TRun) (n : Int) (h : l.length ≤ 100000000000) : runs_Has l n = pure (hasR l n) := by
  unfold runs_Has
  have hl := nrm_len l
  rw [norm_eq l (by omega), det_pure, pure_bind, bs_eq _ n (nrm_nf l) (by omega), det_pure, pure_bind, ← nrm_has l n, cntB_has n (nrm_nf l)]
  generalize nrm l = v
  by_cases hc : cntB v n < v.length
  · have : decide ((cntB v n : Int) < (v.length : Int)) = true := by simpa using hc
    simp only [this, cond_true, idx_nat (List.getElem?_eq_getElem hc), pure_bind, List.getElem?_eq_getElem hc]
  · have : decide ((cntB v n : Int) < (v.length : Int)) = false := by simpa using hc
    simp only [this, cond_false, pure_bind, List.getElem?_eq_none (show v.length ≤ cntB v n by omega)]

/-! ### What both have -/
theorem meet_loop (A B : List TRun) (hA : Nf A) (hB : Nf B) (hl : A.length + B.length ≤ 1000000000000) : (loop runs_Meet_l0 (A, B, [])).wp fun r => Nf r ∧ ∀ n, hasR r n = (hasR A n && hasR B n) := by
  refine loop_inv (fun s : List TRun × List TRun × List TRun => Nf s.1 ∧ Nf s.2.1 ∧ Nf s.2.2 ∧ (∀ y ∈ s.2.2, ∀ x ∈ s.1, ∀ z ∈ s.2.1, y.hi + 1 < max x.lo z.lo) ∧ (∀ n, (hasR s.2.2 n || (hasR s.1 n && hasR s.2.1 n)) = (hasR A n && hasR B n)) ∧ s.2.2.length + s.1.length + s.2.1.length ≤ A.length + B.length) (fun s => s.1.length + s.2.1.length) ?_ (A, B, []) ⟨hA, hB, (trivial : Nf []), by simp, by simp, by simp⟩
  rintro ⟨a, b, out⟩ ⟨h1, h2, h3, h4, h5, h6⟩
  simp only at h1 h2 h3 h4 h5 h6
  unfold runs_Meet_l0
  cases a with
  | nil => exact ⟨h3, fun n => by rw [← h5]; simp⟩
  | cons x r =>
    cases b with
    | nil =>
      have e1 : decide ((0 : Int) < ((x :: r).length : Int)) = true := by simp only [List.length_cons, decide_eq_true_eq]; omega
      simp only [e1, cond_true]
      exact ⟨h3, fun n => by rw [← h5]; simp⟩
    | cons z q =>
      have hx := mayR_iff.1 h1.1
      have hz := mayR_iff.1 h2.1
      have e1 : decide ((0 : Int) < ((x :: r).length : Int)) = true := by simp only [List.length_cons, decide_eq_true_eq]; omega
      have e2 : decide ((0 : Int) < ((z :: q).length : Int)) = true := by simp only [List.length_cons, decide_eq_true_eq]; omega
      simp only [e1, e2, cond_true, pure_bind, idx_eq (l := x :: r) (i := 0) (y := x) (by omega) rfl, idx_eq (l := z :: q) (i := 0) (y := z) (by omega) rfl]
      -- the new list
      have hout : ∃ out', (cond (decide (max x.lo z.lo ≤ min x.hi z.hi)) (M.need ((List.length out + List.length [(⟨max x.lo z.lo, min x.hi z.hi⟩ : TRun)]) * 16 ≤ 140737488355328) (M.pure (out ++ [⟨max x.lo z.lo, min x.hi z.hi⟩]))) (M.pure out)) = M.pure out' ∧ Nf out' ∧ (∀ n, hasR out' n = (hasR out n || (inR n x && inR n z))) ∧ (∀ y ∈ out', y ∈ out ∨ y.hi = min x.hi z.hi) ∧ out'.length ≤ out.length + 1 := by
        by_cases hc : max x.lo z.lo ≤ min x.hi z.hi
        · refine ⟨out ++ [⟨max x.lo z.lo, min x.hi z.hi⟩], ?_, nf_snoc.2 ⟨h3, mayR_iff.2 ⟨by simp only; omega, hc, by simp only; omega⟩, fun y hy => h4 y hy x (by simp) z (by simp)⟩, fun n => ?_, fun y hy => ?_, by simp⟩
          · rw [decide_eq_true hc, cond_true, need_true]
            simp at h6 ⊢; omega
          · rw [hasR_app, hasR_one]
            congr 1
            rw [Bool.eq_iff_iff, Bool.and_eq_true, inR_iff, inR_iff, inR_iff]
            simp only
            omega
          · rcases List.mem_append.1 hy with hy | hy
            · exact .inl hy
            · simp at hy; subst hy; exact .inr rfl
        · refine ⟨out, by rw [decide_eq_false hc]; rfl, h3, fun n => ?_, fun y hy => .inl hy, by omega⟩
          have : (inR n x && inR n z) = false := by
            rw [Bool.eq_false_iff]; intro h; rw [Bool.and_eq_true, inR_iff, inR_iff] at h; omega
          rw [this, Bool.or_false]
      obtain ⟨out', o1, o2, o3, o4, o5⟩ := hout
      have hh : ∀ n, hasR out' n = (hasR out n || (inR n x && inR n z)) := o3
      rw [o1]
      simp only [pure_bind, cond_dec]
      by_cases hc : x.hi < z.hi
      · rw [if_pos hc, need_true ⟨by omega, by simp only [List.length_cons]; omega, by omega⟩]
        have ed : List.drop (Int.toNat 1) (List.take (Int.toNat ((x :: r).length : Int)) (x :: r)) = r := by simp
        rw [ed]
        refine ⟨⟨h1.2.2, h2, o2, fun y hy x' hx' z' hz' => ?_, fun n => ?_, by simp at h6 ⊢; omega⟩, by simp only [List.length_cons]; omega⟩
        · rcases o4 y hy with hy | hy
          · have := h4 y hy x' (List.mem_cons_of_mem _ hx') z' hz'; omega
          · have := h1.2.1 x' hx'; omega
        · simp only
          rw [hh, ← h5, hasR_cons x, hasR_cons z, Bool.or_assoc]
          congr 1
          have hxq : (inR n x && hasR q n) = false := by
            rw [Bool.eq_false_iff]; intro h; rw [Bool.and_eq_true, inR_iff] at h
            have := nf_low h2 h.2; omega
          cases hv1 : inR n x <;> cases hv2 : inR n z <;> cases hv3 : hasR r n <;> cases hv4 : hasR q n <;> simp_all
      · rw [if_neg hc, need_true ⟨by omega, by simp only [List.length_cons]; omega, by omega⟩]
        have ed : List.drop (Int.toNat 1) (List.take (Int.toNat ((z :: q).length : Int)) (z :: q)) = q := by simp
        rw [ed]
        refine ⟨⟨h1, h2.2.2, o2, fun y hy x' hx' z' hz' => ?_, fun n => ?_, by simp at h6 ⊢; omega⟩, by simp only [List.length_cons]; omega⟩
        · rcases o4 y hy with hy | hy
          · have := h4 y hy x' hx' z' (List.mem_cons_of_mem _ hz'); omega
          · have := h2.2.1 z' hz'; omega
        · simp only
          rw [hh, ← h5, hasR_cons x, hasR_cons z, Bool.or_assoc]
          congr 1
          have hxq : (inR n z && hasR r n) = false := by
            rw [Bool.eq_false_iff]; intro h; rw [Bool.and_eq_true, inR_iff] at h
            have := nf_low h1 h.2; omega
          cases hv1 : inR n x <;> cases hv2 : inR n z <;> cases hv3 : hasR r n <;> cases hv4 : hasR q n <;> simp_all
theorem meetN_eq (a b : List TRun) (ha : a.length ≤ 100000000000) (hb : b.length ≤ 100000000000) : runs_Meet a b = pure (setR (· && ·) a b) := by
  unfold runs_Meet
  have la := nrm_len a
  have lb := nrm_len b
  rw [norm_eq a (by omega), det_pure, pure_bind, norm_eq b (by omega), det_pure, pure_bind]
  refine eq_pure ((loop runs_Meet_l0 (nrm a, nrm b, [])).mono (fun r ⟨h1, h2⟩ => ?_) (meet_loop (nrm a) (nrm b) (nrm_nf a) (nrm_nf b) (by omega)))
  obtain ⟨s1, s2, _⟩ := setR_props (· && ·) rfl a b
  exact nf_ext h1 s1 fun n => by rw [h2, s2, nrm_has, nrm_has]

/-! ### All that is not told -/
def restP : Int → List TRun → List TRun
  | at_, [] => [⟨at_, 281474976710655⟩]
  | at_, x :: r => ⟨at_, x.lo - 1⟩ :: restP (x.hi + 1) r
theorem restP_len (l : List TRun) (p : Int) : (restP p l).length = l.length + 1 := by
  induction l generalizing p with
  | nil => rfl
  | cons x r ih => simp [restP, ih]
theorem restP_has : ∀ (l : List TRun) (p : Int), Nf l → 1 ≤ p → (∀ x ∈ l, p ≤ x.lo) → ∀ n, hasR (restP p l) n = true ↔ p ≤ n ∧ n ≤ 281474976710655 ∧ hasR l n = false
  | [], p, _, hp, _, n => by
    rw [restP, hasR_one, inR_iff]
    simp only [hasR_nil, and_true]
    omega
  | x :: r, p, h, hp, hlo, n => by
    have hx := mayR_iff.1 h.1
    have := hlo x (by simp)
    rw [restP, hasR_cons, Bool.or_eq_true, restP_has r (x.hi + 1) h.2.2 (by omega) (fun y hy => by have := h.2.1 y hy; omega) n, inR_iff]
    simp only
    have hr : hasR (x :: r) n = false ↔ (n < x.lo ∨ x.hi < n) ∧ hasR r n = false := by
      rw [hasR_cons, Bool.or_eq_false_iff]
      refine and_congr_left fun _ => ?_
      rw [Bool.eq_false_iff, ne_eq, inR_iff]
      omega
    rw [hr]
    have hrl : n < x.lo → hasR r n = false := fun hn => by
      rw [Bool.eq_false_iff]; intro h2; have := nf_low h h2; omega
    constructor
    · rintro (h2 | h2)
      · exact ⟨h2.2.1, by omega, .inl (by omega), hrl (by omega)⟩
      · exact ⟨by omega, h2.2.1, .inr (by omega), h2.2.2⟩
    · rintro ⟨h2, h3, h4, h5⟩
      rcases h4 with h4 | h4
      · left; omega
      · right; exact ⟨by omega, h3, h5⟩
theorem rest_eq (l : List TRun) (h : l.length ≤ 100000000000) : runs_rest l = pure (restP 1 (nrm l)) := by
  unfold runs_rest
  have hl := nrm_len l
  have hn := nrm_nf l
  rw [norm_eq l (by omega), det_pure, pure_bind]
  generalize nrm l = v at hl hn
  have h1 := loopL (body := runs_rest_l0 v) v (fun i (t : Int × List TRun) => (t.1, (i : Int), t.2)) (fun t x => (x.hi + 1, t.2 ++ [⟨t.1, x.lo - 1⟩])) (fun t => pure t) (fun i t => t.2.length = i) (fun i x t hx hi hI => by
    have h1 : decide ((i : Int) < (v.length : Int)) = true := by simpa using hi
    have hm := mayR_iff.1 (hn.may x (List.mem_of_getElem? hx))
    refine ⟨?_, by simp [hI]⟩
    unfold runs_rest_l0
    simp only [h1, cond_true, idx_nat hx, pure_bind, wSucc (show i < 9223372036854775807 by omega), wU64 (show 0 ≤ x.lo - 1 by omega) (by omega), wU64 (show 0 ≤ x.hi + 1 by omega) (by omega)]
    rw [need_true (by simp; omega)]) (fun t _ => by unfold runs_rest_l0; simp [pure_bind]) (1, []) rfl
  rw [show ((1 : Int), (0 : Int), ([] : List TRun)) = (1, ((0 : Nat) : Int), []) from rfl, h1]
  simp only [pure_bind]
  have hf : ∀ (l : List TRun) (t : Int × List TRun), (l.foldl (fun (t : Int × List TRun) x => (x.hi + 1, t.2 ++ [(⟨t.1, x.lo - 1⟩ : TRun)])) t).2 ++ [⟨(l.foldl (fun (t : Int × List TRun) x => (x.hi + 1, t.2 ++ [(⟨t.1, x.lo - 1⟩ : TRun)])) t).1, 281474976710655⟩] = t.2 ++ restP t.1 l ∧ (l.foldl (fun (t : Int × List TRun) x => (x.hi + 1, t.2 ++ [(⟨t.1, x.lo - 1⟩ : TRun)])) t).2.length = t.2.length + l.length := by
    intro l
    induction l with
    | nil => intro t; exact ⟨rfl, by simp⟩
    | cons x r ih =>
      intro t
      rw [List.foldl_cons]
      obtain ⟨i1, i2⟩ := ih (x.hi + 1, t.2 ++ [⟨t.1, x.lo - 1⟩])
      exact ⟨by rw [i1]; simp [restP], by rw [i2]; simp; omega⟩
  obtain ⟨f1, f2⟩ := hf v (1, [])
  generalize v.foldl (fun (t : Int × List TRun) x => (x.hi + 1, t.2 ++ [(⟨t.1, x.lo - 1⟩ : TRun)])) (1, []) = t at f1 f2
  obtain ⟨p, out⟩ := t
  simp only [List.length_nil] at f1 f2 ⊢
  rw [need_true (by simp; omega), f1]
  rfl
theorem minus_eq (a b : List TRun) (ha : a.length ≤ 10000000000) (hb : b.length ≤ 10000000000) : runs_Minus a b = pure (setR (fun x y => x && !y) a b) := by
  unfold runs_Minus
  have lb := nrm_len b
  have lr := restP_len (nrm b) 1
  rw [rest_eq b (by omega), det_pure, pure_bind, meetN_eq a _ (by omega) (by omega), det_pure, pure_bind]
  refine congrArg pure ?_
  obtain ⟨s1, s2, _⟩ := setR_props (· && ·) rfl a (restP 1 (nrm b))
  obtain ⟨t1, t2, _⟩ := setR_props (fun x y => x && !y) rfl a b
  refine nf_ext s1 t1 fun n => ?_
  rw [s2, t2, ← nrm_has b]
  cases hh : hasR a n with
  | false => rfl
  | true =>
    have := hasR_range hh
    rw [Bool.true_and, Bool.true_and, Bool.eq_iff_iff, restP_has (nrm b) 1 (nrm_nf b) (by omega) (fun x hx => (mayR_iff.1 ((nrm_nf b).may x hx)).1) n]
    simp only [Bool.not_eq_true']
    exact ⟨fun h => h.2.2, fun h => ⟨this.1, this.2, h⟩⟩
theorem within_eq (a b : List TRun) (ha : a.length ≤ 10000000000) (hb : b.length ≤ 10000000000) : runs_Within a b = pure (decide (setR (fun x y => x && !y) a b = [])) := by
  unfold runs_Within
  rw [minus_eq a b ha hb, det_pure, pure_bind]
  refine congrArg pure ?_
  cases setR (fun x y => x && !y) a b with
  | nil => rfl
  | cons x r =>
    rw [Bool.eq_iff_iff, decide_eq_true_eq, decide_eq_true_eq]
    simp only [List.length_cons]
    constructor
    · intro h; omega
    · intro h; cases h

/-! ### The chapter's example -/
theorem works_eq : l06_works = pure true := by
  unfold l06_works
  have e : nrm (ones [5, 1, 2, 6]) = [⟨1, 2⟩, ⟨5, 6⟩] := by
    refine (nrm_of (r := [⟨1, 2⟩, ⟨5, 6⟩]) ⟨rfl, by simp, rfl, by simp, trivial⟩ fun n => ?_).symm
    rw [Bool.eq_iff_iff, hasR_ones, hasR_cons, hasR_one, Bool.or_eq_true, inR_iff, inR_iff]
    simp only [List.mem_cons, List.not_mem_nil, or_false]
    omega
  have e2 : nrm [⟨1, 2⟩, ⟨5, 6⟩] = [⟨1, 2⟩, ⟨5, 6⟩] := nrm_self ⟨rfl, by simp, rfl, by simp, trivial⟩
  rw [of_eq _ (by simp), det_pure, pure_bind, e, req_eq _ _ (by simp), first_eq _ (by simp), last_eq _ (by simp), size_eq _ (by simp), e2]
  simp only [det_pure, pure_bind, decide_true, cond_true]
  rfl
end Go.Ep.M

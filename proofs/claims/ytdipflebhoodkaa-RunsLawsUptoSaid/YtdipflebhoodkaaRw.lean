/- Runs, plainly: what the program's and the reference's functions on runs compute. No program in sight. -/
import Derived.Test.YtdipflebhoodkaaRv
import Derived.Test.YtdipflebhoodkaaRSh
namespace Go.Ep.M
open Go

theorem few_eq (l : List TRun) : l06_few l = pure (decide ((l.length : Int) ≤ 60)) := rfl
/-! ### The same, run by run -/
theorem runEq_iff (x y : TRun) : (decide (x.lo = y.lo) && decide (x.hi = y.hi)) = decide (x = y) := by
  rw [Bool.eq_iff_iff]
  cases x; cases y
  simp
theorem eqLoop {body : Int → M (Step Int (Ex Unit Bool))} (a b : List TRun) (hl : a.length = b.length) (hn : a.length ≤ 1000000000000)
    (hb : ∀ i : Int, body i = cond (decide (i < (a.length : Int))) (M.bind (M.idx a i) fun x => M.bind (M.idx b i) fun y => cond (!(decide (x.lo = y.lo) && decide (x.hi = y.hi))) (M.pure (.done (.ret false))) (M.pure (.next (IntKind.i64.wrap (i + 1))))) (M.pure (.done (.brk ())))) :
    M.bind (M.loop body 0) (M.exk fun _ => M.pure true) = pure (decide (a = b)) := by
  have := loopAll (body := body) a (fun i => (i : Int)) (fun i x => decide (b[i]? = some x)) (.brk ()) (.ret false) (fun i x hx hi => by
    have hb' : i < b.length := by omega
    rw [hb, idx_nat hx, idx_nat (List.getElem?_eq_getElem hb'), wSucc (by omega)]
    simp only [pure_bind, List.getElem?_eq_getElem hb', Option.some.injEq, runEq_iff]
    have : decide ((i : Int) < (a.length : Int)) = true := by simpa using hi
    rw [this, cond_true]
    by_cases he : b[i] = x
    · subst he; simp
    · rw [if_neg (by simpa using he)]
      have : decide (x = b[i]) = false := by simpa using fun h => he h.symm
      rw [this]; rfl) (by rw [hb]; simp)
  rw [show (0 : Int) = ((0 : Nat) : Int) from rfl, this]
  by_cases he : a = b
  · subst he
    rw [if_pos]
    · simp [pure_bind, exk_brk]
    · rw [List.all_eq_true]
      intro ⟨x, i⟩ hx
      rw [List.mk_mem_zipIdx_iff_getElem?] at hx
      simpa using hx
  · rw [if_neg]
    · simp [he, pure_bind, exk_ret]
    · intro hall
      rw [List.all_eq_true] at hall
      apply he
      apply List.ext_getElem (by omega)
      intro i h1 h2
      have := hall (a[i], i) (by rw [List.mk_mem_zipIdx_iff_getElem?]; exact List.getElem?_eq_getElem h1)
      simp [h2] at this
      exact this.symm
theorem req_eq (a b : List TRun) (h : a.length ≤ 1000000000000) : r06_Eq a b = pure (decide (a = b)) := by
  unfold r06_Eq
  by_cases hl : (a.length : Int) = b.length
  · simp only [hl, decide_true, Bool.not_true, cond_false]
    exact eqLoop a b (by omega) h fun i => rfl
  · have hne : a ≠ b := fun e => hl (by rw [e])
    simp [hl, hne]
theorem seq_eq (a b : List TRun) (h : a.length ≤ 1000000000000) : slices_Equal_sl_Run_Run a b = pure (decide (a = b)) := by
  unfold slices_Equal_sl_Run_Run
  by_cases hl : (a.length : Int) = b.length
  · simp only [hl, decide_true, Bool.not_true, cond_false]
    exact eqLoop a b (by omega) h fun i => rfl
  · have hne : a ≠ b := fun e => hl (by rw [e])
    simp [hl, hne]

/-! ### The reference's functions -/
theorem rmay_eq (x : TRun) : r06_may x = pure (mayR x) := by
  unfold r06_may
  rw [cond_pure_and, cond_pure_and, pure_bind]
  rfl
theorem rhas_eq (l : List TRun) (n : Int) (h : l.length ≤ 1000000000000) : r06_Has l n = pure (hasR l n) := by
  unfold r06_Has
  have := loopAll (body := r06_Has_l0 l n) l (fun i => (i : Int)) (fun _ x => !inR n x) (.brk ()) (.ret true) (fun i x hx hi => by
    unfold r06_Has_l0
    have h1 : decide ((i : Int) < (l.length : Int)) = true := by simpa using hi
    simp only [h1, cond_true, idx_nat hx, pure_bind, rmay_eq, det_pure, wSucc (show i < 9223372036854775807 by omega), cond_pure_and]
    unfold inR
    cases mayR x <;> cases decide (x.lo ≤ n) <;> cases decide (n ≤ x.hi) <;> rfl) (by unfold r06_Has_l0; simp)
  rw [show (0 : Int) = ((0 : Nat) : Int) from rfl, this, pure_bind]
  have e : l.zipIdx.all (fun y => !inR n y.1) = !hasR l n := by
    unfold hasR
    rw [Bool.eq_iff_iff]
    simp only [List.all_eq_true, Bool.not_eq_true', List.any_eq_false]
    constructor
    · intro h x hx
      obtain ⟨i, hi, he⟩ := List.getElem_of_mem hx
      have := h (x, i) (by rw [List.mk_mem_zipIdx_iff_getElem?]; rw [List.getElem?_eq_getElem hi, he])
      simpa using this
    · intro h y hy
      have := List.fst_mem_of_mem_zipIdx hy
      have := h _ this
      simpa using this
  simp only [e]
  cases hasR l n <;> rfl
theorem rput_eq (l : List Int) (n : Int) (h : l.length ≤ 100000000000) : r06_put l n = pure (putP l n) := by
  unfold r06_put
  have := loopL (body := r06_put_l0 l n) l (fun i (t : Bool × List Int) => (t.1, (i : Int), t.2)) (putS n) (fun t => pure t) (fun i t => t.2.length ≤ 2 * i) (fun i x t hx hi hI => by
    obtain ⟨d, out⟩ := t
    simp only at hI
    have h1 : decide ((i : Int) < (l.length : Int)) = true := by simpa using hi
    refine ⟨?_, ?_⟩
    · unfold r06_put_l0 putS
      simp only [h1, cond_true, idx_nat hx, pure_bind, wSucc (show i < 9223372036854775807 by omega)]
      cases d with
      | true =>
        by_cases hc : x = n
        · simp [hc, pure_bind]
        · simp only [Bool.not_true, cond_false, pure_bind, hc, decide_false, Bool.not_false, cond_true, if_false]
          rw [need_true (by simp; omega)]
          simp [pure_bind]
      | false =>
        by_cases hc1 : n ≤ x
        · simp only [Bool.not_false, cond_true, pure_bind, hc1, decide_true]
          rw [need_true (by simp; omega), pure_bind]
          by_cases hc : x = n
          · simp [hc, pure_bind]
          · simp only [hc, decide_false, Bool.not_false, cond_true]
            rw [need_true (by simp; omega)]
            simp [pure_bind]
        · simp only [Bool.not_false, cond_true, pure_bind, hc1, decide_false, cond_false]
          have hc : x ≠ n := by omega
          simp only [hc, decide_false, Bool.not_false, cond_true]
          rw [need_true (by simp; omega)]
          simp [pure_bind]
    · unfold putS
      simp only
      split <;> split <;> simp <;> omega) (fun t _ => by unfold r06_put_l0; simp [pure_bind]) (false, []) (by simp)
  rw [show ((false, (0 : Int), ([] : List Int)) : Bool × Int × List Int) = (false, ((0 : Nat) : Int), []) from rfl, this, pure_bind]
  unfold putP
  have hlen : (l.foldl (putS n) (false, [])).2.length ≤ 2 * l.length := by
    have : ∀ (l : List Int) (s : Bool × List Int), (l.foldl (putS n) s).2.length ≤ s.2.length + 2 * l.length := by
      intro l
      induction l with
      | nil => intro s; simp
      | cons x r ih =>
        intro s
        rw [List.foldl_cons]
        have := ih (putS n s x)
        have h2 : (putS n s x).2.length ≤ s.2.length + 2 := by
          unfold putS; simp only
          split <;> split <;> simp
        simp; omega
    simpa using this l (false, [])
  generalize l.foldl (putS n) (false, []) = t at hlen
  obtain ⟨d, out⟩ := t
  cases d with
  | true => rfl
  | false =>
    simp only [Bool.not_false, cond_true]
    rw [need_true (by simp at hlen ⊢; omega)]
    rfl
theorem rpts_eq (a b : List TRun) (h : a.length + b.length ≤ 10000000000) : r06_points a b = pure (ptsP (a ++ b)) := by
  unfold r06_points
  rw [need_true (by simp; omega), need_true (by simp; omega)]
  have hup : ∀ i, Up (((a ++ b).take i).foldl ptS []) ∧ (((a ++ b).take i).foldl ptS []).length ≤ 2 * (a ++ b).length := fun i => by
    obtain ⟨h1, _, h3⟩ := ptS_inv ((a ++ b).take i) [] (by simp [Up])
    refine ⟨h1, ?_⟩
    have : ((a ++ b).take i).length ≤ (a ++ b).length := by simp; omega
    simp only [List.length_nil, Nat.zero_add] at h3
    omega
  have := loopL (body := r06_points_l0 a b) (a ++ b) (fun i (t : List Int) => (t, (i : Int))) ptS (fun t => pure t) (fun i t => t = ((a ++ b).take i).foldl ptS []) (fun i x t hx hi hI => by
    have h1 : decide ((i : Int) < ((a ++ b).length : Int)) = true := decide_eq_true (by omega)
    have hlen : (a ++ b).length ≤ 10000000000 := by simp; omega
    obtain ⟨u1, u2⟩ := hup i
    rw [← hI] at u1 u2
    refine ⟨?_, ?_⟩
    · unfold r06_points_l0 ptS
      simp only [List.nil_append, h1, cond_true, idx_nat hx, pure_bind, wSucc (show i < 9223372036854775807 by omega), rmay_eq, det_pure]
      cases hm : mayR x with
      | false => simp [pure_bind]
      | true =>
        have hm' := mayR_iff.1 hm
        have hp := putP_props u1 x.lo
        rw [cond_true, rput_eq _ _ (by omega), det_pure, pure_bind, wU64 (by omega) (by omega), rput_eq _ _ (by omega), det_pure]
        simp [pure_bind]
    · rw [List.take_add_one, hx]
      simp [hI]) (fun t _ => by unfold r06_points_l0; simp [pure_bind]) [] (by simp)
  rw [show (([] : List Int), (0 : Int)) = ([], ((0 : Nat) : Int)) from rfl, this]
  simp only [pure_bind]
  rfl
theorem zip_tail_get {P : List Int} {i : Nat} {pq : Int × Int} (h : (pairs P)[i]? = some pq) : P[i]? = some pq.1 ∧ P[i + 1]? = some pq.2 := by
  unfold pairs at h
  rw [List.getElem?_zip_eq_some] at h
  obtain ⟨h1, h2⟩ := h
  rw [List.getElem?_tail] at h2
  exact ⟨h1, h2⟩
theorem rset_eq (op : Bool → Bool → Bool) (how : Int) (hop : ∀ x y, op x y = if how = 2 then (x && !y) else if how = 1 then (x && y) else (x || y)) (_h0 : op false false = false) (a b : List TRun) (h : a.length + b.length ≤ 10000000000) : r06_set a b how = pure (setR op a b) := by
  unfold r06_set
  rw [rpts_eq a b h, det_pure, pure_bind]
  obtain ⟨p1, p2, p3⟩ := ptsP_props (a ++ b)
  have hrange : ∀ q ∈ ptsP (a ++ b), 1 ≤ q ∧ q ≤ 281474976710656 := fun q hq => by
    obtain ⟨x, _, h2, h3⟩ := (p2 q).1 hq
    have := mayR_iff.1 h2
    omega
  unfold setR
  generalize ptsP (a ++ b) = P at p1 hrange p3
  simp only [List.length_append] at p3
  have hinv : ∀ i, i ≤ (pairs P).length → Nf (((pairs P).take i).foldl (setS op a b) []) ∧ (((pairs P).take i).foldl (setS op a b) []).length ≤ P.length := fun i hi => by
    cases P with
    | nil => simp [pairs, Nf]
    | cons p P =>
      have key : (pairs (p :: P)).take i = pairs (p :: P.take i) := by
        unfold pairs
        simp only [List.tail_cons]
        clear hi p1 hrange p3
        induction i generalizing p P with
        | zero => simp
        | succ i ih =>
          cases P with
          | nil => simp
          | cons q P =>
            simp only [List.zip_cons_cons, List.take_succ_cons]
            rw [ih q P]
      rw [key]
      have hsub : (p :: P.take i).Sublist (p :: P) := List.Sublist.cons_cons _ (List.take_sublist _ _)
      obtain ⟨i1, _, i3⟩ := setS_inv op a b (P.take i) p [] (List.Pairwise.sublist hsub p1) (fun q hq => hrange q (hsub.subset hq)) trivial (by simp)
      refine ⟨i1, ?_⟩
      simp at i3 ⊢
      omega
  have := loopL (body := r06_set_l0 P a b how) (pairs P) (fun i (t : List TRun) => ((i : Int), t)) (setS op a b) (fun t => pure t) (fun i t => i ≤ (pairs P).length ∧ t = ((pairs P).take i).foldl (setS op a b) []) (fun i pq t hx hi hI => by
    obtain ⟨hI1, hI⟩ := hI
    obtain ⟨g1, g2⟩ := zip_tail_get hx
    have hlt : i + 1 < P.length := (List.getElem?_eq_some_iff.1 g2).1
    have hPl : P.length ≤ 20000000000 := by omega
    have h1 : decide (((i + 1 : Nat) : Int) < (P.length : Int)) = true := by rw [decide_eq_true_eq]; omega
    obtain ⟨v1, v2⟩ := hinv i hI1
    rw [← hI] at v1 v2
    refine ⟨?_, by omega, by rw [List.take_add_one, hx]; simp [hI]⟩
    unfold r06_set_l0 setS
    have e2 : idx P ((i + 1 : Nat) : Int) = pure pq.2 := idx_nat g2
    have hq := hrange pq.2 (List.mem_of_getElem? g2)
    simp only [wSucc (show i < 9223372036854775807 by omega), h1, cond_true, idx_nat g1, e2, pure_bind, rhas_eq a pq.1 (by omega), rhas_eq b pq.1 (by omega), det_pure]
    rw [hop]
    have hin : ∀ (x y : Bool), (M.bind (cond x (M.pure true) (M.pure y)) fun in97 => M.bind (cond (decide (how = 1)) (M.bind (cond x (M.pure y) (M.pure false)) fun in101 => M.pure in101) (M.pure in97)) fun in99 => cond (decide (how = 2)) (M.bind (cond x (M.pure (!y)) (M.pure false)) fun in105 => M.pure in105) (M.pure in99)) = pure (if how = 2 then (x && !y) else if how = 1 then (x && y) else (x || y)) := by
      intro x y
      by_cases c2 : how = 2
      · subst c2; cases x <;> cases y <;> rfl
      · by_cases c1 : how = 1
        · subst c1; cases x <;> cases y <;> rfl
        · simp only [c1, c2, decide_false, cond_false, if_false]
          cases x <;> cases y <;> rfl
    have hin' := hin (hasR a pq.1) (hasR b pq.1)
    generalize (if how = 2 then (hasR a pq.1 && !hasR b pq.1) else if how = 1 then (hasR a pq.1 && hasR b pq.1) else (hasR a pq.1 || hasR b pq.1)) = inn at hin'
    -- the three steps are one
    have assoc : ∀ (K : Bool → M (List TRun)), (M.bind (cond (hasR a pq.1) (M.pure true) (M.pure (hasR b pq.1))) fun in97 => M.bind (cond (decide (how = 1)) (M.bind (cond (hasR a pq.1) (M.pure (hasR b pq.1)) (M.pure false)) fun in101 => M.pure in101) (M.pure in97)) fun in99 => M.bind (cond (decide (how = 2)) (M.bind (cond (hasR a pq.1) (M.pure (!hasR b pq.1)) (M.pure false)) fun in105 => M.pure in105) (M.pure in99)) K) = K inn := by
      intro K
      have := congrArg (fun m => M.bind m K) hin'
      exact this
    rw [assoc]
    cases inn with
    | false => rfl
    | true =>
      simp only [cond_true, if_true]
      rcases snoc_cases t with rfl | ⟨l, y, rfl⟩
      · have e : decide ((0 : Int) ≤ IntKind.i64.wrap (((([] : List TRun).length : Nat) : Int) - 1)) = false := by
          rw [wI64 (by simp) (by simp)]; simp
        rw [e]
        simp only [cond_false, pure_bind]
        rw [need_true (by simp), wU64 (by omega) (by omega)]
        rfl
      · have hy := (nf_snoc.1 v1).2.1
        have hym := mayR_iff.1 hy
        have e0 : IntKind.i64.wrap ((((l ++ [y]).length : Nat) : Int) - 1) = (l.length : Int) := by
          simp only [List.length_append, List.length_singleton] at v2 ⊢
          rw [wI64 (by omega) (by omega)]; omega
        have e1 : idx (l ++ [y]) (l.length : Int) = pure y := idx_nat (by simp)
        have e3 : decide ((0 : Int) ≤ (l.length : Int)) = true := by simp
        rw [e0, e3]
        simp only [cond_true, e1, pure_bind, wU64 (show 0 ≤ y.hi + 1 by omega) (by omega), wU64 (show 0 ≤ pq.2 - 1 by omega) (by omega)]
        rw [lastOr_snoc]
        by_cases hc : y.hi + 1 = pq.1
        · simp only [hc, decide_true, cond_true, if_true, Int.toNat_natCast]
          have : (l ++ [y]).set l.length (⟨y.lo, pq.2 - 1⟩ : TRun) = l ++ [⟨y.lo, pq.2 - 1⟩] := by simp
          rw [this]
          rfl
        · simp only [hc, decide_false, cond_false, if_false]
          rw [need_true (by simp only [List.length_append, List.length_singleton] at v2 ⊢; omega)]
          rfl) (fun t _ => by
    unfold r06_set_l0
    have e : decide (IntKind.i64.wrap (((pairs P).length : Int) + 1) < (P.length : Int)) = false := by
      rw [pairs_len, wI64 (by omega) (by omega)]
      simp; omega
    simp only [e, cond_false, pure_bind]) [] ⟨Nat.zero_le _, by simp⟩
  rw [show ((0 : Int), ([] : List TRun)) = (((0 : Nat) : Int), []) from rfl, this]
  simp only [pure_bind]

theorem rjoin_eq (a b : List TRun) (h : a.length + b.length ≤ 10000000000) : r06_Join a b = pure (setR (· || ·) a b) := by
  unfold r06_Join
  rw [rset_eq (· || ·) 0 (fun x y => by simp) rfl a b h, det_pure, pure_bind]
theorem rmeet_eq (a b : List TRun) (h : a.length + b.length ≤ 10000000000) : r06_Meet a b = pure (setR (· && ·) a b) := by
  unfold r06_Meet
  rw [rset_eq (· && ·) 1 (fun x y => by simp) rfl a b h, det_pure, pure_bind]
theorem rminus_eq (a b : List TRun) (h : a.length + b.length ≤ 10000000000) : r06_Minus a b = pure (setR (fun x y => x && !y) a b) := by
  unfold r06_Minus
  rw [rset_eq (fun x y => x && !y) 2 (fun x y => by simp) rfl a b h, det_pure, pure_bind]
theorem rnorm_eq (l : List TRun) (h : l.length ≤ 10000000000) : r06_Norm l = pure (nrm l) := by
  unfold r06_Norm
  rw [rset_eq (· || ·) 0 (fun x y => by simp) rfl l [] (by simpa using h), det_pure, pure_bind]
  rfl
theorem rgood_eq (l : List TRun) (h : l.length ≤ 10000000000) : r06_Good l = pure (decide (l = nrm l)) := by
  unfold r06_Good
  rw [rnorm_eq l h, det_pure, pure_bind, req_eq _ _ (by omega), det_pure, pure_bind]
end Go.Ep.M

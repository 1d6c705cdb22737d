/- Events: how they are compared, copied, counted, cut into batches. -/
import Derived.Test.YtdipflebhoodkaaProg
import Derived.Test.YtdipflebhoodkaaDat
import Derived.KernelRfl
namespace Go.Proofs
open Go.Ep
set_option maxHeartbeats 1000000
set_option maxRecDepth 100000
set_option linter.unusedVariables false
set_option linter.unusedSimpArgs false

theorem elem22 : ElemOK Try.prog 22 113 7 80 := ElemOK.mk' (z := .agg #[.int .u16 0, .int .u64 0, .int .u8 0, .int .u64 0, .int .u8 0, .string ⟨#[]⟩, .slice none 0 0]) Try.underlying22 (by kernel_rfl) rfl
theorem elem61 : ElemOK Try.prog 61 70 2 16 := ElemOK.mk' (z := .agg #[.int .u16 0, .int .u64 0]) Try.underlying61 (by kernel_rfl) rfl
theorem eq70 {a0 b0 : Int} {a1 b1 : Int} : AggEq Try.prog 70 [.int .u16 a0, .int .u64 a1] [.int .u16 b0, .int .u64 b1] ((decide (a0 = b0) && decide (a1 = b1))) := by
  refine ⟨by kernel_rfl, fun w => ?_⟩
  have hu : Try.prog.underlying 70 = some (.struct (Try.prog.fieldsOf 70)) := by simp only [Program.fieldsOf, Try.underlying70]
  rw [run_equalIn_agg w 9999 70 _ _ hu (by kernel_rfl)]
  simp [Program.fieldsOf, Try.underlying70, Op.eqFields, part, Try.isAgg34, Try.isAgg46, run_equalIn_int _ 9998 34 _ _ _ _ Try.underlying34, run_equalIn_int _ 9998 46 _ _ _ _ Try.underlying46, Result.andThen, beq_bytes]
  all_goals (repeat' split) <;> simp_all

@[irreducible] def cut (l : List Ev) (k : Nat) : List Ev := (l.drop (4 * k)).take 4
theorem cut_eq (l : List Ev) (k : Nat) : ((l.map eEv).take (min (4 * k + 4) l.length)).drop (4 * k) = (cut l k).map eEv := by
  unfold cut
  rw [List.map_take, List.map_drop, List.drop_take]
  by_cases h : 4 * k + 4 ≤ l.length
  · congr 1; omega
  · rw [List.take_of_length_le (by simp; omega), List.take_of_length_le (by simp; omega)]
theorem cut_len (l : List Ev) (k : Nat) : (cut l k).length = min 4 (l.length - 4 * k) := by simp [cut]
theorem cut_mem {l : List Ev} {k : Nat} {e : Ev} (h : e ∈ cut l k) : e ∈ l := by
  unfold cut at h
  exact List.mem_of_mem_drop (List.mem_of_mem_take h)
def fewE (l : List Ev) (most : Nat) : Bool := decide (l.length ≤ most) && l.all fun e => decide (e.kills.length ≤ 300) && decide (e.text.size ≤ 200)
theorem few_no {l : List Ev} {most i : Nat} (hi : i < l.length) (h : ¬ (l[i].kills.length ≤ 300 ∧ l[i].text.size ≤ 200)) : fewE l most = false := by
  cases hf : fewE l most with
  | false => rfl
  | true =>
    simp only [fewE, Bool.and_eq_true, List.all_eq_true, decide_eq_true_eq] at hf
    exact absurd (hf.2 _ (List.getElem_mem hi)) h
theorem few_step {l : List Ev} {i : Nat} (h : ∀ e ∈ l.take i, e.kills.length ≤ 300 ∧ e.text.size ≤ 200) (hi : i < l.length) (h2 : l[i].kills.length ≤ 300 ∧ l[i].text.size ≤ 200) : ∀ e ∈ l.take (i + 1), e.kills.length ≤ 300 ∧ e.text.size ≤ 200 := by
  intro e he
  rw [List.take_succ_eq_append_getElem hi, List.mem_append, List.mem_singleton] at he
  rcases he with he | rfl
  · exact h e he
  · exact h2
theorem few_yes {l : List Ev} {most i : Nat} (hm : l.length ≤ most) (hi : l.length ≤ i) (h : ∀ e ∈ l.take i, e.kills.length ≤ 300 ∧ e.text.size ≤ 200) : fewE l most = true := by
  simp only [fewE, Bool.and_eq_true, List.all_eq_true, decide_eq_true_eq]
  rw [List.take_of_length_le hi] at h
  exact ⟨hm, h⟩
def mEv (n : Nat) (l : List Ev) : List (List DV) := (l.take n).map eEv

/-- epitaph/epitaphref07.Same -/
theorem sameDots (l : List Dot) (hl : l.length ≤ 9223372036854775807) : PFun Try.prog 39 [pDs l, pDs l] (pB true) := by
  refine PFun.intro (sl := [(0, _), (1, _)]) Try.func39 rfl Try.ntmps39 rfl rfl ?_
  intro ctx hK
  refine PWc.seq ?_
  refine PWc.region ?_
  refine PWl.step (LR.assign rfl) rfl ?_
  refine PWl.nil ?_
  refine PWc.seq ?_
  refine PWc.seq ?_
  refine PWc.region ?_
  refine PWl.step (LR.move rfl) rfl ?_
  refine PWl.step (LR.lenMap (enc := eDot) Try.underlying61 rfl) rfl ?_
  refine PWl.step (LR.move rfl) rfl ?_
  refine PWl.step (LR.lenMap (enc := eDot) Try.underlying61 rfl) rfl ?_
  refine PWl.step (LR.neq rfl rfl) rfl ?_
  refine PWl.nil ?_
  refine PWc.cond rfl (fun hc1 => ?_) (fun hc1 => ?_)
  · try simp only [decide_eq_true_eq, decide_eq_false_iff_not, Bool.not_eq_true', Bool.not_eq_false', Int.not_lt, Int.not_le, Int.ofNat_lt, Int.ofNat_le, Int.ofNat_inj] at hc1
    exfalso; simp at hc1
  · try simp only [decide_eq_true_eq, decide_eq_false_iff_not, Bool.not_eq_true', Bool.not_eq_false', Int.not_lt, Int.not_le, Int.ofNat_lt, Int.ofNat_le, Int.ofNat_inj] at hc1
    refine PWc.skip ?_
    refine PWc.seq ?_
    refine PWc.seq ?_
    refine PWc.region ?_
    refine PWl.step (LR.assign rfl) rfl ?_
    refine PWl.nil ?_
    refine PWc.block ?_
    refine PWc.loop (X := Nat) (fun i => ⟨26, [(0, pDs l), (1, pDs l), (5, pI i)], []⟩) (fun i => i ≤ l.length) (fun i => l.length - i) (0) ?_ (Nat.zero_le _) ?_
    · exact Sub.of rfl (.cons rfl (by first | rfl | (simp; done) | (congr 3; omega)) <| .cons rfl (by first | rfl | (simp; done) | (congr 3; omega)) <| .cons rfl (by first | rfl | (simp; done) | (congr 3; omega)) <| .nil) (.nil)
    · rintro i hI
      refine PWc.seq ?_
      refine PWc.seq ?_
      refine PWc.region ?_
      refine PWl.step (LR.move rfl) rfl ?_
      refine PWl.step (LR.move rfl) rfl ?_
      refine PWl.step (LR.lenMap (enc := eDot) Try.underlying61 rfl) rfl ?_
      refine PWl.step (LR.lss rfl rfl) rfl ?_
      refine PWl.nil ?_
      refine PWc.cond rfl (fun hc2 => ?_) (fun hc2 => ?_)
      · try simp only [decide_eq_true_eq, decide_eq_false_iff_not, Bool.not_eq_true', Bool.not_eq_false', Int.not_lt, Int.not_le, Int.ofNat_lt, Int.ofNat_le, Int.ofNat_inj] at hc2
        refine PWc.skip ?_
        refine PWc.seq ?_
        refine PWc.block ?_
        refine PWc.seq ?_
        refine PWc.regionD (by kernel_rfl) (by kernel_rfl) ?_
        refine PQl.step (fun _ he ho => LR.move (he rfl rfl)) rfl ?_
        refine PQl.step (fun _ he ho => LR.move (he rfl rfl)) rfl ?_
        refine PQl.step (fun _ he ho => LR.idxMap (enc := eDot) Try.underlying61 Try.sizeOf70 (he rfl rfl) (he rfl rfl) rfl (by omega) (fun _ => rfl)) rfl ?_
        refine PQl.step (fun _ he ho => LR.loadEpAgg (ys := [_, _]) Try.isAgg70 Try.sizeOf70 (he rfl rfl) rfl rfl) rfl ?_
        refine PQl.step (fun _ he ho => LR.move (he rfl rfl)) rfl ?_
        refine PQl.step (fun _ he ho => LR.move (he rfl rfl)) rfl ?_
        refine PQl.step (fun _ he ho => LR.idxMap (enc := eDot) Try.underlying61 Try.sizeOf70 (he rfl rfl) (he rfl rfl) rfl (by omega) (fun _ => rfl)) rfl ?_
        refine PQl.step (fun _ he ho => LR.loadEpAgg (ys := [_, _]) Try.isAgg70 Try.sizeOf70 (he rfl rfl) rfl rfl) rfl ?_
        refine PQl.step (fun _ he ho => LR.neqAgg (he rfl rfl) (he rfl rfl) rfl rfl eq70) rfl ?_
        refine PQl.nil ?_
        refine PWc.cond rfl (fun hc3 => ?_) (fun hc3 => ?_)
        · try simp only [decide_eq_true_eq, decide_eq_false_iff_not, Bool.not_eq_true', Bool.not_eq_false', Int.not_lt, Int.not_le, Int.ofNat_lt, Int.ofNat_le, Int.ofNat_inj] at hc3
          exfalso; simp at hc3
        · try simp only [decide_eq_true_eq, decide_eq_false_iff_not, Bool.not_eq_true', Bool.not_eq_false', Int.not_lt, Int.not_le, Int.ofNat_lt, Int.ofNat_le, Int.ofNat_inj] at hc3
          refine PWc.skip ?_
          refine PWc.region ?_
          refine PWl.step (LR.move rfl) rfl ?_
          refine PWl.step (LR.add_i64 rfl rfl (by omega) (by omega)) rfl ?_
          refine PWl.step (LR.assign rfl) rfl ?_
          refine PWl.nil ?_
          refine ⟨i + 1, by omega, by omega, ?_⟩
          exact Sub.of rfl (.cons rfl (by first | rfl | (simp; done) | (congr 3; omega)) <| .cons rfl (by first | rfl | (simp; done) | (congr 3; omega)) <| .cons rfl (by first | rfl | (simp; done) | (congr 3; omega)) <| .nil) (.nil)
      · try simp only [decide_eq_true_eq, decide_eq_false_iff_not, Bool.not_eq_true', Bool.not_eq_false', Int.not_lt, Int.not_le, Int.ofNat_lt, Int.ofNat_le, Int.ofNat_inj] at hc2
        refine PWc.exit ?_
        refine PWc.seq ?_
        refine PWc.region ?_
        refine PWl.step (LR.assign rfl) rfl ?_
        refine PWl.nil ?_
        refine PWc.ret ?_
        exact ⟨.inr rfl, _, .cons (.tmp rfl rfl) <| .nil, rfl⟩

/-- epitaph/epitaphref13.Same -/
theorem sameEv (e : Ev) (hl : e.kills.length ≤ 1000000) : PFun Try.prog 87 [pA (eEv e), pA (eEv e)] (pB true) := by
  refine PFun.intro (sl := [(0, _), (1, _)]) Try.func87 rfl Try.ntmps87 rfl rfl ?_
  intro ctx hK
  refine PWc.seq ?_
  refine PWc.region ?_
  refine PWl.step (LR.box rfl rfl rfl rfl) rfl ?_
  refine PWl.step (LR.box rfl rfl rfl rfl) rfl ?_
  refine PWl.step (LR.assign rfl) rfl ?_
  refine PWl.nil ?_
  refine PWc.seq ?_
  refine PWc.region ?_
  refine PWl.step (LR.fieldRef Try.underlying113 rfl Try.sizeOf70 (by decide) rfl rfl) rfl ?_
  refine PWl.step (LR.loadRefAgg (ps := [_, _]) Try.isAgg70 Try.sizeOf70 rfl rfl rfl rfl) rfl ?_
  refine PWl.step (LR.fieldRef Try.underlying113 rfl Try.sizeOf70 (by decide) rfl rfl) rfl ?_
  refine PWl.step (LR.loadRefAgg (ps := [_, _]) Try.isAgg70 Try.sizeOf70 rfl rfl rfl rfl) rfl ?_
  refine PWl.step (LR.eqlAgg rfl rfl rfl rfl eq70) rfl ?_
  refine PWl.step (LR.move rfl) rfl ?_
  refine PWl.split (d := 10) rfl (fun hg1 => ?_) (fun hg1 => ?_)
  · try simp only [decide_eq_true_eq, decide_eq_false_iff_not, Bool.not_eq_true', Bool.not_eq_false', Int.not_lt, Int.not_le, Int.ofNat_lt, Int.ofNat_le, Int.ofNat_inj] at hg1
    refine PWl.guardT (LR.fieldRef Try.underlying113 rfl Try.sizeOf5 (by decide) rfl rfl) rfl rfl rfl ?_
    refine PWl.guardT (LR.loadRef Try.isAgg5 rfl rfl rfl) rfl rfl rfl ?_
    refine PWl.guardT (LR.fieldRef Try.underlying113 rfl Try.sizeOf5 (by decide) rfl rfl) rfl rfl rfl ?_
    refine PWl.guardT (LR.loadRef Try.isAgg5 rfl rfl rfl) rfl rfl rfl ?_
    refine PWl.guardT (LR.eql rfl rfl) rfl rfl rfl ?_
    refine PWl.step (LR.pickT rfl rfl) rfl ?_
    refine PWl.step (LR.move rfl) rfl ?_
    refine PWl.split (d := 17) rfl (fun hg2 => ?_) (fun hg2 => ?_)
    · try simp only [decide_eq_true_eq, decide_eq_false_iff_not, Bool.not_eq_true', Bool.not_eq_false', Int.not_lt, Int.not_le, Int.ofNat_lt, Int.ofNat_le, Int.ofNat_inj] at hg2
      refine PWl.guardT (LR.fieldRef Try.underlying113 rfl Try.sizeOf34 (by decide) rfl rfl) rfl rfl rfl ?_
      refine PWl.guardT (LR.loadRef Try.isAgg34 rfl rfl rfl) rfl rfl rfl ?_
      refine PWl.guardT (LR.fieldRef Try.underlying113 rfl Try.sizeOf34 (by decide) rfl rfl) rfl rfl rfl ?_
      refine PWl.guardT (LR.loadRef Try.isAgg34 rfl rfl rfl) rfl rfl rfl ?_
      refine PWl.guardT (LR.eql rfl rfl) rfl rfl rfl ?_
      refine PWl.step (LR.pickT rfl rfl) rfl ?_
      refine PWl.step (LR.move rfl) rfl ?_
      refine PWl.split (d := 24) rfl (fun hg3 => ?_) (fun hg3 => ?_)
      · try simp only [decide_eq_true_eq, decide_eq_false_iff_not, Bool.not_eq_true', Bool.not_eq_false', Int.not_lt, Int.not_le, Int.ofNat_lt, Int.ofNat_le, Int.ofNat_inj] at hg3
        refine PWl.guardT (LR.fieldRef Try.underlying113 rfl Try.sizeOf5 (by decide) rfl rfl) rfl rfl rfl ?_
        refine PWl.guardT (LR.loadRef Try.isAgg5 rfl rfl rfl) rfl rfl rfl ?_
        refine PWl.guardT (LR.fieldRef Try.underlying113 rfl Try.sizeOf5 (by decide) rfl rfl) rfl rfl rfl ?_
        refine PWl.guardT (LR.loadRef Try.isAgg5 rfl rfl rfl) rfl rfl rfl ?_
        refine PWl.guardT (LR.eql rfl rfl) rfl rfl rfl ?_
        refine PWl.step (LR.pickT rfl rfl) rfl ?_
        refine PWl.step (LR.move rfl) rfl ?_
        refine PWl.split (d := 31) rfl (fun hg4 => ?_) (fun hg4 => ?_)
        · try simp only [decide_eq_true_eq, decide_eq_false_iff_not, Bool.not_eq_true', Bool.not_eq_false', Int.not_lt, Int.not_le, Int.ofNat_lt, Int.ofNat_le, Int.ofNat_inj] at hg4
          refine PWl.guardT (LR.fieldRef Try.underlying113 rfl Try.sizeOf9 (by decide) rfl rfl) rfl rfl rfl ?_
          refine PWl.guardT (LR.loadRef Try.isAgg9 rfl rfl rfl) rfl rfl rfl ?_
          refine PWl.guardT (LR.fieldRef Try.underlying113 rfl Try.sizeOf9 (by decide) rfl rfl) rfl rfl rfl ?_
          refine PWl.guardT (LR.loadRef Try.isAgg9 rfl rfl rfl) rfl rfl rfl ?_
          refine PWl.guardT (LR.eqlStr rfl rfl) rfl rfl rfl ?_
          refine PWl.step (LR.pickT rfl rfl) rfl ?_
          refine PWl.step (LR.move rfl) rfl ?_
          refine PWl.split (d := 38) rfl (fun hg5 => ?_) (fun hg5 => ?_)
          · try simp only [decide_eq_true_eq, decide_eq_false_iff_not, Bool.not_eq_true', Bool.not_eq_false', Int.not_lt, Int.not_le, Int.ofNat_lt, Int.ofNat_le, Int.ofNat_inj] at hg5
            refine PWl.guardT (LR.fieldRef Try.underlying113 rfl Try.sizeOf61 (by decide) rfl rfl) rfl rfl rfl ?_
            refine PWl.guardT (LR.loadRef Try.isAgg61 rfl rfl rfl) rfl rfl rfl ?_
            refine PWl.guardT (LR.fieldRef Try.underlying113 rfl Try.sizeOf61 (by decide) rfl rfl) rfl rfl rfl ?_
            refine PWl.guardT (LR.loadRef Try.isAgg61 rfl rfl rfl) rfl rfl rfl ?_
            refine PWl.guardT (LR.call (sameDots e.kills (by omega)) rfl Try.call39 rfl rfl rfl) rfl rfl rfl ?_
            refine PWl.step (LR.pickT rfl rfl) rfl ?_
            refine PWl.step (LR.assign rfl) rfl ?_
            refine PWl.nil ?_
            refine PWc.ret ?_
            exact ⟨.inr rfl, _, .cons (.tmp rfl rfl) <| .nil, rfl⟩
          · try simp only [decide_eq_true_eq, decide_eq_false_iff_not, Bool.not_eq_true', Bool.not_eq_false', Int.not_lt, Int.not_le, Int.ofNat_lt, Int.ofNat_le, Int.ofNat_inj] at hg5
            exfalso; simp at hg5
        · try simp only [decide_eq_true_eq, decide_eq_false_iff_not, Bool.not_eq_true', Bool.not_eq_false', Int.not_lt, Int.not_le, Int.ofNat_lt, Int.ofNat_le, Int.ofNat_inj] at hg4
          exfalso; simp at hg4
      · try simp only [decide_eq_true_eq, decide_eq_false_iff_not, Bool.not_eq_true', Bool.not_eq_false', Int.not_lt, Int.not_le, Int.ofNat_lt, Int.ofNat_le, Int.ofNat_inj] at hg3
        exfalso; simp at hg3
    · try simp only [decide_eq_true_eq, decide_eq_false_iff_not, Bool.not_eq_true', Bool.not_eq_false', Int.not_lt, Int.not_le, Int.ofNat_lt, Int.ofNat_le, Int.ofNat_inj] at hg2
      exfalso; simp at hg2
  · try simp only [decide_eq_true_eq, decide_eq_false_iff_not, Bool.not_eq_true', Bool.not_eq_false', Int.not_lt, Int.not_le, Int.ofNat_lt, Int.ofNat_le, Int.ofNat_inj] at hg1
    exfalso; simp at hg1

/-- epitaph/epitaphref13.All -/
theorem sameAll (l : List Ev) (hl : l.length ≤ 9223372036854775807) (hk : ∀ e ∈ l, e.kills.length ≤ 1000000) : PFun Try.prog 21 [pEs l, pEs l] (pB true) := by
  refine PFun.intro (sl := [(0, _), (1, _)]) Try.func21 rfl Try.ntmps21 rfl rfl ?_
  intro ctx hK
  refine PWc.seq ?_
  refine PWc.region ?_
  refine PWl.step (LR.assign rfl) rfl ?_
  refine PWl.nil ?_
  refine PWc.seq ?_
  refine PWc.seq ?_
  refine PWc.region ?_
  refine PWl.step (LR.move rfl) rfl ?_
  refine PWl.step (LR.lenMap (enc := eEv) Try.underlying22 rfl) rfl ?_
  refine PWl.step (LR.move rfl) rfl ?_
  refine PWl.step (LR.lenMap (enc := eEv) Try.underlying22 rfl) rfl ?_
  refine PWl.step (LR.neq rfl rfl) rfl ?_
  refine PWl.nil ?_
  refine PWc.cond rfl (fun hc1 => ?_) (fun hc1 => ?_)
  · try simp only [decide_eq_true_eq, decide_eq_false_iff_not, Bool.not_eq_true', Bool.not_eq_false', Int.not_lt, Int.not_le, Int.ofNat_lt, Int.ofNat_le, Int.ofNat_inj] at hc1
    exfalso; simp at hc1
  · try simp only [decide_eq_true_eq, decide_eq_false_iff_not, Bool.not_eq_true', Bool.not_eq_false', Int.not_lt, Int.not_le, Int.ofNat_lt, Int.ofNat_le, Int.ofNat_inj] at hc1
    refine PWc.skip ?_
    refine PWc.seq ?_
    refine PWc.seq ?_
    refine PWc.region ?_
    refine PWl.step (LR.assign rfl) rfl ?_
    refine PWl.nil ?_
    refine PWc.block ?_
    refine PWc.loop (X := Nat) (fun i => ⟨27, [(0, pEs l), (1, pEs l), (5, pI i)], []⟩) (fun i => i ≤ l.length) (fun i => l.length - i) (0) ?_ (Nat.zero_le _) ?_
    · exact Sub.of rfl (.cons rfl (by first | rfl | (simp; done) | (congr 3; omega)) <| .cons rfl (by first | rfl | (simp; done) | (congr 3; omega)) <| .cons rfl (by first | rfl | (simp; done) | (congr 3; omega)) <| .nil) (.nil)
    · rintro i hI
      refine PWc.seq ?_
      refine PWc.seq ?_
      refine PWc.region ?_
      refine PWl.step (LR.move rfl) rfl ?_
      refine PWl.step (LR.move rfl) rfl ?_
      refine PWl.step (LR.lenMap (enc := eEv) Try.underlying22 rfl) rfl ?_
      refine PWl.step (LR.lss rfl rfl) rfl ?_
      refine PWl.nil ?_
      refine PWc.cond rfl (fun hc2 => ?_) (fun hc2 => ?_)
      · try simp only [decide_eq_true_eq, decide_eq_false_iff_not, Bool.not_eq_true', Bool.not_eq_false', Int.not_lt, Int.not_le, Int.ofNat_lt, Int.ofNat_le, Int.ofNat_inj] at hc2
        refine PWc.skip ?_
        refine PWc.seq ?_
        refine PWc.block ?_
        refine PWc.seq ?_
        refine PWc.regionD (by kernel_rfl) (by kernel_rfl) ?_
        refine PQl.step (fun _ he ho => LR.move (he rfl rfl)) rfl ?_
        refine PQl.step (fun _ he ho => LR.move (he rfl rfl)) rfl ?_
        refine PQl.step (fun _ he ho => LR.idxMap (enc := eEv) Try.underlying22 Try.sizeOf113 (he rfl rfl) (he rfl rfl) rfl (by omega) (fun _ => rfl)) rfl ?_
        refine PQl.step (fun _ he ho => LR.loadEpAgg (ys := [_, _, _, _, _, _, _]) Try.isAgg113 Try.sizeOf113 (he rfl rfl) rfl rfl) rfl ?_
        refine PQl.step (fun _ he ho => LR.move (he rfl rfl)) rfl ?_
        refine PQl.step (fun _ he ho => LR.move (he rfl rfl)) rfl ?_
        refine PQl.step (fun _ he ho => LR.idxMap (enc := eEv) Try.underlying22 Try.sizeOf113 (he rfl rfl) (he rfl rfl) rfl (by omega) (fun _ => rfl)) rfl ?_
        refine PQl.step (fun _ he ho => LR.loadEpAgg (ys := [_, _, _, _, _, _, _]) Try.isAgg113 Try.sizeOf113 (he rfl rfl) rfl rfl) rfl ?_
        refine PQl.step (fun _ he ho => LR.call (sameEv _ (hk _ (List.getElem_mem _))) (he rfl rfl) Try.call87 (evsE he rfl rfl) rfl rfl) rfl ?_
        refine PQl.step (fun _ he ho => LR.not (he rfl rfl)) rfl ?_
        refine PQl.nil ?_
        refine PWc.cond rfl (fun hc3 => ?_) (fun hc3 => ?_)
        · try simp only [decide_eq_true_eq, decide_eq_false_iff_not, Bool.not_eq_true', Bool.not_eq_false', Int.not_lt, Int.not_le, Int.ofNat_lt, Int.ofNat_le, Int.ofNat_inj] at hc3
          exfalso; simp at hc3
        · try simp only [decide_eq_true_eq, decide_eq_false_iff_not, Bool.not_eq_true', Bool.not_eq_false', Int.not_lt, Int.not_le, Int.ofNat_lt, Int.ofNat_le, Int.ofNat_inj] at hc3
          refine PWc.skip ?_
          refine PWc.region ?_
          refine PWl.step (LR.move rfl) rfl ?_
          refine PWl.step (LR.add_i64 rfl rfl (by omega) (by omega)) rfl ?_
          refine PWl.step (LR.assign rfl) rfl ?_
          refine PWl.nil ?_
          refine ⟨i + 1, by omega, by omega, ?_⟩
          exact Sub.of rfl (.cons rfl (by first | rfl | (simp; done) | (congr 3; omega)) <| .cons rfl (by first | rfl | (simp; done) | (congr 3; omega)) <| .cons rfl (by first | rfl | (simp; done) | (congr 3; omega)) <| .nil) (.nil)
      · try simp only [decide_eq_true_eq, decide_eq_false_iff_not, Bool.not_eq_true', Bool.not_eq_false', Int.not_lt, Int.not_le, Int.ofNat_lt, Int.ofNat_le, Int.ofNat_inj] at hc2
        refine PWc.exit ?_
        refine PWc.seq ?_
        refine PWc.region ?_
        refine PWl.step (LR.assign rfl) rfl ?_
        refine PWl.nil ?_
        refine PWc.ret ?_
        exact ⟨.inr rfl, _, .cons (.tmp rfl rfl) <| .nil, rfl⟩

/-- slices.Clone[[]epitaph/api.Dot,epitaph/api.Dot] -/
theorem cloneDots (l : List Dot) (hl : l.length ≤ 1000000) : PRow Try.prog 116 [pDs l] 70 2 (l.map eDot) := by
  refine PRow.intro (sl := [(0, _)]) Try.func116 rfl Try.ntmps116 rfl rfl ?_
  intro ctx hK
  refine PWc.seq ?_
  refine PWc.region ?_
  refine PWl.step (LR.assign rfl) rfl ?_
  refine PWl.nil ?_
  refine PWc.seq ?_
  refine PWc.seq ?_
  refine PWc.region ?_
  refine PWl.step (LR.move rfl) rfl ?_
  refine PWl.eqlNil Try.underlying61 rfl rfl (fun b1 hb1 => ?_)
  refine PWl.nil ?_
  refine PWc.cond rfl (fun hc2 => ?_) (fun hc2 => ?_)
  · try simp only [decide_eq_true_eq, decide_eq_false_iff_not, Bool.not_eq_true', Bool.not_eq_false', Int.not_lt, Int.not_le, Int.ofNat_lt, Int.ofNat_le, Int.ofNat_inj] at hc2
    refine PWc.seq ?_
    refine PWc.region ?_
    refine PWl.step (LR.assign rfl) rfl ?_
    refine PWl.nil ?_
    refine PWc.ret ?_
    exact ⟨.inr rfl, 2, rfl, .inl ⟨by simp_all, rfl⟩⟩
  · try simp only [decide_eq_true_eq, decide_eq_false_iff_not, Bool.not_eq_true', Bool.not_eq_false', Int.not_lt, Int.not_le, Int.ofNat_lt, Int.ofNat_le, Int.ofNat_inj] at hc2
    refine PWc.skip ?_
    refine PWc.seq ?_
    refine PWc.region ?_
    refine PWl.step (LR.buildSlice [] elem61 rfl rfl (.nil) (by decide) (by decide) rfl) rfl ?_
    refine PWl.step (LR.move rfl) rfl ?_
    refine PWl.step (LR.append [5] elem61 rfl rfl (by first | rfl | (simp; done) | (simp; omega)) (Src.sl rfl (eachMap (enc := eDot) (fun _ => rfl) _)) (eachMap (enc := eDot) (fun _ => rfl) _) (by first | omega | (simp only [List.length_map]; omega) | (simp; omega)) (by first | omega | (simp only [List.length_map]; omega) | (simp; omega)) rfl) rfl ?_
    refine PWl.step (LR.assign rfl) rfl ?_
    refine PWl.nil ?_
    refine PWc.ret ?_
    refine ⟨.inr rfl, 2, rfl, .inr ⟨5, _, rfl, ?_, ?_⟩⟩
    · first | rfl | (simp; done) | (simp; omega)
    · first | rfl | simp

/-- epitaph/event.Copy -/
theorem copyEv (e : Ev) (hl : e.kills.length ≤ 1000000) : PFun Try.prog 88 [pA (eEv e)] (pA (eEv e)) := by
  refine PFun.intro (sl := [(0, _)]) Try.func88 rfl Try.ntmps88 rfl rfl ?_
  intro ctx hK
  refine PWc.seq ?_
  refine PWc.region ?_
  refine PWl.step (LR.box rfl rfl rfl rfl) rfl ?_
  refine PWl.step (LR.allocZ (cs := [_, _, _, _, _, _, _]) Try.zeroValue113 rfl rfl rfl rfl) rfl ?_
  refine PWl.nil ?_
  refine PWc.seq ?_
  refine PWc.region ?_
  refine PWl.step (LR.fieldRef Try.underlying113 rfl Try.sizeOf61 (by decide) rfl rfl) rfl ?_
  refine PWl.step (LR.loadRef Try.isAgg61 rfl rfl rfl) rfl ?_
  refine PWl.step (LR.call ((cloneDots e.kills hl).fun) rfl Try.call116 rfl rfl rfl) rfl ?_
  refine PWl.step (LR.fieldRef Try.underlying113 rfl Try.sizeOf61 (by decide) rfl rfl) rfl ?_
  refine PWl.step (LR.storeB (ns := [_, _, _, _, _, _, _]) Try.sizeOf61 rfl rfl rfl rfl rfl rfl rfl) rfl ?_
  refine PWl.nil ?_
  refine PWc.seq ?_
  refine PWc.region ?_
  refine PWl.step (LR.loadRefAgg (ps := [_, _, _, _, _, _, _]) Try.isAgg113 Try.sizeOf113 rfl rfl rfl rfl) rfl ?_
  refine PWl.step (LR.storeB (ns := [_, _, _, _, _, _, _]) Try.sizeOf113 rfl rfl rfl rfl rfl rfl rfl) rfl ?_
  refine PWl.nil ?_
  refine PWc.ret ?_
  exact ⟨.inr rfl, _, .cons (.agg Try.isAgg113 Try.sizeOf113 rfl rfl rfl rfl) <| .nil, rfl⟩

/-- epitaph/epitaphref13.Few -/
theorem few (l : List Ev) (most : Nat) (hl : l.length ≤ 9223372036854775807) : PFun Try.prog 17 [pEs l, pI most] (pB (fewE l most)) := by
  refine PFun.intro (sl := [(0, _), (1, _)]) Try.func17 rfl Try.ntmps17 rfl rfl ?_
  intro ctx hK
  refine PWc.seq ?_
  refine PWc.region ?_
  refine PWl.step (LR.assign rfl) rfl ?_
  refine PWl.nil ?_
  refine PWc.seq ?_
  refine PWc.seq ?_
  refine PWc.region ?_
  refine PWl.step (LR.move rfl) rfl ?_
  refine PWl.step (LR.lenMap (enc := eEv) Try.underlying22 rfl) rfl ?_
  refine PWl.step (LR.move rfl) rfl ?_
  refine PWl.step (LR.gtr rfl rfl) rfl ?_
  refine PWl.nil ?_
  refine PWc.cond rfl (fun hc1 => ?_) (fun hc1 => ?_)
  · try simp only [decide_eq_true_eq, decide_eq_false_iff_not, Bool.not_eq_true', Bool.not_eq_false', Int.not_lt, Int.not_le, Int.ofNat_lt, Int.ofNat_le, Int.ofNat_inj] at hc1
    refine PWc.seq ?_
    refine PWc.region ?_
    refine PWl.step (LR.assign rfl) rfl ?_
    refine PWl.nil ?_
    refine PWc.ret ?_
    refine ⟨.inr rfl, _, .cons (.tmp rfl rfl) <| .nil, ?_⟩
    show pB false = pB (fewE l most)
    have : fewE l most = false := by simp [fewE]; omega
    rw [this]
  · try simp only [decide_eq_true_eq, decide_eq_false_iff_not, Bool.not_eq_true', Bool.not_eq_false', Int.not_lt, Int.not_le, Int.ofNat_lt, Int.ofNat_le, Int.ofNat_inj] at hc1
    refine PWc.skip ?_
    refine PWc.seq ?_
    refine PWc.seq ?_
    refine PWc.region ?_
    refine PWl.step (LR.assign rfl) rfl ?_
    refine PWl.nil ?_
    refine PWc.block ?_
    refine PWc.loop (X := Nat) (fun i => ⟨32, [(0, pEs l), (5, pI i)], []⟩) (fun i => i ≤ l.length ∧ ∀ e ∈ l.take i, e.kills.length ≤ 300 ∧ e.text.size ≤ 200) (fun i => l.length - i) (0) ?_ (⟨Nat.zero_le _, by simp⟩) ?_
    · exact Sub.of rfl (.cons rfl (by first | rfl | (simp; done) | (congr 3; omega)) <| .cons rfl (by first | rfl | (simp; done) | (congr 3; omega)) <| .nil) (.nil)
    · rintro i ⟨hI, hI2⟩
      refine PWc.seq ?_
      refine PWc.seq ?_
      refine PWc.region ?_
      refine PWl.step (LR.move rfl) rfl ?_
      refine PWl.step (LR.move rfl) rfl ?_
      refine PWl.step (LR.lenMap (enc := eEv) Try.underlying22 rfl) rfl ?_
      refine PWl.step (LR.lss rfl rfl) rfl ?_
      refine PWl.nil ?_
      refine PWc.cond rfl (fun hc2 => ?_) (fun hc2 => ?_)
      · try simp only [decide_eq_true_eq, decide_eq_false_iff_not, Bool.not_eq_true', Bool.not_eq_false', Int.not_lt, Int.not_le, Int.ofNat_lt, Int.ofNat_le, Int.ofNat_inj] at hc2
        refine PWc.skip ?_
        refine PWc.seq ?_
        refine PWc.block ?_
        refine PWc.seq ?_
        refine PWc.region ?_
        refine PWl.step (LR.move rfl) rfl ?_
        refine PWl.step (LR.move rfl) rfl ?_
        refine PWl.step (LR.idxMap (enc := eEv) Try.underlying22 Try.sizeOf113 rfl rfl rfl (by omega) (fun _ => rfl)) rfl ?_
        refine PWl.step (LR.fieldEp Try.underlying113 rfl Try.sizeOf61 (by decide) rfl rfl) rfl ?_
        refine PWl.step (LR.loadEp Try.isAgg61 rfl rfl) rfl ?_
        refine PWl.step (LR.lenMap (enc := eDot) Try.underlying61 rfl) rfl ?_
        refine PWl.step (LR.gtr rfl rfl) rfl ?_
        refine PWl.step (LR.move rfl) rfl ?_
        refine PWl.split (d := 23) rfl (fun hg3 => ?_) (fun hg3 => ?_)
        · try simp only [decide_eq_true_eq, decide_eq_false_iff_not, Bool.not_eq_true', Bool.not_eq_false', Int.not_lt, Int.not_le, Int.ofNat_lt, Int.ofNat_le, Int.ofNat_inj] at hg3
          refine PWl.guardF rfl rfl rfl (by decide) ?_
          refine PWl.guardF rfl rfl rfl (by decide) ?_
          refine PWl.guardF rfl rfl rfl (by decide) ?_
          refine PWl.guardF rfl rfl rfl (by decide) ?_
          refine PWl.guardF rfl rfl rfl (by decide) ?_
          refine PWl.guardF rfl rfl rfl (by decide) ?_
          refine PWl.guardF rfl rfl rfl (by decide) ?_
          refine PWl.step (LR.pickT rfl rfl) rfl ?_
          refine PWl.nil ?_
          refine PWc.condT rfl ?_
          refine PWc.seq ?_
          refine PWc.region ?_
          refine PWl.step (LR.assign rfl) rfl ?_
          refine PWl.nil ?_
          refine PWc.ret ?_
          refine ⟨.inr rfl, _, .cons (.tmp rfl rfl) <| .nil, ?_⟩
          show pB false = pB (fewE l most)
          rw [few_no (by omega) (by omega)]
        · try simp only [decide_eq_true_eq, decide_eq_false_iff_not, Bool.not_eq_true', Bool.not_eq_false', Int.not_lt, Int.not_le, Int.ofNat_lt, Int.ofNat_le, Int.ofNat_inj] at hg3
          refine PWl.guardT (LR.move rfl) rfl rfl rfl ?_
          refine PWl.guardT (LR.move rfl) rfl rfl rfl ?_
          refine PWl.guardT (LR.idxMap (enc := eEv) Try.underlying22 Try.sizeOf113 rfl rfl rfl (by omega) (fun _ => rfl)) rfl rfl rfl ?_
          refine PWl.guardT (LR.fieldEp Try.underlying113 rfl Try.sizeOf9 (by decide) rfl rfl) rfl rfl rfl ?_
          refine PWl.guardT (LR.loadEp Try.isAgg9 rfl rfl) rfl rfl rfl ?_
          refine PWl.guardT (LR.lenStr Try.underlying9 rfl) rfl rfl rfl ?_
          refine PWl.guardT (LR.gtr rfl rfl) rfl rfl rfl ?_
          refine PWl.step (LR.pickF rfl rfl) rfl ?_
          refine PWl.nil ?_
          refine PWc.cond rfl (fun hc4 => ?_) (fun hc4 => ?_)
          · try simp only [decide_eq_true_eq, decide_eq_false_iff_not, Bool.not_eq_true', Bool.not_eq_false', Int.not_lt, Int.not_le, Int.ofNat_lt, Int.ofNat_le, Int.ofNat_inj] at hc4
            refine PWc.seq ?_
            refine PWc.region ?_
            refine PWl.step (LR.assign rfl) rfl ?_
            refine PWl.nil ?_
            refine PWc.ret ?_
            refine ⟨.inr rfl, _, .cons (.tmp rfl rfl) <| .nil, ?_⟩
            show pB false = pB (fewE l most)
            rw [few_no (i := i) (by omega) (by omega)]
          · try simp only [decide_eq_true_eq, decide_eq_false_iff_not, Bool.not_eq_true', Bool.not_eq_false', Int.not_lt, Int.not_le, Int.ofNat_lt, Int.ofNat_le, Int.ofNat_inj] at hc4
            refine PWc.skip ?_
            refine PWc.region ?_
            refine PWl.step (LR.move rfl) rfl ?_
            refine PWl.step (LR.add_i64 rfl rfl (by omega) (by omega)) rfl ?_
            refine PWl.step (LR.assign rfl) rfl ?_
            refine PWl.nil ?_
            refine ⟨i + 1, ⟨by omega, few_step hI2 (by omega) (by omega)⟩, by omega, ?_⟩
            exact Sub.of rfl (.cons rfl (by first | rfl | (simp; done) | (congr 3; omega)) <| .cons rfl (by first | rfl | (simp; done) | (congr 3; omega)) <| .nil) (.nil)
      · try simp only [decide_eq_true_eq, decide_eq_false_iff_not, Bool.not_eq_true', Bool.not_eq_false', Int.not_lt, Int.not_le, Int.ofNat_lt, Int.ofNat_le, Int.ofNat_inj] at hc2
        refine PWc.exit ?_
        refine PWc.seq ?_
        refine PWc.region ?_
        refine PWl.step (LR.assign rfl) rfl ?_
        refine PWl.nil ?_
        refine PWc.ret ?_
        refine ⟨.inr rfl, _, .cons (.tmp rfl rfl) <| .nil, ?_⟩
        show pB true = pB (fewE l most)
        rw [few_yes (by omega) (by omega) hI2]

end Go.Proofs

/- Batches; the example; the law. -/
import Derived.Test.YtdipflebhoodkaaOa
import Derived.KernelRfl
namespace Go.Proofs
open Go.Ep
set_option maxHeartbeats 1000000
set_option maxRecDepth 100000
set_option linter.unusedVariables false
set_option linter.unusedSimpArgs false

/-- epitaph/outbox.Batches -/
theorem batches (l : List Ev) (hl : l.length ≤ 1000000) : PFun Try.prog 19 [pEs l] (pI ((l.length + 3) / 4)) := by
  refine PFun.intro (sl := [(0, _)]) Try.func19 rfl Try.ntmps19 rfl rfl ?_
  intro ctx hK
  refine PWc.seq ?_
  refine PWc.region ?_
  refine PWl.step (LR.assign rfl) rfl ?_
  refine PWl.nil ?_
  refine PWc.seq ?_
  refine PWc.region ?_
  refine PWl.step (LR.move rfl) rfl ?_
  refine PWl.step (LR.lenMap (enc := eEv) Try.underlying22 rfl) rfl ?_
  refine PWl.step (LR.add_i64 rfl rfl (by omega) (by omega)) rfl ?_
  refine PWl.step (LR.sub_i64 rfl rfl (by omega) (by omega)) rfl ?_
  refine PWl.step (LR.quo_i64 rfl rfl (by omega) (by omega) (by omega)) rfl ?_
  refine PWl.step (LR.assign rfl) rfl ?_
  refine PWl.nil ?_
  refine PWc.ret ?_
  refine ⟨.inr rfl, _, .cons (.tmp rfl rfl) <| .nil, ?_⟩
  show pI _ = pI _
  congr 4; omega

/-- epitaph/outbox.Batch -/
theorem batch (l : List Ev) (pick : Int) (k : Nat) (h0 : 0 < l.length) (hl : l.length ≤ 1000) (hk : ∀ e ∈ l, e.kills.length ≤ 1000000) (hp : -9223372036854775808 ≤ pick ∧ pick ≤ 9223372036854775807) (hm : pick % (((l.length : Int) + 3) / 4) = k) : PFun Try.prog 20 [pEs l, pI pick] (pEs (cut l k)) := by
  refine PFun.intro (sl := [(0, _), (1, _)]) Try.func20 rfl Try.ntmps20 rfl rfl ?_
  intro ctx hK
  have hk2 := Int.emod_lt_of_pos pick (b := ((l.length:Int)+3)/4) (by omega)
  have hk3 : 4 * k < l.length := by omega
  refine PWc.seq ?_
  refine PWc.region ?_
  refine PWl.step (LR.assignNil) rfl ?_
  refine PWl.nil ?_
  refine PWc.seq ?_
  refine PWc.region ?_
  refine PWl.step (LR.move rfl) rfl ?_
  refine PWl.step (LR.call (batches l (by omega)) rfl Try.call19 rfl rfl rfl) rfl ?_
  refine PWl.step (LR.assign rfl) rfl ?_
  refine PWl.nil ?_
  refine PWc.seq ?_
  refine PWc.seq ?_
  refine PWc.region ?_
  refine PWl.step (LR.move rfl) rfl ?_
  refine PWl.step (LR.eql rfl rfl) rfl ?_
  refine PWl.nil ?_
  refine PWc.cond rfl (fun hc1 => ?_) (fun hc1 => ?_)
  · try simp only [decide_eq_true_eq, decide_eq_false_iff_not, Bool.not_eq_true', Bool.not_eq_false', Int.not_lt, Int.not_le, Int.ofNat_lt, Int.ofNat_le, Int.ofNat_inj] at hc1
    exfalso; omega
  · try simp only [decide_eq_true_eq, decide_eq_false_iff_not, Bool.not_eq_true', Bool.not_eq_false', Int.not_lt, Int.not_le, Int.ofNat_lt, Int.ofNat_le, Int.ofNat_inj] at hc1
    refine PWc.skip ?_
    refine PWc.seq ?_
    refine PWc.region ?_
    refine PWl.step (LR.move rfl) rfl ?_
    refine PWl.step (LR.move rfl) rfl ?_
    refine PWl.step (LR.rem rfl rfl (by omega)) rfl ?_
    refine PWl.step (LR.assign rfl) rfl ?_
    refine PWl.nil ?_
    refine PWc.seq ?_
    refine PWc.join (X := Unit) (fun _u => ⟨44, [(0, pEs l), (5, pI ((l.length + 3) / 4)), (6, pI k)], []⟩) (fun _u => True) ?_ ?_
    · skip
      refine PWc.seq ?_
      refine PWc.region ?_
      have h1 := Int.tmod_lt_of_pos pick (b := ((l.length:Int)+3)/4) (by omega)
      have h2 := Int.lt_tmod_of_pos pick (b := ((l.length:Int)+3)/4) (by omega)
      have h3 := Int.tmod_eq_emod (a := pick) (b := ((l.length:Int)+3)/4)
      have h4 := Int.emod_nonneg pick (b := ((l.length:Int)+3)/4) (by omega)
      have h5 := Int.emod_lt_of_pos pick (b := ((l.length:Int)+3)/4) (by omega)
      have h7 : (((l.length:Int)+3)/4).natAbs = ((l.length:Int)+3)/4 := by omega
      have h6 : pick.tmod (((l.length:Int)+3)/4) = pick % (((l.length:Int)+3)/4) ∨ pick.tmod (((l.length:Int)+3)/4) = pick % (((l.length:Int)+3)/4) - (((l.length:Int)+3)/4) := by rw [h3]; split <;> omega
      clear h3
      generalize hq : pick.tmod (((l.length:Int)+3)/4) = q at *
      generalize hr : pick % (((l.length:Int)+3)/4) = m at *
      refine PWl.step (LR.move rfl) rfl ?_
      refine PWl.step (LR.lss rfl rfl) rfl ?_
      refine PWl.nil ?_
      refine PWc.cond rfl (fun hc2 => ?_) (fun hc2 => ?_)
      · try simp only [decide_eq_true_eq, decide_eq_false_iff_not, Bool.not_eq_true', Bool.not_eq_false', Int.not_lt, Int.not_le, Int.ofNat_lt, Int.ofNat_le, Int.ofNat_inj] at hc2
        refine PWc.region ?_
        refine PWl.step (LR.move rfl) rfl ?_
        refine PWl.step (LR.move rfl) rfl ?_
        refine PWl.step (LR.add_i64 rfl rfl (by omega) (by omega)) rfl ?_
        refine PWl.step (LR.assign rfl) rfl ?_
        refine PWl.nil ?_
        refine ⟨(), trivial, ?_⟩
        exact Sub.of rfl (.cons rfl (by first | rfl | (simp; done) | (congr 3; omega)) <| .cons rfl (by first | rfl | (simp; done) | (congr 3; omega)) <| .cons rfl (by show pI _ = pI _; congr 3; omega) <| .nil) (.nil)
      · try simp only [decide_eq_true_eq, decide_eq_false_iff_not, Bool.not_eq_true', Bool.not_eq_false', Int.not_lt, Int.not_le, Int.ofNat_lt, Int.ofNat_le, Int.ofNat_inj] at hc2
        refine PWc.skip ?_
        refine ⟨(), trivial, ?_⟩
        exact Sub.of rfl (.cons rfl (by first | rfl | (simp; done) | (congr 3; omega)) <| .cons rfl (by first | rfl | (simp; done) | (congr 3; omega)) <| .cons rfl (by show pI _ = pI _; congr 3; omega) <| .nil) (.nil)
    · rintro _u hJ
      refine PWc.seq ?_
      refine PWc.region ?_
      refine PWl.step (LR.assignNilRow 113 7 rfl) rfl ?_
      refine PWl.nil ?_
      refine PWc.seq ?_
      refine PWc.seq ?_
      refine PWc.region ?_
      refine PWl.step (LR.move rfl) rfl ?_
      refine PWl.step (LR.move rfl) rfl ?_
      refine PWl.step (LR.mul_i64 rfl rfl (by omega) (by omega)) rfl ?_
      refine PWl.step (LR.move rfl) rfl ?_
      refine PWl.step (LR.add_i64 rfl rfl (by omega) (by omega)) rfl ?_
      refine PWl.step (LR.mul_i64 rfl rfl (by omega) (by omega)) rfl ?_
      refine PWl.step (LR.move rfl) rfl ?_
      refine PWl.step (LR.lenMap (enc := eEv) Try.underlying22 rfl) rfl ?_
      refine PWl.step (LR.minI rfl rfl) rfl ?_
      refine PWl.step (LR.sliceLH (m := 4 * k) (n := min (4 * k + 4) l.length) Try.underlying22 Try.sizeOf113 rfl (eachMap (enc := eEv) (fun _ => rfl) _) rfl rfl (by omega) (by omega) (by omega) (by simp; omega)) rfl ?_
      refine PWl.step (LR.lenSl Try.underlying22 rfl) rfl ?_
      refine PWl.step (LR.move rfl) rfl ?_
      refine PWl.nil ?_
      refine PWc.block ?_
      refine PWc.loop (X := Nat) (fun i => ⟨44, [(7, .row 7 i), (31, pEs (cut l k)), (32, pI ((cut l k).length : Nat)), (33, pI i)], [(7, .row 113 7 (((cut l k).take i).map eEv))]⟩) (fun i => i ≤ (cut l k).length) (fun i => (cut l k).length - i) (0) ?_ (Nat.zero_le _) ?_
      · exact Sub.of rfl (.cons rfl (by first | rfl | (simp; done) | (congr 3; omega)) <| .cons rfl (by show PV.d (.sl _) = _; rw [cut_eq]) <| .cons rfl (by rw [cut_eq, List.length_map]) <| .cons rfl (by first | rfl | (simp; done) | (congr 3; omega)) <| .nil) (.cons rfl (by simp) <| .nil)
      · rintro i hI
        have hcl := cut_len l k
        refine PWc.seq ?_
        refine PWc.region ?_
        refine PWl.step (LR.lss rfl rfl) rfl ?_
        refine PWl.nil ?_
        refine PWc.seq ?_
        refine PWc.cond rfl (fun hc3 => ?_) (fun hc3 => ?_)
        · try simp only [decide_eq_true_eq, decide_eq_false_iff_not, Bool.not_eq_true', Bool.not_eq_false', Int.not_lt, Int.not_le, Int.ofNat_lt, Int.ofNat_le, Int.ofNat_inj] at hc3
          refine PWc.skip ?_
          refine PWc.seq ?_
          refine PWc.block ?_
          refine PWc.seq ?_
          refine PWc.region ?_
          refine PWl.step (LR.idxMap (enc := eEv) Try.underlying22 Try.sizeOf113 rfl rfl rfl (by omega) (fun _ => rfl)) rfl ?_
          refine PWl.step (LR.loadEpAgg (ys := [_, _, _, _, _, _, _]) Try.isAgg113 Try.sizeOf113 rfl rfl rfl) rfl ?_
          refine PWl.step (LR.allocZ (cs := [_, _, _, _, _, _, _]) Try.zeroValue113 rfl rfl rfl rfl) rfl ?_
          refine PWl.step (LR.storeB (ns := [_, _, _, _, _, _, _]) Try.sizeOf113 rfl rfl rfl rfl rfl rfl rfl) rfl ?_
          refine PWl.nil ?_
          refine PWc.region ?_
          refine PWl.step (LR.move rfl) rfl ?_
          refine PWl.step (LR.loadRefAgg (ps := [_, _, _, _, _, _, _]) Try.isAgg113 Try.sizeOf113 rfl rfl rfl rfl) rfl ?_
          refine PWl.step (LR.call (copyEv (cut l k)[i] (hk _ (cut_mem (List.getElem_mem _)))) rfl Try.call88 rfl rfl rfl) rfl ?_
          refine PWl.step (LR.buildSliceD [.tmp 39] elem22 rfl rfl (.cons rfl rfl rfl <| .nil) (by decide) (by decide)) rfl ?_
          refine PWl.step (LR.append [7, 37] elem22 rfl rfl (by first | rfl | (simp; done) | (simp; omega)) (Src.sl rfl (eachLit (by rfl))) (eachLit (by rfl)) (by first | omega | (simp only [List.length_map]; omega) | (simp; omega)) (by first | omega | (simp only [List.length_map]; omega) | (simp; omega)) rfl) rfl ?_
          refine PWl.step (LR.assign rfl) rfl ?_
          refine PWl.nil ?_
          refine PWc.region ?_
          refine PWl.step (LR.add_i64 rfl rfl (by omega) (by omega)) rfl ?_
          refine PWl.step (LR.move rfl) rfl ?_
          refine PWl.nil ?_
          refine ⟨i + 1, by omega, by omega, ?_⟩
          exact Sub.of rfl (.cons rfl (by first | rfl | (simp; done) | (congr 3; omega)) <| .cons rfl (by first | rfl | (simp; done) | (congr 3; omega)) <| .cons rfl (by first | rfl | (simp; done) | (congr 3; omega)) <| .cons rfl (by first | rfl | (simp; done) | (congr 3; omega)) <| .nil) (.cons rfl (by exact row_app 113 7 (by omega)) <| .nil)
        · try simp only [decide_eq_true_eq, decide_eq_false_iff_not, Bool.not_eq_true', Bool.not_eq_false', Int.not_lt, Int.not_le, Int.ofNat_lt, Int.ofNat_le, Int.ofNat_inj] at hc3
          refine PWc.exit ?_
          refine PWc.seq ?_
          refine PWc.region ?_
          refine PWl.step (LR.move rfl) rfl ?_
          refine PWl.step (LR.assign rfl) rfl ?_
          refine PWl.nil ?_
          refine PWc.ret ?_
          refine ⟨.inr rfl, _, .cons (.row rfl rfl (by first | rfl | (simp; done) | (simp; omega))) <| .nil, ?_⟩
          show pEs _ = pEs _; rw [List.take_of_length_le (by omega)]


def z : Ev := ⟨⟨0, 0⟩, 0, 0, 0, ⟨#[]⟩, []⟩
def wl : List Ev := [z, z, z, z, { z with text := ⟨#[101]⟩ }, z]
theorem wk : ∀ e ∈ wl, e.kills.length ≤ 1000000 := by simp [wl, z]
theorem wcut : cut wl 1 = [{ z with text := ⟨#[101]⟩ }, z] := by unfold cut; rfl
theorem wsame (h : 0 < (cut wl 1).length) (h' : 4 < wl.length) : PFun Try.prog 87 [pA (eEv ((cut wl 1)[0]'h)), pA (eEv (wl[4]'h'))] (pB true) := by
  have e : (cut wl 1)[0]'h = wl[4]'h' := by simp [wcut]; rfl
  rw [e]
  exact sameEv _ (by simp [wl, z])
theorem few_facts {l : List Ev} {n : Nat} (h : fewE l n = true) : l.length ≤ n ∧ ∀ e ∈ l, e.kills.length ≤ 300 := by
  simp only [fewE, Bool.and_eq_true, List.all_eq_true, decide_eq_true_eq] at h
  exact ⟨h.1, fun e he => (h.2 e he).1⟩
theorem take_cut (l : List Ev) (i : Nat) : (l.take (4 * i)).map eEv ++ (cut l i).map eEv = (l.take (4 * (i + 1))).map eEv := by
  unfold cut
  rw [← List.map_append, show 4 * (i + 1) = 4 * i + 4 by omega, List.take_add]

/-- epitaph/epitaphlaw29.works -/
theorem works  : PFun Try.prog 18 [] (pB true) := by
  refine PFun.intro (sl := []) Try.func18 rfl Try.ntmps18 rfl rfl ?_
  intro ctx hK
  refine PWc.seq ?_
  refine PWc.region ?_
  refine PWl.step (LR.assign rfl) rfl ?_
  refine PWl.nil ?_
  refine PWc.seq ?_
  refine PWc.region ?_
  refine PWl.step (LR.makeN (n := 6) elem22 Try.zeroValue113 rfl rfl rfl rfl rfl rfl (by omega) (by omega) rfl) rfl ?_
  refine PWl.step (LR.assign rfl) rfl ?_
  refine PWl.nil ?_
  refine PWc.seq ?_
  refine PWc.region ?_
  refine PWl.step (LR.move rfl) rfl ?_
  refine PWl.step (LR.idxRow (n := 4) Try.underlying22 Try.sizeOf113 rfl rfl rfl (by decide)) rfl ?_
  refine PWl.step (LR.fieldRp Try.underlying113 rfl Try.sizeOf9 (by decide) rfl rfl) rfl ?_
  refine PWl.step (LR.storeRpB (ns := [_, _, _, _, _, _, _]) Try.sizeOf9 rfl rfl rfl rfl rfl rfl rfl rfl) rfl ?_
  refine PWl.nil ?_
  refine PWc.seq ?_
  refine PWc.frz [1, 2, 3] hK (.cons rfl <| .cons rfl <| .cons rfl <| .nil) rfl (by first | rfl | (simp; done) | (simp; omega)) ?_
  refine PWc.re (n := 37) (tl := [(0, pB false), (1, pEs wl)] ) (to := []) rfl (.cons rfl (by first | rfl | (simp; done) | (congr 3; omega)) <| .cons rfl (by first | rfl | (simp; done) | (congr 3; omega)) <| .nil) (.nil) ?_
  refine PWc.regionD (by kernel_rfl) (by kernel_rfl) ?_
  refine PQl.step (fun _ he ho => LR.move (he rfl rfl)) rfl ?_
  refine PQl.step (fun _ he ho => LR.call (batches wl (by decide)) (he rfl rfl) Try.call19 (evsE he rfl rfl) rfl rfl) rfl ?_
  refine PQl.step (fun _ he ho => LR.eql (he rfl rfl) (he rfl rfl)) rfl ?_
  refine PQl.step (fun _ he ho => LR.move (he rfl rfl)) rfl ?_
  refine PQl.split (d := 9) rfl (fun hg1 => ?_) (fun hg1 => ?_)
  · try simp only [decide_eq_true_eq, decide_eq_false_iff_not, Bool.not_eq_true', Bool.not_eq_false', Int.not_lt, Int.not_le, Int.ofNat_lt, Int.ofNat_le, Int.ofNat_inj] at hg1
    refine PQl.guardT (fun _ he ho => LR.move (he rfl rfl)) rfl rfl rfl ?_
    refine PQl.guardT (fun _ he ho => LR.call (batch wl 1 1 (by decide) (by decide) wk (by decide) (by decide)) (he rfl rfl) Try.call20 (evsE he rfl rfl) rfl rfl) rfl rfl rfl ?_
    refine PQl.guardT (fun _ he ho => LR.lenMap (enc := eEv) Try.underlying22 (he rfl rfl)) rfl rfl rfl ?_
    refine PQl.guardT (fun _ he ho => LR.eql (he rfl rfl) (he rfl rfl)) rfl rfl rfl ?_
    refine PQl.step (fun _ he ho => LR.pickT (he rfl rfl) (he rfl rfl)) rfl ?_
    refine PQl.step (fun _ he ho => LR.move (he rfl rfl)) rfl ?_
    refine PQl.split (d := 15) rfl (fun hg2 => ?_) (fun hg2 => ?_)
    · try simp only [decide_eq_true_eq, decide_eq_false_iff_not, Bool.not_eq_true', Bool.not_eq_false', Int.not_lt, Int.not_le, Int.ofNat_lt, Int.ofNat_le, Int.ofNat_inj] at hg2
      refine PQl.guardT (fun _ he ho => LR.move (he rfl rfl)) rfl rfl rfl ?_
      refine PQl.guardT (fun _ he ho => LR.call (batch wl 3 1 (by decide) (by decide) wk (by decide) (by decide)) (he rfl rfl) Try.call20 (evsE he rfl rfl) rfl rfl) rfl rfl rfl ?_
      refine PQl.guardT (fun _ he ho => LR.lenMap (enc := eEv) Try.underlying22 (he rfl rfl)) rfl rfl rfl ?_
      refine PQl.guardT (fun _ he ho => LR.eql (he rfl rfl) (he rfl rfl)) rfl rfl rfl ?_
      refine PQl.step (fun _ he ho => LR.pickT (he rfl rfl) (he rfl rfl)) rfl ?_
      refine PQl.step (fun _ he ho => LR.move (he rfl rfl)) rfl ?_
      refine PQl.split (d := 21) rfl (fun hg3 => ?_) (fun hg3 => ?_)
      · try simp only [decide_eq_true_eq, decide_eq_false_iff_not, Bool.not_eq_true', Bool.not_eq_false', Int.not_lt, Int.not_le, Int.ofNat_lt, Int.ofNat_le, Int.ofNat_inj] at hg3
        refine PQl.guardT (fun _ he ho => LR.move (he rfl rfl)) rfl rfl rfl ?_
        refine PQl.guardT (fun _ he ho => LR.call (batch wl 0 0 (by decide) (by decide) wk (by decide) (by decide)) (he rfl rfl) Try.call20 (evsE he rfl rfl) rfl rfl) rfl rfl rfl ?_
        refine PQl.guardT (fun _ he ho => LR.lenMap (enc := eEv) Try.underlying22 (he rfl rfl)) rfl rfl rfl ?_
        refine PQl.guardT (fun _ he ho => LR.eql (he rfl rfl) (he rfl rfl)) rfl rfl rfl ?_
        refine PQl.step (fun _ he ho => LR.pickT (he rfl rfl) (he rfl rfl)) rfl ?_
        refine PQl.step (fun _ he ho => LR.move (he rfl rfl)) rfl ?_
        refine PQl.split (d := 27) rfl (fun hg4 => ?_) (fun hg4 => ?_)
        · try simp only [decide_eq_true_eq, decide_eq_false_iff_not, Bool.not_eq_true', Bool.not_eq_false', Int.not_lt, Int.not_le, Int.ofNat_lt, Int.ofNat_le, Int.ofNat_inj] at hg4
          refine PQl.guardT (fun _ he ho => LR.move (he rfl rfl)) rfl rfl rfl ?_
          refine PQl.guardT (fun _ he ho => LR.call (batch wl 3 1 (by decide) (by decide) wk (by decide) (by decide)) (he rfl rfl) Try.call20 (evsE he rfl rfl) rfl rfl) rfl rfl rfl ?_
          refine PQl.guardT (fun _ he ho => LR.idxMap (enc := eEv) (n := 0) (L := cut wl 1) Try.underlying22 Try.sizeOf113 (he rfl rfl) (he rfl rfl) rfl (by rw [cut_len]; decide) (fun _ => rfl)) rfl rfl rfl ?_
          refine PQl.guardT (fun _ he ho => LR.loadEpAgg (ys := [_, _, _, _, _, _, _]) Try.isAgg113 Try.sizeOf113 (he rfl rfl) rfl rfl) rfl rfl rfl ?_
          refine PQl.guardT (fun _ he ho => LR.move (he rfl rfl)) rfl rfl rfl ?_
          refine PQl.guardT (fun _ he ho => LR.idxMap (enc := eEv) (n := 4) (L := wl) Try.underlying22 Try.sizeOf113 (he rfl rfl) (he rfl rfl) rfl (by decide) (fun _ => rfl)) rfl rfl rfl ?_
          refine PQl.guardT (fun _ he ho => LR.loadEpAgg (ys := [_, _, _, _, _, _, _]) Try.isAgg113 Try.sizeOf113 (he rfl rfl) rfl rfl) rfl rfl rfl ?_
          refine PQl.guardT (fun _ he ho => LR.call (wsame (by rw [cut_len]; decide) (by decide)) (he rfl rfl) Try.call87 (evsE he rfl rfl) rfl rfl) rfl rfl rfl ?_
          refine PQl.step (fun _ he ho => LR.pickT (he rfl rfl) (he rfl rfl)) rfl ?_
          refine PQl.step (fun _ he ho => LR.assign (he rfl rfl)) rfl ?_
          refine PQl.nil ?_
          refine PWc.ret ?_
          exact ⟨.inr rfl, _, .cons (.tmp rfl rfl) <| .nil, rfl⟩
        · try simp only [decide_eq_true_eq, decide_eq_false_iff_not, Bool.not_eq_true', Bool.not_eq_false', Int.not_lt, Int.not_le, Int.ofNat_lt, Int.ofNat_le, Int.ofNat_inj] at hg4
          exfalso; rw [cut_len] at hg4; revert hg4; decide
      · try simp only [decide_eq_true_eq, decide_eq_false_iff_not, Bool.not_eq_true', Bool.not_eq_false', Int.not_lt, Int.not_le, Int.ofNat_lt, Int.ofNat_le, Int.ofNat_inj] at hg3
        exfalso; rw [cut_len] at hg3; revert hg3; decide
    · try simp only [decide_eq_true_eq, decide_eq_false_iff_not, Bool.not_eq_true', Bool.not_eq_false', Int.not_lt, Int.not_le, Int.ofNat_lt, Int.ofNat_le, Int.ofNat_inj] at hg2
      exfalso; rw [cut_len] at hg2; revert hg2; decide
  · try simp only [decide_eq_true_eq, decide_eq_false_iff_not, Bool.not_eq_true', Bool.not_eq_false', Int.not_lt, Int.not_le, Int.ofNat_lt, Int.ofNat_le, Int.ofNat_inj] at hg1
    exfalso; revert hg1; decide

/-- epitaph/epitaphlaw29.OutboxAll -/
theorem outboxAll (l : List Ev) (hl : l.length ≤ 9223372036854775807) : PFun Try.prog 3 [pEs l] (pB true) := by
  refine PFun.intro (sl := [(0, _)]) Try.func3 rfl Try.ntmps3 rfl rfl ?_
  intro ctx hK
  refine PWc.seq ?_
  refine PWc.region ?_
  refine PWl.step (LR.assign rfl) rfl ?_
  refine PWl.nil ?_
  refine PWc.seq ?_
  refine PWc.seq ?_
  refine PWc.region ?_
  refine PWl.step (LR.move rfl) rfl ?_
  refine PWl.step (LR.call (few l 30 hl) rfl Try.call17 rfl rfl rfl) rfl ?_
  refine PWl.step (LR.not rfl) rfl ?_
  refine PWl.nil ?_
  refine PWc.cond rfl (fun hc1 => ?_) (fun hc1 => ?_)
  · try simp only [decide_eq_true_eq, decide_eq_false_iff_not, Bool.not_eq_true', Bool.not_eq_false', Int.not_lt, Int.not_le, Int.ofNat_lt, Int.ofNat_le, Int.ofNat_inj] at hc1
    refine PWc.seq ?_
    refine PWc.region ?_
    refine PWl.step (LR.call (works) rfl Try.call18 rfl rfl rfl) rfl ?_
    refine PWl.step (LR.assign rfl) rfl ?_
    refine PWl.nil ?_
    refine PWc.ret ?_
    exact ⟨.inr rfl, _, .cons (.tmp rfl rfl) <| .nil, rfl⟩
  · try simp only [decide_eq_true_eq, decide_eq_false_iff_not, Bool.not_eq_true', Bool.not_eq_false', Int.not_lt, Int.not_le, Int.ofNat_lt, Int.ofNat_le, Int.ofNat_inj] at hc1
    obtain ⟨h30, hkl⟩ := few_facts hc1
    refine PWc.skip ?_
    refine PWc.seq ?_
    refine PWc.region ?_
    refine PWl.step (LR.assignNilRow 113 7 rfl) rfl ?_
    refine PWl.nil ?_
    refine PWc.seq ?_
    refine PWc.seq ?_
    refine PWc.region ?_
    refine PWl.step (LR.assign rfl) rfl ?_
    refine PWl.nil ?_
    refine PWc.block ?_
    refine PWc.loop (X := Nat) (fun i => ⟨47, [(0, pEs l), (3, .row 3 (min (4 * i) l.length)), (4, pI i)], [(3, .row 113 7 ((l.take (4 * i)).map eEv))]⟩) (fun i => i ≤ (l.length + 3) / 4) (fun i => (l.length + 3) / 4 - i) (0) ?_ (Nat.zero_le _) ?_
    · exact Sub.of rfl (.cons rfl (by first | rfl | (simp; done) | (congr 3; omega)) <| .cons rfl (by simp) <| .cons rfl (by first | rfl | (simp; done) | (congr 3; omega)) <| .nil) (.cons rfl (by simp) <| .nil)
    · rintro i hI
      refine PWc.seq ?_
      refine PWc.seq ?_
      refine PWc.region ?_
      refine PWl.step (LR.move rfl) rfl ?_
      refine PWl.step (LR.move rfl) rfl ?_
      refine PWl.step (LR.call (batches l (by omega)) rfl Try.call19 rfl rfl rfl) rfl ?_
      refine PWl.step (LR.lss rfl rfl) rfl ?_
      refine PWl.nil ?_
      refine PWc.cond rfl (fun hc2 => ?_) (fun hc2 => ?_)
      · try simp only [decide_eq_true_eq, decide_eq_false_iff_not, Bool.not_eq_true', Bool.not_eq_false', Int.not_lt, Int.not_le, Int.ofNat_lt, Int.ofNat_le, Int.ofNat_inj] at hc2
        have hcl := cut_len l i
        refine PWc.skip ?_
        refine PWc.seq ?_
        refine PWc.block ?_
        refine PWc.seq ?_
        refine PWc.region ?_
        refine PWl.step (LR.move rfl) rfl ?_
        refine PWl.step (LR.move rfl) rfl ?_
        refine PWl.step (LR.call (batch l i i (by omega) (by omega) (fun e he => by have := hkl e he; omega) (by omega) (Int.emod_eq_of_lt (by omega) (by omega))) rfl Try.call20 rfl rfl rfl) rfl ?_
        refine PWl.step (LR.assign rfl) rfl ?_
        refine PWl.nil ?_
        refine PWc.seq ?_
        refine PWc.seq ?_
        refine PWc.region ?_
        refine PWl.step (LR.move rfl) rfl ?_
        refine PWl.step (LR.lenMap (enc := eEv) Try.underlying22 rfl) rfl ?_
        refine PWl.step (LR.lss rfl rfl) rfl ?_
        refine PWl.step (LR.move rfl) rfl ?_
        refine PWl.split (d := 22) rfl (fun hg3 => ?_) (fun hg3 => ?_)
        · try simp only [decide_eq_true_eq, decide_eq_false_iff_not, Bool.not_eq_true', Bool.not_eq_false', Int.not_lt, Int.not_le, Int.ofNat_lt, Int.ofNat_le, Int.ofNat_inj] at hg3
          exfalso; omega
        · try simp only [decide_eq_true_eq, decide_eq_false_iff_not, Bool.not_eq_true', Bool.not_eq_false', Int.not_lt, Int.not_le, Int.ofNat_lt, Int.ofNat_le, Int.ofNat_inj] at hg3
          refine PWl.guardT (LR.move rfl) rfl rfl rfl ?_
          refine PWl.guardT (LR.lenMap (enc := eEv) Try.underlying22 rfl) rfl rfl rfl ?_
          refine PWl.guardT (LR.gtr rfl rfl) rfl rfl rfl ?_
          refine PWl.step (LR.pickF rfl rfl) rfl ?_
          refine PWl.step (LR.move rfl) rfl ?_
          refine PWl.split (d := 27) rfl (fun hg4 => ?_) (fun hg4 => ?_)
          · try simp only [decide_eq_true_eq, decide_eq_false_iff_not, Bool.not_eq_true', Bool.not_eq_false', Int.not_lt, Int.not_le, Int.ofNat_lt, Int.ofNat_le, Int.ofNat_inj] at hg4
            exfalso; omega
          · try simp only [decide_eq_true_eq, decide_eq_false_iff_not, Bool.not_eq_true', Bool.not_eq_false', Int.not_lt, Int.not_le, Int.ofNat_lt, Int.ofNat_le, Int.ofNat_inj] at hg4
            refine PWl.guardT (LR.move rfl) rfl rfl rfl ?_
            refine PWl.guardT (LR.move rfl) rfl rfl rfl ?_
            refine PWl.guardT (LR.move rfl) rfl rfl rfl ?_
            refine PWl.guardT (LR.call (batches l (by omega)) rfl Try.call19 rfl rfl rfl) rfl rfl rfl ?_
            refine PWl.guardT (LR.sub_i64 rfl rfl (by omega) (by omega)) rfl rfl rfl ?_
            refine PWl.guardT (LR.call (batch l (i - ((l.length : Int) + 3) / 4) i (by omega) (by omega) (fun e he => by have := hkl e he; omega) (by omega) (by rw [Int.sub_emod_right]; exact Int.emod_eq_of_lt (by omega) (by omega))) rfl Try.call20 rfl rfl rfl) rfl rfl rfl ?_
            refine PWl.guardT (LR.move rfl) rfl rfl rfl ?_
            refine PWl.guardT (LR.call (sameAll (cut l i) (by omega) (fun e he => by have := hkl e (cut_mem he); omega)) rfl Try.call21 rfl rfl rfl) rfl rfl rfl ?_
            refine PWl.guardT (LR.not rfl) rfl rfl rfl ?_
            refine PWl.step (LR.pickF rfl rfl) rfl ?_
            refine PWl.nil ?_
            refine PWc.condF rfl ?_
            refine PWc.skip ?_
            refine PWc.keep (tl := [(0, _), (3, _), (4, _), (5, _), (13, _), (37, _)]) rfl (.cons rfl rfl <| .cons rfl rfl <| .cons rfl rfl <| .cons rfl rfl <| .cons rfl rfl <| .cons rfl rfl <| .nil) ?_
            refine PWc.region ?_
            refine PWl.step (LR.move rfl) rfl ?_
            refine PWl.step (LR.move rfl) rfl ?_
            refine PWl.step (LR.append [3, 38] elem22 rfl rfl (by first | rfl | (simp; done) | (simp; omega)) (Src.sl rfl (eachMap (enc := eEv) (fun _ => rfl) _)) (eachMap (enc := eEv) (fun _ => rfl) _) (by first | omega | (simp only [List.length_map]; omega) | (simp; omega)) (by first | omega | (simp only [List.length_map]; omega) | (simp; omega)) rfl) rfl ?_
            refine PWl.step (LR.assign rfl) rfl ?_
            refine PWl.nil ?_
            refine PWc.region ?_
            refine PWl.step (LR.move rfl) rfl ?_
            refine PWl.step (LR.add_i64 rfl rfl (by omega) (by omega)) rfl ?_
            refine PWl.step (LR.assign rfl) rfl ?_
            refine PWl.nil ?_
            refine ⟨i + 1, by omega, by omega, ?_⟩
            exact Sub.of rfl (.cons rfl (by first | rfl | (simp; done) | (congr 3; omega)) <| .cons rfl (by congr 1; rw [List.length_map]; omega) <| .cons rfl (by first | rfl | (simp; done) | (congr 3; omega)) <| .nil) (.cons rfl (by exact congrArg (Ob.row 113 7) (take_cut l i)) <| .nil)
      · try simp only [decide_eq_true_eq, decide_eq_false_iff_not, Bool.not_eq_true', Bool.not_eq_false', Int.not_lt, Int.not_le, Int.ofNat_lt, Int.ofNat_le, Int.ofNat_inj] at hc2
        refine PWc.exit ?_
        refine PWc.seq ?_
        refine PWc.region ?_
        refine PWl.step (LR.move rfl) rfl ?_
        refine PWl.step (LR.move rfl) rfl ?_
        refine PWl.frz [3, 41] hK (.cons rfl <| .cons rfl <| .nil) rfl (by first | rfl | (simp; done) | (simp; omega)) ?_
        refine PWl.step (LR.call (show PFun Try.prog 21 [pEs (l.take (4 * i)), pEs l] (pB true) from by rw [List.take_of_length_le (by omega)]; exact sameAll l (by omega) (fun e he => by have := hkl e he; omega)) rfl Try.call21 rfl rfl rfl) rfl ?_
        refine PWl.step (LR.move rfl) rfl ?_
        refine PWl.guardT (LR.call (works) rfl Try.call18 rfl rfl rfl) rfl rfl rfl ?_
        refine PWl.step (LR.pickT rfl rfl) rfl ?_
        refine PWl.step (LR.assign rfl) rfl ?_
        refine PWl.nil ?_
        refine PWc.ret ?_
        exact ⟨.inr rfl, _, .cons (.tmp rfl rfl) <| .nil, rfl⟩

end Go.Proofs

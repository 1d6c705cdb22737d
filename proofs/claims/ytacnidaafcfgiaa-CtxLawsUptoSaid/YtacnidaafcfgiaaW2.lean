/- Walks: written by program. -/
import Derived.Test.YtacnidaafcfgiaaFc
import Derived.Test.YtacnidaafcfgiaaSh
import Derived.Test.YtacnidaafcfgiaaSx
import Derived.Test.YtacnidaafcfgiaaTl
import Derived.Test.YtacnidaafcfgiaaSr
import Derived.Test.YtacnidaafcfgiaaDr
import Derived.Test.YtacnidaafcfgiaaW0
import Derived.Test.YtacnidaafcfgiaaW1
namespace Go.Proofs
open Go.Ep
set_option maxHeartbeats 1000000
set_option maxRecDepth 100000
set_option linter.unusedVariables false
set_option linter.unusedSimpArgs false


theorem slices_Grow_Ctx_Part_nil_ok (n1 : Int) (r0 : List TPart) (h : (slices_Grow_Ctx_Part_nil n1).wp (· = r0)) : PRow Try.prog 148 [.d (.v (.slice none 0 0)), .d (.v (.int .i64 n1))] 101 2 (List.map TPart.e r0) := by
  refine PRow.intro (sl := [(0, _), (1, _)]) Try.func148 rfl Try.ntmps148 rfl rfl ?_
  intro ctx hK
  refine PWc.seq ?_
  refine PWc.region ?_
  refine PWl.step (LR.assignNilRow 101 2 rfl) rfl ?_
  refine PWl.nil ?_
  refine PWc.seq ?_
  refine PWc.seq ?_
  refine PWc.region ?_
  refine PWl.step (LR.move rfl) rfl ?_
  refine PWl.step (LR.lss rfl rfl) rfl ?_
  refine PWl.nil ?_
  refine PWc.cond rfl (fun hc2 => ?_) (fun hc2 => ?_)
  · replace h := iT hc2 h
    exact h.elim
  · replace h := iF hc2 h
    refine PWc.skip ?_
    refine PWc.seq ?_
    refine PWc.seq ?_
    refine PWc.region ?_
    refine PWl.step (LR.move rfl) rfl ?_
    refine PWl.step (LR.move rfl) rfl ?_
    refine PWl.step (LR.capNil Try.underlying24 rfl) rfl ?_
    refine PWl.step (LR.move rfl) rfl ?_
    refine PWl.step (LR.lenNil Try.underlying24 rfl) rfl ?_
    refine PWl.step (LR.subW rfl rfl) rfl ?_
    refine PWl.step (LR.subW rfl rfl) rfl ?_
    refine PWl.step (LR.assign rfl) rfl ?_
    refine PWl.nil ?_
    refine PWc.seq ?_
    refine PWc.region ?_
    refine PWl.step (LR.move rfl) rfl ?_
    refine PWl.step (LR.gtr rfl rfl) rfl ?_
    refine PWl.nil ?_
    refine PWc.jn (iBind h) (fun (v3 : List TPart) (_ : Unit) => ⟨27, [(0, .row 22 (List.length v3))], [(22, .row 101 2 (List.map TPart.e v3))]⟩) (fun h => ?_) ?_
    · refine PWc.cond rfl (fun hc4 => ?_) (fun hc4 => ?_)
      · replace h := iT hc4 h
        refine PWc.region ?_
        refine PWl.step (LR.move rfl) rfl ?_
        refine PWl.step (LR.move rfl) rfl ?_
        refine PWl.step (LR.capNil Try.underlying24 rfl) rfl ?_
        refine PWl.step (LR.sliceNil Try.underlying24 Try.sizeOf101 rfl rfl) rfl ?_
        refine PWl.step (LR.move rfl) rfl ?_
        replace h := iNeed h
        obtain ⟨hy5, h⟩ := h
        refine PWl.step (LR.appMakeT (enc := TPart.e) (z := (⟨0, ([] : List TRun)⟩ : TPart)) hy5 elem24 Try.underlying3 Try.zeroValue101 rfl rfl rfl rfl rfl rfl rfl) rfl ?_
        refine PWl.re (tl := [(0, _), (22, _)]) (to := [(22, _)]) rfl (.cons rfl rfl <| .cons rfl rfl <| .nil) (.cons rfl rfl <| .nil) ?_
        refine PWl.step (LR.move rfl) rfl ?_
        refine PWl.step (LR.lenNil Try.underlying24 rfl) rfl ?_
        replace h := iNeed h
        obtain ⟨hy6, h⟩ := h
        refine PWl.step (LR.cutRowT (enc := TPart.e) (L := (List.replicate (Int.toNat ((IntKind.i64.wrap (n1 - (IntKind.i64.wrap (0 - 0)))))) (⟨0, ([] : List TRun)⟩ : TPart))) [22] Try.underlying24 Try.sizeOf101 rfl (by first | (simp; done) | (simp; omega) | omega) rfl rfl hy6 rfl) rfl ?_
        refine PWl.step (LR.assign rfl) rfl ?_
        refine PWl.nil ?_
        exact ⟨(List.take (Int.toNat 0) ((List.replicate (Int.toNat ((IntKind.i64.wrap (n1 - (IntKind.i64.wrap (0 - 0)))))) (⟨0, ([] : List TRun)⟩ : TPart)))), (), h, Sub.of rfl (.cons rfl (by first | rfl | (simp; done) | (congr 1; first | (simp; done) | (simp; omega))) <| .nil) (.cons rfl rfl <| .nil)⟩
      · replace h := iF hc4 h
        refine PWc.skip ?_
        exact ⟨[], (), h, Sub.trans (Sub.nilRow 0 22 101 2 rfl rfl) <| Sub.of rfl (.cons rfl rfl <| .nil) (.cons rfl rfl <| .nil)⟩
    · rintro v3 _ h
      refine PWc.seq ?_
      refine PWc.region ?_
      refine PWl.step (LR.move rfl) rfl ?_
      refine PWl.step (LR.assign rfl) rfl ?_
      refine PWl.nil ?_
      refine PWc.ret ?_
      replace h : _ = r0 := h
      subst h
      exact ⟨.inr rfl, 4, rfl, .inr ⟨22, _, rfl, (by simp), rfl⟩⟩

theorem slices_Concat_Ctx_Part_ok (slices1 : List (List TPart)) (r0 : List TPart) (h : (slices_Concat_Ctx_Part slices1).wp (· = r0)) : PRow Try.prog 99 [.d (.sl (List.map (eL TPart.e) slices1))] 101 2 (List.map TPart.e r0) := by
  refine PRow.intro (sl := [(0, _)]) Try.func99 rfl Try.ntmps99 rfl rfl ?_
  intro ctx hK
  refine PWc.seq ?_
  refine PWc.region ?_
  refine PWl.step (LR.assignNilRow 101 2 rfl) rfl ?_
  refine PWl.nil ?_
  refine PWc.seq ?_
  refine PWc.region ?_
  refine PWl.step (LR.assign rfl) rfl ?_
  refine PWl.nil ?_
  refine PWc.seq ?_
  refine PWc.seq ?_
  refine PWc.region ?_
  refine PWl.step (LR.move rfl) rfl ?_
  refine PWl.step (LR.lenMap (enc := (eL TPart.e)) (L := slices1) Try.underlying167 rfl) rfl ?_
  refine PWl.step (LR.move rfl) rfl ?_
  refine PWl.nil ?_
  refine PWc.jn (iBind h) (fun (size2 : Int) (_ : Unit) => ⟨36, [(0, .d (.sl (List.map (eL TPart.e) slices1))), (3, .d (.v (.int .i64 size2)))], []⟩) (fun h => ?_) ?_
  · refine PWc.block ?_
    refine PWc.loopM (fun (⟨size13, v14⟩ : Int × Int) (_ : Unit) => ⟨36, [(0, .d (.sl (List.map (eL TPart.e) slices1))), (3, .d (.v (.int .i64 size13))), (9, .d (.sl (List.map (eL TPart.e) slices1))), (10, .d (.v (.int .i64 (List.length slices1 : Int)))), (11, .d (.v (.int .i64 v14)))], []⟩) () h (Sub.of rfl (.cons rfl rfl <| .cons rfl rfl <| .cons rfl rfl <| .cons rfl rfl <| .cons rfl rfl <| .nil) (.nil)) ?_
    rintro N ⟨size13, v14⟩ _ h
    refine PWc.seq ?_
    refine PWc.region ?_
    refine PWl.step (LR.lss rfl rfl) rfl ?_
    refine PWl.nil ?_
    refine PWc.seq ?_
    refine PWc.cond rfl (fun hc15 => ?_) (fun hc15 => ?_)
    · replace h := iT hc15 h
      refine PWc.skip ?_
      refine PWc.seq ?_
      refine PWc.block ?_
      refine PWc.seq ?_
      refine PWc.region ?_
      replace h := iIdx h
      obtain ⟨x16, hy17, h⟩ := h
      refine PWl.step (LR.idxT (enc := (eL TPart.e)) (L := slices1) (y := x16) Try.underlying167 Try.sizeOf24 rfl rfl hy17 (fun _ => rfl)) rfl ?_
      refine PWl.step (LR.loadEp Try.isAgg24 rfl rfl) rfl ?_
      refine PWl.step (LR.assign rfl) rfl ?_
      refine PWl.nil ?_
      refine PWc.seq ?_
      refine PWc.region ?_
      refine PWl.step (LR.move rfl) rfl ?_
      refine PWl.step (LR.move rfl) rfl ?_
      refine PWl.step (LR.lenMap (enc := TPart.e) (L := x16) Try.underlying24 rfl) rfl ?_
      refine PWl.step (LR.addW rfl rfl) rfl ?_
      refine PWl.step (LR.assign rfl) rfl ?_
      refine PWl.nil ?_
      refine PWc.seq ?_
      refine PWc.region ?_
      refine PWl.step (LR.move rfl) rfl ?_
      refine PWl.step (LR.lss rfl rfl) rfl ?_
      refine PWl.nil ?_
      refine PWc.cond rfl (fun hc18 => ?_) (fun hc18 => ?_)
      · replace h := iT hc18 h
        exact h.elim
      · replace h := iF hc18 h
        refine PWc.skip ?_
        refine PWc.region ?_
        refine PWl.step (LR.addW rfl rfl) rfl ?_
        refine PWl.step (LR.move rfl) rfl ?_
        refine PWl.nil ?_
        exact ⟨((IntKind.i64.wrap (size13 + (List.length x16 : Int))), (IntKind.i64.wrap (v14 + 1))), (), h, Sub.of rfl (.cons rfl rfl <| .cons rfl rfl <| .cons rfl rfl <| .cons rfl rfl <| .cons rfl rfl <| .nil) (.nil)⟩
    · replace h := iF hc15 h
      refine PWc.exit ?_
      exact ⟨size13, (), h, Sub.of rfl (.cons rfl rfl <| .cons rfl rfl <| .nil) (.nil)⟩
  · rintro size2 _ h
    refine PWc.seq ?_
    refine PWc.region ?_
    refine PWl.step (LR.move rfl) rfl ?_
    replace h := iDet h
    obtain ⟨v19, hy20, h⟩ := h
    refine PWl.step (LR.rowT (slices_Grow_Ctx_Part_nil_ok size2 v19 hy20) rfl Try.call148 rfl rfl rfl) rfl ?_
    refine PWl.step (LR.assign rfl) rfl ?_
    refine PWl.nil ?_
    refine PWc.seq ?_
    refine PWc.seq ?_
    refine PWc.region ?_
    refine PWl.step (LR.move rfl) rfl ?_
    refine PWl.step (LR.lenMap (enc := (eL TPart.e)) (L := slices1) Try.underlying167 rfl) rfl ?_
    refine PWl.step (LR.move rfl) rfl ?_
    refine PWl.nil ?_
    refine PWc.jn (iBind h) (fun (v21 : List TPart) (_ : Unit) => ⟨36, [(6, .row 24 (List.length v21))], [(24, .row 101 2 (List.map TPart.e v21))]⟩) (fun h => ?_) ?_
    · refine PWc.block ?_
      refine PWc.loopM (fun (⟨v32, v33⟩ : Int × List TPart) (_ : Unit) => ⟨36, [(6, .row 24 (List.length v33)), (25, .d (.sl (List.map (eL TPart.e) slices1))), (26, .d (.v (.int .i64 (List.length slices1 : Int)))), (27, .d (.v (.int .i64 v32)))], [(24, .row 101 2 (List.map TPart.e v33))]⟩) () h (Sub.of rfl (.cons rfl rfl <| .cons rfl rfl <| .cons rfl rfl <| .cons rfl rfl <| .nil) (.cons rfl rfl <| .nil)) ?_
      rintro N ⟨v32, v33⟩ _ h
      refine PWc.seq ?_
      refine PWc.region ?_
      refine PWl.step (LR.lss rfl rfl) rfl ?_
      refine PWl.nil ?_
      refine PWc.seq ?_
      refine PWc.cond rfl (fun hc34 => ?_) (fun hc34 => ?_)
      · replace h := iT hc34 h
        refine PWc.skip ?_
        refine PWc.seq ?_
        refine PWc.block ?_
        refine PWc.seq ?_
        refine PWc.region ?_
        replace h := iIdx h
        obtain ⟨x35, hy36, h⟩ := h
        refine PWl.step (LR.idxT (enc := (eL TPart.e)) (L := slices1) (y := x35) Try.underlying167 Try.sizeOf24 rfl rfl hy36 (fun _ => rfl)) rfl ?_
        refine PWl.step (LR.loadEp Try.isAgg24 rfl rfl) rfl ?_
        refine PWl.step (LR.assign rfl) rfl ?_
        refine PWl.nil ?_
        refine PWc.region ?_
        refine PWl.step (LR.move rfl) rfl ?_
        refine PWl.step (LR.move rfl) rfl ?_
        replace h := iNeed h
        obtain ⟨hy37, h⟩ := h
        refine PWl.step (LR.appT (enc := TPart.e) (L := v33) (R := x35) [6, 31] elem24 Try.underlying24 rfl rfl rfl (Src.slT (enc := TPart.e) (R := x35) rfl (fun _ => rfl)) (fun _ => rfl) hy37 rfl rfl) rfl ?_
        refine PWl.step (LR.assign rfl) rfl ?_
        refine PWl.nil ?_
        refine PWc.region ?_
        refine PWl.step (LR.addW rfl rfl) rfl ?_
        refine PWl.step (LR.move rfl) rfl ?_
        refine PWl.nil ?_
        exact ⟨((IntKind.i64.wrap (v32 + 1)), (v33 ++ x35)), (), h, Sub.of rfl (.cons rfl rfl <| .cons rfl rfl <| .cons rfl rfl <| .cons rfl rfl <| .nil) (.cons rfl rfl <| .nil)⟩
      · replace h := iF hc34 h
        refine PWc.exit ?_
        exact ⟨v33, (), h, Sub.of rfl (.cons rfl rfl <| .nil) (.cons rfl rfl <| .nil)⟩
    · rintro v21 _ h
      refine PWc.seq ?_
      refine PWc.region ?_
      refine PWl.step (LR.move rfl) rfl ?_
      refine PWl.step (LR.assign rfl) rfl ?_
      refine PWl.nil ?_
      refine PWc.ret ?_
      replace h : _ = r0 := h
      subst h
      exact ⟨.inr rfl, 2, rfl, .inr ⟨24, _, rfl, (by simp), rfl⟩⟩

theorem ctx_Join_ok (a1 : List TPart) (b2 : List TPart) (r0 : List TPart) (h : (ctx_Join a1 b2).wp (· = r0)) : PRow Try.prog 52 [.d (.sl (List.map TPart.e a1)), .d (.sl (List.map TPart.e b2))] 101 2 (List.map TPart.e r0) := by
  refine PRow.intro (sl := [(0, _), (1, _)]) Try.func52 rfl Try.ntmps52 rfl rfl ?_
  intro ctx hK
  refine PWc.seq ?_
  refine PWc.region ?_
  refine PWl.step (LR.assignNilRow 101 2 rfl) rfl ?_
  refine PWl.nil ?_
  refine PWc.seq ?_
  refine PWc.region ?_
  refine PWl.step (LR.move rfl) rfl ?_
  refine PWl.step (LR.move rfl) rfl ?_
  refine PWl.step (LR.buildSliceD [.tmp 5, .tmp 6] elem167 rfl rfl (.cons rfl rfl rfl <| .cons rfl rfl rfl <| .nil) (by decide) (by decide)) rfl ?_
  replace h := iDet h
  obtain ⟨v3, hy4, h⟩ := h
  refine PWl.step (LR.rowN (slices_Concat_Ctx_Part_ok ([a1, b2]) v3 hy4) rfl Try.call99 rfl rfl rfl rfl) rfl ?_
  replace h := iDet h
  obtain ⟨v5, hy6, h⟩ := h
  refine PWl.frz [8] hK (.cons rfl <| .nil) rfl (by simp) ?_
  refine PWl.step (LR.rowN (ctx_Norm_ok v3 v5 hy6) rfl Try.call84 rfl rfl rfl rfl) rfl ?_
  refine PWl.re (tl := [(0, _), (1, _), (5, _), (6, _), (7, _), (8, _), (9, _)]) (to := [(9, _)]) rfl (.cons rfl rfl <| .cons rfl rfl <| .cons rfl rfl <| .cons rfl rfl <| .cons rfl rfl <| .cons rfl rfl <| .cons rfl rfl <| .nil) (.cons rfl rfl <| .nil) ?_
  refine PWl.step (LR.assign rfl) rfl ?_
  refine PWl.nil ?_
  refine PWc.ret ?_
  replace h : _ = r0 := h
  subst h
  exact ⟨.inr rfl, 4, rfl, .inr ⟨9, _, rfl, (by simp), rfl⟩⟩

theorem ctx_Add_ok (c1 : List TPart) (l2 : List TDot) (r0 : List TPart) (h : (ctx_Add c1 l2).wp (· = r0)) : PRow Try.prog 43 [.d (.sl (List.map TPart.e c1)), .d (.sl (List.map TDot.e l2))] 101 2 (List.map TPart.e r0) := by
  refine PRow.intro (sl := [(0, _), (1, _)]) Try.func43 rfl Try.ntmps43 rfl rfl ?_
  intro ctx hK
  refine PWc.seq ?_
  refine PWc.region ?_
  refine PWl.step (LR.assignNilRow 101 2 rfl) rfl ?_
  refine PWl.nil ?_
  refine PWc.seq ?_
  refine PWc.region ?_
  refine PWl.step (LR.move rfl) rfl ?_
  refine PWl.step (LR.move rfl) rfl ?_
  replace h := iDet h
  obtain ⟨v3, hy4, h⟩ := h
  refine PWl.step (LR.rowN (ctx_Of_ok l2 v3 hy4) rfl Try.call47 rfl rfl rfl rfl) rfl ?_
  replace h := iDet h
  obtain ⟨v5, hy6, h⟩ := h
  refine PWl.frz [7] hK (.cons rfl <| .nil) rfl (by simp) ?_
  refine PWl.step (LR.rowN (ctx_Join_ok c1 v3 v5 hy6) rfl Try.call52 rfl rfl rfl rfl) rfl ?_
  refine PWl.re (tl := [(0, _), (1, _), (5, _), (6, _), (7, _), (8, _)]) (to := [(8, _)]) rfl (.cons rfl rfl <| .cons rfl rfl <| .cons rfl rfl <| .cons rfl rfl <| .cons rfl rfl <| .cons rfl rfl <| .nil) (.cons rfl rfl <| .nil) ?_
  refine PWl.step (LR.assign rfl) rfl ?_
  refine PWl.nil ?_
  refine PWc.ret ?_
  replace h : _ = r0 := h
  subst h
  exact ⟨.inr rfl, 4, rfl, .inr ⟨8, _, rfl, (by simp), rfl⟩⟩

theorem runs_First_ok (l1 : List TRun) (r0 : Int) (h : (runs_First l1).wp (· = r0)) : PFun Try.prog 93 [.d (.sl (List.map TRun.e l1))] (.d (.v (.int .u64 r0))) := by
  refine PFun.intro (sl := [(0, _)]) Try.func93 rfl Try.ntmps93 rfl rfl ?_
  intro ctx hK
  refine PWc.seq ?_
  refine PWc.region ?_
  refine PWl.step (LR.assign rfl) rfl ?_
  refine PWl.nil ?_
  refine PWc.seq ?_
  refine PWc.seq ?_
  refine PWc.region ?_
  refine PWl.step (LR.move rfl) rfl ?_
  replace h := iDet h
  obtain ⟨v2, hy3, h⟩ := h
  refine PWl.step (LR.rowN (runs_Norm_ok l1 v2 hy3) rfl Try.call138 rfl rfl rfl rfl) rfl ?_
  refine PWl.step (LR.assign rfl) rfl ?_
  refine PWl.nil ?_
  refine PWc.seq ?_
  refine PWc.jn (iBind h) (fun (v4 : Bool) (_ : Unit) => ⟨20, [(0, .row 4 (List.length v2)), (14, .d (.v (.bool v4)))], [(4, .row 114 2 (List.map TRun.e v2))]⟩) (fun h => ?_) ?_
  · refine PWc.region ?_
    refine PWl.step (LR.move rfl) rfl ?_
    refine PWl.step (LR.lenRow Try.underlying34 rfl) rfl ?_
    refine PWl.step (LR.gtr rfl rfl) rfl ?_
    refine PWl.step (LR.move rfl) rfl ?_
    refine PWl.split (d := 8) rfl (fun hg5 => ?_) (fun hg5 => ?_)
    · replace h := iT hg5 h
      refine PWl.guardT (LR.move rfl) rfl rfl rfl ?_
      replace h := iIdx h
      obtain ⟨x6, hy7, h⟩ := h
      refine PWl.guardT (LR.idxRowT (L := v2) (y := x6) Try.underlying34 Try.sizeOf114 rfl rfl rfl hy7) rfl rfl rfl ?_
      refine PWl.guardT (LR.fieldRp Try.underlying114 rfl Try.sizeOf36 (by decide) rfl rfl) rfl rfl rfl ?_
      refine PWl.guardT (LR.loadRpF (enc := TRun.e) (L := v2) (y := x6) Try.isAgg36 rfl rfl hy7.2 rfl) rfl rfl rfl ?_
      refine PWl.guardT (LR.eql rfl rfl) rfl rfl rfl ?_
      refine PWl.step (LR.pickT rfl rfl) rfl ?_
      refine PWl.nil ?_
      exact ⟨(decide (x6.lo = 1)), (), h, Sub.of rfl (.cons rfl rfl <| .cons rfl rfl <| .nil) (.cons rfl rfl <| .nil)⟩
    · replace h := iF hg5 h
      refine PWl.guardF rfl rfl rfl (by decide) ?_
      refine PWl.guardF rfl rfl rfl (by decide) ?_
      refine PWl.guardF rfl rfl rfl (by decide) ?_
      refine PWl.guardF rfl rfl rfl (by decide) ?_
      refine PWl.guardF rfl rfl rfl (by decide) ?_
      refine PWl.step (LR.pickF rfl rfl) rfl ?_
      refine PWl.nil ?_
      exact ⟨false, (), h, Sub.of rfl (.cons rfl rfl <| .cons rfl rfl <| .nil) (.cons rfl rfl <| .nil)⟩
  · rintro v4 _ h
    refine PWc.cond rfl (fun hc8 => ?_) (fun hc8 => ?_)
    · replace h := iT hc8 h
      refine PWc.seq ?_
      refine PWc.region ?_
      refine PWl.step (LR.move rfl) rfl ?_
      replace h := iIdx h
      obtain ⟨x9, hy10, h⟩ := h
      refine PWl.step (LR.idxRowT (L := v2) (y := x9) Try.underlying34 Try.sizeOf114 rfl rfl rfl hy10) rfl ?_
      refine PWl.step (LR.fieldRp Try.underlying114 rfl Try.sizeOf36 (by decide) rfl rfl) rfl ?_
      refine PWl.step (LR.loadRpF (enc := TRun.e) (L := v2) (y := x9) Try.isAgg36 rfl rfl hy10.2 rfl) rfl ?_
      refine PWl.step (LR.addW rfl rfl) rfl ?_
      refine PWl.step (LR.assign rfl) rfl ?_
      refine PWl.nil ?_
      refine PWc.ret ?_
      replace h : _ = r0 := h
      subst h
      exact ⟨.inr rfl, _, .cons (.tmp rfl rfl) <| .nil, rfl⟩
    · replace h := iF hc8 h
      refine PWc.skip ?_
      refine PWc.seq ?_
      refine PWc.region ?_
      refine PWl.step (LR.assign rfl) rfl ?_
      refine PWl.nil ?_
      refine PWc.ret ?_
      replace h : _ = r0 := h
      subst h
      exact ⟨.inr rfl, _, .cons (.tmp rfl rfl) <| .nil, rfl⟩

theorem dot_Cmp_ok (a1 : TDot) (b2 : TDot) (r0 : Int) (h : (dot_Cmp a1 b2).wp (· = r0)) : PFun Try.prog 107 [.agg (List.map .d (TDot.e a1)), .agg (List.map .d (TDot.e b2))] (.d (.v (.int .i64 r0))) := by
  refine PFun.intro (sl := [(0, _), (1, _)]) Try.func107 rfl Try.ntmps107 rfl rfl ?_
  intro ctx hK
  refine PWc.seq ?_
  refine PWc.region ?_
  refine PWl.step (LR.box rfl rfl rfl rfl) rfl ?_
  refine PWl.step (LR.box rfl rfl rfl rfl) rfl ?_
  refine PWl.step (LR.assign rfl) rfl ?_
  refine PWl.nil ?_
  refine PWc.seq ?_
  refine PWc.seq ?_
  refine PWc.region ?_
  refine PWl.step (LR.fieldRef Try.underlying38 rfl Try.sizeOf28 (by decide) rfl rfl) rfl ?_
  refine PWl.step (LR.loadRef Try.isAgg28 rfl rfl rfl) rfl ?_
  refine PWl.step (LR.fieldRef Try.underlying38 rfl Try.sizeOf28 (by decide) rfl rfl) rfl ?_
  refine PWl.step (LR.loadRef Try.isAgg28 rfl rfl rfl) rfl ?_
  replace h := iDet h
  obtain ⟨v3, hy4, h⟩ := h
  refine PWl.step (LR.callN (cmp_Compare_uint16_ok a1.dev b2.dev v3 hy4) rfl Try.call146 rfl rfl rfl rfl) rfl ?_
  refine PWl.step (LR.assign rfl) rfl ?_
  refine PWl.nil ?_
  refine PWc.seq ?_
  refine PWc.region ?_
  refine PWl.step (LR.move rfl) rfl ?_
  refine PWl.step (LR.neq rfl rfl) rfl ?_
  refine PWl.nil ?_
  refine PWc.cond rfl (fun hc5 => ?_) (fun hc5 => ?_)
  · replace h := iT hc5 h
    refine PWc.seq ?_
    refine PWc.region ?_
    refine PWl.step (LR.move rfl) rfl ?_
    refine PWl.step (LR.assign rfl) rfl ?_
    refine PWl.nil ?_
    refine PWc.ret ?_
    replace h : _ = r0 := h
    subst h
    exact ⟨.inr rfl, _, .cons (.tmp rfl rfl) <| .nil, rfl⟩
  · replace h := iF hc5 h
    refine PWc.skip ?_
    refine PWc.seq ?_
    refine PWc.region ?_
    refine PWl.step (LR.fieldRef Try.underlying38 rfl Try.sizeOf36 (by decide) rfl rfl) rfl ?_
    refine PWl.step (LR.loadRef Try.isAgg36 rfl rfl rfl) rfl ?_
    refine PWl.step (LR.fieldRef Try.underlying38 rfl Try.sizeOf36 (by decide) rfl rfl) rfl ?_
    refine PWl.step (LR.loadRef Try.isAgg36 rfl rfl rfl) rfl ?_
    replace h := iDet h
    obtain ⟨v6, hy7, h⟩ := h
    refine PWl.step (LR.callN (cmp_Compare_uint64_ok a1.n b2.n v6 hy7) rfl Try.call143 rfl rfl rfl rfl) rfl ?_
    refine PWl.step (LR.assign rfl) rfl ?_
    refine PWl.nil ?_
    refine PWc.ret ?_
    replace h : _ = r0 := h
    subst h
    exact ⟨.inr rfl, _, .cons (.tmp rfl rfl) <| .nil, rfl⟩
end Go.Proofs

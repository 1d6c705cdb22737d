/- Walks: written by program. -/
import Derived.Test.YtacnidaafcfgiaaGreatFc
import Derived.Test.YtacnidaafcfgiaaGreatSh
import Derived.Test.YtacnidaafcfgiaaGreatSx
import Derived.Test.YtacnidaafcfgiaaGreatTl
import Derived.Test.YtacnidaafcfgiaaGreatSr
import Derived.Test.YtacnidaafcfgiaaGreatDr
import Derived.Test.YtacnidaafcfgiaaGreatW0
import Derived.Test.YtacnidaafcfgiaaGreatW1
namespace Go.Proofs
open Go.Ep
set_option maxHeartbeats 1000000
set_option maxRecDepth 100000
set_option linter.unusedVariables false
set_option linter.unusedSimpArgs false


theorem ctx_Runs_ok (c1 : List TPart) (dev2 : Int) (r0 : List TRun) (h : (ctx_Runs c1 dev2).wp (· = r0)) : PRow Tryz.prog 27 [.d (.sl (List.map TPart.e c1)), .d (.v (.int .u16 dev2))] 89 2 (List.map TRun.e r0) := by
  refine PRow.intro (sl := [(0, _), (1, _)]) Tryz.func27 rfl Tryz.ntmps27 rfl rfl ?_
  intro ctx hK
  refine PWc.seq ?_
  refine PWc.region ?_
  refine PWl.step (LR.assignNilRow 89 2 rfl) rfl ?_
  refine PWl.nil ?_
  refine PWc.seq ?_
  refine PWc.region ?_
  refine PWl.step (LR.move rfl) rfl ?_
  replace h := iDet h
  obtain ⟨v3, hy4, h⟩ := h
  refine PWl.mapN (ctx_told_ok c1 v3 hy4) rfl Tryz.call67 rfl rfl rfl rfl rfl (fun bs5 ck5 _ => ?_)
  refine PWl.step (LR.move rfl) rfl ?_
  refine PWl.step (LR.getO (eV := (eL TRun.e)) (zv := ([] : List TRun)) (q := dev2) (m := v3) kI_inj Tryz.underlying86 key86 Tryz.zeroValue37 (zRd1 (.slice none 0 0) rfl) rfl rfl rfl rfl rfl rfl) rfl ?_
  replace h := iDet h
  obtain ⟨v6, hy7, h⟩ := h
  refine PWl.step (LR.rowN (runs_Norm_ok (AL.getZ v3 dev2 ([] : List TRun)) v6 hy7) rfl Tryz.call69 rfl rfl rfl rfl) rfl ?_
  refine PWl.re (tl := [(0, _), (1, _), (5, _), (6, _), (7, _), (8, _), (9, _)]) (to := [(6, _), (9, _)]) rfl (.cons rfl rfl <| .cons rfl rfl <| .cons rfl rfl <| .cons rfl rfl <| .cons rfl rfl <| .cons rfl rfl <| .cons rfl rfl <| .nil) (.cons rfl rfl <| .cons rfl rfl <| .nil) ?_
  refine PWl.step (LR.assign rfl) rfl ?_
  refine PWl.nil ?_
  refine PWc.ret ?_
  replace h : _ = r0 := h
  subst h
  exact ⟨.inr rfl, 4, rfl, .inr ⟨9, _, rfl, (by simp), rfl⟩⟩

theorem ctx_Norm_ok (c1 : List TPart) (r0 : List TPart) (h : (ctx_Norm c1).wp (· = r0)) : PRow Tryz.prog 20 [.d (.sl (List.map TPart.e c1))] 80 2 (List.map TPart.e r0) := by
  refine PRow.intro (sl := [(0, _)]) Tryz.func20 rfl Tryz.ntmps20 rfl rfl ?_
  intro ctx hK
  refine PWc.seq ?_
  refine PWc.region ?_
  refine PWl.step (LR.assignNilRow 80 2 rfl) rfl ?_
  refine PWl.nil ?_
  refine PWc.seq ?_
  refine PWc.region ?_
  refine PWl.step (LR.move rfl) rfl ?_
  replace h := iDet h
  obtain ⟨v2, hy3, h⟩ := h
  refine PWl.mapN (ctx_told_ok c1 v2 hy3) rfl Tryz.call67 rfl rfl rfl rfl rfl (fun bs4 ck4 _ => ?_)
  replace h := iDet h
  obtain ⟨v5, hy6, h⟩ := h
  refine PWl.frzM [4] hK (.cons rfl <| .nil) rfl ?_
  refine PWl.step (LR.rowN (ctx_order_ok v2 v5 hy6) rfl Tryz.call66 rfl rfl rfl rfl) rfl ?_
  refine PWl.re (tl := [(0, _), (3, _), (4, _), (5, _)]) (to := [(5, _)]) rfl (.cons rfl rfl <| .cons rfl rfl <| .cons rfl rfl <| .cons rfl rfl <| .nil) (.cons rfl rfl <| .nil) ?_
  refine PWl.step (LR.assign rfl) rfl ?_
  refine PWl.nil ?_
  refine PWc.ret ?_
  replace h : _ = r0 := h
  subst h
  exact ⟨.inr rfl, 2, rfl, .inr ⟨5, _, rfl, (by simp), rfl⟩⟩

theorem slices_Grow_Ctx_Part_nil_ok (n1 : Int) (r0 : List TPart) (h : (slices_Grow_Ctx_Part_nil n1).wp (· = r0)) : PRow Tryz.prog 94 [.d (.v (.slice none 0 0)), .d (.v (.int .i64 n1))] 80 2 (List.map TPart.e r0) := by
  refine PRow.intro (sl := [(0, _), (1, _)]) Tryz.func94 rfl Tryz.ntmps94 rfl rfl ?_
  intro ctx hK
  refine PWc.seq ?_
  refine PWc.region ?_
  refine PWl.step (LR.assignNilRow 80 2 rfl) rfl ?_
  refine PWl.nil ?_
  refine PWc.seq ?_
  refine PWc.seq ?_
  refine PWc.region ?_
  refine PWl.step (LR.move rfl) rfl ?_
  refine PWl.step (LR.lss rfl rfl) rfl ?_
  refine PWl.nil ?_
  refine PWc.cond rfl (fun hc2 => ?_) (fun hc2 => ?_)
  · replace h := iT hc2 h
    exact h.elim
  · replace h := iF hc2 h
    refine PWc.skip ?_
    refine PWc.seq ?_
    refine PWc.seq ?_
    refine PWc.region ?_
    refine PWl.step (LR.move rfl) rfl ?_
    refine PWl.step (LR.move rfl) rfl ?_
    refine PWl.step (LR.capNil Tryz.underlying23 rfl) rfl ?_
    refine PWl.step (LR.move rfl) rfl ?_
    refine PWl.step (LR.lenNil Tryz.underlying23 rfl) rfl ?_
    refine PWl.step (LR.subW rfl rfl) rfl ?_
    refine PWl.step (LR.subW rfl rfl) rfl ?_
    refine PWl.step (LR.assign rfl) rfl ?_
    refine PWl.nil ?_
    refine PWc.seq ?_
    refine PWc.region ?_
    refine PWl.step (LR.move rfl) rfl ?_
    refine PWl.step (LR.gtr rfl rfl) rfl ?_
    refine PWl.nil ?_
    refine PWc.jn (iBind h) (fun (v3 : List TPart) (_ : Unit) => ⟨27, [(0, .row 22 (List.length v3))], [(22, .row 80 2 (List.map TPart.e v3))]⟩) (fun h => ?_) ?_
    · refine PWc.cond rfl (fun hc4 => ?_) (fun hc4 => ?_)
      · replace h := iT hc4 h
        refine PWc.region ?_
        refine PWl.step (LR.move rfl) rfl ?_
        refine PWl.step (LR.move rfl) rfl ?_
        refine PWl.step (LR.capNil Tryz.underlying23 rfl) rfl ?_
        refine PWl.step (LR.sliceNil Tryz.underlying23 Tryz.sizeOf80 rfl rfl) rfl ?_
        refine PWl.step (LR.move rfl) rfl ?_
        replace h := iNeed h
        obtain ⟨hy5, h⟩ := h
        refine PWl.step (LR.appMakeT (enc := TPart.e) (z := (⟨0, ([] : List TRun)⟩ : TPart)) hy5 elem23 Tryz.underlying3 Tryz.zeroValue80 rfl rfl rfl rfl rfl rfl rfl) rfl ?_
        refine PWl.re (tl := [(0, _), (22, _)]) (to := [(22, _)]) rfl (.cons rfl rfl <| .cons rfl rfl <| .nil) (.cons rfl rfl <| .nil) ?_
        refine PWl.step (LR.move rfl) rfl ?_
        refine PWl.step (LR.lenNil Tryz.underlying23 rfl) rfl ?_
        replace h := iNeed h
        obtain ⟨hy6, h⟩ := h
        refine PWl.step (LR.cutRowT (enc := TPart.e) (L := (List.replicate (Int.toNat ((IntKind.i64.wrap (n1 - (IntKind.i64.wrap (0 - 0)))))) (⟨0, ([] : List TRun)⟩ : TPart))) [22] Tryz.underlying23 Tryz.sizeOf80 rfl (by first | (simp; done) | (simp; omega) | omega) rfl rfl hy6 rfl) rfl ?_
        refine PWl.step (LR.assign rfl) rfl ?_
        refine PWl.nil ?_
        exact ⟨(List.take (Int.toNat 0) ((List.replicate (Int.toNat ((IntKind.i64.wrap (n1 - (IntKind.i64.wrap (0 - 0)))))) (⟨0, ([] : List TRun)⟩ : TPart)))), (), h, Sub.of rfl (.cons rfl (by first | rfl | (simp; done) | (congr 1; first | (simp; done) | (simp; omega))) <| .nil) (.cons rfl rfl <| .nil)⟩
      · replace h := iF hc4 h
        refine PWc.skip ?_
        exact ⟨[], (), h, Sub.trans (Sub.nilRow 0 22 80 2 rfl rfl) <| Sub.of rfl (.cons rfl rfl <| .nil) (.cons rfl rfl <| .nil)⟩
    · rintro v3 _ h
      refine PWc.seq ?_
      refine PWc.region ?_
      refine PWl.step (LR.move rfl) rfl ?_
      refine PWl.step (LR.assign rfl) rfl ?_
      refine PWl.nil ?_
      refine PWc.ret ?_
      replace h : _ = r0 := h
      subst h
      exact ⟨.inr rfl, 4, rfl, .inr ⟨22, _, rfl, (by simp), rfl⟩⟩

theorem slices_Concat_Ctx_Part_ok (slices1 : List (List TPart)) (r0 : List TPart) (h : (slices_Concat_Ctx_Part slices1).wp (· = r0)) : PRow Tryz.prog 60 [.d (.sl (List.map (eL TPart.e) slices1))] 80 2 (List.map TPart.e r0) := by
  refine PRow.intro (sl := [(0, _)]) Tryz.func60 rfl Tryz.ntmps60 rfl rfl ?_
  intro ctx hK
  refine PWc.seq ?_
  refine PWc.region ?_
  refine PWl.step (LR.assignNilRow 80 2 rfl) rfl ?_
  refine PWl.nil ?_
  refine PWc.seq ?_
  refine PWc.region ?_
  refine PWl.step (LR.assign rfl) rfl ?_
  refine PWl.nil ?_
  refine PWc.seq ?_
  refine PWc.seq ?_
  refine PWc.region ?_
  refine PWl.step (LR.move rfl) rfl ?_
  refine PWl.step (LR.lenMap (enc := (eL TPart.e)) (L := slices1) Tryz.underlying106 rfl) rfl ?_
  refine PWl.step (LR.move rfl) rfl ?_
  refine PWl.nil ?_
  refine PWc.jn (iBind h) (fun (size2 : Int) (_ : Unit) => ⟨36, [(0, .d (.sl (List.map (eL TPart.e) slices1))), (3, .d (.v (.int .i64 size2)))], []⟩) (fun h => ?_) ?_
  · refine PWc.block ?_
    refine PWc.loopM (fun (⟨size13, v14⟩ : Int × Int) (_ : Unit) => ⟨36, [(0, .d (.sl (List.map (eL TPart.e) slices1))), (3, .d (.v (.int .i64 size13))), (9, .d (.sl (List.map (eL TPart.e) slices1))), (10, .d (.v (.int .i64 (List.length slices1 : Int)))), (11, .d (.v (.int .i64 v14)))], []⟩) () h (Sub.of rfl (.cons rfl rfl <| .cons rfl rfl <| .cons rfl rfl <| .cons rfl rfl <| .cons rfl rfl <| .nil) (.nil)) ?_
    rintro N ⟨size13, v14⟩ _ h
    refine PWc.seq ?_
    refine PWc.region ?_
    refine PWl.step (LR.lss rfl rfl) rfl ?_
    refine PWl.nil ?_
    refine PWc.seq ?_
    refine PWc.cond rfl (fun hc15 => ?_) (fun hc15 => ?_)
    · replace h := iT hc15 h
      refine PWc.skip ?_
      refine PWc.seq ?_
      refine PWc.block ?_
      refine PWc.seq ?_
      refine PWc.region ?_
      replace h := iIdx h
      obtain ⟨x16, hy17, h⟩ := h
      refine PWl.step (LR.idxT (enc := (eL TPart.e)) (L := slices1) (y := x16) Tryz.underlying106 Tryz.sizeOf23 rfl rfl hy17 (fun _ => rfl)) rfl ?_
      refine PWl.step (LR.loadEp Tryz.isAgg23 rfl rfl) rfl ?_
      refine PWl.step (LR.assign rfl) rfl ?_
      refine PWl.nil ?_
      refine PWc.seq ?_
      refine PWc.region ?_
      refine PWl.step (LR.move rfl) rfl ?_
      refine PWl.step (LR.move rfl) rfl ?_
      refine PWl.step (LR.lenMap (enc := TPart.e) (L := x16) Tryz.underlying23 rfl) rfl ?_
      refine PWl.step (LR.addW rfl rfl) rfl ?_
      refine PWl.step (LR.assign rfl) rfl ?_
      refine PWl.nil ?_
      refine PWc.seq ?_
      refine PWc.region ?_
      refine PWl.step (LR.move rfl) rfl ?_
      refine PWl.step (LR.lss rfl rfl) rfl ?_
      refine PWl.nil ?_
      refine PWc.cond rfl (fun hc18 => ?_) (fun hc18 => ?_)
      · replace h := iT hc18 h
        exact h.elim
      · replace h := iF hc18 h
        refine PWc.skip ?_
        refine PWc.region ?_
        refine PWl.step (LR.addW rfl rfl) rfl ?_
        refine PWl.step (LR.move rfl) rfl ?_
        refine PWl.nil ?_
        exact ⟨((IntKind.i64.wrap (size13 + (List.length x16 : Int))), (IntKind.i64.wrap (v14 + 1))), (), h, Sub.of rfl (.cons rfl rfl <| .cons rfl rfl <| .cons rfl rfl <| .cons rfl rfl <| .cons rfl rfl <| .nil) (.nil)⟩
    · replace h := iF hc15 h
      refine PWc.exit ?_
      exact ⟨size13, (), h, Sub.of rfl (.cons rfl rfl <| .cons rfl rfl <| .nil) (.nil)⟩
  · rintro size2 _ h
    refine PWc.seq ?_
    refine PWc.region ?_
    refine PWl.step (LR.move rfl) rfl ?_
    replace h := iDet h
    obtain ⟨v19, hy20, h⟩ := h
    refine PWl.step (LR.rowT (slices_Grow_Ctx_Part_nil_ok size2 v19 hy20) rfl Tryz.call94 rfl rfl rfl) rfl ?_
    refine PWl.step (LR.assign rfl) rfl ?_
    refine PWl.nil ?_
    refine PWc.seq ?_
    refine PWc.seq ?_
    refine PWc.region ?_
    refine PWl.step (LR.move rfl) rfl ?_
    refine PWl.step (LR.lenMap (enc := (eL TPart.e)) (L := slices1) Tryz.underlying106 rfl) rfl ?_
    refine PWl.step (LR.move rfl) rfl ?_
    refine PWl.nil ?_
    refine PWc.jn (iBind h) (fun (v21 : List TPart) (_ : Unit) => ⟨36, [(6, .row 24 (List.length v21))], [(24, .row 80 2 (List.map TPart.e v21))]⟩) (fun h => ?_) ?_
    · refine PWc.block ?_
      refine PWc.loopM (fun (⟨v32, v33⟩ : Int × List TPart) (_ : Unit) => ⟨36, [(6, .row 24 (List.length v33)), (25, .d (.sl (List.map (eL TPart.e) slices1))), (26, .d (.v (.int .i64 (List.length slices1 : Int)))), (27, .d (.v (.int .i64 v32)))], [(24, .row 80 2 (List.map TPart.e v33))]⟩) () h (Sub.of rfl (.cons rfl rfl <| .cons rfl rfl <| .cons rfl rfl <| .cons rfl rfl <| .nil) (.cons rfl rfl <| .nil)) ?_
      rintro N ⟨v32, v33⟩ _ h
      refine PWc.seq ?_
      refine PWc.region ?_
      refine PWl.step (LR.lss rfl rfl) rfl ?_
      refine PWl.nil ?_
      refine PWc.seq ?_
      refine PWc.cond rfl (fun hc34 => ?_) (fun hc34 => ?_)
      · replace h := iT hc34 h
        refine PWc.skip ?_
        refine PWc.seq ?_
        refine PWc.block ?_
        refine PWc.seq ?_
        refine PWc.region ?_
        replace h := iIdx h
        obtain ⟨x35, hy36, h⟩ := h
        refine PWl.step (LR.idxT (enc := (eL TPart.e)) (L := slices1) (y := x35) Tryz.underlying106 Tryz.sizeOf23 rfl rfl hy36 (fun _ => rfl)) rfl ?_
        refine PWl.step (LR.loadEp Tryz.isAgg23 rfl rfl) rfl ?_
        refine PWl.step (LR.assign rfl) rfl ?_
        refine PWl.nil ?_
        refine PWc.region ?_
        refine PWl.step (LR.move rfl) rfl ?_
        refine PWl.step (LR.move rfl) rfl ?_
        replace h := iNeed h
        obtain ⟨hy37, h⟩ := h
        refine PWl.step (LR.appT (enc := TPart.e) (L := v33) (R := x35) [6, 31] elem23 Tryz.underlying23 rfl rfl rfl (Src.slT (enc := TPart.e) (R := x35) rfl (fun _ => rfl)) (fun _ => rfl) hy37 rfl rfl) rfl ?_
        refine PWl.step (LR.assign rfl) rfl ?_
        refine PWl.nil ?_
        refine PWc.region ?_
        refine PWl.step (LR.addW rfl rfl) rfl ?_
        refine PWl.step (LR.move rfl) rfl ?_
        refine PWl.nil ?_
        exact ⟨((IntKind.i64.wrap (v32 + 1)), (v33 ++ x35)), (), h, Sub.of rfl (.cons rfl rfl <| .cons rfl rfl <| .cons rfl rfl <| .cons rfl rfl <| .nil) (.cons rfl rfl <| .nil)⟩
      · replace h := iF hc34 h
        refine PWc.exit ?_
        exact ⟨v33, (), h, Sub.of rfl (.cons rfl rfl <| .nil) (.cons rfl rfl <| .nil)⟩
    · rintro v21 _ h
      refine PWc.seq ?_
      refine PWc.region ?_
      refine PWl.step (LR.move rfl) rfl ?_
      refine PWl.step (LR.assign rfl) rfl ?_
      refine PWl.nil ?_
      refine PWc.ret ?_
      replace h : _ = r0 := h
      subst h
      exact ⟨.inr rfl, 2, rfl, .inr ⟨24, _, rfl, (by simp), rfl⟩⟩

theorem ctx_Join_ok (a1 : List TPart) (b2 : List TPart) (r0 : List TPart) (h : (ctx_Join a1 b2).wp (· = r0)) : PRow Tryz.prog 10 [.d (.sl (List.map TPart.e a1)), .d (.sl (List.map TPart.e b2))] 80 2 (List.map TPart.e r0) := by
  refine PRow.intro (sl := [(0, _), (1, _)]) Tryz.func10 rfl Tryz.ntmps10 rfl rfl ?_
  intro ctx hK
  refine PWc.seq ?_
  refine PWc.region ?_
  refine PWl.step (LR.assignNilRow 80 2 rfl) rfl ?_
  refine PWl.nil ?_
  refine PWc.seq ?_
  refine PWc.region ?_
  refine PWl.step (LR.move rfl) rfl ?_
  refine PWl.step (LR.move rfl) rfl ?_
  refine PWl.step (LR.buildSliceD [.tmp 5, .tmp 6] elem106 rfl rfl (.cons rfl rfl rfl <| .cons rfl rfl rfl <| .nil) (by decide) (by decide)) rfl ?_
  replace h := iDet h
  obtain ⟨v3, hy4, h⟩ := h
  refine PWl.step (LR.rowN (slices_Concat_Ctx_Part_ok ([a1, b2]) v3 hy4) rfl Tryz.call60 rfl rfl rfl rfl) rfl ?_
  replace h := iDet h
  obtain ⟨v5, hy6, h⟩ := h
  refine PWl.frz [8] hK (.cons rfl <| .nil) rfl (by simp) ?_
  refine PWl.step (LR.rowN (ctx_Norm_ok v3 v5 hy6) rfl Tryz.call20 rfl rfl rfl rfl) rfl ?_
  refine PWl.re (tl := [(0, _), (1, _), (5, _), (6, _), (7, _), (8, _), (9, _)]) (to := [(9, _)]) rfl (.cons rfl rfl <| .cons rfl rfl <| .cons rfl rfl <| .cons rfl rfl <| .cons rfl rfl <| .cons rfl rfl <| .cons rfl rfl <| .nil) (.cons rfl rfl <| .nil) ?_
  refine PWl.step (LR.assign rfl) rfl ?_
  refine PWl.nil ?_
  refine PWc.ret ?_
  replace h : _ = r0 := h
  subst h
  exact ⟨.inr rfl, 4, rfl, .inr ⟨9, _, rfl, (by simp), rfl⟩⟩

theorem ctx_Add_ok (c1 : List TPart) (l2 : List TDot) (r0 : List TPart) (h : (ctx_Add c1 l2).wp (· = r0)) : PRow Tryz.prog 31 [.d (.sl (List.map TPart.e c1)), .d (.sl (List.map TDot.e l2))] 80 2 (List.map TPart.e r0) := by
  refine PRow.intro (sl := [(0, _), (1, _)]) Tryz.func31 rfl Tryz.ntmps31 rfl rfl ?_
  intro ctx hK
  refine PWc.seq ?_
  refine PWc.region ?_
  refine PWl.step (LR.assignNilRow 80 2 rfl) rfl ?_
  refine PWl.nil ?_
  refine PWc.seq ?_
  refine PWc.region ?_
  refine PWl.step (LR.move rfl) rfl ?_
  refine PWl.step (LR.move rfl) rfl ?_
  replace h := iDet h
  obtain ⟨v3, hy4, h⟩ := h
  refine PWl.step (LR.rowN (ctx_Of_ok l2 v3 hy4) rfl Tryz.call24 rfl rfl rfl rfl) rfl ?_
  replace h := iDet h
  obtain ⟨v5, hy6, h⟩ := h
  refine PWl.frz [7] hK (.cons rfl <| .nil) rfl (by simp) ?_
  refine PWl.step (LR.rowN (ctx_Join_ok c1 v3 v5 hy6) rfl Tryz.call10 rfl rfl rfl rfl) rfl ?_
  refine PWl.re (tl := [(0, _), (1, _), (5, _), (6, _), (7, _), (8, _)]) (to := [(8, _)]) rfl (.cons rfl rfl <| .cons rfl rfl <| .cons rfl rfl <| .cons rfl rfl <| .cons rfl rfl <| .cons rfl rfl <| .nil) (.cons rfl rfl <| .nil) ?_
  refine PWl.step (LR.assign rfl) rfl ?_
  refine PWl.nil ?_
  refine PWc.ret ?_
  replace h : _ = r0 := h
  subst h
  exact ⟨.inr rfl, 4, rfl, .inr ⟨8, _, rfl, (by simp), rfl⟩⟩
end Go.Proofs

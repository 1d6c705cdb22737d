/- Walks: written by program. -/
import Derived.Test.YtacnidaafcfgiaaGreatFc
import Derived.Test.YtacnidaafcfgiaaGreatSh
import Derived.Test.YtacnidaafcfgiaaGreatSx
import Derived.Test.YtacnidaafcfgiaaGreatTl
import Derived.Test.YtacnidaafcfgiaaGreatSr
import Derived.Test.YtacnidaafcfgiaaGreatDr
import Derived.Test.YtacnidaafcfgiaaGreatW1
import Derived.Test.YtacnidaafcfgiaaGreatW2
import Derived.Test.YtacnidaafcfgiaaGreatW3
namespace Go.Proofs
open Go.Ep
set_option maxHeartbeats 1000000
set_option maxRecDepth 100000
set_option linter.unusedVariables false
set_option linter.unusedSimpArgs false


theorem ctx_Base_ok (c1 : List TPart) (r0 : List TDot) (h : (ctx_Base c1).wp (· = r0)) : PRow Tryz.prog 37 [.d (.sl (List.map TPart.e c1))] 32 2 (List.map TDot.e r0) := by
  refine PRow.intro (sl := [(0, _)]) Tryz.func37 rfl Tryz.ntmps37 rfl rfl ?_
  intro ctx hK
  refine PWc.seq ?_
  refine PWc.region ?_
  refine PWl.step (LR.assignNilRow 32 2 rfl) rfl ?_
  refine PWl.nil ?_
  refine PWc.seq ?_
  refine PWc.region ?_
  refine PWl.step (LR.assignNilRow 32 2 rfl) rfl ?_
  refine PWl.nil ?_
  refine PWc.seq ?_
  refine PWc.seq ?_
  refine PWc.region ?_
  refine PWl.step (LR.move rfl) rfl ?_
  replace h := iDet h
  obtain ⟨v2, hy3, h⟩ := h
  refine PWl.step (LR.rowN (ctx_Norm_ok c1 v2 hy3) rfl Tryz.call20 rfl rfl rfl rfl) rfl ?_
  refine PWl.step (LR.lenRow Tryz.underlying23 rfl) rfl ?_
  refine PWl.step (LR.move rfl) rfl ?_
  refine PWl.nil ?_
  refine PWc.jn (iBind h) (fun (v4 : List TDot) (_ : Unit) => ⟨26, [(3, .row 3 (List.length v4))], [(3, .row 32 2 (List.map TDot.e v4))]⟩) (fun h => ?_) ?_
  · refine PWc.block ?_
    refine PWc.loopM (fun (⟨v19, v20⟩ : Int × List TDot) (_ : Unit) => ⟨26, [(3, .row 3 (List.length v20)), (7, .row 7 (List.length v2)), (8, .d (.v (.int .i64 ((List.length v2) : Int)))), (9, .d (.v (.int .i64 v19)))], [(3, .row 32 2 (List.map TDot.e v20)), (7, .row 80 2 (List.map TPart.e v2))]⟩) () h (Sub.of rfl (.cons rfl rfl <| .cons rfl rfl <| .cons rfl rfl <| .cons rfl rfl <| .nil) (.cons rfl rfl <| .cons rfl rfl <| .nil)) ?_
    rintro N ⟨v19, v20⟩ _ h
    refine PWc.seq ?_
    refine PWc.region ?_
    refine PWl.step (LR.lss rfl rfl) rfl ?_
    refine PWl.nil ?_
    refine PWc.seq ?_
    refine PWc.cond rfl (fun hc21 => ?_) (fun hc21 => ?_)
    · replace h := iT hc21 h
      refine PWc.skip ?_
      refine PWc.seq ?_
      refine PWc.block ?_
      refine PWc.seq ?_
      refine PWc.region ?_
      replace h := iIdx h
      obtain ⟨x22, hy23, h⟩ := h
      refine PWl.step (LR.idxRowT (L := v2) (y := x22) Tryz.underlying23 Tryz.sizeOf80 rfl rfl rfl hy23) rfl ?_
      refine PWl.step (LR.loadRpT (enc := TPart.e) (L := v2) (y := x22) Tryz.isAgg80 Tryz.sizeOf80 rfl rfl hy23.2) rfl ?_
      refine PWl.step (LR.allocZ (cs := [_, _]) Tryz.zeroValue80 rfl rfl rfl rfl) rfl ?_
      refine PWl.step (LR.storeB (ns := [_, _]) Tryz.sizeOf80 rfl rfl rfl rfl rfl rfl rfl) rfl ?_
      refine PWl.nil ?_
      refine PWc.re (tl := [(3, _), (5, _), (7, _), (8, _), (9, _)]) (to := [(3, _), (5, _), (7, _)]) rfl (.cons rfl rfl <| .cons rfl rfl <| .cons rfl rfl <| .cons rfl rfl <| .cons rfl rfl <| .nil) (.cons rfl rfl <| .cons rfl rfl <| .cons rfl rfl <| .nil) ?_
      refine PWc.regionE [⟨[13], [], [], [], [], [3], [], []⟩, ⟨[14], [], [], [], [], [5], [], []⟩, ⟨[15], [], [5], [], [], [], [], []⟩, ⟨[16], [], [], [], [], [5], [], []⟩, ⟨[17], [], [5], [], [], [], [], []⟩, ⟨[18], [], [], [], [], [], [], []⟩, ⟨[19], [], [], [], [], [], [], []⟩, ⟨[20], [], [], [], [], [], [], []⟩, ⟨[21], [], [], [], [], [], [], []⟩, ⟨[3, 13, 22], [3], [3], [], [(3, [3, 13])], [3], [], []⟩, ⟨[3], [], [], [], [], [3], [], []⟩] (by kernel_rfl) (by kernel_rfl) rfl ?_
      refine PQe.stepP (fun _ he ho => LR.move (he rfl rfl)) (.inl rfl) rfl ?_
      refine PQe.stepP (fun _ he ho => LR.fieldRef Tryz.underlying80 rfl Tryz.sizeOf29 (by decide) rfl (he rfl rfl)) (.inl rfl) rfl ?_
      refine PQe.stepP (fun _ he ho => LR.loadRef Tryz.isAgg29 (he rfl rfl) (ho rfl rfl) rfl) (.inl rfl) rfl ?_
      refine PQe.stepP (fun _ he ho => LR.fieldRef Tryz.underlying80 rfl Tryz.sizeOf37 (by decide) rfl (he rfl rfl)) (.inl rfl) rfl ?_
      refine PQe.stepP (fun _ he ho => LR.loadRef Tryz.isAgg37 (he rfl rfl) (ho rfl rfl) rfl) (.inl rfl) rfl ?_
      replace h := iDet h
      obtain ⟨v24, hy25, h⟩ := h
      refine PQe.stepP (fun _ he ho => LR.callN (runs_First_ok x22.runs v24 hy25) (he rfl rfl) Tryz.call75 (evsE he rfl rfl) rfl rfl rfl) (.inl rfl) rfl ?_
      refine PQe.stepP (fun _ he ho => LR.subW (he rfl rfl) (he rfl rfl)) (.inl rfl) rfl ?_
      refine PQe.stepP (fun _ he ho => LR.build (ns := [_, _]) build32 rfl (evpE he rfl rfl) rfl) (.inl rfl) rfl ?_
      refine PQe.stepP (fun _ he ho => LR.buildSliceD [.tmp 20] elem44 rfl rfl (.cons (he rfl rfl) rfl rfl <| .nil) (by decide) (by decide)) (.inl rfl) rfl ?_
      replace h := iNeed h
      obtain ⟨hy26, h⟩ := h
      refine PQe.stepA [3, 13] (fun _ he ho ha => LR.appT (enc := TDot.e) (L := v20) (R := [(⟨x22.dev, (IntKind.u64.wrap (v24 - 1))⟩ : TDot)]) [3, 13] elem44 Tryz.underlying44 (he rfl rfl) rfl (ho rfl rfl) (Src.slT (enc := TDot.e) (R := [(⟨x22.dev, (IntKind.u64.wrap (v24 - 1))⟩ : TDot)]) (he rfl rfl) (fun _ => rfl)) (fun _ => rfl) hy26 rfl ha) rfl (.inl rfl) rfl ?_
      refine PQe.stepP (fun _ he ho => LR.assign (he rfl rfl)) (.inl rfl) rfl ?_
      refine PQe.nil ?_
      refine PWc.region ?_
      refine PWl.step (LR.addW rfl rfl) rfl ?_
      refine PWl.step (LR.move rfl) rfl ?_
      refine PWl.nil ?_
      exact ⟨((IntKind.i64.wrap (v19 + 1)), (v20 ++ [(⟨x22.dev, (IntKind.u64.wrap (v24 - 1))⟩ : TDot)])), (), h, Sub.of rfl (.cons rfl (by first | rfl | (simp; done) | (congr 1; first | (simp; done) | (simp; omega))) <| .cons rfl rfl <| .cons rfl rfl <| .cons rfl rfl <| .nil) (.cons rfl rfl <| .cons rfl rfl <| .nil)⟩
    · replace h := iF hc21 h
      refine PWc.exit ?_
      exact ⟨v20, (), h, Sub.of rfl (.cons rfl rfl <| .nil) (.cons rfl rfl <| .nil)⟩
  · rintro v4 _ h
    refine PWc.seq ?_
    refine PWc.region ?_
    refine PWl.step (LR.move rfl) rfl ?_
    replace h := iDet h
    obtain ⟨v27, hy28, h⟩ := h
    refine PWl.frz [3, 24] hK (.cons rfl <| .cons rfl <| .nil) rfl (by simp) ?_
    refine PWl.step (LR.rowN (vec_Norm_ok v4 v27 hy28) rfl Tryz.call76 rfl rfl rfl rfl) rfl ?_
    refine PWl.step (LR.assign rfl) rfl ?_
    refine PWl.nil ?_
    refine PWc.ret ?_
    replace h : _ = r0 := h
    subst h
    exact ⟨.inr rfl, 2, rfl, .inr ⟨25, _, rfl, (by simp), rfl⟩⟩

theorem l09_works_ok  (r0 : Bool) (h : (l09_works ).wp (· = r0)) : PFun Tryz.prog 8 [] (.d (.v (.bool r0))) := by
  refine PFun.intro (sl := []) Tryz.func8 rfl Tryz.ntmps8 rfl rfl ?_
  intro ctx hK
  refine PWc.seq ?_
  refine PWc.region ?_
  refine PWl.step (LR.assign rfl) rfl ?_
  refine PWl.nil ?_
  refine PWc.seq ?_
  refine PWc.region ?_
  refine PWl.step (LR.build (ns := [_, _]) build32 rfl rfl rfl) rfl ?_
  refine PWl.step (LR.build (ns := [_, _]) build32 rfl rfl rfl) rfl ?_
  refine PWl.step (LR.build (ns := [_, _]) build32 rfl rfl rfl) rfl ?_
  refine PWl.step (LR.build (ns := [_, _]) build32 rfl rfl rfl) rfl ?_
  refine PWl.step (LR.buildSliceD [.tmp 3, .tmp 4, .tmp 5, .tmp 6] elem28 rfl rfl (.cons rfl rfl rfl <| .cons rfl rfl rfl <| .cons rfl rfl rfl <| .cons rfl rfl rfl <| .nil) (by decide) (by decide)) rfl ?_
  replace h := iDet h
  obtain ⟨v1, hy2, h⟩ := h
  refine PWl.step (LR.rowN (ctx_Of_ok ([(⟨1, 1⟩ : TDot), (⟨1, 2⟩ : TDot), (⟨1, 4⟩ : TDot), (⟨2, 2⟩ : TDot)]) v1 hy2) rfl Tryz.call24 rfl rfl rfl rfl) rfl ?_
  refine PWl.step (LR.assign rfl) rfl ?_
  refine PWl.nil ?_
  refine PWc.seq ?_
  refine PWc.region ?_
  refine PWl.step (LR.move rfl) rfl ?_
  refine PWl.step (LR.build (ns := [_, _]) build32 rfl rfl rfl) rfl ?_
  refine PWl.step (LR.buildSliceD [.tmp 10] elem28 rfl rfl (.cons rfl rfl rfl <| .nil) (by decide) (by decide)) rfl ?_
  replace h := iDet h
  obtain ⟨v3, hy4, h⟩ := h
  refine PWl.frz [1, 8, 9] hK (.cons rfl <| .cons rfl <| .cons rfl <| .nil) rfl (by simp) ?_
  refine PWl.step (LR.rowN (ctx_Add_ok v1 ([(⟨1, 3⟩ : TDot)]) v3 hy4) rfl Tryz.call31 rfl rfl rfl rfl) rfl ?_
  refine PWl.step (LR.assign rfl) rfl ?_
  refine PWl.nil ?_
  refine PWc.seq ?_
  refine PWc.jn (iBind h) (fun (v5 : Bool) (_ : Unit) => ⟨29, [(0, .d (.v (.bool v5)))], []⟩) (fun h => ?_) ?_
  · refine PWc.region ?_
    refine PWl.step (LR.move rfl) rfl ?_
    refine PWl.step (LR.lenMap (enc := TPart.e) (L := v1) Tryz.underlying23 rfl) rfl ?_
    refine PWl.step (LR.eql rfl rfl) rfl ?_
    refine PWl.step (LR.move rfl) rfl ?_
    refine PWl.split (d := 16) rfl (fun hg6 => ?_) (fun hg6 => ?_)
    · replace h := iT hg6 h
      refine PWl.guardT (LR.move rfl) rfl rfl rfl ?_
      replace h := iDet h
      obtain ⟨v7, hy8, h⟩ := h
      refine PWl.guardT (LR.rowN (ctx_Base_ok v1 v7 hy8) rfl Tryz.call37 rfl rfl rfl rfl) rfl rfl rfl ?_
      refine PWl.guardT (LR.build (ns := [_, _]) build32 rfl rfl rfl) rfl rfl rfl ?_
      refine PWl.re (tl := [(0, _), (2, _), (16, _), (18, _), (19, _)]) (to := [(12, _), (18, _)]) rfl (.cons rfl rfl <| .cons rfl rfl <| .cons rfl rfl <| .cons rfl rfl <| .cons rfl rfl <| .nil) (.cons rfl rfl <| .cons rfl rfl <| .nil) ?_
      refine PWl.guardT (LR.buildSliceD [.tmp 19] elem44 rfl rfl (.cons rfl rfl rfl <| .nil) (by decide) (by decide)) rfl rfl rfl ?_
      replace h := iDet h
      obtain ⟨v9, hy10, h⟩ := h
      refine PWl.frz [18] hK (.cons rfl <| .nil) rfl (by simp) ?_
      refine PWl.guardT (LR.callN (r07_Same_ok v7 ([(⟨1, 2⟩ : TDot)]) v9 hy10) rfl Tryz.call36 rfl rfl rfl rfl) rfl rfl rfl ?_
      refine PWl.step (LR.pickT rfl rfl) rfl ?_
      refine PWl.step (LR.move rfl) rfl ?_
      refine PWl.split (d := 23) rfl (fun hg11 => ?_) (fun hg11 => ?_)
      · replace h := iT hg11 h
        refine PWl.guardT (LR.move rfl) rfl rfl rfl ?_
        replace h := iDet h
        obtain ⟨v12, hy13, h⟩ := h
        refine PWl.frz [2, 24] hK (.cons rfl <| .cons rfl <| .nil) rfl (by simp) ?_
        refine PWl.guardT (LR.rowN (ctx_Runs_ok v3 1 v12 hy13) rfl Tryz.call27 rfl rfl rfl rfl) rfl rfl rfl ?_
        refine PWl.guardT (LR.lenRow Tryz.underlying37 rfl) rfl rfl rfl ?_
        refine PWl.guardT (LR.eql rfl rfl) rfl rfl rfl ?_
        refine PWl.step (LR.pickT rfl rfl) rfl ?_
        refine PWl.step (LR.assign rfl) rfl ?_
        refine PWl.nil ?_
        exact ⟨(decide (((List.length v12) : Int) = 1)), (), h, Sub.of rfl (.cons rfl rfl <| .nil) (.nil)⟩
      · replace h := iF hg11 h
        refine PWl.guardF rfl rfl rfl (by decide) ?_
        refine PWl.guardF rfl rfl rfl (by decide) ?_
        refine PWl.guardF rfl rfl rfl (by decide) ?_
        refine PWl.guardF rfl rfl rfl (by decide) ?_
        refine PWl.step (LR.pickF rfl rfl) rfl ?_
        refine PWl.step (LR.assign rfl) rfl ?_
        refine PWl.nil ?_
        exact ⟨false, (), h, Sub.of rfl (.cons rfl rfl <| .nil) (.nil)⟩
    · replace h := iF hg6 h
      refine PWl.guardF rfl rfl rfl (by decide) ?_
      refine PWl.guardF rfl rfl rfl (by decide) ?_
      refine PWl.guardF rfl rfl rfl (by decide) ?_
      refine PWl.re (tl := [(0, _), (2, _), (16, _), (18, _), (19, _)]) (to := [(12, _)]) rfl (.cons rfl rfl <| .cons rfl rfl <| .cons rfl rfl <| .cons rfl rfl <| .cons rfl rfl <| .nil) (.cons rfl rfl <| .nil) ?_
      refine PWl.guardF rfl rfl rfl (by decide) ?_
      refine PWl.guardF rfl rfl rfl (by decide) ?_
      refine PWl.step (LR.pickF rfl rfl) rfl ?_
      refine PWl.step (LR.move rfl) rfl ?_
      refine PWl.guardF rfl rfl rfl (by decide) ?_
      refine PWl.guardF rfl rfl rfl (by decide) ?_
      refine PWl.guardF rfl rfl rfl (by decide) ?_
      refine PWl.guardF rfl rfl rfl (by decide) ?_
      refine PWl.step (LR.pickF rfl rfl) rfl ?_
      refine PWl.step (LR.assign rfl) rfl ?_
      refine PWl.nil ?_
      exact ⟨false, (), h, Sub.of rfl (.cons rfl rfl <| .nil) (.nil)⟩
  · rintro v5 _ h
    refine PWc.ret ?_
    replace h : _ = r0 := h
    subst h
    exact ⟨.inr rfl, _, .cons (.tmp rfl rfl) <| .nil, rfl⟩

theorem r06_Eq_ok (a1 : List TRun) (b2 : List TRun) (r0 : Bool) (h : (r06_Eq a1 b2).wp (· = r0)) : PFun Tryz.prog 26 [.d (.sl (List.map TRun.e a1)), .d (.sl (List.map TRun.e b2))] (.d (.v (.bool r0))) := by
  refine PFun.intro (sl := [(0, _), (1, _)]) Tryz.func26 rfl Tryz.ntmps26 rfl rfl ?_
  intro ctx hK
  refine PWc.seq ?_
  refine PWc.region ?_
  refine PWl.step (LR.assign rfl) rfl ?_
  refine PWl.nil ?_
  refine PWc.seq ?_
  refine PWc.seq ?_
  refine PWc.region ?_
  refine PWl.step (LR.move rfl) rfl ?_
  refine PWl.step (LR.lenMap (enc := TRun.e) (L := a1) Tryz.underlying37 rfl) rfl ?_
  refine PWl.step (LR.move rfl) rfl ?_
  refine PWl.step (LR.lenMap (enc := TRun.e) (L := b2) Tryz.underlying37 rfl) rfl ?_
  refine PWl.step (LR.neq rfl rfl) rfl ?_
  refine PWl.nil ?_
  refine PWc.cond rfl (fun hc3 => ?_) (fun hc3 => ?_)
  · replace h := iT hc3 h
    refine PWc.seq ?_
    refine PWc.region ?_
    refine PWl.step (LR.assign rfl) rfl ?_
    refine PWl.nil ?_
    refine PWc.ret ?_
    replace h : _ = r0 := h
    subst h
    exact ⟨.inr rfl, _, .cons (.tmp rfl rfl) <| .nil, rfl⟩
  · replace h := iF hc3 h
    refine PWc.skip ?_
    refine PWc.seq ?_
    refine PWc.seq ?_
    refine PWc.region ?_
    refine PWl.step (LR.assign rfl) rfl ?_
    refine PWl.nil ?_
    refine PWc.jnX (iBind h) (fun (_ : Unit) (_ : Unit) => ⟨26, [], []⟩) (fun h => ?_) ?_
    · refine PWc.block ?_
      refine PWc.loopM (fun (i17 : Int) (_ : Unit) => ⟨26, [(0, .d (.sl (List.map TRun.e a1))), (1, .d (.sl (List.map TRun.e b2))), (5, .d (.v (.int .i64 i17)))], []⟩) () h (Sub.of rfl (.cons rfl rfl <| .cons rfl rfl <| .cons rfl rfl <| .nil) (.nil)) ?_
      rintro N i17 _ h
      refine PWc.seq ?_
      refine PWc.seq ?_
      refine PWc.region ?_
      refine PWl.step (LR.move rfl) rfl ?_
      refine PWl.step (LR.move rfl) rfl ?_
      refine PWl.step (LR.lenMap (enc := TRun.e) (L := a1) Tryz.underlying37 rfl) rfl ?_
      refine PWl.step (LR.lss rfl rfl) rfl ?_
      refine PWl.nil ?_
      refine PWc.cond rfl (fun hc18 => ?_) (fun hc18 => ?_)
      · replace h := iT hc18 h
        refine PWc.skip ?_
        refine PWc.seq ?_
        refine PWc.block ?_
        refine PWc.seq ?_
        refine PWc.regionD (by kernel_rfl) (by kernel_rfl) ?_
        refine PQl.step (fun _ he ho => LR.move (he rfl rfl)) rfl ?_
        refine PQl.step (fun _ he ho => LR.move (he rfl rfl)) rfl ?_
        replace h := iIdx h
        obtain ⟨x19, hy20, h⟩ := h
        refine PQl.step (fun _ he ho => LR.idxT (enc := TRun.e) (L := a1) (y := x19) Tryz.underlying37 Tryz.sizeOf89 (he rfl rfl) (he rfl rfl) hy20 (fun _ => rfl)) rfl ?_
        refine PQl.step (fun _ he ho => LR.loadEpAgg (ys := [_, _]) Tryz.isAgg89 Tryz.sizeOf89 (he rfl rfl) rfl rfl) rfl ?_
        refine PQl.step (fun _ he ho => LR.move (he rfl rfl)) rfl ?_
        refine PQl.step (fun _ he ho => LR.move (he rfl rfl)) rfl ?_
        replace h := iIdx h
        obtain ⟨x21, hy22, h⟩ := h
        refine PQl.step (fun _ he ho => LR.idxT (enc := TRun.e) (L := b2) (y := x21) Tryz.underlying37 Tryz.sizeOf89 (he rfl rfl) (he rfl rfl) hy22 (fun _ => rfl)) rfl ?_
        refine PQl.step (fun _ he ho => LR.loadEpAgg (ys := [_, _]) Tryz.isAgg89 Tryz.sizeOf89 (he rfl rfl) rfl rfl) rfl ?_
        refine PQl.step (fun _ he ho => LR.neqAgg (he rfl rfl) (he rfl rfl) rfl rfl eq89) rfl ?_
        refine PQl.nil ?_
        refine PWc.cond rfl (fun hc23 => ?_) (fun hc23 => ?_)
        · replace h := iT hc23 h
          refine PWc.seq ?_
          refine PWc.region ?_
          refine PWl.step (LR.assign rfl) rfl ?_
          refine PWl.nil ?_
          refine PWc.ret ?_
          replace h : _ = r0 := h
          subst h
          exact ⟨.inr rfl, _, .cons (.tmp rfl rfl) <| .nil, rfl⟩
        · replace h := iF hc23 h
          refine PWc.skip ?_
          refine PWc.region ?_
          refine PWl.step (LR.move rfl) rfl ?_
          refine PWl.step (LR.addW rfl rfl) rfl ?_
          refine PWl.step (LR.assign rfl) rfl ?_
          refine PWl.nil ?_
          exact ⟨(IntKind.i64.wrap (i17 + 1)), (), h, Sub.of rfl (.cons rfl rfl <| .cons rfl rfl <| .cons rfl rfl <| .nil) (.nil)⟩
      · replace h := iF hc18 h
        refine PWc.exit ?_
        exact ⟨(), (), h, Sub.of rfl (.nil) (.nil)⟩
    · rintro _ _ h
      refine PWc.seq ?_
      refine PWc.region ?_
      refine PWl.step (LR.assign rfl) rfl ?_
      refine PWl.nil ?_
      refine PWc.ret ?_
      replace h : _ = r0 := h
      subst h
      exact ⟨.inr rfl, _, .cons (.tmp rfl rfl) <| .nil, rfl⟩

theorem r09_Eq_ok (a1 : List TPart) (b2 : List TPart) (r0 : Bool) (h : (r09_Eq a1 b2).wp (· = r0)) : PFun Tryz.prog 9 [.d (.sl (List.map TPart.e a1)), .d (.sl (List.map TPart.e b2))] (.d (.v (.bool r0))) := by
  refine PFun.intro (sl := [(0, _), (1, _)]) Tryz.func9 rfl Tryz.ntmps9 rfl rfl ?_
  intro ctx hK
  refine PWc.seq ?_
  refine PWc.region ?_
  refine PWl.step (LR.assign rfl) rfl ?_
  refine PWl.nil ?_
  refine PWc.seq ?_
  refine PWc.seq ?_
  refine PWc.region ?_
  refine PWl.step (LR.move rfl) rfl ?_
  refine PWl.step (LR.lenMap (enc := TPart.e) (L := a1) Tryz.underlying23 rfl) rfl ?_
  refine PWl.step (LR.move rfl) rfl ?_
  refine PWl.step (LR.lenMap (enc := TPart.e) (L := b2) Tryz.underlying23 rfl) rfl ?_
  refine PWl.step (LR.neq rfl rfl) rfl ?_
  refine PWl.nil ?_
  refine PWc.cond rfl (fun hc3 => ?_) (fun hc3 => ?_)
  · replace h := iT hc3 h
    refine PWc.seq ?_
    refine PWc.region ?_
    refine PWl.step (LR.assign rfl) rfl ?_
    refine PWl.nil ?_
    refine PWc.ret ?_
    replace h : _ = r0 := h
    subst h
    exact ⟨.inr rfl, _, .cons (.tmp rfl rfl) <| .nil, rfl⟩
  · replace h := iF hc3 h
    refine PWc.skip ?_
    refine PWc.seq ?_
    refine PWc.seq ?_
    refine PWc.region ?_
    refine PWl.step (LR.assign rfl) rfl ?_
    refine PWl.nil ?_
    refine PWc.jnX (iBind h) (fun (_ : Unit) (_ : Unit) => ⟨42, [], []⟩) (fun h => ?_) ?_
    · refine PWc.block ?_
      refine PWc.loopM (fun (i33 : Int) (_ : Unit) => ⟨42, [(0, .d (.sl (List.map TPart.e a1))), (1, .d (.sl (List.map TPart.e b2))), (5, .d (.v (.int .i64 i33)))], []⟩) () h (Sub.of rfl (.cons rfl rfl <| .cons rfl rfl <| .cons rfl rfl <| .nil) (.nil)) ?_
      rintro N i33 _ h
      refine PWc.seq ?_
      refine PWc.seq ?_
      refine PWc.region ?_
      refine PWl.step (LR.move rfl) rfl ?_
      refine PWl.step (LR.move rfl) rfl ?_
      refine PWl.step (LR.lenMap (enc := TPart.e) (L := a1) Tryz.underlying23 rfl) rfl ?_
      refine PWl.step (LR.lss rfl rfl) rfl ?_
      refine PWl.nil ?_
      refine PWc.cond rfl (fun hc34 => ?_) (fun hc34 => ?_)
      · replace h := iT hc34 h
        refine PWc.skip ?_
        refine PWc.seq ?_
        refine PWc.block ?_
        refine PWc.seq ?_
        refine PWc.jn (iBind h) (fun (v35 : Bool) (_ : Unit) => ⟨42, [(0, .d (.sl (List.map TPart.e a1))), (1, .d (.sl (List.map TPart.e b2))), (5, .d (.v (.int .i64 i33))), (41, .d (.v (.bool v35)))], []⟩) (fun h => ?_) ?_
        · refine PWc.regionD (by kernel_rfl) (by kernel_rfl) ?_
          refine PQl.step (fun _ he ho => LR.move (he rfl rfl)) rfl ?_
          refine PQl.step (fun _ he ho => LR.move (he rfl rfl)) rfl ?_
          replace h := iIdx h
          obtain ⟨x36, hy37, h⟩ := h
          refine PQl.step (fun _ he ho => LR.idxT (enc := TPart.e) (L := a1) (y := x36) Tryz.underlying23 Tryz.sizeOf80 (he rfl rfl) (he rfl rfl) hy37 (fun _ => rfl)) rfl ?_
          refine PQl.step (fun _ he ho => LR.fieldEp Tryz.underlying80 rfl Tryz.sizeOf29 (by decide) rfl (he rfl rfl)) rfl ?_
          refine PQl.step (fun _ he ho => LR.loadEp Tryz.isAgg29 (he rfl rfl) rfl) rfl ?_
          refine PQl.step (fun _ he ho => LR.move (he rfl rfl)) rfl ?_
          refine PQl.step (fun _ he ho => LR.move (he rfl rfl)) rfl ?_
          replace h := iIdx h
          obtain ⟨x38, hy39, h⟩ := h
          refine PQl.step (fun _ he ho => LR.idxT (enc := TPart.e) (L := b2) (y := x38) Tryz.underlying23 Tryz.sizeOf80 (he rfl rfl) (he rfl rfl) hy39 (fun _ => rfl)) rfl ?_
          refine PQl.step (fun _ he ho => LR.fieldEp Tryz.underlying80 rfl Tryz.sizeOf29 (by decide) rfl (he rfl rfl)) rfl ?_
          refine PQl.step (fun _ he ho => LR.loadEp Tryz.isAgg29 (he rfl rfl) rfl) rfl ?_
          refine PQl.step (fun _ he ho => LR.neq (he rfl rfl) (he rfl rfl)) rfl ?_
          refine PQl.step (fun _ he ho => LR.move (he rfl rfl)) rfl ?_
          refine PQl.split (d := 28) rfl (fun hg40 => ?_) (fun hg40 => ?_)
          · replace h := iT hg40 h
            refine PQl.guardF rfl rfl rfl (by decide) ?_
            refine PQl.guardF rfl rfl rfl (by decide) ?_
            refine PQl.guardF rfl rfl rfl (by decide) ?_
            refine PQl.guardF rfl rfl rfl (by decide) ?_
            refine PQl.guardF rfl rfl rfl (by decide) ?_
            refine PQl.guardF rfl rfl rfl (by decide) ?_
            refine PQl.guardF rfl rfl rfl (by decide) ?_
            refine PQl.guardF rfl rfl rfl (by decide) ?_
            refine PQl.guardF rfl rfl rfl (by decide) ?_
            refine PQl.guardF rfl rfl rfl (by decide) ?_
            refine PQl.guardF rfl rfl rfl (by decide) ?_
            refine PQl.guardF rfl rfl rfl (by decide) ?_
            refine PQl.step (fun _ he ho => LR.pickT (he rfl rfl) (he rfl rfl)) rfl ?_
            refine PQl.nil ?_
            exact ⟨true, (), h, Sub.of rfl (.cons rfl rfl <| .cons rfl rfl <| .cons rfl rfl <| .cons rfl rfl <| .nil) (.nil)⟩
          · replace h := iF hg40 h
            refine PQl.guardT (fun _ he ho => LR.move (he rfl rfl)) rfl rfl rfl ?_
            refine PQl.guardT (fun _ he ho => LR.move (he rfl rfl)) rfl rfl rfl ?_
            replace h := iIdx h
            obtain ⟨x41, hy42, h⟩ := h
            refine PQl.guardT (fun _ he ho => LR.idxT (enc := TPart.e) (L := a1) (y := x41) Tryz.underlying23 Tryz.sizeOf80 (he rfl rfl) (he rfl rfl) hy42 (fun _ => rfl)) rfl rfl rfl ?_
            refine PQl.guardT (fun _ he ho => LR.fieldEp Tryz.underlying80 rfl Tryz.sizeOf37 (by decide) rfl (he rfl rfl)) rfl rfl rfl ?_
            refine PQl.guardT (fun _ he ho => LR.loadEp Tryz.isAgg37 (he rfl rfl) rfl) rfl rfl rfl ?_
            refine PQl.guardT (fun _ he ho => LR.move (he rfl rfl)) rfl rfl rfl ?_
            refine PQl.guardT (fun _ he ho => LR.move (he rfl rfl)) rfl rfl rfl ?_
            replace h := iIdx h
            obtain ⟨x43, hy44, h⟩ := h
            refine PQl.guardT (fun _ he ho => LR.idxT (enc := TPart.e) (L := b2) (y := x43) Tryz.underlying23 Tryz.sizeOf80 (he rfl rfl) (he rfl rfl) hy44 (fun _ => rfl)) rfl rfl rfl ?_
            refine PQl.guardT (fun _ he ho => LR.fieldEp Tryz.underlying80 rfl Tryz.sizeOf37 (by decide) rfl (he rfl rfl)) rfl rfl rfl ?_
            refine PQl.guardT (fun _ he ho => LR.loadEp Tryz.isAgg37 (he rfl rfl) rfl) rfl rfl rfl ?_
            replace h := iDet h
            obtain ⟨v45, hy46, h⟩ := h
            refine PQl.guardT (fun _ he ho => LR.callN (r06_Eq_ok x41.runs x43.runs v45 hy46) (he rfl rfl) Tryz.call26 (evsE he rfl rfl) rfl rfl rfl) rfl rfl rfl ?_
            refine PQl.guardT (fun _ he ho => LR.not (he rfl rfl)) rfl rfl rfl ?_
            refine PQl.step (fun _ he ho => LR.pickF (he rfl rfl) (he rfl rfl)) rfl ?_
            refine PQl.nil ?_
            exact ⟨(!v45), (), h, Sub.of rfl (.cons rfl rfl <| .cons rfl rfl <| .cons rfl rfl <| .cons rfl rfl <| .nil) (.nil)⟩
        · rintro v35 _ h
          refine PWc.cond rfl (fun hc47 => ?_) (fun hc47 => ?_)
          · replace h := iT hc47 h
            refine PWc.seq ?_
            refine PWc.region ?_
            refine PWl.step (LR.assign rfl) rfl ?_
            refine PWl.nil ?_
            refine PWc.ret ?_
            replace h : _ = r0 := h
            subst h
            exact ⟨.inr rfl, _, .cons (.tmp rfl rfl) <| .nil, rfl⟩
          · replace h := iF hc47 h
            refine PWc.skip ?_
            refine PWc.region ?_
            refine PWl.step (LR.move rfl) rfl ?_
            refine PWl.step (LR.addW rfl rfl) rfl ?_
            refine PWl.step (LR.assign rfl) rfl ?_
            refine PWl.nil ?_
            exact ⟨(IntKind.i64.wrap (i33 + 1)), (), h, Sub.of rfl (.cons rfl rfl <| .cons rfl rfl <| .cons rfl rfl <| .nil) (.nil)⟩
      · replace h := iF hc34 h
        refine PWc.exit ?_
        exact ⟨(), (), h, Sub.of rfl (.nil) (.nil)⟩
    · rintro _ _ h
      refine PWc.seq ?_
      refine PWc.region ?_
      refine PWl.step (LR.assign rfl) rfl ?_
      refine PWl.nil ?_
      refine PWc.ret ?_
      replace h : _ = r0 := h
      subst h
      exact ⟨.inr rfl, _, .cons (.tmp rfl rfl) <| .nil, rfl⟩

theorem r06_may_ok (x1 : TRun) (r0 : Bool) (h : (r06_may x1).wp (· = r0)) : PFun Tryz.prog 111 [.agg (List.map .d (TRun.e x1))] (.d (.v (.bool r0))) := by
  refine PFun.intro (sl := [(0, _)]) Tryz.func111 rfl Tryz.ntmps111 rfl rfl ?_
  intro ctx hK
  refine PWc.seq ?_
  refine PWc.region ?_
  refine PWl.step (LR.box rfl rfl rfl rfl) rfl ?_
  refine PWl.step (LR.assign rfl) rfl ?_
  refine PWl.nil ?_
  refine PWc.seq ?_
  refine PWc.jn (iBind h) (fun (v2 : Bool) (_ : Unit) => ⟨18, [(2, .d (.v (.bool v2)))], []⟩) (fun h => ?_) ?_
  · refine PWc.region ?_
    refine PWl.step (LR.fieldRef Tryz.underlying89 rfl Tryz.sizeOf30 (by decide) rfl rfl) rfl ?_
    refine PWl.step (LR.loadRef Tryz.isAgg30 rfl rfl rfl) rfl ?_
    refine PWl.step (LR.geq rfl rfl) rfl ?_
    refine PWl.step (LR.move rfl) rfl ?_
    refine PWl.split (d := 6) rfl (fun hg3 => ?_) (fun hg3 => ?_)
    · replace h := iT hg3 h
      refine PWl.guardT (LR.fieldRef Tryz.underlying89 rfl Tryz.sizeOf30 (by decide) rfl rfl) rfl rfl rfl ?_
      refine PWl.guardT (LR.loadRef Tryz.isAgg30 rfl rfl rfl) rfl rfl rfl ?_
      refine PWl.guardT (LR.fieldRef Tryz.underlying89 rfl Tryz.sizeOf30 (by decide) rfl rfl) rfl rfl rfl ?_
      refine PWl.guardT (LR.loadRef Tryz.isAgg30 rfl rfl rfl) rfl rfl rfl ?_
      refine PWl.guardT (LR.leq rfl rfl) rfl rfl rfl ?_
      refine PWl.step (LR.pickT rfl rfl) rfl ?_
      refine PWl.step (LR.move rfl) rfl ?_
      refine PWl.split (d := 13) rfl (fun hg4 => ?_) (fun hg4 => ?_)
      · replace h := iT hg4 h
        refine PWl.guardT (LR.fieldRef Tryz.underlying89 rfl Tryz.sizeOf30 (by decide) rfl rfl) rfl rfl rfl ?_
        refine PWl.guardT (LR.loadRef Tryz.isAgg30 rfl rfl rfl) rfl rfl rfl ?_
        refine PWl.guardT (LR.leq rfl rfl) rfl rfl rfl ?_
        refine PWl.step (LR.pickT rfl rfl) rfl ?_
        refine PWl.step (LR.assign rfl) rfl ?_
        refine PWl.nil ?_
        exact ⟨(decide (x1.hi ≤ 281474976710655)), (), h, Sub.of rfl (.cons rfl rfl <| .nil) (.nil)⟩
      · replace h := iF hg4 h
        refine PWl.guardF rfl rfl rfl (by decide) ?_
        refine PWl.guardF rfl rfl rfl (by decide) ?_
        refine PWl.guardF rfl rfl rfl (by decide) ?_
        refine PWl.step (LR.pickF rfl rfl) rfl ?_
        refine PWl.step (LR.assign rfl) rfl ?_
        refine PWl.nil ?_
        exact ⟨false, (), h, Sub.of rfl (.cons rfl rfl <| .nil) (.nil)⟩
    · replace h := iF hg3 h
      refine PWl.guardF rfl rfl rfl (by decide) ?_
      refine PWl.guardF rfl rfl rfl (by decide) ?_
      refine PWl.guardF rfl rfl rfl (by decide) ?_
      refine PWl.guardF rfl rfl rfl (by decide) ?_
      refine PWl.guardF rfl rfl rfl (by decide) ?_
      refine PWl.step (LR.pickF rfl rfl) rfl ?_
      refine PWl.step (LR.move rfl) rfl ?_
      refine PWl.guardF rfl rfl rfl (by decide) ?_
      refine PWl.guardF rfl rfl rfl (by decide) ?_
      refine PWl.guardF rfl rfl rfl (by decide) ?_
      refine PWl.step (LR.pickF rfl rfl) rfl ?_
      refine PWl.step (LR.assign rfl) rfl ?_
      refine PWl.nil ?_
      exact ⟨false, (), h, Sub.of rfl (.cons rfl rfl <| .nil) (.nil)⟩
  · rintro v2 _ h
    refine PWc.ret ?_
    replace h : _ = r0 := h
    subst h
    exact ⟨.inr rfl, _, .cons (.tmp rfl rfl) <| .nil, rfl⟩

theorem r06_Has_ok (l1 : List TRun) (n2 : Int) (r0 : Bool) (h : (r06_Has l1 n2).wp (· = r0)) : PFun Tryz.prog 72 [.d (.sl (List.map TRun.e l1)), .d (.v (.int .u64 n2))] (.d (.v (.bool r0))) := by
  refine PFun.intro (sl := [(0, _), (1, _)]) Tryz.func72 rfl Tryz.ntmps72 rfl rfl ?_
  intro ctx hK
  refine PWc.seq ?_
  refine PWc.region ?_
  refine PWl.step (LR.assign rfl) rfl ?_
  refine PWl.nil ?_
  refine PWc.seq ?_
  refine PWc.seq ?_
  refine PWc.region ?_
  refine PWl.step (LR.assign rfl) rfl ?_
  refine PWl.nil ?_
  refine PWc.jnX (iBind h) (fun (_ : Unit) (_ : Unit) => ⟨35, [], []⟩) (fun h => ?_) ?_
  · refine PWc.block ?_
    refine PWc.loopM (fun (i30 : Int) (_ : Unit) => ⟨35, [(0, .d (.sl (List.map TRun.e l1))), (1, .d (.v (.int .u64 n2))), (5, .d (.v (.int .i64 i30)))], []⟩) () h (Sub.of rfl (.cons rfl rfl <| .cons rfl rfl <| .cons rfl rfl <| .nil) (.nil)) ?_
    rintro N i30 _ h
    refine PWc.seq ?_
    refine PWc.seq ?_
    refine PWc.region ?_
    refine PWl.step (LR.move rfl) rfl ?_
    refine PWl.step (LR.move rfl) rfl ?_
    refine PWl.step (LR.lenMap (enc := TRun.e) (L := l1) Tryz.underlying37 rfl) rfl ?_
    refine PWl.step (LR.lss rfl rfl) rfl ?_
    refine PWl.nil ?_
    refine PWc.cond rfl (fun hc31 => ?_) (fun hc31 => ?_)
    · replace h := iT hc31 h
      refine PWc.skip ?_
      refine PWc.seq ?_
      refine PWc.block ?_
      refine PWc.seq ?_
      refine PWc.jn (iBind h) (fun (v32 : Bool) (_ : Unit) => ⟨35, [(0, .d (.sl (List.map TRun.e l1))), (1, .d (.v (.int .u64 n2))), (5, .d (.v (.int .i64 i30))), (34, .d (.v (.bool v32)))], []⟩) (fun h => ?_) ?_
      · refine PWc.region ?_
        refine PWl.step (LR.move rfl) rfl ?_
        refine PWl.step (LR.move rfl) rfl ?_
        replace h := iIdx h
        obtain ⟨x33, hy34, h⟩ := h
        refine PWl.step (LR.idxT (enc := TRun.e) (L := l1) (y := x33) Tryz.underlying37 Tryz.sizeOf89 rfl rfl hy34 (fun _ => rfl)) rfl ?_
        refine PWl.step (LR.loadEpAgg (ys := [_, _]) Tryz.isAgg89 Tryz.sizeOf89 rfl rfl rfl) rfl ?_
        replace h := iDet h
        obtain ⟨v35, hy36, h⟩ := h
        refine PWl.step (LR.callN (r06_may_ok x33 v35 hy36) rfl Tryz.call111 rfl rfl rfl rfl) rfl ?_
        refine PWl.step (LR.move rfl) rfl ?_
        refine PWl.split (d := 17) rfl (fun hg37 => ?_) (fun hg37 => ?_)
        · replace h := iT hg37 h
          refine PWl.guardT (LR.move rfl) rfl rfl rfl ?_
          refine PWl.guardT (LR.move rfl) rfl rfl rfl ?_
          replace h := iIdx h
          obtain ⟨x38, hy39, h⟩ := h
          refine PWl.guardT (LR.idxT (enc := TRun.e) (L := l1) (y := x38) Tryz.underlying37 Tryz.sizeOf89 rfl rfl hy39 (fun _ => rfl)) rfl rfl rfl ?_
          refine PWl.guardT (LR.fieldEp Tryz.underlying89 rfl Tryz.sizeOf30 (by decide) rfl rfl) rfl rfl rfl ?_
          refine PWl.guardT (LR.loadEp Tryz.isAgg30 rfl rfl) rfl rfl rfl ?_
          refine PWl.guardT (LR.move rfl) rfl rfl rfl ?_
          refine PWl.guardT (LR.leq rfl rfl) rfl rfl rfl ?_
          refine PWl.re (tl := [(0, _), (1, _), (5, _), (17, _), (18, _), (19, _), (20, _), (21, _), (22, _), (23, _), (24, _)]) (to := []) rfl (.cons rfl rfl <| .cons rfl rfl <| .cons rfl rfl <| .cons rfl rfl <| .cons rfl rfl <| .cons rfl rfl <| .cons rfl rfl <| .cons rfl rfl <| .cons rfl rfl <| .cons rfl rfl <| .cons rfl rfl <| .nil) (.nil) ?_
          refine PWl.step (LR.pickT rfl rfl) rfl ?_
          refine PWl.step (LR.move rfl) rfl ?_
          refine PWl.split (d := 26) rfl (fun hg40 => ?_) (fun hg40 => ?_)
          · replace h := iT hg40 h
            refine PWl.guardT (LR.move rfl) rfl rfl rfl ?_
            refine PWl.guardT (LR.move rfl) rfl rfl rfl ?_
            refine PWl.guardT (LR.move rfl) rfl rfl rfl ?_
            replace h := iIdx h
            obtain ⟨x41, hy42, h⟩ := h
            refine PWl.guardT (LR.idxT (enc := TRun.e) (L := l1) (y := x41) Tryz.underlying37 Tryz.sizeOf89 rfl rfl hy42 (fun _ => rfl)) rfl rfl rfl ?_
            refine PWl.guardT (LR.fieldEp Tryz.underlying89 rfl Tryz.sizeOf30 (by decide) rfl rfl) rfl rfl rfl ?_
            refine PWl.guardT (LR.loadEp Tryz.isAgg30 rfl rfl) rfl rfl rfl ?_
            refine PWl.guardT (LR.leq rfl rfl) rfl rfl rfl ?_
            refine PWl.step (LR.pickT rfl rfl) rfl ?_
            refine PWl.nil ?_
            exact ⟨(decide (n2 ≤ x41.hi)), (), h, Sub.of rfl (.cons rfl rfl <| .cons rfl rfl <| .cons rfl rfl <| .cons rfl rfl <| .nil) (.nil)⟩
          · replace h := iF hg40 h
            refine PWl.guardF rfl rfl rfl (by decide) ?_
            refine PWl.guardF rfl rfl rfl (by decide) ?_
            refine PWl.guardF rfl rfl rfl (by decide) ?_
            refine PWl.guardF rfl rfl rfl (by decide) ?_
            refine PWl.guardF rfl rfl rfl (by decide) ?_
            refine PWl.guardF rfl rfl rfl (by decide) ?_
            refine PWl.guardF rfl rfl rfl (by decide) ?_
            refine PWl.step (LR.pickF rfl rfl) rfl ?_
            refine PWl.nil ?_
            exact ⟨false, (), h, Sub.of rfl (.cons rfl rfl <| .cons rfl rfl <| .cons rfl rfl <| .cons rfl rfl <| .nil) (.nil)⟩
        · replace h := iF hg37 h
          refine PWl.guardF rfl rfl rfl (by decide) ?_
          refine PWl.guardF rfl rfl rfl (by decide) ?_
          refine PWl.guardF rfl rfl rfl (by decide) ?_
          refine PWl.guardF rfl rfl rfl (by decide) ?_
          refine PWl.guardF rfl rfl rfl (by decide) ?_
          refine PWl.guardF rfl rfl rfl (by decide) ?_
          refine PWl.guardF rfl rfl rfl (by decide) ?_
          refine PWl.re (tl := [(0, _), (1, _), (5, _), (17, _), (18, _), (19, _), (20, _), (21, _), (22, _), (23, _), (24, _)]) (to := []) rfl (.cons rfl rfl <| .cons rfl rfl <| .cons rfl rfl <| .cons rfl rfl <| .cons rfl rfl <| .cons rfl rfl <| .cons rfl rfl <| .cons rfl rfl <| .cons rfl rfl <| .cons rfl rfl <| .cons rfl rfl <| .nil) (.nil) ?_
          refine PWl.step (LR.pickF rfl rfl) rfl ?_
          refine PWl.step (LR.move rfl) rfl ?_
          refine PWl.guardF rfl rfl rfl (by decide) ?_
          refine PWl.guardF rfl rfl rfl (by decide) ?_
          refine PWl.guardF rfl rfl rfl (by decide) ?_
          refine PWl.guardF rfl rfl rfl (by decide) ?_
          refine PWl.guardF rfl rfl rfl (by decide) ?_
          refine PWl.guardF rfl rfl rfl (by decide) ?_
          refine PWl.guardF rfl rfl rfl (by decide) ?_
          refine PWl.step (LR.pickF rfl rfl) rfl ?_
          refine PWl.nil ?_
          exact ⟨false, (), h, Sub.of rfl (.cons rfl rfl <| .cons rfl rfl <| .cons rfl rfl <| .cons rfl rfl <| .nil) (.nil)⟩
      · rintro v32 _ h
        refine PWc.cond rfl (fun hc43 => ?_) (fun hc43 => ?_)
        · replace h := iT hc43 h
          refine PWc.seq ?_
          refine PWc.region ?_
          refine PWl.step (LR.assign rfl) rfl ?_
          refine PWl.nil ?_
          refine PWc.ret ?_
          replace h : _ = r0 := h
          subst h
          exact ⟨.inr rfl, _, .cons (.tmp rfl rfl) <| .nil, rfl⟩
        · replace h := iF hc43 h
          refine PWc.skip ?_
          refine PWc.region ?_
          refine PWl.step (LR.move rfl) rfl ?_
          refine PWl.step (LR.addW rfl rfl) rfl ?_
          refine PWl.step (LR.assign rfl) rfl ?_
          refine PWl.nil ?_
          exact ⟨(IntKind.i64.wrap (i30 + 1)), (), h, Sub.of rfl (.cons rfl rfl <| .cons rfl rfl <| .cons rfl rfl <| .nil) (.nil)⟩
    · replace h := iF hc31 h
      refine PWc.exit ?_
      exact ⟨(), (), h, Sub.of rfl (.nil) (.nil)⟩
  · rintro _ _ h
    refine PWc.seq ?_
    refine PWc.region ?_
    refine PWl.step (LR.assign rfl) rfl ?_
    refine PWl.nil ?_
    refine PWc.ret ?_
    replace h : _ = r0 := h
    subst h
    exact ⟨.inr rfl, _, .cons (.tmp rfl rfl) <| .nil, rfl⟩
end Go.Proofs

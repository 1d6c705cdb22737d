/- Walks: written by program. -/
import Derived.Test.YtacnidaafcfgiaaFc
import Derived.Test.YtacnidaafcfgiaaSh
import Derived.Test.YtacnidaafcfgiaaSx
import Derived.Test.YtacnidaafcfgiaaTl
import Derived.Test.YtacnidaafcfgiaaSr
import Derived.Test.YtacnidaafcfgiaaDr
import Derived.Test.YtacnidaafcfgiaaW1
import Derived.Test.YtacnidaafcfgiaaW2
import Derived.Test.YtacnidaafcfgiaaW3
import Derived.Test.YtacnidaafcfgiaaW4
import Derived.Test.YtacnidaafcfgiaaW5
namespace Go.Proofs
open Go.Ep
set_option maxHeartbeats 1000000
set_option maxRecDepth 100000
set_option linter.unusedVariables false
set_option linter.unusedSimpArgs false


theorem ctx_Within_ok (a1 : List TPart) (b2 : List TPart) (r0 : Bool) (h : (ctx_Within a1 b2).wp (· = r0)) : PFun Try.prog 48 [.d (.sl (List.map TPart.e a1)), .d (.sl (List.map TPart.e b2))] (.d (.v (.bool r0))) := by
  refine PFun.intro (sl := [(0, _), (1, _)]) Try.func48 rfl Try.ntmps48 rfl rfl ?_
  intro ctx hK
  refine PWc.seq ?_
  refine PWc.region ?_
  refine PWl.step (LR.assign rfl) rfl ?_
  refine PWl.nil ?_
  refine PWc.seq ?_
  refine PWc.region ?_
  refine PWl.step (LR.move rfl) rfl ?_
  refine PWl.step (LR.move rfl) rfl ?_
  replace h := iDet h
  obtain ⟨v3, hy4, h⟩ := h
  refine PWl.step (LR.rowN (ctx_Minus_ok a1 b2 v3 hy4) rfl Try.call54 rfl rfl rfl rfl) rfl ?_
  refine PWl.step (LR.lenRow Try.underlying24 rfl) rfl ?_
  refine PWl.step (LR.eql rfl rfl) rfl ?_
  refine PWl.step (LR.assign rfl) rfl ?_
  refine PWl.nil ?_
  refine PWc.ret ?_
  replace h : _ = r0 := h
  subst h
  exact ⟨.inr rfl, _, .cons (.tmp rfl rfl) <| .nil, rfl⟩

theorem ctx_Plain_ok (v1 : List TDot) (r0 : List TPart) (h : (ctx_Plain v1).wp (· = r0)) : PRow Try.prog 49 [.d (.sl (List.map TDot.e v1))] 101 2 (List.map TPart.e r0) := by
  refine PRow.intro (sl := [(0, _)]) Try.func49 rfl Try.ntmps49 rfl rfl ?_
  intro ctx hK
  refine PWc.seq ?_
  refine PWc.region ?_
  refine PWl.step (LR.assignNilRow 101 2 rfl) rfl ?_
  refine PWl.nil ?_
  refine PWc.seq ?_
  refine PWc.region ?_
  refine PWl.step (LR.assignNilRow 101 2 rfl) rfl ?_
  refine PWl.nil ?_
  refine PWc.seq ?_
  refine PWc.seq ?_
  refine PWc.region ?_
  refine PWl.step (LR.move rfl) rfl ?_
  replace h := iDet h
  obtain ⟨v2, hy3, h⟩ := h
  refine PWl.step (LR.rowN (vec_Norm_ok v1 v2 hy3) rfl Try.call94 rfl rfl rfl rfl) rfl ?_
  refine PWl.step (LR.lenRow Try.underlying68 rfl) rfl ?_
  refine PWl.step (LR.move rfl) rfl ?_
  refine PWl.nil ?_
  refine PWc.jn (iBind h) (fun (c4 : List TPart) (_ : Unit) => ⟨25, [(3, .row 3 (List.length c4))], [(3, .row 101 2 (List.map TPart.e c4))]⟩) (fun h => ?_) ?_
  · refine PWc.block ?_
    refine PWc.loopM (fun (⟨v15, c16⟩ : Int × List TPart) (_ : Unit) => ⟨25, [(3, .row 3 (List.length c16)), (7, .row 7 (List.length v2)), (8, .d (.v (.int .i64 ((List.length v2) : Int)))), (9, .d (.v (.int .i64 v15)))], [(3, .row 101 2 (List.map TPart.e c16)), (7, .row 38 2 (List.map TDot.e v2))]⟩) () h (Sub.of rfl (.cons rfl rfl <| .cons rfl rfl <| .cons rfl rfl <| .cons rfl rfl <| .nil) (.cons rfl rfl <| .cons rfl rfl <| .nil)) ?_
    rintro N ⟨v15, c16⟩ _ h
    refine PWc.seq ?_
    refine PWc.region ?_
    refine PWl.step (LR.lss rfl rfl) rfl ?_
    refine PWl.nil ?_
    refine PWc.seq ?_
    refine PWc.cond rfl (fun hc17 => ?_) (fun hc17 => ?_)
    · replace h := iT hc17 h
      refine PWc.skip ?_
      refine PWc.seq ?_
      refine PWc.block ?_
      refine PWc.seq ?_
      refine PWc.region ?_
      replace h := iIdx h
      obtain ⟨x18, hy19, h⟩ := h
      refine PWl.step (LR.idxRowT (L := v2) (y := x18) Try.underlying68 Try.sizeOf38 rfl rfl rfl hy19) rfl ?_
      refine PWl.step (LR.loadRpT (enc := TDot.e) (L := v2) (y := x18) Try.isAgg38 Try.sizeOf38 rfl rfl hy19.2) rfl ?_
      refine PWl.step (LR.allocZ (cs := [_, _]) Try.zeroValue38 rfl rfl rfl rfl) rfl ?_
      refine PWl.step (LR.storeB (ns := [_, _]) Try.sizeOf38 rfl rfl rfl rfl rfl rfl rfl) rfl ?_
      refine PWl.nil ?_
      refine PWc.region ?_
      refine PWl.step (LR.move rfl) rfl ?_
      refine PWl.step (LR.fieldRef Try.underlying38 rfl Try.sizeOf28 (by decide) rfl rfl) rfl ?_
      refine PWl.step (LR.loadRef Try.isAgg28 rfl rfl rfl) rfl ?_
      refine PWl.step (LR.fieldRef Try.underlying38 rfl Try.sizeOf36 (by decide) rfl rfl) rfl ?_
      refine PWl.step (LR.loadRef Try.isAgg36 rfl rfl rfl) rfl ?_
      refine PWl.step (LR.build (ns := [_, _]) build114 rfl rfl rfl) rfl ?_
      refine PWl.step (LR.buildSliceD [.tmp 18] elem34 rfl rfl (.cons rfl rfl rfl <| .nil) (by decide) (by decide)) rfl ?_
      refine PWl.step (LR.build (ns := [_, _]) build101 rfl rfl rfl) rfl ?_
      refine PWl.step (LR.buildSliceD [.tmp 20] elem24 rfl rfl (.cons rfl rfl rfl <| .nil) (by decide) (by decide)) rfl ?_
      replace h := iNeed h
      obtain ⟨hy20, h⟩ := h
      refine PWl.step (LR.appT (enc := TPart.e) (L := c16) (R := [(⟨x18.dev, [(⟨1, x18.n⟩ : TRun)]⟩ : TPart)]) [3, 13] elem24 Try.underlying24 rfl rfl rfl (Src.slT (enc := TPart.e) (R := [(⟨x18.dev, [(⟨1, x18.n⟩ : TRun)]⟩ : TPart)]) rfl (fun _ => rfl)) (fun _ => rfl) hy20 rfl rfl) rfl ?_
      refine PWl.step (LR.assign rfl) rfl ?_
      refine PWl.nil ?_
      refine PWc.region ?_
      refine PWl.step (LR.addW rfl rfl) rfl ?_
      refine PWl.step (LR.move rfl) rfl ?_
      refine PWl.nil ?_
      exact ⟨((IntKind.i64.wrap (v15 + 1)), (c16 ++ [(⟨x18.dev, [(⟨1, x18.n⟩ : TRun)]⟩ : TPart)])), (), h, Sub.of rfl (.cons rfl (by first | rfl | (simp; done) | (congr 1; first | (simp; done) | (simp; omega))) <| .cons rfl rfl <| .cons rfl rfl <| .cons rfl rfl <| .nil) (.cons rfl rfl <| .cons rfl rfl <| .nil)⟩
    · replace h := iF hc17 h
      refine PWc.exit ?_
      exact ⟨c16, (), h, Sub.of rfl (.cons rfl rfl <| .nil) (.cons rfl rfl <| .nil)⟩
  · rintro c4 _ h
    refine PWc.seq ?_
    refine PWc.region ?_
    refine PWl.step (LR.move rfl) rfl ?_
    refine PWl.step (LR.assign rfl) rfl ?_
    refine PWl.nil ?_
    refine PWc.ret ?_
    replace h : _ = r0 := h
    subst h
    exact ⟨.inr rfl, 2, rfl, .inr ⟨3, _, rfl, (by simp), rfl⟩⟩

theorem l09_CtxCloses_ok (l1 : List TDot) (from2 : Int) (r0 : Bool) (h : (l09_CtxCloses l1 from2).wp (· = r0)) : PFun Try.prog 7 [.d (.sl (List.map TDot.e l1)), .d (.v (.int .u8 from2))] (.d (.v (.bool r0))) := by
  refine PFun.intro (sl := [(0, _), (1, _)]) Try.func7 rfl Try.ntmps7 rfl rfl ?_
  intro ctx hK
  refine PWc.seq ?_
  refine PWc.region ?_
  refine PWl.step (LR.assign rfl) rfl ?_
  refine PWl.nil ?_
  refine PWc.seq ?_
  refine PWc.seq ?_
  refine PWc.region ?_
  refine PWl.step (LR.move rfl) rfl ?_
  refine PWl.step (LR.lenMap (enc := TDot.e) (L := l1) Try.underlying39 rfl) rfl ?_
  refine PWl.step (LR.gtr rfl rfl) rfl ?_
  refine PWl.nil ?_
  refine PWc.cond rfl (fun hc3 => ?_) (fun hc3 => ?_)
  · replace h := iT hc3 h
    refine PWc.seq ?_
    refine PWc.region ?_
    replace h := iDet h
    obtain ⟨v4, hy5, h⟩ := h
    refine PWl.step (LR.callN (l09_works_ok v4 hy5) rfl Try.call42 rfl rfl rfl rfl) rfl ?_
    refine PWl.step (LR.assign rfl) rfl ?_
    refine PWl.nil ?_
    refine PWc.ret ?_
    replace h : _ = r0 := h
    subst h
    exact ⟨.inr rfl, _, .cons (.tmp rfl rfl) <| .nil, rfl⟩
  · replace h := iF hc3 h
    refine PWc.skip ?_
    refine PWc.seq ?_
    refine PWc.region ?_
    refine PWl.step (LR.assignNilRow 101 2 rfl) rfl ?_
    refine PWl.step (LR.assignNilRow 101 2 rfl) rfl ?_
    refine PWl.nil ?_
    refine PWc.seq ?_
    refine PWc.seq ?_
    refine PWc.region ?_
    refine PWl.step (LR.assign rfl) rfl ?_
    refine PWl.nil ?_
    refine PWc.jn (iBind h) (fun (⟨a6, b7⟩ : List TPart × List TPart) (_ : Unit) => ⟨102, [(0, .d (.sl (List.map TDot.e l1))), (5, .d (.sl (List.map TPart.e a6))), (6, .d (.sl (List.map TPart.e b7)))], []⟩) (fun h => ?_) ?_
    · refine PWc.block ?_
      refine PWc.loopM (fun (⟨a31, b32, i33⟩ : List TPart × List TPart × Int) (_ : Unit) => ⟨102, [(0, .d (.sl (List.map TDot.e l1))), (1, .d (.v (.int .u8 from2))), (5, .d (.sl (List.map TPart.e a31))), (6, .d (.sl (List.map TPart.e b32))), (7, .d (.v (.int .i64 i33)))], []⟩) () h (Sub.trans (Sub.frz [5] hK rfl (by first | (simp; done) | (simp; omega) | omega) (AllRow.get (.cons rfl <| .nil))) <| Sub.trans (Sub.frz [6] hK rfl (by first | (simp; done) | (simp; omega) | omega) (AllRow.get (.cons rfl <| .nil))) <| Sub.of rfl (.cons rfl rfl <| .cons rfl rfl <| .cons rfl rfl <| .cons rfl rfl <| .cons rfl rfl <| .nil) (.nil)) ?_
      rintro N ⟨a31, b32, i33⟩ _ h
      refine PWc.seq ?_
      refine PWc.seq ?_
      refine PWc.region ?_
      refine PWl.step (LR.move rfl) rfl ?_
      refine PWl.step (LR.move rfl) rfl ?_
      refine PWl.step (LR.lenMap (enc := TDot.e) (L := l1) Try.underlying39 rfl) rfl ?_
      refine PWl.step (LR.lss rfl rfl) rfl ?_
      refine PWl.nil ?_
      refine PWc.cond rfl (fun hc34 => ?_) (fun hc34 => ?_)
      · replace h := iT hc34 h
        refine PWc.skip ?_
        refine PWc.seq ?_
        refine PWc.block ?_
        refine PWc.seq ?_
        refine PWc.region ?_
        refine PWl.step (LR.move rfl) rfl ?_
        refine PWl.step (LR.move rfl) rfl ?_
        refine PWl.step (LR.move rfl) rfl ?_
        replace h := iIdx h
        obtain ⟨x35, hy36, h⟩ := h
        refine PWl.step (LR.idxT (enc := TDot.e) (L := l1) (y := x35) Try.underlying39 Try.sizeOf38 rfl rfl hy36 (fun _ => rfl)) rfl ?_
        refine PWl.step (LR.loadEpAgg (ys := [_, _]) Try.isAgg38 Try.sizeOf38 rfl rfl rfl) rfl ?_
        refine PWl.step (LR.buildSliceD [.tmp 25] elem39 rfl rfl (.cons rfl rfl rfl <| .nil) (by decide) (by decide)) rfl ?_
        replace h := iDet h
        obtain ⟨v37, hy38, h⟩ := h
        refine PWl.step (LR.rowN (ctx_Add_ok a31 ([x35]) v37 hy38) rfl Try.call43 rfl rfl rfl rfl) rfl ?_
        refine PWl.step (LR.assign rfl) rfl ?_
        refine PWl.nil ?_
        refine PWc.region ?_
        refine PWl.step (LR.move rfl) rfl ?_
        refine PWl.step (LR.move rfl) rfl ?_
        refine PWl.step (LR.move rfl) rfl ?_
        refine PWl.step (LR.lenMap (enc := TDot.e) (L := l1) Try.underlying39 rfl) rfl ?_
        refine PWl.re (tl := [(0, _), (1, _), (5, _), (6, _), (7, _), (28, _), (29, _), (31, _)]) (to := [(27, _)]) rfl (.cons rfl rfl <| .cons rfl rfl <| .cons rfl rfl <| .cons rfl rfl <| .cons rfl rfl <| .cons rfl rfl <| .cons rfl rfl <| .cons rfl rfl <| .nil) (.cons rfl rfl <| .nil) ?_
        refine PWl.step (LR.subW rfl rfl) rfl ?_
        refine PWl.step (LR.move rfl) rfl ?_
        refine PWl.step (LR.subW rfl rfl) rfl ?_
        refine PWl.step (LR.move rfl) rfl ?_
        refine PWl.step (LR.convInt Try.underlying3 (by rw [Try.underlying5]; rfl) rfl rfl) rfl ?_
        refine PWl.step (LR.addW rfl rfl) rfl ?_
        refine PWl.step (LR.move rfl) rfl ?_
        refine PWl.step (LR.lenMap (enc := TDot.e) (L := l1) Try.underlying39 rfl) rfl ?_
        replace h := iNeed h
        obtain ⟨hy39, h⟩ := h
        refine PWl.step (LR.rem rfl rfl hy39) rfl ?_
        replace h := iIdx h
        obtain ⟨x40, hy41, h⟩ := h
        refine PWl.step (LR.idxT (enc := TDot.e) (L := l1) (y := x40) Try.underlying39 Try.sizeOf38 rfl rfl hy41 (fun _ => rfl)) rfl ?_
        refine PWl.step (LR.loadEpAgg (ys := [_, _]) Try.isAgg38 Try.sizeOf38 rfl rfl rfl) rfl ?_
        refine PWl.step (LR.buildSliceD [.tmp 42] elem39 rfl rfl (.cons rfl rfl rfl <| .nil) (by decide) (by decide)) rfl ?_
        replace h := iDet h
        obtain ⟨v42, hy43, h⟩ := h
        refine PWl.step (LR.rowN (ctx_Add_ok b32 ([x40]) v42 hy43) rfl Try.call43 rfl rfl rfl rfl) rfl ?_
        refine PWl.re (tl := [(0, _), (1, _), (5, _), (6, _), (7, _), (44, _)]) (to := [(27, _), (44, _)]) rfl (.cons rfl rfl <| .cons rfl rfl <| .cons rfl rfl <| .cons rfl rfl <| .cons rfl rfl <| .cons rfl rfl <| .nil) (.cons rfl rfl <| .cons rfl rfl <| .nil) ?_
        refine PWl.step (LR.assign rfl) rfl ?_
        refine PWl.nil ?_
        refine PWc.region ?_
        refine PWl.step (LR.move rfl) rfl ?_
        refine PWl.step (LR.addW rfl rfl) rfl ?_
        refine PWl.step (LR.assign rfl) rfl ?_
        refine PWl.nil ?_
        exact ⟨(v37, v42, (IntKind.i64.wrap (i33 + 1))), (), h, Sub.trans (Sub.frz [5] hK rfl (by simp) (AllRow.get (.cons rfl <| .nil))) <| Sub.trans (Sub.frz [6, 44] hK rfl (by simp) (AllRow.get (.cons rfl <| .cons rfl <| .nil))) <| Sub.of rfl (.cons rfl rfl <| .cons rfl rfl <| .cons rfl rfl <| .cons rfl rfl <| .cons rfl rfl <| .nil) (.nil)⟩
      · replace h := iF hc34 h
        refine PWc.exit ?_
        exact ⟨(a31, b32), (), h, Sub.of rfl (.cons rfl rfl <| .cons rfl rfl <| .cons rfl rfl <| .nil) (.nil)⟩
    · rintro ⟨a6, b7⟩ _ h
      refine PWc.seq ?_
      refine PWc.region ?_
      refine PWl.step (LR.move rfl) rfl ?_
      replace h := iDet h
      obtain ⟨v44, hy45, h⟩ := h
      refine PWl.step (LR.rowN (ctx_Base_ok a6 v44 hy45) rfl Try.call44 rfl rfl rfl rfl) rfl ?_
      refine PWl.step (LR.assign rfl) rfl ?_
      refine PWl.nil ?_
      refine PWc.seq ?_
      refine PWc.seq ?_
      refine PWc.region ?_
      refine PWl.step (LR.assign rfl) rfl ?_
      refine PWl.nil ?_
      refine PWc.jnX (iBind h) (fun (_ : Unit) (_ : Unit) => ⟨102, [(0, .d (.sl (List.map TDot.e l1))), (5, .d (.sl (List.map TPart.e a6))), (6, .d (.sl (List.map TPart.e b7))), (8, .row 46 (List.length v44))], [(46, .row 38 2 (List.map TDot.e v44))]⟩) (fun h => ?_) ?_
      · refine PWc.block ?_
        refine PWc.loopM (fun (i75 : Int) (_ : Unit) => ⟨102, [(0, .d (.sl (List.map TDot.e l1))), (5, .d (.sl (List.map TPart.e a6))), (6, .d (.sl (List.map TPart.e b7))), (8, .row 46 (List.length v44)), (9, .d (.v (.int .i64 i75)))], [(46, .row 38 2 (List.map TDot.e v44))]⟩) () h (Sub.of rfl (.cons rfl rfl <| .cons rfl rfl <| .cons rfl rfl <| .cons rfl rfl <| .cons rfl rfl <| .nil) (.cons rfl rfl <| .nil)) ?_
        rintro N i75 _ h
        refine PWc.seq ?_
        refine PWc.seq ?_
        refine PWc.region ?_
        refine PWl.step (LR.move rfl) rfl ?_
        refine PWl.step (LR.move rfl) rfl ?_
        refine PWl.step (LR.lenRow Try.underlying68 rfl) rfl ?_
        refine PWl.step (LR.lss rfl rfl) rfl ?_
        refine PWl.nil ?_
        refine PWc.cond rfl (fun hc76 => ?_) (fun hc76 => ?_)
        · replace h := iT hc76 h
          refine PWc.skip ?_
          refine PWc.seq ?_
          refine PWc.block ?_
          refine PWc.seq ?_
          refine PWc.re (tl := [(0, _), (5, _), (6, _), (8, _), (9, _)]) (to := [(46, _)]) rfl (.cons rfl rfl <| .cons rfl rfl <| .cons rfl rfl <| .cons rfl rfl <| .cons rfl rfl <| .nil) (.cons rfl rfl <| .nil) ?_
          refine PWc.regionE [⟨[53], [], [], [], [], [46], [], []⟩, ⟨[54], [], [], [], [], [], [], []⟩, ⟨[55], [], [], [], [], [46], [], []⟩, ⟨[56], [], [], [], [], [46], [], []⟩, ⟨[57], [], [46], [], [], [], [], []⟩, ⟨[58], [], [], [], [], [46], [], []⟩, ⟨[59], [], [], [], [], [], [], []⟩, ⟨[60], [], [], [], [], [46], [], []⟩, ⟨[61], [], [], [], [], [46], [], []⟩, ⟨[62], [], [46], [], [], [], [], []⟩, ⟨[63], [], [], [], [], [], [], []⟩, ⟨[64], [], [], [], [], [], [], []⟩, ⟨[10], [10], [], [10], [], [10], [], []⟩, ⟨[], [10], [10], [], [], [], [], []⟩] (by kernel_rfl) (by kernel_rfl) rfl ?_
          refine PQe.stepP (fun _ he ho => LR.move (he rfl rfl)) (.inl rfl) rfl ?_
          refine PQe.stepP (fun _ he ho => LR.move (he rfl rfl)) (.inl rfl) rfl ?_
          replace h := iIdx h
          obtain ⟨x77, hy78, h⟩ := h
          refine PQe.stepP (fun _ he ho => LR.idxRowT (L := v44) (y := x77) Try.underlying68 Try.sizeOf38 (he rfl rfl) rfl (he rfl rfl) hy78) (.inl rfl) rfl ?_
          refine PQe.stepP (fun _ he ho => LR.fieldRp Try.underlying38 rfl Try.sizeOf28 (by decide) rfl (he rfl rfl)) (.inl rfl) rfl ?_
          refine PQe.stepP (fun _ he ho => LR.loadRpF (enc := TDot.e) (L := v44) (y := x77) Try.isAgg28 (he rfl rfl) (ho rfl rfl) hy78.2 rfl) (.inl rfl) rfl ?_
          refine PQe.stepP (fun _ he ho => LR.move (he rfl rfl)) (.inl rfl) rfl ?_
          refine PQe.stepP (fun _ he ho => LR.move (he rfl rfl)) (.inl rfl) rfl ?_
          replace h := iIdx h
          obtain ⟨x79, hy80, h⟩ := h
          refine PQe.stepP (fun _ he ho => LR.idxRowT (L := v44) (y := x79) Try.underlying68 Try.sizeOf38 (he rfl rfl) rfl (he rfl rfl) hy80) (.inl rfl) rfl ?_
          refine PQe.stepP (fun _ he ho => LR.fieldRp Try.underlying38 rfl Try.sizeOf36 (by decide) rfl (he rfl rfl)) (.inl rfl) rfl ?_
          refine PQe.stepP (fun _ he ho => LR.loadRpF (enc := TDot.e) (L := v44) (y := x79) Try.isAgg36 (he rfl rfl) (ho rfl rfl) hy80.2 rfl) (.inl rfl) rfl ?_
          refine PQe.stepP (fun _ he ho => LR.addW (he rfl rfl) (he rfl rfl)) (.inl rfl) rfl ?_
          refine PQe.stepP (fun _ he ho => LR.build (ns := [_, _]) build38 rfl (evpE he rfl rfl) rfl) (.inl rfl) rfl ?_
          refine PQe.stepN (fun _ he ho hf => LR.allocZ (cs := [_, _]) Try.zeroValue38 rfl rfl rfl hf) rfl (.inl rfl) rfl ?_
          refine PQe.stepS (fun _ he ho => LR.storeB (ns := [_, _]) Try.sizeOf38 (he rfl rfl) (he rfl rfl) rfl rfl (ho rfl rfl) rfl rfl) (.inl rfl) rfl ?_
          refine PQe.nil ?_
          refine PWc.seq ?_
          refine PWc.jn (iBind h) (fun (v81 : Bool) (_ : Unit) => ⟨102, [(0, .d (.sl (List.map TDot.e l1))), (5, .d (.sl (List.map TPart.e a6))), (6, .d (.sl (List.map TPart.e b7))), (8, .row 46 (List.length v44)), (9, .d (.v (.int .i64 i75))), (76, .d (.v (.bool v81)))], [(46, .row 38 2 (List.map TDot.e v44))]⟩) (fun h => ?_) ?_
          · refine PWc.region ?_
            refine PWl.step (LR.move rfl) rfl ?_
            refine PWl.step (LR.loadRefAgg (ps := [_, _]) Try.isAgg38 Try.sizeOf38 rfl rfl rfl rfl) rfl ?_
            replace h := iDet h
            obtain ⟨v82, hy83, h⟩ := h
            refine PWl.step (LR.callN (ctx_Has_ok a6 ((⟨x77.dev, (IntKind.u64.wrap (x79.n + 1))⟩ : TDot)) v82 hy83) rfl Try.call45 rfl rfl rfl rfl) rfl ?_
            refine PWl.re (tl := [(0, _), (5, _), (6, _), (8, _), (9, _), (67, _)]) (to := [(46, _)]) rfl (.cons rfl rfl <| .cons rfl rfl <| .cons rfl rfl <| .cons rfl rfl <| .cons rfl rfl <| .cons rfl rfl <| .nil) (.cons rfl rfl <| .nil) ?_
            refine PWl.step (LR.move rfl) rfl ?_
            refine PWl.split (d := 68) rfl (fun hg84 => ?_) (fun hg84 => ?_)
            · replace h := iT hg84 h
              refine PWl.guardF rfl rfl rfl (by decide) ?_
              refine PWl.guardF rfl rfl rfl (by decide) ?_
              refine PWl.guardF rfl rfl rfl (by decide) ?_
              refine PWl.guardF rfl rfl rfl (by decide) ?_
              refine PWl.guardF rfl rfl rfl (by decide) ?_
              refine PWl.guardF rfl rfl rfl (by decide) ?_
              refine PWl.guardF rfl rfl rfl (by decide) ?_
              refine PWl.step (LR.pickT rfl rfl) rfl ?_
              refine PWl.nil ?_
              exact ⟨true, (), h, Sub.of rfl (.cons rfl rfl <| .cons rfl rfl <| .cons rfl rfl <| .cons rfl rfl <| .cons rfl rfl <| .cons rfl rfl <| .nil) (.cons rfl rfl <| .nil)⟩
            · replace h := iF hg84 h
              refine PWl.guardT (LR.move rfl) rfl rfl rfl ?_
              refine PWl.guardT (LR.move rfl) rfl rfl rfl ?_
              refine PWl.guardT (LR.move rfl) rfl rfl rfl ?_
              replace h := iIdx h
              obtain ⟨x85, hy86, h⟩ := h
              refine PWl.guardT (LR.idxRowT (L := v44) (y := x85) Try.underlying68 Try.sizeOf38 rfl rfl rfl hy86) rfl rfl rfl ?_
              refine PWl.guardT (LR.loadRpT (enc := TDot.e) (L := v44) (y := x85) Try.isAgg38 Try.sizeOf38 rfl rfl hy86.2) rfl rfl rfl ?_
              replace h := iDet h
              obtain ⟨v87, hy88, h⟩ := h
              refine PWl.guardT (LR.callN (ctx_Has_ok a6 x85 v87 hy88) rfl Try.call45 rfl rfl rfl rfl) rfl rfl rfl ?_
              refine PWl.guardT (LR.not rfl) rfl rfl rfl ?_
              refine PWl.step (LR.pickF rfl rfl) rfl ?_
              refine PWl.nil ?_
              exact ⟨(!v87), (), h, Sub.of rfl (.cons rfl rfl <| .cons rfl rfl <| .cons rfl rfl <| .cons rfl rfl <| .cons rfl rfl <| .cons rfl rfl <| .nil) (.cons rfl rfl <| .nil)⟩
          · rintro v81 _ h
            refine PWc.cond rfl (fun hc89 => ?_) (fun hc89 => ?_)
            · replace h := iT hc89 h
              refine PWc.seq ?_
              refine PWc.region ?_
              refine PWl.step (LR.assign rfl) rfl ?_
              refine PWl.nil ?_
              refine PWc.ret ?_
              replace h : _ = r0 := h
              subst h
              exact ⟨.inr rfl, _, .cons (.tmp rfl rfl) <| .nil, rfl⟩
            · replace h := iF hc89 h
              refine PWc.skip ?_
              refine PWc.region ?_
              refine PWl.step (LR.move rfl) rfl ?_
              refine PWl.step (LR.addW rfl rfl) rfl ?_
              refine PWl.step (LR.assign rfl) rfl ?_
              refine PWl.nil ?_
              exact ⟨(IntKind.i64.wrap (i75 + 1)), (), h, Sub.of rfl (.cons rfl rfl <| .cons rfl rfl <| .cons rfl rfl <| .cons rfl rfl <| .cons rfl rfl <| .nil) (.cons rfl rfl <| .nil)⟩
        · replace h := iF hc76 h
          refine PWc.exit ?_
          exact ⟨(), (), h, Sub.of rfl (.cons rfl rfl <| .cons rfl rfl <| .cons rfl rfl <| .cons rfl rfl <| .nil) (.cons rfl rfl <| .nil)⟩
      · rintro _ _ h
        refine PWc.seq ?_
        refine PWc.jn (iBind h) (fun (v90 : Bool) (_ : Unit) => ⟨102, [(4, .d (.v (.bool v90)))], []⟩) (fun h => ?_) ?_
        · refine PWc.region ?_
          refine PWl.step (LR.move rfl) rfl ?_
          refine PWl.step (LR.move rfl) rfl ?_
          replace h := iDet h
          obtain ⟨v91, hy92, h⟩ := h
          refine PWl.step (LR.callN (r09_Eq_ok a6 b7 v91 hy92) rfl Try.call46 rfl rfl rfl rfl) rfl ?_
          refine PWl.step (LR.move rfl) rfl ?_
          refine PWl.split (d := 80) rfl (fun hg93 => ?_) (fun hg93 => ?_)
          · replace h := iT hg93 h
            refine PWl.guardT (LR.move rfl) rfl rfl rfl ?_
            replace h := iDet h
            obtain ⟨v94, hy95, h⟩ := h
            refine PWl.guardT (LR.rowN (ctx_Of_ok l1 v94 hy95) rfl Try.call47 rfl rfl rfl rfl) rfl rfl rfl ?_
            refine PWl.guardT (LR.move rfl) rfl rfl rfl ?_
            replace h := iDet h
            obtain ⟨v96, hy97, h⟩ := h
            refine PWl.frz [82] hK (.cons rfl <| .nil) rfl (by simp) ?_
            refine PWl.guardT (LR.callN (r09_Eq_ok v94 a6 v96 hy97) rfl Try.call46 rfl rfl rfl rfl) rfl rfl rfl ?_
            refine PWl.step (LR.pickT rfl rfl) rfl ?_
            refine PWl.step (LR.move rfl) rfl ?_
            refine PWl.split (d := 86) rfl (fun hg98 => ?_) (fun hg98 => ?_)
            · replace h := iT hg98 h
              refine PWl.guardT (LR.move rfl) rfl rfl rfl ?_
              replace h := iDet h
              obtain ⟨v99, hy100, h⟩ := h
              refine PWl.frz [8, 87] hK (.cons rfl <| .cons rfl <| .nil) rfl (by simp) ?_
              refine PWl.guardT (LR.rowN (ctx_Plain_ok v44 v99 hy100) rfl Try.call49 rfl rfl rfl rfl) rfl rfl rfl ?_
              refine PWl.guardT (LR.move rfl) rfl rfl rfl ?_
              replace h := iDet h
              obtain ⟨v101, hy102, h⟩ := h
              refine PWl.frz [88] hK (.cons rfl <| .nil) rfl (by simp) ?_
              refine PWl.guardT (LR.callN (ctx_Within_ok v99 a6 v101 hy102) rfl Try.call48 rfl rfl rfl rfl) rfl rfl rfl ?_
              refine PWl.step (LR.pickT rfl rfl) rfl ?_
              refine PWl.re (tl := [(8, _), (91, _)]) (to := []) rfl (.cons rfl rfl <| .cons rfl rfl <| .nil) (.nil) ?_
              refine PWl.step (LR.move rfl) rfl ?_
              refine PWl.split (d := 92) rfl (fun hg103 => ?_) (fun hg103 => ?_)
              · replace h := iT hg103 h
                refine PWl.guardT (LR.move rfl) rfl rfl rfl ?_
                replace h := iDet h
                obtain ⟨v104, hy105, h⟩ := h
                refine PWl.guardT (LR.rowN (ctx_Plain_ok v44 v104 hy105) rfl Try.call49 rfl rfl rfl rfl) rfl rfl rfl ?_
                replace h := iDet h
                obtain ⟨v106, hy107, h⟩ := h
                refine PWl.frz [94] hK (.cons rfl <| .nil) rfl (by simp) ?_
                refine PWl.guardT (LR.rowN (ctx_Base_ok v104 v106 hy107) rfl Try.call44 rfl rfl rfl rfl) rfl rfl rfl ?_
                refine PWl.guardT (LR.move rfl) rfl rfl rfl ?_
                replace h := iDet h
                obtain ⟨v108, hy109, h⟩ := h
                refine PWl.frz [95] hK (.cons rfl <| .nil) rfl (by simp) ?_
                refine PWl.guardT (LR.callN (r07_Same_ok v106 v44 v108 hy109) rfl Try.call50 rfl rfl rfl rfl) rfl rfl rfl ?_
                refine PWl.step (LR.pickT rfl rfl) rfl ?_
                refine PWl.step (LR.move rfl) rfl ?_
                refine PWl.split (d := 99) rfl (fun hg110 => ?_) (fun hg110 => ?_)
                · replace h := iT hg110 h
                  replace h := iDet h
                  obtain ⟨v111, hy112, h⟩ := h
                  refine PWl.guardT (LR.callN (l09_works_ok v111 hy112) rfl Try.call42 rfl rfl rfl rfl) rfl rfl rfl ?_
                  refine PWl.step (LR.pickT rfl rfl) rfl ?_
                  refine PWl.step (LR.assign rfl) rfl ?_
                  refine PWl.nil ?_
                  exact ⟨v111, (), h, Sub.of rfl (.cons rfl rfl <| .nil) (.nil)⟩
                · replace h := iF hg110 h
                  refine PWl.guardF rfl rfl rfl (by decide) ?_
                  refine PWl.step (LR.pickF rfl rfl) rfl ?_
                  refine PWl.step (LR.assign rfl) rfl ?_
                  refine PWl.nil ?_
                  exact ⟨false, (), h, Sub.of rfl (.cons rfl rfl <| .nil) (.nil)⟩
              · replace h := iF hg103 h
                refine PWl.guardF rfl rfl rfl (by decide) ?_
                refine PWl.guardF rfl rfl rfl (by decide) ?_
                refine PWl.guardF rfl rfl rfl (by decide) ?_
                refine PWl.guardF rfl rfl rfl (by decide) ?_
                refine PWl.guardF rfl rfl rfl (by decide) ?_
                refine PWl.step (LR.pickF rfl rfl) rfl ?_
                refine PWl.step (LR.move rfl) rfl ?_
                refine PWl.guardF rfl rfl rfl (by decide) ?_
                refine PWl.step (LR.pickF rfl rfl) rfl ?_
                refine PWl.step (LR.assign rfl) rfl ?_
                refine PWl.nil ?_
                exact ⟨false, (), h, Sub.of rfl (.cons rfl rfl <| .nil) (.nil)⟩
            · replace h := iF hg98 h
              refine PWl.guardF rfl rfl rfl (by decide) ?_
              refine PWl.guardF rfl rfl rfl (by decide) ?_
              refine PWl.guardF rfl rfl rfl (by decide) ?_
              refine PWl.guardF rfl rfl rfl (by decide) ?_
              refine PWl.step (LR.pickF rfl rfl) rfl ?_
              refine PWl.re (tl := [(8, _), (91, _)]) (to := [(46, _)]) rfl (.cons rfl rfl <| .cons rfl rfl <| .nil) (.cons rfl rfl <| .nil) ?_
              refine PWl.step (LR.move rfl) rfl ?_
              refine PWl.guardF rfl rfl rfl (by decide) ?_
              refine PWl.guardF rfl rfl rfl (by decide) ?_
              refine PWl.guardF rfl rfl rfl (by decide) ?_
              refine PWl.guardF rfl rfl rfl (by decide) ?_
              refine PWl.guardF rfl rfl rfl (by decide) ?_
              refine PWl.step (LR.pickF rfl rfl) rfl ?_
              refine PWl.step (LR.move rfl) rfl ?_
              refine PWl.guardF rfl rfl rfl (by decide) ?_
              refine PWl.step (LR.pickF rfl rfl) rfl ?_
              refine PWl.step (LR.assign rfl) rfl ?_
              refine PWl.nil ?_
              exact ⟨false, (), h, Sub.of rfl (.cons rfl rfl <| .nil) (.nil)⟩
          · replace h := iF hg93 h
            refine PWl.guardF rfl rfl rfl (by decide) ?_
            refine PWl.guardF rfl rfl rfl (by decide) ?_
            refine PWl.guardF rfl rfl rfl (by decide) ?_
            refine PWl.guardF rfl rfl rfl (by decide) ?_
            refine PWl.step (LR.pickF rfl rfl) rfl ?_
            refine PWl.step (LR.move rfl) rfl ?_
            refine PWl.guardF rfl rfl rfl (by decide) ?_
            refine PWl.guardF rfl rfl rfl (by decide) ?_
            refine PWl.guardF rfl rfl rfl (by decide) ?_
            refine PWl.guardF rfl rfl rfl (by decide) ?_
            refine PWl.step (LR.pickF rfl rfl) rfl ?_
            refine PWl.step (LR.move rfl) rfl ?_
            refine PWl.re (tl := [(8, _), (92, _)]) (to := [(46, _)]) rfl (.cons rfl rfl <| .cons rfl rfl <| .nil) (.cons rfl rfl <| .nil) ?_
            refine PWl.guardF rfl rfl rfl (by decide) ?_
            refine PWl.guardF rfl rfl rfl (by decide) ?_
            refine PWl.guardF rfl rfl rfl (by decide) ?_
            refine PWl.guardF rfl rfl rfl (by decide) ?_
            refine PWl.guardF rfl rfl rfl (by decide) ?_
            refine PWl.step (LR.pickF rfl rfl) rfl ?_
            refine PWl.step (LR.move rfl) rfl ?_
            refine PWl.guardF rfl rfl rfl (by decide) ?_
            refine PWl.step (LR.pickF rfl rfl) rfl ?_
            refine PWl.step (LR.assign rfl) rfl ?_
            refine PWl.nil ?_
            exact ⟨false, (), h, Sub.of rfl (.cons rfl rfl <| .nil) (.nil)⟩
        · rintro v90 _ h
          refine PWc.ret ?_
          replace h : _ = r0 := h
          subst h
          exact ⟨.inr rfl, _, .cons (.tmp rfl rfl) <| .nil, rfl⟩

theorem ctx_each_runs_Meet_ok (a1 : List TPart) (b2 : List TPart) (r0 : List TPart) (h : (ctx_each_runs_Meet a1 b2).wp (· = r0)) : PRow Try.prog 100 [.d (.sl (List.map TPart.e a1)), .d (.sl (List.map TPart.e b2)), .d (.v (.func (.func 101) #[] #[]))] 101 2 (List.map TPart.e r0) := by
  refine PRow.intro (sl := [(0, _), (1, _), (2, _)]) Try.func100 rfl Try.ntmps100 rfl rfl ?_
  intro ctx hK
  refine PWc.seq ?_
  refine PWc.region ?_
  refine PWl.step (LR.assignNilRow 101 2 rfl) rfl ?_
  refine PWl.nil ?_
  refine PWc.seq ?_
  refine PWc.region ?_
  refine PWl.step (LR.move rfl) rfl ?_
  replace h := iDet h
  obtain ⟨v3, hy4, h⟩ := h
  refine PWl.mapN (ctx_told_ok a1 v3 hy4) rfl Try.call130 rfl rfl rfl rfl rfl (fun bs5 ck5 _ => ?_)
  refine PWl.step (LR.move rfl) rfl ?_
  replace h := iDet h
  obtain ⟨v6, hy7, h⟩ := h
  refine PWl.mapN (ctx_told_ok b2 v6 hy7) rfl Try.call130 rfl rfl rfl rfl rfl (fun bs8 ck8 _ => ?_)
  refine PWl.step (LR.assign rfl) rfl ?_
  refine PWl.step (LR.assign rfl) rfl ?_
  refine PWl.nil ?_
  refine PWc.seq ?_
  refine PWc.seq ?_
  refine PWc.region ?_
  refine PWl.step (LR.move rfl) rfl ?_
  refine PWl.step (LR.rangeO Try.underlying126 rfl rfl rfl) rfl ?_
  refine PWl.nil ?_
  refine PWc.jn (iBind h) (fun (v9 : List (Int × List TRun)) (_ : Unit) => ⟨32, [(7, .mp 12)], [(12, .map [.u16] false (encM kI (eL TRun.e) v9) bs5 ck5)]⟩) (fun h => ?_) ?_
  · refine PWc.block ?_
    refine PWc.loopM (fun (⟨seen32, v33⟩ : List Nat × (List (Int × List TRun))) (_ : Unit) => ⟨32, [(2, .d (.v (.func (.func 101) #[] #[]))), (7, .mp 12), (8, .mp 14), (16, .ref 16 0)], [(12, .map [.u16] false (encM kI (eL TRun.e) v33) bs5 ck5), (14, .map [.u16] false (encM kI (eL TRun.e) v6) bs8 ck8), (16, .iterO 12 bs5 ck5 seen32)]⟩) () h (Sub.of rfl (.cons rfl rfl <| .cons rfl rfl <| .cons rfl rfl <| .cons rfl rfl <| .nil) (.cons rfl rfl <| .cons rfl rfl <| .cons rfl rfl <| .nil)) ?_
    rintro N ⟨seen32, v33⟩ _ h
    refine PWc.seq ?_
    refine PWc.region ?_
    replace h := iNeed h
    obtain ⟨hy43, h⟩ := h
    replace h := iNxt h
    refine PWl.nextO rfl rfl rfl (nxtD hy43) rfl (fun hy35 => ?_) (fun j34 hy36 hy37 => ?_)
    · replace h := h.1 (nxtA hy35)
      refine PWl.step (LR.extract rfl rfl) rfl ?_
      refine PWl.nil ?_
      refine PWc.seq ?_
      refine PWc.condF rfl ?_
      refine PWc.exit ?_
      exact ⟨v33, (), h, Sub.of rfl (.cons rfl rfl <| .nil) (.cons rfl rfl <| .nil)⟩
    · replace h := h.2 j34 (nxtB hy36) hy37
      refine PWl.step (LR.extract rfl rfl) rfl ?_
      refine PWl.nil ?_
      refine PWc.seq ?_
      refine PWc.condT rfl ?_
      refine PWc.skip ?_
      refine PWc.block ?_
      refine PWc.seq ?_
      refine PWc.region ?_
      replace h := iIdx h
      obtain ⟨kv38, hy39, h⟩ := h
      refine PWl.step (LR.entryO rfl rfl rfl (entGet hy39) rfl rfl) rfl ?_
      refine PWl.step (LR.extract rfl rfl) rfl ?_
      refine PWl.step (LR.extract rfl rfl) rfl ?_
      refine PWl.step (LR.assign rfl) rfl ?_
      refine PWl.step (LR.assign rfl) rfl ?_
      refine PWl.nil ?_
      refine PWc.region ?_
      refine PWl.step (LR.move rfl) rfl ?_
      refine PWl.step (LR.move rfl) rfl ?_
      refine PWl.step (LR.move rfl) rfl ?_
      refine PWl.step (LR.move rfl) rfl ?_
      refine PWl.step (LR.move rfl) rfl ?_
      refine PWl.step (LR.move rfl) rfl ?_
      refine PWl.step (LR.getO (eV := (eL TRun.e)) (zv := ([] : List TRun)) (q := kv38.1) (m := v6) kI_inj Try.underlying126 key126 Try.zeroValue34 (zRd1 (.slice none 0 0) rfl) rfl rfl rfl rfl rfl rfl) rfl ?_
      replace h := iDet h
      obtain ⟨v40, hy41, h⟩ := h
      refine PWl.step (LR.rowN (runs_Meet_ok kv38.2 (AL.getZ v6 kv38.1 ([] : List TRun)) v40 hy41) rfl Try.call101 rfl rfl rfl rfl) rfl ?_
      replace h := iNeed h
      obtain ⟨hy42, h⟩ := h
      refine PWl.frz [29] hK (.cons rfl <| .nil) rfl (by simp) ?_
      refine PWl.step (LR.setIn (eV := (eL TRun.e)) (q := kv38.1) (v := v40) (m := v33) kI_inj Try.underlying126 key126 rfl rfl rfl rfl rfl rfl rfl (fun _ => rfl) hy42) rfl ?_
      refine PWl.nil ?_
      exact ⟨((seen32 ++ [j34]), (AL.set v33 kv38.1 v40)), (), h, Sub.of rfl (.cons rfl rfl <| .cons rfl rfl <| .cons rfl rfl <| .cons rfl rfl <| .nil) (.cons rfl rfl <| .cons rfl rfl <| .cons rfl rfl <| .nil)⟩
  · rintro v9 _ h
    refine PWc.seq ?_
    refine PWc.region ?_
    refine PWl.step (LR.move rfl) rfl ?_
    replace h := iDet h
    obtain ⟨v44, hy45, h⟩ := h
    refine PWl.frzM [7, 30] hK (.cons rfl <| .cons rfl <| .nil) rfl ?_
    refine PWl.step (LR.rowN (ctx_order_ok v9 v44 hy45) rfl Try.call97 rfl rfl rfl rfl) rfl ?_
    refine PWl.step (LR.assign rfl) rfl ?_
    refine PWl.nil ?_
    refine PWc.ret ?_
    replace h : _ = r0 := h
    subst h
    exact ⟨.inr rfl, 6, rfl, .inr ⟨31, _, rfl, (by simp), rfl⟩⟩

theorem ctx_Meet_ok (a1 : List TPart) (b2 : List TPart) (r0 : List TPart) (h : (ctx_Meet a1 b2).wp (· = r0)) : PRow Try.prog 53 [.d (.sl (List.map TPart.e a1)), .d (.sl (List.map TPart.e b2))] 101 2 (List.map TPart.e r0) := by
  refine PRow.intro (sl := [(0, _), (1, _)]) Try.func53 rfl Try.ntmps53 rfl rfl ?_
  intro ctx hK
  refine PWc.seq ?_
  refine PWc.region ?_
  refine PWl.step (LR.assignNilRow 101 2 rfl) rfl ?_
  refine PWl.nil ?_
  refine PWc.seq ?_
  refine PWc.region ?_
  refine PWl.step (LR.move rfl) rfl ?_
  refine PWl.step (LR.move rfl) rfl ?_
  replace h := iDet h
  obtain ⟨v3, hy4, h⟩ := h
  refine PWl.step (LR.rowN (ctx_each_runs_Meet_ok a1 b2 v3 hy4) rfl Try.call100 rfl rfl rfl rfl) rfl ?_
  refine PWl.re (tl := [(0, _), (1, _), (5, _), (6, _), (7, _)]) (to := [(7, _)]) rfl (.cons rfl rfl <| .cons rfl rfl <| .cons rfl rfl <| .cons rfl rfl <| .cons rfl rfl <| .nil) (.cons rfl rfl <| .nil) ?_
  refine PWl.step (LR.assign rfl) rfl ?_
  refine PWl.nil ?_
  refine PWc.ret ?_
  replace h : _ = r0 := h
  subst h
  exact ⟨.inr rfl, 4, rfl, .inr ⟨7, _, rfl, (by simp), rfl⟩⟩
end Go.Proofs

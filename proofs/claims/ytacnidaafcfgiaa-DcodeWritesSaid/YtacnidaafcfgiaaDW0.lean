/- Walks: written by program. -/
import Derived.Test.YtacnidaafcfgiaaDFc
import Derived.Test.YtacnidaafcfgiaaDSh
import Derived.Test.YtacnidaafcfgiaaDSx
import Derived.Test.YtacnidaafcfgiaaTl
import Derived.Test.YtacnidaafcfgiaaSr
import Derived.Test.YtacnidaafcfgiaaDr
import Derived.Test.YtacnidaafcfgiaaOb
import Derived.Test.YtacnidaafcfgiaaOe
import Derived.Test.YtacnidaafcfgiaaLs
import Derived.Test.YtacnidaafcfgiaaTl
import Derived.Test.YtacnidaafcfgiaaStr
import Derived.Test.YtacnidaafcfgiaaPc
namespace Go.Proofs
open Go.Ep
set_option maxHeartbeats 1000000
set_option maxRecDepth 100000
set_option linter.unusedVariables false
set_option linter.unusedSimpArgs false


theorem r13_Few_ok (l1 : List TEvent) (most2 : Int) (r0 : Bool) (h : (r13_Few l1 most2).wp (· = r0)) : PFun Try.prog 12 [.d (.sl (List.map TEvent.e l1)), .d (.v (.int .i64 most2))] (.d (.v (.bool r0))) := by
  refine PFun.intro (sl := [(0, _), (1, _)]) Try.func12 rfl Try.ntmps12 rfl rfl ?_
  intro ctx hK
  refine PWc.seq ?_
  refine PWc.region ?_
  refine PWl.step (LR.assign rfl) rfl ?_
  refine PWl.nil ?_
  refine PWc.seq ?_
  refine PWc.seq ?_
  refine PWc.region ?_
  refine PWl.step (LR.move rfl) rfl ?_
  refine PWl.step (LR.lenMap (enc := TEvent.e) (L := l1) Try.underlying22 rfl) rfl ?_
  refine PWl.step (LR.move rfl) rfl ?_
  refine PWl.step (LR.gtr rfl rfl) rfl ?_
  refine PWl.nil ?_
  refine PWc.cond rfl (fun hc3 => ?_) (fun hc3 => ?_)
  · replace h := iT hc3 h
    refine PWc.seq ?_
    refine PWc.region ?_
    refine PWl.step (LR.assign rfl) rfl ?_
    refine PWl.nil ?_
    refine PWc.ret ?_
    replace h : _ = r0 := h
    subst h
    exact ⟨.inr rfl, _, .cons (.tmp rfl rfl) <| .nil, rfl⟩
  · replace h := iF hc3 h
    refine PWc.skip ?_
    refine PWc.seq ?_
    refine PWc.seq ?_
    refine PWc.region ?_
    refine PWl.step (LR.assign rfl) rfl ?_
    refine PWl.nil ?_
    refine PWc.jnX (iBind h) (fun (_ : Unit) (_ : Unit) => ⟨32, [], []⟩) (fun h => ?_) ?_
    · refine PWc.block ?_
      refine PWc.loopM (fun (i21 : Int) (_ : Unit) => ⟨32, [(0, .d (.sl (List.map TEvent.e l1))), (5, .d (.v (.int .i64 i21)))], []⟩) () h (Sub.of rfl (.cons rfl rfl <| .cons rfl rfl <| .nil) (.nil)) ?_
      rintro N i21 _ h
      refine PWc.seq ?_
      refine PWc.seq ?_
      refine PWc.region ?_
      refine PWl.step (LR.move rfl) rfl ?_
      refine PWl.step (LR.move rfl) rfl ?_
      refine PWl.step (LR.lenMap (enc := TEvent.e) (L := l1) Try.underlying22 rfl) rfl ?_
      refine PWl.step (LR.lss rfl rfl) rfl ?_
      refine PWl.nil ?_
      refine PWc.cond rfl (fun hc22 => ?_) (fun hc22 => ?_)
      · replace h := iT hc22 h
        refine PWc.skip ?_
        refine PWc.seq ?_
        refine PWc.block ?_
        refine PWc.seq ?_
        refine PWc.jn (iBind h) (fun (v23 : Bool) (_ : Unit) => ⟨32, [(0, .d (.sl (List.map TEvent.e l1))), (5, .d (.v (.int .i64 i21))), (31, .d (.v (.bool v23)))], []⟩) (fun h => ?_) ?_
        · refine PWc.region ?_
          refine PWl.step (LR.move rfl) rfl ?_
          refine PWl.step (LR.move rfl) rfl ?_
          replace h := iIdx h
          obtain ⟨x24, hy25, h⟩ := h
          refine PWl.step (LR.idxT (enc := TEvent.e) (L := l1) (y := x24) Try.underlying22 Try.sizeOf41 rfl rfl hy25 (fun _ => rfl)) rfl ?_
          refine PWl.step (LR.fieldEp Try.underlying41 rfl Try.sizeOf39 (by decide) rfl rfl) rfl ?_
          refine PWl.step (LR.loadEp Try.isAgg39 rfl rfl) rfl ?_
          refine PWl.step (LR.lenMap (enc := TDot.e) (L := x24.kills) Try.underlying39 rfl) rfl ?_
          refine PWl.step (LR.gtr rfl rfl) rfl ?_
          refine PWl.step (LR.move rfl) rfl ?_
          refine PWl.split (d := 23) rfl (fun hg26 => ?_) (fun hg26 => ?_)
          · replace h := iT hg26 h
            refine PWl.guardF rfl rfl rfl (by decide) ?_
            refine PWl.guardF rfl rfl rfl (by decide) ?_
            refine PWl.guardF rfl rfl rfl (by decide) ?_
            refine PWl.guardF rfl rfl rfl (by decide) ?_
            refine PWl.guardF rfl rfl rfl (by decide) ?_
            refine PWl.guardF rfl rfl rfl (by decide) ?_
            refine PWl.re (tl := [(0, _), (5, _), (23, _), (24, _), (25, _), (26, _), (27, _), (28, _), (29, _)]) (to := []) rfl (.cons rfl rfl <| .cons rfl rfl <| .cons rfl rfl <| .cons rfl rfl <| .cons rfl rfl <| .cons rfl rfl <| .cons rfl rfl <| .cons rfl rfl <| .cons rfl rfl <| .nil) (.nil) ?_
            refine PWl.guardF rfl rfl rfl (by decide) ?_
            refine PWl.step (LR.pickT rfl rfl) rfl ?_
            refine PWl.nil ?_
            exact ⟨true, (), h, Sub.of rfl (.cons rfl rfl <| .cons rfl rfl <| .cons rfl rfl <| .nil) (.nil)⟩
          · replace h := iF hg26 h
            refine PWl.guardT (LR.move rfl) rfl rfl rfl ?_
            refine PWl.guardT (LR.move rfl) rfl rfl rfl ?_
            replace h := iIdx h
            obtain ⟨x27, hy28, h⟩ := h
            refine PWl.guardT (LR.idxT (enc := TEvent.e) (L := l1) (y := x27) Try.underlying22 Try.sizeOf41 rfl rfl hy28 (fun _ => rfl)) rfl rfl rfl ?_
            refine PWl.guardT (LR.fieldEp Try.underlying41 rfl Try.sizeOf9 (by decide) rfl rfl) rfl rfl rfl ?_
            refine PWl.guardT (LR.loadEp Try.isAgg9 rfl rfl) rfl rfl rfl ?_
            refine PWl.guardT (LR.lenStr Try.underlying9 rfl) rfl rfl rfl ?_
            refine PWl.re (tl := [(0, _), (5, _), (23, _), (24, _), (25, _), (26, _), (27, _), (28, _), (29, _)]) (to := []) rfl (.cons rfl rfl <| .cons rfl rfl <| .cons rfl rfl <| .cons rfl rfl <| .cons rfl rfl <| .cons rfl rfl <| .cons rfl rfl <| .cons rfl rfl <| .cons rfl rfl <| .nil) (.nil) ?_
            refine PWl.guardT (LR.gtr rfl rfl) rfl rfl rfl ?_
            refine PWl.step (LR.pickF rfl rfl) rfl ?_
            refine PWl.nil ?_
            exact ⟨(decide (200 < (ByteArray.size x27.text : Int))), (), h, Sub.of rfl (.cons rfl rfl <| .cons rfl rfl <| .cons rfl rfl <| .nil) (.nil)⟩
        · rintro v23 _ h
          refine PWc.cond rfl (fun hc29 => ?_) (fun hc29 => ?_)
          · replace h := iT hc29 h
            refine PWc.seq ?_
            refine PWc.region ?_
            refine PWl.step (LR.assign rfl) rfl ?_
            refine PWl.nil ?_
            refine PWc.ret ?_
            replace h : _ = r0 := h
            subst h
            exact ⟨.inr rfl, _, .cons (.tmp rfl rfl) <| .nil, rfl⟩
          · replace h := iF hc29 h
            refine PWc.skip ?_
            refine PWc.region ?_
            refine PWl.step (LR.move rfl) rfl ?_
            refine PWl.step (LR.addW rfl rfl) rfl ?_
            refine PWl.step (LR.assign rfl) rfl ?_
            refine PWl.nil ?_
            exact ⟨(IntKind.i64.wrap (i21 + 1)), (), h, Sub.of rfl (.cons rfl rfl <| .cons rfl rfl <| .nil) (.nil)⟩
      · replace h := iF hc22 h
        refine PWc.exit ?_
        exact ⟨(), (), h, Sub.of rfl (.nil) (.nil)⟩
    · rintro _ _ h
      refine PWc.seq ?_
      refine PWc.region ?_
      refine PWl.step (LR.assign rfl) rfl ?_
      refine PWl.nil ?_
      refine PWc.ret ?_
      replace h : _ = r0 := h
      subst h
      exact ⟨.inr rfl, _, .cons (.tmp rfl rfl) <| .nil, rfl⟩

theorem r09_Few_ok (c1 : List TPart) (r0 : Bool) (h : (r09_Few c1).wp (· = r0)) : PFun Try.prog 13 [.d (.sl (List.map TPart.e c1))] (.d (.v (.bool r0))) := by
  refine PFun.intro (sl := [(0, _)]) Try.func13 rfl Try.ntmps13 rfl rfl ?_
  intro ctx hK
  refine PWc.seq ?_
  refine PWc.region ?_
  refine PWl.step (LR.assign rfl) rfl ?_
  refine PWl.nil ?_
  refine PWc.seq ?_
  refine PWc.seq ?_
  refine PWc.region ?_
  refine PWl.step (LR.move rfl) rfl ?_
  refine PWl.step (LR.lenMap (enc := TPart.e) (L := c1) Try.underlying24 rfl) rfl ?_
  refine PWl.step (LR.gtr rfl rfl) rfl ?_
  refine PWl.nil ?_
  refine PWc.cond rfl (fun hc2 => ?_) (fun hc2 => ?_)
  · replace h := iT hc2 h
    refine PWc.seq ?_
    refine PWc.region ?_
    refine PWl.step (LR.assign rfl) rfl ?_
    refine PWl.nil ?_
    refine PWc.ret ?_
    replace h : _ = r0 := h
    subst h
    exact ⟨.inr rfl, _, .cons (.tmp rfl rfl) <| .nil, rfl⟩
  · replace h := iF hc2 h
    refine PWc.skip ?_
    refine PWc.seq ?_
    refine PWc.seq ?_
    refine PWc.region ?_
    refine PWl.step (LR.assign rfl) rfl ?_
    refine PWl.nil ?_
    refine PWc.jnX (iBind h) (fun (_ : Unit) (_ : Unit) => ⟨20, [], []⟩) (fun h => ?_) ?_
    · refine PWc.block ?_
      refine PWc.loopM (fun (i12 : Int) (_ : Unit) => ⟨20, [(0, .d (.sl (List.map TPart.e c1))), (3, .d (.v (.int .i64 i12)))], []⟩) () h (Sub.of rfl (.cons rfl rfl <| .cons rfl rfl <| .nil) (.nil)) ?_
      rintro N i12 _ h
      refine PWc.seq ?_
      refine PWc.seq ?_
      refine PWc.region ?_
      refine PWl.step (LR.move rfl) rfl ?_
      refine PWl.step (LR.move rfl) rfl ?_
      refine PWl.step (LR.lenMap (enc := TPart.e) (L := c1) Try.underlying24 rfl) rfl ?_
      refine PWl.step (LR.lss rfl rfl) rfl ?_
      refine PWl.nil ?_
      refine PWc.cond rfl (fun hc13 => ?_) (fun hc13 => ?_)
      · replace h := iT hc13 h
        refine PWc.skip ?_
        refine PWc.seq ?_
        refine PWc.block ?_
        refine PWc.seq ?_
        refine PWc.region ?_
        refine PWl.step (LR.move rfl) rfl ?_
        refine PWl.step (LR.move rfl) rfl ?_
        replace h := iIdx h
        obtain ⟨x14, hy15, h⟩ := h
        refine PWl.step (LR.idxT (enc := TPart.e) (L := c1) (y := x14) Try.underlying24 Try.sizeOf101 rfl rfl hy15 (fun _ => rfl)) rfl ?_
        refine PWl.step (LR.fieldEp Try.underlying101 rfl Try.sizeOf34 (by decide) rfl rfl) rfl ?_
        refine PWl.step (LR.loadEp Try.isAgg34 rfl rfl) rfl ?_
        refine PWl.step (LR.lenMap (enc := TRun.e) (L := x14.runs) Try.underlying34 rfl) rfl ?_
        refine PWl.step (LR.gtr rfl rfl) rfl ?_
        refine PWl.nil ?_
        refine PWc.cond rfl (fun hc16 => ?_) (fun hc16 => ?_)
        · replace h := iT hc16 h
          refine PWc.seq ?_
          refine PWc.region ?_
          refine PWl.step (LR.assign rfl) rfl ?_
          refine PWl.nil ?_
          refine PWc.ret ?_
          replace h : _ = r0 := h
          subst h
          exact ⟨.inr rfl, _, .cons (.tmp rfl rfl) <| .nil, rfl⟩
        · replace h := iF hc16 h
          refine PWc.skip ?_
          refine PWc.region ?_
          refine PWl.step (LR.move rfl) rfl ?_
          refine PWl.step (LR.addW rfl rfl) rfl ?_
          refine PWl.step (LR.assign rfl) rfl ?_
          refine PWl.nil ?_
          exact ⟨(IntKind.i64.wrap (i12 + 1)), (), h, Sub.of rfl (.cons rfl rfl <| .cons rfl rfl <| .nil) (.nil)⟩
      · replace h := iF hc13 h
        refine PWc.exit ?_
        exact ⟨(), (), h, Sub.of rfl (.nil) (.nil)⟩
    · rintro _ _ h
      refine PWc.seq ?_
      refine PWc.region ?_
      refine PWl.step (LR.assign rfl) rfl ?_
      refine PWl.nil ?_
      refine PWc.ret ?_
      replace h : _ = r0 := h
      subst h
      exact ⟨.inr rfl, _, .cons (.tmp rfl rfl) <| .nil, rfl⟩

theorem outbox_Batches_ok (l1 : List TEvent) (r0 : Int) (h : (outbox_Batches l1).wp (· = r0)) : PFun Try.prog 15 [.d (.sl (List.map TEvent.e l1))] (.d (.v (.int .i64 r0))) := by
  refine PFun.intro (sl := [(0, _)]) Try.func15 rfl Try.ntmps15 rfl rfl ?_
  intro ctx hK
  refine PWc.seq ?_
  refine PWc.region ?_
  refine PWl.step (LR.assign rfl) rfl ?_
  refine PWl.nil ?_
  refine PWc.seq ?_
  refine PWc.region ?_
  refine PWl.step (LR.move rfl) rfl ?_
  refine PWl.step (LR.lenMap (enc := TEvent.e) (L := l1) Try.underlying22 rfl) rfl ?_
  refine PWl.step (LR.addW rfl rfl) rfl ?_
  refine PWl.step (LR.subW rfl rfl) rfl ?_
  refine PWl.step (LR.quoW rfl rfl (by decide)) rfl ?_
  refine PWl.step (LR.assign rfl) rfl ?_
  refine PWl.nil ?_
  refine PWc.ret ?_
  replace h : _ = r0 := h
  subst h
  exact ⟨.inr rfl, _, .cons (.tmp rfl rfl) <| .nil, rfl⟩

theorem slices_Clone_sl_Dot_Dot_ok (s1 : List TDot) (r0 : List TDot) (h : (slices_Clone_sl_Dot_Dot s1).wp (· = r0)) : PRow Try.prog 121 [.d (.sl (List.map TDot.e s1))] 38 2 (List.map TDot.e r0) := by
  refine PRow.intro (sl := [(0, _)]) Try.func121 rfl Try.ntmps121 rfl rfl ?_
  intro ctx hK
  refine PWc.seq ?_
  refine PWc.region ?_
  refine PWl.step (LR.assignNilRow 38 2 rfl) rfl ?_
  refine PWl.nil ?_
  refine PWc.seq ?_
  refine PWc.seq ?_
  refine PWc.region ?_
  refine PWl.step (LR.move rfl) rfl ?_
  replace h := iNil h
  refine PWl.eqlNilT (enc := TDot.e) (L := s1) Try.underlying39 rfl rfl (fun b2 hy3 => ?_)
  replace h := h b2 hy3
  refine PWl.nil ?_
  refine PWc.cond rfl (fun hc4 => ?_) (fun hc4 => ?_)
  · replace h := iT hc4 h
    refine PWc.seq ?_
    refine PWc.region ?_
    refine PWl.re (tl := [(0, _), (3, _), (4, _)]) (to := []) rfl (.cons rfl rfl <| .cons rfl rfl <| .cons rfl rfl <| .nil) (.nil) ?_
    refine PWl.step (LR.assignNilRow 38 2 rfl) rfl ?_
    refine PWl.nil ?_
    refine PWc.ret ?_
    replace h : _ = r0 := h
    subst h
    exact ⟨.inr rfl, 2, rfl, .inr ⟨2, _, rfl, (by first | (simp; done) | (simp; omega) | omega), rfl⟩⟩
  · replace h := iF hc4 h
    refine PWc.skip ?_
    refine PWc.seq ?_
    refine PWc.region ?_
    refine PWl.step (LR.buildSlice [] elem39 rfl rfl (.nil) (by decide) (by decide) rfl) rfl ?_
    refine PWl.step (LR.move rfl) rfl ?_
    replace h := iNeed h
    obtain ⟨hy5, h⟩ := h
    refine PWl.step (LR.appT (enc := TDot.e) (L := ([] : List TDot)) (R := s1) [5] elem39 Try.underlying39 rfl (by first | (simp; done) | (simp; omega) | omega) rfl (Src.slT (enc := TDot.e) (R := s1) rfl (fun _ => rfl)) (fun _ => rfl) hy5 rfl rfl) rfl ?_
    refine PWl.re (tl := [(0, _), (3, _), (4, _), (6, _), (7, _)]) (to := [(5, _)]) rfl (.cons rfl rfl <| .cons rfl rfl <| .cons rfl rfl <| .cons rfl rfl <| .cons rfl rfl <| .nil) (.cons rfl rfl <| .nil) ?_
    refine PWl.step (LR.assign rfl) rfl ?_
    refine PWl.nil ?_
    refine PWc.ret ?_
    replace h : _ = r0 := h
    subst h
    exact ⟨.inr rfl, 2, rfl, .inr ⟨5, _, rfl, (by simp), rfl⟩⟩

theorem event_Copy_ok (e1 : TEvent) (r0 : TEvent) (h : (event_Copy e1).wp (· = r0)) : PFun Try.prog 70 [.agg (List.map .d (TEvent.e e1))] (.agg (List.map .d (TEvent.e r0))) := by
  refine PFun.intro (sl := [(0, _)]) Try.func70 rfl Try.ntmps70 rfl rfl ?_
  intro ctx hK
  refine PWc.seq ?_
  refine PWc.region ?_
  refine PWl.step (LR.box rfl rfl rfl rfl) rfl ?_
  refine PWl.step (LR.allocZ (cs := [_, _, _, _, _, _, _]) Try.zeroValue41 rfl rfl rfl rfl) rfl ?_
  refine PWl.nil ?_
  refine PWc.seq ?_
  refine PWc.region ?_
  refine PWl.step (LR.fieldRef Try.underlying41 rfl Try.sizeOf39 (by decide) rfl rfl) rfl ?_
  refine PWl.step (LR.loadRef Try.isAgg39 rfl rfl rfl) rfl ?_
  replace h := iDet h
  obtain ⟨v2, hy3, h⟩ := h
  refine PWl.step (LR.rowN (slices_Clone_sl_Dot_Dot_ok e1.kills v2 hy3) rfl Try.call121 rfl rfl rfl rfl) rfl ?_
  refine PWl.step (LR.fieldRef Try.underlying41 rfl Try.sizeOf39 (by decide) rfl rfl) rfl ?_
  refine PWl.frz [5] hK (.cons rfl <| .nil) rfl (by simp) ?_
  refine PWl.step (LR.storeB (ns := [_, _, _, _, _, _, _]) Try.sizeOf39 rfl rfl rfl rfl rfl rfl rfl) rfl ?_
  refine PWl.nil ?_
  refine PWc.seq ?_
  refine PWc.region ?_
  refine PWl.step (LR.loadRefAgg (ps := [_, _, _, _, _, _, _]) Try.isAgg41 Try.sizeOf41 rfl rfl rfl rfl) rfl ?_
  refine PWl.step (LR.storeB (ns := [_, _, _, _, _, _, _]) Try.sizeOf41 rfl rfl rfl rfl rfl rfl rfl) rfl ?_
  refine PWl.nil ?_
  refine PWc.ret ?_
  replace h : _ = r0 := h
  subst h
  exact ⟨.inr rfl, _, .cons (.agg Try.isAgg41 Try.sizeOf41 rfl rfl rfl rfl) <| .nil, rfl⟩

theorem outbox_Batch_ok (l1 : List TEvent) (pick2 : Int) (r0 : List TEvent) (h : (outbox_Batch l1 pick2).wp (· = r0)) : PRow Try.prog 18 [.d (.sl (List.map TEvent.e l1)), .d (.v (.int .i64 pick2))] 41 7 (List.map TEvent.e r0) := by
  refine PRow.intro (sl := [(0, _), (1, _)]) Try.func18 rfl Try.ntmps18 rfl rfl ?_
  intro ctx hK
  refine PWc.seq ?_
  refine PWc.region ?_
  refine PWl.step (LR.assignNilRow 41 7 rfl) rfl ?_
  refine PWl.nil ?_
  refine PWc.seq ?_
  refine PWc.region ?_
  refine PWl.step (LR.move rfl) rfl ?_
  replace h := iDet h
  obtain ⟨v3, hy4, h⟩ := h
  refine PWl.step (LR.callN (outbox_Batches_ok l1 v3 hy4) rfl Try.call15 rfl rfl rfl rfl) rfl ?_
  refine PWl.step (LR.assign rfl) rfl ?_
  refine PWl.nil ?_
  refine PWc.seq ?_
  refine PWc.seq ?_
  refine PWc.region ?_
  refine PWl.step (LR.move rfl) rfl ?_
  refine PWl.step (LR.eql rfl rfl) rfl ?_
  refine PWl.nil ?_
  refine PWc.cond rfl (fun hc5 => ?_) (fun hc5 => ?_)
  · replace h := iT hc5 h
    refine PWc.seq ?_
    refine PWc.region ?_
    refine PWl.re (tl := [(0, _), (1, _), (5, _), (10, _), (11, _), (12, _), (13, _)]) (to := []) rfl (.cons rfl rfl <| .cons rfl rfl <| .cons rfl rfl <| .cons rfl rfl <| .cons rfl rfl <| .cons rfl rfl <| .cons rfl rfl <| .nil) (.nil) ?_
    refine PWl.step (LR.assignNilRow 41 7 rfl) rfl ?_
    refine PWl.nil ?_
    refine PWc.ret ?_
    replace h : _ = r0 := h
    subst h
    exact ⟨.inr rfl, 4, rfl, .inr ⟨4, _, rfl, (by first | (simp; done) | (simp; omega) | omega), rfl⟩⟩
  · replace h := iF hc5 h
    refine PWc.skip ?_
    refine PWc.seq ?_
    refine PWc.region ?_
    refine PWl.step (LR.move rfl) rfl ?_
    refine PWl.step (LR.move rfl) rfl ?_
    replace h := iNeed h
    obtain ⟨hy6, h⟩ := h
    refine PWl.step (LR.rem rfl rfl hy6) rfl ?_
    refine PWl.step (LR.assign rfl) rfl ?_
    refine PWl.nil ?_
    refine PWc.seq ?_
    refine PWc.seq ?_
    refine PWc.region ?_
    refine PWl.step (LR.move rfl) rfl ?_
    refine PWl.step (LR.lss rfl rfl) rfl ?_
    refine PWl.nil ?_
    refine PWc.jn (iBind h) (fun (k7 : Int) (_ : Unit) => ⟨44, [(0, .d (.sl (List.map TEvent.e l1))), (6, .d (.v (.int .i64 k7)))], []⟩) (fun h => ?_) ?_
    · refine PWc.cond rfl (fun hc8 => ?_) (fun hc8 => ?_)
      · replace h := iT hc8 h
        refine PWc.region ?_
        refine PWl.step (LR.move rfl) rfl ?_
        refine PWl.step (LR.move rfl) rfl ?_
        refine PWl.step (LR.addW rfl rfl) rfl ?_
        refine PWl.step (LR.assign rfl) rfl ?_
        refine PWl.nil ?_
        exact ⟨(IntKind.i64.wrap ((Int.tmod pick2 v3) + v3)), (), h, Sub.of rfl (.cons rfl rfl <| .cons rfl rfl <| .nil) (.nil)⟩
      · replace h := iF hc8 h
        refine PWc.skip ?_
        exact ⟨(Int.tmod pick2 v3), (), h, Sub.of rfl (.cons rfl rfl <| .cons rfl rfl <| .nil) (.nil)⟩
    · rintro k7 _ h
      refine PWc.seq ?_
      refine PWc.region ?_
      refine PWl.step (LR.assignNilRow 41 7 rfl) rfl ?_
      refine PWl.nil ?_
      refine PWc.seq ?_
      refine PWc.seq ?_
      refine PWc.region ?_
      refine PWl.step (LR.move rfl) rfl ?_
      refine PWl.step (LR.move rfl) rfl ?_
      refine PWl.step (LR.mulW rfl rfl) rfl ?_
      refine PWl.step (LR.move rfl) rfl ?_
      refine PWl.step (LR.addW rfl rfl) rfl ?_
      refine PWl.step (LR.mulW rfl rfl) rfl ?_
      refine PWl.step (LR.move rfl) rfl ?_
      refine PWl.step (LR.lenMap (enc := TEvent.e) (L := l1) Try.underlying22 rfl) rfl ?_
      refine PWl.step (LR.minI rfl rfl) rfl ?_
      replace h := iNeed h
      obtain ⟨hy9, h⟩ := h
      refine PWl.step (LR.cutT (enc := TEvent.e) (L := l1) Try.underlying22 Try.sizeOf41 rfl (fun _ => rfl) rfl rfl hy9) rfl ?_
      refine PWl.step (LR.lenMap (enc := TEvent.e) (L := (List.drop (Int.toNat (IntKind.i64.wrap (k7 * 4))) (List.take (Int.toNat ((min ((IntKind.i64.wrap ((IntKind.i64.wrap (k7 + 1)) * 4))) (List.length l1 : Int)))) l1))) Try.underlying22 rfl) rfl ?_
      refine PWl.step (LR.move rfl) rfl ?_
      refine PWl.nil ?_
      refine PWc.jn (iBind h) (fun (out10 : List TEvent) (_ : Unit) => ⟨44, [(7, .row 7 (List.length out10))], [(7, .row 41 7 (List.map TEvent.e out10))]⟩) (fun h => ?_) ?_
      · refine PWc.block ?_
        refine PWc.loopM (fun (⟨v25, out26⟩ : Int × List TEvent) (_ : Unit) => ⟨44, [(7, .row 7 (List.length out26)), (31, .d (.sl (List.map TEvent.e ((List.drop (Int.toNat (IntKind.i64.wrap (k7 * 4))) (List.take (Int.toNat ((min ((IntKind.i64.wrap ((IntKind.i64.wrap (k7 + 1)) * 4))) (List.length l1 : Int)))) l1)))))), (32, .d (.v (.int .i64 ((List.length ((List.drop (Int.toNat (IntKind.i64.wrap (k7 * 4))) (List.take (Int.toNat ((min ((IntKind.i64.wrap ((IntKind.i64.wrap (k7 + 1)) * 4))) (List.length l1 : Int)))) l1))) : Int))))), (33, .d (.v (.int .i64 v25)))], [(7, .row 41 7 (List.map TEvent.e out26))]⟩) () h (Sub.of rfl (.cons rfl rfl <| .cons rfl rfl <| .cons rfl rfl <| .cons rfl rfl <| .nil) (.cons rfl rfl <| .nil)) ?_
        rintro N ⟨v25, out26⟩ _ h
        refine PWc.seq ?_
        refine PWc.region ?_
        refine PWl.step (LR.lss rfl rfl) rfl ?_
        refine PWl.nil ?_
        refine PWc.seq ?_
        refine PWc.cond rfl (fun hc27 => ?_) (fun hc27 => ?_)
        · replace h := iT hc27 h
          refine PWc.skip ?_
          refine PWc.seq ?_
          refine PWc.block ?_
          refine PWc.seq ?_
          refine PWc.region ?_
          replace h := iIdx h
          obtain ⟨x28, hy29, h⟩ := h
          refine PWl.step (LR.idxT (enc := TEvent.e) (L := (List.drop (Int.toNat (IntKind.i64.wrap (k7 * 4))) (List.take (Int.toNat ((min ((IntKind.i64.wrap ((IntKind.i64.wrap (k7 + 1)) * 4))) (List.length l1 : Int)))) l1))) (y := x28) Try.underlying22 Try.sizeOf41 rfl rfl hy29 (fun _ => rfl)) rfl ?_
          refine PWl.step (LR.loadEpAgg (ys := [_, _, _, _, _, _, _]) Try.isAgg41 Try.sizeOf41 rfl rfl rfl) rfl ?_
          refine PWl.step (LR.allocZ (cs := [_, _, _, _, _, _, _]) Try.zeroValue41 rfl rfl rfl rfl) rfl ?_
          refine PWl.step (LR.storeB (ns := [_, _, _, _, _, _, _]) Try.sizeOf41 rfl rfl rfl rfl rfl rfl rfl) rfl ?_
          refine PWl.nil ?_
          refine PWc.region ?_
          refine PWl.step (LR.move rfl) rfl ?_
          refine PWl.step (LR.loadRefAgg (ps := [_, _, _, _, _, _, _]) Try.isAgg41 Try.sizeOf41 rfl rfl rfl rfl) rfl ?_
          replace h := iDet h
          obtain ⟨v30, hy31, h⟩ := h
          refine PWl.step (LR.callN (event_Copy_ok x28 v30 hy31) rfl Try.call70 rfl rfl rfl rfl) rfl ?_
          refine PWl.step (LR.buildSliceD [.tmp 39] elem22 rfl rfl (.cons rfl rfl rfl <| .nil) (by decide) (by decide)) rfl ?_
          replace h := iNeed h
          obtain ⟨hy32, h⟩ := h
          refine PWl.step (LR.appT (enc := TEvent.e) (L := out26) (R := [v30]) [7, 37] elem22 Try.underlying22 rfl rfl rfl (Src.slT (enc := TEvent.e) (R := [v30]) rfl (fun _ => rfl)) (fun _ => rfl) hy32 rfl rfl) rfl ?_
          refine PWl.step (LR.assign rfl) rfl ?_
          refine PWl.nil ?_
          refine PWc.region ?_
          refine PWl.step (LR.addW rfl rfl) rfl ?_
          refine PWl.step (LR.move rfl) rfl ?_
          refine PWl.nil ?_
          exact ⟨((IntKind.i64.wrap (v25 + 1)), (out26 ++ [v30])), (), h, Sub.of rfl (.cons rfl rfl <| .cons rfl rfl <| .cons rfl rfl <| .cons rfl rfl <| .nil) (.cons rfl rfl <| .nil)⟩
        · replace h := iF hc27 h
          refine PWc.exit ?_
          exact ⟨out26, (), h, Sub.of rfl (.cons rfl rfl <| .nil) (.cons rfl rfl <| .nil)⟩
      · rintro out10 _ h
        refine PWc.seq ?_
        refine PWc.region ?_
        refine PWl.step (LR.move rfl) rfl ?_
        refine PWl.step (LR.assign rfl) rfl ?_
        refine PWl.nil ?_
        refine PWc.ret ?_
        replace h : _ = r0 := h
        subst h
        exact ⟨.inr rfl, 4, rfl, .inr ⟨7, _, rfl, (by simp), rfl⟩⟩
end Go.Proofs

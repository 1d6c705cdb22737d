/- Walks: written by program. -/
import Derived.Test.YtacnidaafcfgiaaGreatFc
import Derived.Test.YtacnidaafcfgiaaGreatSh
import Derived.Test.YtacnidaafcfgiaaGreatSx
import Derived.Test.YtacnidaafcfgiaaGreatTl
import Derived.Test.YtacnidaafcfgiaaGreatSr
import Derived.Test.YtacnidaafcfgiaaGreatDr
import Derived.Test.YtacnidaafcfgiaaGreatW3
import Derived.Test.YtacnidaafcfgiaaGreatW6
import Derived.Test.YtacnidaafcfgiaaGreatW10
namespace Go.Proofs
open Go.Ep
set_option maxHeartbeats 1000000
set_option maxRecDepth 100000
set_option linter.unusedVariables false
set_option linter.unusedSimpArgs false


theorem ctx_Plain_ok (v1 : List TDot) (r0 : List TPart) (h : (ctx_Plain v1).wp (· = r0)) : PRow Tryz.prog 39 [.d (.sl (List.map TDot.e v1))] 80 2 (List.map TPart.e r0) := by
  refine PRow.intro (sl := [(0, _)]) Tryz.func39 rfl Tryz.ntmps39 rfl rfl ?_
  intro ctx hK
  refine PWc.seq ?_
  refine PWc.region ?_
  refine PWl.step (LR.assignNilRow 80 2 rfl) rfl ?_
  refine PWl.nil ?_
  refine PWc.seq ?_
  refine PWc.region ?_
  refine PWl.step (LR.assignNilRow 80 2 rfl) rfl ?_
  refine PWl.nil ?_
  refine PWc.seq ?_
  refine PWc.seq ?_
  refine PWc.region ?_
  refine PWl.step (LR.move rfl) rfl ?_
  replace h := iDet h
  obtain ⟨v2, hy3, h⟩ := h
  refine PWl.step (LR.rowN (vec_Norm_ok v1 v2 hy3) rfl Tryz.call76 rfl rfl rfl rfl) rfl ?_
  refine PWl.step (LR.lenRow Tryz.underlying44 rfl) rfl ?_
  refine PWl.step (LR.move rfl) rfl ?_
  refine PWl.nil ?_
  refine PWc.jn (iBind h) (fun (c4 : List TPart) (_ : Unit) => ⟨25, [(3, .row 3 (List.length c4))], [(3, .row 80 2 (List.map TPart.e c4))]⟩) (fun h => ?_) ?_
  · refine PWc.block ?_
    refine PWc.loopM (fun (⟨v15, c16⟩ : Int × List TPart) (_ : Unit) => ⟨25, [(3, .row 3 (List.length c16)), (7, .row 7 (List.length v2)), (8, .d (.v (.int .i64 ((List.length v2) : Int)))), (9, .d (.v (.int .i64 v15)))], [(3, .row 80 2 (List.map TPart.e c16)), (7, .row 32 2 (List.map TDot.e v2))]⟩) () h (Sub.of rfl (.cons rfl rfl <| .cons rfl rfl <| .cons rfl rfl <| .cons rfl rfl <| .nil) (.cons rfl rfl <| .cons rfl rfl <| .nil)) ?_
    rintro N ⟨v15, c16⟩ _ h
    refine PWc.seq ?_
    refine PWc.region ?_
    refine PWl.step (LR.lss rfl rfl) rfl ?_
    refine PWl.nil ?_
    refine PWc.seq ?_
    refine PWc.cond rfl (fun hc17 => ?_) (fun hc17 => ?_)
    · replace h := iT hc17 h
      refine PWc.skip ?_
      refine PWc.seq ?_
      refine PWc.block ?_
      refine PWc.seq ?_
      refine PWc.region ?_
      replace h := iIdx h
      obtain ⟨x18, hy19, h⟩ := h
      refine PWl.step (LR.idxRowT (L := v2) (y := x18) Tryz.underlying44 Tryz.sizeOf32 rfl rfl rfl hy19) rfl ?_
      refine PWl.step (LR.loadRpT (enc := TDot.e) (L := v2) (y := x18) Tryz.isAgg32 Tryz.sizeOf32 rfl rfl hy19.2) rfl ?_
      refine PWl.step (LR.allocZ (cs := [_, _]) Tryz.zeroValue32 rfl rfl rfl rfl) rfl ?_
      refine PWl.step (LR.storeB (ns := [_, _]) Tryz.sizeOf32 rfl rfl rfl rfl rfl rfl rfl) rfl ?_
      refine PWl.nil ?_
      refine PWc.region ?_
      refine PWl.step (LR.move rfl) rfl ?_
      refine PWl.step (LR.fieldRef Tryz.underlying32 rfl Tryz.sizeOf29 (by decide) rfl rfl) rfl ?_
      refine PWl.step (LR.loadRef Tryz.isAgg29 rfl rfl rfl) rfl ?_
      refine PWl.step (LR.fieldRef Tryz.underlying32 rfl Tryz.sizeOf30 (by decide) rfl rfl) rfl ?_
      refine PWl.step (LR.loadRef Tryz.isAgg30 rfl rfl rfl) rfl ?_
      refine PWl.step (LR.build (ns := [_, _]) build89 rfl rfl rfl) rfl ?_
      refine PWl.step (LR.buildSliceD [.tmp 18] elem37 rfl rfl (.cons rfl rfl rfl <| .nil) (by decide) (by decide)) rfl ?_
      refine PWl.step (LR.build (ns := [_, _]) build80 rfl rfl rfl) rfl ?_
      refine PWl.step (LR.buildSliceD [.tmp 20] elem23 rfl rfl (.cons rfl rfl rfl <| .nil) (by decide) (by decide)) rfl ?_
      replace h := iNeed h
      obtain ⟨hy20, h⟩ := h
      refine PWl.step (LR.appT (enc := TPart.e) (L := c16) (R := [(⟨x18.dev, [(⟨1, x18.n⟩ : TRun)]⟩ : TPart)]) [3, 13] elem23 Tryz.underlying23 rfl rfl rfl (Src.slT (enc := TPart.e) (R := [(⟨x18.dev, [(⟨1, x18.n⟩ : TRun)]⟩ : TPart)]) rfl (fun _ => rfl)) (fun _ => rfl) hy20 rfl rfl) rfl ?_
      refine PWl.step (LR.assign rfl) rfl ?_
      refine PWl.nil ?_
      refine PWc.region ?_
      refine PWl.step (LR.addW rfl rfl) rfl ?_
      refine PWl.step (LR.move rfl) rfl ?_
      refine PWl.nil ?_
      exact ⟨((IntKind.i64.wrap (v15 + 1)), (c16 ++ [(⟨x18.dev, [(⟨1, x18.n⟩ : TRun)]⟩ : TPart)])), (), h, Sub.of rfl (.cons rfl (by first | rfl | (simp; done) | (congr 1; first | (simp; done) | (simp; omega))) <| .cons rfl rfl <| .cons rfl rfl <| .cons rfl rfl <| .nil) (.cons rfl rfl <| .cons rfl rfl <| .nil)⟩
    · replace h := iF hc17 h
      refine PWc.exit ?_
      exact ⟨c16, (), h, Sub.of rfl (.cons rfl rfl <| .nil) (.cons rfl rfl <| .nil)⟩
  · rintro c4 _ h
    refine PWc.seq ?_
    refine PWc.region ?_
    refine PWl.step (LR.move rfl) rfl ?_
    refine PWl.step (LR.assign rfl) rfl ?_
    refine PWl.nil ?_
    refine PWc.ret ?_
    replace h : _ = r0 := h
    subst h
    exact ⟨.inr rfl, 2, rfl, .inr ⟨3, _, rfl, (by simp), rfl⟩⟩

theorem r08_devs_ok (a1 : List TDot) (b2 : List TDot) (r0 : List TDot) (h : (r08_devs a1 b2).wp (· = r0)) : PFun Tryz.prog 135 [.d (.sl (List.map TDot.e a1)), .d (.sl (List.map TDot.e b2))] (.d (.sl (List.map TDot.e r0))) := by
  refine PFun.intro (sl := [(0, _), (1, _)]) Tryz.func135 rfl Tryz.ntmps135 rfl rfl ?_
  intro ctx hK
  refine PWc.seq ?_
  refine PWc.region ?_
  refine PWl.step (LR.assignNilRow 32 2 rfl) rfl ?_
  refine PWl.nil ?_
  refine PWc.seq ?_
  refine PWc.region ?_
  refine PWl.step (LR.assignNilRow 32 2 rfl) rfl ?_
  refine PWl.nil ?_
  refine PWc.seq ?_
  refine PWc.region ?_
  refine PWl.step (LR.buildSlice [] elem28 rfl rfl (.nil) (by decide) (by decide) rfl) rfl ?_
  refine PWl.step (LR.move rfl) rfl ?_
  replace h := iNeed h
  obtain ⟨hy3, h⟩ := h
  refine PWl.step (LR.appT (enc := TDot.e) (L := ([] : List TDot)) (R := a1) [8] elem28 Tryz.underlying44 rfl (by first | (simp; done) | (simp; omega) | omega) rfl (Src.slT (enc := TDot.e) (R := a1) rfl (fun _ => rfl)) (fun _ => rfl) hy3 rfl rfl) rfl ?_
  refine PWl.step (LR.move rfl) rfl ?_
  replace h := iNeed h
  obtain ⟨hy4, h⟩ := h
  refine PWl.step (LR.appT (enc := TDot.e) (L := (([] : List TDot) ++ a1)) (R := b2) [10] elem28 Tryz.underlying44 rfl rfl rfl (Src.slT (enc := TDot.e) (R := b2) rfl (fun _ => rfl)) (fun _ => rfl) hy4 rfl rfl) rfl ?_
  refine PWl.step (LR.assign rfl) rfl ?_
  refine PWl.nil ?_
  refine PWc.seq ?_
  refine PWc.seq ?_
  refine PWc.region ?_
  refine PWl.step (LR.assign rfl) rfl ?_
  refine PWl.nil ?_
  refine PWc.jn (iBind h) (fun (out5 : List TDot) (_ : Unit) => ⟨33, [(5, .d (.sl (List.map TDot.e out5)))], []⟩) (fun h => ?_) ?_
  · refine PWc.block ?_
    refine PWc.loopM (fun (⟨out30, i31⟩ : List TDot × Int) (_ : Unit) => ⟨33, [(5, .d (.sl (List.map TDot.e out30))), (6, .row 8 ((List.length ((([] : List TDot) ++ a1) ++ b2)))), (7, .d (.v (.int .i64 i31)))], [(8, .row 32 2 (List.map TDot.e (((([] : List TDot) ++ a1) ++ b2))))]⟩) () h (Sub.trans (Sub.frz [5] hK rfl (by first | (simp; done) | (simp; omega) | omega) (AllRow.get (.cons rfl <| .nil))) <| Sub.of rfl (.cons rfl rfl <| .cons rfl (by first | rfl | (simp; done) | (congr 1; first | (simp; done) | (simp; omega))) <| .cons rfl rfl <| .nil) (.cons rfl rfl <| .nil)) ?_
    rintro N ⟨out30, i31⟩ _ h
    refine PWc.seq ?_
    refine PWc.seq ?_
    refine PWc.region ?_
    refine PWl.step (LR.move rfl) rfl ?_
    refine PWl.step (LR.move rfl) rfl ?_
    refine PWl.step (LR.lenRow Tryz.underlying28 rfl) rfl ?_
    refine PWl.step (LR.lss rfl rfl) rfl ?_
    refine PWl.nil ?_
    refine PWc.cond rfl (fun hc32 => ?_) (fun hc32 => ?_)
    · replace h := iT hc32 h
      refine PWc.skip ?_
      refine PWc.seq ?_
      refine PWc.jn (iBind h) (fun (out33 : List TDot) (_ : Unit) => ⟨33, [(5, .d (.sl (List.map TDot.e out33))), (6, .row 8 ((List.length ((([] : List TDot) ++ a1) ++ b2)))), (7, .d (.v (.int .i64 i31)))], [(8, .row 32 2 (List.map TDot.e (((([] : List TDot) ++ a1) ++ b2))))]⟩) (fun h => ?_) ?_
      · refine PWc.block ?_
        refine PWc.seq ?_
        refine PWc.region ?_
        refine PWl.step (LR.move rfl) rfl ?_
        refine PWl.step (LR.move rfl) rfl ?_
        replace h := iIdx h
        obtain ⟨x34, hy35, h⟩ := h
        refine PWl.step (LR.idxRowT (L := ((([] : List TDot) ++ a1) ++ b2)) (y := x34) Tryz.underlying28 Tryz.sizeOf32 rfl (by first | (simp; done) | (simp; omega) | omega) rfl hy35) rfl ?_
        refine PWl.step (LR.loadRpT (enc := TDot.e) (L := ((([] : List TDot) ++ a1) ++ b2)) (y := x34) Tryz.isAgg32 Tryz.sizeOf32 rfl rfl hy35.2) rfl ?_
        replace h := iDet h
        obtain ⟨v36, hy37, h⟩ := h
        refine PWl.step (LR.callN (r07_Good_ok x34 v36 hy37) rfl Tryz.call53 rfl rfl rfl rfl) rfl ?_
        refine PWl.nil ?_
        refine PWc.cond rfl (fun hc38 => ?_) (fun hc38 => ?_)
        · replace h := iT hc38 h
          refine PWc.region ?_
          refine PWl.step (LR.move rfl) rfl ?_
          refine PWl.step (LR.move rfl) rfl ?_
          refine PWl.step (LR.move rfl) rfl ?_
          replace h := iIdx h
          obtain ⟨x39, hy40, h⟩ := h
          refine PWl.step (LR.idxRowT (L := ((([] : List TDot) ++ a1) ++ b2)) (y := x39) Tryz.underlying28 Tryz.sizeOf32 rfl (by first | (simp; done) | (simp; omega) | omega) rfl hy40) rfl ?_
          refine PWl.step (LR.fieldRp Tryz.underlying32 rfl Tryz.sizeOf29 (by decide) rfl rfl) rfl ?_
          refine PWl.step (LR.loadRpF (enc := TDot.e) (L := ((([] : List TDot) ++ a1) ++ b2)) (y := x39) Tryz.isAgg29 rfl rfl hy40.2 rfl) rfl ?_
          refine PWl.step (LR.build (ns := [_, _]) build32 rfl rfl rfl) rfl ?_
          replace h := iDet h
          obtain ⟨v41, hy42, h⟩ := h
          refine PWl.step (LR.rowN (r07_Put_ok out30 (⟨x39.dev, 1⟩ : TDot) v41 hy42) rfl Tryz.call126 rfl rfl rfl rfl) rfl ?_
          refine PWl.step (LR.assign rfl) rfl ?_
          refine PWl.nil ?_
          exact ⟨v41, (), h, Sub.trans (Sub.frz [5, 31] hK rfl (by simp) (AllRow.get (.cons rfl <| .cons rfl <| .nil))) <| Sub.of rfl (.cons rfl rfl <| .cons rfl (by first | rfl | (simp; done) | (congr 1; first | (simp; done) | (simp; omega))) <| .cons rfl rfl <| .nil) (.cons rfl rfl <| .nil)⟩
        · replace h := iF hc38 h
          refine PWc.skip ?_
          exact ⟨out30, (), h, Sub.of rfl (.cons rfl rfl <| .cons rfl (by first | rfl | (simp; done) | (congr 1; first | (simp; done) | (simp; omega))) <| .cons rfl rfl <| .nil) (.cons rfl rfl <| .nil)⟩
      · rintro out33 _ h
        refine PWc.region ?_
        refine PWl.step (LR.move rfl) rfl ?_
        refine PWl.step (LR.addW rfl rfl) rfl ?_
        refine PWl.step (LR.assign rfl) rfl ?_
        refine PWl.nil ?_
        exact ⟨(out33, (IntKind.i64.wrap (i31 + 1))), (), h, Sub.of rfl (.cons rfl rfl <| .cons rfl (by first | rfl | (simp; done) | (congr 1; first | (simp; done) | (simp; omega))) <| .cons rfl rfl <| .nil) (.cons rfl rfl <| .nil)⟩
    · replace h := iF hc32 h
      refine PWc.exit ?_
      exact ⟨out30, (), h, Sub.of rfl (.cons rfl rfl <| .nil) (.nil)⟩
  · rintro out5 _ h
    refine PWc.seq ?_
    refine PWc.region ?_
    refine PWl.step (LR.move rfl) rfl ?_
    refine PWl.step (LR.assign rfl) rfl ?_
    refine PWl.nil ?_
    refine PWc.ret ?_
    replace h : _ = r0 := h
    subst h
    exact ⟨.inr rfl, _, .cons (.tmp rfl rfl) <| .nil, rfl⟩

theorem r08_Of_ok (v1 : List TDot) (dev2 : Int) (r0 : Int) (h : (r08_Of v1 dev2).wp (· = r0)) : PFun Tryz.prog 136 [.d (.sl (List.map TDot.e v1)), .d (.v (.int .u16 dev2))] (.d (.v (.int .u64 r0))) := by
  refine PFun.intro (sl := [(0, _), (1, _)]) Tryz.func136 rfl Tryz.ntmps136 rfl rfl ?_
  intro ctx hK
  refine PWc.seq ?_
  refine PWc.region ?_
  refine PWl.step (LR.assign rfl) rfl ?_
  refine PWl.nil ?_
  refine PWc.seq ?_
  refine PWc.region ?_
  refine PWl.step (LR.assign rfl) rfl ?_
  refine PWl.nil ?_
  refine PWc.seq ?_
  refine PWc.seq ?_
  refine PWc.region ?_
  refine PWl.step (LR.assign rfl) rfl ?_
  refine PWl.nil ?_
  refine PWc.jn (iBind h) (fun (n3 : Int) (_ : Unit) => ⟨42, [(5, .d (.v (.int .u64 n3)))], []⟩) (fun h => ?_) ?_
  · refine PWc.block ?_
    refine PWc.loopM (fun (⟨n38, i39⟩ : Int × Int) (_ : Unit) => ⟨42, [(0, .d (.sl (List.map TDot.e v1))), (1, .d (.v (.int .u16 dev2))), (5, .d (.v (.int .u64 n38))), (6, .d (.v (.int .i64 i39)))], []⟩) () h (Sub.of rfl (.cons rfl rfl <| .cons rfl rfl <| .cons rfl rfl <| .cons rfl rfl <| .nil) (.nil)) ?_
    rintro N ⟨n38, i39⟩ _ h
    refine PWc.seq ?_
    refine PWc.seq ?_
    refine PWc.region ?_
    refine PWl.step (LR.move rfl) rfl ?_
    refine PWl.step (LR.move rfl) rfl ?_
    refine PWl.step (LR.lenMap (enc := TDot.e) (L := v1) Tryz.underlying44 rfl) rfl ?_
    refine PWl.step (LR.lss rfl rfl) rfl ?_
    refine PWl.nil ?_
    refine PWc.cond rfl (fun hc40 => ?_) (fun hc40 => ?_)
    · replace h := iT hc40 h
      refine PWc.skip ?_
      refine PWc.seq ?_
      refine PWc.jn (iBind h) (fun (n41 : Int) (_ : Unit) => ⟨42, [(0, .d (.sl (List.map TDot.e v1))), (1, .d (.v (.int .u16 dev2))), (5, .d (.v (.int .u64 n41))), (6, .d (.v (.int .i64 i39)))], []⟩) (fun h => ?_) ?_
      · refine PWc.block ?_
        refine PWc.seq ?_
        refine PWc.jn (iBind h) (fun (v42 : Bool) (_ : Unit) => ⟨42, [(0, .d (.sl (List.map TDot.e v1))), (1, .d (.v (.int .u16 dev2))), (5, .d (.v (.int .u64 n38))), (6, .d (.v (.int .i64 i39))), (35, .d (.v (.bool v42)))], []⟩) (fun h => ?_) ?_
        · refine PWc.region ?_
          refine PWl.step (LR.move rfl) rfl ?_
          refine PWl.step (LR.move rfl) rfl ?_
          replace h := iIdx h
          obtain ⟨x43, hy44, h⟩ := h
          refine PWl.step (LR.idxT (enc := TDot.e) (L := v1) (y := x43) Tryz.underlying44 Tryz.sizeOf32 rfl rfl hy44 (fun _ => rfl)) rfl ?_
          refine PWl.step (LR.fieldEp Tryz.underlying32 rfl Tryz.sizeOf29 (by decide) rfl rfl) rfl ?_
          refine PWl.step (LR.loadEp Tryz.isAgg29 rfl rfl) rfl ?_
          refine PWl.step (LR.move rfl) rfl ?_
          refine PWl.step (LR.eql rfl rfl) rfl ?_
          refine PWl.step (LR.move rfl) rfl ?_
          refine PWl.split (d := 20) rfl (fun hg45 => ?_) (fun hg45 => ?_)
          · replace h := iT hg45 h
            refine PWl.guardT (LR.move rfl) rfl rfl rfl ?_
            refine PWl.guardT (LR.move rfl) rfl rfl rfl ?_
            replace h := iIdx h
            obtain ⟨x46, hy47, h⟩ := h
            refine PWl.guardT (LR.idxT (enc := TDot.e) (L := v1) (y := x46) Tryz.underlying44 Tryz.sizeOf32 rfl rfl hy47 (fun _ => rfl)) rfl rfl rfl ?_
            refine PWl.guardT (LR.loadEpAgg (ys := [_, _]) Tryz.isAgg32 Tryz.sizeOf32 rfl rfl rfl) rfl rfl rfl ?_
            refine PWl.re (tl := [(0, _), (1, _), (5, _), (6, _), (20, _), (21, _), (22, _), (23, _), (24, _)]) (to := []) rfl (.cons rfl rfl <| .cons rfl rfl <| .cons rfl rfl <| .cons rfl rfl <| .cons rfl rfl <| .cons rfl rfl <| .cons rfl rfl <| .cons rfl rfl <| .cons rfl rfl <| .nil) (.nil) ?_
            replace h := iDet h
            obtain ⟨v48, hy49, h⟩ := h
            refine PWl.guardT (LR.callN (r07_Good_ok x46 v48 hy49) rfl Tryz.call53 rfl rfl rfl rfl) rfl rfl rfl ?_
            refine PWl.step (LR.pickT rfl rfl) rfl ?_
            refine PWl.step (LR.move rfl) rfl ?_
            refine PWl.split (d := 27) rfl (fun hg50 => ?_) (fun hg50 => ?_)
            · replace h := iT hg50 h
              refine PWl.guardT (LR.move rfl) rfl rfl rfl ?_
              refine PWl.guardT (LR.move rfl) rfl rfl rfl ?_
              replace h := iIdx h
              obtain ⟨x51, hy52, h⟩ := h
              refine PWl.guardT (LR.idxT (enc := TDot.e) (L := v1) (y := x51) Tryz.underlying44 Tryz.sizeOf32 rfl rfl hy52 (fun _ => rfl)) rfl rfl rfl ?_
              refine PWl.guardT (LR.fieldEp Tryz.underlying32 rfl Tryz.sizeOf30 (by decide) rfl rfl) rfl rfl rfl ?_
              refine PWl.guardT (LR.loadEp Tryz.isAgg30 rfl rfl) rfl rfl rfl ?_
              refine PWl.guardT (LR.move rfl) rfl rfl rfl ?_
              refine PWl.guardT (LR.gtr rfl rfl) rfl rfl rfl ?_
              refine PWl.step (LR.pickT rfl rfl) rfl ?_
              refine PWl.nil ?_
              exact ⟨(decide (n38 < x51.n)), (), h, Sub.of rfl (.cons rfl rfl <| .cons rfl rfl <| .cons rfl rfl <| .cons rfl rfl <| .cons rfl rfl <| .nil) (.nil)⟩
            · replace h := iF hg50 h
              refine PWl.guardF rfl rfl rfl (by decide) ?_
              refine PWl.guardF rfl rfl rfl (by decide) ?_
              refine PWl.guardF rfl rfl rfl (by decide) ?_
              refine PWl.guardF rfl rfl rfl (by decide) ?_
              refine PWl.guardF rfl rfl rfl (by decide) ?_
              refine PWl.guardF rfl rfl rfl (by decide) ?_
              refine PWl.guardF rfl rfl rfl (by decide) ?_
              refine PWl.step (LR.pickF rfl rfl) rfl ?_
              refine PWl.nil ?_
              exact ⟨false, (), h, Sub.of rfl (.cons rfl rfl <| .cons rfl rfl <| .cons rfl rfl <| .cons rfl rfl <| .cons rfl rfl <| .nil) (.nil)⟩
          · replace h := iF hg45 h
            refine PWl.guardF rfl rfl rfl (by decide) ?_
            refine PWl.guardF rfl rfl rfl (by decide) ?_
            refine PWl.guardF rfl rfl rfl (by decide) ?_
            refine PWl.guardF rfl rfl rfl (by decide) ?_
            refine PWl.re (tl := [(0, _), (1, _), (5, _), (6, _), (20, _), (21, _), (22, _), (23, _), (24, _)]) (to := []) rfl (.cons rfl rfl <| .cons rfl rfl <| .cons rfl rfl <| .cons rfl rfl <| .cons rfl rfl <| .cons rfl rfl <| .cons rfl rfl <| .cons rfl rfl <| .cons rfl rfl <| .nil) (.nil) ?_
            refine PWl.guardF rfl rfl rfl (by decide) ?_
            refine PWl.step (LR.pickF rfl rfl) rfl ?_
            refine PWl.step (LR.move rfl) rfl ?_
            refine PWl.guardF rfl rfl rfl (by decide) ?_
            refine PWl.guardF rfl rfl rfl (by decide) ?_
            refine PWl.guardF rfl rfl rfl (by decide) ?_
            refine PWl.guardF rfl rfl rfl (by decide) ?_
            refine PWl.guardF rfl rfl rfl (by decide) ?_
            refine PWl.guardF rfl rfl rfl (by decide) ?_
            refine PWl.guardF rfl rfl rfl (by decide) ?_
            refine PWl.step (LR.pickF rfl rfl) rfl ?_
            refine PWl.nil ?_
            exact ⟨false, (), h, Sub.of rfl (.cons rfl rfl <| .cons rfl rfl <| .cons rfl rfl <| .cons rfl rfl <| .cons rfl rfl <| .nil) (.nil)⟩
        · rintro v42 _ h
          refine PWc.cond rfl (fun hc53 => ?_) (fun hc53 => ?_)
          · replace h := iT hc53 h
            refine PWc.region ?_
            refine PWl.step (LR.move rfl) rfl ?_
            refine PWl.step (LR.move rfl) rfl ?_
            replace h := iIdx h
            obtain ⟨x54, hy55, h⟩ := h
            refine PWl.step (LR.idxT (enc := TDot.e) (L := v1) (y := x54) Tryz.underlying44 Tryz.sizeOf32 rfl rfl hy55 (fun _ => rfl)) rfl ?_
            refine PWl.step (LR.fieldEp Tryz.underlying32 rfl Tryz.sizeOf30 (by decide) rfl rfl) rfl ?_
            refine PWl.step (LR.loadEp Tryz.isAgg30 rfl rfl) rfl ?_
            refine PWl.step (LR.assign rfl) rfl ?_
            refine PWl.nil ?_
            exact ⟨x54.n, (), h, Sub.of rfl (.cons rfl rfl <| .cons rfl rfl <| .cons rfl rfl <| .cons rfl rfl <| .nil) (.nil)⟩
          · replace h := iF hc53 h
            refine PWc.skip ?_
            exact ⟨n38, (), h, Sub.of rfl (.cons rfl rfl <| .cons rfl rfl <| .cons rfl rfl <| .cons rfl rfl <| .nil) (.nil)⟩
      · rintro n41 _ h
        refine PWc.region ?_
        refine PWl.step (LR.move rfl) rfl ?_
        refine PWl.step (LR.addW rfl rfl) rfl ?_
        refine PWl.step (LR.assign rfl) rfl ?_
        refine PWl.nil ?_
        exact ⟨(n41, (IntKind.i64.wrap (i39 + 1))), (), h, Sub.of rfl (.cons rfl rfl <| .cons rfl rfl <| .cons rfl rfl <| .cons rfl rfl <| .nil) (.nil)⟩
    · replace h := iF hc40 h
      refine PWc.exit ?_
      exact ⟨n38, (), h, Sub.of rfl (.cons rfl rfl <| .nil) (.nil)⟩
  · rintro n3 _ h
    refine PWc.seq ?_
    refine PWc.region ?_
    refine PWl.step (LR.move rfl) rfl ?_
    refine PWl.step (LR.assign rfl) rfl ?_
    refine PWl.nil ?_
    refine PWc.ret ?_
    replace h : _ = r0 := h
    subst h
    exact ⟨.inr rfl, _, .cons (.tmp rfl rfl) <| .nil, rfl⟩

theorem r08_both_ok (a1 : List TDot) (b2 : List TDot) (greater3 : Bool) (r0 : List TDot) (h : (r08_both a1 b2 greater3).wp (· = r0)) : PRow Tryz.prog 116 [.d (.sl (List.map TDot.e a1)), .d (.sl (List.map TDot.e b2)), .d (.v (.bool greater3))] 32 2 (List.map TDot.e r0) := by
  refine PRow.intro (sl := [(0, _), (1, _), (2, _)]) Tryz.func116 rfl Tryz.ntmps116 rfl rfl ?_
  intro ctx hK
  refine PWc.seq ?_
  refine PWc.region ?_
  refine PWl.step (LR.assignNilRow 32 2 rfl) rfl ?_
  refine PWl.nil ?_
  refine PWc.seq ?_
  refine PWc.region ?_
  refine PWl.step (LR.assignNilRow 32 2 rfl) rfl ?_
  refine PWl.nil ?_
  refine PWc.seq ?_
  refine PWc.region ?_
  refine PWl.step (LR.move rfl) rfl ?_
  refine PWl.step (LR.move rfl) rfl ?_
  replace h := iDet h
  obtain ⟨v4, hy5, h⟩ := h
  refine PWl.step (LR.callN (r08_devs_ok a1 b2 v4 hy5) rfl Tryz.call135 rfl rfl rfl rfl) rfl ?_
  refine PWl.step (LR.assign rfl) rfl ?_
  refine PWl.nil ?_
  refine PWc.seq ?_
  refine PWc.seq ?_
  refine PWc.region ?_
  refine PWl.step (LR.assign rfl) rfl ?_
  refine PWl.nil ?_
  refine PWc.jn (iBind h) (fun (out6 : List TDot) (_ : Unit) => ⟨54, [(7, .row 7 (List.length out6))], [(7, .row 32 2 (List.map TDot.e out6))]⟩) (fun h => ?_) ?_
  · refine PWc.block ?_
    refine PWc.loopM (fun (⟨i41, out42⟩ : Int × List TDot) (_ : Unit) => ⟨54, [(0, .d (.sl (List.map TDot.e a1))), (1, .d (.sl (List.map TDot.e b2))), (2, .d (.v (.bool greater3))), (7, .row 7 (List.length out42)), (8, .d (.sl (List.map TDot.e v4))), (9, .d (.v (.int .i64 i41)))], [(7, .row 32 2 (List.map TDot.e out42))]⟩) () h (Sub.of rfl (.cons rfl rfl <| .cons rfl rfl <| .cons rfl rfl <| .cons rfl rfl <| .cons rfl rfl <| .cons rfl rfl <| .nil) (.cons rfl rfl <| .nil)) ?_
    rintro N ⟨i41, out42⟩ _ h
    refine PWc.seq ?_
    refine PWc.seq ?_
    refine PWc.region ?_
    refine PWl.step (LR.move rfl) rfl ?_
    refine PWl.step (LR.move rfl) rfl ?_
    refine PWl.step (LR.lenMap (enc := TDot.e) (L := v4) Tryz.underlying28 rfl) rfl ?_
    refine PWl.step (LR.lss rfl rfl) rfl ?_
    refine PWl.nil ?_
    refine PWc.cond rfl (fun hc43 => ?_) (fun hc43 => ?_)
    · replace h := iT hc43 h
      refine PWc.skip ?_
      refine PWc.seq ?_
      refine PWc.jn (iBind h) (fun (out44 : List TDot) (_ : Unit) => ⟨54, [(0, .d (.sl (List.map TDot.e a1))), (1, .d (.sl (List.map TDot.e b2))), (2, .d (.v (.bool greater3))), (7, .row 7 (List.length out44)), (8, .d (.sl (List.map TDot.e v4))), (9, .d (.v (.int .i64 i41)))], [(7, .row 32 2 (List.map TDot.e out44))]⟩) (fun h => ?_) ?_
      · refine PWc.block ?_
        refine PWc.seq ?_
        refine PWc.regionD (by kernel_rfl) (by kernel_rfl) ?_
        refine PQl.step (fun _ he ho => LR.move (he rfl rfl)) rfl ?_
        refine PQl.step (fun _ he ho => LR.move (he rfl rfl)) rfl ?_
        refine PQl.step (fun _ he ho => LR.move (he rfl rfl)) rfl ?_
        replace h := iIdx h
        obtain ⟨x45, hy46, h⟩ := h
        refine PQl.step (fun _ he ho => LR.idxT (enc := TDot.e) (L := v4) (y := x45) Tryz.underlying28 Tryz.sizeOf32 (he rfl rfl) (he rfl rfl) hy46 (fun _ => rfl)) rfl ?_
        refine PQl.step (fun _ he ho => LR.fieldEp Tryz.underlying32 rfl Tryz.sizeOf29 (by decide) rfl (he rfl rfl)) rfl ?_
        refine PQl.step (fun _ he ho => LR.loadEp Tryz.isAgg29 (he rfl rfl) rfl) rfl ?_
        replace h := iDet h
        obtain ⟨v47, hy48, h⟩ := h
        refine PQl.step (fun _ he ho => LR.callN (r08_Of_ok a1 x45.dev v47 hy48) (he rfl rfl) Tryz.call136 (evsE he rfl rfl) rfl rfl rfl) rfl ?_
        refine PQl.step (fun _ he ho => LR.move (he rfl rfl)) rfl ?_
        refine PQl.step (fun _ he ho => LR.move (he rfl rfl)) rfl ?_
        refine PQl.step (fun _ he ho => LR.move (he rfl rfl)) rfl ?_
        replace h := iIdx h
        obtain ⟨x49, hy50, h⟩ := h
        refine PQl.step (fun _ he ho => LR.idxT (enc := TDot.e) (L := v4) (y := x49) Tryz.underlying28 Tryz.sizeOf32 (he rfl rfl) (he rfl rfl) hy50 (fun _ => rfl)) rfl ?_
        refine PQl.step (fun _ he ho => LR.fieldEp Tryz.underlying32 rfl Tryz.sizeOf29 (by decide) rfl (he rfl rfl)) rfl ?_
        refine PQl.step (fun _ he ho => LR.loadEp Tryz.isAgg29 (he rfl rfl) rfl) rfl ?_
        replace h := iDet h
        obtain ⟨v51, hy52, h⟩ := h
        refine PQl.step (fun _ he ho => LR.callN (r08_Of_ok b2 x49.dev v51 hy52) (he rfl rfl) Tryz.call136 (evsE he rfl rfl) rfl rfl rfl) rfl ?_
        refine PQl.step (fun _ he ho => LR.assign (he rfl rfl)) rfl ?_
        refine PQl.step (fun _ he ho => LR.assign (he rfl rfl)) rfl ?_
        refine PQl.nil ?_
        refine PWc.seq ?_
        refine PWc.seq ?_
        refine PWc.re (tl := [(0, _), (1, _), (2, _), (7, _), (8, _), (9, _), (10, _), (11, _)]) (to := [(7, _)]) rfl (.cons rfl rfl <| .cons rfl rfl <| .cons rfl rfl <| .cons rfl rfl <| .cons rfl rfl <| .cons rfl rfl <| .cons rfl rfl <| .cons rfl rfl <| .nil) (.cons rfl rfl <| .nil) ?_
        refine PWc.region ?_
        refine PWl.step (LR.move rfl) rfl ?_
        refine PWl.step (LR.move rfl) rfl ?_
        refine PWl.step (LR.move rfl) rfl ?_
        refine PWl.step (LR.lss rfl rfl) rfl ?_
        refine PWl.step (LR.eqlBool Tryz.underlying4 rfl rfl) rfl ?_
        refine PWl.nil ?_
        refine PWc.jn (iBind h) (fun (x53 : Int) (_ : Unit) => ⟨54, [(0, .d (.sl (List.map TDot.e a1))), (1, .d (.sl (List.map TDot.e b2))), (2, .d (.v (.bool greater3))), (7, .row 7 (List.length out42)), (8, .d (.sl (List.map TDot.e v4))), (9, .d (.v (.int .i64 i41))), (10, .d (.v (.int .u64 x53)))], [(7, .row 32 2 (List.map TDot.e out42))]⟩) (fun h => ?_) ?_
        · refine PWc.cond rfl (fun hc54 => ?_) (fun hc54 => ?_)
          · replace h := iT hc54 h
            refine PWc.region ?_
            refine PWl.step (LR.move rfl) rfl ?_
            refine PWl.step (LR.assign rfl) rfl ?_
            refine PWl.nil ?_
            exact ⟨v51, (), h, Sub.of rfl (.cons rfl rfl <| .cons rfl rfl <| .cons rfl rfl <| .cons rfl rfl <| .cons rfl rfl <| .cons rfl rfl <| .cons rfl rfl <| .nil) (.cons rfl rfl <| .nil)⟩
          · replace h := iF hc54 h
            refine PWc.skip ?_
            exact ⟨v47, (), h, Sub.of rfl (.cons rfl rfl <| .cons rfl rfl <| .cons rfl rfl <| .cons rfl rfl <| .cons rfl rfl <| .cons rfl rfl <| .cons rfl rfl <| .nil) (.cons rfl rfl <| .nil)⟩
        · rintro x53 _ h
          refine PWc.seq ?_
          refine PWc.region ?_
          refine PWl.step (LR.move rfl) rfl ?_
          refine PWl.step (LR.gtr rfl rfl) rfl ?_
          refine PWl.nil ?_
          refine PWc.cond rfl (fun hc55 => ?_) (fun hc55 => ?_)
          · replace h := iT hc55 h
            refine PWc.region ?_
            refine PWl.step (LR.move rfl) rfl ?_
            refine PWl.step (LR.move rfl) rfl ?_
            refine PWl.step (LR.move rfl) rfl ?_
            replace h := iIdx h
            obtain ⟨x56, hy57, h⟩ := h
            refine PWl.step (LR.idxT (enc := TDot.e) (L := v4) (y := x56) Tryz.underlying28 Tryz.sizeOf32 rfl rfl hy57 (fun _ => rfl)) rfl ?_
            refine PWl.step (LR.fieldEp Tryz.underlying32 rfl Tryz.sizeOf29 (by decide) rfl rfl) rfl ?_
            refine PWl.step (LR.loadEp Tryz.isAgg29 rfl rfl) rfl ?_
            refine PWl.step (LR.move rfl) rfl ?_
            refine PWl.step (LR.build (ns := [_, _]) build32 rfl rfl rfl) rfl ?_
            refine PWl.step (LR.buildSliceD [.tmp 50] elem44 rfl rfl (.cons rfl rfl rfl <| .nil) (by decide) (by decide)) rfl ?_
            replace h := iNeed h
            obtain ⟨hy58, h⟩ := h
            refine PWl.step (LR.appT (enc := TDot.e) (L := out42) (R := [(⟨x56.dev, x53⟩ : TDot)]) [7, 43] elem44 Tryz.underlying44 rfl rfl rfl (Src.slT (enc := TDot.e) (R := [(⟨x56.dev, x53⟩ : TDot)]) rfl (fun _ => rfl)) (fun _ => rfl) hy58 rfl rfl) rfl ?_
            refine PWl.step (LR.assign rfl) rfl ?_
            refine PWl.nil ?_
            exact ⟨(out42 ++ [(⟨x56.dev, x53⟩ : TDot)]), (), h, Sub.of rfl (.cons rfl rfl <| .cons rfl rfl <| .cons rfl rfl <| .cons rfl rfl <| .cons rfl rfl <| .cons rfl rfl <| .nil) (.cons rfl rfl <| .nil)⟩
          · replace h := iF hc55 h
            refine PWc.skip ?_
            exact ⟨out42, (), h, Sub.of rfl (.cons rfl rfl <| .cons rfl rfl <| .cons rfl rfl <| .cons rfl rfl <| .cons rfl rfl <| .cons rfl rfl <| .nil) (.cons rfl rfl <| .nil)⟩
      · rintro out44 _ h
        refine PWc.region ?_
        refine PWl.step (LR.move rfl) rfl ?_
        refine PWl.step (LR.addW rfl rfl) rfl ?_
        refine PWl.step (LR.assign rfl) rfl ?_
        refine PWl.nil ?_
        exact ⟨((IntKind.i64.wrap (i41 + 1)), out44), (), h, Sub.of rfl (.cons rfl rfl <| .cons rfl rfl <| .cons rfl rfl <| .cons rfl rfl <| .cons rfl rfl <| .cons rfl rfl <| .nil) (.cons rfl rfl <| .nil)⟩
    · replace h := iF hc43 h
      refine PWc.exit ?_
      exact ⟨out42, (), h, Sub.of rfl (.cons rfl rfl <| .nil) (.cons rfl rfl <| .nil)⟩
  · rintro out6 _ h
    refine PWc.seq ?_
    refine PWc.region ?_
    refine PWl.step (LR.move rfl) rfl ?_
    refine PWl.step (LR.assign rfl) rfl ?_
    refine PWl.nil ?_
    refine PWc.ret ?_
    replace h : _ = r0 := h
    subst h
    exact ⟨.inr rfl, 6, rfl, .inr ⟨7, _, rfl, (by simp), rfl⟩⟩

theorem r08_Norm_ok (v1 : List TDot) (r0 : List TDot) (h : (r08_Norm v1).wp (· = r0)) : PRow Tryz.prog 78 [.d (.sl (List.map TDot.e v1))] 32 2 (List.map TDot.e r0) := by
  refine PRow.intro (sl := [(0, _)]) Tryz.func78 rfl Tryz.ntmps78 rfl rfl ?_
  intro ctx hK
  refine PWc.seq ?_
  refine PWc.region ?_
  refine PWl.step (LR.assignNilRow 32 2 rfl) rfl ?_
  refine PWl.nil ?_
  refine PWc.seq ?_
  refine PWc.region ?_
  refine PWl.step (LR.move rfl) rfl ?_
  replace h := iDet h
  obtain ⟨v2, hy3, h⟩ := h
  refine PWl.step (LR.rowN (r08_both_ok v1 ([] : List TDot) true v2 hy3) rfl Tryz.call116 rfl rfl rfl rfl) rfl ?_
  refine PWl.re (tl := [(0, _), (3, _), (4, _)]) (to := [(4, _)]) rfl (.cons rfl rfl <| .cons rfl rfl <| .cons rfl rfl <| .nil) (.cons rfl rfl <| .nil) ?_
  refine PWl.step (LR.assign rfl) rfl ?_
  refine PWl.nil ?_
  refine PWc.ret ?_
  replace h : _ = r0 := h
  subst h
  exact ⟨.inr rfl, 2, rfl, .inr ⟨4, _, rfl, (by simp), rfl⟩⟩

theorem r09_Plain_ok (v1 : List TDot) (r0 : List TPart) (h : (r09_Plain v1).wp (· = r0)) : PRow Tryz.prog 40 [.d (.sl (List.map TDot.e v1))] 80 2 (List.map TPart.e r0) := by
  refine PRow.intro (sl := [(0, _)]) Tryz.func40 rfl Tryz.ntmps40 rfl rfl ?_
  intro ctx hK
  refine PWc.seq ?_
  refine PWc.region ?_
  refine PWl.step (LR.assignNilRow 80 2 rfl) rfl ?_
  refine PWl.nil ?_
  refine PWc.seq ?_
  refine PWc.region ?_
  refine PWl.step (LR.move rfl) rfl ?_
  replace h := iDet h
  obtain ⟨v2, hy3, h⟩ := h
  refine PWl.step (LR.rowN (r08_Norm_ok v1 v2 hy3) rfl Tryz.call78 rfl rfl rfl rfl) rfl ?_
  refine PWl.step (LR.assign rfl) rfl ?_
  refine PWl.nil ?_
  refine PWc.seq ?_
  refine PWc.region ?_
  refine PWl.step (LR.assignNilRow 80 2 rfl) rfl ?_
  refine PWl.nil ?_
  refine PWc.seq ?_
  refine PWc.seq ?_
  refine PWc.region ?_
  refine PWl.step (LR.assign rfl) rfl ?_
  refine PWl.nil ?_
  refine PWc.jn (iBind h) (fun (out4 : List TPart) (_ : Unit) => ⟨30, [(3, .row 3 (List.length out4))], [(3, .row 80 2 (List.map TPart.e out4))]⟩) (fun h => ?_) ?_
  · refine PWc.block ?_
    refine PWc.loopM (fun (⟨i19, out20⟩ : Int × List TPart) (_ : Unit) => ⟨30, [(0, .row 6 (List.length v2)), (3, .row 3 (List.length out20)), (4, .d (.v (.int .i64 i19)))], [(3, .row 80 2 (List.map TPart.e out20)), (6, .row 32 2 (List.map TDot.e v2))]⟩) () h (Sub.of rfl (.cons rfl rfl <| .cons rfl rfl <| .cons rfl rfl <| .nil) (.cons rfl rfl <| .cons rfl rfl <| .nil)) ?_
    rintro N ⟨i19, out20⟩ _ h
    refine PWc.seq ?_
    refine PWc.seq ?_
    refine PWc.region ?_
    refine PWl.step (LR.move rfl) rfl ?_
    refine PWl.step (LR.move rfl) rfl ?_
    refine PWl.step (LR.lenRow Tryz.underlying44 rfl) rfl ?_
    refine PWl.step (LR.lss rfl rfl) rfl ?_
    refine PWl.nil ?_
    refine PWc.cond rfl (fun hc21 => ?_) (fun hc21 => ?_)
    · replace h := iT hc21 h
      refine PWc.skip ?_
      refine PWc.seq ?_
      refine PWc.block ?_
      refine PWc.re (tl := [(0, _), (3, _), (4, _)]) (to := [(3, _), (6, _)]) rfl (.cons rfl rfl <| .cons rfl rfl <| .cons rfl rfl <| .nil) (.cons rfl rfl <| .cons rfl rfl <| .nil) ?_
      refine PWc.regionE [⟨[13], [], [], [], [], [3], [], []⟩, ⟨[14], [], [], [], [], [6], [], []⟩, ⟨[15], [], [], [], [], [], [], []⟩, ⟨[16], [], [], [], [], [6], [], []⟩, ⟨[17], [], [], [], [], [6], [], []⟩, ⟨[18], [], [6], [], [], [], [], []⟩, ⟨[19], [], [], [], [], [6], [], []⟩, ⟨[20], [], [], [], [], [], [], []⟩, ⟨[21], [], [], [], [], [6], [], []⟩, ⟨[22], [], [], [], [], [6], [], []⟩, ⟨[23], [], [6], [], [], [], [], []⟩, ⟨[24], [], [], [], [], [], [], []⟩, ⟨[25], [], [], [], [], [], [], []⟩, ⟨[26], [], [], [], [], [], [], []⟩, ⟨[27], [], [], [], [], [], [], []⟩, ⟨[3, 13, 28], [3], [3], [], [(3, [3, 13])], [3], [], []⟩, ⟨[3], [], [], [], [], [3], [], []⟩] (by kernel_rfl) (by kernel_rfl) rfl ?_
      refine PQe.stepP (fun _ he ho => LR.move (he rfl rfl)) (.inl rfl) rfl ?_
      refine PQe.stepP (fun _ he ho => LR.move (he rfl rfl)) (.inl rfl) rfl ?_
      refine PQe.stepP (fun _ he ho => LR.move (he rfl rfl)) (.inl rfl) rfl ?_
      replace h := iIdx h
      obtain ⟨x22, hy23, h⟩ := h
      refine PQe.stepP (fun _ he ho => LR.idxRowT (L := v2) (y := x22) Tryz.underlying44 Tryz.sizeOf32 (he rfl rfl) rfl (he rfl rfl) hy23) (.inl rfl) rfl ?_
      refine PQe.stepP (fun _ he ho => LR.fieldRp Tryz.underlying32 rfl Tryz.sizeOf29 (by decide) rfl (he rfl rfl)) (.inl rfl) rfl ?_
      refine PQe.stepP (fun _ he ho => LR.loadRpF (enc := TDot.e) (L := v2) (y := x22) Tryz.isAgg29 (he rfl rfl) (ho rfl rfl) hy23.2 rfl) (.inl rfl) rfl ?_
      refine PQe.stepP (fun _ he ho => LR.move (he rfl rfl)) (.inl rfl) rfl ?_
      refine PQe.stepP (fun _ he ho => LR.move (he rfl rfl)) (.inl rfl) rfl ?_
      replace h := iIdx h
      obtain ⟨x24, hy25, h⟩ := h
      refine PQe.stepP (fun _ he ho => LR.idxRowT (L := v2) (y := x24) Tryz.underlying44 Tryz.sizeOf32 (he rfl rfl) rfl (he rfl rfl) hy25) (.inl rfl) rfl ?_
      refine PQe.stepP (fun _ he ho => LR.fieldRp Tryz.underlying32 rfl Tryz.sizeOf30 (by decide) rfl (he rfl rfl)) (.inl rfl) rfl ?_
      refine PQe.stepP (fun _ he ho => LR.loadRpF (enc := TDot.e) (L := v2) (y := x24) Tryz.isAgg30 (he rfl rfl) (ho rfl rfl) hy25.2 rfl) (.inl rfl) rfl ?_
      refine PQe.stepP (fun _ he ho => LR.build (ns := [_, _]) build89 rfl (evpE he rfl rfl) rfl) (.inl rfl) rfl ?_
      refine PQe.stepP (fun _ he ho => LR.buildSliceD [.tmp 24] elem37 rfl rfl (.cons (he rfl rfl) rfl rfl <| .nil) (by decide) (by decide)) (.inl rfl) rfl ?_
      refine PQe.stepP (fun _ he ho => LR.build (ns := [_, _]) build80 rfl (evpE he rfl rfl) rfl) (.inl rfl) rfl ?_
      refine PQe.stepP (fun _ he ho => LR.buildSliceD [.tmp 26] elem23 rfl rfl (.cons (he rfl rfl) rfl rfl <| .nil) (by decide) (by decide)) (.inl rfl) rfl ?_
      replace h := iNeed h
      obtain ⟨hy26, h⟩ := h
      refine PQe.stepA [3, 13] (fun _ he ho ha => LR.appT (enc := TPart.e) (L := out20) (R := [(⟨x22.dev, [(⟨1, x24.n⟩ : TRun)]⟩ : TPart)]) [3, 13] elem23 Tryz.underlying23 (he rfl rfl) rfl (ho rfl rfl) (Src.slT (enc := TPart.e) (R := [(⟨x22.dev, [(⟨1, x24.n⟩ : TRun)]⟩ : TPart)]) (he rfl rfl) (fun _ => rfl)) (fun _ => rfl) hy26 rfl ha) rfl (.inl rfl) rfl ?_
      refine PQe.stepP (fun _ he ho => LR.assign (he rfl rfl)) (.inl rfl) rfl ?_
      refine PQe.nil ?_
      refine PWc.region ?_
      refine PWl.step (LR.move rfl) rfl ?_
      refine PWl.re (tl := [(0, _), (3, _), (4, _), (11, _)]) (to := [(3, _), (6, _)]) rfl (.cons rfl rfl <| .cons rfl rfl <| .cons rfl rfl <| .cons rfl rfl <| .nil) (.cons rfl rfl <| .cons rfl rfl <| .nil) ?_
      refine PWl.step (LR.addW rfl rfl) rfl ?_
      refine PWl.step (LR.assign rfl) rfl ?_
      refine PWl.nil ?_
      exact ⟨((IntKind.i64.wrap (i19 + 1)), (out20 ++ [(⟨x22.dev, [(⟨1, x24.n⟩ : TRun)]⟩ : TPart)])), (), h, Sub.of rfl (.cons rfl rfl <| .cons rfl (by first | rfl | (simp; done) | (congr 1; first | (simp; done) | (simp; omega))) <| .cons rfl rfl <| .nil) (.cons rfl rfl <| .cons rfl rfl <| .nil)⟩
    · replace h := iF hc21 h
      refine PWc.exit ?_
      exact ⟨out20, (), h, Sub.of rfl (.cons rfl rfl <| .nil) (.cons rfl rfl <| .nil)⟩
  · rintro out4 _ h
    refine PWc.seq ?_
    refine PWc.region ?_
    refine PWl.step (LR.move rfl) rfl ?_
    refine PWl.step (LR.assign rfl) rfl ?_
    refine PWl.nil ?_
    refine PWc.ret ?_
    replace h : _ = r0 := h
    subst h
    exact ⟨.inr rfl, 2, rfl, .inr ⟨3, _, rfl, (by simp), rfl⟩⟩
end Go.Proofs

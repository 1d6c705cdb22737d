/- Walks: written by program. -/
import Derived.Test.YtacnidaafcfgiaaGreatDFc
import Derived.Test.YtacnidaafcfgiaaGreatDSh
import Derived.Test.YtacnidaafcfgiaaGreatDSx
import Derived.Test.YtacnidaafcfgiaaGreatTl
import Derived.Test.YtacnidaafcfgiaaGreatSr
import Derived.Test.YtacnidaafcfgiaaGreatDr
import Derived.Test.YtacnidaafcfgiaaGreatOb
import Derived.Test.YtacnidaafcfgiaaGreatOe
import Derived.Test.YtacnidaafcfgiaaGreatLs
import Derived.Test.YtacnidaafcfgiaaGreatTl
import Derived.Test.YtacnidaafcfgiaaGreatStr
import Derived.Test.YtacnidaafcfgiaaGreatPc
import Derived.Test.YtacnidaafcfgiaaGreatDW0
import Derived.Test.YtacnidaafcfgiaaGreatDW6
namespace Go.Proofs
open Go.Ep
set_option maxHeartbeats 1000000
set_option maxRecDepth 100000
set_option linter.unusedVariables false
set_option linter.unusedSimpArgs false


theorem r09_devs_ok (a1 : List TPart) (b2 : List TPart) (r0 : List TDot) (h : (r09_devs a1 b2).wp (· = r0)) : PFun Tryz.prog 95 [.d (.sl (List.map TPart.e a1)), .d (.sl (List.map TPart.e b2))] (.d (.sl (List.map TDot.e r0))) := by
  refine PFun.intro (sl := [(0, _), (1, _)]) Tryz.func95 rfl Tryz.ntmps95 rfl rfl ?_
  intro ctx hK
  refine PWc.seq ?_
  refine PWc.region ?_
  refine PWl.step (LR.assignNilRow 32 2 rfl) rfl ?_
  refine PWl.nil ?_
  refine PWc.seq ?_
  refine PWc.region ?_
  refine PWl.step (LR.assignNilRow 32 2 rfl) rfl ?_
  refine PWl.nil ?_
  refine PWc.seq ?_
  refine PWc.seq ?_
  refine PWc.region ?_
  refine PWl.step (LR.assign rfl) rfl ?_
  refine PWl.nil ?_
  refine PWc.jn (iBind h) (fun (out3 : List TDot) (_ : Unit) => ⟨37, [(1, .d (.sl (List.map TPart.e b2))), (5, .d (.sl (List.map TDot.e out3)))], []⟩) (fun h => ?_) ?_
  · refine PWc.block ?_
    refine PWc.loopM (fun (⟨out16, i17⟩ : List TDot × Int) (_ : Unit) => ⟨37, [(0, .d (.sl (List.map TPart.e a1))), (1, .d (.sl (List.map TPart.e b2))), (5, .d (.sl (List.map TDot.e out16))), (6, .d (.v (.int .i64 i17)))], []⟩) () h (Sub.trans (Sub.frz [5] hK rfl (by first | (simp; done) | (simp; omega) | omega) (AllRow.get (.cons rfl <| .nil))) <| Sub.of rfl (.cons rfl rfl <| .cons rfl rfl <| .cons rfl rfl <| .cons rfl rfl <| .nil) (.nil)) ?_
    rintro N ⟨out16, i17⟩ _ h
    refine PWc.seq ?_
    refine PWc.seq ?_
    refine PWc.region ?_
    refine PWl.step (LR.move rfl) rfl ?_
    refine PWl.step (LR.move rfl) rfl ?_
    refine PWl.step (LR.lenMap (enc := TPart.e) (L := a1) Tryz.underlying23 rfl) rfl ?_
    refine PWl.step (LR.lss rfl rfl) rfl ?_
    refine PWl.nil ?_
    refine PWc.cond rfl (fun hc18 => ?_) (fun hc18 => ?_)
    · replace h := iT hc18 h
      refine PWc.skip ?_
      refine PWc.seq ?_
      refine PWc.block ?_
      refine PWc.region ?_
      refine PWl.step (LR.move rfl) rfl ?_
      refine PWl.step (LR.move rfl) rfl ?_
      refine PWl.step (LR.move rfl) rfl ?_
      replace h := iIdx h
      obtain ⟨x19, hy20, h⟩ := h
      refine PWl.step (LR.idxT (enc := TPart.e) (L := a1) (y := x19) Tryz.underlying23 Tryz.sizeOf80 rfl rfl hy20 (fun _ => rfl)) rfl ?_
      refine PWl.step (LR.fieldEp Tryz.underlying80 rfl Tryz.sizeOf29 (by decide) rfl rfl) rfl ?_
      refine PWl.step (LR.loadEp Tryz.isAgg29 rfl rfl) rfl ?_
      refine PWl.step (LR.build (ns := [_, _]) build32 rfl rfl rfl) rfl ?_
      replace h := iDet h
      obtain ⟨v21, hy22, h⟩ := h
      refine PWl.step (LR.rowN (r07_Put_ok out16 (⟨x19.dev, 1⟩ : TDot) v21 hy22) rfl Tryz.call126 rfl rfl rfl rfl) rfl ?_
      refine PWl.step (LR.assign rfl) rfl ?_
      refine PWl.nil ?_
      refine PWc.region ?_
      refine PWl.step (LR.move rfl) rfl ?_
      refine PWl.step (LR.addW rfl rfl) rfl ?_
      refine PWl.step (LR.assign rfl) rfl ?_
      refine PWl.nil ?_
      exact ⟨(v21, (IntKind.i64.wrap (i17 + 1))), (), h, Sub.trans (Sub.frz [5, 21] hK rfl (by simp) (AllRow.get (.cons rfl <| .cons rfl <| .nil))) <| Sub.of rfl (.cons rfl rfl <| .cons rfl rfl <| .cons rfl rfl <| .cons rfl rfl <| .nil) (.nil)⟩
    · replace h := iF hc18 h
      refine PWc.exit ?_
      exact ⟨out16, (), h, Sub.of rfl (.cons rfl rfl <| .cons rfl rfl <| .nil) (.nil)⟩
  · rintro out3 _ h
    refine PWc.seq ?_
    refine PWc.seq ?_
    refine PWc.region ?_
    refine PWl.step (LR.assign rfl) rfl ?_
    refine PWl.nil ?_
    refine PWc.jn (iBind h) (fun (out23 : List TDot) (_ : Unit) => ⟨37, [(5, .d (.sl (List.map TDot.e out23)))], []⟩) (fun h => ?_) ?_
    · refine PWc.block ?_
      refine PWc.loopM (fun (⟨out36, i37⟩ : List TDot × Int) (_ : Unit) => ⟨37, [(1, .d (.sl (List.map TPart.e b2))), (5, .d (.sl (List.map TDot.e out36))), (7, .d (.v (.int .i64 i37)))], []⟩) () h (Sub.of rfl (.cons rfl rfl <| .cons rfl rfl <| .cons rfl rfl <| .nil) (.nil)) ?_
      rintro N ⟨out36, i37⟩ _ h
      refine PWc.seq ?_
      refine PWc.seq ?_
      refine PWc.region ?_
      refine PWl.step (LR.move rfl) rfl ?_
      refine PWl.step (LR.move rfl) rfl ?_
      refine PWl.step (LR.lenMap (enc := TPart.e) (L := b2) Tryz.underlying23 rfl) rfl ?_
      refine PWl.step (LR.lss rfl rfl) rfl ?_
      refine PWl.nil ?_
      refine PWc.cond rfl (fun hc38 => ?_) (fun hc38 => ?_)
      · replace h := iT hc38 h
        refine PWc.skip ?_
        refine PWc.seq ?_
        refine PWc.block ?_
        refine PWc.region ?_
        refine PWl.step (LR.move rfl) rfl ?_
        refine PWl.step (LR.move rfl) rfl ?_
        refine PWl.step (LR.move rfl) rfl ?_
        replace h := iIdx h
        obtain ⟨x39, hy40, h⟩ := h
        refine PWl.step (LR.idxT (enc := TPart.e) (L := b2) (y := x39) Tryz.underlying23 Tryz.sizeOf80 rfl rfl hy40 (fun _ => rfl)) rfl ?_
        refine PWl.step (LR.fieldEp Tryz.underlying80 rfl Tryz.sizeOf29 (by decide) rfl rfl) rfl ?_
        refine PWl.step (LR.loadEp Tryz.isAgg29 rfl rfl) rfl ?_
        refine PWl.step (LR.build (ns := [_, _]) build32 rfl rfl rfl) rfl ?_
        replace h := iDet h
        obtain ⟨v41, hy42, h⟩ := h
        refine PWl.step (LR.rowN (r07_Put_ok out36 (⟨x39.dev, 1⟩ : TDot) v41 hy42) rfl Tryz.call126 rfl rfl rfl rfl) rfl ?_
        refine PWl.step (LR.assign rfl) rfl ?_
        refine PWl.nil ?_
        refine PWc.region ?_
        refine PWl.step (LR.move rfl) rfl ?_
        refine PWl.step (LR.addW rfl rfl) rfl ?_
        refine PWl.step (LR.assign rfl) rfl ?_
        refine PWl.nil ?_
        exact ⟨(v41, (IntKind.i64.wrap (i37 + 1))), (), h, Sub.trans (Sub.frz [5, 35] hK rfl (by simp) (AllRow.get (.cons rfl <| .cons rfl <| .nil))) <| Sub.of rfl (.cons rfl rfl <| .cons rfl rfl <| .cons rfl rfl <| .nil) (.nil)⟩
      · replace h := iF hc38 h
        refine PWc.exit ?_
        exact ⟨out36, (), h, Sub.of rfl (.cons rfl rfl <| .nil) (.nil)⟩
    · rintro out23 _ h
      refine PWc.seq ?_
      refine PWc.region ?_
      refine PWl.step (LR.move rfl) rfl ?_
      refine PWl.step (LR.assign rfl) rfl ?_
      refine PWl.nil ?_
      refine PWc.ret ?_
      replace h : _ = r0 := h
      subst h
      exact ⟨.inr rfl, _, .cons (.tmp rfl rfl) <| .nil, rfl⟩

theorem r06_Meet_ok (a1 : List TRun) (b2 : List TRun) (r0 : List TRun) (h : (r06_Meet a1 b2).wp (· = r0)) : PRow Tryz.prog 96 [.d (.sl (List.map TRun.e a1)), .d (.sl (List.map TRun.e b2))] 89 2 (List.map TRun.e r0) := by
  refine PRow.intro (sl := [(0, _), (1, _)]) Tryz.func96 rfl Tryz.ntmps96 rfl rfl ?_
  intro ctx hK
  refine PWc.seq ?_
  refine PWc.region ?_
  refine PWl.step (LR.assignNilRow 89 2 rfl) rfl ?_
  refine PWl.nil ?_
  refine PWc.seq ?_
  refine PWc.region ?_
  refine PWl.step (LR.move rfl) rfl ?_
  refine PWl.step (LR.move rfl) rfl ?_
  replace h := iDet h
  obtain ⟨v3, hy4, h⟩ := h
  refine PWl.step (LR.rowN (r06_set_ok a1 b2 1 v3 hy4) rfl Tryz.call108 rfl rfl rfl rfl) rfl ?_
  refine PWl.re (tl := [(0, _), (1, _), (5, _), (6, _), (7, _)]) (to := [(7, _)]) rfl (.cons rfl rfl <| .cons rfl rfl <| .cons rfl rfl <| .cons rfl rfl <| .cons rfl rfl <| .nil) (.cons rfl rfl <| .nil) ?_
  refine PWl.step (LR.assign rfl) rfl ?_
  refine PWl.nil ?_
  refine PWc.ret ?_
  replace h : _ = r0 := h
  subst h
  exact ⟨.inr rfl, 4, rfl, .inr ⟨7, _, rfl, (by simp), rfl⟩⟩

theorem r06_Minus_ok (a1 : List TRun) (b2 : List TRun) (r0 : List TRun) (h : (r06_Minus a1 b2).wp (· = r0)) : PRow Tryz.prog 97 [.d (.sl (List.map TRun.e a1)), .d (.sl (List.map TRun.e b2))] 89 2 (List.map TRun.e r0) := by
  refine PRow.intro (sl := [(0, _), (1, _)]) Tryz.func97 rfl Tryz.ntmps97 rfl rfl ?_
  intro ctx hK
  refine PWc.seq ?_
  refine PWc.region ?_
  refine PWl.step (LR.assignNilRow 89 2 rfl) rfl ?_
  refine PWl.nil ?_
  refine PWc.seq ?_
  refine PWc.region ?_
  refine PWl.step (LR.move rfl) rfl ?_
  refine PWl.step (LR.move rfl) rfl ?_
  replace h := iDet h
  obtain ⟨v3, hy4, h⟩ := h
  refine PWl.step (LR.rowN (r06_set_ok a1 b2 2 v3 hy4) rfl Tryz.call108 rfl rfl rfl rfl) rfl ?_
  refine PWl.re (tl := [(0, _), (1, _), (5, _), (6, _), (7, _)]) (to := [(7, _)]) rfl (.cons rfl rfl <| .cons rfl rfl <| .cons rfl rfl <| .cons rfl rfl <| .cons rfl rfl <| .nil) (.cons rfl rfl <| .nil) ?_
  refine PWl.step (LR.assign rfl) rfl ?_
  refine PWl.nil ?_
  refine PWc.ret ?_
  replace h : _ = r0 := h
  subst h
  exact ⟨.inr rfl, 4, rfl, .inr ⟨7, _, rfl, (by simp), rfl⟩⟩

theorem r09_set_ok (a1 : List TPart) (b2 : List TPart) (how3 : Int) (r0 : List TPart) (h : (r09_set a1 b2 how3).wp (· = r0)) : PRow Tryz.prog 61 [.d (.sl (List.map TPart.e a1)), .d (.sl (List.map TPart.e b2)), .d (.v (.int .i64 how3))] 80 2 (List.map TPart.e r0) := by
  refine PRow.intro (sl := [(0, _), (1, _), (2, _)]) Tryz.func61 rfl Tryz.ntmps61 rfl rfl ?_
  intro ctx hK
  refine PWc.seq ?_
  refine PWc.region ?_
  refine PWl.step (LR.assignNilRow 80 2 rfl) rfl ?_
  refine PWl.nil ?_
  refine PWc.seq ?_
  refine PWc.region ?_
  refine PWl.step (LR.assignNilRow 80 2 rfl) rfl ?_
  refine PWl.nil ?_
  refine PWc.seq ?_
  refine PWc.region ?_
  refine PWl.step (LR.move rfl) rfl ?_
  refine PWl.step (LR.move rfl) rfl ?_
  replace h := iDet h
  obtain ⟨v4, hy5, h⟩ := h
  refine PWl.step (LR.callN (r09_devs_ok a1 b2 v4 hy5) rfl Tryz.call95 rfl rfl rfl rfl) rfl ?_
  refine PWl.step (LR.assign rfl) rfl ?_
  refine PWl.nil ?_
  refine PWc.seq ?_
  refine PWc.seq ?_
  refine PWc.region ?_
  refine PWl.step (LR.assign rfl) rfl ?_
  refine PWl.nil ?_
  refine PWc.jn (iBind h) (fun (out6 : List TPart) (_ : Unit) => ⟨63, [(7, .row 7 (List.length out6))], [(7, .row 80 2 (List.map TPart.e out6))]⟩) (fun h => ?_) ?_
  · refine PWc.block ?_
    refine PWc.loopM (fun (⟨i57, out58⟩ : Int × List TPart) (_ : Unit) => ⟨63, [(0, .d (.sl (List.map TPart.e a1))), (1, .d (.sl (List.map TPart.e b2))), (2, .d (.v (.int .i64 how3))), (7, .row 7 (List.length out58)), (8, .d (.sl (List.map TDot.e v4))), (9, .d (.v (.int .i64 i57)))], [(7, .row 80 2 (List.map TPart.e out58))]⟩) () h (Sub.of rfl (.cons rfl rfl <| .cons rfl rfl <| .cons rfl rfl <| .cons rfl rfl <| .cons rfl rfl <| .cons rfl rfl <| .nil) (.cons rfl rfl <| .nil)) ?_
    rintro N ⟨i57, out58⟩ _ h
    refine PWc.seq ?_
    refine PWc.seq ?_
    refine PWc.region ?_
    refine PWl.step (LR.move rfl) rfl ?_
    refine PWl.step (LR.move rfl) rfl ?_
    refine PWl.step (LR.lenMap (enc := TDot.e) (L := v4) Tryz.underlying28 rfl) rfl ?_
    refine PWl.step (LR.lss rfl rfl) rfl ?_
    refine PWl.nil ?_
    refine PWc.cond rfl (fun hc59 => ?_) (fun hc59 => ?_)
    · replace h := iT hc59 h
      refine PWc.skip ?_
      refine PWc.seq ?_
      refine PWc.jn (iBind h) (fun (out60 : List TPart) (_ : Unit) => ⟨63, [(0, .d (.sl (List.map TPart.e a1))), (1, .d (.sl (List.map TPart.e b2))), (2, .d (.v (.int .i64 how3))), (7, .row 7 (List.length out60)), (8, .d (.sl (List.map TDot.e v4))), (9, .d (.v (.int .i64 i57)))], [(7, .row 80 2 (List.map TPart.e out60))]⟩) (fun h => ?_) ?_
      · refine PWc.block ?_
        refine PWc.seq ?_
        refine PWc.regionD (by kernel_rfl) (by kernel_rfl) ?_
        refine PQl.step (fun _ he ho => LR.move (he rfl rfl)) rfl ?_
        refine PQl.step (fun _ he ho => LR.move (he rfl rfl)) rfl ?_
        refine PQl.step (fun _ he ho => LR.move (he rfl rfl)) rfl ?_
        replace h := iIdx h
        obtain ⟨x61, hy62, h⟩ := h
        refine PQl.step (fun _ he ho => LR.idxT (enc := TDot.e) (L := v4) (y := x61) Tryz.underlying28 Tryz.sizeOf32 (he rfl rfl) (he rfl rfl) hy62 (fun _ => rfl)) rfl ?_
        refine PQl.step (fun _ he ho => LR.fieldEp Tryz.underlying32 rfl Tryz.sizeOf29 (by decide) rfl (he rfl rfl)) rfl ?_
        refine PQl.step (fun _ he ho => LR.loadEp Tryz.isAgg29 (he rfl rfl) rfl) rfl ?_
        replace h := iDet h
        obtain ⟨v63, hy64, h⟩ := h
        refine PQl.step (fun _ he ho => LR.callN (r09_Runs_ok a1 x61.dev v63 hy64) (he rfl rfl) Tryz.call28 (evsE he rfl rfl) rfl rfl rfl) rfl ?_
        refine PQl.step (fun _ he ho => LR.move (he rfl rfl)) rfl ?_
        refine PQl.step (fun _ he ho => LR.move (he rfl rfl)) rfl ?_
        refine PQl.step (fun _ he ho => LR.move (he rfl rfl)) rfl ?_
        replace h := iIdx h
        obtain ⟨x65, hy66, h⟩ := h
        refine PQl.step (fun _ he ho => LR.idxT (enc := TDot.e) (L := v4) (y := x65) Tryz.underlying28 Tryz.sizeOf32 (he rfl rfl) (he rfl rfl) hy66 (fun _ => rfl)) rfl ?_
        refine PQl.step (fun _ he ho => LR.fieldEp Tryz.underlying32 rfl Tryz.sizeOf29 (by decide) rfl (he rfl rfl)) rfl ?_
        refine PQl.step (fun _ he ho => LR.loadEp Tryz.isAgg29 (he rfl rfl) rfl) rfl ?_
        replace h := iDet h
        obtain ⟨v67, hy68, h⟩ := h
        refine PQl.step (fun _ he ho => LR.callN (r09_Runs_ok b2 x65.dev v67 hy68) (he rfl rfl) Tryz.call28 (evsE he rfl rfl) rfl rfl rfl) rfl ?_
        refine PQl.step (fun _ he ho => LR.assign (he rfl rfl)) rfl ?_
        refine PQl.step (fun _ he ho => LR.assign (he rfl rfl)) rfl ?_
        refine PQl.nil ?_
        refine PWc.seq ?_
        refine PWc.re (tl := [(0, _), (1, _), (2, _), (7, _), (8, _), (9, _), (10, _), (11, _)]) (to := [(7, _)]) rfl (.cons rfl rfl <| .cons rfl rfl <| .cons rfl rfl <| .cons rfl rfl <| .cons rfl rfl <| .cons rfl rfl <| .cons rfl rfl <| .cons rfl rfl <| .nil) (.cons rfl rfl <| .nil) ?_
        refine PWc.region ?_
        refine PWl.step (LR.move rfl) rfl ?_
        refine PWl.step (LR.move rfl) rfl ?_
        replace h := iDet h
        obtain ⟨v69, hy70, h⟩ := h
        refine PWl.step (LR.rowN (r06_Join_ok v63 v67 v69 hy70) rfl Tryz.call70 rfl rfl rfl rfl) rfl ?_
        refine PWl.step (LR.assign rfl) rfl ?_
        refine PWl.nil ?_
        refine PWc.seq ?_
        refine PWc.seq ?_
        refine PWc.region ?_
        refine PWl.step (LR.move rfl) rfl ?_
        refine PWl.step (LR.eql rfl rfl) rfl ?_
        refine PWl.nil ?_
        refine PWc.jn (iBind h) (fun (z71 : List TRun) (_ : Unit) => ⟨63, [(0, .d (.sl (List.map TPart.e a1))), (1, .d (.sl (List.map TPart.e b2))), (2, .d (.v (.int .i64 how3))), (7, .row 7 (List.length out58)), (8, .d (.sl (List.map TDot.e v4))), (9, .d (.v (.int .i64 i57))), (10, .d (.sl (List.map TRun.e v63))), (11, .d (.sl (List.map TRun.e v67))), (12, .d (.sl (List.map TRun.e z71)))], [(7, .row 80 2 (List.map TPart.e out58))]⟩) (fun h => ?_) ?_
        · refine PWc.cond rfl (fun hc72 => ?_) (fun hc72 => ?_)
          · replace h := iT hc72 h
            refine PWc.region ?_
            refine PWl.step (LR.move rfl) rfl ?_
            refine PWl.step (LR.move rfl) rfl ?_
            replace h := iDet h
            obtain ⟨v73, hy74, h⟩ := h
            refine PWl.step (LR.rowN (r06_Meet_ok v63 v67 v73 hy74) rfl Tryz.call96 rfl rfl rfl rfl) rfl ?_
            refine PWl.step (LR.assign rfl) rfl ?_
            refine PWl.nil ?_
            exact ⟨v73, (), h, Sub.trans (Sub.frz [38] hK rfl (by simp) (AllRow.get (.cons rfl <| .nil))) <| Sub.trans (Sub.frz [12, 43] hK rfl (by simp) (AllRow.get (.cons rfl <| .cons rfl <| .nil))) <| Sub.of rfl (.cons rfl rfl <| .cons rfl rfl <| .cons rfl rfl <| .cons rfl rfl <| .cons rfl rfl <| .cons rfl rfl <| .cons rfl rfl <| .cons rfl rfl <| .cons rfl rfl <| .nil) (.cons rfl rfl <| .nil)⟩
          · replace h := iF hc72 h
            refine PWc.skip ?_
            exact ⟨v69, (), h, Sub.trans (Sub.frz [12, 38] hK rfl (by simp) (AllRow.get (.cons rfl <| .cons rfl <| .nil))) <| Sub.of rfl (.cons rfl rfl <| .cons rfl rfl <| .cons rfl rfl <| .cons rfl rfl <| .cons rfl rfl <| .cons rfl rfl <| .cons rfl rfl <| .cons rfl rfl <| .cons rfl rfl <| .nil) (.cons rfl rfl <| .nil)⟩
        · rintro z71 _ h
          refine PWc.seq ?_
          refine PWc.seq ?_
          refine PWc.region ?_
          refine PWl.step (LR.move rfl) rfl ?_
          refine PWl.step (LR.eql rfl rfl) rfl ?_
          refine PWl.nil ?_
          refine PWc.jn (iBind h) (fun (z75 : List TRun) (_ : Unit) => ⟨63, [(0, .d (.sl (List.map TPart.e a1))), (1, .d (.sl (List.map TPart.e b2))), (2, .d (.v (.int .i64 how3))), (7, .row 7 (List.length out58)), (8, .d (.sl (List.map TDot.e v4))), (9, .d (.v (.int .i64 i57))), (12, .d (.sl (List.map TRun.e z75)))], [(7, .row 80 2 (List.map TPart.e out58))]⟩) (fun h => ?_) ?_
          · refine PWc.cond rfl (fun hc76 => ?_) (fun hc76 => ?_)
            · replace h := iT hc76 h
              refine PWc.region ?_
              refine PWl.step (LR.move rfl) rfl ?_
              refine PWl.step (LR.move rfl) rfl ?_
              replace h := iDet h
              obtain ⟨v77, hy78, h⟩ := h
              refine PWl.step (LR.rowN (r06_Minus_ok v63 v67 v77 hy78) rfl Tryz.call97 rfl rfl rfl rfl) rfl ?_
              refine PWl.step (LR.assign rfl) rfl ?_
              refine PWl.nil ?_
              exact ⟨v77, (), h, Sub.trans (Sub.frz [12, 48] hK rfl (by simp) (AllRow.get (.cons rfl <| .cons rfl <| .nil))) <| Sub.of rfl (.cons rfl rfl <| .cons rfl rfl <| .cons rfl rfl <| .cons rfl rfl <| .cons rfl rfl <| .cons rfl rfl <| .cons rfl rfl <| .nil) (.cons rfl rfl <| .nil)⟩
            · replace h := iF hc76 h
              refine PWc.skip ?_
              exact ⟨z71, (), h, Sub.of rfl (.cons rfl rfl <| .cons rfl rfl <| .cons rfl rfl <| .cons rfl rfl <| .cons rfl rfl <| .cons rfl rfl <| .cons rfl rfl <| .nil) (.cons rfl rfl <| .nil)⟩
          · rintro z75 _ h
            refine PWc.seq ?_
            refine PWc.region ?_
            refine PWl.step (LR.move rfl) rfl ?_
            refine PWl.step (LR.lenMap (enc := TRun.e) (L := z75) Tryz.underlying37 rfl) rfl ?_
            refine PWl.step (LR.gtr rfl rfl) rfl ?_
            refine PWl.nil ?_
            refine PWc.cond rfl (fun hc79 => ?_) (fun hc79 => ?_)
            · replace h := iT hc79 h
              refine PWc.region ?_
              refine PWl.step (LR.move rfl) rfl ?_
              refine PWl.step (LR.move rfl) rfl ?_
              refine PWl.step (LR.move rfl) rfl ?_
              replace h := iIdx h
              obtain ⟨x80, hy81, h⟩ := h
              refine PWl.step (LR.idxT (enc := TDot.e) (L := v4) (y := x80) Tryz.underlying28 Tryz.sizeOf32 rfl rfl hy81 (fun _ => rfl)) rfl ?_
              refine PWl.step (LR.fieldEp Tryz.underlying32 rfl Tryz.sizeOf29 (by decide) rfl rfl) rfl ?_
              refine PWl.step (LR.loadEp Tryz.isAgg29 rfl rfl) rfl ?_
              refine PWl.step (LR.move rfl) rfl ?_
              refine PWl.step (LR.build (ns := [_, _]) build80 rfl rfl rfl) rfl ?_
              refine PWl.step (LR.buildSliceD [.tmp 59] elem23 rfl rfl (.cons rfl rfl rfl <| .nil) (by decide) (by decide)) rfl ?_
              replace h := iNeed h
              obtain ⟨hy82, h⟩ := h
              refine PWl.step (LR.appT (enc := TPart.e) (L := out58) (R := [(⟨x80.dev, z75⟩ : TPart)]) [7, 52] elem23 Tryz.underlying23 rfl rfl rfl (Src.slT (enc := TPart.e) (R := [(⟨x80.dev, z75⟩ : TPart)]) rfl (fun _ => rfl)) (fun _ => rfl) hy82 rfl rfl) rfl ?_
              refine PWl.step (LR.assign rfl) rfl ?_
              refine PWl.nil ?_
              exact ⟨(out58 ++ [(⟨x80.dev, z75⟩ : TPart)]), (), h, Sub.of rfl (.cons rfl rfl <| .cons rfl rfl <| .cons rfl rfl <| .cons rfl rfl <| .cons rfl rfl <| .cons rfl rfl <| .nil) (.cons rfl rfl <| .nil)⟩
            · replace h := iF hc79 h
              refine PWc.skip ?_
              exact ⟨out58, (), h, Sub.of rfl (.cons rfl rfl <| .cons rfl rfl <| .cons rfl rfl <| .cons rfl rfl <| .cons rfl rfl <| .cons rfl rfl <| .nil) (.cons rfl rfl <| .nil)⟩
      · rintro out60 _ h
        refine PWc.region ?_
        refine PWl.step (LR.move rfl) rfl ?_
        refine PWl.step (LR.addW rfl rfl) rfl ?_
        refine PWl.step (LR.assign rfl) rfl ?_
        refine PWl.nil ?_
        exact ⟨((IntKind.i64.wrap (i57 + 1)), out60), (), h, Sub.of rfl (.cons rfl rfl <| .cons rfl rfl <| .cons rfl rfl <| .cons rfl rfl <| .cons rfl rfl <| .cons rfl rfl <| .nil) (.cons rfl rfl <| .nil)⟩
    · replace h := iF hc59 h
      refine PWc.exit ?_
      exact ⟨out58, (), h, Sub.of rfl (.cons rfl rfl <| .nil) (.cons rfl rfl <| .nil)⟩
  · rintro out6 _ h
    refine PWc.seq ?_
    refine PWc.region ?_
    refine PWl.step (LR.move rfl) rfl ?_
    refine PWl.step (LR.assign rfl) rfl ?_
    refine PWl.nil ?_
    refine PWc.ret ?_
    replace h : _ = r0 := h
    subst h
    exact ⟨.inr rfl, 6, rfl, .inr ⟨7, _, rfl, (by simp), rfl⟩⟩

theorem r09_Norm_ok (c1 : List TPart) (r0 : List TPart) (h : (r09_Norm c1).wp (· = r0)) : PRow Tryz.prog 21 [.d (.sl (List.map TPart.e c1))] 80 2 (List.map TPart.e r0) := by
  refine PRow.intro (sl := [(0, _)]) Tryz.func21 rfl Tryz.ntmps21 rfl rfl ?_
  intro ctx hK
  refine PWc.seq ?_
  refine PWc.region ?_
  refine PWl.step (LR.assignNilRow 80 2 rfl) rfl ?_
  refine PWl.nil ?_
  refine PWc.seq ?_
  refine PWc.region ?_
  refine PWl.step (LR.move rfl) rfl ?_
  replace h := iDet h
  obtain ⟨v2, hy3, h⟩ := h
  refine PWl.step (LR.rowN (r09_set_ok c1 ([] : List TPart) 0 v2 hy3) rfl Tryz.call61 rfl rfl rfl rfl) rfl ?_
  refine PWl.re (tl := [(0, _), (3, _), (4, _)]) (to := [(4, _)]) rfl (.cons rfl rfl <| .cons rfl rfl <| .cons rfl rfl <| .nil) (.cons rfl rfl <| .nil) ?_
  refine PWl.step (LR.assign rfl) rfl ?_
  refine PWl.nil ?_
  refine PWc.ret ?_
  replace h : _ = r0 := h
  subst h
  exact ⟨.inr rfl, 2, rfl, .inr ⟨4, _, rfl, (by simp), rfl⟩⟩

theorem r09_Good_ok (c1 : List TPart) (r0 : Bool) (h : (r09_Good c1).wp (· = r0)) : PFun Tryz.prog 23 [.d (.sl (List.map TPart.e c1))] (.d (.v (.bool r0))) := by
  refine PFun.intro (sl := [(0, _)]) Tryz.func23 rfl Tryz.ntmps23 rfl rfl ?_
  intro ctx hK
  refine PWc.seq ?_
  refine PWc.region ?_
  refine PWl.step (LR.assign rfl) rfl ?_
  refine PWl.nil ?_
  refine PWc.seq ?_
  refine PWc.region ?_
  refine PWl.step (LR.move rfl) rfl ?_
  refine PWl.step (LR.move rfl) rfl ?_
  replace h := iDet h
  obtain ⟨v2, hy3, h⟩ := h
  refine PWl.step (LR.rowN (r09_Norm_ok c1 v2 hy3) rfl Tryz.call21 rfl rfl rfl rfl) rfl ?_
  replace h := iDet h
  obtain ⟨v4, hy5, h⟩ := h
  refine PWl.frz [5] hK (.cons rfl <| .nil) rfl (by simp) ?_
  refine PWl.step (LR.callN (r09_Eq_ok c1 v2 v4 hy5) rfl Tryz.call9 rfl rfl rfl rfl) rfl ?_
  refine PWl.step (LR.assign rfl) rfl ?_
  refine PWl.nil ?_
  refine PWc.ret ?_
  replace h : _ = r0 := h
  subst h
  exact ⟨.inr rfl, _, .cons (.tmp rfl rfl) <| .nil, rfl⟩
end Go.Proofs

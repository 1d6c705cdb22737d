/- Texts that the walks and laws lean on, side by side. -/
import Derived.Test.YtacnidaafcfgiaaGreatMdb2
import Derived.Test.YtacnidaafcfgiaaGreatMdb3
import Derived.Test.YtacnidaafcfgiaaGreatMdb4
import Derived.Test.YtacnidaafcfgiaaGreatMdb5
import Derived.Test.YtacnidaafcfgiaaGreatMdb6
import Derived.Test.YtacnidaafcfgiaaGreatMdb7
namespace Go.Proofs
open Go.Ep
set_option maxHeartbeats 1000000
set_option maxRecDepth 100000
set_option linter.unusedVariables false
set_option linter.unusedSimpArgs false


theorem r09_devs_ok (a1 : List TPart) (b2 : List TPart) (r0 : List TDot) (h : (r09_devs a1 b2).wp (· = r0)) : PFun Tryz.prog 95 [.d (.sl (List.map TPart.e a1)), .d (.sl (List.map TPart.e b2))] (.d (.sl (List.map TDot.e r0))) := by
  refine PFun.intro (sl := [(0, _), (1, _)]) Tryz.func95 rfl Tryz.ntmps95 rfl rfl ?_
  intro ctx hK
  refine PWc.seq ?_
  refine PWc.region ?_
  refine PWl.step (LR.assignNilRow 32 2 rfl) rfl ?_
  refine PWl.nil ?_
  refine PWc.seq ?_
  refine PWc.region ?_
  refine PWl.step (LR.assignNilRow 32 2 rfl) rfl ?_
  refine PWl.nil ?_
  refine PWc.seq ?_
  refine PWc.seq ?_
  refine PWc.region ?_
  refine PWl.step (LR.assign rfl) rfl ?_
  refine PWl.nil ?_
  refine PWc.jn (iBind h) (fun (out3 : List TDot) (_ : Unit) => ⟨37, [(1, .d (.sl (List.map TPart.e b2))), (5, .d (.sl (List.map TDot.e out3)))], []⟩) (fun h => ?_) ?_
  · refine PWc.block ?_
    refine PWc.loopM (fun (⟨out16, i17⟩ : List TDot × Int) (_ : Unit) => ⟨37, [(0, .d (.sl (List.map TPart.e a1))), (1, .d (.sl (List.map TPart.e b2))), (5, .d (.sl (List.map TDot.e out16))), (6, .d (.v (.int .i64 i17)))], []⟩) () h (Sub.trans (Sub.frz [5] hK rfl (by first | (simp; done) | (simp; omega) | omega) (AllRow.get (.cons rfl <| .nil))) <| Sub.of rfl (.cons rfl rfl <| .cons rfl rfl <| .cons rfl rfl <| .cons rfl rfl <| .nil) (.nil)) ?_
    rintro N ⟨out16, i17⟩ _ h
    refine PWc.seq ?_
    refine PWc.seq ?_
    refine PWc.region ?_
    refine PWl.step (LR.move rfl) rfl ?_
    refine PWl.step (LR.move rfl) rfl ?_
    refine PWl.step (LR.lenMap (enc := TPart.e) (L := a1) Tryz.underlying23 rfl) rfl ?_
    refine PWl.step (LR.lss rfl rfl) rfl ?_
    refine PWl.nil ?_
    refine PWc.cond rfl (fun hc18 => ?_) (fun hc18 => ?_)
    · replace h := iT hc18 h
      refine PWc.skip ?_
      refine PWc.seq ?_
      refine PWc.block ?_
      refine PWc.region ?_
      refine PWl.step (LR.move rfl) rfl ?_
      refine PWl.step (LR.move rfl) rfl ?_
      refine PWl.step (LR.move rfl) rfl ?_
      replace h := iIdx h
      obtain ⟨x19, hy20, h⟩ := h
      refine PWl.step (LR.idxT (enc := TPart.e) (L := a1) (y := x19) Tryz.underlying23 Tryz.sizeOf80 rfl rfl hy20 (fun _ => rfl)) rfl ?_
      refine PWl.step (LR.fieldEp Tryz.underlying80 rfl Tryz.sizeOf29 (by decide) rfl rfl) rfl ?_
      refine PWl.step (LR.loadEp Tryz.isAgg29 rfl rfl) rfl ?_
      refine PWl.step (LR.build (ns := [_, _]) build32 rfl rfl rfl) rfl ?_
      replace h := iDet h
      obtain ⟨v21, hy22, h⟩ := h
      refine PWl.step (LR.rowN (r07_Put_ok out16 (⟨x19.dev, 1⟩ : TDot) v21 hy22) rfl Tryz.call126 rfl rfl rfl rfl) rfl ?_
      refine PWl.step (LR.assign rfl) rfl ?_
      refine PWl.nil ?_
      refine PWc.region ?_
      refine PWl.step (LR.move rfl) rfl ?_
      refine PWl.step (LR.addW rfl rfl) rfl ?_
      refine PWl.step (LR.assign rfl) rfl ?_
      refine PWl.nil ?_
      exact ⟨(v21, (IntKind.i64.wrap (i17 + 1))), (), h, Sub.trans (Sub.frz [5, 21] hK rfl (by simp) (AllRow.get (.cons rfl <| .cons rfl <| .nil))) <| Sub.of rfl (.cons rfl rfl <| .cons rfl rfl <| .cons rfl rfl <| .cons rfl rfl <| .nil) (.nil)⟩
    · replace h := iF hc18 h
      refine PWc.exit ?_
      exact ⟨out16, (), h, Sub.of rfl (.cons rfl rfl <| .cons rfl rfl <| .nil) (.nil)⟩
  · rintro out3 _ h
    refine PWc.seq ?_
    refine PWc.seq ?_
    refine PWc.region ?_
    refine PWl.step (LR.assign rfl) rfl ?_
    refine PWl.nil ?_
    refine PWc.jn (iBind h) (fun (out23 : List TDot) (_ : Unit) => ⟨37, [(5, .d (.sl (List.map TDot.e out23)))], []⟩) (fun h => ?_) ?_
    · refine PWc.block ?_
      refine PWc.loopM (fun (⟨out36, i37⟩ : List TDot × Int) (_ : Unit) => ⟨37, [(1, .d (.sl (List.map TPart.e b2))), (5, .d (.sl (List.map TDot.e out36))), (7, .d (.v (.int .i64 i37)))], []⟩) () h (Sub.of rfl (.cons rfl rfl <| .cons rfl rfl <| .cons rfl rfl <| .nil) (.nil)) ?_
      rintro N ⟨out36, i37⟩ _ h
      refine PWc.seq ?_
      refine PWc.seq ?_
      refine PWc.region ?_
      refine PWl.step (LR.move rfl) rfl ?_
      refine PWl.step (LR.move rfl) rfl ?_
      refine PWl.step (LR.lenMap (enc := TPart.e) (L := b2) Tryz.underlying23 rfl) rfl ?_
      refine PWl.step (LR.lss rfl rfl) rfl ?_
      refine PWl.nil ?_
      refine PWc.cond rfl (fun hc38 => ?_) (fun hc38 => ?_)
      · replace h := iT hc38 h
        refine PWc.skip ?_
        refine PWc.seq ?_
        refine PWc.block ?_
        refine PWc.region ?_
        refine PWl.step (LR.move rfl) rfl ?_
        refine PWl.step (LR.move rfl) rfl ?_
        refine PWl.step (LR.move rfl) rfl ?_
        replace h := iIdx h
        obtain ⟨x39, hy40, h⟩ := h
        refine PWl.step (LR.idxT (enc := TPart.e) (L := b2) (y := x39) Tryz.underlying23 Tryz.sizeOf80 rfl rfl hy40 (fun _ => rfl)) rfl ?_
        refine PWl.step (LR.fieldEp Tryz.underlying80 rfl Tryz.sizeOf29 (by decide) rfl rfl) rfl ?_
        refine PWl.step (LR.loadEp Tryz.isAgg29 rfl rfl) rfl ?_
        refine PWl.step (LR.build (ns := [_, _]) build32 rfl rfl rfl) rfl ?_
        replace h := iDet h
        obtain ⟨v41, hy42, h⟩ := h
        refine PWl.step (LR.rowN (r07_Put_ok out36 (⟨x39.dev, 1⟩ : TDot) v41 hy42) rfl Tryz.call126 rfl rfl rfl rfl) rfl ?_
        refine PWl.step (LR.assign rfl) rfl ?_
        refine PWl.nil ?_
        refine PWc.region ?_
        refine PWl.step (LR.move rfl) rfl ?_
        refine PWl.step (LR.addW rfl rfl) rfl ?_
        refine PWl.step (LR.assign rfl) rfl ?_
        refine PWl.nil ?_
        exact ⟨(v41, (IntKind.i64.wrap (i37 + 1))), (), h, Sub.trans (Sub.frz [5, 35] hK rfl (by simp) (AllRow.get (.cons rfl <| .cons rfl <| .nil))) <| Sub.of rfl (.cons rfl rfl <| .cons rfl rfl <| .cons rfl rfl <| .nil) (.nil)⟩
      · replace h := iF hc38 h
        refine PWc.exit ?_
        exact ⟨out36, (), h, Sub.of rfl (.cons rfl rfl <| .nil) (.nil)⟩
    · rintro out23 _ h
      refine PWc.seq ?_
      refine PWc.region ?_
      refine PWl.step (LR.move rfl) rfl ?_
      refine PWl.step (LR.assign rfl) rfl ?_
      refine PWl.nil ?_
      refine PWc.ret ?_
      replace h : _ = r0 := h
      subst h
      exact ⟨.inr rfl, _, .cons (.tmp rfl rfl) <| .nil, rfl⟩

theorem r06_Meet_ok (a1 : List TRun) (b2 : List TRun) (r0 : List TRun) (h : (r06_Meet a1 b2).wp (· = r0)) : PRow Tryz.prog 96 [.d (.sl (List.map TRun.e a1)), .d (.sl (List.map TRun.e b2))] 89 2 (List.map TRun.e r0) := by
  refine PRow.intro (sl := [(0, _), (1, _)]) Tryz.func96 rfl Tryz.ntmps96 rfl rfl ?_
  intro ctx hK
  refine PWc.seq ?_
  refine PWc.region ?_
  refine PWl.step (LR.assignNilRow 89 2 rfl) rfl ?_
  refine PWl.nil ?_
  refine PWc.seq ?_
  refine PWc.region ?_
  refine PWl.step (LR.move rfl) rfl ?_
  refine PWl.step (LR.move rfl) rfl ?_
  replace h := iDet h
  obtain ⟨v3, hy4, h⟩ := h
  refine PWl.step (LR.rowN (r06_set_ok a1 b2 1 v3 hy4) rfl Tryz.call108 rfl rfl rfl rfl) rfl ?_
  refine PWl.re (tl := [(0, _), (1, _), (5, _), (6, _), (7, _)]) (to := [(7, _)]) rfl (.cons rfl rfl <| .cons rfl rfl <| .cons rfl rfl <| .cons rfl rfl <| .cons rfl rfl <| .nil) (.cons rfl rfl <| .nil) ?_
  refine PWl.step (LR.assign rfl) rfl ?_
  refine PWl.nil ?_
  refine PWc.ret ?_
  replace h : _ = r0 := h
  subst h
  exact ⟨.inr rfl, 4, rfl, .inr ⟨7, _, rfl, (by simp), rfl⟩⟩

theorem r06_Minus_ok (a1 : List TRun) (b2 : List TRun) (r0 : List TRun) (h : (r06_Minus a1 b2).wp (· = r0)) : PRow Tryz.prog 97 [.d (.sl (List.map TRun.e a1)), .d (.sl (List.map TRun.e b2))] 89 2 (List.map TRun.e r0) := by
  refine PRow.intro (sl := [(0, _), (1, _)]) Tryz.func97 rfl Tryz.ntmps97 rfl rfl ?_
  intro ctx hK
  refine PWc.seq ?_
  refine PWc.region ?_
  refine PWl.step (LR.assignNilRow 89 2 rfl) rfl ?_
  refine PWl.nil ?_
  refine PWc.seq ?_
  refine PWc.region ?_
  refine PWl.step (LR.move rfl) rfl ?_
  refine PWl.step (LR.move rfl) rfl ?_
  replace h := iDet h
  obtain ⟨v3, hy4, h⟩ := h
  refine PWl.step (LR.rowN (r06_set_ok a1 b2 2 v3 hy4) rfl Tryz.call108 rfl rfl rfl rfl) rfl ?_
  refine PWl.re (tl := [(0, _), (1, _), (5, _), (6, _), (7, _)]) (to := [(7, _)]) rfl (.cons rfl rfl <| .cons rfl rfl <| .cons rfl rfl <| .cons rfl rfl <| .cons rfl rfl <| .nil) (.cons rfl rfl <| .nil) ?_
  refine PWl.step (LR.assign rfl) rfl ?_
  refine PWl.nil ?_
  refine PWc.ret ?_
  replace h : _ = r0 := h
  subst h
  exact ⟨.inr rfl, 4, rfl, .inr ⟨7, _, rfl, (by simp), rfl⟩⟩

theorem r09_set_ok (a1 : List TPart) (b2 : List TPart) (how3 : Int) (r0 : List TPart) (h : (r09_set a1 b2 how3).wp (· = r0)) : PRow Tryz.prog 61 [.d (.sl (List.map TPart.e a1)), .d (.sl (List.map TPart.e b2)), .d (.v (.int .i64 how3))] 80 2 (List.map TPart.e r0) := by
  refine PRow.intro (sl := [(0, _), (1, _), (2, _)]) Tryz.func61 rfl Tryz.ntmps61 rfl rfl ?_
  intro ctx hK
  refine PWc.seq ?_
  refine PWc.region ?_
  refine PWl.step (LR.assignNilRow 80 2 rfl) rfl ?_
  refine PWl.nil ?_
  refine PWc.seq ?_
  refine PWc.region ?_
  refine PWl.step (LR.assignNilRow 80 2 rfl) rfl ?_
  refine PWl.nil ?_
  refine PWc.seq ?_
  refine PWc.region ?_
  refine PWl.step (LR.move rfl) rfl ?_
  refine PWl.step (LR.move rfl) rfl ?_
  replace h := iDet h
  obtain ⟨v4, hy5, h⟩ := h
  refine PWl.step (LR.callN (r09_devs_ok a1 b2 v4 hy5) rfl Tryz.call95 rfl rfl rfl rfl) rfl ?_
  refine PWl.step (LR.assign rfl) rfl ?_
  refine PWl.nil ?_
  refine PWc.seq ?_
  refine PWc.seq ?_
  refine PWc.region ?_
  refine PWl.step (LR.assign rfl) rfl ?_
  refine PWl.nil ?_
  refine PWc.jn (iBind h) (fun (out6 : List TPart) (_ : Unit) => ⟨63, [(7, .row 7 (List.length out6))], [(7, .row 80 2 (List.map TPart.e out6))]⟩) (fun h => ?_) ?_
  · refine PWc.block ?_
    refine PWc.loopM (fun (⟨i57, out58⟩ : Int × List TPart) (_ : Unit) => ⟨63, [(0, .d (.sl (List.map TPart.e a1))), (1, .d (.sl (List.map TPart.e b2))), (2, .d (.v (.int .i64 how3))), (7, .row 7 (List.length out58)), (8, .d (.sl (List.map TDot.e v4))), (9, .d (.v (.int .i64 i57)))], [(7, .row 80 2 (List.map TPart.e out58))]⟩) () h (Sub.of rfl (.cons rfl rfl <| .cons rfl rfl <| .cons rfl rfl <| .cons rfl rfl <| .cons rfl rfl <| .cons rfl rfl <| .nil) (.cons rfl rfl <| .nil)) ?_
    rintro N ⟨i57, out58⟩ _ h
    refine PWc.seq ?_
    refine PWc.seq ?_
    refine PWc.region ?_
    refine PWl.step (LR.move rfl) rfl ?_
    refine PWl.step (LR.move rfl) rfl ?_
    refine PWl.step (LR.lenMap (enc := TDot.e) (L := v4) Tryz.underlying28 rfl) rfl ?_
    refine PWl.step (LR.lss rfl rfl) rfl ?_
    refine PWl.nil ?_
    refine PWc.cond rfl (fun hc59 => ?_) (fun hc59 => ?_)
    · replace h := iT hc59 h
      refine PWc.skip ?_
      refine PWc.seq ?_
      refine PWc.jn (iBind h) (fun (out60 : List TPart) (_ : Unit) => ⟨63, [(0, .d (.sl (List.map TPart.e a1))), (1, .d (.sl (List.map TPart.e b2))), (2, .d (.v (.int .i64 how3))), (7, .row 7 (List.length out60)), (8, .d (.sl (List.map TDot.e v4))), (9, .d (.v (.int .i64 i57)))], [(7, .row 80 2 (List.map TPart.e out60))]⟩) (fun h => ?_) ?_
      · refine PWc.block ?_
        refine PWc.seq ?_
        refine PWc.regionD (by kernel_rfl) (by kernel_rfl) ?_
        refine PQl.step (fun _ he ho => LR.move (he rfl rfl)) rfl ?_
        refine PQl.step (fun _ he ho => LR.move (he rfl rfl)) rfl ?_
        refine PQl.step (fun _ he ho => LR.move (he rfl rfl)) rfl ?_
        replace h := iIdx h
        obtain ⟨x61, hy62, h⟩ := h
        refine PQl.step (fun _ he ho => LR.idxT (enc := TDot.e) (L := v4) (y := x61) Tryz.underlying28 Tryz.sizeOf32 (he rfl rfl) (he rfl rfl) hy62 (fun _ => rfl)) rfl ?_
        refine PQl.step (fun _ he ho => LR.fieldEp Tryz.underlying32 rfl Tryz.sizeOf29 (by decide) rfl (he rfl rfl)) rfl ?_
        refine PQl.step (fun _ he ho => LR.loadEp Tryz.isAgg29 (he rfl rfl) rfl) rfl ?_
        replace h := iDet h
        obtain ⟨v63, hy64, h⟩ := h
        refine PQl.step (fun _ he ho => LR.callN (r09_Runs_ok a1 x61.dev v63 hy64) (he rfl rfl) Tryz.call28 (evsE he rfl rfl) rfl rfl rfl) rfl ?_
        refine PQl.step (fun _ he ho => LR.move (he rfl rfl)) rfl ?_
        refine PQl.step (fun _ he ho => LR.move (he rfl rfl)) rfl ?_
        refine PQl.step (fun _ he ho => LR.move (he rfl rfl)) rfl ?_
        replace h := iIdx h
        obtain ⟨x65, hy66, h⟩ := h
        refine PQl.step (fun _ he ho => LR.idxT (enc := TDot.e) (L := v4) (y := x65) Tryz.underlying28 Tryz.sizeOf32 (he rfl rfl) (he rfl rfl) hy66 (fun _ => rfl)) rfl ?_
        refine PQl.step (fun _ he ho => LR.fieldEp Tryz.underlying32 rfl Tryz.sizeOf29 (by decide) rfl (he rfl rfl)) rfl ?_
        refine PQl.step (fun _ he ho => LR.loadEp Tryz.isAgg29 (he rfl rfl) rfl) rfl ?_
        replace h := iDet h
        obtain ⟨v67, hy68, h⟩ := h
        refine PQl.step (fun _ he ho => LR.callN (r09_Runs_ok b2 x65.dev v67 hy68) (he rfl rfl) Tryz.call28 (evsE he rfl rfl) rfl rfl rfl) rfl ?_
        refine PQl.step (fun _ he ho => LR.assign (he rfl rfl)) rfl ?_
        refine PQl.step (fun _ he ho => LR.assign (he rfl rfl)) rfl ?_
        refine PQl.nil ?_
        refine PWc.seq ?_
        refine PWc.re (tl := [(0, _), (1, _), (2, _), (7, _), (8, _), (9, _), (10, _), (11, _)]) (to := [(7, _)]) rfl (.cons rfl rfl <| .cons rfl rfl <| .cons rfl rfl <| .cons rfl rfl <| .cons rfl rfl <| .cons rfl rfl <| .cons rfl rfl <| .cons rfl rfl <| .nil) (.cons rfl rfl <| .nil) ?_
        refine PWc.region ?_
        refine PWl.step (LR.move rfl) rfl ?_
        refine PWl.step (LR.move rfl) rfl ?_
        replace h := iDet h
        obtain ⟨v69, hy70, h⟩ := h
        refine PWl.step (LR.rowN (r06_Join_ok v63 v67 v69 hy70) rfl Tryz.call70 rfl rfl rfl rfl) rfl ?_
        refine PWl.step (LR.assign rfl) rfl ?_
        refine PWl.nil ?_
        refine PWc.seq ?_
        refine PWc.seq ?_
        refine PWc.region ?_
        refine PWl.step (LR.move rfl) rfl ?_
        refine PWl.step (LR.eql rfl rfl) rfl ?_
        refine PWl.nil ?_
        refine PWc.jn (iBind h) (fun (z71 : List TRun) (_ : Unit) => ⟨63, [(0, .d (.sl (List.map TPart.e a1))), (1, .d (.sl (List.map TPart.e b2))), (2, .d (.v (.int .i64 how3))), (7, .row 7 (List.length out58)), (8, .d (.sl (List.map TDot.e v4))), (9, .d (.v (.int .i64 i57))), (10, .d (.sl (List.map TRun.e v63))), (11, .d (.sl (List.map TRun.e v67))), (12, .d (.sl (List.map TRun.e z71)))], [(7, .row 80 2 (List.map TPart.e out58))]⟩) (fun h => ?_) ?_
        · refine PWc.cond rfl (fun hc72 => ?_) (fun hc72 => ?_)
          · replace h := iT hc72 h
            refine PWc.region ?_
            refine PWl.step (LR.move rfl) rfl ?_
            refine PWl.step (LR.move rfl) rfl ?_
            replace h := iDet h
            obtain ⟨v73, hy74, h⟩ := h
            refine PWl.step (LR.rowN (r06_Meet_ok v63 v67 v73 hy74) rfl Tryz.call96 rfl rfl rfl rfl) rfl ?_
            refine PWl.step (LR.assign rfl) rfl ?_
            refine PWl.nil ?_
            exact ⟨v73, (), h, Sub.trans (Sub.frz [38] hK rfl (by simp) (AllRow.get (.cons rfl <| .nil))) <| Sub.trans (Sub.frz [12, 43] hK rfl (by simp) (AllRow.get (.cons rfl <| .cons rfl <| .nil))) <| Sub.of rfl (.cons rfl rfl <| .cons rfl rfl <| .cons rfl rfl <| .cons rfl rfl <| .cons rfl rfl <| .cons rfl rfl <| .cons rfl rfl <| .cons rfl rfl <| .cons rfl rfl <| .nil) (.cons rfl rfl <| .nil)⟩
          · replace h := iF hc72 h
            refine PWc.skip ?_
            exact ⟨v69, (), h, Sub.trans (Sub.frz [12, 38] hK rfl (by simp) (AllRow.get (.cons rfl <| .cons rfl <| .nil))) <| Sub.of rfl (.cons rfl rfl <| .cons rfl rfl <| .cons rfl rfl <| .cons rfl rfl <| .cons rfl rfl <| .cons rfl rfl <| .cons rfl rfl <| .cons rfl rfl <| .cons rfl rfl <| .nil) (.cons rfl rfl <| .nil)⟩
        · rintro z71 _ h
          refine PWc.seq ?_
          refine PWc.seq ?_
          refine PWc.region ?_
          refine PWl.step (LR.move rfl) rfl ?_
          refine PWl.step (LR.eql rfl rfl) rfl ?_
          refine PWl.nil ?_
          refine PWc.jn (iBind h) (fun (z75 : List TRun) (_ : Unit) => ⟨63, [(0, .d (.sl (List.map TPart.e a1))), (1, .d (.sl (List.map TPart.e b2))), (2, .d (.v (.int .i64 how3))), (7, .row 7 (List.length out58)), (8, .d (.sl (List.map TDot.e v4))), (9, .d (.v (.int .i64 i57))), (12, .d (.sl (List.map TRun.e z75)))], [(7, .row 80 2 (List.map TPart.e out58))]⟩) (fun h => ?_) ?_
          · refine PWc.cond rfl (fun hc76 => ?_) (fun hc76 => ?_)
            · replace h := iT hc76 h
              refine PWc.region ?_
              refine PWl.step (LR.move rfl) rfl ?_
              refine PWl.step (LR.move rfl) rfl ?_
              replace h := iDet h
              obtain ⟨v77, hy78, h⟩ := h
              refine PWl.step (LR.rowN (r06_Minus_ok v63 v67 v77 hy78) rfl Tryz.call97 rfl rfl rfl rfl) rfl ?_
              refine PWl.step (LR.assign rfl) rfl ?_
              refine PWl.nil ?_
              exact ⟨v77, (), h, Sub.trans (Sub.frz [12, 48] hK rfl (by simp) (AllRow.get (.cons rfl <| .cons rfl <| .nil))) <| Sub.of rfl (.cons rfl rfl <| .cons rfl rfl <| .cons rfl rfl <| .cons rfl rfl <| .cons rfl rfl <| .cons rfl rfl <| .cons rfl rfl <| .nil) (.cons rfl rfl <| .nil)⟩
            · replace h := iF hc76 h
              refine PWc.skip ?_
              exact ⟨z71, (), h, Sub.of rfl (.cons rfl rfl <| .cons rfl rfl <| .cons rfl rfl <| .cons rfl rfl <| .cons rfl rfl <| .cons rfl rfl <| .cons rfl rfl <| .nil) (.cons rfl rfl <| .nil)⟩
          · rintro z75 _ h
            refine PWc.seq ?_
            refine PWc.region ?_
            refine PWl.step (LR.move rfl) rfl ?_
            refine PWl.step (LR.lenMap (enc := TRun.e) (L := z75) Tryz.underlying37 rfl) rfl ?_
            refine PWl.step (LR.gtr rfl rfl) rfl ?_
            refine PWl.nil ?_
            refine PWc.cond rfl (fun hc79 => ?_) (fun hc79 => ?_)
            · replace h := iT hc79 h
              refine PWc.region ?_
              refine PWl.step (LR.move rfl) rfl ?_
              refine PWl.step (LR.move rfl) rfl ?_
              refine PWl.step (LR.move rfl) rfl ?_
              replace h := iIdx h
              obtain ⟨x80, hy81, h⟩ := h
              refine PWl.step (LR.idxT (enc := TDot.e) (L := v4) (y := x80) Tryz.underlying28 Tryz.sizeOf32 rfl rfl hy81 (fun _ => rfl)) rfl ?_
              refine PWl.step (LR.fieldEp Tryz.underlying32 rfl Tryz.sizeOf29 (by decide) rfl rfl) rfl ?_
              refine PWl.step (LR.loadEp Tryz.isAgg29 rfl rfl) rfl ?_
              refine PWl.step (LR.move rfl) rfl ?_
              refine PWl.step (LR.build (ns := [_, _]) build80 rfl rfl rfl) rfl ?_
              refine PWl.step (LR.buildSliceD [.tmp 59] elem23 rfl rfl (.cons rfl rfl rfl <| .nil) (by decide) (by decide)) rfl ?_
              replace h := iNeed h
              obtain ⟨hy82, h⟩ := h
              refine PWl.step (LR.appT (enc := TPart.e) (L := out58) (R := [(⟨x80.dev, z75⟩ : TPart)]) [7, 52] elem23 Tryz.underlying23 rfl rfl rfl (Src.slT (enc := TPart.e) (R := [(⟨x80.dev, z75⟩ : TPart)]) rfl (fun _ => rfl)) (fun _ => rfl) hy82 rfl rfl) rfl ?_
              refine PWl.step (LR.assign rfl) rfl ?_
              refine PWl.nil ?_
              exact ⟨(out58 ++ [(⟨x80.dev, z75⟩ : TPart)]), (), h, Sub.of rfl (.cons rfl rfl <| .cons rfl rfl <| .cons rfl rfl <| .cons rfl rfl <| .cons rfl rfl <| .cons rfl rfl <| .nil) (.cons rfl rfl <| .nil)⟩
            · replace h := iF hc79 h
              refine PWc.skip ?_
              exact ⟨out58, (), h, Sub.of rfl (.cons rfl rfl <| .cons rfl rfl <| .cons rfl rfl <| .cons rfl rfl <| .cons rfl rfl <| .cons rfl rfl <| .nil) (.cons rfl rfl <| .nil)⟩
      · rintro out60 _ h
        refine PWc.region ?_
        refine PWl.step (LR.move rfl) rfl ?_
        refine PWl.step (LR.addW rfl rfl) rfl ?_
        refine PWl.step (LR.assign rfl) rfl ?_
        refine PWl.nil ?_
        exact ⟨((IntKind.i64.wrap (i57 + 1)), out60), (), h, Sub.of rfl (.cons rfl rfl <| .cons rfl rfl <| .cons rfl rfl <| .cons rfl rfl <| .cons rfl rfl <| .cons rfl rfl <| .nil) (.cons rfl rfl <| .nil)⟩
    · replace h := iF hc59 h
      refine PWc.exit ?_
      exact ⟨out58, (), h, Sub.of rfl (.cons rfl rfl <| .nil) (.cons rfl rfl <| .nil)⟩
  · rintro out6 _ h
    refine PWc.seq ?_
    refine PWc.region ?_
    refine PWl.step (LR.move rfl) rfl ?_
    refine PWl.step (LR.assign rfl) rfl ?_
    refine PWl.nil ?_
    refine PWc.ret ?_
    replace h : _ = r0 := h
    subst h
    exact ⟨.inr rfl, 6, rfl, .inr ⟨7, _, rfl, (by simp), rfl⟩⟩

theorem r09_Norm_ok (c1 : List TPart) (r0 : List TPart) (h : (r09_Norm c1).wp (· = r0)) : PRow Tryz.prog 21 [.d (.sl (List.map TPart.e c1))] 80 2 (List.map TPart.e r0) := by
  refine PRow.intro (sl := [(0, _)]) Tryz.func21 rfl Tryz.ntmps21 rfl rfl ?_
  intro ctx hK
  refine PWc.seq ?_
  refine PWc.region ?_
  refine PWl.step (LR.assignNilRow 80 2 rfl) rfl ?_
  refine PWl.nil ?_
  refine PWc.seq ?_
  refine PWc.region ?_
  refine PWl.step (LR.move rfl) rfl ?_
  replace h := iDet h
  obtain ⟨v2, hy3, h⟩ := h
  refine PWl.step (LR.rowN (r09_set_ok c1 ([] : List TPart) 0 v2 hy3) rfl Tryz.call61 rfl rfl rfl rfl) rfl ?_
  refine PWl.re (tl := [(0, _), (3, _), (4, _)]) (to := [(4, _)]) rfl (.cons rfl rfl <| .cons rfl rfl <| .cons rfl rfl <| .nil) (.cons rfl rfl <| .nil) ?_
  refine PWl.step (LR.assign rfl) rfl ?_
  refine PWl.nil ?_
  refine PWc.ret ?_
  replace h : _ = r0 := h
  subst h
  exact ⟨.inr rfl, 2, rfl, .inr ⟨4, _, rfl, (by simp), rfl⟩⟩

end Go.Proofs

namespace Go.Proofs
open Go.Ep
set_option maxHeartbeats 1000000
set_option maxRecDepth 100000
set_option linter.unusedVariables false
set_option linter.unusedSimpArgs false


theorem pack_New_o_ok (b1 : List Int) (r0 : List Int × Int) (h : (pack_New_o b1).wp (· = r0)) : PObj Tryz.prog 42 [.d (.sl (List.map (eK .u8) b1))] [] [] (.ref 7 0) (fun _ : Unit => [(7, .cells 97 [.d (.sl (List.map (eK .u8) r0.1)), .d (.v (.int .i64 r0.2))])]) := by
  refine PObj.intro (sl := [(0, _)]) Tryz.func42 rfl Tryz.ntmps42 rfl rfl rfl ?_
  intro ctx hK pv
  refine PWc.seq ?_
  refine PWc.region ?_
  refine PWl.step (LR.assign rfl) rfl ?_
  refine PWl.nil ?_
  refine PWc.seq ?_
  refine PWc.region ?_
  refine PWl.step (LR.move rfl) rfl ?_
  replace h := iNeed h
  obtain ⟨hy2, h⟩ := h
  refine PWl.step (LR.appNilT (enc := (eK .u8)) (R := b1) elem48 Tryz.underlying48 rfl (Src.slT (enc := (eK .u8)) (R := b1) rfl (fun _ => rfl)) (fun _ => rfl) hy2 rfl rfl) rfl ?_
  refine PWl.frz [4] hK (.cons rfl <| .nil) rfl (by simp) ?_
  refine PWl.step (LR.build (ns := [_]) build95 rfl rfl rfl) rfl ?_
  refine PWl.step (LR.build (ns := [_, _]) build97 rfl rfl rfl) rfl ?_
  refine PWl.step (LR.box rfl rfl rfl rfl) rfl ?_
  refine PWl.step (LR.assign rfl) rfl ?_
  refine PWl.nil ?_
  refine PWc.ret ?_
  replace h : _ = r0 := h
  subst h
  exact EndsO.mk () (.inr rfl) (Sub.of (tl := [(2, _)]) (to := [(7, _)]) rfl (.cons rfl rfl <| .nil) (.cons rfl rfl <| .nil)) (.cons (.tmp rfl) <| .nil) rfl rfl

theorem pack_Reader_Err_o_ok (b_1 : List Int) (bad_2 : Int) (r0 : Int × List Int × Int) (h : (pack_Reader_Err_o b_1 bad_2).wp (· = r0)) : PObj Tryz.prog 83 [.ref 100 0] [(100, .cells 97 [.d (.sl (List.map (eK .u8) b_1)), .d (.v (.int .i64 bad_2))])] [100] (.d (.v (.int .i64 r0.1))) (fun _ : Unit => [(100, .cells 97 [.d (.sl (List.map (eK .u8) r0.2.1)), .d (.v (.int .i64 r0.2.2))])]) := by
  refine PObj.intro (sl := [(0, _)]) Tryz.func83 rfl Tryz.ntmps83 rfl rfl rfl ?_
  intro ctx hK pv
  refine PWc.seq ?_
  refine PWc.region ?_
  refine PWl.step (LR.assign rfl) rfl ?_
  refine PWl.nil ?_
  refine PWc.seq ?_
  refine PWc.seq ?_
  refine PWc.region ?_
  refine PWl.step (LR.move rfl) rfl ?_
  refine PWl.step (LR.eqlPtr Tryz.underlying49 rfl) rfl ?_
  refine PWl.nil ?_
  refine PWc.condF rfl ?_
  refine PWc.skip ?_
  refine PWc.seq ?_
  refine PWc.region ?_
  refine PWl.step (LR.move rfl) rfl ?_
  refine PWl.step (LR.nilCheckRef rfl) rfl ?_
  refine PWl.step (LR.fieldRef Tryz.underlying97 rfl Tryz.sizeOf60 (by decide) rfl rfl) rfl ?_
  refine PWl.step (LR.loadRef Tryz.isAgg60 rfl rfl rfl) rfl ?_
  refine PWl.step (LR.assign rfl) rfl ?_
  refine PWl.nil ?_
  refine PWc.ret ?_
  replace h : _ = r0 := h
  subst h
  exact EndsO.mk () (.inr rfl) (Sub.of (tl := [(2, _)]) (to := [(100, _), (1100, _)]) rfl (.cons rfl rfl <| .nil) (.cons rfl rfl <| .cons rfl rfl <| .nil)) (.cons (.tmp rfl) <| .nil) rfl rfl

theorem pack_Reader_Fail_o_ok (e1 : Int) (b_2 : List Int) (bad_3 : Int) (r0 : List Int × Int) (h : (pack_Reader_Fail_o e1 b_2 bad_3).wp (· = r0)) : PObj Tryz.prog 82 [.ref 100 0, .d (.v (.int .i64 e1))] [(100, .cells 97 [.d (.sl (List.map (eK .u8) b_2)), .d (.v (.int .i64 bad_3))])] [100] (.tup []) (fun _ : Unit => [(100, .cells 97 [.d (.sl (List.map (eK .u8) r0.1)), .d (.v (.int .i64 r0.2))])]) := by
  refine PObj.intro (sl := [(0, _), (1, _)]) Tryz.func82 rfl Tryz.ntmps82 rfl rfl rfl ?_
  intro ctx hK pv
  refine PWc.seq ?_
  refine PWc.jn (iBind h) (fun (v4 : Bool) (_ : Unit) => ⟨25, [(0, .ref 100 0), (1, .d (.v (.int .i64 e1))), (16, .d (.v (.bool v4)))], [(100, .cells 97 [.d (.sl (List.map (eK .u8) b_2)), .d (.v (.int .i64 bad_3))]), (1100, .pin 100 (pv 100).1 (pv 100).2)]⟩) (fun h => ?_) ?_
  · refine PWc.region ?_
    refine PWl.step (LR.move rfl) rfl ?_
    refine PWl.step (LR.neqPtr Tryz.underlying49 rfl) rfl ?_
    refine PWl.step (LR.move rfl) rfl ?_
    refine PWl.guardT (LR.move rfl) rfl rfl rfl ?_
    refine PWl.guardT (LR.nilCheckRef rfl) rfl rfl rfl ?_
    refine PWl.guardT (LR.fieldRef Tryz.underlying97 rfl Tryz.sizeOf60 (by decide) rfl rfl) rfl rfl rfl ?_
    refine PWl.guardT (LR.loadRef Tryz.isAgg60 rfl rfl rfl) rfl rfl rfl ?_
    refine PWl.guardT (LR.eql rfl rfl) rfl rfl rfl ?_
    refine PWl.step (LR.pickT rfl rfl) rfl ?_
    refine PWl.step (LR.move rfl) rfl ?_
    refine PWl.split (d := 13) rfl (fun hg5 => ?_) (fun hg5 => ?_)
    · replace h := iT hg5 h
      refine PWl.guardT (LR.move rfl) rfl rfl rfl ?_
      refine PWl.guardT (LR.neq rfl rfl) rfl rfl rfl ?_
      refine PWl.step (LR.pickT rfl rfl) rfl ?_
      refine PWl.nil ?_
      exact ⟨(!decide (e1 = 0)), (), h, Sub.of rfl (.cons rfl rfl <| .cons rfl rfl <| .cons rfl rfl <| .nil) (.cons rfl rfl <| .cons rfl rfl <| .nil)⟩
    · replace h := iF hg5 h
      refine PWl.guardF rfl rfl rfl (by decide) ?_
      refine PWl.guardF rfl rfl rfl (by decide) ?_
      refine PWl.step (LR.pickF rfl rfl) rfl ?_
      refine PWl.nil ?_
      exact ⟨false, (), h, Sub.of rfl (.cons rfl rfl <| .cons rfl rfl <| .cons rfl rfl <| .nil) (.cons rfl rfl <| .cons rfl rfl <| .nil)⟩
  · rintro v4 _ h
    refine PWc.cond rfl (fun hc6 => ?_) (fun hc6 => ?_)
    · replace h := iT hc6 h
      refine PWc.region ?_
      refine PWl.step (LR.move rfl) rfl ?_
      refine PWl.step (LR.move rfl) rfl ?_
      refine PWl.step (LR.move rfl) rfl ?_
      refine PWl.step (LR.nilCheckRef rfl) rfl ?_
      refine PWl.step (LR.fieldRef Tryz.underlying97 rfl Tryz.sizeOf60 (by decide) rfl rfl) rfl ?_
      refine PWl.step (LR.storeB (ns := [_, _]) Tryz.sizeOf60 rfl rfl rfl rfl rfl rfl rfl) rfl ?_
      refine PWl.step (LR.nilCheckRef rfl) rfl ?_
      refine PWl.step (LR.fieldRef Tryz.underlying97 rfl Tryz.sizeOf95 (by decide) rfl rfl) rfl ?_
      refine PWl.step (LR.fieldRef Tryz.underlying95 rfl Tryz.sizeOf48 (by decide) rfl rfl) rfl ?_
      refine PWl.step (LR.storeB (ns := [_, _]) Tryz.sizeOf48 rfl rfl rfl rfl rfl rfl rfl) rfl ?_
      refine PWl.sub (Sub.nilCell (id := 100) (j := 0) rfl rfl) ?_
      refine PWl.nil ?_
      replace h : _ = r0 := h
      subst h
      exact EndsO.mk () (.inl rfl) (Sub.of (tl := []) (to := [(100, _), (1100, _)]) rfl (.nil) (.cons rfl rfl <| .cons rfl rfl <| .nil)) (.nil) rfl rfl
    · replace h := iF hc6 h
      refine PWc.skip ?_
      replace h : _ = r0 := h
      subst h
      exact EndsO.mk () (.inl rfl) (Sub.of (tl := []) (to := [(100, _), (1100, _)]) rfl (.nil) (.cons rfl rfl <| .cons rfl rfl <| .nil)) (.nil) rfl rfl

theorem pack_rest_take_o_ok (n1 : Int) (b_2 : List Int) (bad_3 : Int) (r0 : List Int × List Int × Int) (h : (pack_rest_take_o n1 b_2 bad_3).wp (· = r0)) : PObj Tryz.prog 118 [.ref 100 0, .d (.v (.int .i64 n1))] [(100, .cells 97 [.d (.sl (List.map (eK .u8) b_2)), .d (.v (.int .i64 bad_3))])] [100] (.d (.sl (List.map (eK .u8) r0.1))) (fun _ : Unit => [(100, .cells 97 [.d (.sl (List.map (eK .u8) r0.2.1)), .d (.v (.int .i64 r0.2.2))])]) := by
  refine PObj.intro (sl := [(0, _), (1, _)]) Tryz.func118 rfl Tryz.ntmps118 rfl rfl rfl ?_
  intro ctx hK pv
  refine PWc.seq ?_
  refine PWc.region ?_
  refine PWl.step (LR.assignNilRow 5 1 rfl) rfl ?_
  refine PWl.nil ?_
  refine PWc.seq ?_
  refine PWc.region ?_
  refine PWl.step (LR.move rfl) rfl ?_
  refine PWl.step (LR.nilCheckRef rfl) rfl ?_
  refine PWl.step (LR.fieldRef Tryz.underlying95 rfl Tryz.sizeOf48 (by decide) rfl rfl) rfl ?_
  refine PWl.step (LR.loadRef Tryz.isAgg48 rfl rfl rfl) rfl ?_
  refine PWl.step (LR.move rfl) rfl ?_
  replace h := iNeed h
  obtain ⟨hy4, h⟩ := h
  refine PWl.step (LR.cutHT (enc := (eK .u8)) (L := b_2) Tryz.underlying48 Tryz.sizeOf5 rfl (fun _ => rfl) rfl hy4) rfl ?_
  refine PWl.step (LR.assign rfl) rfl ?_
  refine PWl.nil ?_
  refine PWc.seq ?_
  refine PWc.region ?_
  refine PWl.step (LR.move rfl) rfl ?_
  refine PWl.step (LR.move rfl) rfl ?_
  refine PWl.step (LR.nilCheckRef rfl) rfl ?_
  refine PWl.step (LR.fieldRef Tryz.underlying95 rfl Tryz.sizeOf48 (by decide) rfl rfl) rfl ?_
  refine PWl.step (LR.loadRef Tryz.isAgg48 rfl rfl rfl) rfl ?_
  refine PWl.step (LR.move rfl) rfl ?_
  replace h := iNeed h
  obtain ⟨hy5, h⟩ := h
  refine PWl.step (LR.cutLT (enc := (eK .u8)) (L := b_2) Tryz.underlying48 Tryz.sizeOf5 rfl (fun _ => rfl) rfl hy5) rfl ?_
  refine PWl.step (LR.nilCheckRef rfl) rfl ?_
  refine PWl.step (LR.fieldRef Tryz.underlying95 rfl Tryz.sizeOf48 (by decide) rfl rfl) rfl ?_
  refine PWl.step (LR.storeB (ns := [_, _]) Tryz.sizeOf48 rfl rfl rfl rfl rfl rfl rfl) rfl ?_
  refine PWl.nil ?_
  refine PWc.seq ?_
  refine PWc.region ?_
  refine PWl.step (LR.move rfl) rfl ?_
  refine PWl.re (tl := [(0, _), (1, _), (5, _), (6, _), (7, _), (8, _), (9, _), (10, _), (11, _), (12, _), (13, _), (14, _), (15, _), (16, _), (17, _), (18, _), (19, _), (20, _), (21, _)]) (to := [(100, _), (1100, _)]) rfl (.cons rfl rfl <| .cons rfl rfl <| .cons rfl rfl <| .cons rfl rfl <| .cons rfl rfl <| .cons rfl rfl <| .cons rfl rfl <| .cons rfl rfl <| .cons rfl rfl <| .cons rfl rfl <| .cons rfl rfl <| .cons rfl rfl <| .cons rfl rfl <| .cons rfl rfl <| .cons rfl rfl <| .cons rfl rfl <| .cons rfl rfl <| .cons rfl rfl <| .cons rfl rfl <| .nil) (.cons rfl rfl <| .cons rfl rfl <| .nil) ?_
  refine PWl.step (LR.assign rfl) rfl ?_
  refine PWl.nil ?_
  refine PWc.ret ?_
  replace h : _ = r0 := h
  subst h
  exact EndsO.mk () (.inr rfl) (Sub.of (tl := [(4, _)]) (to := [(100, _), (1100, _)]) rfl (.cons rfl rfl <| .nil) (.cons rfl rfl <| .cons rfl rfl <| .nil)) (.cons (.tmp rfl) <| .nil) rfl rfl

theorem pack_Reader_Num_o_ok (b_1 : List Int) (bad_2 : Int) (r0 : Int × List Int × Int) (h : (pack_Reader_Num_o b_1 bad_2).wp (· = r0)) : PObj Tryz.prog 81 [.ref 100 0] [(100, .cells 97 [.d (.sl (List.map (eK .u8) b_1)), .d (.v (.int .i64 bad_2))])] [100] (.d (.v (.int .u64 r0.1))) (fun _ : Unit => [(100, .cells 97 [.d (.sl (List.map (eK .u8) r0.2.1)), .d (.v (.int .i64 r0.2.2))])]) := by
  refine PObj.intro (sl := [(0, _)]) Tryz.func81 rfl Tryz.ntmps81 rfl rfl rfl ?_
  intro ctx hK pv
  refine PWc.seq ?_
  refine PWc.region ?_
  refine PWl.step (LR.assign rfl) rfl ?_
  refine PWl.nil ?_
  refine PWc.seq ?_
  refine PWc.seq ?_
  refine PWc.region ?_
  refine PWl.step (LR.move rfl) rfl ?_
  replace h := iDet h
  obtain ⟨y3, hy4, h⟩ := h
  refine PWl.step (LR.callObj [(100, 100)] [] [100] (pack_Reader_Err_o_ok b_1 bad_2 y3 hy4) hK rfl Tryz.call83 rfl (by first | rfl | (simp; done) | (simp [PV.nilD, PV.ren, rn]; omega)) (.cons (by first | rfl | (congr 1; first | (simp; done) | (simp; omega))) <| .nil) rfl rfl rfl rfl) rfl ?_
  refine PWl.step (LR.neq rfl rfl) rfl ?_
  refine PWl.nil ?_
  refine PWc.cond rfl (fun hc5 => ?_) (fun hc5 => ?_)
  · replace h := iT hc5 h
    refine PWc.seq ?_
    refine PWc.re (tl := []) (to := [(100, _), (1100, _)]) rfl (.nil) (.cons rfl rfl <| .cons rfl rfl <| .nil) ?_
    refine PWc.region ?_
    refine PWl.step (LR.assign rfl) rfl ?_
    refine PWl.nil ?_
    refine PWc.ret ?_
    replace h : _ = r0 := h
    subst h
    exact EndsO.mk () (.inr rfl) (Sub.of (tl := [(2, _)]) (to := [(100, _), (1100, _)]) rfl (.cons rfl rfl <| .nil) (.cons rfl rfl <| .cons rfl rfl <| .nil)) (.cons (.tmp rfl) <| .nil) rfl rfl
  · replace h := iF hc5 h
    refine PWc.skip ?_
    refine PWc.seq ?_
    refine PWc.re (tl := [(0, _)]) (to := [(100, _), (1100, _)]) rfl (.cons rfl rfl <| .nil) (.cons rfl rfl <| .cons rfl rfl <| .nil) ?_
    refine PWc.region ?_
    refine PWl.step (LR.move rfl) rfl ?_
    refine PWl.step (LR.nilCheckRef rfl) rfl ?_
    refine PWl.step (LR.fieldRef Tryz.underlying97 rfl Tryz.sizeOf95 (by decide) rfl rfl) rfl ?_
    refine PWl.step (LR.fieldRef Tryz.underlying95 rfl Tryz.sizeOf48 (by decide) rfl rfl) rfl ?_
    refine PWl.step (LR.loadRef Tryz.isAgg48 rfl rfl rfl) rfl ?_
    replace h := iDet h
    obtain ⟨v6, hy7, h⟩ := h
    refine PWl.step (LR.callN (num_Read_ok y3.2.1 0 v6 hy7) rfl Tryz.call117 rfl rfl rfl rfl) rfl ?_
    refine PWl.step (LR.move rfl) rfl ?_
    refine PWl.step (LR.extract rfl rfl) rfl ?_
    refine PWl.step (LR.extract rfl rfl) rfl ?_
    refine PWl.step (LR.extract rfl rfl) rfl ?_
    refine PWl.step (LR.assign rfl) rfl ?_
    refine PWl.step (LR.assign rfl) rfl ?_
    refine PWl.step (LR.assign rfl) rfl ?_
    refine PWl.nil ?_
    refine PWc.seq ?_
    refine PWc.seq ?_
    refine PWc.region ?_
    refine PWl.step (LR.move rfl) rfl ?_
    refine PWl.step (LR.neq rfl rfl) rfl ?_
    refine PWl.nil ?_
    refine PWc.cond rfl (fun hc8 => ?_) (fun hc8 => ?_)
    · replace h := iT hc8 h
      refine PWc.seq ?_
      refine PWc.region ?_
      refine PWl.step (LR.move rfl) rfl ?_
      refine PWl.step (LR.move rfl) rfl ?_
      replace h := iDet h
      obtain ⟨y9, hy10, h⟩ := h
      refine PWl.step (LR.callObj [(100, 100)] [] [100] (pack_Reader_Fail_o_ok v6.2.2 y3.2.1 y3.2.2 y9 hy10) hK rfl Tryz.call82 rfl (by first | rfl | (simp; done) | (simp [PV.nilD, PV.ren, rn]; omega)) (.cons (by first | rfl | (congr 1; first | (simp; done) | (simp; omega))) <| .nil) rfl rfl rfl rfl) rfl ?_
      refine PWl.nil ?_
      refine PWc.seq ?_
      refine PWc.re (tl := []) (to := [(100, _), (1100, _)]) rfl (.nil) (.cons rfl rfl <| .cons rfl rfl <| .nil) ?_
      refine PWc.region ?_
      refine PWl.step (LR.assign rfl) rfl ?_
      refine PWl.nil ?_
      refine PWc.ret ?_
      replace h : _ = r0 := h
      subst h
      exact EndsO.mk () (.inr rfl) (Sub.of (tl := [(2, _)]) (to := [(100, _), (1100, _)]) rfl (.cons rfl rfl <| .nil) (.cons rfl rfl <| .cons rfl rfl <| .nil)) (.cons (.tmp rfl) <| .nil) rfl rfl
    · replace h := iF hc8 h
      refine PWc.skip ?_
      refine PWc.seq ?_
      refine PWc.region ?_
      refine PWl.step (LR.move rfl) rfl ?_
      refine PWl.step (LR.nilCheckRef rfl) rfl ?_
      refine PWl.step (LR.fieldRef Tryz.underlying97 rfl Tryz.sizeOf95 (by decide) rfl rfl) rfl ?_
      refine PWl.step (LR.move rfl) rfl ?_
      replace h := iDet h
      obtain ⟨y11, hy12, h⟩ := h
      refine PWl.step (LR.callObj [(100, 100)] [] [100] (pack_rest_take_o_ok v6.2.1 y3.2.1 y3.2.2 y11 hy12) hK rfl Tryz.call118 rfl (by first | rfl | (simp; done) | (simp [PV.nilD, PV.ren, rn]; omega)) (.cons (by first | rfl | (congr 1; first | (simp; done) | (simp; omega))) <| .nil) rfl rfl rfl rfl) rfl ?_
      refine PWl.nil ?_
      refine PWc.seq ?_
      refine PWc.re (tl := [(3, _)]) (to := [(100, _), (1100, _)]) rfl (.cons rfl rfl <| .nil) (.cons rfl rfl <| .cons rfl rfl <| .nil) ?_
      refine PWc.region ?_
      refine PWl.step (LR.move rfl) rfl ?_
      refine PWl.step (LR.assign rfl) rfl ?_
      refine PWl.nil ?_
      refine PWc.ret ?_
      replace h : _ = r0 := h
      subst h
      exact EndsO.mk () (.inr rfl) (Sub.of (tl := [(2, _)]) (to := [(100, _), (1100, _)]) rfl (.cons rfl rfl <| .nil) (.cons rfl rfl <| .cons rfl rfl <| .nil)) (.cons (.tmp rfl) <| .nil) rfl rfl

theorem pack_Reader_Upto_o_ok (most1 : Int) (b_2 : List Int) (bad_3 : Int) (r0 : Int × List Int × Int) (h : (pack_Reader_Upto_o most1 b_2 bad_3).wp (· = r0)) : PObj Tryz.prog 80 [.ref 100 0, .d (.v (.int .u64 most1))] [(100, .cells 97 [.d (.sl (List.map (eK .u8) b_2)), .d (.v (.int .i64 bad_3))])] [100] (.d (.v (.int .u64 r0.1))) (fun _ : Unit => [(100, .cells 97 [.d (.sl (List.map (eK .u8) r0.2.1)), .d (.v (.int .i64 r0.2.2))])]) := by
  refine PObj.intro (sl := [(0, _), (1, _)]) Tryz.func80 rfl Tryz.ntmps80 rfl rfl rfl ?_
  intro ctx hK pv
  refine PWc.seq ?_
  refine PWc.region ?_
  refine PWl.step (LR.assign rfl) rfl ?_
  refine PWl.nil ?_
  refine PWc.seq ?_
  refine PWc.region ?_
  refine PWl.step (LR.move rfl) rfl ?_
  replace h := iDet h
  obtain ⟨y4, hy5, h⟩ := h
  refine PWl.step (LR.callObj [(100, 100)] [] [100] (pack_Reader_Num_o_ok b_2 bad_3 y4 hy5) hK rfl Tryz.call81 rfl (by first | rfl | (simp; done) | (simp [PV.nilD, PV.ren, rn]; omega)) (.cons (by first | rfl | (congr 1; first | (simp; done) | (simp; omega))) <| .nil) rfl rfl rfl rfl) rfl ?_
  refine PWl.step (LR.assign rfl) rfl ?_
  refine PWl.nil ?_
  refine PWc.seq ?_
  refine PWc.seq ?_
  refine PWc.re (tl := [(0, _), (1, _), (5, _)]) (to := [(100, _), (1100, _)]) rfl (.cons rfl rfl <| .cons rfl rfl <| .cons rfl rfl <| .nil) (.cons rfl rfl <| .cons rfl rfl <| .nil) ?_
  refine PWc.region ?_
  refine PWl.step (LR.move rfl) rfl ?_
  refine PWl.step (LR.move rfl) rfl ?_
  refine PWl.step (LR.gtr rfl rfl) rfl ?_
  refine PWl.nil ?_
  refine PWc.cond rfl (fun hc6 => ?_) (fun hc6 => ?_)
  · replace h := iT hc6 h
    refine PWc.seq ?_
    refine PWc.region ?_
    refine PWl.step (LR.move rfl) rfl ?_
    replace h := iDet h
    obtain ⟨y7, hy8, h⟩ := h
    refine PWl.step (LR.callObj [(100, 100)] [] [100] (pack_Reader_Fail_o_ok 4 y4.2.1 y4.2.2 y7 hy8) hK rfl Tryz.call82 rfl (by first | rfl | (simp; done) | (simp [PV.nilD, PV.ren, rn]; omega)) (.cons (by first | rfl | (congr 1; first | (simp; done) | (simp; omega))) <| .nil) rfl rfl rfl rfl) rfl ?_
    refine PWl.nil ?_
    refine PWc.seq ?_
    refine PWc.re (tl := []) (to := [(100, _), (1100, _)]) rfl (.nil) (.cons rfl rfl <| .cons rfl rfl <| .nil) ?_
    refine PWc.region ?_
    refine PWl.step (LR.assign rfl) rfl ?_
    refine PWl.nil ?_
    refine PWc.ret ?_
    replace h : _ = r0 := h
    subst h
    exact EndsO.mk () (.inr rfl) (Sub.of (tl := [(4, _)]) (to := [(100, _), (1100, _)]) rfl (.cons rfl rfl <| .nil) (.cons rfl rfl <| .cons rfl rfl <| .nil)) (.cons (.tmp rfl) <| .nil) rfl rfl
  · replace h := iF hc6 h
    refine PWc.skip ?_
    refine PWc.seq ?_
    refine PWc.region ?_
    refine PWl.step (LR.move rfl) rfl ?_
    refine PWl.step (LR.assign rfl) rfl ?_
    refine PWl.nil ?_
    refine PWc.ret ?_
    replace h : _ = r0 := h
    subst h
    exact EndsO.mk () (.inr rfl) (Sub.of (tl := [(4, _)]) (to := [(100, _), (1100, _)]) rfl (.cons rfl rfl <| .nil) (.cons rfl rfl <| .cons rfl rfl <| .nil)) (.cons (.tmp rfl) <| .nil) rfl rfl
end Go.Proofs

namespace Go.Proofs
open Go.Ep
set_option maxHeartbeats 1000000
set_option maxRecDepth 100000
set_option linter.unusedVariables false
set_option linter.unusedSimpArgs false


theorem dcode_part_o_ok (b_1 : List Int) (bad_2 : Int) (r0 : TPart × List Int × Int) (h : (dcode_part_o b_1 bad_2).wp (· = r0)) : PObj Tryz.prog 89 [.ref 100 0] [(100, .cells 97 [.d (.sl (List.map (eK .u8) b_1)), .d (.v (.int .i64 bad_2))])] [100] (.agg (List.map .d (TPart.e r0.1))) (fun _ : Unit => [(100, .cells 97 [.d (.sl (List.map (eK .u8) r0.2.1)), .d (.v (.int .i64 r0.2.2))])]) := by
  refine PObj.intro (sl := [(0, _)]) Tryz.func89 rfl Tryz.ntmps89 rfl rfl rfl ?_
  intro ctx hK pv
  refine PWc.seq ?_
  refine PWc.region ?_
  refine PWl.step (LR.allocZ (cs := [_, _]) Tryz.zeroValue80 rfl rfl rfl rfl) rfl ?_
  refine PWl.nil ?_
  refine PWc.seq ?_
  refine PWc.region ?_
  refine PWl.step (LR.move rfl) rfl ?_
  replace h := iDet h
  obtain ⟨y3, hy4, h⟩ := h
  refine PWl.step (LR.callObj [(100, 100)] [] [100] (pack_Reader_Upto_o_ok 65535 b_1 bad_2 y3 hy4) hK rfl Tryz.call80 rfl (by first | rfl | (simp; done) | (simp [PV.nilD, PV.ren, rn]; omega)) (.cons (by first | rfl | (congr 1; first | (simp; done) | (simp; omega))) <| .nil) rfl rfl rfl rfl) rfl ?_
  refine PWl.step (LR.convInt Tryz.underlying29 (by rw [Tryz.underlying30]; rfl) rfl rfl) rfl ?_
  refine PWl.step (LR.buildR (ns := [_, _]) build80 rfl rfl rfl) rfl ?_
  refine PWl.step (LR.allocZ (cs := [_, _]) Tryz.zeroValue80 rfl rfl rfl rfl) rfl ?_
  refine PWl.step (LR.storeB (ns := [_, _]) Tryz.sizeOf80 rfl rfl rfl rfl rfl rfl rfl) rfl ?_
  refine PWl.sub (Sub.ownNil (id := 3) (j := 1) (id' := 30061) (e := 89) (k := 2) rfl rfl rfl rfl) ?_
  refine PWl.nil ?_
  refine PWc.seq ?_
  refine PWc.seq ?_
  refine PWc.re (tl := [(0, _), (2, _), (3, _)]) (to := [(2, _), (3, _), (100, _), (1100, _), (30061, _)]) rfl (.cons rfl rfl <| .cons rfl rfl <| .cons rfl rfl <| .nil) (.cons rfl rfl <| .cons rfl rfl <| .cons rfl rfl <| .cons rfl rfl <| .cons rfl rfl <| .nil) ?_
  refine PWc.region ?_
  refine PWl.step (LR.move rfl) rfl ?_
  replace h := iDet h
  obtain ⟨y5, hy6, h⟩ := h
  refine PWl.step (LR.callObj [(100, 100)] [] [100] (pack_Reader_Num_o_ok y3.2.1 y3.2.2 y5 hy6) hK rfl Tryz.call81 rfl (by first | rfl | (simp; done) | (simp [PV.nilD, PV.ren, rn]; omega)) (.cons (by first | rfl | (congr 1; first | (simp; done) | (simp; omega))) <| .nil) rfl rfl rfl rfl) rfl ?_
  refine PWl.step (LR.move rfl) rfl ?_
  refine PWl.nil ?_
  refine PWc.jn (iBind h) (fun (⟨v7, v8, v9⟩ : List TRun × List Int × Int) (_ : Unit) => ⟨29, [(2, .ref 2 0), (3, .ref 3 0)], [(2, .cells 80 [.d (.v (.int .u16 0)), .d (.sl (List.map TRun.e ([] : List TRun)))]), (3, .cells 80 [.d (.v (.int .u16 (IntKind.u16.wrap y3.1))), .row 30061 (List.length v7)]), (100, .cells 97 [.d (.sl (List.map (eK .u8) v8)), .d (.v (.int .i64 v9))]), (1100, .pin 100 (pv 100).1 (pv 100).2), (30061, .row 89 2 (List.map TRun.e v7))]⟩) (fun h => ?_) ?_
  · refine PWc.block ?_
    refine PWc.loopM (fun (⟨v32, v33, v34, v35⟩ : Int × List TRun × List Int × Int) (_ : Unit) => ⟨29, [(0, .ref 100 0), (2, .ref 2 0), (3, .ref 3 0), (10, .d (.v (.int .u64 y5.1))), (11, .d (.v (.int .u64 v32)))], [(2, .cells 80 [.d (.v (.int .u16 0)), .d (.sl (List.map TRun.e ([] : List TRun)))]), (3, .cells 80 [.d (.v (.int .u16 (IntKind.u16.wrap y3.1))), .row 30061 (List.length v33)]), (100, .cells 97 [.d (.sl (List.map (eK .u8) v34)), .d (.v (.int .i64 v35))]), (1100, .pin 100 (pv 100).1 (pv 100).2), (30061, .row 89 2 (List.map TRun.e v33))]⟩) () h (Sub.of rfl (.cons rfl rfl <| .cons rfl rfl <| .cons rfl rfl <| .cons rfl rfl <| .cons rfl rfl <| .nil) (.cons rfl rfl <| .cons rfl rfl <| .cons rfl rfl <| .cons rfl rfl <| .cons rfl rfl <| .nil)) ?_
    rintro N ⟨v32, v33, v34, v35⟩ _ h
    refine PWc.seq ?_
    refine PWc.region ?_
    refine PWl.step (LR.lss rfl rfl) rfl ?_
    refine PWl.nil ?_
    refine PWc.seq ?_
    refine PWc.cond rfl (fun hc36 => ?_) (fun hc36 => ?_)
    · replace h := iT hc36 h
      refine PWc.skip ?_
      refine PWc.seq ?_
      refine PWc.block ?_
      refine PWc.seq ?_
      refine PWc.region ?_
      refine PWl.step (LR.move rfl) rfl ?_
      replace h := iDet h
      obtain ⟨y37, hy38, h⟩ := h
      refine PWl.step (LR.callObj [(100, 100)] [] [100] (pack_Reader_Num_o_ok v34 v35 y37 hy38) hK rfl Tryz.call81 rfl (by first | rfl | (simp; done) | (simp [PV.nilD, PV.ren, rn]; omega)) (.cons (by first | rfl | (congr 1; first | (simp; done) | (simp; omega))) <| .nil) rfl rfl rfl rfl) rfl ?_
      refine PWl.step (LR.assign rfl) rfl ?_
      refine PWl.nil ?_
      refine PWc.seq ?_
      refine PWc.re (tl := [(0, _), (2, _), (3, _), (4, _), (10, _), (11, _)]) (to := [(2, _), (3, _), (100, _), (1100, _), (30061, _)]) rfl (.cons rfl rfl <| .cons rfl rfl <| .cons rfl rfl <| .cons rfl rfl <| .cons rfl rfl <| .cons rfl rfl <| .nil) (.cons rfl rfl <| .cons rfl rfl <| .cons rfl rfl <| .cons rfl rfl <| .cons rfl rfl <| .nil) ?_
      refine PWc.regionE [⟨[15], [], [], [], [], [3], [], []⟩, ⟨[16], [], [3], [], [], [30061], [], []⟩, ⟨[17], [], [], [], [], [], [], []⟩, ⟨[18], [], [], [], [], [100], [], []⟩, ⟨[19], [100], [100], [], [], [], [], []⟩, ⟨[20], [], [], [], [], [], [], []⟩, ⟨[21], [], [], [], [], [], [], []⟩, ⟨[16, 22], [3, 30061], [3, 30061], [], [(30061, [16])], [30061], [], [3]⟩, ⟨[23], [], [], [], [], [3], [], []⟩, ⟨[], [3], [3, 30061], [], [], [], [30061], []⟩] (by kernel_rfl) (by kernel_rfl) rfl ?_
      refine PQe.stepP (fun _ he ho => LR.fieldRef Tryz.underlying80 rfl Tryz.sizeOf37 (by decide) rfl (he rfl rfl)) (.inl rfl) rfl ?_
      refine PQe.stepP (fun _ he ho => LR.loadRef Tryz.isAgg37 (he rfl rfl) (ho rfl rfl) rfl) (.inl rfl) rfl ?_
      refine PQe.stepP (fun _ he ho => LR.move (he rfl rfl)) (.inl rfl) rfl ?_
      refine PQe.stepP (fun _ he ho => LR.move (he rfl rfl)) (.inl rfl) rfl ?_
      replace h := iDet h
      obtain ⟨y39, hy40, h⟩ := h
      refine PQe.callObj [(100, 100)] [] [100] (pack_Reader_Num_o_ok y37.2.1 y37.2.2 y39 hy40) hK (fun _ he => ⟨he rfl rfl, evsE he rfl rfl⟩) Tryz.call81 (by first | rfl | (simp; done) | (simp [PV.nilD, PV.ren, rn]; omega)) (.cons (by first | rfl | (congr 1; first | (simp; done) | (simp; omega))) <| .nil) rfl rfl rfl rfl (.inl rfl) rfl ?_
      refine PQe.stepP (fun _ he ho => LR.build (ns := [_, _]) build89 rfl (evpE he rfl rfl) rfl) (.inl rfl) rfl ?_
      refine PQe.stepP (fun _ he ho => LR.buildSliceD [.tmp 20] elem37 rfl rfl (.cons (he rfl rfl) rfl rfl <| .nil) (by decide) (by decide)) (.inl rfl) rfl ?_
      replace h := iNeed h
      obtain ⟨hy41, h⟩ := h
      refine PQe.stepX [16] (fun _ he ho ha => LR.appC (enc := TRun.e) (L := v33) (R := [(⟨y37.1, y39.1⟩ : TRun)]) (j := 1) [16] elem37 Tryz.underlying37 (he rfl rfl) rfl (ho rfl rfl) (ho rfl rfl) rfl rfl (fun _ h1 h2 => Src.slT (enc := TRun.e) (R := [(⟨y37.1, y39.1⟩ : TRun)]) (evSame h1 h2 (he rfl rfl)) (fun _ => rfl)) (fun _ => rfl) hy41 rfl ha) rfl rfl (.inl rfl) rfl ?_
      refine PQe.stepP (fun _ he ho => LR.fieldRef Tryz.underlying80 rfl Tryz.sizeOf37 (by decide) rfl (he rfl rfl)) (.inl rfl) rfl ?_
      refine PQe.stepS (fun _ he ho => LR.storeB (ns := [_, _]) Tryz.sizeOf37 (he rfl rfl) (he rfl rfl) rfl rfl (ho rfl rfl) rfl rfl) (.inl rfl) rfl ?_
      refine PQe.nil ?_
      refine PWc.seq ?_
      refine PWc.re (tl := [(0, _), (2, _), (3, _), (10, _), (11, _)]) (to := [(2, _), (3, _), (100, _), (1100, _), (30061, _)]) rfl (.cons rfl rfl <| .cons rfl rfl <| .cons rfl rfl <| .cons rfl rfl <| .cons rfl rfl <| .nil) (.cons rfl rfl <| .cons rfl rfl <| .cons rfl rfl <| .cons rfl rfl <| .cons rfl rfl <| .nil) ?_
      refine PWc.region ?_
      refine PWl.step (LR.move rfl) rfl ?_
      replace h := iDet h
      obtain ⟨y42, hy43, h⟩ := h
      refine PWl.step (LR.callObj [(100, 100)] [] [100] (pack_Reader_Err_o_ok y39.2.1 y39.2.2 y42 hy43) hK rfl Tryz.call83 rfl (by first | rfl | (simp; done) | (simp [PV.nilD, PV.ren, rn]; omega)) (.cons (by first | rfl | (congr 1; first | (simp; done) | (simp; omega))) <| .nil) rfl rfl rfl rfl) rfl ?_
      refine PWl.step (LR.neq rfl rfl) rfl ?_
      refine PWl.nil ?_
      refine PWc.cond rfl (fun hc44 => ?_) (fun hc44 => ?_)
      · replace h := iT hc44 h
        refine PWc.exit ?_
        exact ⟨((v33 ++ [(⟨y37.1, y39.1⟩ : TRun)]), y42.2.1, y42.2.2), (), h, Sub.of rfl (.cons rfl rfl <| .cons rfl rfl <| .nil) (.cons rfl rfl <| .cons rfl rfl <| .cons rfl rfl <| .cons rfl rfl <| .cons rfl rfl <| .nil)⟩
      · replace h := iF hc44 h
        refine PWc.skip ?_
        refine PWc.re (tl := [(0, _), (2, _), (3, _), (10, _), (11, _)]) (to := [(2, _), (3, _), (100, _), (1100, _), (30061, _)]) rfl (.cons rfl rfl <| .cons rfl rfl <| .cons rfl rfl <| .cons rfl rfl <| .cons rfl rfl <| .nil) (.cons rfl rfl <| .cons rfl rfl <| .cons rfl rfl <| .cons rfl rfl <| .cons rfl rfl <| .nil) ?_
        refine PWc.region ?_
        refine PWl.step (LR.addW rfl rfl) rfl ?_
        refine PWl.step (LR.move rfl) rfl ?_
        refine PWl.nil ?_
        exact ⟨((IntKind.u64.wrap (v32 + 1)), (v33 ++ [(⟨y37.1, y39.1⟩ : TRun)]), y42.2.1, y42.2.2), (), h, Sub.of rfl (.cons rfl rfl <| .cons rfl rfl <| .cons rfl rfl <| .cons rfl rfl <| .cons rfl rfl <| .nil) (.cons rfl rfl <| .cons rfl rfl <| .cons rfl rfl <| .cons rfl rfl <| .cons rfl rfl <| .nil)⟩
    · replace h := iF hc36 h
      refine PWc.exit ?_
      exact ⟨(v33, v34, v35), (), h, Sub.of rfl (.cons rfl rfl <| .cons rfl rfl <| .nil) (.cons rfl rfl <| .cons rfl rfl <| .cons rfl rfl <| .cons rfl rfl <| .cons rfl rfl <| .nil)⟩
  · rintro ⟨v7, v8, v9⟩ _ h
    refine PWc.seq ?_
    refine PWc.region ?_
    refine PWl.frzC (id := 30061) (oid := 3) (j := 1) (n := (List.length v7)) [] hK (.nil) rfl (by simp) rfl (by first | rfl | (congr 2; first | (simp; done) | (simp; omega))) rfl ?_
    refine PWl.step (LR.loadRefAgg (ps := [_, _]) Tryz.isAgg80 Tryz.sizeOf80 rfl rfl rfl rfl) rfl ?_
    refine PWl.step (LR.storeB (ns := [_, _]) Tryz.sizeOf80 rfl rfl rfl rfl rfl rfl rfl) rfl ?_
    refine PWl.nil ?_
    refine PWc.ret ?_
    replace h : _ = r0 := h
    subst h
    exact EndsO.mkX (ex := [(2, _)]) () (.inr rfl) (Sub.of (tl := [(2, _)]) (to := [(100, _), (1100, _), (2, _)]) rfl (.cons rfl rfl <| .nil) (.cons rfl rfl <| .cons rfl rfl <| .cons rfl rfl <| .nil)) (.cons (.agg Tryz.isAgg80 Tryz.sizeOf80 rfl rfl rfl) <| .nil) rfl rfl

theorem dcode_Ctx_o_ok (b_1 : List Int) (bad_2 : Int) (r0 : List TPart × List Int × Int) (h : (dcode_Ctx_o b_1 bad_2).wp (· = r0)) : PObj Tryz.prog 47 [.ref 100 0] [(100, .cells 97 [.d (.sl (List.map (eK .u8) b_1)), .d (.v (.int .i64 bad_2))])] [100] (.d (.sl (List.map TPart.e r0.1))) (fun _ : Unit => [(100, .cells 97 [.d (.sl (List.map (eK .u8) r0.2.1)), .d (.v (.int .i64 r0.2.2))])]) := by
  refine PObj.intro (sl := [(0, _)]) Tryz.func47 rfl Tryz.ntmps47 rfl rfl rfl ?_
  intro ctx hK pv
  refine PWc.seq ?_
  refine PWc.region ?_
  refine PWl.step (LR.assignNilRow 80 2 rfl) rfl ?_
  refine PWl.nil ?_
  refine PWc.seq ?_
  refine PWc.region ?_
  refine PWl.step (LR.assignNilRow 80 2 rfl) rfl ?_
  refine PWl.nil ?_
  refine PWc.seq ?_
  refine PWc.seq ?_
  refine PWc.region ?_
  refine PWl.step (LR.move rfl) rfl ?_
  replace h := iDet h
  obtain ⟨y3, hy4, h⟩ := h
  refine PWl.step (LR.callObj [(100, 100)] [] [100] (pack_Reader_Num_o_ok b_1 bad_2 y3 hy4) hK rfl Tryz.call81 rfl (by first | rfl | (simp; done) | (simp [PV.nilD, PV.ren, rn]; omega)) (.cons (by first | rfl | (congr 1; first | (simp; done) | (simp; omega))) <| .nil) rfl rfl rfl rfl) rfl ?_
  refine PWl.step (LR.move rfl) rfl ?_
  refine PWl.nil ?_
  refine PWc.jnX (iBind h) (fun (⟨c5, v6, v7⟩ : List TPart × List Int × Int) (_ : Unit) => ⟨23, [(0, .ref 100 0), (3, .row 3 (List.length c5))], [(3, .row 80 2 (List.map TPart.e c5)), (100, .cells 97 [.d (.sl (List.map (eK .u8) v6)), .d (.v (.int .i64 v7))]), (1100, .pin 100 (pv 100).1 (pv 100).2)]⟩) (fun h => ?_) ?_
  · refine PWc.block ?_
    refine PWc.loopM (fun (⟨v26, c27, v28, v29⟩ : Int × List TPart × List Int × Int) (_ : Unit) => ⟨23, [(0, .ref 100 0), (3, .row 3 (List.length c27)), (5, .d (.v (.int .u64 y3.1))), (6, .d (.v (.int .u64 v26)))], [(3, .row 80 2 (List.map TPart.e c27)), (100, .cells 97 [.d (.sl (List.map (eK .u8) v28)), .d (.v (.int .i64 v29))]), (1100, .pin 100 (pv 100).1 (pv 100).2)]⟩) () h (Sub.of rfl (.cons rfl rfl <| .cons rfl rfl <| .cons rfl rfl <| .cons rfl rfl <| .nil) (.cons rfl rfl <| .cons rfl rfl <| .cons rfl rfl <| .nil)) ?_
    rintro N ⟨v26, c27, v28, v29⟩ _ h
    refine PWc.seq ?_
    refine PWc.region ?_
    refine PWl.step (LR.lss rfl rfl) rfl ?_
    refine PWl.nil ?_
    refine PWc.seq ?_
    refine PWc.cond rfl (fun hc30 => ?_) (fun hc30 => ?_)
    · replace h := iT hc30 h
      refine PWc.skip ?_
      refine PWc.seq ?_
      refine PWc.block ?_
      refine PWc.seq ?_
      refine PWc.region ?_
      refine PWl.step (LR.move rfl) rfl ?_
      refine PWl.step (LR.move rfl) rfl ?_
      replace h := iDet h
      obtain ⟨y31, hy32, h⟩ := h
      refine PWl.step (LR.callObj [(100, 100)] [] [100] (dcode_part_o_ok v28 v29 y31 hy32) hK rfl Tryz.call89 rfl (by first | rfl | (simp; done) | (simp [PV.nilD, PV.ren, rn]; omega)) (.cons (by first | rfl | (congr 1; first | (simp; done) | (simp; omega))) <| .nil) rfl rfl rfl rfl) rfl ?_
      refine PWl.step (LR.buildSliceD [.tmp 10] elem23 rfl rfl (.cons rfl rfl rfl <| .nil) (by decide) (by decide)) rfl ?_
      replace h := iNeed h
      obtain ⟨hy33, h⟩ := h
      refine PWl.step (LR.appT (enc := TPart.e) (L := c27) (R := [y31.1]) [3, 8] elem23 Tryz.underlying23 rfl rfl rfl (Src.slT (enc := TPart.e) (R := [y31.1]) rfl (fun _ => rfl)) (fun _ => rfl) hy33 rfl rfl) rfl ?_
      refine PWl.step (LR.assign rfl) rfl ?_
      refine PWl.nil ?_
      refine PWc.seq ?_
      refine PWc.re (tl := [(0, _), (3, _), (5, _), (6, _)]) (to := [(3, _), (100, _), (1100, _)]) rfl (.cons rfl rfl <| .cons rfl rfl <| .cons rfl rfl <| .cons rfl rfl <| .nil) (.cons rfl rfl <| .cons rfl rfl <| .cons rfl rfl <| .nil) ?_
      refine PWc.region ?_
      refine PWl.step (LR.move rfl) rfl ?_
      replace h := iDet h
      obtain ⟨y34, hy35, h⟩ := h
      refine PWl.step (LR.callObj [(100, 100)] [] [100] (pack_Reader_Err_o_ok y31.2.1 y31.2.2 y34 hy35) hK rfl Tryz.call83 rfl (by first | rfl | (simp; done) | (simp [PV.nilD, PV.ren, rn]; omega)) (.cons (by first | rfl | (congr 1; first | (simp; done) | (simp; omega))) <| .nil) rfl rfl rfl rfl) rfl ?_
      refine PWl.step (LR.neq rfl rfl) rfl ?_
      refine PWl.nil ?_
      refine PWc.cond rfl (fun hc36 => ?_) (fun hc36 => ?_)
      · replace h := iT hc36 h
        refine PWc.seq ?_
        refine PWc.re (tl := []) (to := [(100, _), (1100, _)]) rfl (.nil) (.cons rfl rfl <| .cons rfl rfl <| .nil) ?_
        refine PWc.region ?_
        refine PWl.step (LR.assignNilRow 80 2 rfl) rfl ?_
        refine PWl.nil ?_
        refine PWc.ret ?_
        replace h : _ = r0 := h
        subst h
        exact EndsO.mk () (.inr rfl) (Sub.trans (Sub.frz [2] hK rfl (by first | (simp; done) | (simp; omega) | omega) (AllRow.get (.cons rfl <| .nil))) <| Sub.of (tl := [(2, _)]) (to := [(100, _), (1100, _)]) rfl (.cons rfl rfl <| .nil) (.cons rfl rfl <| .cons rfl rfl <| .nil)) (.cons (.tmp rfl) <| .nil) rfl rfl
      · replace h := iF hc36 h
        refine PWc.skip ?_
        refine PWc.re (tl := [(0, _), (3, _), (5, _), (6, _)]) (to := [(3, _), (100, _), (1100, _)]) rfl (.cons rfl rfl <| .cons rfl rfl <| .cons rfl rfl <| .cons rfl rfl <| .nil) (.cons rfl rfl <| .cons rfl rfl <| .cons rfl rfl <| .nil) ?_
        refine PWc.region ?_
        refine PWl.step (LR.addW rfl rfl) rfl ?_
        refine PWl.step (LR.move rfl) rfl ?_
        refine PWl.nil ?_
        exact ⟨((IntKind.u64.wrap (v26 + 1)), (c27 ++ [y31.1]), y34.2.1, y34.2.2), (), h, Sub.of rfl (.cons rfl rfl <| .cons rfl rfl <| .cons rfl rfl <| .cons rfl rfl <| .nil) (.cons rfl rfl <| .cons rfl rfl <| .cons rfl rfl <| .nil)⟩
    · replace h := iF hc30 h
      refine PWc.exit ?_
      exact ⟨(c27, v28, v29), (), h, Sub.of rfl (.cons rfl rfl <| .cons rfl rfl <| .nil) (.cons rfl rfl <| .cons rfl rfl <| .cons rfl rfl <| .nil)⟩
  · rintro ⟨c5, v6, v7⟩ _ h
    refine PWc.seq ?_
    refine PWc.seq ?_
    refine PWc.region ?_
    refine PWl.step (LR.move rfl) rfl ?_
    replace h := iDet h
    obtain ⟨v37, hy38, h⟩ := h
    refine PWl.frz [3, 17] hK (.cons rfl <| .cons rfl <| .nil) rfl (by simp) ?_
    refine PWl.step (LR.callN (ctx_Good_ok c5 v37 hy38) rfl Tryz.call22 rfl rfl rfl rfl) rfl ?_
    refine PWl.step (LR.not rfl) rfl ?_
    refine PWl.nil ?_
    refine PWc.cond rfl (fun hc39 => ?_) (fun hc39 => ?_)
    · replace h := iT hc39 h
      refine PWc.seq ?_
      refine PWc.region ?_
      refine PWl.step (LR.move rfl) rfl ?_
      replace h := iDet h
      obtain ⟨y40, hy41, h⟩ := h
      refine PWl.step (LR.callObj [(100, 100)] [] [100] (pack_Reader_Fail_o_ok 4 v6 v7 y40 hy41) hK rfl Tryz.call82 rfl (by first | rfl | (simp; done) | (simp [PV.nilD, PV.ren, rn]; omega)) (.cons (by first | rfl | (congr 1; first | (simp; done) | (simp; omega))) <| .nil) rfl rfl rfl rfl) rfl ?_
      refine PWl.nil ?_
      refine PWc.seq ?_
      refine PWc.re (tl := []) (to := [(100, _), (1100, _)]) rfl (.nil) (.cons rfl rfl <| .cons rfl rfl <| .nil) ?_
      refine PWc.region ?_
      refine PWl.step (LR.assignNilRow 80 2 rfl) rfl ?_
      refine PWl.nil ?_
      refine PWc.ret ?_
      replace h : _ = r0 := h
      subst h
      exact EndsO.mk () (.inr rfl) (Sub.trans (Sub.frz [2] hK rfl (by first | (simp; done) | (simp; omega) | omega) (AllRow.get (.cons rfl <| .nil))) <| Sub.of (tl := [(2, _)]) (to := [(100, _), (1100, _)]) rfl (.cons rfl rfl <| .nil) (.cons rfl rfl <| .cons rfl rfl <| .nil)) (.cons (.tmp rfl) <| .nil) rfl rfl
    · replace h := iF hc39 h
      refine PWc.skip ?_
      refine PWc.seq ?_
      refine PWc.region ?_
      refine PWl.step (LR.move rfl) rfl ?_
      refine PWl.step (LR.assign rfl) rfl ?_
      refine PWl.nil ?_
      refine PWc.ret ?_
      replace h : _ = r0 := h
      subst h
      exact EndsO.mk () (.inr rfl) (Sub.of (tl := [(2, _)]) (to := [(100, _), (1100, _)]) rfl (.cons rfl rfl <| .nil) (.cons rfl rfl <| .cons rfl rfl <| .nil)) (.cons (.tmp rfl) <| .nil) rfl rfl

theorem pack_rest_Left_o_ok (b_1 : List Int) (bad_2 : Int) (r0 : Int × List Int × Int) (h : (pack_rest_Left_o b_1 bad_2).wp (· = r0)) : PObj Tryz.prog 120 [.ref 100 0] [(100, .cells 97 [.d (.sl (List.map (eK .u8) b_1)), .d (.v (.int .i64 bad_2))])] [100] (.d (.v (.int .i64 r0.1))) (fun _ : Unit => [(100, .cells 97 [.d (.sl (List.map (eK .u8) r0.2.1)), .d (.v (.int .i64 r0.2.2))])]) := by
  refine PObj.intro (sl := [(0, _)]) Tryz.func120 rfl Tryz.ntmps120 rfl rfl rfl ?_
  intro ctx hK pv
  refine PWc.seq ?_
  refine PWc.region ?_
  refine PWl.step (LR.assign rfl) rfl ?_
  refine PWl.nil ?_
  refine PWc.seq ?_
  refine PWc.seq ?_
  refine PWc.region ?_
  refine PWl.step (LR.move rfl) rfl ?_
  refine PWl.step (LR.eqlPtr Tryz.underlying149 rfl) rfl ?_
  refine PWl.nil ?_
  refine PWc.condF rfl ?_
  refine PWc.skip ?_
  refine PWc.seq ?_
  refine PWc.region ?_
  refine PWl.step (LR.move rfl) rfl ?_
  refine PWl.step (LR.nilCheckRef rfl) rfl ?_
  refine PWl.step (LR.fieldRef Tryz.underlying95 rfl Tryz.sizeOf48 (by decide) rfl rfl) rfl ?_
  refine PWl.step (LR.loadRef Tryz.isAgg48 rfl rfl rfl) rfl ?_
  refine PWl.step (LR.lenMap (enc := (eK .u8)) (L := b_1) Tryz.underlying48 rfl) rfl ?_
  refine PWl.step (LR.assign rfl) rfl ?_
  refine PWl.nil ?_
  refine PWc.ret ?_
  replace h : _ = r0 := h
  subst h
  exact EndsO.mk () (.inr rfl) (Sub.of (tl := [(2, _)]) (to := [(100, _), (1100, _)]) rfl (.cons rfl rfl <| .nil) (.cons rfl rfl <| .cons rfl rfl <| .nil)) (.cons (.tmp rfl) <| .nil) rfl rfl

theorem pack_Reader_Left_o_ok (b_1 : List Int) (bad_2 : Int) (r0 : Int × List Int × Int) (h : (pack_Reader_Left_o b_1 bad_2).wp (· = r0)) : PObj Tryz.prog 90 [.ref 100 0] [(100, .cells 97 [.d (.sl (List.map (eK .u8) b_1)), .d (.v (.int .i64 bad_2))])] [100] (.d (.v (.int .i64 r0.1))) (fun _ : Unit => [(100, .cells 97 [.d (.sl (List.map (eK .u8) r0.2.1)), .d (.v (.int .i64 r0.2.2))])]) := by
  refine PObj.intro (sl := [(0, _)]) Tryz.func90 rfl Tryz.ntmps90 rfl rfl rfl ?_
  intro ctx hK pv
  refine PWc.seq ?_
  refine PWc.region ?_
  refine PWl.step (LR.assign rfl) rfl ?_
  refine PWl.nil ?_
  refine PWc.seq ?_
  refine PWc.seq ?_
  refine PWc.region ?_
  refine PWl.step (LR.move rfl) rfl ?_
  refine PWl.step (LR.eqlPtr Tryz.underlying49 rfl) rfl ?_
  refine PWl.nil ?_
  refine PWc.condF rfl ?_
  refine PWc.skip ?_
  refine PWc.seq ?_
  refine PWc.region ?_
  refine PWl.step (LR.move rfl) rfl ?_
  refine PWl.step (LR.nilCheckRef rfl) rfl ?_
  refine PWl.step (LR.fieldRef Tryz.underlying97 rfl Tryz.sizeOf95 (by decide) rfl rfl) rfl ?_
  replace h := iDet h
  obtain ⟨y3, hy4, h⟩ := h
  refine PWl.step (LR.callObj [(100, 100)] [] [100] (pack_rest_Left_o_ok b_1 bad_2 y3 hy4) hK rfl Tryz.call120 rfl (by first | rfl | (simp; done) | (simp [PV.nilD, PV.ren, rn]; omega)) (.cons (by first | rfl | (congr 1; first | (simp; done) | (simp; omega))) <| .nil) rfl rfl rfl rfl) rfl ?_
  refine PWl.step (LR.assign rfl) rfl ?_
  refine PWl.nil ?_
  refine PWc.ret ?_
  replace h : _ = r0 := h
  subst h
  exact EndsO.mk () (.inr rfl) (Sub.of (tl := [(2, _)]) (to := [(100, _), (1100, _)]) rfl (.cons rfl rfl <| .nil) (.cons rfl rfl <| .cons rfl rfl <| .nil)) (.cons (.tmp rfl) <| .nil) rfl rfl

theorem pack_Reader_End_o_ok (b_1 : List Int) (bad_2 : Int) (r0 : Int × List Int × Int) (h : (pack_Reader_End_o b_1 bad_2).wp (· = r0)) : PObj Tryz.prog 49 [.ref 100 0] [(100, .cells 97 [.d (.sl (List.map (eK .u8) b_1)), .d (.v (.int .i64 bad_2))])] [100] (.d (.v (.int .i64 r0.1))) (fun _ : Unit => [(100, .cells 97 [.d (.sl (List.map (eK .u8) r0.2.1)), .d (.v (.int .i64 r0.2.2))])]) := by
  refine PObj.intro (sl := [(0, _)]) Tryz.func49 rfl Tryz.ntmps49 rfl rfl rfl ?_
  intro ctx hK pv
  refine PWc.seq ?_
  refine PWc.region ?_
  refine PWl.step (LR.assign rfl) rfl ?_
  refine PWl.nil ?_
  refine PWc.seq ?_
  refine PWc.seq ?_
  refine PWc.region ?_
  refine PWl.step (LR.move rfl) rfl ?_
  replace h := iDet h
  obtain ⟨y3, hy4, h⟩ := h
  refine PWl.step (LR.callObj [(100, 100)] [] [100] (pack_Reader_Left_o_ok b_1 bad_2 y3 hy4) hK rfl Tryz.call90 rfl (by first | rfl | (simp; done) | (simp [PV.nilD, PV.ren, rn]; omega)) (.cons (by first | rfl | (congr 1; first | (simp; done) | (simp; omega))) <| .nil) rfl rfl rfl rfl) rfl ?_
  refine PWl.step (LR.gtr rfl rfl) rfl ?_
  refine PWl.nil ?_
  refine PWc.jn (iBind h) (fun (⟨v5, v6⟩ : List Int × Int) (_ : Unit) => ⟨10, [(0, .ref 100 0)], [(100, .cells 97 [.d (.sl (List.map (eK .u8) v5)), .d (.v (.int .i64 v6))]), (1100, .pin 100 (pv 100).1 (pv 100).2)]⟩) (fun h => ?_) ?_
  · refine PWc.cond rfl (fun hc7 => ?_) (fun hc7 => ?_)
    · replace h := iT hc7 h
      refine PWc.re (tl := [(0, _)]) (to := [(100, _), (1100, _)]) rfl (.cons rfl rfl <| .nil) (.cons rfl rfl <| .cons rfl rfl <| .nil) ?_
      refine PWc.region ?_
      refine PWl.step (LR.move rfl) rfl ?_
      replace h := iDet h
      obtain ⟨y8, hy9, h⟩ := h
      refine PWl.step (LR.callObj [(100, 100)] [] [100] (pack_Reader_Fail_o_ok 4 y3.2.1 y3.2.2 y8 hy9) hK rfl Tryz.call82 rfl (by first | rfl | (simp; done) | (simp [PV.nilD, PV.ren, rn]; omega)) (.cons (by first | rfl | (congr 1; first | (simp; done) | (simp; omega))) <| .nil) rfl rfl rfl rfl) rfl ?_
      refine PWl.nil ?_
      exact ⟨(y8.1, y8.2), (), h, Sub.of rfl (.cons rfl rfl <| .nil) (.cons rfl rfl <| .cons rfl rfl <| .nil)⟩
    · replace h := iF hc7 h
      refine PWc.skip ?_
      exact ⟨(y3.2.1, y3.2.2), (), h, Sub.of rfl (.cons rfl rfl <| .nil) (.cons rfl rfl <| .cons rfl rfl <| .nil)⟩
  · rintro ⟨v5, v6⟩ _ h
    refine PWc.seq ?_
    refine PWc.region ?_
    refine PWl.step (LR.move rfl) rfl ?_
    replace h := iDet h
    obtain ⟨y10, hy11, h⟩ := h
    refine PWl.step (LR.callObj [(100, 100)] [] [100] (pack_Reader_Err_o_ok v5 v6 y10 hy11) hK rfl Tryz.call83 rfl (by first | rfl | (simp; done) | (simp [PV.nilD, PV.ren, rn]; omega)) (.cons (by first | rfl | (congr 1; first | (simp; done) | (simp; omega))) <| .nil) rfl rfl rfl rfl) rfl ?_
    refine PWl.step (LR.assign rfl) rfl ?_
    refine PWl.nil ?_
    refine PWc.ret ?_
    replace h : _ = r0 := h
    subst h
    exact EndsO.mk () (.inr rfl) (Sub.of (tl := [(2, _)]) (to := [(100, _), (1100, _)]) rfl (.cons rfl rfl <| .nil) (.cons rfl rfl <| .cons rfl rfl <| .nil)) (.cons (.tmp rfl) <| .nil) rfl rfl

theorem dcode_Decode_ok (b1 : List Int) (r0 : List TPart × Int) (h : (dcode_Decode b1).wp (· = r0)) : PFun Tryz.prog 51 [.d (.sl (List.map (eK .u8) b1))] (.tup [.d (.sl (List.map TPart.e r0.1)), .d (.v (.int .i64 r0.2))]) := by
  refine PFun.intro (sl := [(0, _)]) Tryz.func51 rfl Tryz.ntmps51 rfl rfl ?_
  intro ctx hK
  refine PWc.seq ?_
  refine PWc.region ?_
  refine PWl.step (LR.assignNilRow 80 2 rfl) rfl ?_
  refine PWl.step (LR.assign rfl) rfl ?_
  refine PWl.nil ?_
  refine PWc.seq ?_
  refine PWc.region ?_
  refine PWl.step (LR.move rfl) rfl ?_
  replace h := iDet h
  obtain ⟨y2, hy3, h⟩ := h
  refine PWl.step (LR.callObj [(7, 8)] [] [7] (pack_New_o_ok b1 y2 hy3) hK rfl Tryz.call42 rfl (by first | rfl | (simp; done) | (simp [PV.nilD, PV.ren, rn]; omega)) (.nil) rfl rfl rfl rfl) rfl ?_
  refine PWl.step (LR.assign rfl) rfl ?_
  refine PWl.nil ?_
  refine PWc.seq ?_
  refine PWc.re (tl := [(4, _)]) (to := [(8, _)]) rfl (.cons rfl rfl <| .nil) (.cons rfl rfl <| .nil) ?_
  refine PWc.region ?_
  refine PWl.step (LR.move rfl) rfl ?_
  replace h := iDet h
  obtain ⟨y4, hy5, h⟩ := h
  refine PWl.step (LR.callObj [(100, 8)] [] [100] (dcode_Ctx_o_ok y2.1 y2.2 y4 hy5) hK rfl Tryz.call47 rfl (by first | rfl | (simp; done) | (simp [PV.nilD, PV.ren, rn]; omega)) (.cons (by first | rfl | (congr 1; first | (simp; done) | (simp; omega))) <| .nil) rfl rfl rfl rfl) rfl ?_
  refine PWl.step (LR.assign rfl) rfl ?_
  refine PWl.nil ?_
  refine PWc.seq ?_
  refine PWc.seq ?_
  refine PWc.re (tl := [(4, _), (5, _)]) (to := [(8, _)]) rfl (.cons rfl rfl <| .cons rfl rfl <| .nil) (.cons rfl rfl <| .nil) ?_
  refine PWc.region ?_
  refine PWl.step (LR.move rfl) rfl ?_
  replace h := iDet h
  obtain ⟨y6, hy7, h⟩ := h
  refine PWl.step (LR.callObj [(100, 8)] [] [100] (pack_Reader_End_o_ok y4.2.1 y4.2.2 y6 hy7) hK rfl Tryz.call49 rfl (by first | rfl | (simp; done) | (simp [PV.nilD, PV.ren, rn]; omega)) (.cons (by first | rfl | (congr 1; first | (simp; done) | (simp; omega))) <| .nil) rfl rfl rfl rfl) rfl ?_
  refine PWl.step (LR.assign rfl) rfl ?_
  refine PWl.nil ?_
  refine PWc.seq ?_
  refine PWc.re (tl := [(5, _), (6, _)]) (to := []) rfl (.cons rfl rfl <| .cons rfl rfl <| .nil) (.nil) ?_
  refine PWc.region ?_
  refine PWl.step (LR.move rfl) rfl ?_
  refine PWl.step (LR.neq rfl rfl) rfl ?_
  refine PWl.nil ?_
  refine PWc.cond rfl (fun hc8 => ?_) (fun hc8 => ?_)
  · replace h := iT hc8 h
    refine PWc.seq ?_
    refine PWc.region ?_
    refine PWl.step (LR.move rfl) rfl ?_
    refine PWl.step (LR.assignNilRow 80 2 rfl) rfl ?_
    refine PWl.step (LR.assign rfl) rfl ?_
    refine PWl.nil ?_
    refine PWc.ret ?_
    replace h : _ = r0 := h
    subst h
    exact ⟨.inr rfl, _, .cons (.row rfl rfl (by first | (simp; done) | (simp; omega) | omega)) <| .cons (.tmp rfl rfl) <| .nil, rfl⟩
  · replace h := iF hc8 h
    refine PWc.skip ?_
    refine PWc.seq ?_
    refine PWc.region ?_
    refine PWl.step (LR.move rfl) rfl ?_
    refine PWl.step (LR.assign rfl) rfl ?_
    refine PWl.step (LR.assign rfl) rfl ?_
    refine PWl.nil ?_
    refine PWc.ret ?_
    replace h : _ = r0 := h
    subst h
    exact ⟨.inr rfl, _, .cons (.tmp rfl rfl) <| .cons (.tmp rfl rfl) <| .nil, rfl⟩
end Go.Proofs

namespace Go.Proofs
open Go.Ep
set_option maxHeartbeats 1000000
set_option maxRecDepth 100000
set_option linter.unusedVariables false
set_option linter.unusedSimpArgs false


theorem dcode_Dot_o_ok (b_1 : List Int) (bad_2 : Int) (r0 : TDot × List Int × Int) (h : (dcode_Dot_o b_1 bad_2).wp (· = r0)) : PObj Tryz.prog 43 [.ref 100 0] [(100, .cells 97 [.d (.sl (List.map (eK .u8) b_1)), .d (.v (.int .i64 bad_2))])] [100] (.agg (List.map .d (TDot.e r0.1))) (fun _ : Unit => [(100, .cells 97 [.d (.sl (List.map (eK .u8) r0.2.1)), .d (.v (.int .i64 r0.2.2))])]) := by
  refine PObj.intro (sl := [(0, _)]) Tryz.func43 rfl Tryz.ntmps43 rfl rfl rfl ?_
  intro ctx hK pv
  refine PWc.seq ?_
  refine PWc.region ?_
  refine PWl.step (LR.allocZ (cs := [_, _]) Tryz.zeroValue32 rfl rfl rfl rfl) rfl ?_
  refine PWl.nil ?_
  refine PWc.seq ?_
  refine PWc.region ?_
  refine PWl.step (LR.move rfl) rfl ?_
  replace h := iDet h
  obtain ⟨y3, hy4, h⟩ := h
  refine PWl.step (LR.callObj [(100, 100)] [] [100] (pack_Reader_Upto_o_ok 65535 b_1 bad_2 y3 hy4) hK rfl Tryz.call80 rfl (by first | rfl | (simp; done) | (simp [PV.nilD, PV.ren, rn]; omega)) (.cons (by first | rfl | (congr 1; first | (simp; done) | (simp; omega))) <| .nil) rfl rfl rfl rfl) rfl ?_
  refine PWl.step (LR.assign rfl) rfl ?_
  refine PWl.nil ?_
  refine PWc.seq ?_
  refine PWc.re (tl := [(0, _), (2, _), (3, _)]) (to := [(2, _), (100, _), (1100, _)]) rfl (.cons rfl rfl <| .cons rfl rfl <| .cons rfl rfl <| .nil) (.cons rfl rfl <| .cons rfl rfl <| .cons rfl rfl <| .nil) ?_
  refine PWc.region ?_
  refine PWl.step (LR.move rfl) rfl ?_
  refine PWl.step (LR.convInt Tryz.underlying29 (by rw [Tryz.underlying30]; rfl) rfl rfl) rfl ?_
  refine PWl.step (LR.move rfl) rfl ?_
  replace h := iDet h
  obtain ⟨y5, hy6, h⟩ := h
  refine PWl.step (LR.callObj [(100, 100)] [] [100] (pack_Reader_Num_o_ok y3.2.1 y3.2.2 y5 hy6) hK rfl Tryz.call81 rfl (by first | rfl | (simp; done) | (simp [PV.nilD, PV.ren, rn]; omega)) (.cons (by first | rfl | (congr 1; first | (simp; done) | (simp; omega))) <| .nil) rfl rfl rfl rfl) rfl ?_
  refine PWl.step (LR.build (ns := [_, _]) build32 rfl rfl rfl) rfl ?_
  refine PWl.step (LR.allocZ (cs := [_, _]) Tryz.zeroValue32 rfl rfl rfl rfl) rfl ?_
  refine PWl.step (LR.storeB (ns := [_, _]) Tryz.sizeOf32 rfl rfl rfl rfl rfl rfl rfl) rfl ?_
  refine PWl.nil ?_
  refine PWc.seq ?_
  refine PWc.seq ?_
  refine PWc.re (tl := [(0, _), (2, _), (4, _)]) (to := [(2, _), (4, _), (100, _), (1100, _)]) rfl (.cons rfl rfl <| .cons rfl rfl <| .cons rfl rfl <| .nil) (.cons rfl rfl <| .cons rfl rfl <| .cons rfl rfl <| .cons rfl rfl <| .nil) ?_
  refine PWc.region ?_
  refine PWl.step (LR.loadRefAgg (ps := [_, _]) Tryz.isAgg32 Tryz.sizeOf32 rfl rfl rfl rfl) rfl ?_
  replace h := iDet h
  obtain ⟨v7, hy8, h⟩ := h
  refine PWl.step (LR.callN (dot_Good_ok (⟨(IntKind.u16.wrap y3.1), y5.1⟩ : TDot) v7 hy8) rfl Tryz.call68 rfl rfl rfl rfl) rfl ?_
  refine PWl.step (LR.not rfl) rfl ?_
  refine PWl.nil ?_
  refine PWc.jn (iBind h) (fun (⟨v9, v10⟩ : List Int × Int) (_ : Unit) => ⟨22, [(0, .ref 100 0), (2, .ref 2 0), (4, .ref 4 0)], [(2, .cells 32 [.d (.v (.int .u16 0)), .d (.v (.int .u64 0))]), (4, .cells 32 [.d (.v (.int .u16 (IntKind.u16.wrap y3.1))), .d (.v (.int .u64 y5.1))]), (100, .cells 97 [.d (.sl (List.map (eK .u8) v9)), .d (.v (.int .i64 v10))]), (1100, .pin 100 (pv 100).1 (pv 100).2)]⟩) (fun h => ?_) ?_
  · refine PWc.cond rfl (fun hc11 => ?_) (fun hc11 => ?_)
    · replace h := iT hc11 h
      refine PWc.region ?_
      refine PWl.step (LR.move rfl) rfl ?_
      replace h := iDet h
      obtain ⟨y12, hy13, h⟩ := h
      refine PWl.step (LR.callObj [(100, 100)] [] [100] (pack_Reader_Fail_o_ok 4 y5.2.1 y5.2.2 y12 hy13) hK rfl Tryz.call82 rfl (by first | rfl | (simp; done) | (simp [PV.nilD, PV.ren, rn]; omega)) (.cons (by first | rfl | (congr 1; first | (simp; done) | (simp; omega))) <| .nil) rfl rfl rfl rfl) rfl ?_
      refine PWl.nil ?_
      exact ⟨(y12.1, y12.2), (), h, Sub.of rfl (.cons rfl rfl <| .cons rfl rfl <| .cons rfl rfl <| .nil) (.cons rfl rfl <| .cons rfl rfl <| .cons rfl rfl <| .cons rfl rfl <| .nil)⟩
    · replace h := iF hc11 h
      refine PWc.skip ?_
      exact ⟨(y5.2.1, y5.2.2), (), h, Sub.of rfl (.cons rfl rfl <| .cons rfl rfl <| .cons rfl rfl <| .nil) (.cons rfl rfl <| .cons rfl rfl <| .cons rfl rfl <| .cons rfl rfl <| .nil)⟩
  · rintro ⟨v9, v10⟩ _ h
    refine PWc.seq ?_
    refine PWc.seq ?_
    refine PWc.region ?_
    refine PWl.step (LR.move rfl) rfl ?_
    replace h := iDet h
    obtain ⟨y14, hy15, h⟩ := h
    refine PWl.step (LR.callObj [(100, 100)] [] [100] (pack_Reader_Err_o_ok v9 v10 y14 hy15) hK rfl Tryz.call83 rfl (by first | rfl | (simp; done) | (simp [PV.nilD, PV.ren, rn]; omega)) (.cons (by first | rfl | (congr 1; first | (simp; done) | (simp; omega))) <| .nil) rfl rfl rfl rfl) rfl ?_
    refine PWl.step (LR.neq rfl rfl) rfl ?_
    refine PWl.nil ?_
    refine PWc.cond rfl (fun hc16 => ?_) (fun hc16 => ?_)
    · replace h := iT hc16 h
      refine PWc.seq ?_
      refine PWc.re (tl := [(2, _)]) (to := [(2, _), (100, _), (1100, _)]) rfl (.cons rfl rfl <| .nil) (.cons rfl rfl <| .cons rfl rfl <| .cons rfl rfl <| .nil) ?_
      refine PWc.region ?_
      refine PWl.step (LR.build (ns := [_, _]) build32 rfl rfl rfl) rfl ?_
      refine PWl.step (LR.storeB (ns := [_, _]) Tryz.sizeOf32 rfl rfl rfl rfl rfl rfl rfl) rfl ?_
      refine PWl.nil ?_
      refine PWc.ret ?_
      replace h : _ = r0 := h
      subst h
      exact EndsO.mkX (ex := [(2, _)]) () (.inr rfl) (Sub.of (tl := [(2, _)]) (to := [(100, _), (1100, _), (2, _)]) rfl (.cons rfl rfl <| .nil) (.cons rfl rfl <| .cons rfl rfl <| .cons rfl rfl <| .nil)) (.cons (.agg Tryz.isAgg32 Tryz.sizeOf32 rfl rfl rfl) <| .nil) rfl rfl
    · replace h := iF hc16 h
      refine PWc.skip ?_
      refine PWc.seq ?_
      refine PWc.re (tl := [(2, _), (4, _)]) (to := [(2, _), (4, _), (100, _), (1100, _)]) rfl (.cons rfl rfl <| .cons rfl rfl <| .nil) (.cons rfl rfl <| .cons rfl rfl <| .cons rfl rfl <| .cons rfl rfl <| .nil) ?_
      refine PWc.region ?_
      refine PWl.step (LR.loadRefAgg (ps := [_, _]) Tryz.isAgg32 Tryz.sizeOf32 rfl rfl rfl rfl) rfl ?_
      refine PWl.step (LR.storeB (ns := [_, _]) Tryz.sizeOf32 rfl rfl rfl rfl rfl rfl rfl) rfl ?_
      refine PWl.nil ?_
      refine PWc.ret ?_
      replace h : _ = r0 := h
      subst h
      exact EndsO.mkX (ex := [(2, _)]) () (.inr rfl) (Sub.of (tl := [(2, _)]) (to := [(100, _), (1100, _), (2, _)]) rfl (.cons rfl rfl <| .nil) (.cons rfl rfl <| .cons rfl rfl <| .cons rfl rfl <| .nil)) (.cons (.agg Tryz.isAgg32 Tryz.sizeOf32 rfl rfl rfl) <| .nil) rfl rfl

theorem dcode_Dots_o_ok (most1 : Int) (b_2 : List Int) (bad_3 : Int) (r0 : List TDot × List Int × Int) (h : (dcode_Dots_o most1 b_2 bad_3).wp (· = r0)) : PObj Tryz.prog 45 [.ref 100 0, .d (.v (.int .i64 most1))] [(100, .cells 97 [.d (.sl (List.map (eK .u8) b_2)), .d (.v (.int .i64 bad_3))])] [100] (.d (.sl (List.map TDot.e r0.1))) (fun _ : Unit => [(100, .cells 97 [.d (.sl (List.map (eK .u8) r0.2.1)), .d (.v (.int .i64 r0.2.2))])]) := by
  refine PObj.intro (sl := [(0, _), (1, _)]) Tryz.func45 rfl Tryz.ntmps45 rfl rfl rfl ?_
  intro ctx hK pv
  refine PWc.seq ?_
  refine PWc.region ?_
  refine PWl.step (LR.assignNilRow 32 2 rfl) rfl ?_
  refine PWl.nil ?_
  refine PWc.seq ?_
  refine PWc.region ?_
  refine PWl.step (LR.move rfl) rfl ?_
  replace h := iDet h
  obtain ⟨y4, hy5, h⟩ := h
  refine PWl.step (LR.callObj [(100, 100)] [] [100] (pack_Reader_Num_o_ok b_2 bad_3 y4 hy5) hK rfl Tryz.call81 rfl (by first | rfl | (simp; done) | (simp [PV.nilD, PV.ren, rn]; omega)) (.cons (by first | rfl | (congr 1; first | (simp; done) | (simp; omega))) <| .nil) rfl rfl rfl rfl) rfl ?_
  refine PWl.step (LR.assign rfl) rfl ?_
  refine PWl.nil ?_
  refine PWc.seq ?_
  refine PWc.seq ?_
  refine PWc.re (tl := [(0, _), (1, _), (5, _)]) (to := [(100, _), (1100, _)]) rfl (.cons rfl rfl <| .cons rfl rfl <| .cons rfl rfl <| .nil) (.cons rfl rfl <| .cons rfl rfl <| .nil) ?_
  refine PWc.region ?_
  refine PWl.step (LR.move rfl) rfl ?_
  refine PWl.step (LR.move rfl) rfl ?_
  refine PWl.step (LR.maxI rfl rfl) rfl ?_
  refine PWl.step (LR.convInt Tryz.underlying30 (by rw [Tryz.underlying3]; rfl) rfl rfl) rfl ?_
  refine PWl.step (LR.gtr rfl rfl) rfl ?_
  refine PWl.nil ?_
  refine PWc.cond rfl (fun hc6 => ?_) (fun hc6 => ?_)
  · replace h := iT hc6 h
    refine PWc.seq ?_
    refine PWc.region ?_
    refine PWl.step (LR.move rfl) rfl ?_
    replace h := iDet h
    obtain ⟨y7, hy8, h⟩ := h
    refine PWl.step (LR.callObj [(100, 100)] [] [100] (pack_Reader_Fail_o_ok 3 y4.2.1 y4.2.2 y7 hy8) hK rfl Tryz.call82 rfl (by first | rfl | (simp; done) | (simp [PV.nilD, PV.ren, rn]; omega)) (.cons (by first | rfl | (congr 1; first | (simp; done) | (simp; omega))) <| .nil) rfl rfl rfl rfl) rfl ?_
    refine PWl.nil ?_
    refine PWc.seq ?_
    refine PWc.re (tl := []) (to := [(100, _), (1100, _)]) rfl (.nil) (.cons rfl rfl <| .cons rfl rfl <| .nil) ?_
    refine PWc.region ?_
    refine PWl.step (LR.assignNilRow 32 2 rfl) rfl ?_
    refine PWl.nil ?_
    refine PWc.ret ?_
    replace h : _ = r0 := h
    subst h
    exact EndsO.mk () (.inr rfl) (Sub.trans (Sub.frz [4] hK rfl (by first | (simp; done) | (simp; omega) | omega) (AllRow.get (.cons rfl <| .nil))) <| Sub.of (tl := [(4, _)]) (to := [(100, _), (1100, _)]) rfl (.cons rfl rfl <| .nil) (.cons rfl rfl <| .cons rfl rfl <| .nil)) (.cons (.tmp rfl) <| .nil) rfl rfl
  · replace h := iF hc6 h
    refine PWc.skip ?_
    refine PWc.seq ?_
    refine PWc.region ?_
    refine PWl.step (LR.assignNilRow 32 2 rfl) rfl ?_
    refine PWl.nil ?_
    refine PWc.seq ?_
    refine PWc.seq ?_
    refine PWc.region ?_
    refine PWl.step (LR.move rfl) rfl ?_
    refine PWl.step (LR.move rfl) rfl ?_
    refine PWl.nil ?_
    refine PWc.jnX (iBind h) (fun (⟨out9, v10, v11⟩ : List TDot × List Int × Int) (_ : Unit) => ⟨48, [(6, .row 6 (List.length out9))], [(6, .row 32 2 (List.map TDot.e out9)), (100, .cells 97 [.d (.sl (List.map (eK .u8) v10)), .d (.v (.int .i64 v11))]), (1100, .pin 100 (pv 100).1 (pv 100).2)]⟩) (fun h => ?_) ?_
    · refine PWc.block ?_
      refine PWc.loopM (fun (⟨v52, out53, v54, v55⟩ : Int × List TDot × List Int × Int) (_ : Unit) => ⟨48, [(0, .ref 100 0), (6, .row 6 (List.length out53)), (18, .d (.v (.int .u64 y4.1))), (19, .d (.v (.int .u64 v52)))], [(6, .row 32 2 (List.map TDot.e out53)), (100, .cells 97 [.d (.sl (List.map (eK .u8) v54)), .d (.v (.int .i64 v55))]), (1100, .pin 100 (pv 100).1 (pv 100).2)]⟩) () h (Sub.of rfl (.cons rfl rfl <| .cons rfl rfl <| .cons rfl rfl <| .cons rfl rfl <| .nil) (.cons rfl rfl <| .cons rfl rfl <| .cons rfl rfl <| .nil)) ?_
      rintro N ⟨v52, out53, v54, v55⟩ _ h
      refine PWc.seq ?_
      refine PWc.region ?_
      refine PWl.step (LR.lss rfl rfl) rfl ?_
      refine PWl.nil ?_
      refine PWc.seq ?_
      refine PWc.cond rfl (fun hc56 => ?_) (fun hc56 => ?_)
      · replace h := iT hc56 h
        refine PWc.skip ?_
        refine PWc.seq ?_
        refine PWc.block ?_
        refine PWc.seq ?_
        refine PWc.region ?_
        refine PWl.step (LR.move rfl) rfl ?_
        replace h := iDet h
        obtain ⟨y57, hy58, h⟩ := h
        refine PWl.step (LR.callObj [(100, 100)] [] [100] (dcode_Dot_o_ok v54 v55 y57 hy58) hK rfl Tryz.call43 rfl (by first | rfl | (simp; done) | (simp [PV.nilD, PV.ren, rn]; omega)) (.cons (by first | rfl | (congr 1; first | (simp; done) | (simp; omega))) <| .nil) rfl rfl rfl rfl) rfl ?_
        refine PWl.step (LR.allocZ (cs := [_, _]) Tryz.zeroValue32 rfl rfl rfl rfl) rfl ?_
        refine PWl.step (LR.storeB (ns := [_, _]) Tryz.sizeOf32 rfl rfl rfl rfl rfl rfl rfl) rfl ?_
        refine PWl.nil ?_
        refine PWc.seq ?_
        refine PWc.seq ?_
        refine PWc.re (tl := [(0, _), (6, _), (7, _), (18, _), (19, _)]) (to := [(6, _), (7, _), (100, _), (1100, _)]) rfl (.cons rfl rfl <| .cons rfl rfl <| .cons rfl rfl <| .cons rfl rfl <| .cons rfl rfl <| .nil) (.cons rfl rfl <| .cons rfl rfl <| .cons rfl rfl <| .cons rfl rfl <| .nil) ?_
        refine PWc.region ?_
        refine PWl.step (LR.move rfl) rfl ?_
        refine PWl.step (LR.lenRow Tryz.underlying28 rfl) rfl ?_
        refine PWl.step (LR.subW rfl rfl) rfl ?_
        refine PWl.step (LR.assign rfl) rfl ?_
        refine PWl.nil ?_
        refine PWc.seq ?_
        refine PWc.jn (iBind h) (fun (v59 : Bool) (_ : Unit) => ⟨48, [(0, .ref 100 0), (6, .row 6 (List.length out53)), (7, .ref 7 0), (18, .d (.v (.int .u64 y4.1))), (19, .d (.v (.int .u64 v52))), (36, .d (.v (.bool v59)))], [(6, .row 32 2 (List.map TDot.e out53)), (7, .cells 32 [.d (.v (.int .u16 y57.1.dev)), .d (.v (.int .u64 y57.1.n))]), (100, .cells 97 [.d (.sl (List.map (eK .u8) y57.2.1)), .d (.v (.int .i64 y57.2.2))]), (1100, .pin 100 (pv 100).1 (pv 100).2)]⟩) (fun h => ?_) ?_
        · refine PWc.regionD (by kernel_rfl) (by kernel_rfl) ?_
          refine PQl.step (fun _ he ho => LR.move (he rfl rfl)) rfl ?_
          refine PQl.step (fun _ he ho => LR.geq (he rfl rfl) (he rfl rfl)) rfl ?_
          refine PQl.step (fun _ he ho => LR.move (he rfl rfl)) rfl ?_
          refine PQl.split (d := 28) rfl (fun hg60 => ?_) (fun hg60 => ?_)
          · replace h := iT hg60 h
            refine PQl.guardT (fun _ he ho => LR.move (he rfl rfl)) rfl rfl rfl ?_
            refine PQl.guardT (fun _ he ho => LR.move (he rfl rfl)) rfl rfl rfl ?_
            replace h := iIdx h
            obtain ⟨x61, hy62, h⟩ := h
            refine PQl.guardT (fun _ he ho => LR.idxRowT (L := out53) (y := x61) Tryz.underlying28 Tryz.sizeOf32 (he rfl rfl) rfl (he rfl rfl) hy62) rfl rfl rfl ?_
            refine PQl.guardT (fun _ he ho => LR.loadRpT (enc := TDot.e) (L := out53) (y := x61) Tryz.isAgg32 Tryz.sizeOf32 (he rfl rfl) (ho rfl) hy62.2) rfl rfl rfl ?_
            refine PQl.guardT (fun _ he ho => LR.loadRefAgg (ps := [_, _]) Tryz.isAgg32 Tryz.sizeOf32 (he rfl rfl) (ho rfl) rfl rfl) rfl rfl rfl ?_
            replace h := iDet h
            obtain ⟨v63, hy64, h⟩ := h
            refine PQl.guardT (fun _ he ho => LR.callN (dot_Cmp_ok x61 y57.1 v63 hy64) (he rfl rfl) Tryz.call87 (evsE he rfl rfl) rfl rfl rfl) rfl rfl rfl ?_
            refine PQl.guardT (fun _ he ho => LR.geq (he rfl rfl) (he rfl rfl)) rfl rfl rfl ?_
            refine PQl.step (fun _ he ho => LR.pickT (he rfl rfl) (he rfl rfl)) rfl ?_
            refine PQl.nil ?_
            exact ⟨(decide (0 ≤ v63)), (), h, Sub.of rfl (.cons rfl rfl <| .cons rfl rfl <| .cons rfl rfl <| .cons rfl rfl <| .cons rfl rfl <| .cons rfl rfl <| .nil) (.cons rfl rfl <| .cons rfl rfl <| .cons rfl rfl <| .cons rfl rfl <| .nil)⟩
          · replace h := iF hg60 h
            refine PQl.guardF rfl rfl rfl (by decide) ?_
            refine PQl.guardF rfl rfl rfl (by decide) ?_
            refine PQl.guardF rfl rfl rfl (by decide) ?_
            refine PQl.guardF rfl rfl rfl (by decide) ?_
            refine PQl.guardF rfl rfl rfl (by decide) ?_
            refine PQl.guardF rfl rfl rfl (by decide) ?_
            refine PQl.guardF rfl rfl rfl (by decide) ?_
            refine PQl.step (fun _ he ho => LR.pickF (he rfl rfl) (he rfl rfl)) rfl ?_
            refine PQl.nil ?_
            exact ⟨false, (), h, Sub.of rfl (.cons rfl rfl <| .cons rfl rfl <| .cons rfl rfl <| .cons rfl rfl <| .cons rfl rfl <| .cons rfl rfl <| .nil) (.cons rfl rfl <| .cons rfl rfl <| .cons rfl rfl <| .cons rfl rfl <| .nil)⟩
        · rintro v59 _ h
          refine PWc.jn (iBind h) (fun (⟨v65, v66⟩ : List Int × Int) (_ : Unit) => ⟨48, [(0, .ref 100 0), (6, .row 6 (List.length out53)), (7, .ref 7 0), (18, .d (.v (.int .u64 y4.1))), (19, .d (.v (.int .u64 v52)))], [(6, .row 32 2 (List.map TDot.e out53)), (7, .cells 32 [.d (.v (.int .u16 y57.1.dev)), .d (.v (.int .u64 y57.1.n))]), (100, .cells 97 [.d (.sl (List.map (eK .u8) v65)), .d (.v (.int .i64 v66))]), (1100, .pin 100 (pv 100).1 (pv 100).2)]⟩) (fun h => ?_) ?_
          · refine PWc.cond rfl (fun hc67 => ?_) (fun hc67 => ?_)
            · replace h := iT hc67 h
              refine PWc.region ?_
              refine PWl.step (LR.move rfl) rfl ?_
              replace h := iDet h
              obtain ⟨y68, hy69, h⟩ := h
              refine PWl.step (LR.callObj [(100, 100)] [] [100] (pack_Reader_Fail_o_ok 4 y57.2.1 y57.2.2 y68 hy69) hK rfl Tryz.call82 rfl (by first | rfl | (simp; done) | (simp [PV.nilD, PV.ren, rn]; omega)) (.cons (by first | rfl | (congr 1; first | (simp; done) | (simp; omega))) <| .nil) rfl rfl rfl rfl) rfl ?_
              refine PWl.nil ?_
              exact ⟨(y68.1, y68.2), (), h, Sub.of rfl (.cons rfl rfl <| .cons rfl rfl <| .cons rfl rfl <| .cons rfl rfl <| .cons rfl rfl <| .nil) (.cons rfl rfl <| .cons rfl rfl <| .cons rfl rfl <| .cons rfl rfl <| .nil)⟩
            · replace h := iF hc67 h
              refine PWc.skip ?_
              exact ⟨(y57.2.1, y57.2.2), (), h, Sub.of rfl (.cons rfl rfl <| .cons rfl rfl <| .cons rfl rfl <| .cons rfl rfl <| .cons rfl rfl <| .nil) (.cons rfl rfl <| .cons rfl rfl <| .cons rfl rfl <| .cons rfl rfl <| .nil)⟩
          · rintro ⟨v65, v66⟩ _ h
            refine PWc.seq ?_
            refine PWc.seq ?_
            refine PWc.region ?_
            refine PWl.step (LR.move rfl) rfl ?_
            replace h := iDet h
            obtain ⟨y70, hy71, h⟩ := h
            refine PWl.step (LR.callObj [(100, 100)] [] [100] (pack_Reader_Err_o_ok v65 v66 y70 hy71) hK rfl Tryz.call83 rfl (by first | rfl | (simp; done) | (simp [PV.nilD, PV.ren, rn]; omega)) (.cons (by first | rfl | (congr 1; first | (simp; done) | (simp; omega))) <| .nil) rfl rfl rfl rfl) rfl ?_
            refine PWl.step (LR.neq rfl rfl) rfl ?_
            refine PWl.nil ?_
            refine PWc.cond rfl (fun hc72 => ?_) (fun hc72 => ?_)
            · replace h := iT hc72 h
              refine PWc.seq ?_
              refine PWc.re (tl := []) (to := [(100, _), (1100, _)]) rfl (.nil) (.cons rfl rfl <| .cons rfl rfl <| .nil) ?_
              refine PWc.region ?_
              refine PWl.step (LR.assignNilRow 32 2 rfl) rfl ?_
              refine PWl.nil ?_
              refine PWc.ret ?_
              replace h : _ = r0 := h
              subst h
              exact EndsO.mk () (.inr rfl) (Sub.trans (Sub.frz [4] hK rfl (by first | (simp; done) | (simp; omega) | omega) (AllRow.get (.cons rfl <| .nil))) <| Sub.of (tl := [(4, _)]) (to := [(100, _), (1100, _)]) rfl (.cons rfl rfl <| .nil) (.cons rfl rfl <| .cons rfl rfl <| .nil)) (.cons (.tmp rfl) <| .nil) rfl rfl
            · replace h := iF hc72 h
              refine PWc.skip ?_
              refine PWc.re (tl := [(0, _), (6, _), (7, _), (18, _), (19, _)]) (to := [(6, _), (7, _), (100, _), (1100, _)]) rfl (.cons rfl rfl <| .cons rfl rfl <| .cons rfl rfl <| .cons rfl rfl <| .cons rfl rfl <| .nil) (.cons rfl rfl <| .cons rfl rfl <| .cons rfl rfl <| .cons rfl rfl <| .nil) ?_
              refine PWc.region ?_
              refine PWl.step (LR.move rfl) rfl ?_
              refine PWl.step (LR.loadRefAgg (ps := [_, _]) Tryz.isAgg32 Tryz.sizeOf32 rfl rfl rfl rfl) rfl ?_
              refine PWl.step (LR.buildSliceD [.tmp 43] elem28 rfl rfl (.cons rfl rfl rfl <| .nil) (by decide) (by decide)) rfl ?_
              replace h := iNeed h
              obtain ⟨hy73, h⟩ := h
              refine PWl.step (LR.appT (enc := TDot.e) (L := out53) (R := [y57.1]) [6, 42] elem28 Tryz.underlying28 rfl rfl rfl (Src.slT (enc := TDot.e) (R := [y57.1]) rfl (fun _ => rfl)) (fun _ => rfl) hy73 rfl rfl) rfl ?_
              refine PWl.step (LR.assign rfl) rfl ?_
              refine PWl.nil ?_
              refine PWc.region ?_
              refine PWl.step (LR.addW rfl rfl) rfl ?_
              refine PWl.step (LR.move rfl) rfl ?_
              refine PWl.nil ?_
              exact ⟨((IntKind.u64.wrap (v52 + 1)), (out53 ++ [y57.1]), y70.2.1, y70.2.2), (), h, Sub.of rfl (.cons rfl rfl <| .cons rfl rfl <| .cons rfl rfl <| .cons rfl rfl <| .nil) (.cons rfl rfl <| .cons rfl rfl <| .cons rfl rfl <| .nil)⟩
      · replace h := iF hc56 h
        refine PWc.exit ?_
        exact ⟨(out53, v54, v55), (), h, Sub.of rfl (.cons rfl rfl <| .nil) (.cons rfl rfl <| .cons rfl rfl <| .cons rfl rfl <| .nil)⟩
    · rintro ⟨out9, v10, v11⟩ _ h
      refine PWc.seq ?_
      refine PWc.region ?_
      refine PWl.step (LR.move rfl) rfl ?_
      refine PWl.step (LR.assign rfl) rfl ?_
      refine PWl.nil ?_
      refine PWc.ret ?_
      replace h : _ = r0 := h
      subst h
      exact EndsO.mk () (.inr rfl) (Sub.trans (Sub.frz [4, 6, 47] hK rfl (by simp) (AllRow.get (.cons rfl <| .cons rfl <| .cons rfl <| .nil))) <| Sub.of (tl := [(4, _)]) (to := [(100, _), (1100, _)]) rfl (.cons rfl rfl <| .nil) (.cons rfl rfl <| .cons rfl rfl <| .nil)) (.cons (.tmp rfl) <| .nil) rfl rfl

end Go.Proofs

namespace Go.Proofs
open Go.Ep
set_option maxHeartbeats 1000000
set_option maxRecDepth 100000
set_option linter.unusedVariables false
set_option linter.unusedSimpArgs false


theorem r09_Few_ok (c1 : List TPart) (r0 : Bool) (h : (r09_Few c1).wp (· = r0)) : PFun Tryz.prog 7 [.d (.sl (List.map TPart.e c1))] (.d (.v (.bool r0))) := by
  refine PFun.intro (sl := [(0, _)]) Tryz.func7 rfl Tryz.ntmps7 rfl rfl ?_
  intro ctx hK
  refine PWc.seq ?_
  refine PWc.region ?_
  refine PWl.step (LR.assign rfl) rfl ?_
  refine PWl.nil ?_
  refine PWc.seq ?_
  refine PWc.seq ?_
  refine PWc.region ?_
  refine PWl.step (LR.move rfl) rfl ?_
  refine PWl.step (LR.lenMap (enc := TPart.e) (L := c1) Tryz.underlying23 rfl) rfl ?_
  refine PWl.step (LR.gtr rfl rfl) rfl ?_
  refine PWl.nil ?_
  refine PWc.cond rfl (fun hc2 => ?_) (fun hc2 => ?_)
  · replace h := iT hc2 h
    refine PWc.seq ?_
    refine PWc.region ?_
    refine PWl.step (LR.assign rfl) rfl ?_
    refine PWl.nil ?_
    refine PWc.ret ?_
    replace h : _ = r0 := h
    subst h
    exact ⟨.inr rfl, _, .cons (.tmp rfl rfl) <| .nil, rfl⟩
  · replace h := iF hc2 h
    refine PWc.skip ?_
    refine PWc.seq ?_
    refine PWc.seq ?_
    refine PWc.region ?_
    refine PWl.step (LR.assign rfl) rfl ?_
    refine PWl.nil ?_
    refine PWc.jnX (iBind h) (fun (_ : Unit) (_ : Unit) => ⟨20, [], []⟩) (fun h => ?_) ?_
    · refine PWc.block ?_
      refine PWc.loopM (fun (i12 : Int) (_ : Unit) => ⟨20, [(0, .d (.sl (List.map TPart.e c1))), (3, .d (.v (.int .i64 i12)))], []⟩) () h (Sub.of rfl (.cons rfl rfl <| .cons rfl rfl <| .nil) (.nil)) ?_
      rintro N i12 _ h
      refine PWc.seq ?_
      refine PWc.seq ?_
      refine PWc.region ?_
      refine PWl.step (LR.move rfl) rfl ?_
      refine PWl.step (LR.move rfl) rfl ?_
      refine PWl.step (LR.lenMap (enc := TPart.e) (L := c1) Tryz.underlying23 rfl) rfl ?_
      refine PWl.step (LR.lss rfl rfl) rfl ?_
      refine PWl.nil ?_
      refine PWc.cond rfl (fun hc13 => ?_) (fun hc13 => ?_)
      · replace h := iT hc13 h
        refine PWc.skip ?_
        refine PWc.seq ?_
        refine PWc.block ?_
        refine PWc.seq ?_
        refine PWc.region ?_
        refine PWl.step (LR.move rfl) rfl ?_
        refine PWl.step (LR.move rfl) rfl ?_
        replace h := iIdx h
        obtain ⟨x14, hy15, h⟩ := h
        refine PWl.step (LR.idxT (enc := TPart.e) (L := c1) (y := x14) Tryz.underlying23 Tryz.sizeOf80 rfl rfl hy15 (fun _ => rfl)) rfl ?_
        refine PWl.step (LR.fieldEp Tryz.underlying80 rfl Tryz.sizeOf37 (by decide) rfl rfl) rfl ?_
        refine PWl.step (LR.loadEp Tryz.isAgg37 rfl rfl) rfl ?_
        refine PWl.step (LR.lenMap (enc := TRun.e) (L := x14.runs) Tryz.underlying37 rfl) rfl ?_
        refine PWl.step (LR.gtr rfl rfl) rfl ?_
        refine PWl.nil ?_
        refine PWc.cond rfl (fun hc16 => ?_) (fun hc16 => ?_)
        · replace h := iT hc16 h
          refine PWc.seq ?_
          refine PWc.region ?_
          refine PWl.step (LR.assign rfl) rfl ?_
          refine PWl.nil ?_
          refine PWc.ret ?_
          replace h : _ = r0 := h
          subst h
          exact ⟨.inr rfl, _, .cons (.tmp rfl rfl) <| .nil, rfl⟩
        · replace h := iF hc16 h
          refine PWc.skip ?_
          refine PWc.region ?_
          refine PWl.step (LR.move rfl) rfl ?_
          refine PWl.step (LR.addW rfl rfl) rfl ?_
          refine PWl.step (LR.assign rfl) rfl ?_
          refine PWl.nil ?_
          exact ⟨(IntKind.i64.wrap (i12 + 1)), (), h, Sub.of rfl (.cons rfl rfl <| .cons rfl rfl <| .nil) (.nil)⟩
      · replace h := iF hc13 h
        refine PWc.exit ?_
        exact ⟨(), (), h, Sub.of rfl (.nil) (.nil)⟩
    · rintro _ _ h
      refine PWc.seq ?_
      refine PWc.region ?_
      refine PWl.step (LR.assign rfl) rfl ?_
      refine PWl.nil ?_
      refine PWc.ret ?_
      replace h : _ = r0 := h
      subst h
      exact ⟨.inr rfl, _, .cons (.tmp rfl rfl) <| .nil, rfl⟩

theorem r07_Rising_ok (l1 : List TDot) (r0 : Bool) (h : (r07_Rising l1).wp (· = r0)) : PFun Tryz.prog 54 [.d (.sl (List.map TDot.e l1))] (.d (.v (.bool r0))) := by
  refine PFun.intro (sl := [(0, _)]) Tryz.func54 rfl Tryz.ntmps54 rfl rfl ?_
  intro ctx hK
  refine PWc.seq ?_
  refine PWc.region ?_
  refine PWl.step (LR.assign rfl) rfl ?_
  refine PWl.nil ?_
  refine PWc.seq ?_
  refine PWc.seq ?_
  refine PWc.region ?_
  refine PWl.step (LR.assign rfl) rfl ?_
  refine PWl.nil ?_
  refine PWc.jnX (iBind h) (fun (_ : Unit) (_ : Unit) => ⟨21, [], []⟩) (fun h => ?_) ?_
  · refine PWc.block ?_
    refine PWc.loopM (fun (i19 : Int) (_ : Unit) => ⟨21, [(0, .d (.sl (List.map TDot.e l1))), (3, .d (.v (.int .i64 i19)))], []⟩) () h (Sub.of rfl (.cons rfl rfl <| .cons rfl rfl <| .nil) (.nil)) ?_
    rintro N i19 _ h
    refine PWc.seq ?_
    refine PWc.seq ?_
    refine PWc.region ?_
    refine PWl.step (LR.move rfl) rfl ?_
    refine PWl.step (LR.move rfl) rfl ?_
    refine PWl.step (LR.lenMap (enc := TDot.e) (L := l1) Tryz.underlying28 rfl) rfl ?_
    refine PWl.step (LR.lss rfl rfl) rfl ?_
    refine PWl.nil ?_
    refine PWc.cond rfl (fun hc20 => ?_) (fun hc20 => ?_)
    · replace h := iT hc20 h
      refine PWc.skip ?_
      refine PWc.seq ?_
      refine PWc.block ?_
      refine PWc.seq ?_
      refine PWc.regionD (by kernel_rfl) (by kernel_rfl) ?_
      refine PQl.step (fun _ he ho => LR.move (he rfl rfl)) rfl ?_
      refine PQl.step (fun _ he ho => LR.move (he rfl rfl)) rfl ?_
      refine PQl.step (fun _ he ho => LR.subW (he rfl rfl) (he rfl rfl)) rfl ?_
      replace h := iIdx h
      obtain ⟨x21, hy22, h⟩ := h
      refine PQl.step (fun _ he ho => LR.idxT (enc := TDot.e) (L := l1) (y := x21) Tryz.underlying28 Tryz.sizeOf32 (he rfl rfl) (he rfl rfl) hy22 (fun _ => rfl)) rfl ?_
      refine PQl.step (fun _ he ho => LR.loadEpAgg (ys := [_, _]) Tryz.isAgg32 Tryz.sizeOf32 (he rfl rfl) rfl rfl) rfl ?_
      refine PQl.step (fun _ he ho => LR.move (he rfl rfl)) rfl ?_
      refine PQl.step (fun _ he ho => LR.move (he rfl rfl)) rfl ?_
      replace h := iIdx h
      obtain ⟨x23, hy24, h⟩ := h
      refine PQl.step (fun _ he ho => LR.idxT (enc := TDot.e) (L := l1) (y := x23) Tryz.underlying28 Tryz.sizeOf32 (he rfl rfl) (he rfl rfl) hy24 (fun _ => rfl)) rfl ?_
      refine PQl.step (fun _ he ho => LR.loadEpAgg (ys := [_, _]) Tryz.isAgg32 Tryz.sizeOf32 (he rfl rfl) rfl rfl) rfl ?_
      replace h := iDet h
      obtain ⟨v25, hy26, h⟩ := h
      refine PQl.step (fun _ he ho => LR.callN (r07_Cmp_ok x21 x23 v25 hy26) (he rfl rfl) Tryz.call88 (evsE he rfl rfl) rfl rfl rfl) rfl ?_
      refine PQl.step (fun _ he ho => LR.geq (he rfl rfl) (he rfl rfl)) rfl ?_
      refine PQl.nil ?_
      refine PWc.cond rfl (fun hc27 => ?_) (fun hc27 => ?_)
      · replace h := iT hc27 h
        refine PWc.seq ?_
        refine PWc.region ?_
        refine PWl.step (LR.assign rfl) rfl ?_
        refine PWl.nil ?_
        refine PWc.ret ?_
        replace h : _ = r0 := h
        subst h
        exact ⟨.inr rfl, _, .cons (.tmp rfl rfl) <| .nil, rfl⟩
      · replace h := iF hc27 h
        refine PWc.skip ?_
        refine PWc.region ?_
        refine PWl.step (LR.move rfl) rfl ?_
        refine PWl.step (LR.addW rfl rfl) rfl ?_
        refine PWl.step (LR.assign rfl) rfl ?_
        refine PWl.nil ?_
        exact ⟨(IntKind.i64.wrap (i19 + 1)), (), h, Sub.of rfl (.cons rfl rfl <| .cons rfl rfl <| .nil) (.nil)⟩
    · replace h := iF hc20 h
      refine PWc.exit ?_
      exact ⟨(), (), h, Sub.of rfl (.nil) (.nil)⟩
  · rintro _ _ h
    refine PWc.seq ?_
    refine PWc.region ?_
    refine PWl.step (LR.assign rfl) rfl ?_
    refine PWl.nil ?_
    refine PWc.ret ?_
    replace h : _ = r0 := h
    subst h
    exact ⟨.inr rfl, _, .cons (.tmp rfl rfl) <| .nil, rfl⟩

theorem slices_Clone_sl_Dot_Dot_ok (s1 : List TDot) (r0 : List TDot) (h : (slices_Clone_sl_Dot_Dot s1).wp (· = r0)) : PRow Tryz.prog 123 [.d (.sl (List.map TDot.e s1))] 32 2 (List.map TDot.e r0) := by
  refine PRow.intro (sl := [(0, _)]) Tryz.func123 rfl Tryz.ntmps123 rfl rfl ?_
  intro ctx hK
  refine PWc.seq ?_
  refine PWc.region ?_
  refine PWl.step (LR.assignNilRow 32 2 rfl) rfl ?_
  refine PWl.nil ?_
  refine PWc.seq ?_
  refine PWc.seq ?_
  refine PWc.region ?_
  refine PWl.step (LR.move rfl) rfl ?_
  replace h := iNil h
  refine PWl.eqlNilT (enc := TDot.e) (L := s1) Tryz.underlying28 rfl rfl (fun b2 hy3 => ?_)
  replace h := h b2 hy3
  refine PWl.nil ?_
  refine PWc.cond rfl (fun hc4 => ?_) (fun hc4 => ?_)
  · replace h := iT hc4 h
    refine PWc.seq ?_
    refine PWc.region ?_
    refine PWl.re (tl := [(0, _), (3, _), (4, _)]) (to := []) rfl (.cons rfl rfl <| .cons rfl rfl <| .cons rfl rfl <| .nil) (.nil) ?_
    refine PWl.step (LR.assignNilRow 32 2 rfl) rfl ?_
    refine PWl.nil ?_
    refine PWc.ret ?_
    replace h : _ = r0 := h
    subst h
    exact ⟨.inr rfl, 2, rfl, .inr ⟨2, _, rfl, (by first | (simp; done) | (simp; omega) | omega), rfl⟩⟩
  · replace h := iF hc4 h
    refine PWc.skip ?_
    refine PWc.seq ?_
    refine PWc.region ?_
    refine PWl.step (LR.buildSlice [] elem28 rfl rfl (.nil) (by decide) (by decide) rfl) rfl ?_
    refine PWl.step (LR.move rfl) rfl ?_
    replace h := iNeed h
    obtain ⟨hy5, h⟩ := h
    refine PWl.step (LR.appT (enc := TDot.e) (L := ([] : List TDot)) (R := s1) [5] elem28 Tryz.underlying28 rfl (by first | (simp; done) | (simp; omega) | omega) rfl (Src.slT (enc := TDot.e) (R := s1) rfl (fun _ => rfl)) (fun _ => rfl) hy5 rfl rfl) rfl ?_
    refine PWl.re (tl := [(0, _), (3, _), (4, _), (6, _), (7, _)]) (to := [(5, _)]) rfl (.cons rfl rfl <| .cons rfl rfl <| .cons rfl rfl <| .cons rfl rfl <| .cons rfl rfl <| .nil) (.cons rfl rfl <| .nil) ?_
    refine PWl.step (LR.assign rfl) rfl ?_
    refine PWl.nil ?_
    refine PWc.ret ?_
    replace h : _ = r0 := h
    subst h
    exact ⟨.inr rfl, 2, rfl, .inr ⟨5, _, rfl, (by simp), rfl⟩⟩

theorem slices_Compact_sl_Dot_Dot_o_ok (row1 : List TDot) (r0 : List TDot) (h : (slices_Compact_sl_Dot_Dot_o row1).wp (· = r0)) : PObj Tryz.prog 125 [.row 100 (List.length row1)] [(100, .row 32 2 (List.map TDot.e row1))] [] (.row 100 (List.length r0)) (fun _ : Unit => [(100, .row 32 2 (List.map TDot.e r0))]) := by
  refine PObj.intro (sl := [(0, _)]) Tryz.func125 rfl Tryz.ntmps125 rfl rfl rfl ?_
  intro ctx hK pv
  refine PWc.seq ?_
  refine PWc.region ?_
  refine PWl.step (LR.assignNilRow 32 2 rfl) rfl ?_
  refine PWl.nil ?_
  refine PWc.seq ?_
  refine PWc.seq ?_
  refine PWc.region ?_
  refine PWl.step (LR.move rfl) rfl ?_
  refine PWl.step (LR.lenRow Tryz.underlying28 rfl) rfl ?_
  refine PWl.step (LR.lss rfl rfl) rfl ?_
  refine PWl.nil ?_
  refine PWc.cond rfl (fun hc2 => ?_) (fun hc2 => ?_)
  · replace h := iT hc2 h
    refine PWc.seq ?_
    refine PWc.region ?_
    refine PWl.step (LR.move rfl) rfl ?_
    refine PWl.re (tl := [(0, _), (6, _), (7, _), (8, _), (9, _)]) (to := [(100, _)]) rfl (.cons rfl rfl <| .cons rfl rfl <| .cons rfl rfl <| .cons rfl rfl <| .cons rfl rfl <| .nil) (.cons rfl rfl <| .nil) ?_
    refine PWl.step (LR.assign rfl) rfl ?_
    refine PWl.nil ?_
    refine PWc.ret ?_
    replace h : _ = r0 := h
    subst h
    exact EndsO.mk () (.inr rfl) (Sub.of (tl := [(2, _)]) (to := [(100, _)]) rfl (.cons rfl (by first | rfl | (simp; done) | (congr 1; first | (simp; done) | (simp; omega))) <| .nil) (.cons rfl rfl <| .nil)) (.cons (.tmp rfl) <| .nil) rfl rfl
  · replace h := iF hc2 h
    refine PWc.skip ?_
    refine PWc.seq ?_
    refine PWc.seq ?_
    refine PWc.region ?_
    refine PWl.step (LR.assign rfl) rfl ?_
    refine PWl.nil ?_
    refine PWc.jnX (iBind h) (fun (_ : Unit) (_ : Unit) => ⟨61, [(0, .row 100 (List.length row1))], [(100, .row 32 2 (List.map TDot.e row1))]⟩) (fun h => ?_) ?_
    · refine PWc.block ?_
      refine PWc.loopM (fun (k148 : Int) (_ : Unit) => ⟨61, [(0, .row 100 (List.length row1)), (3, .d (.v (.int .i64 k148)))], [(100, .row 32 2 (List.map TDot.e row1))]⟩) () h (Sub.of rfl (.cons rfl rfl <| .cons rfl rfl <| .nil) (.cons rfl rfl <| .nil)) ?_
      rintro N k148 _ h
      refine PWc.seq ?_
      refine PWc.seq ?_
      refine PWc.region ?_
      refine PWl.step (LR.move rfl) rfl ?_
      refine PWl.step (LR.move rfl) rfl ?_
      refine PWl.step (LR.lenRow Tryz.underlying28 rfl) rfl ?_
      refine PWl.step (LR.lss rfl rfl) rfl ?_
      refine PWl.nil ?_
      refine PWc.cond rfl (fun hc149 => ?_) (fun hc149 => ?_)
      · replace h := iT hc149 h
        refine PWc.skip ?_
        refine PWc.seq ?_
        refine PWc.jnX (iBind h) (fun (_ : Unit) (_ : Unit) => ⟨61, [(0, .row 100 (List.length row1)), (3, .d (.v (.int .i64 k148)))], [(100, .row 32 2 (List.map TDot.e row1))]⟩) (fun h => ?_) ?_
        · refine PWc.block ?_
          refine PWc.seq ?_
          refine PWc.regionD (by kernel_rfl) (by kernel_rfl) ?_
          refine PQl.step (fun _ he ho => LR.move (he rfl rfl)) rfl ?_
          refine PQl.step (fun _ he ho => LR.move (he rfl rfl)) rfl ?_
          replace h := iIdx h
          obtain ⟨x150, hy151, h⟩ := h
          refine PQl.step (fun _ he ho => LR.idxRowT (L := row1) (y := x150) Tryz.underlying28 Tryz.sizeOf32 (he rfl rfl) rfl (he rfl rfl) hy151) rfl ?_
          refine PQl.step (fun _ he ho => LR.loadRpT (enc := TDot.e) (L := row1) (y := x150) Tryz.isAgg32 Tryz.sizeOf32 (he rfl rfl) (ho rfl) hy151.2) rfl ?_
          refine PQl.step (fun _ he ho => LR.move (he rfl rfl)) rfl ?_
          refine PQl.step (fun _ he ho => LR.move (he rfl rfl)) rfl ?_
          refine PQl.step (fun _ he ho => LR.subW (he rfl rfl) (he rfl rfl)) rfl ?_
          replace h := iIdx h
          obtain ⟨x152, hy153, h⟩ := h
          refine PQl.step (fun _ he ho => LR.idxRowT (L := row1) (y := x152) Tryz.underlying28 Tryz.sizeOf32 (he rfl rfl) rfl (he rfl rfl) hy153) rfl ?_
          refine PQl.step (fun _ he ho => LR.loadRpT (enc := TDot.e) (L := row1) (y := x152) Tryz.isAgg32 Tryz.sizeOf32 (he rfl rfl) (ho rfl) hy153.2) rfl ?_
          refine PQl.step (fun _ he ho => LR.eqlAgg (he rfl rfl) (he rfl rfl) rfl rfl eq32) rfl ?_
          refine PQl.nil ?_
          refine PWc.cond rfl (fun hc154 => ?_) (fun hc154 => ?_)
          · replace h := iT hc154 h
            refine PWc.seq ?_
            refine PWc.region ?_
            refine PWl.step (LR.move rfl) rfl ?_
            refine PWl.step (LR.move rfl) rfl ?_
            replace h := iNeed h
            obtain ⟨hy155, h⟩ := h
            refine PWl.step (LR.pieceRowT (enc := TDot.e) (L := row1) Tryz.underlying28 Tryz.sizeOf32 rfl rfl rfl rfl hy155) rfl ?_
            refine PWl.step (LR.assign rfl) rfl ?_
            refine PWl.nil ?_
            refine PWc.seq ?_
            refine PWc.seq ?_
            refine PWc.region ?_
            refine PWl.step (LR.assign rfl) rfl ?_
            refine PWl.nil ?_
            refine PWc.jn (iBind h) (fun (⟨k156, v157⟩ : Int × List TDot) (_ : Unit) => ⟨61, [(0, .row 100 (List.length v157)), (3, .d (.v (.int .i64 k156)))], [(100, .row 32 2 (List.map TDot.e v157))]⟩) (fun h => ?_) ?_
            · refine PWc.block ?_
              refine PWc.loopM (fun (⟨k197, k2_198, v199⟩ : Int × Int × List TDot) (_ : Unit) => ⟨61, [(0, .row 100 (List.length v199)), (3, .d (.v (.int .i64 k197))), (4, .pc 100 (Int.toNat k148) (List.length row1 - Int.toNat k148) 2), (5, .d (.v (.int .i64 k2_198)))], [(100, .row 32 2 (List.map TDot.e v199))]⟩) () h (Sub.of rfl (.cons rfl rfl <| .cons rfl rfl <| .cons rfl rfl <| .cons rfl rfl <| .nil) (.cons rfl rfl <| .nil)) ?_
              rintro N ⟨k197, k2_198, v199⟩ _ h
              refine PWc.seq ?_
              refine PWc.seq ?_
              refine PWc.region ?_
              refine PWl.step (LR.move rfl) rfl ?_
              refine PWl.step (LR.move rfl) rfl ?_
              refine PWl.step (LR.lenPc Tryz.underlying28 rfl) rfl ?_
              refine PWl.step (LR.lss rfl rfl) rfl ?_
              refine PWl.nil ?_
              refine PWc.cond rfl (fun hc200 => ?_) (fun hc200 => ?_)
              · replace h := iT hc200 h
                refine PWc.skip ?_
                refine PWc.seq ?_
                refine PWc.jn (iBind h) (fun (⟨k201, v202⟩ : Int × List TDot) (_ : Unit) => ⟨61, [(0, .row 100 (List.length v202)), (3, .d (.v (.int .i64 k201))), (4, .pc 100 (Int.toNat k148) (List.length row1 - Int.toNat k148) 2), (5, .d (.v (.int .i64 k2_198)))], [(100, .row 32 2 (List.map TDot.e v202))]⟩) (fun h => ?_) ?_
                · refine PWc.block ?_
                  refine PWc.seq ?_
                  refine PWc.regionD (by kernel_rfl) (by kernel_rfl) ?_
                  refine PQl.step (fun _ he ho => LR.move (he rfl rfl)) rfl ?_
                  refine PQl.step (fun _ he ho => LR.move (he rfl rfl)) rfl ?_
                  replace h := iNeed h
                  obtain ⟨hy205, h⟩ := h
                  replace h := iIdx h
                  obtain ⟨x203, hy204, h⟩ := h
                  have hy206 : True ∧ v199[((Int.toNat k148) + Int.toNat k2_198)]? = some x203 := ⟨trivial, hy204.2⟩
                  refine PQl.step (fun _ he ho => LR.idxPc Tryz.underlying28 Tryz.sizeOf32 (he rfl rfl) (he rfl rfl) hy205) rfl ?_
                  refine PQl.step (fun _ he ho => LR.loadRpT (enc := TDot.e) (L := v199) (y := x203) Tryz.isAgg32 Tryz.sizeOf32 (he rfl rfl) (ho rfl) hy206.2) rfl ?_
                  refine PQl.step (fun _ he ho => LR.move (he rfl rfl)) rfl ?_
                  refine PQl.step (fun _ he ho => LR.move (he rfl rfl)) rfl ?_
                  refine PQl.step (fun _ he ho => LR.subW (he rfl rfl) (he rfl rfl)) rfl ?_
                  replace h := iNeed h
                  obtain ⟨hy209, h⟩ := h
                  replace h := iIdx h
                  obtain ⟨x207, hy208, h⟩ := h
                  have hy210 : True ∧ v199[((Int.toNat k148) + Int.toNat (IntKind.i64.wrap (k2_198 - 1)))]? = some x207 := ⟨trivial, hy208.2⟩
                  refine PQl.step (fun _ he ho => LR.idxPc Tryz.underlying28 Tryz.sizeOf32 (he rfl rfl) (he rfl rfl) hy209) rfl ?_
                  refine PQl.step (fun _ he ho => LR.loadRpT (enc := TDot.e) (L := v199) (y := x207) Tryz.isAgg32 Tryz.sizeOf32 (he rfl rfl) (ho rfl) hy210.2) rfl ?_
                  refine PQl.step (fun _ he ho => LR.neqAgg (he rfl rfl) (he rfl rfl) rfl rfl eq32) rfl ?_
                  refine PQl.nil ?_
                  refine PWc.cond rfl (fun hc211 => ?_) (fun hc211 => ?_)
                  · replace h := iT hc211 h
                    refine PWc.seq ?_
                    refine PWc.region ?_
                    refine PWl.step (LR.move rfl) rfl ?_
                    refine PWl.step (LR.move rfl) rfl ?_
                    refine PWl.step (LR.move rfl) rfl ?_
                    refine PWl.re (tl := [(0, _), (3, _), (4, _), (5, _), (45, _), (46, _), (47, _)]) (to := [(100, _)]) rfl (.cons rfl rfl <| .cons rfl rfl <| .cons rfl rfl <| .cons rfl rfl <| .cons rfl rfl <| .cons rfl rfl <| .cons rfl rfl <| .nil) (.cons rfl rfl <| .nil) ?_
                    refine PWl.step (LR.move rfl) rfl ?_
                    replace h := iNeed h
                    obtain ⟨hy214, h⟩ := h
                    replace h := iIdx h
                    obtain ⟨x212, hy213, h⟩ := h
                    have hy215 : True ∧ v199[((Int.toNat k148) + Int.toNat k2_198)]? = some x212 := ⟨trivial, hy213.2⟩
                    refine PWl.step (LR.idxPc Tryz.underlying28 Tryz.sizeOf32 rfl rfl hy214) rfl ?_
                    refine PWl.step (LR.loadRpT (enc := TDot.e) (L := v199) (y := x212) Tryz.isAgg32 Tryz.sizeOf32 rfl rfl hy215.2) rfl ?_
                    replace h := iIdx h
                    obtain ⟨x216, hy217, h⟩ := h
                    refine PWl.step (LR.idxRowT (L := v199) (y := x216) Tryz.underlying28 Tryz.sizeOf32 rfl rfl rfl hy217) rfl ?_
                    refine PWl.step (LR.storeRpT (enc := TDot.e) (L := v199) (a := x216) (b := x212) Tryz.sizeOf32 rfl rfl rfl rfl rfl hy217.2 rfl rfl) rfl ?_
                    refine PWl.nil ?_
                    refine PWc.region ?_
                    refine PWl.step (LR.move rfl) rfl ?_
                    refine PWl.step (LR.addW rfl rfl) rfl ?_
                    refine PWl.step (LR.assign rfl) rfl ?_
                    refine PWl.nil ?_
                    exact ⟨((IntKind.i64.wrap (k197 + 1)), (List.set v199 (Int.toNat k197) x212)), (), h, Sub.of rfl (.cons rfl (by first | rfl | (simp; done) | (congr 1; first | (simp; done) | (simp; omega))) <| .cons rfl rfl <| .cons rfl rfl <| .cons rfl rfl <| .nil) (.cons rfl rfl <| .nil)⟩
                  · replace h := iF hc211 h
                    refine PWc.skip ?_
                    exact ⟨(k197, v199), (), h, Sub.of rfl (.cons rfl rfl <| .cons rfl rfl <| .cons rfl rfl <| .cons rfl rfl <| .nil) (.cons rfl rfl <| .nil)⟩
                · rintro ⟨k201, v202⟩ _ h
                  refine PWc.region ?_
                  refine PWl.step (LR.move rfl) rfl ?_
                  refine PWl.step (LR.addW rfl rfl) rfl ?_
                  refine PWl.step (LR.assign rfl) rfl ?_
                  refine PWl.nil ?_
                  exact ⟨(k201, (IntKind.i64.wrap (k2_198 + 1)), v202), (), h, Sub.of rfl (.cons rfl rfl <| .cons rfl rfl <| .cons rfl rfl <| .cons rfl rfl <| .nil) (.cons rfl rfl <| .nil)⟩
              · replace h := iF hc200 h
                refine PWc.exit ?_
                exact ⟨(k197, v199), (), h, Sub.of rfl (.cons rfl rfl <| .cons rfl rfl <| .nil) (.cons rfl rfl <| .nil)⟩
            · rintro ⟨k156, v157⟩ _ h
              refine PWc.seq ?_
              refine PWc.region ?_
              refine PWl.step (LR.move rfl) rfl ?_
              refine PWl.step (LR.move rfl) rfl ?_
              replace h := iNeed h
              obtain ⟨hy218, h⟩ := h
              refine PWl.step (LR.pieceRowT (enc := TDot.e) (L := v157) Tryz.underlying28 Tryz.sizeOf32 rfl rfl rfl rfl hy218) rfl ?_
              replace h := iNeed h
              obtain ⟨hy219, h⟩ := h
              refine PWl.step (LR.clearPcT (enc := TDot.e) (L := v157) (z := (⟨0, 0⟩ : TDot)) Tryz.underlying28 rfl rfl Tryz.zeroValue32 rfl rfl rfl rfl hy219 rfl) rfl ?_
              refine PWl.nil ?_
              refine PWc.seq ?_
              refine PWc.region ?_
              refine PWl.step (LR.move rfl) rfl ?_
              refine PWl.step (LR.move rfl) rfl ?_
              replace h := iNeed h
              obtain ⟨hy220, h⟩ := h
              refine PWl.step (LR.cutRowT (enc := TDot.e) (L := (List.take (Int.toNat k156) v157 ++ List.replicate (List.length v157 - Int.toNat k156) (⟨0, 0⟩ : TDot) ++ List.drop ((Int.toNat k156) + (List.length v157 - Int.toNat k156)) v157)) [0, 54, 56, 57] Tryz.underlying28 Tryz.sizeOf32 rfl (by first | (simp; done) | (simp; omega) | omega) rfl rfl hy220 rfl) rfl ?_
              refine PWl.step (LR.assign rfl) rfl ?_
              refine PWl.nil ?_
              refine PWc.ret ?_
              replace h : _ = r0 := h
              subst h
              exact EndsO.mk () (.inr rfl) (Sub.of (tl := [(2, _)]) (to := [(100, _)]) rfl (.cons rfl (by first | rfl | (simp; done) | (congr 1; first | (simp; done) | (simp; omega))) <| .nil) (.cons rfl rfl <| .nil)) (.cons (.tmp rfl) <| .nil) rfl rfl
          · replace h := iF hc154 h
            refine PWc.skip ?_
            exact ⟨(), (), h, Sub.of rfl (.cons rfl rfl <| .cons rfl rfl <| .nil) (.cons rfl rfl <| .nil)⟩
        · rintro _ _ h
          refine PWc.region ?_
          refine PWl.step (LR.move rfl) rfl ?_
          refine PWl.step (LR.addW rfl rfl) rfl ?_
          refine PWl.step (LR.assign rfl) rfl ?_
          refine PWl.nil ?_
          exact ⟨(IntKind.i64.wrap (k148 + 1)), (), h, Sub.of rfl (.cons rfl rfl <| .cons rfl rfl <| .nil) (.cons rfl rfl <| .nil)⟩
      · replace h := iF hc149 h
        refine PWc.exit ?_
        exact ⟨(), (), h, Sub.of rfl (.cons rfl rfl <| .nil) (.cons rfl rfl <| .nil)⟩
    · rintro _ _ h
      refine PWc.seq ?_
      refine PWc.region ?_
      refine PWl.step (LR.move rfl) rfl ?_
      refine PWl.step (LR.assign rfl) rfl ?_
      refine PWl.nil ?_
      refine PWc.ret ?_
      replace h : _ = r0 := h
      subst h
      exact EndsO.mk () (.inr rfl) (Sub.of (tl := [(2, _)]) (to := [(100, _)]) rfl (.cons rfl (by first | rfl | (simp; done) | (congr 1; first | (simp; done) | (simp; omega))) <| .nil) (.cons rfl rfl <| .nil)) (.cons (.tmp rfl) <| .nil) rfl rfl

theorem dot_Sort_ok (l1 : List TDot) (r0 : List TDot) (h : (dot_Sort l1).wp (· = r0)) : PRow Tryz.prog 93 [.d (.sl (List.map TDot.e l1))] 32 2 (List.map TDot.e r0) := by
  refine PRow.intro (sl := [(0, _)]) Tryz.func93 rfl Tryz.ntmps93 rfl rfl ?_
  intro ctx hK
  refine PWc.seq ?_
  refine PWc.region ?_
  refine PWl.step (LR.assignNilRow 32 2 rfl) rfl ?_
  refine PWl.nil ?_
  refine PWc.seq ?_
  refine PWc.region ?_
  refine PWl.step (LR.move rfl) rfl ?_
  replace h := iDet h
  obtain ⟨v2, hy3, h⟩ := h
  refine PWl.step (LR.rowN (slices_Clone_sl_Dot_Dot_ok l1 v2 hy3) rfl Tryz.call123 rfl rfl rfl rfl) rfl ?_
  refine PWl.step (LR.assign rfl) rfl ?_
  refine PWl.nil ?_
  refine PWc.seq ?_
  refine PWc.region ?_
  refine PWl.step (LR.move rfl) rfl ?_
  replace h := iNeed h
  obtain ⟨hy5, h⟩ := h
  refine PWl.sortFn (encD := TDot.e) (enc := TDot.v) (l := v2) srt124_87 (fun _ => rfl) TDot.v1 (fun _ => rfl) rfl Tryz.call124 rfl rfl rfl (by simp) hy5 rfl (fun s4 hy6 hy7 => ?_)
  replace h := iSrt h s4 hy6 hy7
  have hy6l := hy6.length_eq
  refine PWl.nil ?_
  refine PWc.seq ?_
  refine PWc.region ?_
  refine PWl.step (LR.move rfl) rfl ?_
  replace h := iDet h
  obtain ⟨y8, hy9, h⟩ := h
  refine PWl.step (LR.callObj [(100, 5)] [3, 5, 6, 8] [100] (slices_Compact_sl_Dot_Dot_o_ok s4 y8 hy9) hK rfl Tryz.call125 rfl (by first | rfl | (simp; done) | (simp [PV.nilD, PV.ren, rn]; omega)) (.cons (by first | rfl | (congr 1; first | (simp; done) | (simp; omega))) <| .nil) rfl rfl rfl rfl) rfl ?_
  refine PWl.re (tl := [(0, _), (4, _), (7, _), (9, _)]) (to := [(5, _)]) rfl (.cons rfl rfl <| .cons rfl rfl <| .cons rfl rfl <| .cons rfl rfl <| .nil) (.cons rfl rfl <| .nil) ?_
  refine PWl.step (LR.assign rfl) rfl ?_
  refine PWl.nil ?_
  refine PWc.ret ?_
  replace h : _ = r0 := h
  subst h
  exact ⟨.inr rfl, 2, rfl, .inr ⟨5, _, rfl, (by simp), rfl⟩⟩

theorem dcode_PutDot_o_ok (d1 : TDot) (row2 : List Int) (r0 : List Int) (h : (dcode_PutDot_o d1 row2).wp (· = r0)) : PObj Tryz.prog 57 [.ref 100 0, .agg (List.map .d (TDot.e d1))] [(100, .cells 71 [.row 101 (List.length row2)]), (101, .row 5 1 (List.map (eK .u8) row2))] [100] (.tup []) (fun _ : Unit => [(100, .cells 71 [.row 101 (List.length r0)]), (101, .row 5 1 (List.map (eK .u8) r0))]) := by
  refine PObj.intro (sl := [(0, _), (1, _)]) Tryz.func57 rfl Tryz.ntmps57 rfl rfl rfl ?_
  intro ctx hK pv
  refine PWc.seq ?_
  refine PWc.region ?_
  refine PWl.step (LR.box rfl rfl rfl rfl) rfl ?_
  refine PWl.nil ?_
  refine PWc.seq ?_
  refine PWc.region ?_
  refine PWl.step (LR.move rfl) rfl ?_
  refine PWl.step (LR.fieldRef Tryz.underlying32 rfl Tryz.sizeOf29 (by decide) rfl rfl) rfl ?_
  refine PWl.step (LR.loadRef Tryz.isAgg29 rfl rfl rfl) rfl ?_
  refine PWl.step (LR.convInt Tryz.underlying30 (by rw [Tryz.underlying29]; rfl) rfl rfl) rfl ?_
  replace h := iDet h
  obtain ⟨y3, hy4, h⟩ := h
  refine PWl.step (LR.callObj [(100, 100), (101, 101)] [] [100, 101] (pack_Writer_Num_o_ok (IntKind.u64.wrap d1.dev) row2 y3 hy4) hK rfl Tryz.call92 rfl (by first | rfl | (simp; done) | (simp [PV.nilD, PV.ren, rn]; omega)) (.cons (by first | rfl | (congr 1; first | (simp; done) | (simp; omega))) <| .cons (by first | rfl | (congr 1; first | (simp; done) | (simp; omega))) <| .nil) rfl rfl rfl rfl) rfl ?_
  refine PWl.nil ?_
  refine PWc.re (tl := [(0, _), (3, _)]) (to := [(3, _), (100, _), (101, _), (1100, _)]) rfl (.cons rfl rfl <| .cons rfl rfl <| .nil) (.cons rfl rfl <| .cons rfl rfl <| .cons rfl rfl <| .cons rfl rfl <| .nil) ?_
  refine PWc.region ?_
  refine PWl.step (LR.move rfl) rfl ?_
  refine PWl.step (LR.fieldRef Tryz.underlying32 rfl Tryz.sizeOf30 (by decide) rfl rfl) rfl ?_
  refine PWl.step (LR.loadRef Tryz.isAgg30 rfl rfl rfl) rfl ?_
  replace h := iDet h
  obtain ⟨y5, hy6, h⟩ := h
  refine PWl.step (LR.callObj [(100, 100), (101, 101)] [] [100, 101] (pack_Writer_Num_o_ok d1.n y3 y5 hy6) hK rfl Tryz.call92 rfl (by first | rfl | (simp; done) | (simp [PV.nilD, PV.ren, rn]; omega)) (.cons (by first | rfl | (congr 1; first | (simp; done) | (simp; omega))) <| .cons (by first | rfl | (congr 1; first | (simp; done) | (simp; omega))) <| .nil) rfl rfl rfl rfl) rfl ?_
  refine PWl.nil ?_
  replace h : _ = r0 := h
  subst h
  exact EndsO.mk () (.inl rfl) (Sub.of (tl := []) (to := [(100, _), (101, _), (1100, _)]) rfl (.nil) (.cons rfl (by first | rfl | (congr 1; congr 2; first | (simp; done) | (simp; omega))) <| .cons rfl rfl <| .cons rfl rfl <| .nil)) (.nil) rfl rfl
end Go.Proofs


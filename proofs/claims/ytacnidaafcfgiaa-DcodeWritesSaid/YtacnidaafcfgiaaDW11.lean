/- Walks: written by program. -/
import Derived.Test.YtacnidaafcfgiaaDFc
import Derived.Test.YtacnidaafcfgiaaDSh
import Derived.Test.YtacnidaafcfgiaaDSx
import Derived.Test.YtacnidaafcfgiaaTl
import Derived.Test.YtacnidaafcfgiaaSr
import Derived.Test.YtacnidaafcfgiaaDr
import Derived.Test.YtacnidaafcfgiaaOb
import Derived.Test.YtacnidaafcfgiaaOe
import Derived.Test.YtacnidaafcfgiaaLs
import Derived.Test.YtacnidaafcfgiaaTl
import Derived.Test.YtacnidaafcfgiaaStr
import Derived.Test.YtacnidaafcfgiaaPc
import Derived.Test.YtacnidaafcfgiaaDW0
import Derived.Test.YtacnidaafcfgiaaDW4
import Derived.Test.YtacnidaafcfgiaaDW5
import Derived.Test.YtacnidaafcfgiaaDW6
import Derived.Test.YtacnidaafcfgiaaDW7
import Derived.Test.YtacnidaafcfgiaaDW8
import Derived.Test.YtacnidaafcfgiaaDW9
import Derived.Test.YtacnidaafcfgiaaDW10
namespace Go.Proofs
open Go.Ep
set_option maxHeartbeats 1000000
set_option maxRecDepth 100000
set_option linter.unusedVariables false
set_option linter.unusedSimpArgs false


theorem r09_set_ok (a1 : List TPart) (b2 : List TPart) (how3 : Int) (r0 : List TPart) (h : (r09_set a1 b2 how3).wp (· = r0)) : PRow Try.prog 133 [.d (.sl (List.map TPart.e a1)), .d (.sl (List.map TPart.e b2)), .d (.v (.int .i64 how3))] 101 2 (List.map TPart.e r0) := by
  refine PRow.intro (sl := [(0, _), (1, _), (2, _)]) Try.func133 rfl Try.ntmps133 rfl rfl ?_
  intro ctx hK
  refine PWc.seq ?_
  refine PWc.region ?_
  refine PWl.step (LR.assignNilRow 101 2 rfl) rfl ?_
  refine PWl.nil ?_
  refine PWc.seq ?_
  refine PWc.region ?_
  refine PWl.step (LR.assignNilRow 101 2 rfl) rfl ?_
  refine PWl.nil ?_
  refine PWc.seq ?_
  refine PWc.region ?_
  refine PWl.step (LR.move rfl) rfl ?_
  refine PWl.step (LR.move rfl) rfl ?_
  replace h := iDet h
  obtain ⟨v4, hy5, h⟩ := h
  refine PWl.step (LR.callN (r09_devs_ok a1 b2 v4 hy5) rfl Try.call165 rfl rfl rfl rfl) rfl ?_
  refine PWl.step (LR.assign rfl) rfl ?_
  refine PWl.nil ?_
  refine PWc.seq ?_
  refine PWc.seq ?_
  refine PWc.region ?_
  refine PWl.step (LR.assign rfl) rfl ?_
  refine PWl.nil ?_
  refine PWc.jn (iBind h) (fun (out6 : List TPart) (_ : Unit) => ⟨63, [(7, .row 7 (List.length out6))], [(7, .row 101 2 (List.map TPart.e out6))]⟩) (fun h => ?_) ?_
  · refine PWc.block ?_
    refine PWc.loopM (fun (⟨i57, out58⟩ : Int × List TPart) (_ : Unit) => ⟨63, [(0, .d (.sl (List.map TPart.e a1))), (1, .d (.sl (List.map TPart.e b2))), (2, .d (.v (.int .i64 how3))), (7, .row 7 (List.length out58)), (8, .d (.sl (List.map TDot.e v4))), (9, .d (.v (.int .i64 i57)))], [(7, .row 101 2 (List.map TPart.e out58))]⟩) () h (Sub.of rfl (.cons rfl rfl <| .cons rfl rfl <| .cons rfl rfl <| .cons rfl rfl <| .cons rfl rfl <| .cons rfl rfl <| .nil) (.cons rfl rfl <| .nil)) ?_
    rintro N ⟨i57, out58⟩ _ h
    refine PWc.seq ?_
    refine PWc.seq ?_
    refine PWc.region ?_
    refine PWl.step (LR.move rfl) rfl ?_
    refine PWl.step (LR.move rfl) rfl ?_
    refine PWl.step (LR.lenMap (enc := TDot.e) (L := v4) Try.underlying39 rfl) rfl ?_
    refine PWl.step (LR.lss rfl rfl) rfl ?_
    refine PWl.nil ?_
    refine PWc.cond rfl (fun hc59 => ?_) (fun hc59 => ?_)
    · replace h := iT hc59 h
      refine PWc.skip ?_
      refine PWc.seq ?_
      refine PWc.jn (iBind h) (fun (out60 : List TPart) (_ : Unit) => ⟨63, [(0, .d (.sl (List.map TPart.e a1))), (1, .d (.sl (List.map TPart.e b2))), (2, .d (.v (.int .i64 how3))), (7, .row 7 (List.length out60)), (8, .d (.sl (List.map TDot.e v4))), (9, .d (.v (.int .i64 i57)))], [(7, .row 101 2 (List.map TPart.e out60))]⟩) (fun h => ?_) ?_
      · refine PWc.block ?_
        refine PWc.seq ?_
        refine PWc.regionD (by kernel_rfl) (by kernel_rfl) ?_
        refine PQl.step (fun _ he ho => LR.move (he rfl rfl)) rfl ?_
        refine PQl.step (fun _ he ho => LR.move (he rfl rfl)) rfl ?_
        refine PQl.step (fun _ he ho => LR.move (he rfl rfl)) rfl ?_
        replace h := iIdx h
        obtain ⟨x61, hy62, h⟩ := h
        refine PQl.step (fun _ he ho => LR.idxT (enc := TDot.e) (L := v4) (y := x61) Try.underlying39 Try.sizeOf38 (he rfl rfl) (he rfl rfl) hy62 (fun _ => rfl)) rfl ?_
        refine PQl.step (fun _ he ho => LR.fieldEp Try.underlying38 rfl Try.sizeOf28 (by decide) rfl (he rfl rfl)) rfl ?_
        refine PQl.step (fun _ he ho => LR.loadEp Try.isAgg28 (he rfl rfl) rfl) rfl ?_
        replace h := iDet h
        obtain ⟨v63, hy64, h⟩ := h
        refine PQl.step (fun _ he ho => LR.callN (r09_Runs_ok a1 x61.dev v63 hy64) (he rfl rfl) Try.call22 (evsE he rfl rfl) rfl rfl rfl) rfl ?_
        refine PQl.step (fun _ he ho => LR.move (he rfl rfl)) rfl ?_
        refine PQl.step (fun _ he ho => LR.move (he rfl rfl)) rfl ?_
        refine PQl.step (fun _ he ho => LR.move (he rfl rfl)) rfl ?_
        replace h := iIdx h
        obtain ⟨x65, hy66, h⟩ := h
        refine PQl.step (fun _ he ho => LR.idxT (enc := TDot.e) (L := v4) (y := x65) Try.underlying39 Try.sizeOf38 (he rfl rfl) (he rfl rfl) hy66 (fun _ => rfl)) rfl ?_
        refine PQl.step (fun _ he ho => LR.fieldEp Try.underlying38 rfl Try.sizeOf28 (by decide) rfl (he rfl rfl)) rfl ?_
        refine PQl.step (fun _ he ho => LR.loadEp Try.isAgg28 (he rfl rfl) rfl) rfl ?_
        replace h := iDet h
        obtain ⟨v67, hy68, h⟩ := h
        refine PQl.step (fun _ he ho => LR.callN (r09_Runs_ok b2 x65.dev v67 hy68) (he rfl rfl) Try.call22 (evsE he rfl rfl) rfl rfl rfl) rfl ?_
        refine PQl.step (fun _ he ho => LR.assign (he rfl rfl)) rfl ?_
        refine PQl.step (fun _ he ho => LR.assign (he rfl rfl)) rfl ?_
        refine PQl.nil ?_
        refine PWc.seq ?_
        refine PWc.re (tl := [(0, _), (1, _), (2, _), (7, _), (8, _), (9, _), (10, _), (11, _)]) (to := [(7, _)]) rfl (.cons rfl rfl <| .cons rfl rfl <| .cons rfl rfl <| .cons rfl rfl <| .cons rfl rfl <| .cons rfl rfl <| .cons rfl rfl <| .cons rfl rfl <| .nil) (.cons rfl rfl <| .nil) ?_
        refine PWc.region ?_
        refine PWl.step (LR.move rfl) rfl ?_
        refine PWl.step (LR.move rfl) rfl ?_
        replace h := iDet h
        obtain ⟨v69, hy70, h⟩ := h
        refine PWl.step (LR.rowN (r06_Join_ok v63 v67 v69 hy70) rfl Try.call73 rfl rfl rfl rfl) rfl ?_
        refine PWl.step (LR.assign rfl) rfl ?_
        refine PWl.nil ?_
        refine PWc.seq ?_
        refine PWc.seq ?_
        refine PWc.region ?_
        refine PWl.step (LR.move rfl) rfl ?_
        refine PWl.step (LR.eql rfl rfl) rfl ?_
        refine PWl.nil ?_
        refine PWc.jn (iBind h) (fun (z71 : List TRun) (_ : Unit) => ⟨63, [(0, .d (.sl (List.map TPart.e a1))), (1, .d (.sl (List.map TPart.e b2))), (2, .d (.v (.int .i64 how3))), (7, .row 7 (List.length out58)), (8, .d (.sl (List.map TDot.e v4))), (9, .d (.v (.int .i64 i57))), (10, .d (.sl (List.map TRun.e v63))), (11, .d (.sl (List.map TRun.e v67))), (12, .d (.sl (List.map TRun.e z71)))], [(7, .row 101 2 (List.map TPart.e out58))]⟩) (fun h => ?_) ?_
        · refine PWc.cond rfl (fun hc72 => ?_) (fun hc72 => ?_)
          · replace h := iT hc72 h
            refine PWc.region ?_
            refine PWl.step (LR.move rfl) rfl ?_
            refine PWl.step (LR.move rfl) rfl ?_
            replace h := iDet h
            obtain ⟨v73, hy74, h⟩ := h
            refine PWl.step (LR.rowN (r06_Meet_ok v63 v67 v73 hy74) rfl Try.call166 rfl rfl rfl rfl) rfl ?_
            refine PWl.step (LR.assign rfl) rfl ?_
            refine PWl.nil ?_
            exact ⟨v73, (), h, Sub.trans (Sub.frz [38] hK rfl (by simp) (AllRow.get (.cons rfl <| .nil))) <| Sub.trans (Sub.frz [12, 43] hK rfl (by simp) (AllRow.get (.cons rfl <| .cons rfl <| .nil))) <| Sub.of rfl (.cons rfl rfl <| .cons rfl rfl <| .cons rfl rfl <| .cons rfl rfl <| .cons rfl rfl <| .cons rfl rfl <| .cons rfl rfl <| .cons rfl rfl <| .cons rfl rfl <| .nil) (.cons rfl rfl <| .nil)⟩
          · replace h := iF hc72 h
            refine PWc.skip ?_
            exact ⟨v69, (), h, Sub.trans (Sub.frz [12, 38] hK rfl (by simp) (AllRow.get (.cons rfl <| .cons rfl <| .nil))) <| Sub.of rfl (.cons rfl rfl <| .cons rfl rfl <| .cons rfl rfl <| .cons rfl rfl <| .cons rfl rfl <| .cons rfl rfl <| .cons rfl rfl <| .cons rfl rfl <| .cons rfl rfl <| .nil) (.cons rfl rfl <| .nil)⟩
        · rintro z71 _ h
          refine PWc.seq ?_
          refine PWc.seq ?_
          refine PWc.region ?_
          refine PWl.step (LR.move rfl) rfl ?_
          refine PWl.step (LR.eql rfl rfl) rfl ?_
          refine PWl.nil ?_
          refine PWc.jn (iBind h) (fun (z75 : List TRun) (_ : Unit) => ⟨63, [(0, .d (.sl (List.map TPart.e a1))), (1, .d (.sl (List.map TPart.e b2))), (2, .d (.v (.int .i64 how3))), (7, .row 7 (List.length out58)), (8, .d (.sl (List.map TDot.e v4))), (9, .d (.v (.int .i64 i57))), (12, .d (.sl (List.map TRun.e z75)))], [(7, .row 101 2 (List.map TPart.e out58))]⟩) (fun h => ?_) ?_
          · refine PWc.cond rfl (fun hc76 => ?_) (fun hc76 => ?_)
            · replace h := iT hc76 h
              refine PWc.region ?_
              refine PWl.step (LR.move rfl) rfl ?_
              refine PWl.step (LR.move rfl) rfl ?_
              replace h := iDet h
              obtain ⟨v77, hy78, h⟩ := h
              refine PWl.step (LR.rowN (r06_Minus_ok v63 v67 v77 hy78) rfl Try.call167 rfl rfl rfl rfl) rfl ?_
              refine PWl.step (LR.assign rfl) rfl ?_
              refine PWl.nil ?_
              exact ⟨v77, (), h, Sub.trans (Sub.frz [12, 48] hK rfl (by simp) (AllRow.get (.cons rfl <| .cons rfl <| .nil))) <| Sub.of rfl (.cons rfl rfl <| .cons rfl rfl <| .cons rfl rfl <| .cons rfl rfl <| .cons rfl rfl <| .cons rfl rfl <| .cons rfl rfl <| .nil) (.cons rfl rfl <| .nil)⟩
            · replace h := iF hc76 h
              refine PWc.skip ?_
              exact ⟨z71, (), h, Sub.of rfl (.cons rfl rfl <| .cons rfl rfl <| .cons rfl rfl <| .cons rfl rfl <| .cons rfl rfl <| .cons rfl rfl <| .cons rfl rfl <| .nil) (.cons rfl rfl <| .nil)⟩
          · rintro z75 _ h
            refine PWc.seq ?_
            refine PWc.region ?_
            refine PWl.step (LR.move rfl) rfl ?_
            refine PWl.step (LR.lenMap (enc := TRun.e) (L := z75) Try.underlying34 rfl) rfl ?_
            refine PWl.step (LR.gtr rfl rfl) rfl ?_
            refine PWl.nil ?_
            refine PWc.cond rfl (fun hc79 => ?_) (fun hc79 => ?_)
            · replace h := iT hc79 h
              refine PWc.region ?_
              refine PWl.step (LR.move rfl) rfl ?_
              refine PWl.step (LR.move rfl) rfl ?_
              refine PWl.step (LR.move rfl) rfl ?_
              replace h := iIdx h
              obtain ⟨x80, hy81, h⟩ := h
              refine PWl.step (LR.idxT (enc := TDot.e) (L := v4) (y := x80) Try.underlying39 Try.sizeOf38 rfl rfl hy81 (fun _ => rfl)) rfl ?_
              refine PWl.step (LR.fieldEp Try.underlying38 rfl Try.sizeOf28 (by decide) rfl rfl) rfl ?_
              refine PWl.step (LR.loadEp Try.isAgg28 rfl rfl) rfl ?_
              refine PWl.step (LR.move rfl) rfl ?_
              refine PWl.step (LR.build (ns := [_, _]) build101 rfl rfl rfl) rfl ?_
              refine PWl.step (LR.buildSliceD [.tmp 59] elem24 rfl rfl (.cons rfl rfl rfl <| .nil) (by decide) (by decide)) rfl ?_
              replace h := iNeed h
              obtain ⟨hy82, h⟩ := h
              refine PWl.step (LR.appT (enc := TPart.e) (L := out58) (R := [(⟨x80.dev, z75⟩ : TPart)]) [7, 52] elem24 Try.underlying24 rfl rfl rfl (Src.slT (enc := TPart.e) (R := [(⟨x80.dev, z75⟩ : TPart)]) rfl (fun _ => rfl)) (fun _ => rfl) hy82 rfl rfl) rfl ?_
              refine PWl.step (LR.assign rfl) rfl ?_
              refine PWl.nil ?_
              exact ⟨(out58 ++ [(⟨x80.dev, z75⟩ : TPart)]), (), h, Sub.of rfl (.cons rfl rfl <| .cons rfl rfl <| .cons rfl rfl <| .cons rfl rfl <| .cons rfl rfl <| .cons rfl rfl <| .nil) (.cons rfl rfl <| .nil)⟩
            · replace h := iF hc79 h
              refine PWc.skip ?_
              exact ⟨out58, (), h, Sub.of rfl (.cons rfl rfl <| .cons rfl rfl <| .cons rfl rfl <| .cons rfl rfl <| .cons rfl rfl <| .cons rfl rfl <| .nil) (.cons rfl rfl <| .nil)⟩
      · rintro out60 _ h
        refine PWc.region ?_
        refine PWl.step (LR.move rfl) rfl ?_
        refine PWl.step (LR.addW rfl rfl) rfl ?_
        refine PWl.step (LR.assign rfl) rfl ?_
        refine PWl.nil ?_
        exact ⟨((IntKind.i64.wrap (i57 + 1)), out60), (), h, Sub.of rfl (.cons rfl rfl <| .cons rfl rfl <| .cons rfl rfl <| .cons rfl rfl <| .cons rfl rfl <| .cons rfl rfl <| .nil) (.cons rfl rfl <| .nil)⟩
    · replace h := iF hc59 h
      refine PWc.exit ?_
      exact ⟨out58, (), h, Sub.of rfl (.cons rfl rfl <| .nil) (.cons rfl rfl <| .nil)⟩
  · rintro out6 _ h
    refine PWc.seq ?_
    refine PWc.region ?_
    refine PWl.step (LR.move rfl) rfl ?_
    refine PWl.step (LR.assign rfl) rfl ?_
    refine PWl.nil ?_
    refine PWc.ret ?_
    replace h : _ = r0 := h
    subst h
    exact ⟨.inr rfl, 6, rfl, .inr ⟨7, _, rfl, (by simp), rfl⟩⟩

theorem r09_Norm_ok (c1 : List TPart) (r0 : List TPart) (h : (r09_Norm c1).wp (· = r0)) : PRow Try.prog 87 [.d (.sl (List.map TPart.e c1))] 101 2 (List.map TPart.e r0) := by
  refine PRow.intro (sl := [(0, _)]) Try.func87 rfl Try.ntmps87 rfl rfl ?_
  intro ctx hK
  refine PWc.seq ?_
  refine PWc.region ?_
  refine PWl.step (LR.assignNilRow 101 2 rfl) rfl ?_
  refine PWl.nil ?_
  refine PWc.seq ?_
  refine PWc.region ?_
  refine PWl.step (LR.move rfl) rfl ?_
  replace h := iDet h
  obtain ⟨v2, hy3, h⟩ := h
  refine PWl.step (LR.rowN (r09_set_ok c1 ([] : List TPart) 0 v2 hy3) rfl Try.call133 rfl rfl rfl rfl) rfl ?_
  refine PWl.re (tl := [(0, _), (3, _), (4, _)]) (to := [(4, _)]) rfl (.cons rfl rfl <| .cons rfl rfl <| .cons rfl rfl <| .nil) (.cons rfl rfl <| .nil) ?_
  refine PWl.step (LR.assign rfl) rfl ?_
  refine PWl.nil ?_
  refine PWc.ret ?_
  replace h : _ = r0 := h
  subst h
  exact ⟨.inr rfl, 2, rfl, .inr ⟨4, _, rfl, (by simp), rfl⟩⟩

theorem r15_PutCtx_ok (b1 : List Int) (c2 : List TPart) (r0 : List Int) (h : (r15_PutCtx b1 c2).wp (· = r0)) : PFun Try.prog 33 [.d (.sl (List.map (eK .u8) b1)), .d (.sl (List.map TPart.e c2))] (.d (.sl (List.map (eK .u8) r0))) := by
  refine PFun.intro (sl := [(0, _), (1, _)]) Try.func33 rfl Try.ntmps33 rfl rfl ?_
  intro ctx hK
  refine PWc.seq ?_
  refine PWc.region ?_
  refine PWl.step (LR.assignNilRow 5 1 rfl) rfl ?_
  refine PWl.nil ?_
  refine PWc.seq ?_
  refine PWc.region ?_
  refine PWl.step (LR.move rfl) rfl ?_
  replace h := iDet h
  obtain ⟨v3, hy4, h⟩ := h
  refine PWl.step (LR.rowN (r09_Norm_ok c2 v3 hy4) rfl Try.call87 rfl rfl rfl rfl) rfl ?_
  refine PWl.step (LR.assign rfl) rfl ?_
  refine PWl.nil ?_
  refine PWc.seq ?_
  refine PWc.region ?_
  refine PWl.step (LR.move rfl) rfl ?_
  refine PWl.step (LR.move rfl) rfl ?_
  refine PWl.step (LR.lenRow Try.underlying24 rfl) rfl ?_
  refine PWl.step (LR.convInt Try.underlying36 (by rw [Try.underlying3]; rfl) rfl rfl) rfl ?_
  replace h := iDet h
  obtain ⟨v5, hy6, h⟩ := h
  refine PWl.step (LR.rowN (r03_Append_ok b1 ((IntKind.u64.wrap ((List.length v3) : Int))) v5 hy6) rfl Try.call85 rfl rfl rfl rfl) rfl ?_
  refine PWl.step (LR.assign rfl) rfl ?_
  refine PWl.nil ?_
  refine PWc.seq ?_
  refine PWc.seq ?_
  refine PWc.region ?_
  refine PWl.step (LR.assign rfl) rfl ?_
  refine PWl.nil ?_
  refine PWc.jn (iBind h) (fun (out7 : List Int) (_ : Unit) => ⟨70, [(5, .d (.sl (List.map (eK .u8) out7)))], []⟩) (fun h => ?_) ?_
  · refine PWc.block ?_
    refine PWc.loopM (fun (⟨out128, i129⟩ : List Int × Int) (_ : Unit) => ⟨70, [(1, .row 9 (List.length v3)), (5, .d (.sl (List.map (eK .u8) out128))), (6, .d (.v (.int .i64 i129)))], [(9, .row 101 2 (List.map TPart.e v3))]⟩) () h (Sub.trans (Sub.frz [5, 14] hK rfl (by simp) (AllRow.get (.cons rfl <| .cons rfl <| .nil))) <| Sub.of rfl (.cons rfl rfl <| .cons rfl rfl <| .cons rfl rfl <| .nil) (.cons rfl rfl <| .nil)) ?_
    rintro N ⟨out128, i129⟩ _ h
    refine PWc.seq ?_
    refine PWc.seq ?_
    refine PWc.region ?_
    refine PWl.step (LR.move rfl) rfl ?_
    refine PWl.step (LR.move rfl) rfl ?_
    refine PWl.step (LR.lenRow Try.underlying24 rfl) rfl ?_
    refine PWl.step (LR.lss rfl rfl) rfl ?_
    refine PWl.nil ?_
    refine PWc.cond rfl (fun hc130 => ?_) (fun hc130 => ?_)
    · replace h := iT hc130 h
      refine PWc.skip ?_
      refine PWc.seq ?_
      refine PWc.jn (iBind h) (fun (out131 : List Int) (_ : Unit) => ⟨70, [(1, .row 9 (List.length v3)), (5, .d (.sl (List.map (eK .u8) out131))), (6, .d (.v (.int .i64 i129)))], [(9, .row 101 2 (List.map TPart.e v3))]⟩) (fun h => ?_) ?_
      · refine PWc.block ?_
        refine PWc.seq ?_
        refine PWc.region ?_
        refine PWl.step (LR.move rfl) rfl ?_
        refine PWl.step (LR.move rfl) rfl ?_
        refine PWl.step (LR.move rfl) rfl ?_
        replace h := iIdx h
        obtain ⟨x132, hy133, h⟩ := h
        refine PWl.step (LR.idxRowT (L := v3) (y := x132) Try.underlying24 Try.sizeOf101 rfl rfl rfl hy133) rfl ?_
        refine PWl.step (LR.fieldRp Try.underlying101 rfl Try.sizeOf28 (by decide) rfl rfl) rfl ?_
        refine PWl.step (LR.loadRpF (enc := TPart.e) (L := v3) (y := x132) Try.isAgg28 rfl rfl hy133.2 rfl) rfl ?_
        refine PWl.step (LR.convInt Try.underlying36 (by rw [Try.underlying28]; rfl) rfl rfl) rfl ?_
        replace h := iDet h
        obtain ⟨v134, hy135, h⟩ := h
        refine PWl.step (LR.rowN (r03_Append_ok out128 (IntKind.u64.wrap x132.dev) v134 hy135) rfl Try.call85 rfl rfl rfl rfl) rfl ?_
        refine PWl.step (LR.assign rfl) rfl ?_
        refine PWl.nil ?_
        refine PWc.seq ?_
        refine PWc.region ?_
        refine PWl.step (LR.move rfl) rfl ?_
        refine PWl.step (LR.move rfl) rfl ?_
        refine PWl.step (LR.move rfl) rfl ?_
        replace h := iIdx h
        obtain ⟨x136, hy137, h⟩ := h
        refine PWl.step (LR.idxRowT (L := v3) (y := x136) Try.underlying24 Try.sizeOf101 rfl rfl rfl hy137) rfl ?_
        refine PWl.step (LR.fieldRp Try.underlying101 rfl Try.sizeOf34 (by decide) rfl rfl) rfl ?_
        refine PWl.re (tl := [(1, _), (5, _), (6, _), (29, _), (33, _)]) (to := [(9, _), (28, _)]) rfl (.cons rfl rfl <| .cons rfl rfl <| .cons rfl rfl <| .cons rfl rfl <| .cons rfl rfl <| .nil) (.cons rfl rfl <| .cons rfl rfl <| .nil) ?_
        refine PWl.step (LR.loadRpF (enc := TPart.e) (L := v3) (y := x136) Try.isAgg34 rfl rfl hy137.2 rfl) rfl ?_
        refine PWl.step (LR.lenMap (enc := TRun.e) (L := x136.runs) Try.underlying34 rfl) rfl ?_
        refine PWl.step (LR.convInt Try.underlying36 (by rw [Try.underlying3]; rfl) rfl rfl) rfl ?_
        replace h := iDet h
        obtain ⟨v138, hy139, h⟩ := h
        refine PWl.frz [5, 29] hK (.cons rfl <| .cons rfl <| .nil) rfl (by simp) ?_
        refine PWl.step (LR.rowN (r03_Append_ok v134 (IntKind.u64.wrap (List.length x136.runs : Int)) v138 hy139) rfl Try.call85 rfl rfl rfl rfl) rfl ?_
        refine PWl.step (LR.assign rfl) rfl ?_
        refine PWl.nil ?_
        refine PWc.seq ?_
        refine PWc.region ?_
        refine PWl.step (LR.assign rfl) rfl ?_
        refine PWl.nil ?_
        refine PWc.block ?_
        refine PWc.loopM (fun (⟨out172, k173⟩ : List Int × Int) (_ : Unit) => ⟨70, [(1, .row 9 (List.length v3)), (5, .d (.sl (List.map (eK .u8) out172))), (6, .d (.v (.int .i64 i129))), (7, .d (.v (.int .i64 k173)))], [(9, .row 101 2 (List.map TPart.e v3))]⟩) () h (Sub.trans (Sub.frz [5, 37] hK rfl (by simp) (AllRow.get (.cons rfl <| .cons rfl <| .nil))) <| Sub.of rfl (.cons rfl rfl <| .cons rfl rfl <| .cons rfl rfl <| .cons rfl rfl <| .nil) (.cons rfl rfl <| .nil)) ?_
        rintro N ⟨out172, k173⟩ _ h
        refine PWc.seq ?_
        refine PWc.seq ?_
        refine PWc.region ?_
        refine PWl.step (LR.move rfl) rfl ?_
        refine PWl.step (LR.move rfl) rfl ?_
        refine PWl.step (LR.move rfl) rfl ?_
        replace h := iIdx h
        obtain ⟨x174, hy175, h⟩ := h
        refine PWl.step (LR.idxRowT (L := v3) (y := x174) Try.underlying24 Try.sizeOf101 rfl rfl rfl hy175) rfl ?_
        refine PWl.step (LR.fieldRp Try.underlying101 rfl Try.sizeOf34 (by decide) rfl rfl) rfl ?_
        refine PWl.step (LR.loadRpF (enc := TPart.e) (L := v3) (y := x174) Try.isAgg34 rfl rfl hy175.2 rfl) rfl ?_
        refine PWl.step (LR.lenMap (enc := TRun.e) (L := x174.runs) Try.underlying34 rfl) rfl ?_
        refine PWl.step (LR.lss rfl rfl) rfl ?_
        refine PWl.nil ?_
        refine PWc.cond rfl (fun hc176 => ?_) (fun hc176 => ?_)
        · replace h := iT hc176 h
          refine PWc.skip ?_
          refine PWc.seq ?_
          refine PWc.block ?_
          refine PWc.re (tl := [(1, _), (5, _), (6, _), (7, _)]) (to := [(9, _)]) rfl (.cons rfl rfl <| .cons rfl rfl <| .cons rfl rfl <| .cons rfl rfl <| .nil) (.cons rfl rfl <| .nil) ?_
          refine PWc.regionE [⟨[48], [], [], [], [], [], [], []⟩, ⟨[49], [], [], [], [], [9], [], []⟩, ⟨[50], [], [], [], [], [], [], []⟩, ⟨[51], [], [], [], [], [9], [], []⟩, ⟨[52], [], [], [], [], [9], [], []⟩, ⟨[53], [], [9], [], [], [], [], []⟩, ⟨[54], [], [], [], [], [], [], []⟩, ⟨[55], [], [], [], [], [], [], []⟩, ⟨[56], [], [], [], [], [], [], []⟩, ⟨[57], [], [], [], [], [], [], []⟩, ⟨[58], [], [], [], [], [], [], []⟩, ⟨[59], [], [], [], [], [9], [], []⟩, ⟨[60], [], [], [], [], [], [], []⟩, ⟨[61], [], [], [], [], [9], [], []⟩, ⟨[62], [], [], [], [], [9], [], []⟩, ⟨[63], [], [9], [], [], [], [], []⟩, ⟨[64], [], [], [], [], [], [], []⟩, ⟨[65], [], [], [], [], [], [], []⟩, ⟨[66], [], [], [], [], [], [], []⟩, ⟨[67], [], [], [], [], [], [], []⟩, ⟨[68], [68], [], [68], [], [68], [], []⟩, ⟨[5], [], [], [], [], [68], [], []⟩] (by kernel_rfl) (by kernel_rfl) rfl ?_
          refine PQe.stepP (fun _ he ho => LR.move (he rfl rfl)) (.inl rfl) rfl ?_
          refine PQe.stepP (fun _ he ho => LR.move (he rfl rfl)) (.inl rfl) rfl ?_
          refine PQe.stepP (fun _ he ho => LR.move (he rfl rfl)) (.inl rfl) rfl ?_
          replace h := iIdx h
          obtain ⟨x177, hy178, h⟩ := h
          refine PQe.stepP (fun _ he ho => LR.idxRowT (L := v3) (y := x177) Try.underlying24 Try.sizeOf101 (he rfl rfl) rfl (he rfl rfl) hy178) (.inl rfl) rfl ?_
          refine PQe.stepP (fun _ he ho => LR.fieldRp Try.underlying101 rfl Try.sizeOf34 (by decide) rfl (he rfl rfl)) (.inl rfl) rfl ?_
          refine PQe.stepP (fun _ he ho => LR.loadRpF (enc := TPart.e) (L := v3) (y := x177) Try.isAgg34 (he rfl rfl) (ho rfl rfl) hy178.2 rfl) (.inl rfl) rfl ?_
          refine PQe.stepP (fun _ he ho => LR.move (he rfl rfl)) (.inl rfl) rfl ?_
          replace h := iIdx h
          obtain ⟨x179, hy180, h⟩ := h
          refine PQe.stepP (fun _ he ho => LR.idxT (enc := TRun.e) (L := x177.runs) (y := x179) Try.underlying34 Try.sizeOf114 (he rfl rfl) (he rfl rfl) hy180 (fun _ => rfl)) (.inl rfl) rfl ?_
          refine PQe.stepP (fun _ he ho => LR.fieldEp Try.underlying114 rfl Try.sizeOf36 (by decide) rfl (he rfl rfl)) (.inl rfl) rfl ?_
          refine PQe.stepP (fun _ he ho => LR.loadEp Try.isAgg36 (he rfl rfl) rfl) (.inl rfl) rfl ?_
          replace h := iDet h
          obtain ⟨v181, hy182, h⟩ := h
          refine PQe.stepP (fun _ he ho => LR.callN (PRow.fun (r03_Append_ok out172 x179.lo v181 hy182)) (he rfl rfl) Try.call85 (evsE he rfl rfl) rfl rfl rfl) (.inl rfl) rfl ?_
          refine PQe.stepP (fun _ he ho => LR.move (he rfl rfl)) (.inl rfl) rfl ?_
          refine PQe.stepP (fun _ he ho => LR.move (he rfl rfl)) (.inl rfl) rfl ?_
          replace h := iIdx h
          obtain ⟨x183, hy184, h⟩ := h
          refine PQe.stepP (fun _ he ho => LR.idxRowT (L := v3) (y := x183) Try.underlying24 Try.sizeOf101 (he rfl rfl) rfl (he rfl rfl) hy184) (.inl rfl) rfl ?_
          refine PQe.stepP (fun _ he ho => LR.fieldRp Try.underlying101 rfl Try.sizeOf34 (by decide) rfl (he rfl rfl)) (.inl rfl) rfl ?_
          refine PQe.stepP (fun _ he ho => LR.loadRpF (enc := TPart.e) (L := v3) (y := x183) Try.isAgg34 (he rfl rfl) (ho rfl rfl) hy184.2 rfl) (.inl rfl) rfl ?_
          refine PQe.stepP (fun _ he ho => LR.move (he rfl rfl)) (.inl rfl) rfl ?_
          replace h := iIdx h
          obtain ⟨x185, hy186, h⟩ := h
          refine PQe.stepP (fun _ he ho => LR.idxT (enc := TRun.e) (L := x183.runs) (y := x185) Try.underlying34 Try.sizeOf114 (he rfl rfl) (he rfl rfl) hy186 (fun _ => rfl)) (.inl rfl) rfl ?_
          refine PQe.stepP (fun _ he ho => LR.fieldEp Try.underlying114 rfl Try.sizeOf36 (by decide) rfl (he rfl rfl)) (.inl rfl) rfl ?_
          refine PQe.stepP (fun _ he ho => LR.loadEp Try.isAgg36 (he rfl rfl) rfl) (.inl rfl) rfl ?_
          replace h := iDet h
          obtain ⟨v187, hy188, h⟩ := h
          refine PQe.stepN (fun _ he ho hf => LR.rowN (r03_Append_ok v181 x185.hi v187 hy188) (he rfl rfl) Try.call85 (evsE he rfl rfl) rfl rfl hf) rfl (.inl rfl) rfl ?_
          refine PQe.stepP (fun _ he ho => LR.assign (he rfl rfl)) (.inl rfl) rfl ?_
          refine PQe.nil ?_
          refine PWc.re (tl := [(1, _), (5, _), (6, _), (7, _)]) (to := [(9, _), (68, _)]) rfl (.cons rfl rfl <| .cons rfl rfl <| .cons rfl rfl <| .cons rfl rfl <| .nil) (.cons rfl rfl <| .cons rfl rfl <| .nil) ?_
          refine PWc.region ?_
          refine PWl.step (LR.move rfl) rfl ?_
          refine PWl.step (LR.addW rfl rfl) rfl ?_
          refine PWl.step (LR.assign rfl) rfl ?_
          refine PWl.nil ?_
          exact ⟨(v187, (IntKind.i64.wrap (k173 + 1))), (), h, Sub.trans (Sub.frz [5] hK rfl (by simp) (AllRow.get (.cons rfl <| .nil))) <| Sub.of rfl (.cons rfl rfl <| .cons rfl rfl <| .cons rfl rfl <| .cons rfl rfl <| .nil) (.cons rfl rfl <| .nil)⟩
        · replace h := iF hc176 h
          refine PWc.exit ?_
          exact ⟨out172, (), h, Sub.of rfl (.cons rfl rfl <| .cons rfl rfl <| .cons rfl rfl <| .nil) (.cons rfl rfl <| .nil)⟩
      · rintro out131 _ h
        refine PWc.region ?_
        refine PWl.step (LR.move rfl) rfl ?_
        refine PWl.step (LR.addW rfl rfl) rfl ?_
        refine PWl.step (LR.assign rfl) rfl ?_
        refine PWl.nil ?_
        exact ⟨(out131, (IntKind.i64.wrap (i129 + 1))), (), h, Sub.of rfl (.cons rfl rfl <| .cons rfl rfl <| .cons rfl rfl <| .nil) (.cons rfl rfl <| .nil)⟩
    · replace h := iF hc130 h
      refine PWc.exit ?_
      exact ⟨out128, (), h, Sub.of rfl (.cons rfl rfl <| .nil) (.nil)⟩
  · rintro out7 _ h
    refine PWc.seq ?_
    refine PWc.region ?_
    refine PWl.step (LR.move rfl) rfl ?_
    refine PWl.step (LR.assign rfl) rfl ?_
    refine PWl.nil ?_
    refine PWc.ret ?_
    replace h : _ = r0 := h
    subst h
    exact ⟨.inr rfl, _, .cons (.tmp rfl rfl) <| .nil, rfl⟩

theorem dcode_PutDot_o_ok (d1 : TDot) (row2 : List Int) (r0 : List Int) (h : (dcode_PutDot_o d1 row2).wp (· = r0)) : PObj Try.prog 26 [.ref 100 0, .agg (List.map .d (TDot.e d1))] [(100, .cells 47 [.row 101 (List.length row2)]), (101, .row 5 1 (List.map (eK .u8) row2))] [100] (.tup []) (fun _ : Unit => [(100, .cells 47 [.row 101 (List.length r0)]), (101, .row 5 1 (List.map (eK .u8) r0))]) := by
  refine PObj.intro (sl := [(0, _), (1, _)]) Try.func26 rfl Try.ntmps26 rfl rfl rfl ?_
  intro ctx hK pv
  refine PWc.seq ?_
  refine PWc.region ?_
  refine PWl.step (LR.box rfl rfl rfl rfl) rfl ?_
  refine PWl.nil ?_
  refine PWc.seq ?_
  refine PWc.region ?_
  refine PWl.step (LR.move rfl) rfl ?_
  refine PWl.step (LR.fieldRef Try.underlying38 rfl Try.sizeOf28 (by decide) rfl rfl) rfl ?_
  refine PWl.step (LR.loadRef Try.isAgg28 rfl rfl rfl) rfl ?_
  refine PWl.step (LR.convInt Try.underlying36 (by rw [Try.underlying28]; rfl) rfl rfl) rfl ?_
  replace h := iDet h
  obtain ⟨y3, hy4, h⟩ := h
  refine PWl.step (LR.callObj [(100, 100), (101, 101)] [] [100, 101] (pack_Writer_Num_o_ok (IntKind.u64.wrap d1.dev) row2 y3 hy4) hK rfl Try.call81 rfl (by first | rfl | (simp; done) | (simp [PV.nilD, PV.ren, rn]; omega)) (.cons (by first | rfl | (congr 1; first | (simp; done) | (simp; omega))) <| .cons (by first | rfl | (congr 1; first | (simp; done) | (simp; omega))) <| .nil) rfl rfl rfl rfl) rfl ?_
  refine PWl.nil ?_
  refine PWc.re (tl := [(0, _), (3, _)]) (to := [(3, _), (100, _), (101, _), (1100, _)]) rfl (.cons rfl rfl <| .cons rfl rfl <| .nil) (.cons rfl rfl <| .cons rfl rfl <| .cons rfl rfl <| .cons rfl rfl <| .nil) ?_
  refine PWc.region ?_
  refine PWl.step (LR.move rfl) rfl ?_
  refine PWl.step (LR.fieldRef Try.underlying38 rfl Try.sizeOf36 (by decide) rfl rfl) rfl ?_
  refine PWl.step (LR.loadRef Try.isAgg36 rfl rfl rfl) rfl ?_
  replace h := iDet h
  obtain ⟨y5, hy6, h⟩ := h
  refine PWl.step (LR.callObj [(100, 100), (101, 101)] [] [100, 101] (pack_Writer_Num_o_ok d1.n y3 y5 hy6) hK rfl Try.call81 rfl (by first | rfl | (simp; done) | (simp [PV.nilD, PV.ren, rn]; omega)) (.cons (by first | rfl | (congr 1; first | (simp; done) | (simp; omega))) <| .cons (by first | rfl | (congr 1; first | (simp; done) | (simp; omega))) <| .nil) rfl rfl rfl rfl) rfl ?_
  refine PWl.nil ?_
  replace h : _ = r0 := h
  subst h
  exact EndsO.mk () (.inl rfl) (Sub.of (tl := []) (to := [(100, _), (101, _), (1100, _)]) rfl (.nil) (.cons rfl (by first | rfl | (congr 1; congr 2; first | (simp; done) | (simp; omega))) <| .cons rfl rfl <| .cons rfl rfl <| .nil)) (.nil) rfl rfl

theorem dcode_PutDots_o_ok (l1 : List TDot) (row2 : List Int) (r0 : List Int) (h : (dcode_PutDots_o l1 row2).wp (· = r0)) : PObj Try.prog 27 [.ref 100 0, .d (.sl (List.map TDot.e l1))] [(100, .cells 47 [.row 101 (List.length row2)]), (101, .row 5 1 (List.map (eK .u8) row2))] [100] (.tup []) (fun _ : Unit => [(100, .cells 47 [.row 101 (List.length r0)]), (101, .row 5 1 (List.map (eK .u8) r0))]) := by
  refine PObj.intro (sl := [(0, _), (1, _)]) Try.func27 rfl Try.ntmps27 rfl rfl rfl ?_
  intro ctx hK pv
  refine PWc.seq ?_
  refine PWc.region ?_
  refine PWl.step (LR.assignNilRow 38 2 rfl) rfl ?_
  refine PWl.nil ?_
  refine PWc.seq ?_
  refine PWc.seq ?_
  refine PWc.region ?_
  refine PWl.step (LR.move rfl) rfl ?_
  refine PWl.step (LR.lenMap (enc := TDot.e) (L := l1) Try.underlying39 rfl) rfl ?_
  refine PWl.step (LR.move rfl) rfl ?_
  refine PWl.nil ?_
  refine PWc.jn (iBind h) (fun (some3 : List TDot) (_ : Unit) => ⟨39, [(0, .ref 100 0), (4, .row 4 (List.length some3))], [(4, .row 38 2 (List.map TDot.e some3)), (100, .cells 47 [.row 101 (List.length row2)]), (101, .row 5 1 (List.map (eK .u8) row2)), (1100, .pin 100 (pv 100).1 (pv 100).2)]⟩) (fun h => ?_) ?_
  · refine PWc.block ?_
    refine PWc.loopM (fun (⟨v22, some23⟩ : Int × List TDot) (_ : Unit) => ⟨39, [(0, .ref 100 0), (4, .row 4 (List.length some23)), (9, .d (.sl (List.map TDot.e l1))), (10, .d (.v (.int .i64 (List.length l1 : Int)))), (11, .d (.v (.int .i64 v22)))], [(4, .row 38 2 (List.map TDot.e some23)), (100, .cells 47 [.row 101 (List.length row2)]), (101, .row 5 1 (List.map (eK .u8) row2)), (1100, .pin 100 (pv 100).1 (pv 100).2)]⟩) () h (Sub.of rfl (.cons rfl rfl <| .cons rfl rfl <| .cons rfl rfl <| .cons rfl rfl <| .cons rfl rfl <| .nil) (.cons rfl rfl <| .cons rfl rfl <| .cons rfl rfl <| .cons rfl rfl <| .nil)) ?_
    rintro N ⟨v22, some23⟩ _ h
    refine PWc.seq ?_
    refine PWc.region ?_
    refine PWl.step (LR.lss rfl rfl) rfl ?_
    refine PWl.nil ?_
    refine PWc.seq ?_
    refine PWc.cond rfl (fun hc24 => ?_) (fun hc24 => ?_)
    · replace h := iT hc24 h
      refine PWc.skip ?_
      refine PWc.seq ?_
      refine PWc.jn (iBind h) (fun (some25 : List TDot) (_ : Unit) => ⟨39, [(0, .ref 100 0), (4, .row 4 (List.length some25)), (9, .d (.sl (List.map TDot.e l1))), (10, .d (.v (.int .i64 (List.length l1 : Int)))), (11, .d (.v (.int .i64 v22)))], [(4, .row 38 2 (List.map TDot.e some25)), (100, .cells 47 [.row 101 (List.length row2)]), (101, .row 5 1 (List.map (eK .u8) row2)), (1100, .pin 100 (pv 100).1 (pv 100).2)]⟩) (fun h => ?_) ?_
      · refine PWc.block ?_
        refine PWc.seq ?_
        refine PWc.region ?_
        replace h := iIdx h
        obtain ⟨x26, hy27, h⟩ := h
        refine PWl.step (LR.idxT (enc := TDot.e) (L := l1) (y := x26) Try.underlying39 Try.sizeOf38 rfl rfl hy27 (fun _ => rfl)) rfl ?_
        refine PWl.step (LR.loadEpAgg (ys := [_, _]) Try.isAgg38 Try.sizeOf38 rfl rfl rfl) rfl ?_
        refine PWl.step (LR.allocZ (cs := [_, _]) Try.zeroValue38 rfl rfl rfl rfl) rfl ?_
        refine PWl.step (LR.storeB (ns := [_, _]) Try.sizeOf38 rfl rfl rfl rfl rfl rfl rfl) rfl ?_
        refine PWl.nil ?_
        refine PWc.seq ?_
        refine PWc.region ?_
        refine PWl.step (LR.loadRefAgg (ps := [_, _]) Try.isAgg38 Try.sizeOf38 rfl rfl rfl rfl) rfl ?_
        replace h := iDet h
        obtain ⟨v28, hy29, h⟩ := h
        refine PWl.step (LR.callN (dot_Good_ok x26 v28 hy29) rfl Try.call82 rfl rfl rfl rfl) rfl ?_
        refine PWl.nil ?_
        refine PWc.cond rfl (fun hc30 => ?_) (fun hc30 => ?_)
        · replace h := iT hc30 h
          refine PWc.region ?_
          refine PWl.step (LR.move rfl) rfl ?_
          refine PWl.step (LR.loadRefAgg (ps := [_, _]) Try.isAgg38 Try.sizeOf38 rfl rfl rfl rfl) rfl ?_
          refine PWl.step (LR.buildSliceD [.tmp 18] elem39 rfl rfl (.cons rfl rfl rfl <| .nil) (by decide) (by decide)) rfl ?_
          replace h := iNeed h
          obtain ⟨hy31, h⟩ := h
          refine PWl.step (LR.appT (enc := TDot.e) (L := some23) (R := [x26]) [4, 17] elem39 Try.underlying39 rfl rfl rfl (Src.slT (enc := TDot.e) (R := [x26]) rfl (fun _ => rfl)) (fun _ => rfl) hy31 rfl rfl) rfl ?_
          refine PWl.step (LR.assign rfl) rfl ?_
          refine PWl.nil ?_
          exact ⟨(some23 ++ [x26]), (), h, Sub.of rfl (.cons rfl rfl <| .cons rfl rfl <| .cons rfl rfl <| .cons rfl rfl <| .cons rfl rfl <| .nil) (.cons rfl rfl <| .cons rfl rfl <| .cons rfl rfl <| .cons rfl rfl <| .nil)⟩
        · replace h := iF hc30 h
          refine PWc.skip ?_
          exact ⟨some23, (), h, Sub.of rfl (.cons rfl rfl <| .cons rfl rfl <| .cons rfl rfl <| .cons rfl rfl <| .cons rfl rfl <| .nil) (.cons rfl rfl <| .cons rfl rfl <| .cons rfl rfl <| .cons rfl rfl <| .nil)⟩
      · rintro some25 _ h
        refine PWc.region ?_
        refine PWl.step (LR.addW rfl rfl) rfl ?_
        refine PWl.step (LR.move rfl) rfl ?_
        refine PWl.nil ?_
        exact ⟨((IntKind.i64.wrap (v22 + 1)), some25), (), h, Sub.of rfl (.cons rfl rfl <| .cons rfl rfl <| .cons rfl rfl <| .cons rfl rfl <| .cons rfl rfl <| .nil) (.cons rfl rfl <| .cons rfl rfl <| .cons rfl rfl <| .cons rfl rfl <| .nil)⟩
    · replace h := iF hc24 h
      refine PWc.exit ?_
      exact ⟨some23, (), h, Sub.of rfl (.cons rfl rfl <| .cons rfl rfl <| .nil) (.cons rfl rfl <| .cons rfl rfl <| .cons rfl rfl <| .cons rfl rfl <| .nil)⟩
  · rintro some3 _ h
    refine PWc.seq ?_
    refine PWc.region ?_
    refine PWl.step (LR.move rfl) rfl ?_
    replace h := iDet h
    obtain ⟨v32, hy33, h⟩ := h
    refine PWl.frz [4, 22] hK (.cons rfl <| .cons rfl <| .nil) rfl (by simp) ?_
    refine PWl.step (LR.rowN (dot_Sort_ok some3 v32 hy33) rfl Try.call83 rfl rfl rfl rfl) rfl ?_
    refine PWl.step (LR.assign rfl) rfl ?_
    refine PWl.nil ?_
    refine PWc.seq ?_
    refine PWc.region ?_
    refine PWl.step (LR.move rfl) rfl ?_
    refine PWl.step (LR.move rfl) rfl ?_
    refine PWl.step (LR.lenRow Try.underlying39 rfl) rfl ?_
    refine PWl.step (LR.convInt Try.underlying36 (by rw [Try.underlying3]; rfl) rfl rfl) rfl ?_
    replace h := iDet h
    obtain ⟨y34, hy35, h⟩ := h
    refine PWl.step (LR.callObj [(100, 100), (101, 101)] [] [100, 101] (pack_Writer_Num_o_ok ((IntKind.u64.wrap ((List.length v32) : Int))) row2 y34 hy35) hK rfl Try.call81 rfl (by first | rfl | (simp; done) | (simp [PV.nilD, PV.ren, rn]; omega)) (.cons (by first | rfl | (congr 1; first | (simp; done) | (simp; omega))) <| .cons (by first | rfl | (congr 1; first | (simp; done) | (simp; omega))) <| .nil) rfl rfl rfl rfl) rfl ?_
    refine PWl.nil ?_
    refine PWc.seq ?_
    refine PWc.re (tl := [(0, _), (4, _)]) (to := [(23, _), (100, _), (101, _), (1100, _)]) rfl (.cons rfl rfl <| .cons rfl rfl <| .nil) (.cons rfl rfl <| .cons rfl rfl <| .cons rfl rfl <| .cons rfl rfl <| .nil) ?_
    refine PWc.region ?_
    refine PWl.step (LR.move rfl) rfl ?_
    refine PWl.step (LR.lenRow Try.underlying39 rfl) rfl ?_
    refine PWl.step (LR.move rfl) rfl ?_
    refine PWl.nil ?_
    refine PWc.block ?_
    refine PWc.loopM (fun (⟨v48, v49⟩ : Int × List Int) (_ : Unit) => ⟨39, [(0, .ref 100 0), (29, .row 23 (List.length v32)), (30, .d (.v (.int .i64 ((List.length v32) : Int)))), (31, .d (.v (.int .i64 v48)))], [(23, .row 38 2 (List.map TDot.e v32)), (100, .cells 47 [.row 101 (List.length v49)]), (101, .row 5 1 (List.map (eK .u8) v49)), (1100, .pin 100 (pv 100).1 (pv 100).2)]⟩) () h (Sub.of rfl (.cons rfl rfl <| .cons rfl rfl <| .cons rfl rfl <| .cons rfl rfl <| .nil) (.cons rfl rfl <| .cons rfl rfl <| .cons rfl rfl <| .cons rfl rfl <| .nil)) ?_
    rintro N ⟨v48, v49⟩ _ h
    refine PWc.seq ?_
    refine PWc.region ?_
    refine PWl.step (LR.lss rfl rfl) rfl ?_
    refine PWl.nil ?_
    refine PWc.seq ?_
    refine PWc.cond rfl (fun hc50 => ?_) (fun hc50 => ?_)
    · replace h := iT hc50 h
      refine PWc.skip ?_
      refine PWc.seq ?_
      refine PWc.block ?_
      refine PWc.seq ?_
      refine PWc.region ?_
      replace h := iIdx h
      obtain ⟨x51, hy52, h⟩ := h
      refine PWl.step (LR.idxRowT (L := v32) (y := x51) Try.underlying39 Try.sizeOf38 rfl rfl rfl hy52) rfl ?_
      refine PWl.step (LR.loadRpT (enc := TDot.e) (L := v32) (y := x51) Try.isAgg38 Try.sizeOf38 rfl rfl hy52.2) rfl ?_
      refine PWl.step (LR.allocZ (cs := [_, _]) Try.zeroValue38 rfl rfl rfl rfl) rfl ?_
      refine PWl.step (LR.storeB (ns := [_, _]) Try.sizeOf38 rfl rfl rfl rfl rfl rfl rfl) rfl ?_
      refine PWl.nil ?_
      refine PWc.region ?_
      refine PWl.step (LR.move rfl) rfl ?_
      refine PWl.step (LR.loadRefAgg (ps := [_, _]) Try.isAgg38 Try.sizeOf38 rfl rfl rfl rfl) rfl ?_
      replace h := iDet h
      obtain ⟨y53, hy54, h⟩ := h
      refine PWl.step (LR.callObj [(100, 100), (101, 101)] [] [100, 101] (dcode_PutDot_o_ok x51 v49 y53 hy54) hK rfl Try.call26 rfl (by first | rfl | (simp; done) | (simp [PV.nilD, PV.ren, rn]; omega)) (.cons (by first | rfl | (congr 1; first | (simp; done) | (simp; omega))) <| .cons (by first | rfl | (congr 1; first | (simp; done) | (simp; omega))) <| .nil) rfl rfl rfl rfl) rfl ?_
      refine PWl.nil ?_
      refine PWc.re (tl := [(0, _), (29, _), (30, _), (31, _)]) (to := [(23, _), (100, _), (101, _), (1100, _)]) rfl (.cons rfl rfl <| .cons rfl rfl <| .cons rfl rfl <| .cons rfl rfl <| .nil) (.cons rfl rfl <| .cons rfl rfl <| .cons rfl rfl <| .cons rfl rfl <| .nil) ?_
      refine PWc.region ?_
      refine PWl.step (LR.addW rfl rfl) rfl ?_
      refine PWl.step (LR.move rfl) rfl ?_
      refine PWl.nil ?_
      exact ⟨((IntKind.i64.wrap (v48 + 1)), y53), (), h, Sub.of rfl (.cons rfl rfl <| .cons rfl rfl <| .cons rfl rfl <| .cons rfl rfl <| .nil) (.cons rfl rfl <| .cons rfl rfl <| .cons rfl rfl <| .cons rfl rfl <| .nil)⟩
    · replace h := iF hc50 h
      refine PWc.exit ?_
      replace h : _ = r0 := h
      subst h
      exact EndsO.mk () (.inl rfl) (Sub.of (tl := []) (to := [(100, _), (101, _), (1100, _)]) rfl (.nil) (.cons rfl (by first | rfl | (congr 1; congr 2; first | (simp; done) | (simp; omega))) <| .cons rfl rfl <| .cons rfl rfl <| .nil)) (.nil) rfl rfl

theorem l15_DcodeWrites_ok (d1 : TDot) (l2 : List TDot) (c3 : List TPart) (r0 : Bool) (h : (l15_DcodeWrites d1 l2 c3).wp (· = r0)) : PFun Try.prog 5 [.agg (List.map .d (TDot.e d1)), .d (.sl (List.map TDot.e l2)), .d (.sl (List.map TPart.e c3))] (.d (.v (.bool r0))) := by
  refine PFun.intro (sl := [(0, _), (1, _), (2, _)]) Try.func5 rfl Try.ntmps5 rfl rfl ?_
  intro ctx hK
  refine PWc.seq ?_
  refine PWc.region ?_
  refine PWl.step (LR.box rfl rfl rfl rfl) rfl ?_
  refine PWl.step (LR.assign rfl) rfl ?_
  refine PWl.nil ?_
  refine PWc.seq ?_
  refine PWc.seq ?_
  refine PWc.jn (iBind h) (fun (v4 : Bool) (_ : Unit) => ⟨51, [(1, .d (.sl (List.map TDot.e l2))), (2, .d (.sl (List.map TPart.e c3))), (3, .ref 3 0), (17, .d (.v (.bool v4)))], [(3, .cells 38 [.d (.v (.int .u16 d1.dev)), .d (.v (.int .u64 d1.n))])]⟩) (fun h => ?_) ?_
  · refine PWc.region ?_
    refine PWl.step (LR.move rfl) rfl ?_
    refine PWl.step (LR.lenMap (enc := TDot.e) (L := l2) Try.underlying39 rfl) rfl ?_
    refine PWl.step (LR.gtr rfl rfl) rfl ?_
    refine PWl.step (LR.move rfl) rfl ?_
    refine PWl.split (d := 13) rfl (fun hg5 => ?_) (fun hg5 => ?_)
    · replace h := iT hg5 h
      refine PWl.guardF rfl rfl rfl (by decide) ?_
      refine PWl.guardF rfl rfl rfl (by decide) ?_
      refine PWl.guardF rfl rfl rfl (by decide) ?_
      refine PWl.step (LR.pickT rfl rfl) rfl ?_
      refine PWl.nil ?_
      exact ⟨true, (), h, Sub.of rfl (.cons rfl rfl <| .cons rfl rfl <| .cons rfl rfl <| .cons rfl rfl <| .nil) (.cons rfl rfl <| .nil)⟩
    · replace h := iF hg5 h
      refine PWl.guardT (LR.move rfl) rfl rfl rfl ?_
      replace h := iDet h
      obtain ⟨v6, hy7, h⟩ := h
      refine PWl.guardT (LR.callN (r09_Few_ok c3 v6 hy7) rfl Try.call13 rfl rfl rfl rfl) rfl rfl rfl ?_
      refine PWl.guardT (LR.not rfl) rfl rfl rfl ?_
      refine PWl.step (LR.pickF rfl rfl) rfl ?_
      refine PWl.nil ?_
      exact ⟨(!v6), (), h, Sub.of rfl (.cons rfl rfl <| .cons rfl rfl <| .cons rfl rfl <| .cons rfl rfl <| .nil) (.cons rfl rfl <| .nil)⟩
  · rintro v4 _ h
    refine PWc.cond rfl (fun hc8 => ?_) (fun hc8 => ?_)
    · replace h := iT hc8 h
      refine PWc.seq ?_
      refine PWc.region ?_
      replace h := iDet h
      obtain ⟨v9, hy10, h⟩ := h
      refine PWl.step (LR.callN (l15_works_ok v9 hy10) rfl Try.call25 rfl rfl rfl rfl) rfl ?_
      refine PWl.step (LR.assign rfl) rfl ?_
      refine PWl.nil ?_
      refine PWc.ret ?_
      replace h : _ = r0 := h
      subst h
      exact ⟨.inr rfl, _, .cons (.tmp rfl rfl) <| .nil, rfl⟩
    · replace h := iF hc8 h
      refine PWc.skip ?_
      refine PWc.seq ?_
      refine PWc.region ?_
      refine PWl.step (LR.allocR (cs := [_]) Try.zeroValue47 rfl rfl rfl rfl) rfl ?_
      refine PWl.sub (Sub.ownNil (id := 7) (j := 0) (id' := 30140) (e := 5) (k := 1) rfl rfl rfl rfl) ?_
      refine PWl.step (LR.allocR (cs := [_]) Try.zeroValue47 rfl rfl rfl rfl) rfl ?_
      refine PWl.sub (Sub.ownNil (id := 8) (j := 0) (id' := 30160) (e := 5) (k := 1) rfl rfl rfl rfl) ?_
      refine PWl.re (tl := [(1, _), (2, _), (3, _), (7, _), (8, _)]) (to := [(3, _), (7, _), (8, _), (30140, _), (30160, _)]) rfl (.cons rfl rfl <| .cons rfl rfl <| .cons rfl rfl <| .cons rfl rfl <| .cons rfl rfl <| .nil) (.cons rfl rfl <| .cons rfl rfl <| .cons rfl rfl <| .cons rfl rfl <| .cons rfl rfl <| .nil) ?_
      refine PWl.step (LR.allocR (cs := [_]) Try.zeroValue47 rfl rfl rfl rfl) rfl ?_
      refine PWl.sub (Sub.ownNil (id := 9) (j := 0) (id' := 30180) (e := 5) (k := 1) rfl rfl rfl rfl) ?_
      refine PWl.nil ?_
      refine PWc.seq ?_
      refine PWc.re (tl := [(1, _), (2, _), (3, _), (7, _), (8, _), (9, _)]) (to := [(3, _), (7, _), (8, _), (9, _), (30140, _), (30160, _), (30180, _)]) rfl (.cons rfl rfl <| .cons rfl rfl <| .cons rfl rfl <| .cons rfl rfl <| .cons rfl rfl <| .cons rfl rfl <| .nil) (.cons rfl rfl <| .cons rfl rfl <| .cons rfl rfl <| .cons rfl rfl <| .cons rfl rfl <| .cons rfl rfl <| .cons rfl rfl <| .nil) ?_
      refine PWc.region ?_
      refine PWl.step (LR.loadRefAgg (ps := [_, _]) Try.isAgg38 Try.sizeOf38 rfl rfl rfl rfl) rfl ?_
      replace h := iDet h
      obtain ⟨y11, hy12, h⟩ := h
      refine PWl.step (LR.callObj [(100, 7), (101, 30140)] [] [100, 101] (dcode_PutDot_o_ok d1 ([] : List Int) y11 hy12) hK rfl Try.call26 rfl (by first | rfl | (simp; done) | (simp [PV.nilD, PV.ren, rn]; omega)) (.cons (by first | rfl | (congr 1; first | (simp; done) | (simp; omega))) <| .cons (by first | rfl | (congr 1; first | (simp; done) | (simp; omega))) <| .nil) rfl rfl rfl rfl) rfl ?_
      refine PWl.nil ?_
      refine PWc.seq ?_
      refine PWc.re (tl := [(1, _), (2, _), (3, _), (7, _), (8, _), (9, _)]) (to := [(3, _), (7, _), (8, _), (9, _), (30140, _), (30160, _), (30180, _)]) rfl (.cons rfl rfl <| .cons rfl rfl <| .cons rfl rfl <| .cons rfl rfl <| .cons rfl rfl <| .cons rfl rfl <| .nil) (.cons rfl rfl <| .cons rfl rfl <| .cons rfl rfl <| .cons rfl rfl <| .cons rfl rfl <| .cons rfl rfl <| .cons rfl rfl <| .nil) ?_
      refine PWc.region ?_
      refine PWl.step (LR.move rfl) rfl ?_
      replace h := iDet h
      obtain ⟨y13, hy14, h⟩ := h
      refine PWl.step (LR.callObj [(100, 8), (101, 30160)] [] [100, 101] (dcode_PutDots_o_ok l2 ([] : List Int) y13 hy14) hK rfl Try.call27 rfl (by first | rfl | (simp; done) | (simp [PV.nilD, PV.ren, rn]; omega)) (.cons (by first | rfl | (congr 1; first | (simp; done) | (simp; omega))) <| .cons (by first | rfl | (congr 1; first | (simp; done) | (simp; omega))) <| .nil) rfl rfl rfl rfl) rfl ?_
      refine PWl.nil ?_
      refine PWc.seq ?_
      refine PWc.re (tl := [(1, _), (2, _), (3, _), (7, _), (8, _), (9, _)]) (to := [(3, _), (7, _), (8, _), (9, _), (30140, _), (30160, _), (30180, _)]) rfl (.cons rfl rfl <| .cons rfl rfl <| .cons rfl rfl <| .cons rfl rfl <| .cons rfl rfl <| .cons rfl rfl <| .nil) (.cons rfl rfl <| .cons rfl rfl <| .cons rfl rfl <| .cons rfl rfl <| .cons rfl rfl <| .cons rfl rfl <| .cons rfl rfl <| .nil) ?_
      refine PWc.region ?_
      refine PWl.step (LR.move rfl) rfl ?_
      replace h := iDet h
      obtain ⟨y15, hy16, h⟩ := h
      refine PWl.step (LR.callObj [(100, 9), (101, 30180)] [] [100, 101] (dcode_PutCtx_o_ok c3 ([] : List Int) y15 hy16) hK rfl Try.call28 rfl (by first | rfl | (simp; done) | (simp [PV.nilD, PV.ren, rn]; omega)) (.cons (by first | rfl | (congr 1; first | (simp; done) | (simp; omega))) <| .cons (by first | rfl | (congr 1; first | (simp; done) | (simp; omega))) <| .nil) rfl rfl rfl rfl) rfl ?_
      refine PWl.nil ?_
      refine PWc.seq ?_
      refine PWc.re (tl := [(1, _), (2, _), (3, _), (7, _), (8, _), (9, _)]) (to := [(3, _), (7, _), (8, _), (9, _), (30140, _), (30160, _), (30180, _)]) rfl (.cons rfl rfl <| .cons rfl rfl <| .cons rfl rfl <| .cons rfl rfl <| .cons rfl rfl <| .cons rfl rfl <| .nil) (.cons rfl rfl <| .cons rfl rfl <| .cons rfl rfl <| .cons rfl rfl <| .cons rfl rfl <| .cons rfl rfl <| .cons rfl rfl <| .nil) ?_
      refine PWc.jn (iBind h) (fun (v17 : Bool) (_ : Unit) => ⟨51, [(6, .d (.v (.bool v17)))], []⟩) (fun h => ?_) ?_
      · refine PWc.regionE [⟨[25], [7, 30140], [7, 30140], [], [(30140, [])], [], [30140], [7, 30140]⟩, ⟨[26], [], [3], [], [], [], [], []⟩, ⟨[27], [], [], [], [], [], [], []⟩, ⟨[28], [], [], [], [], [], [], []⟩, ⟨[29], [], [], [], [], [], [], []⟩, ⟨[30], [8, 30160], [8, 30160], [], [(30160, [])], [], [30160], [8, 30160]⟩, ⟨[31], [], [], [], [], [], [], []⟩, ⟨[32], [], [], [], [], [], [], []⟩, ⟨[33], [], [], [], [], [], [], []⟩, ⟨[34], [], [], [], [], [], [], []⟩, ⟨[35], [], [], [], [], [], [], []⟩, ⟨[36], [9, 30180], [9, 30180], [], [(30180, [])], [], [30180], [9, 30180]⟩, ⟨[37], [], [], [], [], [], [], []⟩, ⟨[38], [], [], [], [], [], [], []⟩, ⟨[39], [], [], [], [], [], [], []⟩, ⟨[40], [], [], [], [], [], [], []⟩, ⟨[41], [], [], [], [], [], [], []⟩, ⟨[42], [], [], [], [], [], [], []⟩, ⟨[43], [], [], [], [], [], [], []⟩, ⟨[44], [], [], [], [], [], [], []⟩, ⟨[45], [], [], [], [], [], [], []⟩, ⟨[46], [], [], [], [], [], [], []⟩, ⟨[47], [], [], [], [], [], [], []⟩, ⟨[48], [], [], [], [], [], [], []⟩, ⟨[49], [], [], [], [], [], [], []⟩, ⟨[50], [], [], [], [], [], [], []⟩, ⟨[6], [], [], [], [], [], [], []⟩] (by kernel_rfl) (by kernel_rfl) rfl ?_
        replace h := iDet h
        obtain ⟨y18, hy19, h⟩ := h
        refine PQe.callObj [(100, 7), (101, 30140)] [] [100, 101] (pack_Writer_Bytes_o_ok y11 y18 hy19) hK (fun _ he => ⟨he rfl rfl, evsE he rfl rfl⟩) Try.call30 (by first | rfl | (simp; done) | (simp [PV.nilD, PV.ren, rn]; omega)) (.cons (by first | rfl | (congr 1; first | (simp; done) | (simp; omega))) <| .cons (by first | rfl | (congr 1; first | (simp; done) | (simp; omega))) <| .nil) rfl rfl rfl rfl (.inl rfl) rfl ?_
        refine PQe.stepP (fun _ he ho => LR.loadRefAgg (ps := [_, _]) Try.isAgg38 Try.sizeOf38 (he rfl rfl) (ho rfl rfl) rfl rfl) (.inl rfl) rfl ?_
        replace h := iDet h
        obtain ⟨v20, hy21, h⟩ := h
        refine PQe.stepP (fun _ he ho => LR.callN (PRow.fun (r15_PutDot_ok ([] : List Int) d1 v20 hy21)) (he rfl rfl) Try.call31 (evsE he rfl rfl) rfl rfl rfl) (.inl rfl) rfl ?_
        replace h := iDet h
        obtain ⟨v22, hy23, h⟩ := h
        refine PQe.stepP (fun _ he ho => LR.callN (l15_equal_ok y18.1 v20 v22 hy23) (he rfl rfl) Try.call29 (evsE he rfl rfl) rfl rfl rfl) (.inl rfl) rfl ?_
        refine PQe.stepP (fun _ he ho => LR.move (he rfl rfl)) (.inl rfl) rfl ?_
        refine PQe.split (d := 29) rfl (fun hg24 => ?_) (fun hg24 => ?_)
        · replace h := iT hg24 h
          replace h := iDet h
          obtain ⟨y25, hy26, h⟩ := h
          refine PQe.callObj [(100, 8), (101, 30160)] [] [100, 101] (pack_Writer_Bytes_o_ok y13 y25 hy26) hK (fun _ he => ⟨he rfl rfl, evsE he rfl rfl⟩) Try.call30 (by first | rfl | (simp; done) | (simp [PV.nilD, PV.ren, rn]; omega)) (.cons (by first | rfl | (congr 1; first | (simp; done) | (simp; omega))) <| .cons (by first | rfl | (congr 1; first | (simp; done) | (simp; omega))) <| .nil) rfl rfl rfl rfl (.inr ⟨_, _, _, rfl, rfl, rfl⟩) rfl ?_
          refine PQe.stepP (fun _ he ho => LR.move (he rfl rfl)) (.inr ⟨_, _, _, rfl, rfl, rfl⟩) rfl ?_
          replace h := iDet h
          obtain ⟨v27, hy28, h⟩ := h
          refine PQe.stepP (fun _ he ho => LR.callN (r15_PutDots_ok ([] : List Int) l2 v27 hy28) (he rfl rfl) Try.call32 (evsE he rfl rfl) rfl rfl rfl) (.inr ⟨_, _, _, rfl, rfl, rfl⟩) rfl ?_
          replace h := iDet h
          obtain ⟨v29, hy30, h⟩ := h
          refine PQe.stepP (fun _ he ho => LR.callN (l15_equal_ok y25.1 v27 v29 hy30) (he rfl rfl) Try.call29 (evsE he rfl rfl) rfl rfl rfl) (.inr ⟨_, _, _, rfl, rfl, rfl⟩) rfl ?_
          refine PQe.stepP (fun _ he ho => LR.pickT (he rfl rfl) (he rfl rfl)) (.inl rfl) rfl ?_
          refine PQe.stepP (fun _ he ho => LR.move (he rfl rfl)) (.inl rfl) rfl ?_
          refine PQe.split (d := 35) rfl (fun hg31 => ?_) (fun hg31 => ?_)
          · replace h := iT hg31 h
            replace h := iDet h
            obtain ⟨y32, hy33, h⟩ := h
            refine PQe.callObj [(100, 9), (101, 30180)] [] [100, 101] (pack_Writer_Bytes_o_ok y15 y32 hy33) hK (fun _ he => ⟨he rfl rfl, evsE he rfl rfl⟩) Try.call30 (by first | rfl | (simp; done) | (simp [PV.nilD, PV.ren, rn]; omega)) (.cons (by first | rfl | (congr 1; first | (simp; done) | (simp; omega))) <| .cons (by first | rfl | (congr 1; first | (simp; done) | (simp; omega))) <| .nil) rfl rfl rfl rfl (.inr ⟨_, _, _, rfl, rfl, rfl⟩) rfl ?_
            refine PQe.stepP (fun _ he ho => LR.move (he rfl rfl)) (.inr ⟨_, _, _, rfl, rfl, rfl⟩) rfl ?_
            replace h := iDet h
            obtain ⟨v34, hy35, h⟩ := h
            refine PQe.stepP (fun _ he ho => LR.callN (r15_PutCtx_ok ([] : List Int) c3 v34 hy35) (he rfl rfl) Try.call33 (evsE he rfl rfl) rfl rfl rfl) (.inr ⟨_, _, _, rfl, rfl, rfl⟩) rfl ?_
            replace h := iDet h
            obtain ⟨v36, hy37, h⟩ := h
            refine PQe.stepP (fun _ he ho => LR.callN (l15_equal_ok y32.1 v34 v36 hy37) (he rfl rfl) Try.call29 (evsE he rfl rfl) rfl rfl rfl) (.inr ⟨_, _, _, rfl, rfl, rfl⟩) rfl ?_
            refine PQe.stepP (fun _ he ho => LR.pickT (he rfl rfl) (he rfl rfl)) (.inl rfl) rfl ?_
            refine PQe.stepP (fun _ he ho => LR.move (he rfl rfl)) (.inl rfl) rfl ?_
            refine PQe.split (d := 41) rfl (fun hg38 => ?_) (fun hg38 => ?_)
            · replace h := iT hg38 h
              refine PQe.stepP (fun _ he ho => LR.move (he rfl rfl)) (.inr ⟨_, _, _, rfl, rfl, rfl⟩) rfl ?_
              replace h := iDet h
              obtain ⟨v39, hy40, h⟩ := h
              refine PQe.stepP (fun _ he ho => LR.callN (dcode_Encode_ok c3 v39 hy40) (he rfl rfl) Try.call34 (evsE he rfl rfl) rfl rfl rfl) (.inr ⟨_, _, _, rfl, rfl, rfl⟩) rfl ?_
              refine PQe.stepP (fun _ he ho => LR.move (he rfl rfl)) (.inr ⟨_, _, _, rfl, rfl, rfl⟩) rfl ?_
              replace h := iDet h
              obtain ⟨v41, hy42, h⟩ := h
              refine PQe.stepP (fun _ he ho => LR.callN (r15_PutCtx_ok ([] : List Int) c3 v41 hy42) (he rfl rfl) Try.call33 (evsE he rfl rfl) rfl rfl rfl) (.inr ⟨_, _, _, rfl, rfl, rfl⟩) rfl ?_
              replace h := iDet h
              obtain ⟨v43, hy44, h⟩ := h
              refine PQe.stepP (fun _ he ho => LR.callN (l15_equal_ok v39 v41 v43 hy44) (he rfl rfl) Try.call29 (evsE he rfl rfl) rfl rfl rfl) (.inr ⟨_, _, _, rfl, rfl, rfl⟩) rfl ?_
              refine PQe.stepP (fun _ he ho => LR.pickT (he rfl rfl) (he rfl rfl)) (.inl rfl) rfl ?_
              refine PQe.stepP (fun _ he ho => LR.move (he rfl rfl)) (.inl rfl) rfl ?_
              refine PQe.split (d := 48) rfl (fun hg45 => ?_) (fun hg45 => ?_)
              · replace h := iT hg45 h
                replace h := iDet h
                obtain ⟨v46, hy47, h⟩ := h
                refine PQe.stepP (fun _ he ho => LR.callN (l15_works_ok v46 hy47) (he rfl rfl) Try.call25 (evsE he rfl rfl) rfl rfl rfl) (.inr ⟨_, _, _, rfl, rfl, rfl⟩) rfl ?_
                refine PQe.stepP (fun _ he ho => LR.pickT (he rfl rfl) (he rfl rfl)) (.inl rfl) rfl ?_
                refine PQe.stepP (fun _ he ho => LR.assign (he rfl rfl)) (.inl rfl) rfl ?_
                refine PQe.nil ?_
                exact ⟨v46, (), h, Sub.of rfl (.cons rfl rfl <| .nil) (.nil)⟩
              · replace h := iF hg45 h
                refine PQe.skipP (.inl ⟨_, _, _, _, rfl, rfl, rfl, by decide⟩) rfl ?_
                refine PQe.stepP (fun _ he ho => LR.pickF (he rfl rfl) (he rfl rfl)) (.inl rfl) rfl ?_
                refine PQe.stepP (fun _ he ho => LR.assign (he rfl rfl)) (.inl rfl) rfl ?_
                refine PQe.nil ?_
                exact ⟨false, (), h, Sub.of rfl (.cons rfl rfl <| .nil) (.nil)⟩
            · replace h := iF hg38 h
              refine PQe.skipP (.inl ⟨_, _, _, _, rfl, rfl, rfl, by decide⟩) rfl ?_
              refine PQe.skipP (.inl ⟨_, _, _, _, rfl, rfl, rfl, by decide⟩) rfl ?_
              refine PQe.skipP (.inl ⟨_, _, _, _, rfl, rfl, rfl, by decide⟩) rfl ?_
              refine PQe.skipP (.inl ⟨_, _, _, _, rfl, rfl, rfl, by decide⟩) rfl ?_
              refine PQe.skipP (.inl ⟨_, _, _, _, rfl, rfl, rfl, by decide⟩) rfl ?_
              refine PQe.stepP (fun _ he ho => LR.pickF (he rfl rfl) (he rfl rfl)) (.inl rfl) rfl ?_
              refine PQe.stepP (fun _ he ho => LR.move (he rfl rfl)) (.inl rfl) rfl ?_
              refine PQe.skipP (.inl ⟨_, _, _, _, rfl, rfl, rfl, by decide⟩) rfl ?_
              refine PQe.stepP (fun _ he ho => LR.pickF (he rfl rfl) (he rfl rfl)) (.inl rfl) rfl ?_
              refine PQe.stepP (fun _ he ho => LR.assign (he rfl rfl)) (.inl rfl) rfl ?_
              refine PQe.nil ?_
              exact ⟨false, (), h, Sub.of rfl (.cons rfl rfl <| .nil) (.nil)⟩
          · replace h := iF hg31 h
            refine PQe.skipP (.inl ⟨_, _, _, _, rfl, rfl, rfl, by decide⟩) rfl ?_
            refine PQe.skipP (.inl ⟨_, _, _, _, rfl, rfl, rfl, by decide⟩) rfl ?_
            refine PQe.skipP (.inl ⟨_, _, _, _, rfl, rfl, rfl, by decide⟩) rfl ?_
            refine PQe.skipP (.inl ⟨_, _, _, _, rfl, rfl, rfl, by decide⟩) rfl ?_
            refine PQe.stepP (fun _ he ho => LR.pickF (he rfl rfl) (he rfl rfl)) (.inl rfl) rfl ?_
            refine PQe.stepP (fun _ he ho => LR.move (he rfl rfl)) (.inl rfl) rfl ?_
            refine PQe.skipP (.inl ⟨_, _, _, _, rfl, rfl, rfl, by decide⟩) rfl ?_
            refine PQe.skipP (.inl ⟨_, _, _, _, rfl, rfl, rfl, by decide⟩) rfl ?_
            refine PQe.skipP (.inl ⟨_, _, _, _, rfl, rfl, rfl, by decide⟩) rfl ?_
            refine PQe.skipP (.inl ⟨_, _, _, _, rfl, rfl, rfl, by decide⟩) rfl ?_
            refine PQe.skipP (.inl ⟨_, _, _, _, rfl, rfl, rfl, by decide⟩) rfl ?_
            refine PQe.stepP (fun _ he ho => LR.pickF (he rfl rfl) (he rfl rfl)) (.inl rfl) rfl ?_
            refine PQe.stepP (fun _ he ho => LR.move (he rfl rfl)) (.inl rfl) rfl ?_
            refine PQe.skipP (.inl ⟨_, _, _, _, rfl, rfl, rfl, by decide⟩) rfl ?_
            refine PQe.stepP (fun _ he ho => LR.pickF (he rfl rfl) (he rfl rfl)) (.inl rfl) rfl ?_
            refine PQe.stepP (fun _ he ho => LR.assign (he rfl rfl)) (.inl rfl) rfl ?_
            refine PQe.nil ?_
            exact ⟨false, (), h, Sub.of rfl (.cons rfl rfl <| .nil) (.nil)⟩
        · replace h := iF hg24 h
          refine PQe.skipP (.inl ⟨_, _, _, _, rfl, rfl, rfl, by decide⟩) rfl ?_
          refine PQe.skipP (.inl ⟨_, _, _, _, rfl, rfl, rfl, by decide⟩) rfl ?_
          refine PQe.skipP (.inl ⟨_, _, _, _, rfl, rfl, rfl, by decide⟩) rfl ?_
          refine PQe.skipP (.inl ⟨_, _, _, _, rfl, rfl, rfl, by decide⟩) rfl ?_
          refine PQe.stepP (fun _ he ho => LR.pickF (he rfl rfl) (he rfl rfl)) (.inl rfl) rfl ?_
          refine PQe.stepP (fun _ he ho => LR.move (he rfl rfl)) (.inl rfl) rfl ?_
          refine PQe.skipP (.inl ⟨_, _, _, _, rfl, rfl, rfl, by decide⟩) rfl ?_
          refine PQe.skipP (.inl ⟨_, _, _, _, rfl, rfl, rfl, by decide⟩) rfl ?_
          refine PQe.skipP (.inl ⟨_, _, _, _, rfl, rfl, rfl, by decide⟩) rfl ?_
          refine PQe.skipP (.inl ⟨_, _, _, _, rfl, rfl, rfl, by decide⟩) rfl ?_
          refine PQe.stepP (fun _ he ho => LR.pickF (he rfl rfl) (he rfl rfl)) (.inl rfl) rfl ?_
          refine PQe.stepP (fun _ he ho => LR.move (he rfl rfl)) (.inl rfl) rfl ?_
          refine PQe.skipP (.inl ⟨_, _, _, _, rfl, rfl, rfl, by decide⟩) rfl ?_
          refine PQe.skipP (.inl ⟨_, _, _, _, rfl, rfl, rfl, by decide⟩) rfl ?_
          refine PQe.skipP (.inl ⟨_, _, _, _, rfl, rfl, rfl, by decide⟩) rfl ?_
          refine PQe.skipP (.inl ⟨_, _, _, _, rfl, rfl, rfl, by decide⟩) rfl ?_
          refine PQe.skipP (.inl ⟨_, _, _, _, rfl, rfl, rfl, by decide⟩) rfl ?_
          refine PQe.stepP (fun _ he ho => LR.pickF (he rfl rfl) (he rfl rfl)) (.inl rfl) rfl ?_
          refine PQe.stepP (fun _ he ho => LR.move (he rfl rfl)) (.inl rfl) rfl ?_
          refine PQe.skipP (.inl ⟨_, _, _, _, rfl, rfl, rfl, by decide⟩) rfl ?_
          refine PQe.stepP (fun _ he ho => LR.pickF (he rfl rfl) (he rfl rfl)) (.inl rfl) rfl ?_
          refine PQe.stepP (fun _ he ho => LR.assign (he rfl rfl)) (.inl rfl) rfl ?_
          refine PQe.nil ?_
          exact ⟨false, (), h, Sub.of rfl (.cons rfl rfl <| .nil) (.nil)⟩
      · rintro v17 _ h
        refine PWc.ret ?_
        replace h : _ = r0 := h
        subst h
        exact ⟨.inr rfl, _, .cons (.tmp rfl rfl) <| .nil, rfl⟩
end Go.Proofs

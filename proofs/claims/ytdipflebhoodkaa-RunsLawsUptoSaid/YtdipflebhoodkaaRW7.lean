/- Walks: written by program. -/
import Derived.Test.YtdipflebhoodkaaRFc
import Derived.Test.YtdipflebhoodkaaRSh
import Derived.Test.YtdipflebhoodkaaRSx
import Derived.Test.YtdipflebhoodkaaDr
import Derived.Test.YtdipflebhoodkaaRW6
namespace Go.Proofs
open Go.Ep
set_option maxHeartbeats 1000000
set_option maxRecDepth 100000
set_option linter.unusedVariables false
set_option linter.unusedSimpArgs false


theorem runs_Minus_ok (a1 : List TRun) (b2 : List TRun) (r0 : List TRun) (h : (runs_Minus a1 b2).wp (· = r0)) : PRow Try.prog 78 [.d (.sl (List.map TRun.e a1)), .d (.sl (List.map TRun.e b2))] 40 2 (List.map TRun.e r0) := by
  refine PRow.intro (sl := [(0, _), (1, _)]) Try.func78 rfl Try.ntmps78 rfl rfl ?_
  intro ctx hK
  refine PWc.seq ?_
  refine PWc.region ?_
  refine PWl.step (LR.assignNilRow 40 2 rfl) rfl ?_
  refine PWl.nil ?_
  refine PWc.seq ?_
  refine PWc.region ?_
  refine PWl.step (LR.move rfl) rfl ?_
  refine PWl.step (LR.move rfl) rfl ?_
  replace h := iDet h
  obtain ⟨v3, hy4, h⟩ := h
  refine PWl.step (LR.rowN (runs_rest_ok b2 v3 hy4) rfl Try.call114 rfl rfl rfl rfl) rfl ?_
  replace h := iDet h
  obtain ⟨v5, hy6, h⟩ := h
  refine PWl.frz [7] hK (.cons rfl <| .nil) rfl (by simp) ?_
  refine PWl.step (LR.rowN (runs_Meet_ok a1 v3 v5 hy6) rfl Try.call77 rfl rfl rfl rfl) rfl ?_
  refine PWl.step (LR.assign rfl) rfl ?_
  refine PWl.nil ?_
  refine PWc.ret ?_
  replace h : _ = r0 := h
  subst h
  exact ⟨.inr rfl, 4, rfl, .inr ⟨8, _, rfl, (by simp), rfl⟩⟩

theorem r06_Minus_ok (a1 : List TRun) (b2 : List TRun) (r0 : List TRun) (h : (r06_Minus a1 b2).wp (· = r0)) : PRow Try.prog 79 [.d (.sl (List.map TRun.e a1)), .d (.sl (List.map TRun.e b2))] 40 2 (List.map TRun.e r0) := by
  refine PRow.intro (sl := [(0, _), (1, _)]) Try.func79 rfl Try.ntmps79 rfl rfl ?_
  intro ctx hK
  refine PWc.seq ?_
  refine PWc.region ?_
  refine PWl.step (LR.assignNilRow 40 2 rfl) rfl ?_
  refine PWl.nil ?_
  refine PWc.seq ?_
  refine PWc.region ?_
  refine PWl.step (LR.move rfl) rfl ?_
  refine PWl.step (LR.move rfl) rfl ?_
  replace h := iDet h
  obtain ⟨v3, hy4, h⟩ := h
  refine PWl.step (LR.rowN (r06_set_ok a1 b2 2 v3 hy4) rfl Try.call91 rfl rfl rfl rfl) rfl ?_
  refine PWl.step (LR.assign rfl) rfl ?_
  refine PWl.nil ?_
  refine PWc.ret ?_
  replace h : _ = r0 := h
  subst h
  exact ⟨.inr rfl, 4, rfl, .inr ⟨7, _, rfl, (by simp), rfl⟩⟩

theorem runs_Within_ok (a1 : List TRun) (b2 : List TRun) (r0 : Bool) (h : (runs_Within a1 b2).wp (· = r0)) : PFun Try.prog 80 [.d (.sl (List.map TRun.e a1)), .d (.sl (List.map TRun.e b2))] (.d (.v (.bool r0))) := by
  refine PFun.intro (sl := [(0, _), (1, _)]) Try.func80 rfl Try.ntmps80 rfl rfl ?_
  intro ctx hK
  refine PWc.seq ?_
  refine PWc.region ?_
  refine PWl.step (LR.assign rfl) rfl ?_
  refine PWl.nil ?_
  refine PWc.seq ?_
  refine PWc.region ?_
  refine PWl.step (LR.move rfl) rfl ?_
  refine PWl.step (LR.move rfl) rfl ?_
  replace h := iDet h
  obtain ⟨v3, hy4, h⟩ := h
  refine PWl.step (LR.rowN (runs_Minus_ok a1 b2 v3 hy4) rfl Try.call78 rfl rfl rfl rfl) rfl ?_
  refine PWl.step (LR.lenRow Try.underlying29 rfl) rfl ?_
  refine PWl.step (LR.eql rfl rfl) rfl ?_
  refine PWl.step (LR.assign rfl) rfl ?_
  refine PWl.nil ?_
  refine PWc.ret ?_
  replace h : _ = r0 := h
  subst h
  exact ⟨.inr rfl, _, .cons (.tmp rfl rfl) <| .nil, rfl⟩

theorem runs_Same_ok (a1 : List TRun) (b2 : List TRun) (r0 : Bool) (h : (runs_Same a1 b2).wp (· = r0)) : PFun Try.prog 81 [.d (.sl (List.map TRun.e a1)), .d (.sl (List.map TRun.e b2))] (.d (.v (.bool r0))) := by
  refine PFun.intro (sl := [(0, _), (1, _)]) Try.func81 rfl Try.ntmps81 rfl rfl ?_
  intro ctx hK
  refine PWc.seq ?_
  refine PWc.region ?_
  refine PWl.step (LR.assign rfl) rfl ?_
  refine PWl.nil ?_
  refine PWc.seq ?_
  refine PWc.region ?_
  refine PWl.step (LR.move rfl) rfl ?_
  replace h := iDet h
  obtain ⟨v3, hy4, h⟩ := h
  refine PWl.step (LR.rowN (runs_Norm_ok a1 v3 hy4) rfl Try.call62 rfl rfl rfl rfl) rfl ?_
  refine PWl.step (LR.move rfl) rfl ?_
  replace h := iDet h
  obtain ⟨v5, hy6, h⟩ := h
  refine PWl.step (LR.rowN (runs_Norm_ok b2 v5 hy6) rfl Try.call62 rfl rfl rfl rfl) rfl ?_
  replace h := iDet h
  obtain ⟨v7, hy8, h⟩ := h
  refine PWl.frz [6] hK (.cons rfl <| .nil) rfl (by simp) ?_
  refine PWl.frz [8] hK (.cons rfl <| .nil) rfl (by simp) ?_
  refine PWl.step (LR.callN (slices_Equal_sl_Run_Run_ok v3 v5 v7 hy8) rfl Try.call109 rfl rfl rfl rfl) rfl ?_
  refine PWl.step (LR.assign rfl) rfl ?_
  refine PWl.nil ?_
  refine PWc.ret ?_
  replace h : _ = r0 := h
  subst h
  exact ⟨.inr rfl, _, .cons (.tmp rfl rfl) <| .nil, rfl⟩

theorem l06_RunsSets_ok (a1 : List TRun) (b2 : List TRun) (r0 : Bool) (h : (l06_RunsSets a1 b2).wp (· = r0)) : PFun Try.prog 14 [.d (.sl (List.map TRun.e a1)), .d (.sl (List.map TRun.e b2))] (.d (.v (.bool r0))) := by
  refine PFun.intro (sl := [(0, _), (1, _)]) Try.func14 rfl Try.ntmps14 rfl rfl ?_
  intro ctx hK
  refine PWc.seq ?_
  refine PWc.region ?_
  refine PWl.step (LR.assign rfl) rfl ?_
  refine PWl.nil ?_
  refine PWc.seq ?_
  refine PWc.seq ?_
  refine PWc.jn (iBind h) (fun (v3 : Bool) (_ : Unit) => ⟨64, [(0, .d (.sl (List.map TRun.e a1))), (1, .d (.sl (List.map TRun.e b2))), (12, .d (.v (.bool v3)))], []⟩) (fun h => ?_) ?_
  · refine PWc.region ?_
    refine PWl.step (LR.move rfl) rfl ?_
    replace h := iDet h
    obtain ⟨v4, hy5, h⟩ := h
    refine PWl.step (LR.callN (l06_few_ok a1 v4 hy5) rfl Try.call22 rfl rfl rfl rfl) rfl ?_
    refine PWl.step (LR.not rfl) rfl ?_
    refine PWl.step (LR.move rfl) rfl ?_
    refine PWl.split (d := 8) rfl (fun hg6 => ?_) (fun hg6 => ?_)
    · replace h := iT hg6 h
      refine PWl.guardF rfl rfl rfl (by decide) ?_
      refine PWl.guardF rfl rfl rfl (by decide) ?_
      refine PWl.guardF rfl rfl rfl (by decide) ?_
      refine PWl.step (LR.pickT rfl rfl) rfl ?_
      refine PWl.nil ?_
      exact ⟨true, (), h, Sub.of rfl (.cons rfl rfl <| .cons rfl rfl <| .cons rfl rfl <| .nil) (.nil)⟩
    · replace h := iF hg6 h
      refine PWl.guardT (LR.move rfl) rfl rfl rfl ?_
      replace h := iDet h
      obtain ⟨v7, hy8, h⟩ := h
      refine PWl.guardT (LR.callN (l06_few_ok b2 v7 hy8) rfl Try.call22 rfl rfl rfl rfl) rfl rfl rfl ?_
      refine PWl.guardT (LR.not rfl) rfl rfl rfl ?_
      refine PWl.step (LR.pickF rfl rfl) rfl ?_
      refine PWl.nil ?_
      exact ⟨(!v7), (), h, Sub.of rfl (.cons rfl rfl <| .cons rfl rfl <| .cons rfl rfl <| .nil) (.nil)⟩
  · rintro v3 _ h
    refine PWc.cond rfl (fun hc9 => ?_) (fun hc9 => ?_)
    · replace h := iT hc9 h
      refine PWc.seq ?_
      refine PWc.region ?_
      replace h := iDet h
      obtain ⟨v10, hy11, h⟩ := h
      refine PWl.step (LR.callN (l06_works_ok v10 hy11) rfl Try.call23 rfl rfl rfl rfl) rfl ?_
      refine PWl.step (LR.assign rfl) rfl ?_
      refine PWl.nil ?_
      refine PWc.ret ?_
      replace h : _ = r0 := h
      subst h
      exact ⟨.inr rfl, _, .cons (.tmp rfl rfl) <| .nil, rfl⟩
    · replace h := iF hc9 h
      refine PWc.skip ?_
      refine PWc.seq ?_
      refine PWc.jn (iBind h) (fun (v12 : Bool) (_ : Unit) => ⟨64, [(4, .d (.v (.bool v12)))], []⟩) (fun h => ?_) ?_
      · refine PWc.region ?_
        refine PWl.step (LR.move rfl) rfl ?_
        refine PWl.step (LR.move rfl) rfl ?_
        replace h := iDet h
        obtain ⟨v13, hy14, h⟩ := h
        refine PWl.step (LR.rowN (runs_Join_ok a1 b2 v13 hy14) rfl Try.call76 rfl rfl rfl rfl) rfl ?_
        refine PWl.step (LR.move rfl) rfl ?_
        refine PWl.step (LR.move rfl) rfl ?_
        replace h := iDet h
        obtain ⟨v15, hy16, h⟩ := h
        refine PWl.step (LR.rowN (r06_Join_ok a1 b2 v15 hy16) rfl Try.call68 rfl rfl rfl rfl) rfl ?_
        replace h := iDet h
        obtain ⟨v17, hy18, h⟩ := h
        refine PWl.frz [16] hK (.cons rfl <| .nil) rfl (by simp) ?_
        refine PWl.frz [19] hK (.cons rfl <| .nil) rfl (by simp) ?_
        refine PWl.step (LR.callN (r06_Eq_ok v13 v15 v17 hy18) rfl Try.call27 rfl rfl rfl rfl) rfl ?_
        refine PWl.step (LR.move rfl) rfl ?_
        refine PWl.split (d := 21) rfl (fun hg19 => ?_) (fun hg19 => ?_)
        · replace h := iT hg19 h
          refine PWl.guardT (LR.move rfl) rfl rfl rfl ?_
          refine PWl.guardT (LR.move rfl) rfl rfl rfl ?_
          replace h := iDet h
          obtain ⟨v20, hy21, h⟩ := h
          refine PWl.guardT (LR.rowN (runs_Meet_ok a1 b2 v20 hy21) rfl Try.call77 rfl rfl rfl rfl) rfl rfl rfl ?_
          refine PWl.guardT (LR.move rfl) rfl rfl rfl ?_
          refine PWl.guardT (LR.move rfl) rfl rfl rfl ?_
          replace h := iDet h
          obtain ⟨v22, hy23, h⟩ := h
          refine PWl.guardT (LR.rowN (r06_Meet_ok a1 b2 v22 hy23) rfl Try.call28 rfl rfl rfl rfl) rfl rfl rfl ?_
          replace h := iDet h
          obtain ⟨v24, hy25, h⟩ := h
          refine PWl.frz [24] hK (.cons rfl <| .nil) rfl (by simp) ?_
          refine PWl.frz [27] hK (.cons rfl <| .nil) rfl (by simp) ?_
          refine PWl.guardT (LR.callN (r06_Eq_ok v20 v22 v24 hy25) rfl Try.call27 rfl rfl rfl rfl) rfl rfl rfl ?_
          refine PWl.step (LR.pickT rfl rfl) rfl ?_
          refine PWl.step (LR.move rfl) rfl ?_
          refine PWl.re (tl := [(0, _), (1, _), (30, _)]) (to := []) rfl (.cons rfl rfl <| .cons rfl rfl <| .cons rfl rfl <| .nil) (.nil) ?_
          refine PWl.split (d := 30) rfl (fun hg26 => ?_) (fun hg26 => ?_)
          · replace h := iT hg26 h
            refine PWl.guardT (LR.move rfl) rfl rfl rfl ?_
            refine PWl.guardT (LR.move rfl) rfl rfl rfl ?_
            replace h := iDet h
            obtain ⟨v27, hy28, h⟩ := h
            refine PWl.guardT (LR.rowN (runs_Minus_ok a1 b2 v27 hy28) rfl Try.call78 rfl rfl rfl rfl) rfl rfl rfl ?_
            refine PWl.guardT (LR.move rfl) rfl rfl rfl ?_
            refine PWl.guardT (LR.move rfl) rfl rfl rfl ?_
            replace h := iDet h
            obtain ⟨v29, hy30, h⟩ := h
            refine PWl.guardT (LR.rowN (r06_Minus_ok a1 b2 v29 hy30) rfl Try.call79 rfl rfl rfl rfl) rfl rfl rfl ?_
            replace h := iDet h
            obtain ⟨v31, hy32, h⟩ := h
            refine PWl.frz [33] hK (.cons rfl <| .nil) rfl (by simp) ?_
            refine PWl.frz [36] hK (.cons rfl <| .nil) rfl (by simp) ?_
            refine PWl.guardT (LR.callN (r06_Eq_ok v27 v29 v31 hy32) rfl Try.call27 rfl rfl rfl rfl) rfl rfl rfl ?_
            refine PWl.step (LR.pickT rfl rfl) rfl ?_
            refine PWl.step (LR.move rfl) rfl ?_
            refine PWl.split (d := 39) rfl (fun hg33 => ?_) (fun hg33 => ?_)
            · replace h := iT hg33 h
              refine PWl.guardT (LR.move rfl) rfl rfl rfl ?_
              refine PWl.guardT (LR.move rfl) rfl rfl rfl ?_
              replace h := iDet h
              obtain ⟨v34, hy35, h⟩ := h
              refine PWl.guardT (LR.callN (runs_Within_ok a1 b2 v34 hy35) rfl Try.call80 rfl rfl rfl rfl) rfl rfl rfl ?_
              refine PWl.guardT (LR.move rfl) rfl rfl rfl ?_
              refine PWl.guardT (LR.move rfl) rfl rfl rfl ?_
              replace h := iDet h
              obtain ⟨v36, hy37, h⟩ := h
              refine PWl.guardT (LR.rowN (r06_Minus_ok a1 b2 v36 hy37) rfl Try.call79 rfl rfl rfl rfl) rfl rfl rfl ?_
              refine PWl.guardT (LR.lenRow Try.underlying29 rfl) rfl rfl rfl ?_
              refine PWl.re (tl := [(0, _), (1, _), (39, _), (42, _), (46, _)]) (to := []) rfl (.cons rfl rfl <| .cons rfl rfl <| .cons rfl rfl <| .cons rfl rfl <| .cons rfl rfl <| .nil) (.nil) ?_
              refine PWl.guardT (LR.eql rfl rfl) rfl rfl rfl ?_
              refine PWl.guardT (LR.eqlBool Try.underlying4 rfl rfl) rfl rfl rfl ?_
              refine PWl.step (LR.pickT rfl rfl) rfl ?_
              refine PWl.step (LR.move rfl) rfl ?_
              refine PWl.split (d := 50) rfl (fun hg38 => ?_) (fun hg38 => ?_)
              · replace h := iT hg38 h
                refine PWl.guardT (LR.move rfl) rfl rfl rfl ?_
                refine PWl.guardT (LR.move rfl) rfl rfl rfl ?_
                replace h := iDet h
                obtain ⟨v39, hy40, h⟩ := h
                refine PWl.guardT (LR.callN (runs_Same_ok a1 b2 v39 hy40) rfl Try.call81 rfl rfl rfl rfl) rfl rfl rfl ?_
                refine PWl.guardT (LR.move rfl) rfl rfl rfl ?_
                replace h := iDet h
                obtain ⟨v41, hy42, h⟩ := h
                refine PWl.guardT (LR.rowN (r06_Norm_ok a1 v41 hy42) rfl Try.call63 rfl rfl rfl rfl) rfl rfl rfl ?_
                refine PWl.guardT (LR.move rfl) rfl rfl rfl ?_
                replace h := iDet h
                obtain ⟨v43, hy44, h⟩ := h
                refine PWl.guardT (LR.rowN (r06_Norm_ok b2 v43 hy44) rfl Try.call63 rfl rfl rfl rfl) rfl rfl rfl ?_
                replace h := iDet h
                obtain ⟨v45, hy46, h⟩ := h
                refine PWl.frz [55] hK (.cons rfl <| .nil) rfl (by simp) ?_
                refine PWl.frz [57] hK (.cons rfl <| .nil) rfl (by simp) ?_
                refine PWl.guardT (LR.callN (r06_Eq_ok v41 v43 v45 hy46) rfl Try.call27 rfl rfl rfl rfl) rfl rfl rfl ?_
                refine PWl.guardT (LR.eqlBool Try.underlying4 rfl rfl) rfl rfl rfl ?_
                refine PWl.step (LR.pickT rfl rfl) rfl ?_
                refine PWl.step (LR.move rfl) rfl ?_
                refine PWl.re (tl := [(61, _)]) (to := []) rfl (.cons rfl rfl <| .nil) (.nil) ?_
                refine PWl.split (d := 61) rfl (fun hg47 => ?_) (fun hg47 => ?_)
                · replace h := iT hg47 h
                  replace h := iDet h
                  obtain ⟨v48, hy49, h⟩ := h
                  refine PWl.guardT (LR.callN (l06_works_ok v48 hy49) rfl Try.call23 rfl rfl rfl rfl) rfl rfl rfl ?_
                  refine PWl.step (LR.pickT rfl rfl) rfl ?_
                  refine PWl.step (LR.assign rfl) rfl ?_
                  refine PWl.nil ?_
                  exact ⟨v48, (), h, Sub.of rfl (.cons rfl rfl <| .nil) (.nil)⟩
                · replace h := iF hg47 h
                  refine PWl.guardF rfl rfl rfl (by decide) ?_
                  refine PWl.step (LR.pickF rfl rfl) rfl ?_
                  refine PWl.step (LR.assign rfl) rfl ?_
                  refine PWl.nil ?_
                  exact ⟨false, (), h, Sub.of rfl (.cons rfl rfl <| .nil) (.nil)⟩
              · replace h := iF hg38 h
                refine PWl.guardF rfl rfl rfl (by decide) ?_
                refine PWl.guardF rfl rfl rfl (by decide) ?_
                refine PWl.guardF rfl rfl rfl (by decide) ?_
                refine PWl.guardF rfl rfl rfl (by decide) ?_
                refine PWl.guardF rfl rfl rfl (by decide) ?_
                refine PWl.guardF rfl rfl rfl (by decide) ?_
                refine PWl.guardF rfl rfl rfl (by decide) ?_
                refine PWl.guardF rfl rfl rfl (by decide) ?_
                refine PWl.guardF rfl rfl rfl (by decide) ?_
                refine PWl.step (LR.pickF rfl rfl) rfl ?_
                refine PWl.step (LR.move rfl) rfl ?_
                refine PWl.re (tl := [(61, _)]) (to := []) rfl (.cons rfl rfl <| .nil) (.nil) ?_
                refine PWl.guardF rfl rfl rfl (by decide) ?_
                refine PWl.step (LR.pickF rfl rfl) rfl ?_
                refine PWl.step (LR.assign rfl) rfl ?_
                refine PWl.nil ?_
                exact ⟨false, (), h, Sub.of rfl (.cons rfl rfl <| .nil) (.nil)⟩
            · replace h := iF hg33 h
              refine PWl.guardF rfl rfl rfl (by decide) ?_
              refine PWl.guardF rfl rfl rfl (by decide) ?_
              refine PWl.guardF rfl rfl rfl (by decide) ?_
              refine PWl.guardF rfl rfl rfl (by decide) ?_
              refine PWl.guardF rfl rfl rfl (by decide) ?_
              refine PWl.guardF rfl rfl rfl (by decide) ?_
              refine PWl.guardF rfl rfl rfl (by decide) ?_
              refine PWl.re (tl := [(0, _), (1, _), (39, _), (42, _), (46, _)]) (to := []) rfl (.cons rfl rfl <| .cons rfl rfl <| .cons rfl rfl <| .cons rfl rfl <| .cons rfl rfl <| .nil) (.nil) ?_
              refine PWl.guardF rfl rfl rfl (by decide) ?_
              refine PWl.guardF rfl rfl rfl (by decide) ?_
              refine PWl.step (LR.pickF rfl rfl) rfl ?_
              refine PWl.step (LR.move rfl) rfl ?_
              refine PWl.guardF rfl rfl rfl (by decide) ?_
              refine PWl.guardF rfl rfl rfl (by decide) ?_
              refine PWl.guardF rfl rfl rfl (by decide) ?_
              refine PWl.guardF rfl rfl rfl (by decide) ?_
              refine PWl.guardF rfl rfl rfl (by decide) ?_
              refine PWl.guardF rfl rfl rfl (by decide) ?_
              refine PWl.guardF rfl rfl rfl (by decide) ?_
              refine PWl.guardF rfl rfl rfl (by decide) ?_
              refine PWl.guardF rfl rfl rfl (by decide) ?_
              refine PWl.step (LR.pickF rfl rfl) rfl ?_
              refine PWl.step (LR.move rfl) rfl ?_
              refine PWl.guardF rfl rfl rfl (by decide) ?_
              refine PWl.re (tl := [(61, _), (62, _)]) (to := []) rfl (.cons rfl rfl <| .cons rfl rfl <| .nil) (.nil) ?_
              refine PWl.step (LR.pickF rfl rfl) rfl ?_
              refine PWl.step (LR.assign rfl) rfl ?_
              refine PWl.nil ?_
              exact ⟨false, (), h, Sub.of rfl (.cons rfl rfl <| .nil) (.nil)⟩
          · replace h := iF hg26 h
            refine PWl.guardF rfl rfl rfl (by decide) ?_
            refine PWl.guardF rfl rfl rfl (by decide) ?_
            refine PWl.guardF rfl rfl rfl (by decide) ?_
            refine PWl.guardF rfl rfl rfl (by decide) ?_
            refine PWl.guardF rfl rfl rfl (by decide) ?_
            refine PWl.guardF rfl rfl rfl (by decide) ?_
            refine PWl.guardF rfl rfl rfl (by decide) ?_
            refine PWl.step (LR.pickF rfl rfl) rfl ?_
            refine PWl.step (LR.move rfl) rfl ?_
            refine PWl.guardF rfl rfl rfl (by decide) ?_
            refine PWl.guardF rfl rfl rfl (by decide) ?_
            refine PWl.guardF rfl rfl rfl (by decide) ?_
            refine PWl.guardF rfl rfl rfl (by decide) ?_
            refine PWl.guardF rfl rfl rfl (by decide) ?_
            refine PWl.guardF rfl rfl rfl (by decide) ?_
            refine PWl.guardF rfl rfl rfl (by decide) ?_
            refine PWl.guardF rfl rfl rfl (by decide) ?_
            refine PWl.re (tl := [(0, _), (1, _), (39, _), (42, _), (47, _)]) (to := []) rfl (.cons rfl rfl <| .cons rfl rfl <| .cons rfl rfl <| .cons rfl rfl <| .cons rfl rfl <| .nil) (.nil) ?_
            refine PWl.guardF rfl rfl rfl (by decide) ?_
            refine PWl.step (LR.pickF rfl rfl) rfl ?_
            refine PWl.step (LR.move rfl) rfl ?_
            refine PWl.guardF rfl rfl rfl (by decide) ?_
            refine PWl.guardF rfl rfl rfl (by decide) ?_
            refine PWl.guardF rfl rfl rfl (by decide) ?_
            refine PWl.guardF rfl rfl rfl (by decide) ?_
            refine PWl.guardF rfl rfl rfl (by decide) ?_
            refine PWl.guardF rfl rfl rfl (by decide) ?_
            refine PWl.guardF rfl rfl rfl (by decide) ?_
            refine PWl.guardF rfl rfl rfl (by decide) ?_
            refine PWl.guardF rfl rfl rfl (by decide) ?_
            refine PWl.step (LR.pickF rfl rfl) rfl ?_
            refine PWl.step (LR.move rfl) rfl ?_
            refine PWl.guardF rfl rfl rfl (by decide) ?_
            refine PWl.step (LR.pickF rfl rfl) rfl ?_
            refine PWl.re (tl := [(63, _)]) (to := []) rfl (.cons rfl rfl <| .nil) (.nil) ?_
            refine PWl.step (LR.assign rfl) rfl ?_
            refine PWl.nil ?_
            exact ⟨false, (), h, Sub.of rfl (.cons rfl rfl <| .nil) (.nil)⟩
        · replace h := iF hg19 h
          refine PWl.guardF rfl rfl rfl (by decide) ?_
          refine PWl.guardF rfl rfl rfl (by decide) ?_
          refine PWl.guardF rfl rfl rfl (by decide) ?_
          refine PWl.guardF rfl rfl rfl (by decide) ?_
          refine PWl.guardF rfl rfl rfl (by decide) ?_
          refine PWl.guardF rfl rfl rfl (by decide) ?_
          refine PWl.guardF rfl rfl rfl (by decide) ?_
          refine PWl.step (LR.pickF rfl rfl) rfl ?_
          refine PWl.step (LR.move rfl) rfl ?_
          refine PWl.re (tl := [(0, _), (1, _), (30, _)]) (to := []) rfl (.cons rfl rfl <| .cons rfl rfl <| .cons rfl rfl <| .nil) (.nil) ?_
          refine PWl.guardF rfl rfl rfl (by decide) ?_
          refine PWl.guardF rfl rfl rfl (by decide) ?_
          refine PWl.guardF rfl rfl rfl (by decide) ?_
          refine PWl.guardF rfl rfl rfl (by decide) ?_
          refine PWl.guardF rfl rfl rfl (by decide) ?_
          refine PWl.guardF rfl rfl rfl (by decide) ?_
          refine PWl.guardF rfl rfl rfl (by decide) ?_
          refine PWl.step (LR.pickF rfl rfl) rfl ?_
          refine PWl.step (LR.move rfl) rfl ?_
          refine PWl.guardF rfl rfl rfl (by decide) ?_
          refine PWl.guardF rfl rfl rfl (by decide) ?_
          refine PWl.guardF rfl rfl rfl (by decide) ?_
          refine PWl.guardF rfl rfl rfl (by decide) ?_
          refine PWl.guardF rfl rfl rfl (by decide) ?_
          refine PWl.guardF rfl rfl rfl (by decide) ?_
          refine PWl.guardF rfl rfl rfl (by decide) ?_
          refine PWl.guardF rfl rfl rfl (by decide) ?_
          refine PWl.guardF rfl rfl rfl (by decide) ?_
          refine PWl.re (tl := [(0, _), (1, _), (39, _), (48, _)]) (to := []) rfl (.cons rfl rfl <| .cons rfl rfl <| .cons rfl rfl <| .cons rfl rfl <| .nil) (.nil) ?_
          refine PWl.step (LR.pickF rfl rfl) rfl ?_
          refine PWl.step (LR.move rfl) rfl ?_
          refine PWl.guardF rfl rfl rfl (by decide) ?_
          refine PWl.guardF rfl rfl rfl (by decide) ?_
          refine PWl.guardF rfl rfl rfl (by decide) ?_
          refine PWl.guardF rfl rfl rfl (by decide) ?_
          refine PWl.guardF rfl rfl rfl (by decide) ?_
          refine PWl.guardF rfl rfl rfl (by decide) ?_
          refine PWl.guardF rfl rfl rfl (by decide) ?_
          refine PWl.guardF rfl rfl rfl (by decide) ?_
          refine PWl.guardF rfl rfl rfl (by decide) ?_
          refine PWl.step (LR.pickF rfl rfl) rfl ?_
          refine PWl.step (LR.move rfl) rfl ?_
          refine PWl.guardF rfl rfl rfl (by decide) ?_
          refine PWl.step (LR.pickF rfl rfl) rfl ?_
          refine PWl.step (LR.assign rfl) rfl ?_
          refine PWl.nil ?_
          exact ⟨false, (), h, Sub.of rfl (.cons rfl rfl <| .nil) (.nil)⟩
      · rintro v12 _ h
        refine PWc.ret ?_
        replace h : _ = r0 := h
        subst h
        exact ⟨.inr rfl, _, .cons (.tmp rfl rfl) <| .nil, rfl⟩

theorem l06_RunsLaws_ok (a1 : List TRun) (b2 : List TRun) (n3 : Int) (r0 : Bool) (h : (l06_RunsLaws a1 b2 n3).wp (· = r0)) : PFun Try.prog 16 [.d (.sl (List.map TRun.e a1)), .d (.sl (List.map TRun.e b2)), .d (.v (.int .u64 n3))] (.d (.v (.bool r0))) := by
  refine PFun.intro (sl := [(0, _), (1, _), (2, _)]) Try.func16 rfl Try.ntmps16 rfl rfl ?_
  intro ctx hK
  refine PWc.seq ?_
  refine PWc.region ?_
  refine PWl.step (LR.assign rfl) rfl ?_
  refine PWl.nil ?_
  refine PWc.seq ?_
  refine PWc.region ?_
  refine PWl.step (LR.move rfl) rfl ?_
  refine PWl.step (LR.move rfl) rfl ?_
  replace h := iDet h
  obtain ⟨v4, hy5, h⟩ := h
  refine PWl.step (LR.rowN (runs_Join_ok a1 b2 v4 hy5) rfl Try.call76 rfl rfl rfl rfl) rfl ?_
  refine PWl.step (LR.move rfl) rfl ?_
  refine PWl.step (LR.move rfl) rfl ?_
  replace h := iDet h
  obtain ⟨v6, hy7, h⟩ := h
  refine PWl.step (LR.rowN (runs_Meet_ok a1 b2 v6 hy7) rfl Try.call77 rfl rfl rfl rfl) rfl ?_
  refine PWl.step (LR.move rfl) rfl ?_
  refine PWl.step (LR.move rfl) rfl ?_
  replace h := iDet h
  obtain ⟨v8, hy9, h⟩ := h
  refine PWl.step (LR.rowN (runs_Minus_ok a1 b2 v8 hy9) rfl Try.call78 rfl rfl rfl rfl) rfl ?_
  refine PWl.step (LR.assign rfl) rfl ?_
  refine PWl.step (LR.assign rfl) rfl ?_
  refine PWl.step (LR.assign rfl) rfl ?_
  refine PWl.nil ?_
  refine PWc.seq ?_
  refine PWc.seq ?_
  refine PWc.jn (iBind h) (fun (⟨m10, d11, v12⟩ : List TRun × List TRun × Bool) (_ : Unit) => ⟨124, [(0, .d (.sl (List.map TRun.e a1))), (1, .d (.sl (List.map TRun.e b2))), (7, .d (.sl (List.map TRun.e v4))), (8, .d (.sl (List.map TRun.e m10))), (9, .d (.sl (List.map TRun.e d11))), (59, .d (.v (.bool v12)))], []⟩) (fun h => ?_) ?_
  · refine PWc.region ?_
    refine PWl.step (LR.move rfl) rfl ?_
    refine PWl.step (LR.move rfl) rfl ?_
    replace h := iDet h
    obtain ⟨v13, hy14, h⟩ := h
    refine PWl.frz [7, 12, 19] hK (.cons rfl <| .cons rfl <| .cons rfl <| .nil) rfl (by simp) ?_
    refine PWl.step (LR.callN (runs_Has_ok v4 n3 v13 hy14) rfl Try.call66 rfl rfl rfl rfl) rfl ?_
    refine PWl.step (LR.move rfl) rfl ?_
    refine PWl.step (LR.move rfl) rfl ?_
    refine PWl.re (tl := [(0, _), (1, _), (2, _), (7, _), (8, _), (9, _), (21, _), (22, _), (23, _)]) (to := [(15, _), (18, _)]) rfl (.cons rfl rfl <| .cons rfl rfl <| .cons rfl rfl <| .cons rfl rfl <| .cons rfl rfl <| .cons rfl rfl <| .cons rfl rfl <| .cons rfl rfl <| .cons rfl rfl <| .nil) (.cons rfl rfl <| .cons rfl rfl <| .nil) ?_
    replace h := iDet h
    obtain ⟨v15, hy16, h⟩ := h
    refine PWl.step (LR.callN (runs_Has_ok a1 n3 v15 hy16) rfl Try.call66 rfl rfl rfl rfl) rfl ?_
    refine PWl.step (LR.move rfl) rfl ?_
    refine PWl.split (d := 25) rfl (fun hg17 => ?_) (fun hg17 => ?_)
    · replace h := iT hg17 h
      refine PWl.guardF rfl rfl rfl (by decide) ?_
      refine PWl.guardF rfl rfl rfl (by decide) ?_
      refine PWl.guardF rfl rfl rfl (by decide) ?_
      refine PWl.step (LR.pickT rfl rfl) rfl ?_
      refine PWl.step (LR.neqBool Try.underlying4 rfl rfl) rfl ?_
      refine PWl.step (LR.move rfl) rfl ?_
      refine PWl.split (d := 31) rfl (fun hg18 => ?_) (fun hg18 => ?_)
      · replace h := iT hg18 h
        refine PWl.guardF rfl rfl rfl (by decide) ?_
        refine PWl.guardF rfl rfl rfl (by decide) ?_
        refine PWl.re (tl := [(0, _), (1, _), (2, _), (7, _), (8, _), (9, _), (31, _), (32, _), (33, _)]) (to := [(15, _), (18, _)]) rfl (.cons rfl rfl <| .cons rfl rfl <| .cons rfl rfl <| .cons rfl rfl <| .cons rfl rfl <| .cons rfl rfl <| .cons rfl rfl <| .cons rfl rfl <| .cons rfl rfl <| .nil) (.cons rfl rfl <| .cons rfl rfl <| .nil) ?_
        refine PWl.guardF rfl rfl rfl (by decide) ?_
        refine PWl.guardF rfl rfl rfl (by decide) ?_
        refine PWl.guardF rfl rfl rfl (by decide) ?_
        refine PWl.guardF rfl rfl rfl (by decide) ?_
        refine PWl.guardF rfl rfl rfl (by decide) ?_
        refine PWl.guardU rfl rfl rfl ?_
        refine PWl.guardU rfl rfl rfl ?_
        refine PWl.guardU rfl rfl rfl ?_
        refine PWl.guardF rfl rfl rfl (by decide) ?_
        refine PWl.guardF rfl rfl rfl (by decide) ?_
        refine PWl.step (LR.pickT rfl rfl) rfl ?_
        refine PWl.step (LR.move rfl) rfl ?_
        refine PWl.re (tl := [(0, _), (1, _), (2, _), (7, _), (8, _), (9, _), (45, _)]) (to := [(15, _), (18, _)]) rfl (.cons rfl rfl <| .cons rfl rfl <| .cons rfl rfl <| .cons rfl rfl <| .cons rfl rfl <| .cons rfl rfl <| .cons rfl rfl <| .nil) (.cons rfl rfl <| .cons rfl rfl <| .nil) ?_
        refine PWl.guardF rfl rfl rfl (by decide) ?_
        refine PWl.guardF rfl rfl rfl (by decide) ?_
        refine PWl.guardF rfl rfl rfl (by decide) ?_
        refine PWl.guardF rfl rfl rfl (by decide) ?_
        refine PWl.guardF rfl rfl rfl (by decide) ?_
        refine PWl.guardF rfl rfl rfl (by decide) ?_
        refine PWl.guardF rfl rfl rfl (by decide) ?_
        refine PWl.guardU rfl rfl rfl ?_
        refine PWl.guardU rfl rfl rfl ?_
        refine PWl.guardU rfl rfl rfl ?_
        refine PWl.guardU rfl rfl rfl ?_
        refine PWl.guardF rfl rfl rfl (by decide) ?_
        refine PWl.guardF rfl rfl rfl (by decide) ?_
        refine PWl.step (LR.pickT rfl rfl) rfl ?_
        refine PWl.nil ?_
        exact ⟨(v6, v8, true), (), h, Sub.trans (Sub.frz [8] hK rfl (by simp) (AllRow.get (.cons rfl <| .nil))) <| Sub.trans (Sub.frz [9] hK rfl (by simp) (AllRow.get (.cons rfl <| .nil))) <| Sub.of rfl (.cons rfl rfl <| .cons rfl rfl <| .cons rfl rfl <| .cons rfl rfl <| .cons rfl rfl <| .cons rfl rfl <| .nil) (.nil)⟩
      · replace h := iF hg18 h
        refine PWl.guardT (LR.move rfl) rfl rfl rfl ?_
        refine PWl.guardT (LR.move rfl) rfl rfl rfl ?_
        refine PWl.re (tl := [(0, _), (1, _), (2, _), (7, _), (8, _), (9, _), (31, _), (32, _), (33, _)]) (to := [(15, _), (18, _)]) rfl (.cons rfl rfl <| .cons rfl rfl <| .cons rfl rfl <| .cons rfl rfl <| .cons rfl rfl <| .cons rfl rfl <| .cons rfl rfl <| .cons rfl rfl <| .cons rfl rfl <| .nil) (.cons rfl rfl <| .cons rfl rfl <| .nil) ?_
        replace h := iDet h
        obtain ⟨v19, hy20, h⟩ := h
        refine PWl.frz [8, 32] hK (.cons rfl <| .cons rfl <| .nil) rfl (by simp) ?_
        refine PWl.guardT (LR.callN (runs_Has_ok v6 n3 v19 hy20) rfl Try.call66 rfl rfl rfl rfl) rfl rfl rfl ?_
        refine PWl.guardT (LR.move rfl) rfl rfl rfl ?_
        refine PWl.guardT (LR.move rfl) rfl rfl rfl ?_
        replace h := iDet h
        obtain ⟨v21, hy22, h⟩ := h
        refine PWl.guardT (LR.callN (runs_Has_ok a1 n3 v21 hy22) rfl Try.call66 rfl rfl rfl rfl) rfl rfl rfl ?_
        refine PWl.guardT (LR.move rfl) rfl rfl rfl ?_
        refine PWl.split (d := 38) rfl (fun hg23 => ?_) (fun hg23 => ?_)
        · replace h := iT hg23 h
          refine PWl.guardT (LR.move rfl) rfl rfl rfl ?_
          refine PWl.guardT (LR.move rfl) rfl rfl rfl ?_
          replace h := iDet h
          obtain ⟨v24, hy25, h⟩ := h
          refine PWl.guardT (LR.callN (runs_Has_ok b2 n3 v24 hy25) rfl Try.call66 rfl rfl rfl rfl) rfl rfl rfl ?_
          refine PWl.guardT (LR.pickT rfl rfl) rfl rfl rfl ?_
          refine PWl.guardT (LR.neqBool Try.underlying4 rfl rfl) rfl rfl rfl ?_
          refine PWl.step (LR.pickF rfl rfl) rfl ?_
          refine PWl.re (tl := [(0, _), (1, _), (2, _), (7, _), (8, _), (9, _), (44, _)]) (to := [(18, _)]) rfl (.cons rfl rfl <| .cons rfl rfl <| .cons rfl rfl <| .cons rfl rfl <| .cons rfl rfl <| .cons rfl rfl <| .cons rfl rfl <| .nil) (.cons rfl rfl <| .nil) ?_
          refine PWl.step (LR.move rfl) rfl ?_
          refine PWl.split (d := 45) rfl (fun hg26 => ?_) (fun hg26 => ?_)
          · replace h := iT hg26 h
            refine PWl.guardF rfl rfl rfl (by decide) ?_
            refine PWl.guardF rfl rfl rfl (by decide) ?_
            refine PWl.guardF rfl rfl rfl (by decide) ?_
            refine PWl.guardF rfl rfl rfl (by decide) ?_
            refine PWl.guardF rfl rfl rfl (by decide) ?_
            refine PWl.guardF rfl rfl rfl (by decide) ?_
            refine PWl.guardF rfl rfl rfl (by decide) ?_
            refine PWl.guardU rfl rfl rfl ?_
            refine PWl.guardU rfl rfl rfl ?_
            refine PWl.guardU rfl rfl rfl ?_
            refine PWl.guardU rfl rfl rfl ?_
            refine PWl.guardF rfl rfl rfl (by decide) ?_
            refine PWl.re (tl := [(0, _), (1, _), (7, _), (8, _), (9, _), (45, _), (48, _), (57, _)]) (to := [(18, _)]) rfl (.cons rfl rfl <| .cons rfl rfl <| .cons rfl rfl <| .cons rfl rfl <| .cons rfl rfl <| .cons rfl rfl <| .cons rfl rfl <| .cons rfl rfl <| .nil) (.cons rfl rfl <| .nil) ?_
            refine PWl.guardF rfl rfl rfl (by decide) ?_
            refine PWl.step (LR.pickT rfl rfl) rfl ?_
            refine PWl.nil ?_
            exact ⟨(v6, v8, true), (), h, Sub.trans (Sub.frz [9] hK rfl (by simp) (AllRow.get (.cons rfl <| .nil))) <| Sub.of rfl (.cons rfl rfl <| .cons rfl rfl <| .cons rfl rfl <| .cons rfl rfl <| .cons rfl rfl <| .cons rfl rfl <| .nil) (.nil)⟩
          · replace h := iF hg26 h
            refine PWl.guardT (LR.move rfl) rfl rfl rfl ?_
            refine PWl.guardT (LR.move rfl) rfl rfl rfl ?_
            replace h := iDet h
            obtain ⟨v27, hy28, h⟩ := h
            refine PWl.frz [9, 46] hK (.cons rfl <| .cons rfl <| .nil) rfl (by simp) ?_
            refine PWl.guardT (LR.callN (runs_Has_ok v8 n3 v27 hy28) rfl Try.call66 rfl rfl rfl rfl) rfl rfl rfl ?_
            refine PWl.guardT (LR.move rfl) rfl rfl rfl ?_
            refine PWl.guardT (LR.move rfl) rfl rfl rfl ?_
            replace h := iDet h
            obtain ⟨v29, hy30, h⟩ := h
            refine PWl.guardT (LR.callN (runs_Has_ok a1 n3 v29 hy30) rfl Try.call66 rfl rfl rfl rfl) rfl rfl rfl ?_
            refine PWl.guardT (LR.move rfl) rfl rfl rfl ?_
            refine PWl.split (d := 52) rfl (fun hg31 => ?_) (fun hg31 => ?_)
            · replace h := iT hg31 h
              refine PWl.guardT (LR.move rfl) rfl rfl rfl ?_
              refine PWl.guardT (LR.move rfl) rfl rfl rfl ?_
              replace h := iDet h
              obtain ⟨v32, hy33, h⟩ := h
              refine PWl.guardT (LR.callN (runs_Has_ok b2 n3 v32 hy33) rfl Try.call66 rfl rfl rfl rfl) rfl rfl rfl ?_
              refine PWl.guardT (LR.not rfl) rfl rfl rfl ?_
              refine PWl.re (tl := [(0, _), (1, _), (7, _), (8, _), (9, _), (45, _), (48, _), (52, _), (56, _)]) (to := []) rfl (.cons rfl rfl <| .cons rfl rfl <| .cons rfl rfl <| .cons rfl rfl <| .cons rfl rfl <| .cons rfl rfl <| .cons rfl rfl <| .cons rfl rfl <| .cons rfl rfl <| .nil) (.nil) ?_
              refine PWl.guardT (LR.pickT rfl rfl) rfl rfl rfl ?_
              refine PWl.guardT (LR.neqBool Try.underlying4 rfl rfl) rfl rfl rfl ?_
              refine PWl.step (LR.pickF rfl rfl) rfl ?_
              refine PWl.nil ?_
              exact ⟨(v6, v8, (!(v27 == (!v32)))), (), h, Sub.of rfl (.cons rfl rfl <| .cons rfl rfl <| .cons rfl rfl <| .cons rfl rfl <| .cons rfl rfl <| .cons rfl rfl <| .nil) (.nil)⟩
            · replace h := iF hg31 h
              refine PWl.guardF rfl rfl rfl (by decide) ?_
              refine PWl.guardF rfl rfl rfl (by decide) ?_
              refine PWl.guardF rfl rfl rfl (by decide) ?_
              refine PWl.guardF rfl rfl rfl (by decide) ?_
              refine PWl.re (tl := [(0, _), (1, _), (7, _), (8, _), (9, _), (45, _), (48, _), (52, _), (56, _)]) (to := []) rfl (.cons rfl rfl <| .cons rfl rfl <| .cons rfl rfl <| .cons rfl rfl <| .cons rfl rfl <| .cons rfl rfl <| .cons rfl rfl <| .cons rfl rfl <| .cons rfl rfl <| .nil) (.nil) ?_
              refine PWl.guardT (LR.pickF rfl rfl) rfl rfl rfl ?_
              refine PWl.guardT (LR.neqBool Try.underlying4 rfl rfl) rfl rfl rfl ?_
              refine PWl.step (LR.pickF rfl rfl) rfl ?_
              refine PWl.nil ?_
              exact ⟨(v6, v8, (!(v27 == false))), (), h, Sub.of rfl (.cons rfl rfl <| .cons rfl rfl <| .cons rfl rfl <| .cons rfl rfl <| .cons rfl rfl <| .cons rfl rfl <| .nil) (.nil)⟩
        · replace h := iF hg23 h
          refine PWl.guardF rfl rfl rfl (by decide) ?_
          refine PWl.guardF rfl rfl rfl (by decide) ?_
          refine PWl.guardF rfl rfl rfl (by decide) ?_
          refine PWl.guardT (LR.pickF rfl rfl) rfl rfl rfl ?_
          refine PWl.guardT (LR.neqBool Try.underlying4 rfl rfl) rfl rfl rfl ?_
          refine PWl.step (LR.pickF rfl rfl) rfl ?_
          refine PWl.re (tl := [(0, _), (1, _), (2, _), (7, _), (8, _), (9, _), (44, _)]) (to := [(18, _)]) rfl (.cons rfl rfl <| .cons rfl rfl <| .cons rfl rfl <| .cons rfl rfl <| .cons rfl rfl <| .cons rfl rfl <| .cons rfl rfl <| .nil) (.cons rfl rfl <| .nil) ?_
          refine PWl.step (LR.move rfl) rfl ?_
          refine PWl.split (d := 45) rfl (fun hg34 => ?_) (fun hg34 => ?_)
          · replace h := iT hg34 h
            refine PWl.guardF rfl rfl rfl (by decide) ?_
            refine PWl.guardF rfl rfl rfl (by decide) ?_
            refine PWl.guardF rfl rfl rfl (by decide) ?_
            refine PWl.guardF rfl rfl rfl (by decide) ?_
            refine PWl.guardF rfl rfl rfl (by decide) ?_
            refine PWl.guardF rfl rfl rfl (by decide) ?_
            refine PWl.guardF rfl rfl rfl (by decide) ?_
            refine PWl.guardU rfl rfl rfl ?_
            refine PWl.guardU rfl rfl rfl ?_
            refine PWl.guardU rfl rfl rfl ?_
            refine PWl.guardU rfl rfl rfl ?_
            refine PWl.guardF rfl rfl rfl (by decide) ?_
            refine PWl.re (tl := [(0, _), (1, _), (7, _), (8, _), (9, _), (45, _), (48, _), (57, _)]) (to := [(18, _)]) rfl (.cons rfl rfl <| .cons rfl rfl <| .cons rfl rfl <| .cons rfl rfl <| .cons rfl rfl <| .cons rfl rfl <| .cons rfl rfl <| .cons rfl rfl <| .nil) (.cons rfl rfl <| .nil) ?_
            refine PWl.guardF rfl rfl rfl (by decide) ?_
            refine PWl.step (LR.pickT rfl rfl) rfl ?_
            refine PWl.nil ?_
            exact ⟨(v6, v8, true), (), h, Sub.trans (Sub.frz [9] hK rfl (by simp) (AllRow.get (.cons rfl <| .nil))) <| Sub.of rfl (.cons rfl rfl <| .cons rfl rfl <| .cons rfl rfl <| .cons rfl rfl <| .cons rfl rfl <| .cons rfl rfl <| .nil) (.nil)⟩
          · replace h := iF hg34 h
            refine PWl.guardT (LR.move rfl) rfl rfl rfl ?_
            refine PWl.guardT (LR.move rfl) rfl rfl rfl ?_
            replace h := iDet h
            obtain ⟨v35, hy36, h⟩ := h
            refine PWl.frz [9, 46] hK (.cons rfl <| .cons rfl <| .nil) rfl (by simp) ?_
            refine PWl.guardT (LR.callN (runs_Has_ok v8 n3 v35 hy36) rfl Try.call66 rfl rfl rfl rfl) rfl rfl rfl ?_
            refine PWl.guardT (LR.move rfl) rfl rfl rfl ?_
            refine PWl.guardT (LR.move rfl) rfl rfl rfl ?_
            replace h := iDet h
            obtain ⟨v37, hy38, h⟩ := h
            refine PWl.guardT (LR.callN (runs_Has_ok a1 n3 v37 hy38) rfl Try.call66 rfl rfl rfl rfl) rfl rfl rfl ?_
            refine PWl.guardT (LR.move rfl) rfl rfl rfl ?_
            refine PWl.split (d := 52) rfl (fun hg39 => ?_) (fun hg39 => ?_)
            · replace h := iT hg39 h
              refine PWl.guardT (LR.move rfl) rfl rfl rfl ?_
              refine PWl.guardT (LR.move rfl) rfl rfl rfl ?_
              replace h := iDet h
              obtain ⟨v40, hy41, h⟩ := h
              refine PWl.guardT (LR.callN (runs_Has_ok b2 n3 v40 hy41) rfl Try.call66 rfl rfl rfl rfl) rfl rfl rfl ?_
              refine PWl.guardT (LR.not rfl) rfl rfl rfl ?_
              refine PWl.re (tl := [(0, _), (1, _), (7, _), (8, _), (9, _), (45, _), (48, _), (52, _), (56, _)]) (to := []) rfl (.cons rfl rfl <| .cons rfl rfl <| .cons rfl rfl <| .cons rfl rfl <| .cons rfl rfl <| .cons rfl rfl <| .cons rfl rfl <| .cons rfl rfl <| .cons rfl rfl <| .nil) (.nil) ?_
              refine PWl.guardT (LR.pickT rfl rfl) rfl rfl rfl ?_
              refine PWl.guardT (LR.neqBool Try.underlying4 rfl rfl) rfl rfl rfl ?_
              refine PWl.step (LR.pickF rfl rfl) rfl ?_
              refine PWl.nil ?_
              exact ⟨(v6, v8, (!(v35 == (!v40)))), (), h, Sub.of rfl (.cons rfl rfl <| .cons rfl rfl <| .cons rfl rfl <| .cons rfl rfl <| .cons rfl rfl <| .cons rfl rfl <| .nil) (.nil)⟩
            · replace h := iF hg39 h
              refine PWl.guardF rfl rfl rfl (by decide) ?_
              refine PWl.guardF rfl rfl rfl (by decide) ?_
              refine PWl.guardF rfl rfl rfl (by decide) ?_
              refine PWl.guardF rfl rfl rfl (by decide) ?_
              refine PWl.re (tl := [(0, _), (1, _), (7, _), (8, _), (9, _), (45, _), (48, _), (52, _), (56, _)]) (to := []) rfl (.cons rfl rfl <| .cons rfl rfl <| .cons rfl rfl <| .cons rfl rfl <| .cons rfl rfl <| .cons rfl rfl <| .cons rfl rfl <| .cons rfl rfl <| .cons rfl rfl <| .nil) (.nil) ?_
              refine PWl.guardT (LR.pickF rfl rfl) rfl rfl rfl ?_
              refine PWl.guardT (LR.neqBool Try.underlying4 rfl rfl) rfl rfl rfl ?_
              refine PWl.step (LR.pickF rfl rfl) rfl ?_
              refine PWl.nil ?_
              exact ⟨(v6, v8, (!(v35 == false))), (), h, Sub.of rfl (.cons rfl rfl <| .cons rfl rfl <| .cons rfl rfl <| .cons rfl rfl <| .cons rfl rfl <| .cons rfl rfl <| .nil) (.nil)⟩
    · replace h := iF hg17 h
      refine PWl.guardT (LR.move rfl) rfl rfl rfl ?_
      refine PWl.guardT (LR.move rfl) rfl rfl rfl ?_
      replace h := iDet h
      obtain ⟨v42, hy43, h⟩ := h
      refine PWl.guardT (LR.callN (runs_Has_ok b2 n3 v42 hy43) rfl Try.call66 rfl rfl rfl rfl) rfl rfl rfl ?_
      refine PWl.step (LR.pickF rfl rfl) rfl ?_
      refine PWl.step (LR.neqBool Try.underlying4 rfl rfl) rfl ?_
      refine PWl.step (LR.move rfl) rfl ?_
      refine PWl.split (d := 31) rfl (fun hg44 => ?_) (fun hg44 => ?_)
      · replace h := iT hg44 h
        refine PWl.guardF rfl rfl rfl (by decide) ?_
        refine PWl.guardF rfl rfl rfl (by decide) ?_
        refine PWl.re (tl := [(0, _), (1, _), (2, _), (7, _), (8, _), (9, _), (31, _), (32, _), (33, _)]) (to := [(15, _), (18, _)]) rfl (.cons rfl rfl <| .cons rfl rfl <| .cons rfl rfl <| .cons rfl rfl <| .cons rfl rfl <| .cons rfl rfl <| .cons rfl rfl <| .cons rfl rfl <| .cons rfl rfl <| .nil) (.cons rfl rfl <| .cons rfl rfl <| .nil) ?_
        refine PWl.guardF rfl rfl rfl (by decide) ?_
        refine PWl.guardF rfl rfl rfl (by decide) ?_
        refine PWl.guardF rfl rfl rfl (by decide) ?_
        refine PWl.guardF rfl rfl rfl (by decide) ?_
        refine PWl.guardF rfl rfl rfl (by decide) ?_
        refine PWl.guardU rfl rfl rfl ?_
        refine PWl.guardU rfl rfl rfl ?_
        refine PWl.guardU rfl rfl rfl ?_
        refine PWl.guardF rfl rfl rfl (by decide) ?_
        refine PWl.guardF rfl rfl rfl (by decide) ?_
        refine PWl.step (LR.pickT rfl rfl) rfl ?_
        refine PWl.step (LR.move rfl) rfl ?_
        refine PWl.re (tl := [(0, _), (1, _), (2, _), (7, _), (8, _), (9, _), (45, _)]) (to := [(15, _), (18, _)]) rfl (.cons rfl rfl <| .cons rfl rfl <| .cons rfl rfl <| .cons rfl rfl <| .cons rfl rfl <| .cons rfl rfl <| .cons rfl rfl <| .nil) (.cons rfl rfl <| .cons rfl rfl <| .nil) ?_
        refine PWl.guardF rfl rfl rfl (by decide) ?_
        refine PWl.guardF rfl rfl rfl (by decide) ?_
        refine PWl.guardF rfl rfl rfl (by decide) ?_
        refine PWl.guardF rfl rfl rfl (by decide) ?_
        refine PWl.guardF rfl rfl rfl (by decide) ?_
        refine PWl.guardF rfl rfl rfl (by decide) ?_
        refine PWl.guardF rfl rfl rfl (by decide) ?_
        refine PWl.guardU rfl rfl rfl ?_
        refine PWl.guardU rfl rfl rfl ?_
        refine PWl.guardU rfl rfl rfl ?_
        refine PWl.guardU rfl rfl rfl ?_
        refine PWl.guardF rfl rfl rfl (by decide) ?_
        refine PWl.guardF rfl rfl rfl (by decide) ?_
        refine PWl.step (LR.pickT rfl rfl) rfl ?_
        refine PWl.nil ?_
        exact ⟨(v6, v8, true), (), h, Sub.trans (Sub.frz [8] hK rfl (by simp) (AllRow.get (.cons rfl <| .nil))) <| Sub.trans (Sub.frz [9] hK rfl (by simp) (AllRow.get (.cons rfl <| .nil))) <| Sub.of rfl (.cons rfl rfl <| .cons rfl rfl <| .cons rfl rfl <| .cons rfl rfl <| .cons rfl rfl <| .cons rfl rfl <| .nil) (.nil)⟩
      · replace h := iF hg44 h
        refine PWl.guardT (LR.move rfl) rfl rfl rfl ?_
        refine PWl.guardT (LR.move rfl) rfl rfl rfl ?_
        refine PWl.re (tl := [(0, _), (1, _), (2, _), (7, _), (8, _), (9, _), (31, _), (32, _), (33, _)]) (to := [(15, _), (18, _)]) rfl (.cons rfl rfl <| .cons rfl rfl <| .cons rfl rfl <| .cons rfl rfl <| .cons rfl rfl <| .cons rfl rfl <| .cons rfl rfl <| .cons rfl rfl <| .cons rfl rfl <| .nil) (.cons rfl rfl <| .cons rfl rfl <| .nil) ?_
        replace h := iDet h
        obtain ⟨v45, hy46, h⟩ := h
        refine PWl.frz [8, 32] hK (.cons rfl <| .cons rfl <| .nil) rfl (by simp) ?_
        refine PWl.guardT (LR.callN (runs_Has_ok v6 n3 v45 hy46) rfl Try.call66 rfl rfl rfl rfl) rfl rfl rfl ?_
        refine PWl.guardT (LR.move rfl) rfl rfl rfl ?_
        refine PWl.guardT (LR.move rfl) rfl rfl rfl ?_
        replace h := iDet h
        obtain ⟨v47, hy48, h⟩ := h
        refine PWl.guardT (LR.callN (runs_Has_ok a1 n3 v47 hy48) rfl Try.call66 rfl rfl rfl rfl) rfl rfl rfl ?_
        refine PWl.guardT (LR.move rfl) rfl rfl rfl ?_
        refine PWl.split (d := 38) rfl (fun hg49 => ?_) (fun hg49 => ?_)
        · replace h := iT hg49 h
          refine PWl.guardT (LR.move rfl) rfl rfl rfl ?_
          refine PWl.guardT (LR.move rfl) rfl rfl rfl ?_
          replace h := iDet h
          obtain ⟨v50, hy51, h⟩ := h
          refine PWl.guardT (LR.callN (runs_Has_ok b2 n3 v50 hy51) rfl Try.call66 rfl rfl rfl rfl) rfl rfl rfl ?_
          refine PWl.guardT (LR.pickT rfl rfl) rfl rfl rfl ?_
          refine PWl.guardT (LR.neqBool Try.underlying4 rfl rfl) rfl rfl rfl ?_
          refine PWl.step (LR.pickF rfl rfl) rfl ?_
          refine PWl.re (tl := [(0, _), (1, _), (2, _), (7, _), (8, _), (9, _), (44, _)]) (to := [(18, _)]) rfl (.cons rfl rfl <| .cons rfl rfl <| .cons rfl rfl <| .cons rfl rfl <| .cons rfl rfl <| .cons rfl rfl <| .cons rfl rfl <| .nil) (.cons rfl rfl <| .nil) ?_
          refine PWl.step (LR.move rfl) rfl ?_
          refine PWl.split (d := 45) rfl (fun hg52 => ?_) (fun hg52 => ?_)
          · replace h := iT hg52 h
            refine PWl.guardF rfl rfl rfl (by decide) ?_
            refine PWl.guardF rfl rfl rfl (by decide) ?_
            refine PWl.guardF rfl rfl rfl (by decide) ?_
            refine PWl.guardF rfl rfl rfl (by decide) ?_
            refine PWl.guardF rfl rfl rfl (by decide) ?_
            refine PWl.guardF rfl rfl rfl (by decide) ?_
            refine PWl.guardF rfl rfl rfl (by decide) ?_
            refine PWl.guardU rfl rfl rfl ?_
            refine PWl.guardU rfl rfl rfl ?_
            refine PWl.guardU rfl rfl rfl ?_
            refine PWl.guardU rfl rfl rfl ?_
            refine PWl.guardF rfl rfl rfl (by decide) ?_
            refine PWl.re (tl := [(0, _), (1, _), (7, _), (8, _), (9, _), (45, _), (48, _), (57, _)]) (to := [(18, _)]) rfl (.cons rfl rfl <| .cons rfl rfl <| .cons rfl rfl <| .cons rfl rfl <| .cons rfl rfl <| .cons rfl rfl <| .cons rfl rfl <| .cons rfl rfl <| .nil) (.cons rfl rfl <| .nil) ?_
            refine PWl.guardF rfl rfl rfl (by decide) ?_
            refine PWl.step (LR.pickT rfl rfl) rfl ?_
            refine PWl.nil ?_
            exact ⟨(v6, v8, true), (), h, Sub.trans (Sub.frz [9] hK rfl (by simp) (AllRow.get (.cons rfl <| .nil))) <| Sub.of rfl (.cons rfl rfl <| .cons rfl rfl <| .cons rfl rfl <| .cons rfl rfl <| .cons rfl rfl <| .cons rfl rfl <| .nil) (.nil)⟩
          · replace h := iF hg52 h
            refine PWl.guardT (LR.move rfl) rfl rfl rfl ?_
            refine PWl.guardT (LR.move rfl) rfl rfl rfl ?_
            replace h := iDet h
            obtain ⟨v53, hy54, h⟩ := h
            refine PWl.frz [9, 46] hK (.cons rfl <| .cons rfl <| .nil) rfl (by simp) ?_
            refine PWl.guardT (LR.callN (runs_Has_ok v8 n3 v53 hy54) rfl Try.call66 rfl rfl rfl rfl) rfl rfl rfl ?_
            refine PWl.guardT (LR.move rfl) rfl rfl rfl ?_
            refine PWl.guardT (LR.move rfl) rfl rfl rfl ?_
            replace h := iDet h
            obtain ⟨v55, hy56, h⟩ := h
            refine PWl.guardT (LR.callN (runs_Has_ok a1 n3 v55 hy56) rfl Try.call66 rfl rfl rfl rfl) rfl rfl rfl ?_
            refine PWl.guardT (LR.move rfl) rfl rfl rfl ?_
            refine PWl.split (d := 52) rfl (fun hg57 => ?_) (fun hg57 => ?_)
            · replace h := iT hg57 h
              refine PWl.guardT (LR.move rfl) rfl rfl rfl ?_
              refine PWl.guardT (LR.move rfl) rfl rfl rfl ?_
              replace h := iDet h
              obtain ⟨v58, hy59, h⟩ := h
              refine PWl.guardT (LR.callN (runs_Has_ok b2 n3 v58 hy59) rfl Try.call66 rfl rfl rfl rfl) rfl rfl rfl ?_
              refine PWl.guardT (LR.not rfl) rfl rfl rfl ?_
              refine PWl.re (tl := [(0, _), (1, _), (7, _), (8, _), (9, _), (45, _), (48, _), (52, _), (56, _)]) (to := []) rfl (.cons rfl rfl <| .cons rfl rfl <| .cons rfl rfl <| .cons rfl rfl <| .cons rfl rfl <| .cons rfl rfl <| .cons rfl rfl <| .cons rfl rfl <| .cons rfl rfl <| .nil) (.nil) ?_
              refine PWl.guardT (LR.pickT rfl rfl) rfl rfl rfl ?_
              refine PWl.guardT (LR.neqBool Try.underlying4 rfl rfl) rfl rfl rfl ?_
              refine PWl.step (LR.pickF rfl rfl) rfl ?_
              refine PWl.nil ?_
              exact ⟨(v6, v8, (!(v53 == (!v58)))), (), h, Sub.of rfl (.cons rfl rfl <| .cons rfl rfl <| .cons rfl rfl <| .cons rfl rfl <| .cons rfl rfl <| .cons rfl rfl <| .nil) (.nil)⟩
            · replace h := iF hg57 h
              refine PWl.guardF rfl rfl rfl (by decide) ?_
              refine PWl.guardF rfl rfl rfl (by decide) ?_
              refine PWl.guardF rfl rfl rfl (by decide) ?_
              refine PWl.guardF rfl rfl rfl (by decide) ?_
              refine PWl.re (tl := [(0, _), (1, _), (7, _), (8, _), (9, _), (45, _), (48, _), (52, _), (56, _)]) (to := []) rfl (.cons rfl rfl <| .cons rfl rfl <| .cons rfl rfl <| .cons rfl rfl <| .cons rfl rfl <| .cons rfl rfl <| .cons rfl rfl <| .cons rfl rfl <| .cons rfl rfl <| .nil) (.nil) ?_
              refine PWl.guardT (LR.pickF rfl rfl) rfl rfl rfl ?_
              refine PWl.guardT (LR.neqBool Try.underlying4 rfl rfl) rfl rfl rfl ?_
              refine PWl.step (LR.pickF rfl rfl) rfl ?_
              refine PWl.nil ?_
              exact ⟨(v6, v8, (!(v53 == false))), (), h, Sub.of rfl (.cons rfl rfl <| .cons rfl rfl <| .cons rfl rfl <| .cons rfl rfl <| .cons rfl rfl <| .cons rfl rfl <| .nil) (.nil)⟩
        · replace h := iF hg49 h
          refine PWl.guardF rfl rfl rfl (by decide) ?_
          refine PWl.guardF rfl rfl rfl (by decide) ?_
          refine PWl.guardF rfl rfl rfl (by decide) ?_
          refine PWl.guardT (LR.pickF rfl rfl) rfl rfl rfl ?_
          refine PWl.guardT (LR.neqBool Try.underlying4 rfl rfl) rfl rfl rfl ?_
          refine PWl.step (LR.pickF rfl rfl) rfl ?_
          refine PWl.re (tl := [(0, _), (1, _), (2, _), (7, _), (8, _), (9, _), (44, _)]) (to := [(18, _)]) rfl (.cons rfl rfl <| .cons rfl rfl <| .cons rfl rfl <| .cons rfl rfl <| .cons rfl rfl <| .cons rfl rfl <| .cons rfl rfl <| .nil) (.cons rfl rfl <| .nil) ?_
          refine PWl.step (LR.move rfl) rfl ?_
          refine PWl.split (d := 45) rfl (fun hg60 => ?_) (fun hg60 => ?_)
          · replace h := iT hg60 h
            refine PWl.guardF rfl rfl rfl (by decide) ?_
            refine PWl.guardF rfl rfl rfl (by decide) ?_
            refine PWl.guardF rfl rfl rfl (by decide) ?_
            refine PWl.guardF rfl rfl rfl (by decide) ?_
            refine PWl.guardF rfl rfl rfl (by decide) ?_
            refine PWl.guardF rfl rfl rfl (by decide) ?_
            refine PWl.guardF rfl rfl rfl (by decide) ?_
            refine PWl.guardU rfl rfl rfl ?_
            refine PWl.guardU rfl rfl rfl ?_
            refine PWl.guardU rfl rfl rfl ?_
            refine PWl.guardU rfl rfl rfl ?_
            refine PWl.guardF rfl rfl rfl (by decide) ?_
            refine PWl.re (tl := [(0, _), (1, _), (7, _), (8, _), (9, _), (45, _), (48, _), (57, _)]) (to := [(18, _)]) rfl (.cons rfl rfl <| .cons rfl rfl <| .cons rfl rfl <| .cons rfl rfl <| .cons rfl rfl <| .cons rfl rfl <| .cons rfl rfl <| .cons rfl rfl <| .nil) (.cons rfl rfl <| .nil) ?_
            refine PWl.guardF rfl rfl rfl (by decide) ?_
            refine PWl.step (LR.pickT rfl rfl) rfl ?_
            refine PWl.nil ?_
            exact ⟨(v6, v8, true), (), h, Sub.trans (Sub.frz [9] hK rfl (by simp) (AllRow.get (.cons rfl <| .nil))) <| Sub.of rfl (.cons rfl rfl <| .cons rfl rfl <| .cons rfl rfl <| .cons rfl rfl <| .cons rfl rfl <| .cons rfl rfl <| .nil) (.nil)⟩
          · replace h := iF hg60 h
            refine PWl.guardT (LR.move rfl) rfl rfl rfl ?_
            refine PWl.guardT (LR.move rfl) rfl rfl rfl ?_
            replace h := iDet h
            obtain ⟨v61, hy62, h⟩ := h
            refine PWl.frz [9, 46] hK (.cons rfl <| .cons rfl <| .nil) rfl (by simp) ?_
            refine PWl.guardT (LR.callN (runs_Has_ok v8 n3 v61 hy62) rfl Try.call66 rfl rfl rfl rfl) rfl rfl rfl ?_
            refine PWl.guardT (LR.move rfl) rfl rfl rfl ?_
            refine PWl.guardT (LR.move rfl) rfl rfl rfl ?_
            replace h := iDet h
            obtain ⟨v63, hy64, h⟩ := h
            refine PWl.guardT (LR.callN (runs_Has_ok a1 n3 v63 hy64) rfl Try.call66 rfl rfl rfl rfl) rfl rfl rfl ?_
            refine PWl.guardT (LR.move rfl) rfl rfl rfl ?_
            refine PWl.split (d := 52) rfl (fun hg65 => ?_) (fun hg65 => ?_)
            · replace h := iT hg65 h
              refine PWl.guardT (LR.move rfl) rfl rfl rfl ?_
              refine PWl.guardT (LR.move rfl) rfl rfl rfl ?_
              replace h := iDet h
              obtain ⟨v66, hy67, h⟩ := h
              refine PWl.guardT (LR.callN (runs_Has_ok b2 n3 v66 hy67) rfl Try.call66 rfl rfl rfl rfl) rfl rfl rfl ?_
              refine PWl.guardT (LR.not rfl) rfl rfl rfl ?_
              refine PWl.re (tl := [(0, _), (1, _), (7, _), (8, _), (9, _), (45, _), (48, _), (52, _), (56, _)]) (to := []) rfl (.cons rfl rfl <| .cons rfl rfl <| .cons rfl rfl <| .cons rfl rfl <| .cons rfl rfl <| .cons rfl rfl <| .cons rfl rfl <| .cons rfl rfl <| .cons rfl rfl <| .nil) (.nil) ?_
              refine PWl.guardT (LR.pickT rfl rfl) rfl rfl rfl ?_
              refine PWl.guardT (LR.neqBool Try.underlying4 rfl rfl) rfl rfl rfl ?_
              refine PWl.step (LR.pickF rfl rfl) rfl ?_
              refine PWl.nil ?_
              exact ⟨(v6, v8, (!(v61 == (!v66)))), (), h, Sub.of rfl (.cons rfl rfl <| .cons rfl rfl <| .cons rfl rfl <| .cons rfl rfl <| .cons rfl rfl <| .cons rfl rfl <| .nil) (.nil)⟩
            · replace h := iF hg65 h
              refine PWl.guardF rfl rfl rfl (by decide) ?_
              refine PWl.guardF rfl rfl rfl (by decide) ?_
              refine PWl.guardF rfl rfl rfl (by decide) ?_
              refine PWl.guardF rfl rfl rfl (by decide) ?_
              refine PWl.re (tl := [(0, _), (1, _), (7, _), (8, _), (9, _), (45, _), (48, _), (52, _), (56, _)]) (to := []) rfl (.cons rfl rfl <| .cons rfl rfl <| .cons rfl rfl <| .cons rfl rfl <| .cons rfl rfl <| .cons rfl rfl <| .cons rfl rfl <| .cons rfl rfl <| .cons rfl rfl <| .nil) (.nil) ?_
              refine PWl.guardT (LR.pickF rfl rfl) rfl rfl rfl ?_
              refine PWl.guardT (LR.neqBool Try.underlying4 rfl rfl) rfl rfl rfl ?_
              refine PWl.step (LR.pickF rfl rfl) rfl ?_
              refine PWl.nil ?_
              exact ⟨(v6, v8, (!(v61 == false))), (), h, Sub.of rfl (.cons rfl rfl <| .cons rfl rfl <| .cons rfl rfl <| .cons rfl rfl <| .cons rfl rfl <| .cons rfl rfl <| .nil) (.nil)⟩
  · rintro ⟨m10, d11, v12⟩ _ h
    refine PWc.cond rfl (fun hc68 => ?_) (fun hc68 => ?_)
    · replace h := iT hc68 h
      refine PWc.seq ?_
      refine PWc.region ?_
      refine PWl.step (LR.assign rfl) rfl ?_
      refine PWl.nil ?_
      refine PWc.ret ?_
      replace h : _ = r0 := h
      subst h
      exact ⟨.inr rfl, _, .cons (.tmp rfl rfl) <| .nil, rfl⟩
    · replace h := iF hc68 h
      refine PWc.skip ?_
      refine PWc.seq ?_
      refine PWc.jn (iBind h) (fun (v69 : Bool) (_ : Unit) => ⟨124, [(6, .d (.v (.bool v69)))], []⟩) (fun h => ?_) ?_
      · refine PWc.region ?_
        refine PWl.step (LR.move rfl) rfl ?_
        replace h := iDet h
        obtain ⟨v70, hy71, h⟩ := h
        refine PWl.step (LR.callN (runs_Size_ok v4 v70 hy71) rfl Try.call69 rfl rfl rfl rfl) rfl ?_
        refine PWl.step (LR.move rfl) rfl ?_
        replace h := iDet h
        obtain ⟨v72, hy73, h⟩ := h
        refine PWl.step (LR.callN (runs_Size_ok m10 v72 hy73) rfl Try.call69 rfl rfl rfl rfl) rfl ?_
        refine PWl.step (LR.addW rfl rfl) rfl ?_
        refine PWl.step (LR.move rfl) rfl ?_
        replace h := iDet h
        obtain ⟨v74, hy75, h⟩ := h
        refine PWl.step (LR.callN (runs_Size_ok a1 v74 hy75) rfl Try.call69 rfl rfl rfl rfl) rfl ?_
        refine PWl.step (LR.move rfl) rfl ?_
        replace h := iDet h
        obtain ⟨v76, hy77, h⟩ := h
        refine PWl.step (LR.callN (runs_Size_ok b2 v76 hy77) rfl Try.call69 rfl rfl rfl rfl) rfl ?_
        refine PWl.step (LR.addW rfl rfl) rfl ?_
        refine PWl.step (LR.eql rfl rfl) rfl ?_
        refine PWl.step (LR.move rfl) rfl ?_
        refine PWl.split (d := 71) rfl (fun hg78 => ?_) (fun hg78 => ?_)
        · replace h := iT hg78 h
          refine PWl.guardT (LR.move rfl) rfl rfl rfl ?_
          refine PWl.guardT (LR.move rfl) rfl rfl rfl ?_
          refine PWl.re (tl := [(0, _), (1, _), (7, _), (8, _), (9, _), (71, _), (72, _), (73, _)]) (to := []) rfl (.cons rfl rfl <| .cons rfl rfl <| .cons rfl rfl <| .cons rfl rfl <| .cons rfl rfl <| .cons rfl rfl <| .cons rfl rfl <| .cons rfl rfl <| .nil) (.nil) ?_
          replace h := iDet h
          obtain ⟨v79, hy80, h⟩ := h
          refine PWl.guardT (LR.rowN (runs_Join_ok b2 a1 v79 hy80) rfl Try.call76 rfl rfl rfl rfl) rfl rfl rfl ?_
          refine PWl.guardT (LR.move rfl) rfl rfl rfl ?_
          replace h := iDet h
          obtain ⟨v81, hy82, h⟩ := h
          refine PWl.frz [74] hK (.cons rfl <| .nil) rfl (by simp) ?_
          refine PWl.guardT (LR.callN (r06_Eq_ok v79 v4 v81 hy82) rfl Try.call27 rfl rfl rfl rfl) rfl rfl rfl ?_
          refine PWl.step (LR.pickT rfl rfl) rfl ?_
          refine PWl.step (LR.move rfl) rfl ?_
          refine PWl.split (d := 78) rfl (fun hg83 => ?_) (fun hg83 => ?_)
          · replace h := iT hg83 h
            refine PWl.guardT (LR.move rfl) rfl rfl rfl ?_
            refine PWl.guardT (LR.move rfl) rfl rfl rfl ?_
            replace h := iDet h
            obtain ⟨v84, hy85, h⟩ := h
            refine PWl.guardT (LR.rowN (runs_Meet_ok b2 a1 v84 hy85) rfl Try.call77 rfl rfl rfl rfl) rfl rfl rfl ?_
            refine PWl.guardT (LR.move rfl) rfl rfl rfl ?_
            replace h := iDet h
            obtain ⟨v86, hy87, h⟩ := h
            refine PWl.frz [81] hK (.cons rfl <| .nil) rfl (by simp) ?_
            refine PWl.guardT (LR.callN (r06_Eq_ok v84 m10 v86 hy87) rfl Try.call27 rfl rfl rfl rfl) rfl rfl rfl ?_
            refine PWl.step (LR.pickT rfl rfl) rfl ?_
            refine PWl.step (LR.move rfl) rfl ?_
            refine PWl.re (tl := [(0, _), (1, _), (7, _), (8, _), (9, _), (85, _)]) (to := []) rfl (.cons rfl rfl <| .cons rfl rfl <| .cons rfl rfl <| .cons rfl rfl <| .cons rfl rfl <| .cons rfl rfl <| .nil) (.nil) ?_
            refine PWl.split (d := 85) rfl (fun hg88 => ?_) (fun hg88 => ?_)
            · replace h := iT hg88 h
              refine PWl.guardT (LR.move rfl) rfl rfl rfl ?_
              refine PWl.guardT (LR.move rfl) rfl rfl rfl ?_
              replace h := iDet h
              obtain ⟨v89, hy90, h⟩ := h
              refine PWl.guardT (LR.rowN (runs_Join_ok d11 m10 v89 hy90) rfl Try.call76 rfl rfl rfl rfl) rfl rfl rfl ?_
              refine PWl.guardT (LR.move rfl) rfl rfl rfl ?_
              replace h := iDet h
              obtain ⟨v91, hy92, h⟩ := h
              refine PWl.frz [88] hK (.cons rfl <| .nil) rfl (by simp) ?_
              refine PWl.guardT (LR.callN (runs_Same_ok v89 a1 v91 hy92) rfl Try.call81 rfl rfl rfl rfl) rfl rfl rfl ?_
              refine PWl.step (LR.pickT rfl rfl) rfl ?_
              refine PWl.step (LR.move rfl) rfl ?_
              refine PWl.split (d := 92) rfl (fun hg93 => ?_) (fun hg93 => ?_)
              · replace h := iT hg93 h
                refine PWl.guardT (LR.move rfl) rfl rfl rfl ?_
                refine PWl.guardT (LR.move rfl) rfl rfl rfl ?_
                replace h := iDet h
                obtain ⟨v94, hy95, h⟩ := h
                refine PWl.guardT (LR.rowN (runs_Meet_ok d11 b2 v94 hy95) rfl Try.call77 rfl rfl rfl rfl) rfl rfl rfl ?_
                refine PWl.guardT (LR.lenRow Try.underlying29 rfl) rfl rfl rfl ?_
                refine PWl.guardT (LR.eql rfl rfl) rfl rfl rfl ?_
                refine PWl.step (LR.pickT rfl rfl) rfl ?_
                refine PWl.re (tl := [(0, _), (7, _), (8, _), (9, _), (98, _)]) (to := []) rfl (.cons rfl rfl <| .cons rfl rfl <| .cons rfl rfl <| .cons rfl rfl <| .cons rfl rfl <| .nil) (.nil) ?_
                refine PWl.step (LR.move rfl) rfl ?_
                refine PWl.split (d := 99) rfl (fun hg96 => ?_) (fun hg96 => ?_)
                · replace h := iT hg96 h
                  refine PWl.guardT (LR.move rfl) rfl rfl rfl ?_
                  refine PWl.guardT (LR.move rfl) rfl rfl rfl ?_
                  replace h := iDet h
                  obtain ⟨v97, hy98, h⟩ := h
                  refine PWl.guardT (LR.callN (runs_Within_ok m10 a1 v97 hy98) rfl Try.call80 rfl rfl rfl rfl) rfl rfl rfl ?_
                  refine PWl.step (LR.pickT rfl rfl) rfl ?_
                  refine PWl.step (LR.move rfl) rfl ?_
                  refine PWl.split (d := 104) rfl (fun hg99 => ?_) (fun hg99 => ?_)
                  · replace h := iT hg99 h
                    refine PWl.guardT (LR.move rfl) rfl rfl rfl ?_
                    refine PWl.guardT (LR.move rfl) rfl rfl rfl ?_
                    replace h := iDet h
                    obtain ⟨v100, hy101, h⟩ := h
                    refine PWl.guardT (LR.callN (runs_Within_ok a1 v4 v100 hy101) rfl Try.call80 rfl rfl rfl rfl) rfl rfl rfl ?_
                    refine PWl.step (LR.pickT rfl rfl) rfl ?_
                    refine PWl.step (LR.move rfl) rfl ?_
                    refine PWl.split (d := 109) rfl (fun hg102 => ?_) (fun hg102 => ?_)
                    · replace h := iT hg102 h
                      refine PWl.guardT (LR.move rfl) rfl rfl rfl ?_
                      replace h := iDet h
                      obtain ⟨v103, hy104, h⟩ := h
                      refine PWl.guardT (LR.callN (runs_Good_ok v4 v103 hy104) rfl Try.call64 rfl rfl rfl rfl) rfl rfl rfl ?_
                      refine PWl.re (tl := [(8, _), (9, _), (109, _), (111, _)]) (to := []) rfl (.cons rfl rfl <| .cons rfl rfl <| .cons rfl rfl <| .cons rfl rfl <| .nil) (.nil) ?_
                      refine PWl.step (LR.pickT rfl rfl) rfl ?_
                      refine PWl.step (LR.move rfl) rfl ?_
                      refine PWl.split (d := 113) rfl (fun hg105 => ?_) (fun hg105 => ?_)
                      · replace h := iT hg105 h
                        refine PWl.guardT (LR.move rfl) rfl rfl rfl ?_
                        replace h := iDet h
                        obtain ⟨v106, hy107, h⟩ := h
                        refine PWl.guardT (LR.callN (runs_Good_ok m10 v106 hy107) rfl Try.call64 rfl rfl rfl rfl) rfl rfl rfl ?_
                        refine PWl.step (LR.pickT rfl rfl) rfl ?_
                        refine PWl.step (LR.move rfl) rfl ?_
                        refine PWl.split (d := 117) rfl (fun hg108 => ?_) (fun hg108 => ?_)
                        · replace h := iT hg108 h
                          refine PWl.guardT (LR.move rfl) rfl rfl rfl ?_
                          replace h := iDet h
                          obtain ⟨v109, hy110, h⟩ := h
                          refine PWl.guardT (LR.callN (runs_Good_ok d11 v109 hy110) rfl Try.call64 rfl rfl rfl rfl) rfl rfl rfl ?_
                          refine PWl.step (LR.pickT rfl rfl) rfl ?_
                          refine PWl.step (LR.move rfl) rfl ?_
                          refine PWl.split (d := 121) rfl (fun hg111 => ?_) (fun hg111 => ?_)
                          · replace h := iT hg111 h
                            replace h := iDet h
                            obtain ⟨v112, hy113, h⟩ := h
                            refine PWl.guardT (LR.callN (l06_works_ok v112 hy113) rfl Try.call23 rfl rfl rfl rfl) rfl rfl rfl ?_
                            refine PWl.step (LR.pickT rfl rfl) rfl ?_
                            refine PWl.step (LR.assign rfl) rfl ?_
                            refine PWl.nil ?_
                            exact ⟨v112, (), h, Sub.of rfl (.cons rfl rfl <| .nil) (.nil)⟩
                          · replace h := iF hg111 h
                            refine PWl.guardF rfl rfl rfl (by decide) ?_
                            refine PWl.step (LR.pickF rfl rfl) rfl ?_
                            refine PWl.step (LR.assign rfl) rfl ?_
                            refine PWl.nil ?_
                            exact ⟨false, (), h, Sub.of rfl (.cons rfl rfl <| .nil) (.nil)⟩
                        · replace h := iF hg108 h
                          refine PWl.guardF rfl rfl rfl (by decide) ?_
                          refine PWl.guardF rfl rfl rfl (by decide) ?_
                          refine PWl.step (LR.pickF rfl rfl) rfl ?_
                          refine PWl.step (LR.move rfl) rfl ?_
                          refine PWl.guardF rfl rfl rfl (by decide) ?_
                          refine PWl.step (LR.pickF rfl rfl) rfl ?_
                          refine PWl.step (LR.assign rfl) rfl ?_
                          refine PWl.nil ?_
                          exact ⟨false, (), h, Sub.of rfl (.cons rfl rfl <| .nil) (.nil)⟩
                      · replace h := iF hg105 h
                        refine PWl.guardF rfl rfl rfl (by decide) ?_
                        refine PWl.guardF rfl rfl rfl (by decide) ?_
                        refine PWl.step (LR.pickF rfl rfl) rfl ?_
                        refine PWl.step (LR.move rfl) rfl ?_
                        refine PWl.guardF rfl rfl rfl (by decide) ?_
                        refine PWl.guardF rfl rfl rfl (by decide) ?_
                        refine PWl.step (LR.pickF rfl rfl) rfl ?_
                        refine PWl.step (LR.move rfl) rfl ?_
                        refine PWl.guardF rfl rfl rfl (by decide) ?_
                        refine PWl.step (LR.pickF rfl rfl) rfl ?_
                        refine PWl.step (LR.assign rfl) rfl ?_
                        refine PWl.nil ?_
                        exact ⟨false, (), h, Sub.of rfl (.cons rfl rfl <| .nil) (.nil)⟩
                    · replace h := iF hg102 h
                      refine PWl.guardF rfl rfl rfl (by decide) ?_
                      refine PWl.guardF rfl rfl rfl (by decide) ?_
                      refine PWl.re (tl := [(8, _), (9, _), (109, _), (111, _)]) (to := []) rfl (.cons rfl rfl <| .cons rfl rfl <| .cons rfl rfl <| .cons rfl rfl <| .nil) (.nil) ?_
                      refine PWl.step (LR.pickF rfl rfl) rfl ?_
                      refine PWl.step (LR.move rfl) rfl ?_
                      refine PWl.guardF rfl rfl rfl (by decide) ?_
                      refine PWl.guardF rfl rfl rfl (by decide) ?_
                      refine PWl.step (LR.pickF rfl rfl) rfl ?_
                      refine PWl.step (LR.move rfl) rfl ?_
                      refine PWl.guardF rfl rfl rfl (by decide) ?_
                      refine PWl.guardF rfl rfl rfl (by decide) ?_
                      refine PWl.step (LR.pickF rfl rfl) rfl ?_
                      refine PWl.step (LR.move rfl) rfl ?_
                      refine PWl.guardF rfl rfl rfl (by decide) ?_
                      refine PWl.step (LR.pickF rfl rfl) rfl ?_
                      refine PWl.step (LR.assign rfl) rfl ?_
                      refine PWl.nil ?_
                      exact ⟨false, (), h, Sub.of rfl (.cons rfl rfl <| .nil) (.nil)⟩
                  · replace h := iF hg99 h
                    refine PWl.guardF rfl rfl rfl (by decide) ?_
                    refine PWl.guardF rfl rfl rfl (by decide) ?_
                    refine PWl.guardF rfl rfl rfl (by decide) ?_
                    refine PWl.step (LR.pickF rfl rfl) rfl ?_
                    refine PWl.step (LR.move rfl) rfl ?_
                    refine PWl.guardF rfl rfl rfl (by decide) ?_
                    refine PWl.guardF rfl rfl rfl (by decide) ?_
                    refine PWl.step (LR.pickF rfl rfl) rfl ?_
                    refine PWl.re (tl := [(8, _), (9, _), (112, _)]) (to := []) rfl (.cons rfl rfl <| .cons rfl rfl <| .cons rfl rfl <| .nil) (.nil) ?_
                    refine PWl.step (LR.move rfl) rfl ?_
                    refine PWl.guardF rfl rfl rfl (by decide) ?_
                    refine PWl.guardF rfl rfl rfl (by decide) ?_
                    refine PWl.step (LR.pickF rfl rfl) rfl ?_
                    refine PWl.step (LR.move rfl) rfl ?_
                    refine PWl.guardF rfl rfl rfl (by decide) ?_
                    refine PWl.guardF rfl rfl rfl (by decide) ?_
                    refine PWl.step (LR.pickF rfl rfl) rfl ?_
                    refine PWl.step (LR.move rfl) rfl ?_
                    refine PWl.guardF rfl rfl rfl (by decide) ?_
                    refine PWl.step (LR.pickF rfl rfl) rfl ?_
                    refine PWl.step (LR.assign rfl) rfl ?_
                    refine PWl.nil ?_
                    exact ⟨false, (), h, Sub.of rfl (.cons rfl rfl <| .nil) (.nil)⟩
                · replace h := iF hg96 h
                  refine PWl.guardF rfl rfl rfl (by decide) ?_
                  refine PWl.guardF rfl rfl rfl (by decide) ?_
                  refine PWl.guardF rfl rfl rfl (by decide) ?_
                  refine PWl.step (LR.pickF rfl rfl) rfl ?_
                  refine PWl.step (LR.move rfl) rfl ?_
                  refine PWl.guardF rfl rfl rfl (by decide) ?_
                  refine PWl.guardF rfl rfl rfl (by decide) ?_
                  refine PWl.guardF rfl rfl rfl (by decide) ?_
                  refine PWl.step (LR.pickF rfl rfl) rfl ?_
                  refine PWl.step (LR.move rfl) rfl ?_
                  refine PWl.guardF rfl rfl rfl (by decide) ?_
                  refine PWl.guardF rfl rfl rfl (by decide) ?_
                  refine PWl.step (LR.pickF rfl rfl) rfl ?_
                  refine PWl.step (LR.move rfl) rfl ?_
                  refine PWl.re (tl := [(8, _), (9, _), (113, _)]) (to := []) rfl (.cons rfl rfl <| .cons rfl rfl <| .cons rfl rfl <| .nil) (.nil) ?_
                  refine PWl.guardF rfl rfl rfl (by decide) ?_
                  refine PWl.guardF rfl rfl rfl (by decide) ?_
                  refine PWl.step (LR.pickF rfl rfl) rfl ?_
                  refine PWl.step (LR.move rfl) rfl ?_
                  refine PWl.guardF rfl rfl rfl (by decide) ?_
                  refine PWl.guardF rfl rfl rfl (by decide) ?_
                  refine PWl.step (LR.pickF rfl rfl) rfl ?_
                  refine PWl.step (LR.move rfl) rfl ?_
                  refine PWl.guardF rfl rfl rfl (by decide) ?_
                  refine PWl.step (LR.pickF rfl rfl) rfl ?_
                  refine PWl.step (LR.assign rfl) rfl ?_
                  refine PWl.nil ?_
                  exact ⟨false, (), h, Sub.of rfl (.cons rfl rfl <| .nil) (.nil)⟩
              · replace h := iF hg93 h
                refine PWl.guardF rfl rfl rfl (by decide) ?_
                refine PWl.guardF rfl rfl rfl (by decide) ?_
                refine PWl.guardF rfl rfl rfl (by decide) ?_
                refine PWl.guardF rfl rfl rfl (by decide) ?_
                refine PWl.guardF rfl rfl rfl (by decide) ?_
                refine PWl.step (LR.pickF rfl rfl) rfl ?_
                refine PWl.re (tl := [(0, _), (7, _), (8, _), (9, _), (98, _)]) (to := []) rfl (.cons rfl rfl <| .cons rfl rfl <| .cons rfl rfl <| .cons rfl rfl <| .cons rfl rfl <| .nil) (.nil) ?_
                refine PWl.step (LR.move rfl) rfl ?_
                refine PWl.guardF rfl rfl rfl (by decide) ?_
                refine PWl.guardF rfl rfl rfl (by decide) ?_
                refine PWl.guardF rfl rfl rfl (by decide) ?_
                refine PWl.step (LR.pickF rfl rfl) rfl ?_
                refine PWl.step (LR.move rfl) rfl ?_
                refine PWl.guardF rfl rfl rfl (by decide) ?_
                refine PWl.guardF rfl rfl rfl (by decide) ?_
                refine PWl.guardF rfl rfl rfl (by decide) ?_
                refine PWl.step (LR.pickF rfl rfl) rfl ?_
                refine PWl.step (LR.move rfl) rfl ?_
                refine PWl.guardF rfl rfl rfl (by decide) ?_
                refine PWl.guardF rfl rfl rfl (by decide) ?_
                refine PWl.step (LR.pickF rfl rfl) rfl ?_
                refine PWl.step (LR.move rfl) rfl ?_
                refine PWl.guardF rfl rfl rfl (by decide) ?_
                refine PWl.re (tl := [(9, _), (113, _), (114, _)]) (to := []) rfl (.cons rfl rfl <| .cons rfl rfl <| .cons rfl rfl <| .nil) (.nil) ?_
                refine PWl.guardF rfl rfl rfl (by decide) ?_
                refine PWl.step (LR.pickF rfl rfl) rfl ?_
                refine PWl.step (LR.move rfl) rfl ?_
                refine PWl.guardF rfl rfl rfl (by decide) ?_
                refine PWl.guardF rfl rfl rfl (by decide) ?_
                refine PWl.step (LR.pickF rfl rfl) rfl ?_
                refine PWl.step (LR.move rfl) rfl ?_
                refine PWl.guardF rfl rfl rfl (by decide) ?_
                refine PWl.step (LR.pickF rfl rfl) rfl ?_
                refine PWl.step (LR.assign rfl) rfl ?_
                refine PWl.nil ?_
                exact ⟨false, (), h, Sub.of rfl (.cons rfl rfl <| .nil) (.nil)⟩
            · replace h := iF hg88 h
              refine PWl.guardF rfl rfl rfl (by decide) ?_
              refine PWl.guardF rfl rfl rfl (by decide) ?_
              refine PWl.guardF rfl rfl rfl (by decide) ?_
              refine PWl.guardF rfl rfl rfl (by decide) ?_
              refine PWl.guardF rfl rfl rfl (by decide) ?_
              refine PWl.step (LR.pickF rfl rfl) rfl ?_
              refine PWl.step (LR.move rfl) rfl ?_
              refine PWl.guardF rfl rfl rfl (by decide) ?_
              refine PWl.guardF rfl rfl rfl (by decide) ?_
              refine PWl.guardF rfl rfl rfl (by decide) ?_
              refine PWl.guardF rfl rfl rfl (by decide) ?_
              refine PWl.guardF rfl rfl rfl (by decide) ?_
              refine PWl.step (LR.pickF rfl rfl) rfl ?_
              refine PWl.step (LR.move rfl) rfl ?_
              refine PWl.re (tl := [(0, _), (7, _), (8, _), (9, _), (99, _)]) (to := []) rfl (.cons rfl rfl <| .cons rfl rfl <| .cons rfl rfl <| .cons rfl rfl <| .cons rfl rfl <| .nil) (.nil) ?_
              refine PWl.guardF rfl rfl rfl (by decide) ?_
              refine PWl.guardF rfl rfl rfl (by decide) ?_
              refine PWl.guardF rfl rfl rfl (by decide) ?_
              refine PWl.step (LR.pickF rfl rfl) rfl ?_
              refine PWl.step (LR.move rfl) rfl ?_
              refine PWl.guardF rfl rfl rfl (by decide) ?_
              refine PWl.guardF rfl rfl rfl (by decide) ?_
              refine PWl.guardF rfl rfl rfl (by decide) ?_
              refine PWl.step (LR.pickF rfl rfl) rfl ?_
              refine PWl.step (LR.move rfl) rfl ?_
              refine PWl.guardF rfl rfl rfl (by decide) ?_
              refine PWl.guardF rfl rfl rfl (by decide) ?_
              refine PWl.step (LR.pickF rfl rfl) rfl ?_
              refine PWl.step (LR.move rfl) rfl ?_
              refine PWl.guardF rfl rfl rfl (by decide) ?_
              refine PWl.guardF rfl rfl rfl (by decide) ?_
              refine PWl.re (tl := [(9, _), (113, _), (115, _)]) (to := []) rfl (.cons rfl rfl <| .cons rfl rfl <| .cons rfl rfl <| .nil) (.nil) ?_
              refine PWl.step (LR.pickF rfl rfl) rfl ?_
              refine PWl.step (LR.move rfl) rfl ?_
              refine PWl.guardF rfl rfl rfl (by decide) ?_
              refine PWl.guardF rfl rfl rfl (by decide) ?_
              refine PWl.step (LR.pickF rfl rfl) rfl ?_
              refine PWl.step (LR.move rfl) rfl ?_
              refine PWl.guardF rfl rfl rfl (by decide) ?_
              refine PWl.step (LR.pickF rfl rfl) rfl ?_
              refine PWl.step (LR.assign rfl) rfl ?_
              refine PWl.nil ?_
              exact ⟨false, (), h, Sub.of rfl (.cons rfl rfl <| .nil) (.nil)⟩
          · replace h := iF hg83 h
            refine PWl.guardF rfl rfl rfl (by decide) ?_
            refine PWl.guardF rfl rfl rfl (by decide) ?_
            refine PWl.guardF rfl rfl rfl (by decide) ?_
            refine PWl.guardF rfl rfl rfl (by decide) ?_
            refine PWl.guardF rfl rfl rfl (by decide) ?_
            refine PWl.step (LR.pickF rfl rfl) rfl ?_
            refine PWl.step (LR.move rfl) rfl ?_
            refine PWl.re (tl := [(0, _), (1, _), (7, _), (8, _), (9, _), (85, _)]) (to := []) rfl (.cons rfl rfl <| .cons rfl rfl <| .cons rfl rfl <| .cons rfl rfl <| .cons rfl rfl <| .cons rfl rfl <| .nil) (.nil) ?_
            refine PWl.guardF rfl rfl rfl (by decide) ?_
            refine PWl.guardF rfl rfl rfl (by decide) ?_
            refine PWl.guardF rfl rfl rfl (by decide) ?_
            refine PWl.guardF rfl rfl rfl (by decide) ?_
            refine PWl.guardF rfl rfl rfl (by decide) ?_
            refine PWl.step (LR.pickF rfl rfl) rfl ?_
            refine PWl.step (LR.move rfl) rfl ?_
            refine PWl.guardF rfl rfl rfl (by decide) ?_
            refine PWl.guardF rfl rfl rfl (by decide) ?_
            refine PWl.guardF rfl rfl rfl (by decide) ?_
            refine PWl.guardF rfl rfl rfl (by decide) ?_
            refine PWl.guardF rfl rfl rfl (by decide) ?_
            refine PWl.step (LR.pickF rfl rfl) rfl ?_
            refine PWl.step (LR.move rfl) rfl ?_
            refine PWl.guardF rfl rfl rfl (by decide) ?_
            refine PWl.re (tl := [(0, _), (7, _), (8, _), (9, _), (99, _), (100, _)]) (to := []) rfl (.cons rfl rfl <| .cons rfl rfl <| .cons rfl rfl <| .cons rfl rfl <| .cons rfl rfl <| .cons rfl rfl <| .nil) (.nil) ?_
            refine PWl.guardF rfl rfl rfl (by decide) ?_
            refine PWl.guardF rfl rfl rfl (by decide) ?_
            refine PWl.step (LR.pickF rfl rfl) rfl ?_
            refine PWl.step (LR.move rfl) rfl ?_
            refine PWl.guardF rfl rfl rfl (by decide) ?_
            refine PWl.guardF rfl rfl rfl (by decide) ?_
            refine PWl.guardF rfl rfl rfl (by decide) ?_
            refine PWl.step (LR.pickF rfl rfl) rfl ?_
            refine PWl.step (LR.move rfl) rfl ?_
            refine PWl.guardF rfl rfl rfl (by decide) ?_
            refine PWl.guardF rfl rfl rfl (by decide) ?_
            refine PWl.step (LR.pickF rfl rfl) rfl ?_
            refine PWl.step (LR.move rfl) rfl ?_
            refine PWl.guardF rfl rfl rfl (by decide) ?_
            refine PWl.guardF rfl rfl rfl (by decide) ?_
            refine PWl.re (tl := [(9, _), (113, _), (115, _)]) (to := []) rfl (.cons rfl rfl <| .cons rfl rfl <| .cons rfl rfl <| .nil) (.nil) ?_
            refine PWl.step (LR.pickF rfl rfl) rfl ?_
            refine PWl.step (LR.move rfl) rfl ?_
            refine PWl.guardF rfl rfl rfl (by decide) ?_
            refine PWl.guardF rfl rfl rfl (by decide) ?_
            refine PWl.step (LR.pickF rfl rfl) rfl ?_
            refine PWl.step (LR.move rfl) rfl ?_
            refine PWl.guardF rfl rfl rfl (by decide) ?_
            refine PWl.step (LR.pickF rfl rfl) rfl ?_
            refine PWl.step (LR.assign rfl) rfl ?_
            refine PWl.nil ?_
            exact ⟨false, (), h, Sub.of rfl (.cons rfl rfl <| .nil) (.nil)⟩
        · replace h := iF hg78 h
          refine PWl.guardF rfl rfl rfl (by decide) ?_
          refine PWl.guardF rfl rfl rfl (by decide) ?_
          refine PWl.re (tl := [(0, _), (1, _), (7, _), (8, _), (9, _), (71, _), (72, _), (73, _)]) (to := []) rfl (.cons rfl rfl <| .cons rfl rfl <| .cons rfl rfl <| .cons rfl rfl <| .cons rfl rfl <| .cons rfl rfl <| .cons rfl rfl <| .cons rfl rfl <| .nil) (.nil) ?_
          refine PWl.guardF rfl rfl rfl (by decide) ?_
          refine PWl.guardF rfl rfl rfl (by decide) ?_
          refine PWl.guardF rfl rfl rfl (by decide) ?_
          refine PWl.step (LR.pickF rfl rfl) rfl ?_
          refine PWl.step (LR.move rfl) rfl ?_
          refine PWl.guardF rfl rfl rfl (by decide) ?_
          refine PWl.guardF rfl rfl rfl (by decide) ?_
          refine PWl.guardF rfl rfl rfl (by decide) ?_
          refine PWl.guardF rfl rfl rfl (by decide) ?_
          refine PWl.guardF rfl rfl rfl (by decide) ?_
          refine PWl.step (LR.pickF rfl rfl) rfl ?_
          refine PWl.step (LR.move rfl) rfl ?_
          refine PWl.guardF rfl rfl rfl (by decide) ?_
          refine PWl.re (tl := [(0, _), (1, _), (7, _), (8, _), (9, _), (85, _), (86, _)]) (to := []) rfl (.cons rfl rfl <| .cons rfl rfl <| .cons rfl rfl <| .cons rfl rfl <| .cons rfl rfl <| .cons rfl rfl <| .cons rfl rfl <| .nil) (.nil) ?_
          refine PWl.guardF rfl rfl rfl (by decide) ?_
          refine PWl.guardF rfl rfl rfl (by decide) ?_
          refine PWl.guardF rfl rfl rfl (by decide) ?_
          refine PWl.guardF rfl rfl rfl (by decide) ?_
          refine PWl.step (LR.pickF rfl rfl) rfl ?_
          refine PWl.step (LR.move rfl) rfl ?_
          refine PWl.guardF rfl rfl rfl (by decide) ?_
          refine PWl.guardF rfl rfl rfl (by decide) ?_
          refine PWl.guardF rfl rfl rfl (by decide) ?_
          refine PWl.guardF rfl rfl rfl (by decide) ?_
          refine PWl.guardF rfl rfl rfl (by decide) ?_
          refine PWl.step (LR.pickF rfl rfl) rfl ?_
          refine PWl.step (LR.move rfl) rfl ?_
          refine PWl.guardF rfl rfl rfl (by decide) ?_
          refine PWl.re (tl := [(0, _), (7, _), (8, _), (9, _), (99, _), (100, _)]) (to := []) rfl (.cons rfl rfl <| .cons rfl rfl <| .cons rfl rfl <| .cons rfl rfl <| .cons rfl rfl <| .cons rfl rfl <| .nil) (.nil) ?_
          refine PWl.guardF rfl rfl rfl (by decide) ?_
          refine PWl.guardF rfl rfl rfl (by decide) ?_
          refine PWl.step (LR.pickF rfl rfl) rfl ?_
          refine PWl.step (LR.move rfl) rfl ?_
          refine PWl.guardF rfl rfl rfl (by decide) ?_
          refine PWl.guardF rfl rfl rfl (by decide) ?_
          refine PWl.guardF rfl rfl rfl (by decide) ?_
          refine PWl.step (LR.pickF rfl rfl) rfl ?_
          refine PWl.step (LR.move rfl) rfl ?_
          refine PWl.guardF rfl rfl rfl (by decide) ?_
          refine PWl.guardF rfl rfl rfl (by decide) ?_
          refine PWl.step (LR.pickF rfl rfl) rfl ?_
          refine PWl.step (LR.move rfl) rfl ?_
          refine PWl.guardF rfl rfl rfl (by decide) ?_
          refine PWl.guardF rfl rfl rfl (by decide) ?_
          refine PWl.re (tl := [(9, _), (113, _), (115, _)]) (to := []) rfl (.cons rfl rfl <| .cons rfl rfl <| .cons rfl rfl <| .nil) (.nil) ?_
          refine PWl.step (LR.pickF rfl rfl) rfl ?_
          refine PWl.step (LR.move rfl) rfl ?_
          refine PWl.guardF rfl rfl rfl (by decide) ?_
          refine PWl.guardF rfl rfl rfl (by decide) ?_
          refine PWl.step (LR.pickF rfl rfl) rfl ?_
          refine PWl.step (LR.move rfl) rfl ?_
          refine PWl.guardF rfl rfl rfl (by decide) ?_
          refine PWl.step (LR.pickF rfl rfl) rfl ?_
          refine PWl.step (LR.assign rfl) rfl ?_
          refine PWl.nil ?_
          exact ⟨false, (), h, Sub.of rfl (.cons rfl rfl <| .nil) (.nil)⟩
      · rintro v69 _ h
        refine PWc.ret ?_
        replace h : _ = r0 := h
        subst h
        exact ⟨.inr rfl, _, .cons (.tmp rfl rfl) <| .nil, rfl⟩
end Go.Proofs

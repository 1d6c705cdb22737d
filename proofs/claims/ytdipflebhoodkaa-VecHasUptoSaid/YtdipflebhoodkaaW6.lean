/- Walks: written by program. -/
import Derived.Test.YtdipflebhoodkaaFc
import Derived.Test.YtdipflebhoodkaaSh
import Derived.Test.YtdipflebhoodkaaSx
import Derived.Test.YtdipflebhoodkaaW5
namespace Go.Proofs
open Go.Ep
set_option maxHeartbeats 1000000
set_option maxRecDepth 100000
set_option linter.unusedVariables false
set_option linter.unusedSimpArgs false


theorem vec_Good_ok (v1 : List TDot) (r0 : Bool) (h : (vec_Good v1).wp (· = r0)) : PFun Try.prog 55 [.d (.sl (List.map TDot.e v1))] (.d (.v (.bool r0))) := by
  refine PFun.intro (sl := [(0, _)]) Try.func55 rfl Try.ntmps55 rfl rfl ?_
  intro ctx hK
  refine PWc.seq ?_
  refine PWc.region ?_
  refine PWl.step (LR.assign rfl) rfl ?_
  refine PWl.nil ?_
  refine PWc.seq ?_
  refine PWc.region ?_
  refine PWl.step (LR.move rfl) rfl ?_
  refine PWl.step (LR.move rfl) rfl ?_
  replace h := iDet h
  obtain ⟨v2, hy3, h⟩ := h
  refine PWl.step (LR.rowN (vec_Norm_ok v1 v2 hy3) rfl Try.call54 rfl rfl rfl rfl) rfl ?_
  replace h := iDet h
  obtain ⟨v4, hy5, h⟩ := h
  refine PWl.frz [5] hK (.cons rfl <| .nil) rfl (by simp) ?_
  refine PWl.step (LR.callN (dot_Same_ok v1 v2 v4 hy5) rfl Try.call104 rfl rfl rfl rfl) rfl ?_
  refine PWl.step (LR.assign rfl) rfl ?_
  refine PWl.nil ?_
  refine PWc.ret ?_
  replace h : _ = r0 := h
  subst h
  exact ⟨.inr rfl, _, .cons (.tmp rfl rfl) <| .nil, rfl⟩

theorem l08_VecLaws_ok (a1 : List TDot) (b2 : List TDot) (c3 : List TDot) (r0 : Bool) (h : (l08_VecLaws a1 b2 c3).wp (· = r0)) : PFun Try.prog 9 [.d (.sl (List.map TDot.e a1)), .d (.sl (List.map TDot.e b2)), .d (.sl (List.map TDot.e c3))] (.d (.v (.bool r0))) := by
  refine PFun.intro (sl := [(0, _), (1, _), (2, _)]) Try.func9 rfl Try.ntmps9 rfl rfl ?_
  intro ctx hK
  refine PWc.seq ?_
  refine PWc.region ?_
  refine PWl.step (LR.assign rfl) rfl ?_
  refine PWl.nil ?_
  refine PWc.seq ?_
  refine PWc.region ?_
  refine PWl.step (LR.move rfl) rfl ?_
  replace h := iDet h
  obtain ⟨v4, hy5, h⟩ := h
  refine PWl.step (LR.rowN (vec_Norm_ok a1 v4 hy5) rfl Try.call54 rfl rfl rfl rfl) rfl ?_
  refine PWl.step (LR.assign rfl) rfl ?_
  refine PWl.nil ?_
  refine PWc.seq ?_
  refine PWc.jn (iBind h) (fun (v6 : Bool) (_ : Unit) => ⟨81, [(6, .d (.v (.bool v6)))], []⟩) (fun h => ?_) ?_
  · refine PWc.region ?_
    refine PWl.step (LR.move rfl) rfl ?_
    refine PWl.step (LR.move rfl) rfl ?_
    replace h := iDet h
    obtain ⟨v7, hy8, h⟩ := h
    refine PWl.step (LR.rowN (vec_Join_ok a1 b2 v7 hy8) rfl Try.call40 rfl rfl rfl rfl) rfl ?_
    refine PWl.step (LR.move rfl) rfl ?_
    refine PWl.step (LR.move rfl) rfl ?_
    replace h := iDet h
    obtain ⟨v9, hy10, h⟩ := h
    refine PWl.step (LR.rowN (vec_Join_ok b2 a1 v9 hy10) rfl Try.call40 rfl rfl rfl rfl) rfl ?_
    replace h := iDet h
    obtain ⟨v11, hy12, h⟩ := h
    refine PWl.frz [12] hK (.cons rfl <| .nil) rfl (by simp) ?_
    refine PWl.frz [15] hK (.cons rfl <| .nil) rfl (by simp) ?_
    refine PWl.step (LR.callN (r07_Same_ok v7 v9 v11 hy12) rfl Try.call39 rfl rfl rfl rfl) rfl ?_
    refine PWl.step (LR.move rfl) rfl ?_
    refine PWl.split (d := 17) rfl (fun hg13 => ?_) (fun hg13 => ?_)
    · replace h := iT hg13 h
      refine PWl.guardT (LR.move rfl) rfl rfl rfl ?_
      refine PWl.guardT (LR.move rfl) rfl rfl rfl ?_
      replace h := iDet h
      obtain ⟨v14, hy15, h⟩ := h
      refine PWl.guardT (LR.rowN (vec_Join_ok a1 b2 v14 hy15) rfl Try.call40 rfl rfl rfl rfl) rfl rfl rfl ?_
      refine PWl.guardT (LR.move rfl) rfl rfl rfl ?_
      replace h := iDet h
      obtain ⟨v16, hy17, h⟩ := h
      refine PWl.frz [20] hK (.cons rfl <| .nil) rfl (by simp) ?_
      refine PWl.guardT (LR.rowN (vec_Join_ok v14 c3 v16 hy17) rfl Try.call40 rfl rfl rfl rfl) rfl rfl rfl ?_
      refine PWl.re (tl := [(0, _), (1, _), (2, _), (6, _), (7, _), (17, _), (22, _)]) (to := [(9, _), (22, _)]) rfl (.cons rfl rfl <| .cons rfl rfl <| .cons rfl rfl <| .cons rfl rfl <| .cons rfl rfl <| .cons rfl rfl <| .cons rfl rfl <| .nil) (.cons rfl rfl <| .cons rfl rfl <| .nil) ?_
      refine PWl.guardT (LR.move rfl) rfl rfl rfl ?_
      refine PWl.guardT (LR.move rfl) rfl rfl rfl ?_
      refine PWl.guardT (LR.move rfl) rfl rfl rfl ?_
      replace h := iDet h
      obtain ⟨v18, hy19, h⟩ := h
      refine PWl.guardT (LR.rowN (vec_Join_ok b2 c3 v18 hy19) rfl Try.call40 rfl rfl rfl rfl) rfl rfl rfl ?_
      replace h := iDet h
      obtain ⟨v20, hy21, h⟩ := h
      refine PWl.frz [26] hK (.cons rfl <| .nil) rfl (by simp) ?_
      refine PWl.guardT (LR.rowN (vec_Join_ok a1 v18 v20 hy21) rfl Try.call40 rfl rfl rfl rfl) rfl rfl rfl ?_
      replace h := iDet h
      obtain ⟨v22, hy23, h⟩ := h
      refine PWl.frz [22] hK (.cons rfl <| .nil) rfl (by simp) ?_
      refine PWl.frz [27] hK (.cons rfl <| .nil) rfl (by simp) ?_
      refine PWl.guardT (LR.callN (r07_Same_ok v16 v20 v22 hy23) rfl Try.call39 rfl rfl rfl rfl) rfl rfl rfl ?_
      refine PWl.step (LR.pickT rfl rfl) rfl ?_
      refine PWl.step (LR.move rfl) rfl ?_
      refine PWl.split (d := 30) rfl (fun hg24 => ?_) (fun hg24 => ?_)
      · replace h := iT hg24 h
        refine PWl.guardT (LR.move rfl) rfl rfl rfl ?_
        refine PWl.guardT (LR.move rfl) rfl rfl rfl ?_
        replace h := iDet h
        obtain ⟨v25, hy26, h⟩ := h
        refine PWl.guardT (LR.rowN (vec_Meet_ok a1 b2 v25 hy26) rfl Try.call42 rfl rfl rfl rfl) rfl rfl rfl ?_
        refine PWl.guardT (LR.move rfl) rfl rfl rfl ?_
        replace h := iDet h
        obtain ⟨v27, hy28, h⟩ := h
        refine PWl.frz [33] hK (.cons rfl <| .nil) rfl (by simp) ?_
        refine PWl.guardT (LR.rowN (vec_Meet_ok v25 c3 v27 hy28) rfl Try.call42 rfl rfl rfl rfl) rfl rfl rfl ?_
        refine PWl.re (tl := [(0, _), (1, _), (2, _), (6, _), (7, _), (30, _), (35, _)]) (to := [(9, _), (35, _)]) rfl (.cons rfl rfl <| .cons rfl rfl <| .cons rfl rfl <| .cons rfl rfl <| .cons rfl rfl <| .cons rfl rfl <| .cons rfl rfl <| .nil) (.cons rfl rfl <| .cons rfl rfl <| .nil) ?_
        refine PWl.guardT (LR.move rfl) rfl rfl rfl ?_
        refine PWl.guardT (LR.move rfl) rfl rfl rfl ?_
        refine PWl.guardT (LR.move rfl) rfl rfl rfl ?_
        replace h := iDet h
        obtain ⟨v29, hy30, h⟩ := h
        refine PWl.guardT (LR.rowN (vec_Meet_ok b2 c3 v29 hy30) rfl Try.call42 rfl rfl rfl rfl) rfl rfl rfl ?_
        replace h := iDet h
        obtain ⟨v31, hy32, h⟩ := h
        refine PWl.frz [39] hK (.cons rfl <| .nil) rfl (by simp) ?_
        refine PWl.guardT (LR.rowN (vec_Meet_ok a1 v29 v31 hy32) rfl Try.call42 rfl rfl rfl rfl) rfl rfl rfl ?_
        replace h := iDet h
        obtain ⟨v33, hy34, h⟩ := h
        refine PWl.frz [35] hK (.cons rfl <| .nil) rfl (by simp) ?_
        refine PWl.frz [40] hK (.cons rfl <| .nil) rfl (by simp) ?_
        refine PWl.guardT (LR.callN (r07_Same_ok v27 v31 v33 hy34) rfl Try.call39 rfl rfl rfl rfl) rfl rfl rfl ?_
        refine PWl.step (LR.pickT rfl rfl) rfl ?_
        refine PWl.step (LR.move rfl) rfl ?_
        refine PWl.split (d := 43) rfl (fun hg35 => ?_) (fun hg35 => ?_)
        · replace h := iT hg35 h
          refine PWl.guardT (LR.move rfl) rfl rfl rfl ?_
          refine PWl.guardT (LR.move rfl) rfl rfl rfl ?_
          replace h := iDet h
          obtain ⟨v36, hy37, h⟩ := h
          refine PWl.guardT (LR.rowN (vec_Join_ok a1 a1 v36 hy37) rfl Try.call40 rfl rfl rfl rfl) rfl rfl rfl ?_
          refine PWl.guardT (LR.move rfl) rfl rfl rfl ?_
          replace h := iDet h
          obtain ⟨v38, hy39, h⟩ := h
          refine PWl.frz [46] hK (.cons rfl <| .nil) rfl (by simp) ?_
          refine PWl.frz [7, 47] hK (.cons rfl <| .cons rfl <| .nil) rfl (by simp) ?_
          refine PWl.guardT (LR.callN (r07_Same_ok v36 v4 v38 hy39) rfl Try.call39 rfl rfl rfl rfl) rfl rfl rfl ?_
          refine PWl.re (tl := [(0, _), (1, _), (6, _), (7, _), (43, _), (48, _)]) (to := []) rfl (.cons rfl rfl <| .cons rfl rfl <| .cons rfl rfl <| .cons rfl rfl <| .cons rfl rfl <| .cons rfl rfl <| .nil) (.nil) ?_
          refine PWl.step (LR.pickT rfl rfl) rfl ?_
          refine PWl.step (LR.move rfl) rfl ?_
          refine PWl.split (d := 50) rfl (fun hg40 => ?_) (fun hg40 => ?_)
          · replace h := iT hg40 h
            refine PWl.guardT (LR.move rfl) rfl rfl rfl ?_
            refine PWl.guardT (LR.move rfl) rfl rfl rfl ?_
            refine PWl.guardT (LR.move rfl) rfl rfl rfl ?_
            replace h := iDet h
            obtain ⟨v41, hy42, h⟩ := h
            refine PWl.guardT (LR.rowN (vec_Join_ok a1 b2 v41 hy42) rfl Try.call40 rfl rfl rfl rfl) rfl rfl rfl ?_
            replace h := iDet h
            obtain ⟨v43, hy44, h⟩ := h
            refine PWl.frz [54] hK (.cons rfl <| .nil) rfl (by simp) ?_
            refine PWl.guardT (LR.rowN (vec_Meet_ok a1 v41 v43 hy44) rfl Try.call42 rfl rfl rfl rfl) rfl rfl rfl ?_
            refine PWl.guardT (LR.move rfl) rfl rfl rfl ?_
            replace h := iDet h
            obtain ⟨v45, hy46, h⟩ := h
            refine PWl.frz [55] hK (.cons rfl <| .nil) rfl (by simp) ?_
            refine PWl.guardT (LR.callN (r07_Same_ok v43 v4 v45 hy46) rfl Try.call39 rfl rfl rfl rfl) rfl rfl rfl ?_
            refine PWl.step (LR.pickT rfl rfl) rfl ?_
            refine PWl.step (LR.move rfl) rfl ?_
            refine PWl.split (d := 59) rfl (fun hg47 => ?_) (fun hg47 => ?_)
            · replace h := iT hg47 h
              refine PWl.guardT (LR.move rfl) rfl rfl rfl ?_
              refine PWl.guardT (LR.move rfl) rfl rfl rfl ?_
              refine PWl.re (tl := [(0, _), (1, _), (6, _), (7, _), (59, _), (60, _), (61, _)]) (to := []) rfl (.cons rfl rfl <| .cons rfl rfl <| .cons rfl rfl <| .cons rfl rfl <| .cons rfl rfl <| .cons rfl rfl <| .cons rfl rfl <| .nil) (.nil) ?_
              refine PWl.guardT (LR.move rfl) rfl rfl rfl ?_
              replace h := iDet h
              obtain ⟨v48, hy49, h⟩ := h
              refine PWl.guardT (LR.rowN (vec_Meet_ok a1 b2 v48 hy49) rfl Try.call42 rfl rfl rfl rfl) rfl rfl rfl ?_
              replace h := iDet h
              obtain ⟨v50, hy51, h⟩ := h
              refine PWl.frz [63] hK (.cons rfl <| .nil) rfl (by simp) ?_
              refine PWl.guardT (LR.rowN (vec_Join_ok a1 v48 v50 hy51) rfl Try.call40 rfl rfl rfl rfl) rfl rfl rfl ?_
              refine PWl.guardT (LR.move rfl) rfl rfl rfl ?_
              replace h := iDet h
              obtain ⟨v52, hy53, h⟩ := h
              refine PWl.frz [64] hK (.cons rfl <| .nil) rfl (by simp) ?_
              refine PWl.guardT (LR.callN (r07_Same_ok v50 v4 v52 hy53) rfl Try.call39 rfl rfl rfl rfl) rfl rfl rfl ?_
              refine PWl.step (LR.pickT rfl rfl) rfl ?_
              refine PWl.step (LR.move rfl) rfl ?_
              refine PWl.split (d := 68) rfl (fun hg54 => ?_) (fun hg54 => ?_)
              · replace h := iT hg54 h
                refine PWl.guardT (LR.move rfl) rfl rfl rfl ?_
                replace h := iDet h
                obtain ⟨v55, hy56, h⟩ := h
                refine PWl.guardT (LR.callN (vec_Good_ok v4 v55 hy56) rfl Try.call55 rfl rfl rfl rfl) rfl rfl rfl ?_
                refine PWl.step (LR.pickT rfl rfl) rfl ?_
                refine PWl.step (LR.move rfl) rfl ?_
                refine PWl.split (d := 72) rfl (fun hg57 => ?_) (fun hg57 => ?_)
                · replace h := iT hg57 h
                  refine PWl.guardT (LR.move rfl) rfl rfl rfl ?_
                  refine PWl.re (tl := [(6, _), (7, _), (72, _), (73, _)]) (to := []) rfl (.cons rfl rfl <| .cons rfl rfl <| .cons rfl rfl <| .cons rfl rfl <| .nil) (.nil) ?_
                  refine PWl.guardT (LR.move rfl) rfl rfl rfl ?_
                  replace h := iDet h
                  obtain ⟨v58, hy59, h⟩ := h
                  refine PWl.guardT (LR.callN (vec_Order_ok a1 v4 v58 hy59) rfl Try.call44 rfl rfl rfl rfl) rfl rfl rfl ?_
                  refine PWl.guardT (LR.eql rfl rfl) rfl rfl rfl ?_
                  refine PWl.step (LR.pickT rfl rfl) rfl ?_
                  refine PWl.step (LR.move rfl) rfl ?_
                  refine PWl.split (d := 78) rfl (fun hg60 => ?_) (fun hg60 => ?_)
                  · replace h := iT hg60 h
                    replace h := iDet h
                    obtain ⟨v61, hy62, h⟩ := h
                    refine PWl.guardT (LR.callN (l08_works_ok v61 hy62) rfl Try.call38 rfl rfl rfl rfl) rfl rfl rfl ?_
                    refine PWl.step (LR.pickT rfl rfl) rfl ?_
                    refine PWl.step (LR.assign rfl) rfl ?_
                    refine PWl.nil ?_
                    exact ⟨v61, (), h, Sub.of rfl (.cons rfl rfl <| .nil) (.nil)⟩
                  · replace h := iF hg60 h
                    refine PWl.guardF rfl rfl rfl (by decide) ?_
                    refine PWl.step (LR.pickF rfl rfl) rfl ?_
                    refine PWl.step (LR.assign rfl) rfl ?_
                    refine PWl.nil ?_
                    exact ⟨false, (), h, Sub.of rfl (.cons rfl rfl <| .nil) (.nil)⟩
                · replace h := iF hg57 h
                  refine PWl.guardF rfl rfl rfl (by decide) ?_
                  refine PWl.re (tl := [(6, _), (7, _), (72, _), (73, _)]) (to := []) rfl (.cons rfl rfl <| .cons rfl rfl <| .cons rfl rfl <| .cons rfl rfl <| .nil) (.nil) ?_
                  refine PWl.guardF rfl rfl rfl (by decide) ?_
                  refine PWl.guardF rfl rfl rfl (by decide) ?_
                  refine PWl.guardF rfl rfl rfl (by decide) ?_
                  refine PWl.step (LR.pickF rfl rfl) rfl ?_
                  refine PWl.step (LR.move rfl) rfl ?_
                  refine PWl.guardF rfl rfl rfl (by decide) ?_
                  refine PWl.step (LR.pickF rfl rfl) rfl ?_
                  refine PWl.step (LR.assign rfl) rfl ?_
                  refine PWl.nil ?_
                  exact ⟨false, (), h, Sub.of rfl (.cons rfl rfl <| .nil) (.nil)⟩
              · replace h := iF hg54 h
                refine PWl.guardF rfl rfl rfl (by decide) ?_
                refine PWl.guardF rfl rfl rfl (by decide) ?_
                refine PWl.step (LR.pickF rfl rfl) rfl ?_
                refine PWl.step (LR.move rfl) rfl ?_
                refine PWl.guardF rfl rfl rfl (by decide) ?_
                refine PWl.guardF rfl rfl rfl (by decide) ?_
                refine PWl.re (tl := [(6, _), (72, _), (73, _), (74, _)]) (to := []) rfl (.cons rfl rfl <| .cons rfl rfl <| .cons rfl rfl <| .cons rfl rfl <| .nil) (.nil) ?_
                refine PWl.guardF rfl rfl rfl (by decide) ?_
                refine PWl.guardF rfl rfl rfl (by decide) ?_
                refine PWl.step (LR.pickF rfl rfl) rfl ?_
                refine PWl.step (LR.move rfl) rfl ?_
                refine PWl.guardF rfl rfl rfl (by decide) ?_
                refine PWl.step (LR.pickF rfl rfl) rfl ?_
                refine PWl.step (LR.assign rfl) rfl ?_
                refine PWl.nil ?_
                exact ⟨false, (), h, Sub.of rfl (.cons rfl rfl <| .nil) (.nil)⟩
            · replace h := iF hg47 h
              refine PWl.guardF rfl rfl rfl (by decide) ?_
              refine PWl.guardF rfl rfl rfl (by decide) ?_
              refine PWl.re (tl := [(0, _), (1, _), (6, _), (7, _), (59, _), (60, _), (61, _)]) (to := []) rfl (.cons rfl rfl <| .cons rfl rfl <| .cons rfl rfl <| .cons rfl rfl <| .cons rfl rfl <| .cons rfl rfl <| .cons rfl rfl <| .nil) (.nil) ?_
              refine PWl.guardF rfl rfl rfl (by decide) ?_
              refine PWl.guardF rfl rfl rfl (by decide) ?_
              refine PWl.guardF rfl rfl rfl (by decide) ?_
              refine PWl.guardF rfl rfl rfl (by decide) ?_
              refine PWl.guardF rfl rfl rfl (by decide) ?_
              refine PWl.step (LR.pickF rfl rfl) rfl ?_
              refine PWl.step (LR.move rfl) rfl ?_
              refine PWl.guardF rfl rfl rfl (by decide) ?_
              refine PWl.guardF rfl rfl rfl (by decide) ?_
              refine PWl.step (LR.pickF rfl rfl) rfl ?_
              refine PWl.step (LR.move rfl) rfl ?_
              refine PWl.guardF rfl rfl rfl (by decide) ?_
              refine PWl.guardF rfl rfl rfl (by decide) ?_
              refine PWl.guardF rfl rfl rfl (by decide) ?_
              refine PWl.re (tl := [(6, _), (72, _), (75, _)]) (to := []) rfl (.cons rfl rfl <| .cons rfl rfl <| .cons rfl rfl <| .nil) (.nil) ?_
              refine PWl.guardF rfl rfl rfl (by decide) ?_
              refine PWl.step (LR.pickF rfl rfl) rfl ?_
              refine PWl.step (LR.move rfl) rfl ?_
              refine PWl.guardF rfl rfl rfl (by decide) ?_
              refine PWl.step (LR.pickF rfl rfl) rfl ?_
              refine PWl.step (LR.assign rfl) rfl ?_
              refine PWl.nil ?_
              exact ⟨false, (), h, Sub.of rfl (.cons rfl rfl <| .nil) (.nil)⟩
          · replace h := iF hg40 h
            refine PWl.guardF rfl rfl rfl (by decide) ?_
            refine PWl.guardF rfl rfl rfl (by decide) ?_
            refine PWl.guardF rfl rfl rfl (by decide) ?_
            refine PWl.guardF rfl rfl rfl (by decide) ?_
            refine PWl.guardF rfl rfl rfl (by decide) ?_
            refine PWl.guardF rfl rfl rfl (by decide) ?_
            refine PWl.guardF rfl rfl rfl (by decide) ?_
            refine PWl.step (LR.pickF rfl rfl) rfl ?_
            refine PWl.step (LR.move rfl) rfl ?_
            refine PWl.guardF rfl rfl rfl (by decide) ?_
            refine PWl.guardF rfl rfl rfl (by decide) ?_
            refine PWl.guardF rfl rfl rfl (by decide) ?_
            refine PWl.re (tl := [(0, _), (6, _), (7, _), (59, _), (60, _), (61, _), (62, _)]) (to := []) rfl (.cons rfl rfl <| .cons rfl rfl <| .cons rfl rfl <| .cons rfl rfl <| .cons rfl rfl <| .cons rfl rfl <| .cons rfl rfl <| .nil) (.nil) ?_
            refine PWl.guardF rfl rfl rfl (by decide) ?_
            refine PWl.guardF rfl rfl rfl (by decide) ?_
            refine PWl.guardF rfl rfl rfl (by decide) ?_
            refine PWl.guardF rfl rfl rfl (by decide) ?_
            refine PWl.step (LR.pickF rfl rfl) rfl ?_
            refine PWl.step (LR.move rfl) rfl ?_
            refine PWl.guardF rfl rfl rfl (by decide) ?_
            refine PWl.guardF rfl rfl rfl (by decide) ?_
            refine PWl.step (LR.pickF rfl rfl) rfl ?_
            refine PWl.step (LR.move rfl) rfl ?_
            refine PWl.guardF rfl rfl rfl (by decide) ?_
            refine PWl.guardF rfl rfl rfl (by decide) ?_
            refine PWl.guardF rfl rfl rfl (by decide) ?_
            refine PWl.guardF rfl rfl rfl (by decide) ?_
            refine PWl.re (tl := [(6, _), (72, _), (76, _)]) (to := []) rfl (.cons rfl rfl <| .cons rfl rfl <| .cons rfl rfl <| .nil) (.nil) ?_
            refine PWl.step (LR.pickF rfl rfl) rfl ?_
            refine PWl.step (LR.move rfl) rfl ?_
            refine PWl.guardF rfl rfl rfl (by decide) ?_
            refine PWl.step (LR.pickF rfl rfl) rfl ?_
            refine PWl.step (LR.assign rfl) rfl ?_
            refine PWl.nil ?_
            exact ⟨false, (), h, Sub.of rfl (.cons rfl rfl <| .nil) (.nil)⟩
        · replace h := iF hg35 h
          refine PWl.guardF rfl rfl rfl (by decide) ?_
          refine PWl.guardF rfl rfl rfl (by decide) ?_
          refine PWl.guardF rfl rfl rfl (by decide) ?_
          refine PWl.guardF rfl rfl rfl (by decide) ?_
          refine PWl.guardF rfl rfl rfl (by decide) ?_
          refine PWl.re (tl := [(0, _), (1, _), (6, _), (7, _), (43, _), (48, _)]) (to := [(9, _)]) rfl (.cons rfl rfl <| .cons rfl rfl <| .cons rfl rfl <| .cons rfl rfl <| .cons rfl rfl <| .cons rfl rfl <| .nil) (.cons rfl rfl <| .nil) ?_
          refine PWl.step (LR.pickF rfl rfl) rfl ?_
          refine PWl.step (LR.move rfl) rfl ?_
          refine PWl.guardF rfl rfl rfl (by decide) ?_
          refine PWl.guardF rfl rfl rfl (by decide) ?_
          refine PWl.guardF rfl rfl rfl (by decide) ?_
          refine PWl.guardF rfl rfl rfl (by decide) ?_
          refine PWl.guardF rfl rfl rfl (by decide) ?_
          refine PWl.guardF rfl rfl rfl (by decide) ?_
          refine PWl.guardF rfl rfl rfl (by decide) ?_
          refine PWl.step (LR.pickF rfl rfl) rfl ?_
          refine PWl.step (LR.move rfl) rfl ?_
          refine PWl.guardF rfl rfl rfl (by decide) ?_
          refine PWl.guardF rfl rfl rfl (by decide) ?_
          refine PWl.guardF rfl rfl rfl (by decide) ?_
          refine PWl.guardF rfl rfl rfl (by decide) ?_
          refine PWl.re (tl := [(0, _), (6, _), (7, _), (59, _), (60, _), (63, _)]) (to := [(9, _)]) rfl (.cons rfl rfl <| .cons rfl rfl <| .cons rfl rfl <| .cons rfl rfl <| .cons rfl rfl <| .cons rfl rfl <| .nil) (.cons rfl rfl <| .nil) ?_
          refine PWl.guardF rfl rfl rfl (by decide) ?_
          refine PWl.guardF rfl rfl rfl (by decide) ?_
          refine PWl.guardF rfl rfl rfl (by decide) ?_
          refine PWl.step (LR.pickF rfl rfl) rfl ?_
          refine PWl.step (LR.move rfl) rfl ?_
          refine PWl.guardF rfl rfl rfl (by decide) ?_
          refine PWl.guardF rfl rfl rfl (by decide) ?_
          refine PWl.step (LR.pickF rfl rfl) rfl ?_
          refine PWl.step (LR.move rfl) rfl ?_
          refine PWl.guardF rfl rfl rfl (by decide) ?_
          refine PWl.guardF rfl rfl rfl (by decide) ?_
          refine PWl.guardF rfl rfl rfl (by decide) ?_
          refine PWl.guardF rfl rfl rfl (by decide) ?_
          refine PWl.step (LR.pickF rfl rfl) rfl ?_
          refine PWl.step (LR.move rfl) rfl ?_
          refine PWl.re (tl := [(6, _), (78, _)]) (to := []) rfl (.cons rfl rfl <| .cons rfl rfl <| .nil) (.nil) ?_
          refine PWl.guardF rfl rfl rfl (by decide) ?_
          refine PWl.step (LR.pickF rfl rfl) rfl ?_
          refine PWl.step (LR.assign rfl) rfl ?_
          refine PWl.nil ?_
          exact ⟨false, (), h, Sub.of rfl (.cons rfl rfl <| .nil) (.nil)⟩
      · replace h := iF hg24 h
        refine PWl.guardF rfl rfl rfl (by decide) ?_
        refine PWl.guardF rfl rfl rfl (by decide) ?_
        refine PWl.guardF rfl rfl rfl (by decide) ?_
        refine PWl.guardF rfl rfl rfl (by decide) ?_
        refine PWl.guardF rfl rfl rfl (by decide) ?_
        refine PWl.re (tl := [(0, _), (1, _), (2, _), (6, _), (7, _), (30, _), (35, _)]) (to := [(9, _)]) rfl (.cons rfl rfl <| .cons rfl rfl <| .cons rfl rfl <| .cons rfl rfl <| .cons rfl rfl <| .cons rfl rfl <| .cons rfl rfl <| .nil) (.cons rfl rfl <| .nil) ?_
        refine PWl.guardF rfl rfl rfl (by decide) ?_
        refine PWl.guardF rfl rfl rfl (by decide) ?_
        refine PWl.guardF rfl rfl rfl (by decide) ?_
        refine PWl.guardF rfl rfl rfl (by decide) ?_
        refine PWl.guardF rfl rfl rfl (by decide) ?_
        refine PWl.guardF rfl rfl rfl (by decide) ?_
        refine PWl.step (LR.pickF rfl rfl) rfl ?_
        refine PWl.step (LR.move rfl) rfl ?_
        refine PWl.guardF rfl rfl rfl (by decide) ?_
        refine PWl.guardF rfl rfl rfl (by decide) ?_
        refine PWl.guardF rfl rfl rfl (by decide) ?_
        refine PWl.guardF rfl rfl rfl (by decide) ?_
        refine PWl.guardF rfl rfl rfl (by decide) ?_
        refine PWl.step (LR.pickF rfl rfl) rfl ?_
        refine PWl.re (tl := [(0, _), (1, _), (6, _), (7, _), (49, _)]) (to := [(9, _)]) rfl (.cons rfl rfl <| .cons rfl rfl <| .cons rfl rfl <| .cons rfl rfl <| .cons rfl rfl <| .nil) (.cons rfl rfl <| .nil) ?_
        refine PWl.step (LR.move rfl) rfl ?_
        refine PWl.guardF rfl rfl rfl (by decide) ?_
        refine PWl.guardF rfl rfl rfl (by decide) ?_
        refine PWl.guardF rfl rfl rfl (by decide) ?_
        refine PWl.guardF rfl rfl rfl (by decide) ?_
        refine PWl.guardF rfl rfl rfl (by decide) ?_
        refine PWl.guardF rfl rfl rfl (by decide) ?_
        refine PWl.guardF rfl rfl rfl (by decide) ?_
        refine PWl.step (LR.pickF rfl rfl) rfl ?_
        refine PWl.step (LR.move rfl) rfl ?_
        refine PWl.guardF rfl rfl rfl (by decide) ?_
        refine PWl.guardF rfl rfl rfl (by decide) ?_
        refine PWl.guardF rfl rfl rfl (by decide) ?_
        refine PWl.guardF rfl rfl rfl (by decide) ?_
        refine PWl.guardF rfl rfl rfl (by decide) ?_
        refine PWl.guardF rfl rfl rfl (by decide) ?_
        refine PWl.re (tl := [(0, _), (6, _), (7, _), (59, _), (64, _), (65, _)]) (to := [(9, _)]) rfl (.cons rfl rfl <| .cons rfl rfl <| .cons rfl rfl <| .cons rfl rfl <| .cons rfl rfl <| .cons rfl rfl <| .nil) (.cons rfl rfl <| .nil) ?_
        refine PWl.guardF rfl rfl rfl (by decide) ?_
        refine PWl.step (LR.pickF rfl rfl) rfl ?_
        refine PWl.step (LR.move rfl) rfl ?_
        refine PWl.guardF rfl rfl rfl (by decide) ?_
        refine PWl.guardF rfl rfl rfl (by decide) ?_
        refine PWl.step (LR.pickF rfl rfl) rfl ?_
        refine PWl.step (LR.move rfl) rfl ?_
        refine PWl.guardF rfl rfl rfl (by decide) ?_
        refine PWl.guardF rfl rfl rfl (by decide) ?_
        refine PWl.guardF rfl rfl rfl (by decide) ?_
        refine PWl.guardF rfl rfl rfl (by decide) ?_
        refine PWl.step (LR.pickF rfl rfl) rfl ?_
        refine PWl.step (LR.move rfl) rfl ?_
        refine PWl.guardF rfl rfl rfl (by decide) ?_
        refine PWl.step (LR.pickF rfl rfl) rfl ?_
        refine PWl.re (tl := [(6, _), (80, _)]) (to := []) rfl (.cons rfl rfl <| .cons rfl rfl <| .nil) (.nil) ?_
        refine PWl.step (LR.assign rfl) rfl ?_
        refine PWl.nil ?_
        exact ⟨false, (), h, Sub.of rfl (.cons rfl rfl <| .nil) (.nil)⟩
    · replace h := iF hg13 h
      refine PWl.guardF rfl rfl rfl (by decide) ?_
      refine PWl.guardF rfl rfl rfl (by decide) ?_
      refine PWl.guardF rfl rfl rfl (by decide) ?_
      refine PWl.guardF rfl rfl rfl (by decide) ?_
      refine PWl.guardF rfl rfl rfl (by decide) ?_
      refine PWl.re (tl := [(0, _), (1, _), (2, _), (6, _), (7, _), (17, _), (22, _)]) (to := [(9, _)]) rfl (.cons rfl rfl <| .cons rfl rfl <| .cons rfl rfl <| .cons rfl rfl <| .cons rfl rfl <| .cons rfl rfl <| .cons rfl rfl <| .nil) (.cons rfl rfl <| .nil) ?_
      refine PWl.guardF rfl rfl rfl (by decide) ?_
      refine PWl.guardF rfl rfl rfl (by decide) ?_
      refine PWl.guardF rfl rfl rfl (by decide) ?_
      refine PWl.guardF rfl rfl rfl (by decide) ?_
      refine PWl.guardF rfl rfl rfl (by decide) ?_
      refine PWl.guardF rfl rfl rfl (by decide) ?_
      refine PWl.step (LR.pickF rfl rfl) rfl ?_
      refine PWl.step (LR.move rfl) rfl ?_
      refine PWl.guardF rfl rfl rfl (by decide) ?_
      refine PWl.guardF rfl rfl rfl (by decide) ?_
      refine PWl.guardF rfl rfl rfl (by decide) ?_
      refine PWl.guardF rfl rfl rfl (by decide) ?_
      refine PWl.guardF rfl rfl rfl (by decide) ?_
      refine PWl.guardF rfl rfl rfl (by decide) ?_
      refine PWl.re (tl := [(0, _), (1, _), (2, _), (6, _), (7, _), (30, _), (35, _), (36, _)]) (to := [(9, _)]) rfl (.cons rfl rfl <| .cons rfl rfl <| .cons rfl rfl <| .cons rfl rfl <| .cons rfl rfl <| .cons rfl rfl <| .cons rfl rfl <| .cons rfl rfl <| .nil) (.cons rfl rfl <| .nil) ?_
      refine PWl.guardF rfl rfl rfl (by decide) ?_
      refine PWl.guardF rfl rfl rfl (by decide) ?_
      refine PWl.guardF rfl rfl rfl (by decide) ?_
      refine PWl.guardF rfl rfl rfl (by decide) ?_
      refine PWl.guardF rfl rfl rfl (by decide) ?_
      refine PWl.step (LR.pickF rfl rfl) rfl ?_
      refine PWl.step (LR.move rfl) rfl ?_
      refine PWl.guardF rfl rfl rfl (by decide) ?_
      refine PWl.guardF rfl rfl rfl (by decide) ?_
      refine PWl.guardF rfl rfl rfl (by decide) ?_
      refine PWl.guardF rfl rfl rfl (by decide) ?_
      refine PWl.guardF rfl rfl rfl (by decide) ?_
      refine PWl.step (LR.pickF rfl rfl) rfl ?_
      refine PWl.re (tl := [(0, _), (1, _), (6, _), (7, _), (49, _)]) (to := [(9, _)]) rfl (.cons rfl rfl <| .cons rfl rfl <| .cons rfl rfl <| .cons rfl rfl <| .cons rfl rfl <| .nil) (.cons rfl rfl <| .nil) ?_
      refine PWl.step (LR.move rfl) rfl ?_
      refine PWl.guardF rfl rfl rfl (by decide) ?_
      refine PWl.guardF rfl rfl rfl (by decide) ?_
      refine PWl.guardF rfl rfl rfl (by decide) ?_
      refine PWl.guardF rfl rfl rfl (by decide) ?_
      refine PWl.guardF rfl rfl rfl (by decide) ?_
      refine PWl.guardF rfl rfl rfl (by decide) ?_
      refine PWl.guardF rfl rfl rfl (by decide) ?_
      refine PWl.step (LR.pickF rfl rfl) rfl ?_
      refine PWl.step (LR.move rfl) rfl ?_
      refine PWl.guardF rfl rfl rfl (by decide) ?_
      refine PWl.guardF rfl rfl rfl (by decide) ?_
      refine PWl.guardF rfl rfl rfl (by decide) ?_
      refine PWl.guardF rfl rfl rfl (by decide) ?_
      refine PWl.guardF rfl rfl rfl (by decide) ?_
      refine PWl.guardF rfl rfl rfl (by decide) ?_
      refine PWl.re (tl := [(0, _), (6, _), (7, _), (59, _), (64, _), (65, _)]) (to := [(9, _)]) rfl (.cons rfl rfl <| .cons rfl rfl <| .cons rfl rfl <| .cons rfl rfl <| .cons rfl rfl <| .cons rfl rfl <| .nil) (.cons rfl rfl <| .nil) ?_
      refine PWl.guardF rfl rfl rfl (by decide) ?_
      refine PWl.step (LR.pickF rfl rfl) rfl ?_
      refine PWl.step (LR.move rfl) rfl ?_
      refine PWl.guardF rfl rfl rfl (by decide) ?_
      refine PWl.guardF rfl rfl rfl (by decide) ?_
      refine PWl.step (LR.pickF rfl rfl) rfl ?_
      refine PWl.step (LR.move rfl) rfl ?_
      refine PWl.guardF rfl rfl rfl (by decide) ?_
      refine PWl.guardF rfl rfl rfl (by decide) ?_
      refine PWl.guardF rfl rfl rfl (by decide) ?_
      refine PWl.guardF rfl rfl rfl (by decide) ?_
      refine PWl.step (LR.pickF rfl rfl) rfl ?_
      refine PWl.step (LR.move rfl) rfl ?_
      refine PWl.guardF rfl rfl rfl (by decide) ?_
      refine PWl.step (LR.pickF rfl rfl) rfl ?_
      refine PWl.re (tl := [(6, _), (80, _)]) (to := []) rfl (.cons rfl rfl <| .cons rfl rfl <| .nil) (.nil) ?_
      refine PWl.step (LR.assign rfl) rfl ?_
      refine PWl.nil ?_
      exact ⟨false, (), h, Sub.of rfl (.cons rfl rfl <| .nil) (.nil)⟩
  · rintro v6 _ h
    refine PWc.ret ?_
    replace h : _ = r0 := h
    subst h
    exact ⟨.inr rfl, _, .cons (.tmp rfl rfl) <| .nil, rfl⟩

theorem r08_Norm_ok (v1 : List TDot) (r0 : List TDot) (h : (r08_Norm v1).wp (· = r0)) : PRow Try.prog 56 [.d (.sl (List.map TDot.e v1))] 70 2 (List.map TDot.e r0) := by
  refine PRow.intro (sl := [(0, _)]) Try.func56 rfl Try.ntmps56 rfl rfl ?_
  intro ctx hK
  refine PWc.seq ?_
  refine PWc.region ?_
  refine PWl.step (LR.assignNilRow 70 2 rfl) rfl ?_
  refine PWl.nil ?_
  refine PWc.seq ?_
  refine PWc.region ?_
  refine PWl.step (LR.move rfl) rfl ?_
  replace h := iDet h
  obtain ⟨v2, hy3, h⟩ := h
  refine PWl.step (LR.rowN (r08_both_ok v1 ([] : List TDot) true v2 hy3) rfl Try.call97 rfl rfl rfl rfl) rfl ?_
  refine PWl.step (LR.assign rfl) rfl ?_
  refine PWl.nil ?_
  refine PWc.ret ?_
  replace h : _ = r0 := h
  subst h
  exact ⟨.inr rfl, 2, rfl, .inr ⟨4, _, rfl, (by simp), rfl⟩⟩

theorem l08_VecTells_ok (v1 : List TDot) (d2 : TDot) (r0 : Bool) (h : (l08_VecTells v1 d2).wp (· = r0)) : PFun Try.prog 10 [.d (.sl (List.map TDot.e v1)), .agg (List.map .d (TDot.e d2))] (.d (.v (.bool r0))) := by
  refine PFun.intro (sl := [(0, _), (1, _)]) Try.func10 rfl Try.ntmps10 rfl rfl ?_
  intro ctx hK
  refine PWc.seq ?_
  refine PWc.region ?_
  refine PWl.step (LR.box rfl rfl rfl rfl) rfl ?_
  refine PWl.step (LR.assign rfl) rfl ?_
  refine PWl.nil ?_
  refine PWc.seq ?_
  refine PWc.seq ?_
  refine PWc.region ?_
  refine PWl.step (LR.move rfl) rfl ?_
  replace h := iDet h
  obtain ⟨v3, hy4, h⟩ := h
  refine PWl.step (LR.callN (l08_few_ok v1 v3 hy4) rfl Try.call37 rfl rfl rfl rfl) rfl ?_
  refine PWl.step (LR.not rfl) rfl ?_
  refine PWl.nil ?_
  refine PWc.cond rfl (fun hc5 => ?_) (fun hc5 => ?_)
  · replace h := iT hc5 h
    refine PWc.seq ?_
    refine PWc.region ?_
    replace h := iDet h
    obtain ⟨v6, hy7, h⟩ := h
    refine PWl.step (LR.callN (l08_works_ok v6 hy7) rfl Try.call38 rfl rfl rfl rfl) rfl ?_
    refine PWl.step (LR.assign rfl) rfl ?_
    refine PWl.nil ?_
    refine PWc.ret ?_
    replace h : _ = r0 := h
    subst h
    exact ⟨.inr rfl, _, .cons (.tmp rfl rfl) <| .nil, rfl⟩
  · replace h := iF hc5 h
    refine PWc.skip ?_
    refine PWc.seq ?_
    refine PWc.region ?_
    refine PWl.step (LR.move rfl) rfl ?_
    replace h := iDet h
    obtain ⟨v8, hy9, h⟩ := h
    refine PWl.step (LR.rowN (r08_Norm_ok v1 v8 hy9) rfl Try.call56 rfl rfl rfl rfl) rfl ?_
    refine PWl.step (LR.assign rfl) rfl ?_
    refine PWl.nil ?_
    refine PWc.seq ?_
    refine PWc.seq ?_
    refine PWc.region ?_
    refine PWl.step (LR.loadRefAgg (ps := [_, _]) Try.isAgg70 Try.sizeOf70 rfl rfl rfl rfl) rfl ?_
    replace h := iDet h
    obtain ⟨v10, hy11, h⟩ := h
    refine PWl.step (LR.callN (r07_Good_ok d2 v10 hy11) rfl Try.call50 rfl rfl rfl rfl) rfl ?_
    refine PWl.nil ?_
    refine PWc.jn (iBind h) (fun (want12 : List TDot) (_ : Unit) => ⟨70, [(0, .d (.sl (List.map TDot.e v1))), (3, .ref 3 0), (5, .d (.sl (List.map TDot.e want12)))], [(3, .cells 70 [.d (.v (.int .u16 d2.dev)), .d (.v (.int .u64 d2.n))])]⟩) (fun h => ?_) ?_
    · refine PWc.cond rfl (fun hc13 => ?_) (fun hc13 => ?_)
      · replace h := iT hc13 h
        refine PWc.region ?_
        refine PWl.step (LR.move rfl) rfl ?_
        refine PWl.step (LR.loadRefAgg (ps := [_, _]) Try.isAgg70 Try.sizeOf70 rfl rfl rfl rfl) rfl ?_
        refine PWl.step (LR.buildSliceD [.tmp 15] elem62 rfl rfl (.cons rfl rfl rfl <| .nil) (by decide) (by decide)) rfl ?_
        replace h := iDet h
        obtain ⟨v14, hy15, h⟩ := h
        refine PWl.step (LR.rowN (r08_Join_ok v1 ([d2]) v14 hy15) rfl Try.call41 rfl rfl rfl rfl) rfl ?_
        refine PWl.step (LR.assign rfl) rfl ?_
        refine PWl.nil ?_
        exact ⟨v14, (), h, Sub.trans (Sub.frz [11] hK rfl (by simp) (AllRow.get (.cons rfl <| .nil))) <| Sub.trans (Sub.frz [5, 17] hK rfl (by simp) (AllRow.get (.cons rfl <| .cons rfl <| .nil))) <| Sub.of rfl (.cons rfl rfl <| .cons rfl rfl <| .cons rfl rfl <| .nil) (.cons rfl rfl <| .nil)⟩
      · replace h := iF hc13 h
        refine PWc.skip ?_
        exact ⟨v8, (), h, Sub.trans (Sub.frz [5, 11] hK rfl (by simp) (AllRow.get (.cons rfl <| .cons rfl <| .nil))) <| Sub.of rfl (.cons rfl rfl <| .cons rfl rfl <| .cons rfl rfl <| .nil) (.cons rfl rfl <| .nil)⟩
    · rintro want12 _ h
      refine PWc.seq ?_
      refine PWc.jn (iBind h) (fun (v16 : Bool) (_ : Unit) => ⟨70, [(4, .d (.v (.bool v16)))], []⟩) (fun h => ?_) ?_
      · refine PWc.regionD (by kernel_rfl) (by kernel_rfl) ?_
        refine PQl.step (fun _ he ho => LR.move (he rfl rfl)) rfl ?_
        replace h := iDet h
        obtain ⟨v17, hy18, h⟩ := h
        refine PQl.step (fun _ he ho => LR.callN (PRow.fun (vec_Norm_ok v1 v17 hy18)) (he rfl rfl) Try.call54 (evsE he rfl rfl) rfl rfl rfl) rfl ?_
        refine PQl.step (fun _ he ho => LR.move (he rfl rfl)) rfl ?_
        replace h := iDet h
        obtain ⟨v19, hy20, h⟩ := h
        refine PQl.step (fun _ he ho => LR.callN (PRow.fun (r08_Norm_ok v1 v19 hy20)) (he rfl rfl) Try.call56 (evsE he rfl rfl) rfl rfl rfl) rfl ?_
        replace h := iDet h
        obtain ⟨v21, hy22, h⟩ := h
        refine PQl.step (fun _ he ho => LR.callN (r07_Same_ok v17 v19 v21 hy22) (he rfl rfl) Try.call39 (evsE he rfl rfl) rfl rfl rfl) rfl ?_
        refine PQl.step (fun _ he ho => LR.move (he rfl rfl)) rfl ?_
        refine PQl.split (d := 23) rfl (fun hg23 => ?_) (fun hg23 => ?_)
        · replace h := iT hg23 h
          refine PQl.guardT (fun _ he ho => LR.move (he rfl rfl)) rfl rfl rfl ?_
          replace h := iDet h
          obtain ⟨v24, hy25, h⟩ := h
          refine PQl.guardT (fun _ he ho => LR.callN (vec_Good_ok v1 v24 hy25) (he rfl rfl) Try.call55 (evsE he rfl rfl) rfl rfl rfl) rfl rfl rfl ?_
          refine PQl.guardT (fun _ he ho => LR.move (he rfl rfl)) rfl rfl rfl ?_
          refine PQl.guardT (fun _ he ho => LR.move (he rfl rfl)) rfl rfl rfl ?_
          replace h := iDet h
          obtain ⟨v26, hy27, h⟩ := h
          refine PQl.guardT (fun _ he ho => LR.callN (PRow.fun (r08_Norm_ok v1 v26 hy27)) (he rfl rfl) Try.call56 (evsE he rfl rfl) rfl rfl rfl) rfl rfl rfl ?_
          replace h := iDet h
          obtain ⟨v28, hy29, h⟩ := h
          refine PQl.guardT (fun _ he ho => LR.callN (r07_Same_ok v1 v26 v28 hy29) (he rfl rfl) Try.call39 (evsE he rfl rfl) rfl rfl rfl) rfl rfl rfl ?_
          refine PQl.guardT (fun _ he ho => LR.eqlBool Try.underlying4 (he rfl rfl) (he rfl rfl)) rfl rfl rfl ?_
          refine PQl.step (fun _ he ho => LR.pickT (he rfl rfl) (he rfl rfl)) rfl ?_
          refine PQl.step (fun _ he ho => LR.move (he rfl rfl)) rfl ?_
          refine PQl.split (d := 32) rfl (fun hg30 => ?_) (fun hg30 => ?_)
          · replace h := iT hg30 h
            refine PQl.guardT (fun _ he ho => LR.move (he rfl rfl)) rfl rfl rfl ?_
            refine PQl.guardT (fun _ he ho => LR.fieldRef Try.underlying70 rfl Try.sizeOf46 (by decide) rfl (he rfl rfl)) rfl rfl rfl ?_
            refine PQl.guardT (fun _ he ho => LR.loadRef Try.isAgg46 (he rfl rfl) (ho rfl) rfl) rfl rfl rfl ?_
            replace h := iDet h
            obtain ⟨v31, hy32, h⟩ := h
            refine PQl.guardT (fun _ he ho => LR.callN (vec_Of_ok v1 d2.dev v31 hy32) (he rfl rfl) Try.call57 (evsE he rfl rfl) rfl rfl rfl) rfl rfl rfl ?_
            refine PQl.guardT (fun _ he ho => LR.move (he rfl rfl)) rfl rfl rfl ?_
            refine PQl.guardT (fun _ he ho => LR.fieldRef Try.underlying70 rfl Try.sizeOf46 (by decide) rfl (he rfl rfl)) rfl rfl rfl ?_
            refine PQl.guardT (fun _ he ho => LR.loadRef Try.isAgg46 (he rfl rfl) (ho rfl) rfl) rfl rfl rfl ?_
            replace h := iDet h
            obtain ⟨v33, hy34, h⟩ := h
            refine PQl.guardT (fun _ he ho => LR.callN (r08_Of_ok v1 d2.dev v33 hy34) (he rfl rfl) Try.call58 (evsE he rfl rfl) rfl rfl rfl) rfl rfl rfl ?_
            refine PQl.guardT (fun _ he ho => LR.eql (he rfl rfl) (he rfl rfl)) rfl rfl rfl ?_
            refine PQl.step (fun _ he ho => LR.pickT (he rfl rfl) (he rfl rfl)) rfl ?_
            refine PQl.step (fun _ he ho => LR.move (he rfl rfl)) rfl ?_
            refine PQl.split (d := 43) rfl (fun hg35 => ?_) (fun hg35 => ?_)
            · replace h := iT hg35 h
              refine PQl.guardT (fun _ he ho => LR.move (he rfl rfl)) rfl rfl rfl ?_
              refine PQl.guardT (fun _ he ho => LR.loadRefAgg (ps := [_, _]) Try.isAgg70 Try.sizeOf70 (he rfl rfl) (ho rfl) rfl rfl) rfl rfl rfl ?_
              replace h := iDet h
              obtain ⟨v36, hy37, h⟩ := h
              refine PQl.guardT (fun _ he ho => LR.callN (vec_Has_ok v1 d2 v36 hy37) (he rfl rfl) Try.call48 (evsE he rfl rfl) rfl rfl rfl) rfl rfl rfl ?_
              refine PQl.guardT (fun _ he ho => LR.loadRefAgg (ps := [_, _]) Try.isAgg70 Try.sizeOf70 (he rfl rfl) (ho rfl) rfl rfl) rfl rfl rfl ?_
              replace h := iDet h
              obtain ⟨v38, hy39, h⟩ := h
              refine PQl.guardT (fun _ he ho => LR.callN (r07_Good_ok d2 v38 hy39) (he rfl rfl) Try.call50 (evsE he rfl rfl) rfl rfl rfl) rfl rfl rfl ?_
              refine PQl.keep (tl := [(0, _), (3, _), (5, _), (43, _), (46, _), (48, _)]) rfl (.cons rfl rfl <| .cons rfl rfl <| .cons rfl rfl <| .cons rfl rfl <| .cons rfl rfl <| .cons rfl rfl <| .nil) ?_
              refine PQl.guardT (fun _ he ho => LR.move (he rfl rfl)) rfl rfl rfl ?_
              refine PQl.split (d := 49) rfl (fun hg40 => ?_) (fun hg40 => ?_)
              · replace h := iT hg40 h
                refine PQl.guardT (fun _ he ho => LR.fieldRef Try.underlying70 rfl Try.sizeOf34 (by decide) rfl (he rfl rfl)) rfl rfl rfl ?_
                refine PQl.guardT (fun _ he ho => LR.loadRef Try.isAgg34 (he rfl rfl) (ho rfl) rfl) rfl rfl rfl ?_
                refine PQl.guardT (fun _ he ho => LR.move (he rfl rfl)) rfl rfl rfl ?_
                refine PQl.guardT (fun _ he ho => LR.fieldRef Try.underlying70 rfl Try.sizeOf46 (by decide) rfl (he rfl rfl)) rfl rfl rfl ?_
                refine PQl.guardT (fun _ he ho => LR.loadRef Try.isAgg46 (he rfl rfl) (ho rfl) rfl) rfl rfl rfl ?_
                replace h := iDet h
                obtain ⟨v41, hy42, h⟩ := h
                refine PQl.guardT (fun _ he ho => LR.callN (r08_Of_ok v1 d2.dev v41 hy42) (he rfl rfl) Try.call58 (evsE he rfl rfl) rfl rfl rfl) rfl rfl rfl ?_
                refine PQl.guardT (fun _ he ho => LR.leq (he rfl rfl) (he rfl rfl)) rfl rfl rfl ?_
                refine PQl.guardT (fun _ he ho => LR.pickT (he rfl rfl) (he rfl rfl)) rfl rfl rfl ?_
                refine PQl.guardT (fun _ he ho => LR.eqlBool Try.underlying4 (he rfl rfl) (he rfl rfl)) rfl rfl rfl ?_
                refine PQl.step (fun _ he ho => LR.pickT (he rfl rfl) (he rfl rfl)) rfl ?_
                refine PQl.step (fun _ he ho => LR.move (he rfl rfl)) rfl ?_
                refine PQl.split (d := 60) rfl (fun hg43 => ?_) (fun hg43 => ?_)
                · replace h := iT hg43 h
                  refine PQl.guardT (fun _ he ho => LR.move (he rfl rfl)) rfl rfl rfl ?_
                  refine PQl.guardT (fun _ he ho => LR.loadRefAgg (ps := [_, _]) Try.isAgg70 Try.sizeOf70 (he rfl rfl) (ho rfl) rfl rfl) rfl rfl rfl ?_
                  replace h := iDet h
                  obtain ⟨v44, hy45, h⟩ := h
                  refine PQl.guardT (fun _ he ho => LR.callN (PRow.fun (vec_Put_ok v1 d2 v44 hy45)) (he rfl rfl) Try.call49 (evsE he rfl rfl) rfl rfl rfl) rfl rfl rfl ?_
                  refine PQl.guardT (fun _ he ho => LR.move (he rfl rfl)) rfl rfl rfl ?_
                  replace h := iDet h
                  obtain ⟨v46, hy47, h⟩ := h
                  refine PQl.guardT (fun _ he ho => LR.callN (r07_Same_ok v44 want12 v46 hy47) (he rfl rfl) Try.call39 (evsE he rfl rfl) rfl rfl rfl) rfl rfl rfl ?_
                  refine PQl.step (fun _ he ho => LR.pickT (he rfl rfl) (he rfl rfl)) rfl ?_
                  refine PQl.step (fun _ he ho => LR.move (he rfl rfl)) rfl ?_
                  refine PQl.split (d := 67) rfl (fun hg48 => ?_) (fun hg48 => ?_)
                  · replace h := iT hg48 h
                    replace h := iDet h
                    obtain ⟨v49, hy50, h⟩ := h
                    refine PQl.guardT (fun _ he ho => LR.callN (l08_works_ok v49 hy50) (he rfl rfl) Try.call38 (evsE he rfl rfl) rfl rfl rfl) rfl rfl rfl ?_
                    refine PQl.step (fun _ he ho => LR.pickT (he rfl rfl) (he rfl rfl)) rfl ?_
                    refine PQl.step (fun _ he ho => LR.assign (he rfl rfl)) rfl ?_
                    refine PQl.nil ?_
                    exact ⟨v49, (), h, Sub.of rfl (.cons rfl rfl <| .nil) (.nil)⟩
                  · replace h := iF hg48 h
                    refine PQl.guardF rfl rfl rfl (by decide) ?_
                    refine PQl.step (fun _ he ho => LR.pickF (he rfl rfl) (he rfl rfl)) rfl ?_
                    refine PQl.step (fun _ he ho => LR.assign (he rfl rfl)) rfl ?_
                    refine PQl.nil ?_
                    exact ⟨false, (), h, Sub.of rfl (.cons rfl rfl <| .nil) (.nil)⟩
                · replace h := iF hg43 h
                  refine PQl.guardF rfl rfl rfl (by decide) ?_
                  refine PQl.guardF rfl rfl rfl (by decide) ?_
                  refine PQl.guardF rfl rfl rfl (by decide) ?_
                  refine PQl.guardF rfl rfl rfl (by decide) ?_
                  refine PQl.guardF rfl rfl rfl (by decide) ?_
                  refine PQl.step (fun _ he ho => LR.pickF (he rfl rfl) (he rfl rfl)) rfl ?_
                  refine PQl.step (fun _ he ho => LR.move (he rfl rfl)) rfl ?_
                  refine PQl.guardF rfl rfl rfl (by decide) ?_
                  refine PQl.step (fun _ he ho => LR.pickF (he rfl rfl) (he rfl rfl)) rfl ?_
                  refine PQl.step (fun _ he ho => LR.assign (he rfl rfl)) rfl ?_
                  refine PQl.nil ?_
                  exact ⟨false, (), h, Sub.of rfl (.cons rfl rfl <| .nil) (.nil)⟩
              · replace h := iF hg40 h
                refine PQl.guardF rfl rfl rfl (by decide) ?_
                refine PQl.guardF rfl rfl rfl (by decide) ?_
                refine PQl.guardF rfl rfl rfl (by decide) ?_
                refine PQl.guardF rfl rfl rfl (by decide) ?_
                refine PQl.guardF rfl rfl rfl (by decide) ?_
                refine PQl.guardF rfl rfl rfl (by decide) ?_
                refine PQl.guardF rfl rfl rfl (by decide) ?_
                refine PQl.guardT (fun _ he ho => LR.pickF (he rfl rfl) (he rfl rfl)) rfl rfl rfl ?_
                refine PQl.guardT (fun _ he ho => LR.eqlBool Try.underlying4 (he rfl rfl) (he rfl rfl)) rfl rfl rfl ?_
                refine PQl.step (fun _ he ho => LR.pickT (he rfl rfl) (he rfl rfl)) rfl ?_
                refine PQl.step (fun _ he ho => LR.move (he rfl rfl)) rfl ?_
                refine PQl.split (d := 60) rfl (fun hg51 => ?_) (fun hg51 => ?_)
                · replace h := iT hg51 h
                  refine PQl.guardT (fun _ he ho => LR.move (he rfl rfl)) rfl rfl rfl ?_
                  refine PQl.guardT (fun _ he ho => LR.loadRefAgg (ps := [_, _]) Try.isAgg70 Try.sizeOf70 (he rfl rfl) (ho rfl) rfl rfl) rfl rfl rfl ?_
                  replace h := iDet h
                  obtain ⟨v52, hy53, h⟩ := h
                  refine PQl.guardT (fun _ he ho => LR.callN (PRow.fun (vec_Put_ok v1 d2 v52 hy53)) (he rfl rfl) Try.call49 (evsE he rfl rfl) rfl rfl rfl) rfl rfl rfl ?_
                  refine PQl.guardT (fun _ he ho => LR.move (he rfl rfl)) rfl rfl rfl ?_
                  replace h := iDet h
                  obtain ⟨v54, hy55, h⟩ := h
                  refine PQl.guardT (fun _ he ho => LR.callN (r07_Same_ok v52 want12 v54 hy55) (he rfl rfl) Try.call39 (evsE he rfl rfl) rfl rfl rfl) rfl rfl rfl ?_
                  refine PQl.step (fun _ he ho => LR.pickT (he rfl rfl) (he rfl rfl)) rfl ?_
                  refine PQl.step (fun _ he ho => LR.move (he rfl rfl)) rfl ?_
                  refine PQl.split (d := 67) rfl (fun hg56 => ?_) (fun hg56 => ?_)
                  · replace h := iT hg56 h
                    replace h := iDet h
                    obtain ⟨v57, hy58, h⟩ := h
                    refine PQl.guardT (fun _ he ho => LR.callN (l08_works_ok v57 hy58) (he rfl rfl) Try.call38 (evsE he rfl rfl) rfl rfl rfl) rfl rfl rfl ?_
                    refine PQl.step (fun _ he ho => LR.pickT (he rfl rfl) (he rfl rfl)) rfl ?_
                    refine PQl.step (fun _ he ho => LR.assign (he rfl rfl)) rfl ?_
                    refine PQl.nil ?_
                    exact ⟨v57, (), h, Sub.of rfl (.cons rfl rfl <| .nil) (.nil)⟩
                  · replace h := iF hg56 h
                    refine PQl.guardF rfl rfl rfl (by decide) ?_
                    refine PQl.step (fun _ he ho => LR.pickF (he rfl rfl) (he rfl rfl)) rfl ?_
                    refine PQl.step (fun _ he ho => LR.assign (he rfl rfl)) rfl ?_
                    refine PQl.nil ?_
                    exact ⟨false, (), h, Sub.of rfl (.cons rfl rfl <| .nil) (.nil)⟩
                · replace h := iF hg51 h
                  refine PQl.guardF rfl rfl rfl (by decide) ?_
                  refine PQl.guardF rfl rfl rfl (by decide) ?_
                  refine PQl.guardF rfl rfl rfl (by decide) ?_
                  refine PQl.guardF rfl rfl rfl (by decide) ?_
                  refine PQl.guardF rfl rfl rfl (by decide) ?_
                  refine PQl.step (fun _ he ho => LR.pickF (he rfl rfl) (he rfl rfl)) rfl ?_
                  refine PQl.step (fun _ he ho => LR.move (he rfl rfl)) rfl ?_
                  refine PQl.guardF rfl rfl rfl (by decide) ?_
                  refine PQl.step (fun _ he ho => LR.pickF (he rfl rfl) (he rfl rfl)) rfl ?_
                  refine PQl.step (fun _ he ho => LR.assign (he rfl rfl)) rfl ?_
                  refine PQl.nil ?_
                  exact ⟨false, (), h, Sub.of rfl (.cons rfl rfl <| .nil) (.nil)⟩
            · replace h := iF hg35 h
              refine PQl.guardF rfl rfl rfl (by decide) ?_
              refine PQl.guardF rfl rfl rfl (by decide) ?_
              refine PQl.guardF rfl rfl rfl (by decide) ?_
              refine PQl.guardF rfl rfl rfl (by decide) ?_
              refine PQl.guardF rfl rfl rfl (by decide) ?_
              refine PQl.keep (tl := [(0, _), (3, _), (5, _), (43, _), (46, _), (48, _)]) rfl (.cons rfl rfl <| .cons rfl rfl <| .cons rfl rfl <| .cons rfl rfl <| .cons rfl rfl <| .cons rfl rfl <| .nil) ?_
              refine PQl.guardF rfl rfl rfl (by decide) ?_
              refine PQl.guardU rfl rfl rfl ?_
              refine PQl.guardU rfl rfl rfl ?_
              refine PQl.guardU rfl rfl rfl ?_
              refine PQl.guardU rfl rfl rfl ?_
              refine PQl.guardU rfl rfl rfl ?_
              refine PQl.guardU rfl rfl rfl ?_
              refine PQl.guardU rfl rfl rfl ?_
              refine PQl.guardF rfl rfl rfl (by decide) ?_
              refine PQl.guardF rfl rfl rfl (by decide) ?_
              refine PQl.step (fun _ he ho => LR.pickF (he rfl rfl) (he rfl rfl)) rfl ?_
              refine PQl.step (fun _ he ho => LR.move (he rfl rfl)) rfl ?_
              refine PQl.guardF rfl rfl rfl (by decide) ?_
              refine PQl.guardF rfl rfl rfl (by decide) ?_
              refine PQl.guardF rfl rfl rfl (by decide) ?_
              refine PQl.guardF rfl rfl rfl (by decide) ?_
              refine PQl.guardF rfl rfl rfl (by decide) ?_
              refine PQl.step (fun _ he ho => LR.pickF (he rfl rfl) (he rfl rfl)) rfl ?_
              refine PQl.step (fun _ he ho => LR.move (he rfl rfl)) rfl ?_
              refine PQl.guardF rfl rfl rfl (by decide) ?_
              refine PQl.step (fun _ he ho => LR.pickF (he rfl rfl) (he rfl rfl)) rfl ?_
              refine PQl.step (fun _ he ho => LR.assign (he rfl rfl)) rfl ?_
              refine PQl.nil ?_
              exact ⟨false, (), h, Sub.of rfl (.cons rfl rfl <| .nil) (.nil)⟩
          · replace h := iF hg30 h
            refine PQl.guardF rfl rfl rfl (by decide) ?_
            refine PQl.guardF rfl rfl rfl (by decide) ?_
            refine PQl.guardF rfl rfl rfl (by decide) ?_
            refine PQl.guardF rfl rfl rfl (by decide) ?_
            refine PQl.guardF rfl rfl rfl (by decide) ?_
            refine PQl.guardF rfl rfl rfl (by decide) ?_
            refine PQl.guardF rfl rfl rfl (by decide) ?_
            refine PQl.guardF rfl rfl rfl (by decide) ?_
            refine PQl.guardF rfl rfl rfl (by decide) ?_
            refine PQl.step (fun _ he ho => LR.pickF (he rfl rfl) (he rfl rfl)) rfl ?_
            refine PQl.step (fun _ he ho => LR.move (he rfl rfl)) rfl ?_
            refine PQl.guardF rfl rfl rfl (by decide) ?_
            refine PQl.guardF rfl rfl rfl (by decide) ?_
            refine PQl.guardF rfl rfl rfl (by decide) ?_
            refine PQl.guardF rfl rfl rfl (by decide) ?_
            refine PQl.guardF rfl rfl rfl (by decide) ?_
            refine PQl.guardF rfl rfl rfl (by decide) ?_
            refine PQl.keep (tl := [(0, _), (3, _), (5, _), (43, _), (46, _), (49, _)]) rfl (.cons rfl rfl <| .cons rfl rfl <| .cons rfl rfl <| .cons rfl rfl <| .cons rfl rfl <| .cons rfl rfl <| .nil) ?_
            refine PQl.guardU rfl rfl rfl ?_
            refine PQl.guardU rfl rfl rfl ?_
            refine PQl.guardU rfl rfl rfl ?_
            refine PQl.guardU rfl rfl rfl ?_
            refine PQl.guardU rfl rfl rfl ?_
            refine PQl.guardU rfl rfl rfl ?_
            refine PQl.guardU rfl rfl rfl ?_
            refine PQl.guardF rfl rfl rfl (by decide) ?_
            refine PQl.guardF rfl rfl rfl (by decide) ?_
            refine PQl.step (fun _ he ho => LR.pickF (he rfl rfl) (he rfl rfl)) rfl ?_
            refine PQl.step (fun _ he ho => LR.move (he rfl rfl)) rfl ?_
            refine PQl.guardF rfl rfl rfl (by decide) ?_
            refine PQl.guardF rfl rfl rfl (by decide) ?_
            refine PQl.guardF rfl rfl rfl (by decide) ?_
            refine PQl.guardF rfl rfl rfl (by decide) ?_
            refine PQl.guardF rfl rfl rfl (by decide) ?_
            refine PQl.step (fun _ he ho => LR.pickF (he rfl rfl) (he rfl rfl)) rfl ?_
            refine PQl.step (fun _ he ho => LR.move (he rfl rfl)) rfl ?_
            refine PQl.guardF rfl rfl rfl (by decide) ?_
            refine PQl.step (fun _ he ho => LR.pickF (he rfl rfl) (he rfl rfl)) rfl ?_
            refine PQl.step (fun _ he ho => LR.assign (he rfl rfl)) rfl ?_
            refine PQl.nil ?_
            exact ⟨false, (), h, Sub.of rfl (.cons rfl rfl <| .nil) (.nil)⟩
        · replace h := iF hg23 h
          refine PQl.guardF rfl rfl rfl (by decide) ?_
          refine PQl.guardF rfl rfl rfl (by decide) ?_
          refine PQl.guardF rfl rfl rfl (by decide) ?_
          refine PQl.guardF rfl rfl rfl (by decide) ?_
          refine PQl.guardF rfl rfl rfl (by decide) ?_
          refine PQl.guardF rfl rfl rfl (by decide) ?_
          refine PQl.guardF rfl rfl rfl (by decide) ?_
          refine PQl.step (fun _ he ho => LR.pickF (he rfl rfl) (he rfl rfl)) rfl ?_
          refine PQl.step (fun _ he ho => LR.move (he rfl rfl)) rfl ?_
          refine PQl.guardF rfl rfl rfl (by decide) ?_
          refine PQl.guardF rfl rfl rfl (by decide) ?_
          refine PQl.guardF rfl rfl rfl (by decide) ?_
          refine PQl.guardF rfl rfl rfl (by decide) ?_
          refine PQl.guardF rfl rfl rfl (by decide) ?_
          refine PQl.guardF rfl rfl rfl (by decide) ?_
          refine PQl.guardF rfl rfl rfl (by decide) ?_
          refine PQl.guardF rfl rfl rfl (by decide) ?_
          refine PQl.guardF rfl rfl rfl (by decide) ?_
          refine PQl.step (fun _ he ho => LR.pickF (he rfl rfl) (he rfl rfl)) rfl ?_
          refine PQl.step (fun _ he ho => LR.move (he rfl rfl)) rfl ?_
          refine PQl.guardF rfl rfl rfl (by decide) ?_
          refine PQl.guardF rfl rfl rfl (by decide) ?_
          refine PQl.guardF rfl rfl rfl (by decide) ?_
          refine PQl.guardF rfl rfl rfl (by decide) ?_
          refine PQl.guardF rfl rfl rfl (by decide) ?_
          refine PQl.guardF rfl rfl rfl (by decide) ?_
          refine PQl.guardU rfl rfl rfl ?_
          refine PQl.keep (tl := [(0, _), (3, _), (5, _), (43, _), (46, _), (49, _), (50, _)]) rfl (.cons rfl rfl <| .cons rfl rfl <| .cons rfl rfl <| .cons rfl rfl <| .cons rfl rfl <| .cons rfl rfl <| .cons rfl rfl <| .nil) ?_
          refine PQl.guardU rfl rfl rfl ?_
          refine PQl.guardU rfl rfl rfl ?_
          refine PQl.guardU rfl rfl rfl ?_
          refine PQl.guardU rfl rfl rfl ?_
          refine PQl.guardU rfl rfl rfl ?_
          refine PQl.guardU rfl rfl rfl ?_
          refine PQl.guardF rfl rfl rfl (by decide) ?_
          refine PQl.guardF rfl rfl rfl (by decide) ?_
          refine PQl.step (fun _ he ho => LR.pickF (he rfl rfl) (he rfl rfl)) rfl ?_
          refine PQl.step (fun _ he ho => LR.move (he rfl rfl)) rfl ?_
          refine PQl.guardF rfl rfl rfl (by decide) ?_
          refine PQl.guardF rfl rfl rfl (by decide) ?_
          refine PQl.guardF rfl rfl rfl (by decide) ?_
          refine PQl.guardF rfl rfl rfl (by decide) ?_
          refine PQl.guardF rfl rfl rfl (by decide) ?_
          refine PQl.step (fun _ he ho => LR.pickF (he rfl rfl) (he rfl rfl)) rfl ?_
          refine PQl.step (fun _ he ho => LR.move (he rfl rfl)) rfl ?_
          refine PQl.guardF rfl rfl rfl (by decide) ?_
          refine PQl.step (fun _ he ho => LR.pickF (he rfl rfl) (he rfl rfl)) rfl ?_
          refine PQl.step (fun _ he ho => LR.assign (he rfl rfl)) rfl ?_
          refine PQl.nil ?_
          exact ⟨false, (), h, Sub.of rfl (.cons rfl rfl <| .nil) (.nil)⟩
      · rintro v16 _ h
        refine PWc.ret ?_
        replace h : _ = r0 := h
        subst h
        exact ⟨.inr rfl, _, .cons (.tmp rfl rfl) <| .nil, rfl⟩
end Go.Proofs

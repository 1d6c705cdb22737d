/- Walks: written by program. -/
import Derived.Test.YtacnidaafcfgiaaGreatFc
import Derived.Test.YtacnidaafcfgiaaGreatSh
import Derived.Test.YtacnidaafcfgiaaGreatSx
import Derived.Test.YtacnidaafcfgiaaGreatTl
import Derived.Test.YtacnidaafcfgiaaGreatSr
import Derived.Test.YtacnidaafcfgiaaGreatDr
import Derived.Test.YtacnidaafcfgiaaGreatW0
import Derived.Test.YtacnidaafcfgiaaGreatW2
import Derived.Test.YtacnidaafcfgiaaGreatW4
import Derived.Test.YtacnidaafcfgiaaGreatW6
import Derived.Test.YtacnidaafcfgiaaGreatW7
import Derived.Test.YtacnidaafcfgiaaGreatW8
import Derived.Test.YtacnidaafcfgiaaGreatW9
namespace Go.Proofs
open Go.Ep
set_option maxHeartbeats 1000000
set_option maxRecDepth 100000
set_option linter.unusedVariables false
set_option linter.unusedSimpArgs false


theorem l09_CtxSets_ok (a1 : List TPart) (b2 : List TPart) (r0 : Bool) (h : (l09_CtxSets a1 b2).wp (· = r0)) : PFun Tryz.prog 3 [.d (.sl (List.map TPart.e a1)), .d (.sl (List.map TPart.e b2))] (.d (.v (.bool r0))) := by
  refine PFun.intro (sl := [(0, _), (1, _)]) Tryz.func3 rfl Tryz.ntmps3 rfl rfl ?_
  intro ctx hK
  refine PWc.seq ?_
  refine PWc.region ?_
  refine PWl.step (LR.assign rfl) rfl ?_
  refine PWl.nil ?_
  refine PWc.seq ?_
  refine PWc.seq ?_
  refine PWc.jn (iBind h) (fun (v3 : Bool) (_ : Unit) => ⟨60, [(0, .d (.sl (List.map TPart.e a1))), (1, .d (.sl (List.map TPart.e b2))), (12, .d (.v (.bool v3)))], []⟩) (fun h => ?_) ?_
  · refine PWc.region ?_
    refine PWl.step (LR.move rfl) rfl ?_
    replace h := iDet h
    obtain ⟨v4, hy5, h⟩ := h
    refine PWl.step (LR.callN (r09_Few_ok a1 v4 hy5) rfl Tryz.call7 rfl rfl rfl rfl) rfl ?_
    refine PWl.step (LR.not rfl) rfl ?_
    refine PWl.step (LR.move rfl) rfl ?_
    refine PWl.split (d := 8) rfl (fun hg6 => ?_) (fun hg6 => ?_)
    · replace h := iT hg6 h
      refine PWl.guardF rfl rfl rfl (by decide) ?_
      refine PWl.guardF rfl rfl rfl (by decide) ?_
      refine PWl.guardF rfl rfl rfl (by decide) ?_
      refine PWl.step (LR.pickT rfl rfl) rfl ?_
      refine PWl.nil ?_
      exact ⟨true, (), h, Sub.of rfl (.cons rfl rfl <| .cons rfl rfl <| .cons rfl rfl <| .nil) (.nil)⟩
    · replace h := iF hg6 h
      refine PWl.guardT (LR.move rfl) rfl rfl rfl ?_
      replace h := iDet h
      obtain ⟨v7, hy8, h⟩ := h
      refine PWl.guardT (LR.callN (r09_Few_ok b2 v7 hy8) rfl Tryz.call7 rfl rfl rfl rfl) rfl rfl rfl ?_
      refine PWl.guardT (LR.not rfl) rfl rfl rfl ?_
      refine PWl.step (LR.pickF rfl rfl) rfl ?_
      refine PWl.nil ?_
      exact ⟨(!v7), (), h, Sub.of rfl (.cons rfl rfl <| .cons rfl rfl <| .cons rfl rfl <| .nil) (.nil)⟩
  · rintro v3 _ h
    refine PWc.cond rfl (fun hc9 => ?_) (fun hc9 => ?_)
    · replace h := iT hc9 h
      refine PWc.seq ?_
      refine PWc.region ?_
      replace h := iDet h
      obtain ⟨v10, hy11, h⟩ := h
      refine PWl.step (LR.callN (l09_works_ok v10 hy11) rfl Tryz.call8 rfl rfl rfl rfl) rfl ?_
      refine PWl.step (LR.assign rfl) rfl ?_
      refine PWl.nil ?_
      refine PWc.ret ?_
      replace h : _ = r0 := h
      subst h
      exact ⟨.inr rfl, _, .cons (.tmp rfl rfl) <| .nil, rfl⟩
    · replace h := iF hc9 h
      refine PWc.skip ?_
      refine PWc.seq ?_
      refine PWc.jn (iBind h) (fun (v12 : Bool) (_ : Unit) => ⟨60, [(4, .d (.v (.bool v12)))], []⟩) (fun h => ?_) ?_
      · refine PWc.region ?_
        refine PWl.step (LR.move rfl) rfl ?_
        refine PWl.step (LR.move rfl) rfl ?_
        replace h := iDet h
        obtain ⟨v13, hy14, h⟩ := h
        refine PWl.step (LR.rowN (ctx_Join_ok a1 b2 v13 hy14) rfl Tryz.call10 rfl rfl rfl rfl) rfl ?_
        refine PWl.step (LR.move rfl) rfl ?_
        refine PWl.step (LR.move rfl) rfl ?_
        replace h := iDet h
        obtain ⟨v15, hy16, h⟩ := h
        refine PWl.step (LR.rowN (r09_Join_ok a1 b2 v15 hy16) rfl Tryz.call11 rfl rfl rfl rfl) rfl ?_
        replace h := iDet h
        obtain ⟨v17, hy18, h⟩ := h
        refine PWl.frz [16] hK (.cons rfl <| .nil) rfl (by simp) ?_
        refine PWl.frz [19] hK (.cons rfl <| .nil) rfl (by simp) ?_
        refine PWl.step (LR.callN (r09_Eq_ok v13 v15 v17 hy18) rfl Tryz.call9 rfl rfl rfl rfl) rfl ?_
        refine PWl.step (LR.move rfl) rfl ?_
        refine PWl.split (d := 21) rfl (fun hg19 => ?_) (fun hg19 => ?_)
        · replace h := iT hg19 h
          refine PWl.guardT (LR.move rfl) rfl rfl rfl ?_
          refine PWl.guardT (LR.move rfl) rfl rfl rfl ?_
          replace h := iDet h
          obtain ⟨v20, hy21, h⟩ := h
          refine PWl.guardT (LR.rowN (ctx_Meet_ok a1 b2 v20 hy21) rfl Tryz.call12 rfl rfl rfl rfl) rfl rfl rfl ?_
          refine PWl.guardT (LR.move rfl) rfl rfl rfl ?_
          refine PWl.guardT (LR.move rfl) rfl rfl rfl ?_
          replace h := iDet h
          obtain ⟨v22, hy23, h⟩ := h
          refine PWl.guardT (LR.rowN (r09_Meet_ok a1 b2 v22 hy23) rfl Tryz.call13 rfl rfl rfl rfl) rfl rfl rfl ?_
          replace h := iDet h
          obtain ⟨v24, hy25, h⟩ := h
          refine PWl.frz [24] hK (.cons rfl <| .nil) rfl (by simp) ?_
          refine PWl.frz [27] hK (.cons rfl <| .nil) rfl (by simp) ?_
          refine PWl.guardT (LR.callN (r09_Eq_ok v20 v22 v24 hy25) rfl Tryz.call9 rfl rfl rfl rfl) rfl rfl rfl ?_
          refine PWl.step (LR.pickT rfl rfl) rfl ?_
          refine PWl.step (LR.move rfl) rfl ?_
          refine PWl.re (tl := [(0, _), (1, _), (30, _)]) (to := []) rfl (.cons rfl rfl <| .cons rfl rfl <| .cons rfl rfl <| .nil) (.nil) ?_
          refine PWl.split (d := 30) rfl (fun hg26 => ?_) (fun hg26 => ?_)
          · replace h := iT hg26 h
            refine PWl.guardT (LR.move rfl) rfl rfl rfl ?_
            refine PWl.guardT (LR.move rfl) rfl rfl rfl ?_
            replace h := iDet h
            obtain ⟨v27, hy28, h⟩ := h
            refine PWl.guardT (LR.rowN (ctx_Minus_ok a1 b2 v27 hy28) rfl Tryz.call14 rfl rfl rfl rfl) rfl rfl rfl ?_
            refine PWl.guardT (LR.move rfl) rfl rfl rfl ?_
            refine PWl.guardT (LR.move rfl) rfl rfl rfl ?_
            replace h := iDet h
            obtain ⟨v29, hy30, h⟩ := h
            refine PWl.guardT (LR.rowN (r09_Minus_ok a1 b2 v29 hy30) rfl Tryz.call15 rfl rfl rfl rfl) rfl rfl rfl ?_
            replace h := iDet h
            obtain ⟨v31, hy32, h⟩ := h
            refine PWl.frz [33] hK (.cons rfl <| .nil) rfl (by simp) ?_
            refine PWl.frz [36] hK (.cons rfl <| .nil) rfl (by simp) ?_
            refine PWl.guardT (LR.callN (r09_Eq_ok v27 v29 v31 hy32) rfl Tryz.call9 rfl rfl rfl rfl) rfl rfl rfl ?_
            refine PWl.step (LR.pickT rfl rfl) rfl ?_
            refine PWl.step (LR.move rfl) rfl ?_
            refine PWl.split (d := 39) rfl (fun hg33 => ?_) (fun hg33 => ?_)
            · replace h := iT hg33 h
              refine PWl.guardT (LR.move rfl) rfl rfl rfl ?_
              refine PWl.guardT (LR.move rfl) rfl rfl rfl ?_
              replace h := iDet h
              obtain ⟨v34, hy35, h⟩ := h
              refine PWl.guardT (LR.callN (ctx_Within_ok a1 b2 v34 hy35) rfl Tryz.call16 rfl rfl rfl rfl) rfl rfl rfl ?_
              refine PWl.guardT (LR.move rfl) rfl rfl rfl ?_
              refine PWl.guardT (LR.move rfl) rfl rfl rfl ?_
              replace h := iDet h
              obtain ⟨v36, hy37, h⟩ := h
              refine PWl.guardT (LR.callN (r09_Within_ok a1 b2 v36 hy37) rfl Tryz.call17 rfl rfl rfl rfl) rfl rfl rfl ?_
              refine PWl.guardT (LR.eqlBool Tryz.underlying4 rfl rfl) rfl rfl rfl ?_
              refine PWl.re (tl := [(0, _), (1, _), (39, _), (46, _)]) (to := []) rfl (.cons rfl rfl <| .cons rfl rfl <| .cons rfl rfl <| .cons rfl rfl <| .nil) (.nil) ?_
              refine PWl.step (LR.pickT rfl rfl) rfl ?_
              refine PWl.step (LR.move rfl) rfl ?_
              refine PWl.split (d := 48) rfl (fun hg38 => ?_) (fun hg38 => ?_)
              · replace h := iT hg38 h
                refine PWl.guardT (LR.move rfl) rfl rfl rfl ?_
                refine PWl.guardT (LR.move rfl) rfl rfl rfl ?_
                replace h := iDet h
                obtain ⟨v39, hy40, h⟩ := h
                refine PWl.guardT (LR.callN (ctx_Same_ok a1 b2 v39 hy40) rfl Tryz.call18 rfl rfl rfl rfl) rfl rfl rfl ?_
                refine PWl.guardT (LR.move rfl) rfl rfl rfl ?_
                refine PWl.guardT (LR.move rfl) rfl rfl rfl ?_
                replace h := iDet h
                obtain ⟨v41, hy42, h⟩ := h
                refine PWl.guardT (LR.callN (r09_Same_ok a1 b2 v41 hy42) rfl Tryz.call19 rfl rfl rfl rfl) rfl rfl rfl ?_
                refine PWl.guardT (LR.eqlBool Tryz.underlying4 rfl rfl) rfl rfl rfl ?_
                refine PWl.step (LR.pickT rfl rfl) rfl ?_
                refine PWl.step (LR.move rfl) rfl ?_
                refine PWl.split (d := 57) rfl (fun hg43 => ?_) (fun hg43 => ?_)
                · replace h := iT hg43 h
                  replace h := iDet h
                  obtain ⟨v44, hy45, h⟩ := h
                  refine PWl.guardT (LR.callN (l09_works_ok v44 hy45) rfl Tryz.call8 rfl rfl rfl rfl) rfl rfl rfl ?_
                  refine PWl.step (LR.pickT rfl rfl) rfl ?_
                  refine PWl.step (LR.assign rfl) rfl ?_
                  refine PWl.nil ?_
                  exact ⟨v44, (), h, Sub.of rfl (.cons rfl rfl <| .nil) (.nil)⟩
                · replace h := iF hg43 h
                  refine PWl.guardF rfl rfl rfl (by decide) ?_
                  refine PWl.step (LR.pickF rfl rfl) rfl ?_
                  refine PWl.step (LR.assign rfl) rfl ?_
                  refine PWl.nil ?_
                  exact ⟨false, (), h, Sub.of rfl (.cons rfl rfl <| .nil) (.nil)⟩
              · replace h := iF hg38 h
                refine PWl.guardF rfl rfl rfl (by decide) ?_
                refine PWl.guardF rfl rfl rfl (by decide) ?_
                refine PWl.guardF rfl rfl rfl (by decide) ?_
                refine PWl.guardF rfl rfl rfl (by decide) ?_
                refine PWl.guardF rfl rfl rfl (by decide) ?_
                refine PWl.guardF rfl rfl rfl (by decide) ?_
                refine PWl.guardF rfl rfl rfl (by decide) ?_
                refine PWl.step (LR.pickF rfl rfl) rfl ?_
                refine PWl.step (LR.move rfl) rfl ?_
                refine PWl.guardF rfl rfl rfl (by decide) ?_
                refine PWl.step (LR.pickF rfl rfl) rfl ?_
                refine PWl.step (LR.assign rfl) rfl ?_
                refine PWl.nil ?_
                exact ⟨false, (), h, Sub.of rfl (.cons rfl rfl <| .nil) (.nil)⟩
            · replace h := iF hg33 h
              refine PWl.guardF rfl rfl rfl (by decide) ?_
              refine PWl.guardF rfl rfl rfl (by decide) ?_
              refine PWl.guardF rfl rfl rfl (by decide) ?_
              refine PWl.guardF rfl rfl rfl (by decide) ?_
              refine PWl.guardF rfl rfl rfl (by decide) ?_
              refine PWl.guardF rfl rfl rfl (by decide) ?_
              refine PWl.guardF rfl rfl rfl (by decide) ?_
              refine PWl.re (tl := [(0, _), (1, _), (39, _), (46, _)]) (to := []) rfl (.cons rfl rfl <| .cons rfl rfl <| .cons rfl rfl <| .cons rfl rfl <| .nil) (.nil) ?_
              refine PWl.step (LR.pickF rfl rfl) rfl ?_
              refine PWl.step (LR.move rfl) rfl ?_
              refine PWl.guardF rfl rfl rfl (by decide) ?_
              refine PWl.guardF rfl rfl rfl (by decide) ?_
              refine PWl.guardF rfl rfl rfl (by decide) ?_
              refine PWl.guardF rfl rfl rfl (by decide) ?_
              refine PWl.guardF rfl rfl rfl (by decide) ?_
              refine PWl.guardF rfl rfl rfl (by decide) ?_
              refine PWl.guardF rfl rfl rfl (by decide) ?_
              refine PWl.step (LR.pickF rfl rfl) rfl ?_
              refine PWl.step (LR.move rfl) rfl ?_
              refine PWl.guardF rfl rfl rfl (by decide) ?_
              refine PWl.step (LR.pickF rfl rfl) rfl ?_
              refine PWl.step (LR.assign rfl) rfl ?_
              refine PWl.nil ?_
              exact ⟨false, (), h, Sub.of rfl (.cons rfl rfl <| .nil) (.nil)⟩
          · replace h := iF hg26 h
            refine PWl.guardF rfl rfl rfl (by decide) ?_
            refine PWl.guardF rfl rfl rfl (by decide) ?_
            refine PWl.guardF rfl rfl rfl (by decide) ?_
            refine PWl.guardF rfl rfl rfl (by decide) ?_
            refine PWl.guardF rfl rfl rfl (by decide) ?_
            refine PWl.guardF rfl rfl rfl (by decide) ?_
            refine PWl.guardF rfl rfl rfl (by decide) ?_
            refine PWl.step (LR.pickF rfl rfl) rfl ?_
            refine PWl.step (LR.move rfl) rfl ?_
            refine PWl.guardF rfl rfl rfl (by decide) ?_
            refine PWl.guardF rfl rfl rfl (by decide) ?_
            refine PWl.guardF rfl rfl rfl (by decide) ?_
            refine PWl.guardF rfl rfl rfl (by decide) ?_
            refine PWl.guardF rfl rfl rfl (by decide) ?_
            refine PWl.guardF rfl rfl rfl (by decide) ?_
            refine PWl.guardF rfl rfl rfl (by decide) ?_
            refine PWl.step (LR.pickF rfl rfl) rfl ?_
            refine PWl.re (tl := [(0, _), (1, _), (47, _)]) (to := []) rfl (.cons rfl rfl <| .cons rfl rfl <| .cons rfl rfl <| .nil) (.nil) ?_
            refine PWl.step (LR.move rfl) rfl ?_
            refine PWl.guardF rfl rfl rfl (by decide) ?_
            refine PWl.guardF rfl rfl rfl (by decide) ?_
            refine PWl.guardF rfl rfl rfl (by decide) ?_
            refine PWl.guardF rfl rfl rfl (by decide) ?_
            refine PWl.guardF rfl rfl rfl (by decide) ?_
            refine PWl.guardF rfl rfl rfl (by decide) ?_
            refine PWl.guardF rfl rfl rfl (by decide) ?_
            refine PWl.step (LR.pickF rfl rfl) rfl ?_
            refine PWl.step (LR.move rfl) rfl ?_
            refine PWl.guardF rfl rfl rfl (by decide) ?_
            refine PWl.step (LR.pickF rfl rfl) rfl ?_
            refine PWl.step (LR.assign rfl) rfl ?_
            refine PWl.nil ?_
            exact ⟨false, (), h, Sub.of rfl (.cons rfl rfl <| .nil) (.nil)⟩
        · replace h := iF hg19 h
          refine PWl.guardF rfl rfl rfl (by decide) ?_
          refine PWl.guardF rfl rfl rfl (by decide) ?_
          refine PWl.guardF rfl rfl rfl (by decide) ?_
          refine PWl.guardF rfl rfl rfl (by decide) ?_
          refine PWl.guardF rfl rfl rfl (by decide) ?_
          refine PWl.guardF rfl rfl rfl (by decide) ?_
          refine PWl.guardF rfl rfl rfl (by decide) ?_
          refine PWl.step (LR.pickF rfl rfl) rfl ?_
          refine PWl.step (LR.move rfl) rfl ?_
          refine PWl.re (tl := [(0, _), (1, _), (30, _)]) (to := []) rfl (.cons rfl rfl <| .cons rfl rfl <| .cons rfl rfl <| .nil) (.nil) ?_
          refine PWl.guardF rfl rfl rfl (by decide) ?_
          refine PWl.guardF rfl rfl rfl (by decide) ?_
          refine PWl.guardF rfl rfl rfl (by decide) ?_
          refine PWl.guardF rfl rfl rfl (by decide) ?_
          refine PWl.guardF rfl rfl rfl (by decide) ?_
          refine PWl.guardF rfl rfl rfl (by decide) ?_
          refine PWl.guardF rfl rfl rfl (by decide) ?_
          refine PWl.step (LR.pickF rfl rfl) rfl ?_
          refine PWl.step (LR.move rfl) rfl ?_
          refine PWl.guardF rfl rfl rfl (by decide) ?_
          refine PWl.guardF rfl rfl rfl (by decide) ?_
          refine PWl.guardF rfl rfl rfl (by decide) ?_
          refine PWl.guardF rfl rfl rfl (by decide) ?_
          refine PWl.guardF rfl rfl rfl (by decide) ?_
          refine PWl.guardF rfl rfl rfl (by decide) ?_
          refine PWl.guardF rfl rfl rfl (by decide) ?_
          refine PWl.step (LR.pickF rfl rfl) rfl ?_
          refine PWl.step (LR.move rfl) rfl ?_
          refine PWl.re (tl := [(0, _), (1, _), (48, _)]) (to := []) rfl (.cons rfl rfl <| .cons rfl rfl <| .cons rfl rfl <| .nil) (.nil) ?_
          refine PWl.guardF rfl rfl rfl (by decide) ?_
          refine PWl.guardF rfl rfl rfl (by decide) ?_
          refine PWl.guardF rfl rfl rfl (by decide) ?_
          refine PWl.guardF rfl rfl rfl (by decide) ?_
          refine PWl.guardF rfl rfl rfl (by decide) ?_
          refine PWl.guardF rfl rfl rfl (by decide) ?_
          refine PWl.guardF rfl rfl rfl (by decide) ?_
          refine PWl.step (LR.pickF rfl rfl) rfl ?_
          refine PWl.step (LR.move rfl) rfl ?_
          refine PWl.guardF rfl rfl rfl (by decide) ?_
          refine PWl.step (LR.pickF rfl rfl) rfl ?_
          refine PWl.step (LR.assign rfl) rfl ?_
          refine PWl.nil ?_
          exact ⟨false, (), h, Sub.of rfl (.cons rfl rfl <| .nil) (.nil)⟩
      · rintro v12 _ h
        refine PWc.ret ?_
        replace h : _ = r0 := h
        subst h
        exact ⟨.inr rfl, _, .cons (.tmp rfl rfl) <| .nil, rfl⟩

theorem ctx_Good_ok (c1 : List TPart) (r0 : Bool) (h : (ctx_Good c1).wp (· = r0)) : PFun Tryz.prog 22 [.d (.sl (List.map TPart.e c1))] (.d (.v (.bool r0))) := by
  refine PFun.intro (sl := [(0, _)]) Tryz.func22 rfl Tryz.ntmps22 rfl rfl ?_
  intro ctx hK
  refine PWc.seq ?_
  refine PWc.region ?_
  refine PWl.step (LR.assign rfl) rfl ?_
  refine PWl.nil ?_
  refine PWc.seq ?_
  refine PWc.region ?_
  refine PWl.step (LR.move rfl) rfl ?_
  refine PWl.step (LR.move rfl) rfl ?_
  replace h := iDet h
  obtain ⟨v2, hy3, h⟩ := h
  refine PWl.step (LR.rowN (ctx_Norm_ok c1 v2 hy3) rfl Tryz.call20 rfl rfl rfl rfl) rfl ?_
  replace h := iDet h
  obtain ⟨v4, hy5, h⟩ := h
  refine PWl.frz [5] hK (.cons rfl <| .nil) rfl (by simp) ?_
  refine PWl.step (LR.callN (ctx_eq_ok c1 v2 v4 hy5) rfl Tryz.call65 rfl rfl rfl rfl) rfl ?_
  refine PWl.step (LR.assign rfl) rfl ?_
  refine PWl.nil ?_
  refine PWc.ret ?_
  replace h : _ = r0 := h
  subst h
  exact ⟨.inr rfl, _, .cons (.tmp rfl rfl) <| .nil, rfl⟩

theorem r09_Good_ok (c1 : List TPart) (r0 : Bool) (h : (r09_Good c1).wp (· = r0)) : PFun Tryz.prog 23 [.d (.sl (List.map TPart.e c1))] (.d (.v (.bool r0))) := by
  refine PFun.intro (sl := [(0, _)]) Tryz.func23 rfl Tryz.ntmps23 rfl rfl ?_
  intro ctx hK
  refine PWc.seq ?_
  refine PWc.region ?_
  refine PWl.step (LR.assign rfl) rfl ?_
  refine PWl.nil ?_
  refine PWc.seq ?_
  refine PWc.region ?_
  refine PWl.step (LR.move rfl) rfl ?_
  refine PWl.step (LR.move rfl) rfl ?_
  replace h := iDet h
  obtain ⟨v2, hy3, h⟩ := h
  refine PWl.step (LR.rowN (r09_Norm_ok c1 v2 hy3) rfl Tryz.call21 rfl rfl rfl rfl) rfl ?_
  replace h := iDet h
  obtain ⟨v4, hy5, h⟩ := h
  refine PWl.frz [5] hK (.cons rfl <| .nil) rfl (by simp) ?_
  refine PWl.step (LR.callN (r09_Eq_ok c1 v2 v4 hy5) rfl Tryz.call9 rfl rfl rfl rfl) rfl ?_
  refine PWl.step (LR.assign rfl) rfl ?_
  refine PWl.nil ?_
  refine PWc.ret ?_
  replace h : _ = r0 := h
  subst h
  exact ⟨.inr rfl, _, .cons (.tmp rfl rfl) <| .nil, rfl⟩

theorem r07_Good_ok (d1 : TDot) (r0 : Bool) (h : (r07_Good d1).wp (· = r0)) : PFun Tryz.prog 53 [.agg (List.map .d (TDot.e d1))] (.d (.v (.bool r0))) := by
  refine PFun.intro (sl := [(0, _)]) Tryz.func53 rfl Tryz.ntmps53 rfl rfl ?_
  intro ctx hK
  refine PWc.seq ?_
  refine PWc.region ?_
  refine PWl.step (LR.box rfl rfl rfl rfl) rfl ?_
  refine PWl.step (LR.assign rfl) rfl ?_
  refine PWl.nil ?_
  refine PWc.seq ?_
  refine PWc.jn (iBind h) (fun (v2 : Bool) (_ : Unit) => ⟨16, [(2, .d (.v (.bool v2)))], []⟩) (fun h => ?_) ?_
  · refine PWc.region ?_
    refine PWl.step (LR.fieldRef Tryz.underlying32 rfl Tryz.sizeOf29 (by decide) rfl rfl) rfl ?_
    refine PWl.step (LR.loadRef Tryz.isAgg29 rfl rfl rfl) rfl ?_
    refine PWl.step (LR.geq rfl rfl) rfl ?_
    refine PWl.step (LR.move rfl) rfl ?_
    refine PWl.split (d := 6) rfl (fun hg3 => ?_) (fun hg3 => ?_)
    · replace h := iT hg3 h
      refine PWl.guardT (LR.fieldRef Tryz.underlying32 rfl Tryz.sizeOf30 (by decide) rfl rfl) rfl rfl rfl ?_
      refine PWl.guardT (LR.loadRef Tryz.isAgg30 rfl rfl rfl) rfl rfl rfl ?_
      refine PWl.guardT (LR.geq rfl rfl) rfl rfl rfl ?_
      refine PWl.step (LR.pickT rfl rfl) rfl ?_
      refine PWl.step (LR.move rfl) rfl ?_
      refine PWl.split (d := 11) rfl (fun hg4 => ?_) (fun hg4 => ?_)
      · replace h := iT hg4 h
        refine PWl.guardT (LR.fieldRef Tryz.underlying32 rfl Tryz.sizeOf30 (by decide) rfl rfl) rfl rfl rfl ?_
        refine PWl.guardT (LR.loadRef Tryz.isAgg30 rfl rfl rfl) rfl rfl rfl ?_
        refine PWl.guardT (LR.lss rfl rfl) rfl rfl rfl ?_
        refine PWl.step (LR.pickT rfl rfl) rfl ?_
        refine PWl.step (LR.assign rfl) rfl ?_
        refine PWl.nil ?_
        exact ⟨(decide (d1.n < 281474976710656)), (), h, Sub.of rfl (.cons rfl rfl <| .nil) (.nil)⟩
      · replace h := iF hg4 h
        refine PWl.guardF rfl rfl rfl (by decide) ?_
        refine PWl.guardF rfl rfl rfl (by decide) ?_
        refine PWl.guardF rfl rfl rfl (by decide) ?_
        refine PWl.step (LR.pickF rfl rfl) rfl ?_
        refine PWl.step (LR.assign rfl) rfl ?_
        refine PWl.nil ?_
        exact ⟨false, (), h, Sub.of rfl (.cons rfl rfl <| .nil) (.nil)⟩
    · replace h := iF hg3 h
      refine PWl.guardF rfl rfl rfl (by decide) ?_
      refine PWl.guardF rfl rfl rfl (by decide) ?_
      refine PWl.guardF rfl rfl rfl (by decide) ?_
      refine PWl.step (LR.pickF rfl rfl) rfl ?_
      refine PWl.step (LR.move rfl) rfl ?_
      refine PWl.guardF rfl rfl rfl (by decide) ?_
      refine PWl.guardF rfl rfl rfl (by decide) ?_
      refine PWl.guardF rfl rfl rfl (by decide) ?_
      refine PWl.step (LR.pickF rfl rfl) rfl ?_
      refine PWl.step (LR.assign rfl) rfl ?_
      refine PWl.nil ?_
      exact ⟨false, (), h, Sub.of rfl (.cons rfl rfl <| .nil) (.nil)⟩
  · rintro v2 _ h
    refine PWc.ret ?_
    replace h : _ = r0 := h
    subst h
    exact ⟨.inr rfl, _, .cons (.tmp rfl rfl) <| .nil, rfl⟩

theorem r09_Of_ok (l1 : List TDot) (r0 : List TPart) (h : (r09_Of l1).wp (· = r0)) : PFun Tryz.prog 25 [.d (.sl (List.map TDot.e l1))] (.d (.sl (List.map TPart.e r0))) := by
  refine PFun.intro (sl := [(0, _)]) Tryz.func25 rfl Tryz.ntmps25 rfl rfl ?_
  intro ctx hK
  refine PWc.seq ?_
  refine PWc.region ?_
  refine PWl.step (LR.assignNilRow 80 2 rfl) rfl ?_
  refine PWl.nil ?_
  refine PWc.seq ?_
  refine PWc.region ?_
  refine PWl.step (LR.assignNilRow 80 2 rfl) rfl ?_
  refine PWl.nil ?_
  refine PWc.seq ?_
  refine PWc.seq ?_
  refine PWc.region ?_
  refine PWl.step (LR.assign rfl) rfl ?_
  refine PWl.nil ?_
  refine PWc.jn (iBind h) (fun (out2 : List TPart) (_ : Unit) => ⟨38, [(3, .d (.sl (List.map TPart.e out2)))], []⟩) (fun h => ?_) ?_
  · refine PWc.block ?_
    refine PWc.loopM (fun (⟨out35, i36⟩ : List TPart × Int) (_ : Unit) => ⟨38, [(0, .d (.sl (List.map TDot.e l1))), (3, .d (.sl (List.map TPart.e out35))), (4, .d (.v (.int .i64 i36)))], []⟩) () h (Sub.trans (Sub.frz [3] hK rfl (by first | (simp; done) | (simp; omega) | omega) (AllRow.get (.cons rfl <| .nil))) <| Sub.of rfl (.cons rfl rfl <| .cons rfl rfl <| .cons rfl rfl <| .nil) (.nil)) ?_
    rintro N ⟨out35, i36⟩ _ h
    refine PWc.seq ?_
    refine PWc.seq ?_
    refine PWc.region ?_
    refine PWl.step (LR.move rfl) rfl ?_
    refine PWl.step (LR.move rfl) rfl ?_
    refine PWl.step (LR.lenMap (enc := TDot.e) (L := l1) Tryz.underlying28 rfl) rfl ?_
    refine PWl.step (LR.lss rfl rfl) rfl ?_
    refine PWl.nil ?_
    refine PWc.cond rfl (fun hc37 => ?_) (fun hc37 => ?_)
    · replace h := iT hc37 h
      refine PWc.skip ?_
      refine PWc.seq ?_
      refine PWc.jn (iBind h) (fun (out38 : List TPart) (_ : Unit) => ⟨38, [(0, .d (.sl (List.map TDot.e l1))), (3, .d (.sl (List.map TPart.e out38))), (4, .d (.v (.int .i64 i36)))], []⟩) (fun h => ?_) ?_
      · refine PWc.block ?_
        refine PWc.seq ?_
        refine PWc.region ?_
        refine PWl.step (LR.move rfl) rfl ?_
        refine PWl.step (LR.move rfl) rfl ?_
        replace h := iIdx h
        obtain ⟨x39, hy40, h⟩ := h
        refine PWl.step (LR.idxT (enc := TDot.e) (L := l1) (y := x39) Tryz.underlying28 Tryz.sizeOf32 rfl rfl hy40 (fun _ => rfl)) rfl ?_
        refine PWl.step (LR.loadEpAgg (ys := [_, _]) Tryz.isAgg32 Tryz.sizeOf32 rfl rfl rfl) rfl ?_
        replace h := iDet h
        obtain ⟨v41, hy42, h⟩ := h
        refine PWl.step (LR.callN (r07_Good_ok x39 v41 hy42) rfl Tryz.call53 rfl rfl rfl rfl) rfl ?_
        refine PWl.nil ?_
        refine PWc.cond rfl (fun hc43 => ?_) (fun hc43 => ?_)
        · replace h := iT hc43 h
          refine PWc.re (tl := [(0, _), (3, _), (4, _)]) (to := []) rfl (.cons rfl rfl <| .cons rfl rfl <| .cons rfl rfl <| .nil) (.nil) ?_
          refine PWc.regionE [⟨[16], [], [], [], [], [], [], []⟩, ⟨[17], [], [], [], [], [], [], []⟩, ⟨[18], [], [], [], [], [], [], []⟩, ⟨[19], [], [], [], [], [], [], []⟩, ⟨[20], [], [], [], [], [], [], []⟩, ⟨[21], [], [], [], [], [], [], []⟩, ⟨[22], [], [], [], [], [], [], []⟩, ⟨[23], [], [], [], [], [], [], []⟩, ⟨[24], [], [], [], [], [], [], []⟩, ⟨[25], [], [], [], [], [], [], []⟩, ⟨[26], [], [], [], [], [], [], []⟩, ⟨[27], [], [], [], [], [], [], []⟩, ⟨[28], [], [], [], [], [], [], []⟩, ⟨[29], [], [], [], [], [], [], []⟩, ⟨[30], [], [], [], [], [], [], []⟩, ⟨[31], [], [], [], [], [], [], []⟩, ⟨[32], [], [], [], [], [], [], []⟩, ⟨[33], [], [], [], [], [], [], []⟩, ⟨[34], [], [], [], [], [], [], []⟩, ⟨[35], [], [], [], [], [], [], []⟩, ⟨[36], [36], [], [36], [], [36], [], []⟩, ⟨[3], [], [], [], [], [36], [], []⟩] (by kernel_rfl) (by kernel_rfl) rfl ?_
          refine PQe.stepP (fun _ he ho => LR.move (he rfl rfl)) (.inl rfl) rfl ?_
          refine PQe.stepP (fun _ he ho => LR.move (he rfl rfl)) (.inl rfl) rfl ?_
          refine PQe.stepP (fun _ he ho => LR.move (he rfl rfl)) (.inl rfl) rfl ?_
          replace h := iIdx h
          obtain ⟨x44, hy45, h⟩ := h
          refine PQe.stepP (fun _ he ho => LR.idxT (enc := TDot.e) (L := l1) (y := x44) Tryz.underlying28 Tryz.sizeOf32 (he rfl rfl) (he rfl rfl) hy45 (fun _ => rfl)) (.inl rfl) rfl ?_
          refine PQe.stepP (fun _ he ho => LR.fieldEp Tryz.underlying32 rfl Tryz.sizeOf29 (by decide) rfl (he rfl rfl)) (.inl rfl) rfl ?_
          refine PQe.stepP (fun _ he ho => LR.loadEp Tryz.isAgg29 (he rfl rfl) rfl) (.inl rfl) rfl ?_
          refine PQe.stepP (fun _ he ho => LR.move (he rfl rfl)) (.inl rfl) rfl ?_
          refine PQe.stepP (fun _ he ho => LR.move (he rfl rfl)) (.inl rfl) rfl ?_
          replace h := iIdx h
          obtain ⟨x46, hy47, h⟩ := h
          refine PQe.stepP (fun _ he ho => LR.idxT (enc := TDot.e) (L := l1) (y := x46) Tryz.underlying28 Tryz.sizeOf32 (he rfl rfl) (he rfl rfl) hy47 (fun _ => rfl)) (.inl rfl) rfl ?_
          refine PQe.stepP (fun _ he ho => LR.fieldEp Tryz.underlying32 rfl Tryz.sizeOf30 (by decide) rfl (he rfl rfl)) (.inl rfl) rfl ?_
          refine PQe.stepP (fun _ he ho => LR.loadEp Tryz.isAgg30 (he rfl rfl) rfl) (.inl rfl) rfl ?_
          refine PQe.stepP (fun _ he ho => LR.move (he rfl rfl)) (.inl rfl) rfl ?_
          refine PQe.stepP (fun _ he ho => LR.move (he rfl rfl)) (.inl rfl) rfl ?_
          replace h := iIdx h
          obtain ⟨x48, hy49, h⟩ := h
          refine PQe.stepP (fun _ he ho => LR.idxT (enc := TDot.e) (L := l1) (y := x48) Tryz.underlying28 Tryz.sizeOf32 (he rfl rfl) (he rfl rfl) hy49 (fun _ => rfl)) (.inl rfl) rfl ?_
          refine PQe.stepP (fun _ he ho => LR.fieldEp Tryz.underlying32 rfl Tryz.sizeOf30 (by decide) rfl (he rfl rfl)) (.inl rfl) rfl ?_
          refine PQe.stepP (fun _ he ho => LR.loadEp Tryz.isAgg30 (he rfl rfl) rfl) (.inl rfl) rfl ?_
          refine PQe.stepP (fun _ he ho => LR.build (ns := [_, _]) build89 rfl (evpE he rfl rfl) rfl) (.inl rfl) rfl ?_
          refine PQe.stepP (fun _ he ho => LR.buildSliceD [.tmp 32] elem37 rfl rfl (.cons (he rfl rfl) rfl rfl <| .nil) (by decide) (by decide)) (.inl rfl) rfl ?_
          refine PQe.stepP (fun _ he ho => LR.build (ns := [_, _]) build80 rfl (evpE he rfl rfl) rfl) (.inl rfl) rfl ?_
          refine PQe.stepP (fun _ he ho => LR.buildSliceD [.tmp 34] elem23 rfl rfl (.cons (he rfl rfl) rfl rfl <| .nil) (by decide) (by decide)) (.inl rfl) rfl ?_
          replace h := iDet h
          obtain ⟨v50, hy51, h⟩ := h
          refine PQe.stepN (fun _ he ho hf => LR.rowN (r09_Join_ok out35 ([(⟨x44.dev, [(⟨x46.n, x48.n⟩ : TRun)]⟩ : TPart)]) v50 hy51) (he rfl rfl) Tryz.call11 (evsE he rfl rfl) rfl rfl hf) rfl (.inl rfl) rfl ?_
          refine PQe.stepP (fun _ he ho => LR.assign (he rfl rfl)) (.inl rfl) rfl ?_
          refine PQe.nil ?_
          exact ⟨v50, (), h, Sub.trans (Sub.frz [3, 36] hK rfl (by simp) (AllRow.get (.cons rfl <| .cons rfl <| .nil))) <| Sub.of rfl (.cons rfl rfl <| .cons rfl rfl <| .cons rfl rfl <| .nil) (.nil)⟩
        · replace h := iF hc43 h
          refine PWc.skip ?_
          exact ⟨out35, (), h, Sub.of rfl (.cons rfl rfl <| .cons rfl rfl <| .cons rfl rfl <| .nil) (.nil)⟩
      · rintro out38 _ h
        refine PWc.region ?_
        refine PWl.step (LR.move rfl) rfl ?_
        refine PWl.step (LR.addW rfl rfl) rfl ?_
        refine PWl.step (LR.assign rfl) rfl ?_
        refine PWl.nil ?_
        exact ⟨(out38, (IntKind.i64.wrap (i36 + 1))), (), h, Sub.of rfl (.cons rfl rfl <| .cons rfl rfl <| .cons rfl rfl <| .nil) (.nil)⟩
    · replace h := iF hc37 h
      refine PWc.exit ?_
      exact ⟨out35, (), h, Sub.of rfl (.cons rfl rfl <| .nil) (.nil)⟩
  · rintro out2 _ h
    refine PWc.seq ?_
    refine PWc.region ?_
    refine PWl.step (LR.move rfl) rfl ?_
    refine PWl.step (LR.assign rfl) rfl ?_
    refine PWl.nil ?_
    refine PWc.ret ?_
    replace h : _ = r0 := h
    subst h
    exact ⟨.inr rfl, _, .cons (.tmp rfl rfl) <| .nil, rfl⟩

theorem runs_Has_c1_ok (x1 : TRun) (n2 : Int) (r0 : Int) (h : (runs_Has_c1 x1 n2).wp (· = r0)) : PFun Tryz.prog 110 [.agg (List.map .d (TRun.e x1)), .d (.v (.int .u64 n2))] (.d (.v (.int .i64 r0))) := by
  refine PFun.intro (sl := [(0, _), (1, _)]) Tryz.func110 rfl Tryz.ntmps110 rfl rfl ?_
  intro ctx hK
  refine PWc.seq ?_
  refine PWc.region ?_
  refine PWl.step (LR.box rfl rfl rfl rfl) rfl ?_
  refine PWl.step (LR.assign rfl) rfl ?_
  refine PWl.nil ?_
  refine PWc.seq ?_
  refine PWc.region ?_
  refine PWl.step (LR.fieldRef Tryz.underlying89 rfl Tryz.sizeOf30 (by decide) rfl rfl) rfl ?_
  refine PWl.step (LR.loadRef Tryz.isAgg30 rfl rfl rfl) rfl ?_
  refine PWl.step (LR.move rfl) rfl ?_
  replace h := iDet h
  obtain ⟨v3, hy4, h⟩ := h
  refine PWl.step (LR.callN (cmp_Compare_uint64_ok x1.hi n2 v3 hy4) rfl Tryz.call107 rfl rfl rfl rfl) rfl ?_
  refine PWl.step (LR.assign rfl) rfl ?_
  refine PWl.nil ?_
  refine PWc.ret ?_
  replace h : _ = r0 := h
  subst h
  exact ⟨.inr rfl, _, .cons (.tmp rfl rfl) <| .nil, rfl⟩
end Go.Proofs

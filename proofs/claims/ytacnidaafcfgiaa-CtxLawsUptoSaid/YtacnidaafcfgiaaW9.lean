/- Walks: written by program. -/
import Derived.Test.YtacnidaafcfgiaaFc
import Derived.Test.YtacnidaafcfgiaaSh
import Derived.Test.YtacnidaafcfgiaaSx
import Derived.Test.YtacnidaafcfgiaaTl
import Derived.Test.YtacnidaafcfgiaaSr
import Derived.Test.YtacnidaafcfgiaaDr
import Derived.Test.YtacnidaafcfgiaaW1
import Derived.Test.YtacnidaafcfgiaaW2
import Derived.Test.YtacnidaafcfgiaaW4
import Derived.Test.YtacnidaafcfgiaaW5
import Derived.Test.YtacnidaafcfgiaaW6
import Derived.Test.YtacnidaafcfgiaaW8
namespace Go.Proofs
open Go.Ep
set_option maxHeartbeats 1000000
set_option maxRecDepth 100000
set_option linter.unusedVariables false
set_option linter.unusedSimpArgs false


theorem ctx_Good_ok (c1 : List TPart) (r0 : Bool) (h : (ctx_Good c1).wp (· = r0)) : PFun Try.prog 57 [.d (.sl (List.map TPart.e c1))] (.d (.v (.bool r0))) := by
  refine PFun.intro (sl := [(0, _)]) Try.func57 rfl Try.ntmps57 rfl rfl ?_
  intro ctx hK
  refine PWc.seq ?_
  refine PWc.region ?_
  refine PWl.step (LR.assign rfl) rfl ?_
  refine PWl.nil ?_
  refine PWc.seq ?_
  refine PWc.region ?_
  refine PWl.step (LR.move rfl) rfl ?_
  refine PWl.step (LR.move rfl) rfl ?_
  replace h := iDet h
  obtain ⟨v2, hy3, h⟩ := h
  refine PWl.step (LR.rowN (ctx_Norm_ok c1 v2 hy3) rfl Try.call84 rfl rfl rfl rfl) rfl ?_
  replace h := iDet h
  obtain ⟨v4, hy5, h⟩ := h
  refine PWl.frz [5] hK (.cons rfl <| .nil) rfl (by simp) ?_
  refine PWl.step (LR.callN (ctx_eq_ok c1 v2 v4 hy5) rfl Try.call104 rfl rfl rfl rfl) rfl ?_
  refine PWl.step (LR.assign rfl) rfl ?_
  refine PWl.nil ?_
  refine PWc.ret ?_
  replace h : _ = r0 := h
  subst h
  exact ⟨.inr rfl, _, .cons (.tmp rfl rfl) <| .nil, rfl⟩

theorem l09_CtxLaws_ok (a1 : List TPart) (b2 : List TPart) (d3 : TDot) (r0 : Bool) (h : (l09_CtxLaws a1 b2 d3).wp (· = r0)) : PFun Try.prog 9 [.d (.sl (List.map TPart.e a1)), .d (.sl (List.map TPart.e b2)), .agg (List.map .d (TDot.e d3))] (.d (.v (.bool r0))) := by
  refine PFun.intro (sl := [(0, _), (1, _), (2, _)]) Try.func9 rfl Try.ntmps9 rfl rfl ?_
  intro ctx hK
  refine PWc.seq ?_
  refine PWc.region ?_
  refine PWl.step (LR.box rfl rfl rfl rfl) rfl ?_
  refine PWl.step (LR.assign rfl) rfl ?_
  refine PWl.nil ?_
  refine PWc.seq ?_
  refine PWc.region ?_
  refine PWl.step (LR.move rfl) rfl ?_
  refine PWl.step (LR.move rfl) rfl ?_
  replace h := iDet h
  obtain ⟨v4, hy5, h⟩ := h
  refine PWl.step (LR.rowN (ctx_Join_ok a1 b2 v4 hy5) rfl Try.call52 rfl rfl rfl rfl) rfl ?_
  refine PWl.step (LR.move rfl) rfl ?_
  refine PWl.step (LR.move rfl) rfl ?_
  replace h := iDet h
  obtain ⟨v6, hy7, h⟩ := h
  refine PWl.step (LR.rowN (ctx_Meet_ok a1 b2 v6 hy7) rfl Try.call53 rfl rfl rfl rfl) rfl ?_
  refine PWl.step (LR.move rfl) rfl ?_
  refine PWl.step (LR.move rfl) rfl ?_
  replace h := iDet h
  obtain ⟨v8, hy9, h⟩ := h
  refine PWl.step (LR.rowN (ctx_Minus_ok a1 b2 v8 hy9) rfl Try.call54 rfl rfl rfl rfl) rfl ?_
  refine PWl.step (LR.assign rfl) rfl ?_
  refine PWl.step (LR.assign rfl) rfl ?_
  refine PWl.step (LR.assign rfl) rfl ?_
  refine PWl.nil ?_
  refine PWc.seq ?_
  refine PWc.seq ?_
  refine PWc.frz [7, 12] hK (.cons rfl <| .cons rfl <| .nil) rfl (by simp) ?_
  refine PWc.frz [8, 15] hK (.cons rfl <| .cons rfl <| .nil) rfl (by simp) ?_
  refine PWc.frz [9, 18] hK (.cons rfl <| .cons rfl <| .nil) rfl (by simp) ?_
  refine PWc.jn (iBind h) (fun (v10 : Bool) (_ : Unit) => ⟨113, [(0, .d (.sl (List.map TPart.e a1))), (1, .d (.sl (List.map TPart.e b2))), (7, .d (.sl (List.map TPart.e v4))), (8, .d (.sl (List.map TPart.e v6))), (9, .d (.sl (List.map TPart.e v8))), (59, .d (.v (.bool v10)))], []⟩) (fun h => ?_) ?_
  · refine PWc.regionD (by kernel_rfl) (by kernel_rfl) ?_
    refine PQl.step (fun _ he ho => LR.move (he rfl rfl)) rfl ?_
    refine PQl.step (fun _ he ho => LR.loadRefAgg (ps := [_, _]) Try.isAgg38 Try.sizeOf38 (he rfl rfl) (ho rfl) rfl rfl) rfl ?_
    replace h := iDet h
    obtain ⟨v11, hy12, h⟩ := h
    refine PQl.step (fun _ he ho => LR.callN (ctx_Has_ok v4 d3 v11 hy12) (he rfl rfl) Try.call45 (evsE he rfl rfl) rfl rfl rfl) rfl ?_
    refine PQl.step (fun _ he ho => LR.move (he rfl rfl)) rfl ?_
    refine PQl.step (fun _ he ho => LR.loadRefAgg (ps := [_, _]) Try.isAgg38 Try.sizeOf38 (he rfl rfl) (ho rfl) rfl rfl) rfl ?_
    replace h := iDet h
    obtain ⟨v13, hy14, h⟩ := h
    refine PQl.step (fun _ he ho => LR.callN (ctx_Has_ok a1 d3 v13 hy14) (he rfl rfl) Try.call45 (evsE he rfl rfl) rfl rfl rfl) rfl ?_
    refine PQl.step (fun _ he ho => LR.move (he rfl rfl)) rfl ?_
    refine PQl.split (d := 25) rfl (fun hg15 => ?_) (fun hg15 => ?_)
    · replace h := iT hg15 h
      refine PQl.guardF rfl rfl rfl (by decide) ?_
      refine PQl.guardF rfl rfl rfl (by decide) ?_
      refine PQl.guardF rfl rfl rfl (by decide) ?_
      refine PQl.step (fun _ he ho => LR.pickT (he rfl rfl) (he rfl rfl)) rfl ?_
      refine PQl.step (fun _ he ho => LR.neqBool Try.underlying4 (he rfl rfl) (he rfl rfl)) rfl ?_
      refine PQl.step (fun _ he ho => LR.move (he rfl rfl)) rfl ?_
      refine PQl.split (d := 31) rfl (fun hg16 => ?_) (fun hg16 => ?_)
      · replace h := iT hg16 h
        refine PQl.guardF rfl rfl rfl (by decide) ?_
        refine PQl.guardF rfl rfl rfl (by decide) ?_
        refine PQl.guardF rfl rfl rfl (by decide) ?_
        refine PQl.guardF rfl rfl rfl (by decide) ?_
        refine PQl.guardF rfl rfl rfl (by decide) ?_
        refine PQl.keep (tl := [(0, _), (1, _), (5, _), (7, _), (8, _), (9, _), (31, _), (34, _), (35, _), (36, _)]) rfl (.cons rfl rfl <| .cons rfl rfl <| .cons rfl rfl <| .cons rfl rfl <| .cons rfl rfl <| .cons rfl rfl <| .cons rfl rfl <| .cons rfl rfl <| .cons rfl rfl <| .cons rfl rfl <| .nil) ?_
        refine PQl.guardF rfl rfl rfl (by decide) ?_
        refine PQl.guardF rfl rfl rfl (by decide) ?_
        refine PQl.guardU rfl rfl rfl ?_
        refine PQl.guardU rfl rfl rfl ?_
        refine PQl.guardU rfl rfl rfl ?_
        refine PQl.guardF rfl rfl rfl (by decide) ?_
        refine PQl.guardF rfl rfl rfl (by decide) ?_
        refine PQl.step (fun _ he ho => LR.pickT (he rfl rfl) (he rfl rfl)) rfl ?_
        refine PQl.step (fun _ he ho => LR.move (he rfl rfl)) rfl ?_
        refine PQl.guardF rfl rfl rfl (by decide) ?_
        refine PQl.guardF rfl rfl rfl (by decide) ?_
        refine PQl.guardF rfl rfl rfl (by decide) ?_
        refine PQl.guardF rfl rfl rfl (by decide) ?_
        refine PQl.guardF rfl rfl rfl (by decide) ?_
        refine PQl.guardF rfl rfl rfl (by decide) ?_
        refine PQl.guardF rfl rfl rfl (by decide) ?_
        refine PQl.guardU rfl rfl rfl ?_
        refine PQl.guardU rfl rfl rfl ?_
        refine PQl.guardU rfl rfl rfl ?_
        refine PQl.guardU rfl rfl rfl ?_
        refine PQl.guardF rfl rfl rfl (by decide) ?_
        refine PQl.guardF rfl rfl rfl (by decide) ?_
        refine PQl.step (fun _ he ho => LR.pickT (he rfl rfl) (he rfl rfl)) rfl ?_
        refine PQl.nil ?_
        exact ⟨true, (), h, Sub.of rfl (.cons rfl rfl <| .cons rfl rfl <| .cons rfl rfl <| .cons rfl rfl <| .cons rfl rfl <| .cons rfl rfl <| .nil) (.nil)⟩
      · replace h := iF hg16 h
        refine PQl.guardT (fun _ he ho => LR.move (he rfl rfl)) rfl rfl rfl ?_
        refine PQl.guardT (fun _ he ho => LR.loadRefAgg (ps := [_, _]) Try.isAgg38 Try.sizeOf38 (he rfl rfl) (ho rfl) rfl rfl) rfl rfl rfl ?_
        replace h := iDet h
        obtain ⟨v17, hy18, h⟩ := h
        refine PQl.guardT (fun _ he ho => LR.callN (ctx_Has_ok v6 d3 v17 hy18) (he rfl rfl) Try.call45 (evsE he rfl rfl) rfl rfl rfl) rfl rfl rfl ?_
        refine PQl.guardT (fun _ he ho => LR.move (he rfl rfl)) rfl rfl rfl ?_
        refine PQl.guardT (fun _ he ho => LR.loadRefAgg (ps := [_, _]) Try.isAgg38 Try.sizeOf38 (he rfl rfl) (ho rfl) rfl rfl) rfl rfl rfl ?_
        refine PQl.keep (tl := [(0, _), (1, _), (5, _), (7, _), (8, _), (9, _), (31, _), (34, _), (35, _), (36, _)]) rfl (.cons rfl rfl <| .cons rfl rfl <| .cons rfl rfl <| .cons rfl rfl <| .cons rfl rfl <| .cons rfl rfl <| .cons rfl rfl <| .cons rfl rfl <| .cons rfl rfl <| .cons rfl rfl <| .nil) ?_
        replace h := iDet h
        obtain ⟨v19, hy20, h⟩ := h
        refine PQl.guardT (fun _ he ho => LR.callN (ctx_Has_ok a1 d3 v19 hy20) (he rfl rfl) Try.call45 (evsE he rfl rfl) rfl rfl rfl) rfl rfl rfl ?_
        refine PQl.guardT (fun _ he ho => LR.move (he rfl rfl)) rfl rfl rfl ?_
        refine PQl.split (d := 38) rfl (fun hg21 => ?_) (fun hg21 => ?_)
        · replace h := iT hg21 h
          refine PQl.guardT (fun _ he ho => LR.move (he rfl rfl)) rfl rfl rfl ?_
          refine PQl.guardT (fun _ he ho => LR.loadRefAgg (ps := [_, _]) Try.isAgg38 Try.sizeOf38 (he rfl rfl) (ho rfl) rfl rfl) rfl rfl rfl ?_
          replace h := iDet h
          obtain ⟨v22, hy23, h⟩ := h
          refine PQl.guardT (fun _ he ho => LR.callN (ctx_Has_ok b2 d3 v22 hy23) (he rfl rfl) Try.call45 (evsE he rfl rfl) rfl rfl rfl) rfl rfl rfl ?_
          refine PQl.guardT (fun _ he ho => LR.pickT (he rfl rfl) (he rfl rfl)) rfl rfl rfl ?_
          refine PQl.guardT (fun _ he ho => LR.neqBool Try.underlying4 (he rfl rfl) (he rfl rfl)) rfl rfl rfl ?_
          refine PQl.step (fun _ he ho => LR.pickF (he rfl rfl) (he rfl rfl)) rfl ?_
          refine PQl.step (fun _ he ho => LR.move (he rfl rfl)) rfl ?_
          refine PQl.split (d := 45) rfl (fun hg24 => ?_) (fun hg24 => ?_)
          · replace h := iT hg24 h
            refine PQl.guardF rfl rfl rfl (by decide) ?_
            refine PQl.guardF rfl rfl rfl (by decide) ?_
            refine PQl.guardF rfl rfl rfl (by decide) ?_
            refine PQl.guardF rfl rfl rfl (by decide) ?_
            refine PQl.guardF rfl rfl rfl (by decide) ?_
            refine PQl.guardF rfl rfl rfl (by decide) ?_
            refine PQl.guardF rfl rfl rfl (by decide) ?_
            refine PQl.guardU rfl rfl rfl ?_
            refine PQl.guardU rfl rfl rfl ?_
            refine PQl.guardU rfl rfl rfl ?_
            refine PQl.guardU rfl rfl rfl ?_
            refine PQl.guardF rfl rfl rfl (by decide) ?_
            refine PQl.guardF rfl rfl rfl (by decide) ?_
            refine PQl.step (fun _ he ho => LR.pickT (he rfl rfl) (he rfl rfl)) rfl ?_
            refine PQl.nil ?_
            exact ⟨true, (), h, Sub.of rfl (.cons rfl rfl <| .cons rfl rfl <| .cons rfl rfl <| .cons rfl rfl <| .cons rfl rfl <| .cons rfl rfl <| .nil) (.nil)⟩
          · replace h := iF hg24 h
            refine PQl.guardT (fun _ he ho => LR.move (he rfl rfl)) rfl rfl rfl ?_
            refine PQl.guardT (fun _ he ho => LR.loadRefAgg (ps := [_, _]) Try.isAgg38 Try.sizeOf38 (he rfl rfl) (ho rfl) rfl rfl) rfl rfl rfl ?_
            replace h := iDet h
            obtain ⟨v25, hy26, h⟩ := h
            refine PQl.guardT (fun _ he ho => LR.callN (ctx_Has_ok v8 d3 v25 hy26) (he rfl rfl) Try.call45 (evsE he rfl rfl) rfl rfl rfl) rfl rfl rfl ?_
            refine PQl.guardT (fun _ he ho => LR.move (he rfl rfl)) rfl rfl rfl ?_
            refine PQl.guardT (fun _ he ho => LR.loadRefAgg (ps := [_, _]) Try.isAgg38 Try.sizeOf38 (he rfl rfl) (ho rfl) rfl rfl) rfl rfl rfl ?_
            replace h := iDet h
            obtain ⟨v27, hy28, h⟩ := h
            refine PQl.guardT (fun _ he ho => LR.callN (ctx_Has_ok a1 d3 v27 hy28) (he rfl rfl) Try.call45 (evsE he rfl rfl) rfl rfl rfl) rfl rfl rfl ?_
            refine PQl.guardT (fun _ he ho => LR.move (he rfl rfl)) rfl rfl rfl ?_
            refine PQl.split (d := 52) rfl (fun hg29 => ?_) (fun hg29 => ?_)
            · replace h := iT hg29 h
              refine PQl.guardT (fun _ he ho => LR.move (he rfl rfl)) rfl rfl rfl ?_
              refine PQl.guardT (fun _ he ho => LR.loadRefAgg (ps := [_, _]) Try.isAgg38 Try.sizeOf38 (he rfl rfl) (ho rfl) rfl rfl) rfl rfl rfl ?_
              replace h := iDet h
              obtain ⟨v30, hy31, h⟩ := h
              refine PQl.guardT (fun _ he ho => LR.callN (ctx_Has_ok b2 d3 v30 hy31) (he rfl rfl) Try.call45 (evsE he rfl rfl) rfl rfl rfl) rfl rfl rfl ?_
              refine PQl.guardT (fun _ he ho => LR.not (he rfl rfl)) rfl rfl rfl ?_
              refine PQl.guardT (fun _ he ho => LR.pickT (he rfl rfl) (he rfl rfl)) rfl rfl rfl ?_
              refine PQl.guardT (fun _ he ho => LR.neqBool Try.underlying4 (he rfl rfl) (he rfl rfl)) rfl rfl rfl ?_
              refine PQl.step (fun _ he ho => LR.pickF (he rfl rfl) (he rfl rfl)) rfl ?_
              refine PQl.nil ?_
              exact ⟨(!(v25 == (!v30))), (), h, Sub.of rfl (.cons rfl rfl <| .cons rfl rfl <| .cons rfl rfl <| .cons rfl rfl <| .cons rfl rfl <| .cons rfl rfl <| .nil) (.nil)⟩
            · replace h := iF hg29 h
              refine PQl.guardF rfl rfl rfl (by decide) ?_
              refine PQl.guardF rfl rfl rfl (by decide) ?_
              refine PQl.guardF rfl rfl rfl (by decide) ?_
              refine PQl.guardF rfl rfl rfl (by decide) ?_
              refine PQl.guardT (fun _ he ho => LR.pickF (he rfl rfl) (he rfl rfl)) rfl rfl rfl ?_
              refine PQl.guardT (fun _ he ho => LR.neqBool Try.underlying4 (he rfl rfl) (he rfl rfl)) rfl rfl rfl ?_
              refine PQl.step (fun _ he ho => LR.pickF (he rfl rfl) (he rfl rfl)) rfl ?_
              refine PQl.nil ?_
              exact ⟨(!(v25 == false)), (), h, Sub.of rfl (.cons rfl rfl <| .cons rfl rfl <| .cons rfl rfl <| .cons rfl rfl <| .cons rfl rfl <| .cons rfl rfl <| .nil) (.nil)⟩
        · replace h := iF hg21 h
          refine PQl.guardF rfl rfl rfl (by decide) ?_
          refine PQl.guardF rfl rfl rfl (by decide) ?_
          refine PQl.guardF rfl rfl rfl (by decide) ?_
          refine PQl.guardT (fun _ he ho => LR.pickF (he rfl rfl) (he rfl rfl)) rfl rfl rfl ?_
          refine PQl.guardT (fun _ he ho => LR.neqBool Try.underlying4 (he rfl rfl) (he rfl rfl)) rfl rfl rfl ?_
          refine PQl.step (fun _ he ho => LR.pickF (he rfl rfl) (he rfl rfl)) rfl ?_
          refine PQl.step (fun _ he ho => LR.move (he rfl rfl)) rfl ?_
          refine PQl.split (d := 45) rfl (fun hg32 => ?_) (fun hg32 => ?_)
          · replace h := iT hg32 h
            refine PQl.guardF rfl rfl rfl (by decide) ?_
            refine PQl.guardF rfl rfl rfl (by decide) ?_
            refine PQl.guardF rfl rfl rfl (by decide) ?_
            refine PQl.guardF rfl rfl rfl (by decide) ?_
            refine PQl.guardF rfl rfl rfl (by decide) ?_
            refine PQl.guardF rfl rfl rfl (by decide) ?_
            refine PQl.guardF rfl rfl rfl (by decide) ?_
            refine PQl.guardU rfl rfl rfl ?_
            refine PQl.guardU rfl rfl rfl ?_
            refine PQl.guardU rfl rfl rfl ?_
            refine PQl.guardU rfl rfl rfl ?_
            refine PQl.guardF rfl rfl rfl (by decide) ?_
            refine PQl.guardF rfl rfl rfl (by decide) ?_
            refine PQl.step (fun _ he ho => LR.pickT (he rfl rfl) (he rfl rfl)) rfl ?_
            refine PQl.nil ?_
            exact ⟨true, (), h, Sub.of rfl (.cons rfl rfl <| .cons rfl rfl <| .cons rfl rfl <| .cons rfl rfl <| .cons rfl rfl <| .cons rfl rfl <| .nil) (.nil)⟩
          · replace h := iF hg32 h
            refine PQl.guardT (fun _ he ho => LR.move (he rfl rfl)) rfl rfl rfl ?_
            refine PQl.guardT (fun _ he ho => LR.loadRefAgg (ps := [_, _]) Try.isAgg38 Try.sizeOf38 (he rfl rfl) (ho rfl) rfl rfl) rfl rfl rfl ?_
            replace h := iDet h
            obtain ⟨v33, hy34, h⟩ := h
            refine PQl.guardT (fun _ he ho => LR.callN (ctx_Has_ok v8 d3 v33 hy34) (he rfl rfl) Try.call45 (evsE he rfl rfl) rfl rfl rfl) rfl rfl rfl ?_
            refine PQl.guardT (fun _ he ho => LR.move (he rfl rfl)) rfl rfl rfl ?_
            refine PQl.guardT (fun _ he ho => LR.loadRefAgg (ps := [_, _]) Try.isAgg38 Try.sizeOf38 (he rfl rfl) (ho rfl) rfl rfl) rfl rfl rfl ?_
            replace h := iDet h
            obtain ⟨v35, hy36, h⟩ := h
            refine PQl.guardT (fun _ he ho => LR.callN (ctx_Has_ok a1 d3 v35 hy36) (he rfl rfl) Try.call45 (evsE he rfl rfl) rfl rfl rfl) rfl rfl rfl ?_
            refine PQl.guardT (fun _ he ho => LR.move (he rfl rfl)) rfl rfl rfl ?_
            refine PQl.split (d := 52) rfl (fun hg37 => ?_) (fun hg37 => ?_)
            · replace h := iT hg37 h
              refine PQl.guardT (fun _ he ho => LR.move (he rfl rfl)) rfl rfl rfl ?_
              refine PQl.guardT (fun _ he ho => LR.loadRefAgg (ps := [_, _]) Try.isAgg38 Try.sizeOf38 (he rfl rfl) (ho rfl) rfl rfl) rfl rfl rfl ?_
              replace h := iDet h
              obtain ⟨v38, hy39, h⟩ := h
              refine PQl.guardT (fun _ he ho => LR.callN (ctx_Has_ok b2 d3 v38 hy39) (he rfl rfl) Try.call45 (evsE he rfl rfl) rfl rfl rfl) rfl rfl rfl ?_
              refine PQl.guardT (fun _ he ho => LR.not (he rfl rfl)) rfl rfl rfl ?_
              refine PQl.guardT (fun _ he ho => LR.pickT (he rfl rfl) (he rfl rfl)) rfl rfl rfl ?_
              refine PQl.guardT (fun _ he ho => LR.neqBool Try.underlying4 (he rfl rfl) (he rfl rfl)) rfl rfl rfl ?_
              refine PQl.step (fun _ he ho => LR.pickF (he rfl rfl) (he rfl rfl)) rfl ?_
              refine PQl.nil ?_
              exact ⟨(!(v33 == (!v38))), (), h, Sub.of rfl (.cons rfl rfl <| .cons rfl rfl <| .cons rfl rfl <| .cons rfl rfl <| .cons rfl rfl <| .cons rfl rfl <| .nil) (.nil)⟩
            · replace h := iF hg37 h
              refine PQl.guardF rfl rfl rfl (by decide) ?_
              refine PQl.guardF rfl rfl rfl (by decide) ?_
              refine PQl.guardF rfl rfl rfl (by decide) ?_
              refine PQl.guardF rfl rfl rfl (by decide) ?_
              refine PQl.guardT (fun _ he ho => LR.pickF (he rfl rfl) (he rfl rfl)) rfl rfl rfl ?_
              refine PQl.guardT (fun _ he ho => LR.neqBool Try.underlying4 (he rfl rfl) (he rfl rfl)) rfl rfl rfl ?_
              refine PQl.step (fun _ he ho => LR.pickF (he rfl rfl) (he rfl rfl)) rfl ?_
              refine PQl.nil ?_
              exact ⟨(!(v33 == false)), (), h, Sub.of rfl (.cons rfl rfl <| .cons rfl rfl <| .cons rfl rfl <| .cons rfl rfl <| .cons rfl rfl <| .cons rfl rfl <| .nil) (.nil)⟩
    · replace h := iF hg15 h
      refine PQl.guardT (fun _ he ho => LR.move (he rfl rfl)) rfl rfl rfl ?_
      refine PQl.guardT (fun _ he ho => LR.loadRefAgg (ps := [_, _]) Try.isAgg38 Try.sizeOf38 (he rfl rfl) (ho rfl) rfl rfl) rfl rfl rfl ?_
      replace h := iDet h
      obtain ⟨v40, hy41, h⟩ := h
      refine PQl.guardT (fun _ he ho => LR.callN (ctx_Has_ok b2 d3 v40 hy41) (he rfl rfl) Try.call45 (evsE he rfl rfl) rfl rfl rfl) rfl rfl rfl ?_
      refine PQl.step (fun _ he ho => LR.pickF (he rfl rfl) (he rfl rfl)) rfl ?_
      refine PQl.step (fun _ he ho => LR.neqBool Try.underlying4 (he rfl rfl) (he rfl rfl)) rfl ?_
      refine PQl.step (fun _ he ho => LR.move (he rfl rfl)) rfl ?_
      refine PQl.split (d := 31) rfl (fun hg42 => ?_) (fun hg42 => ?_)
      · replace h := iT hg42 h
        refine PQl.guardF rfl rfl rfl (by decide) ?_
        refine PQl.guardF rfl rfl rfl (by decide) ?_
        refine PQl.guardF rfl rfl rfl (by decide) ?_
        refine PQl.guardF rfl rfl rfl (by decide) ?_
        refine PQl.guardF rfl rfl rfl (by decide) ?_
        refine PQl.keep (tl := [(0, _), (1, _), (5, _), (7, _), (8, _), (9, _), (31, _), (34, _), (35, _), (36, _)]) rfl (.cons rfl rfl <| .cons rfl rfl <| .cons rfl rfl <| .cons rfl rfl <| .cons rfl rfl <| .cons rfl rfl <| .cons rfl rfl <| .cons rfl rfl <| .cons rfl rfl <| .cons rfl rfl <| .nil) ?_
        refine PQl.guardF rfl rfl rfl (by decide) ?_
        refine PQl.guardF rfl rfl rfl (by decide) ?_
        refine PQl.guardU rfl rfl rfl ?_
        refine PQl.guardU rfl rfl rfl ?_
        refine PQl.guardU rfl rfl rfl ?_
        refine PQl.guardF rfl rfl rfl (by decide) ?_
        refine PQl.guardF rfl rfl rfl (by decide) ?_
        refine PQl.step (fun _ he ho => LR.pickT (he rfl rfl) (he rfl rfl)) rfl ?_
        refine PQl.step (fun _ he ho => LR.move (he rfl rfl)) rfl ?_
        refine PQl.guardF rfl rfl rfl (by decide) ?_
        refine PQl.guardF rfl rfl rfl (by decide) ?_
        refine PQl.guardF rfl rfl rfl (by decide) ?_
        refine PQl.guardF rfl rfl rfl (by decide) ?_
        refine PQl.guardF rfl rfl rfl (by decide) ?_
        refine PQl.guardF rfl rfl rfl (by decide) ?_
        refine PQl.guardF rfl rfl rfl (by decide) ?_
        refine PQl.guardU rfl rfl rfl ?_
        refine PQl.guardU rfl rfl rfl ?_
        refine PQl.guardU rfl rfl rfl ?_
        refine PQl.guardU rfl rfl rfl ?_
        refine PQl.guardF rfl rfl rfl (by decide) ?_
        refine PQl.guardF rfl rfl rfl (by decide) ?_
        refine PQl.step (fun _ he ho => LR.pickT (he rfl rfl) (he rfl rfl)) rfl ?_
        refine PQl.nil ?_
        exact ⟨true, (), h, Sub.of rfl (.cons rfl rfl <| .cons rfl rfl <| .cons rfl rfl <| .cons rfl rfl <| .cons rfl rfl <| .cons rfl rfl <| .nil) (.nil)⟩
      · replace h := iF hg42 h
        refine PQl.guardT (fun _ he ho => LR.move (he rfl rfl)) rfl rfl rfl ?_
        refine PQl.guardT (fun _ he ho => LR.loadRefAgg (ps := [_, _]) Try.isAgg38 Try.sizeOf38 (he rfl rfl) (ho rfl) rfl rfl) rfl rfl rfl ?_
        replace h := iDet h
        obtain ⟨v43, hy44, h⟩ := h
        refine PQl.guardT (fun _ he ho => LR.callN (ctx_Has_ok v6 d3 v43 hy44) (he rfl rfl) Try.call45 (evsE he rfl rfl) rfl rfl rfl) rfl rfl rfl ?_
        refine PQl.guardT (fun _ he ho => LR.move (he rfl rfl)) rfl rfl rfl ?_
        refine PQl.guardT (fun _ he ho => LR.loadRefAgg (ps := [_, _]) Try.isAgg38 Try.sizeOf38 (he rfl rfl) (ho rfl) rfl rfl) rfl rfl rfl ?_
        refine PQl.keep (tl := [(0, _), (1, _), (5, _), (7, _), (8, _), (9, _), (31, _), (34, _), (35, _), (36, _)]) rfl (.cons rfl rfl <| .cons rfl rfl <| .cons rfl rfl <| .cons rfl rfl <| .cons rfl rfl <| .cons rfl rfl <| .cons rfl rfl <| .cons rfl rfl <| .cons rfl rfl <| .cons rfl rfl <| .nil) ?_
        replace h := iDet h
        obtain ⟨v45, hy46, h⟩ := h
        refine PQl.guardT (fun _ he ho => LR.callN (ctx_Has_ok a1 d3 v45 hy46) (he rfl rfl) Try.call45 (evsE he rfl rfl) rfl rfl rfl) rfl rfl rfl ?_
        refine PQl.guardT (fun _ he ho => LR.move (he rfl rfl)) rfl rfl rfl ?_
        refine PQl.split (d := 38) rfl (fun hg47 => ?_) (fun hg47 => ?_)
        · replace h := iT hg47 h
          refine PQl.guardT (fun _ he ho => LR.move (he rfl rfl)) rfl rfl rfl ?_
          refine PQl.guardT (fun _ he ho => LR.loadRefAgg (ps := [_, _]) Try.isAgg38 Try.sizeOf38 (he rfl rfl) (ho rfl) rfl rfl) rfl rfl rfl ?_
          replace h := iDet h
          obtain ⟨v48, hy49, h⟩ := h
          refine PQl.guardT (fun _ he ho => LR.callN (ctx_Has_ok b2 d3 v48 hy49) (he rfl rfl) Try.call45 (evsE he rfl rfl) rfl rfl rfl) rfl rfl rfl ?_
          refine PQl.guardT (fun _ he ho => LR.pickT (he rfl rfl) (he rfl rfl)) rfl rfl rfl ?_
          refine PQl.guardT (fun _ he ho => LR.neqBool Try.underlying4 (he rfl rfl) (he rfl rfl)) rfl rfl rfl ?_
          refine PQl.step (fun _ he ho => LR.pickF (he rfl rfl) (he rfl rfl)) rfl ?_
          refine PQl.step (fun _ he ho => LR.move (he rfl rfl)) rfl ?_
          refine PQl.split (d := 45) rfl (fun hg50 => ?_) (fun hg50 => ?_)
          · replace h := iT hg50 h
            refine PQl.guardF rfl rfl rfl (by decide) ?_
            refine PQl.guardF rfl rfl rfl (by decide) ?_
            refine PQl.guardF rfl rfl rfl (by decide) ?_
            refine PQl.guardF rfl rfl rfl (by decide) ?_
            refine PQl.guardF rfl rfl rfl (by decide) ?_
            refine PQl.guardF rfl rfl rfl (by decide) ?_
            refine PQl.guardF rfl rfl rfl (by decide) ?_
            refine PQl.guardU rfl rfl rfl ?_
            refine PQl.guardU rfl rfl rfl ?_
            refine PQl.guardU rfl rfl rfl ?_
            refine PQl.guardU rfl rfl rfl ?_
            refine PQl.guardF rfl rfl rfl (by decide) ?_
            refine PQl.guardF rfl rfl rfl (by decide) ?_
            refine PQl.step (fun _ he ho => LR.pickT (he rfl rfl) (he rfl rfl)) rfl ?_
            refine PQl.nil ?_
            exact ⟨true, (), h, Sub.of rfl (.cons rfl rfl <| .cons rfl rfl <| .cons rfl rfl <| .cons rfl rfl <| .cons rfl rfl <| .cons rfl rfl <| .nil) (.nil)⟩
          · replace h := iF hg50 h
            refine PQl.guardT (fun _ he ho => LR.move (he rfl rfl)) rfl rfl rfl ?_
            refine PQl.guardT (fun _ he ho => LR.loadRefAgg (ps := [_, _]) Try.isAgg38 Try.sizeOf38 (he rfl rfl) (ho rfl) rfl rfl) rfl rfl rfl ?_
            replace h := iDet h
            obtain ⟨v51, hy52, h⟩ := h
            refine PQl.guardT (fun _ he ho => LR.callN (ctx_Has_ok v8 d3 v51 hy52) (he rfl rfl) Try.call45 (evsE he rfl rfl) rfl rfl rfl) rfl rfl rfl ?_
            refine PQl.guardT (fun _ he ho => LR.move (he rfl rfl)) rfl rfl rfl ?_
            refine PQl.guardT (fun _ he ho => LR.loadRefAgg (ps := [_, _]) Try.isAgg38 Try.sizeOf38 (he rfl rfl) (ho rfl) rfl rfl) rfl rfl rfl ?_
            replace h := iDet h
            obtain ⟨v53, hy54, h⟩ := h
            refine PQl.guardT (fun _ he ho => LR.callN (ctx_Has_ok a1 d3 v53 hy54) (he rfl rfl) Try.call45 (evsE he rfl rfl) rfl rfl rfl) rfl rfl rfl ?_
            refine PQl.guardT (fun _ he ho => LR.move (he rfl rfl)) rfl rfl rfl ?_
            refine PQl.split (d := 52) rfl (fun hg55 => ?_) (fun hg55 => ?_)
            · replace h := iT hg55 h
              refine PQl.guardT (fun _ he ho => LR.move (he rfl rfl)) rfl rfl rfl ?_
              refine PQl.guardT (fun _ he ho => LR.loadRefAgg (ps := [_, _]) Try.isAgg38 Try.sizeOf38 (he rfl rfl) (ho rfl) rfl rfl) rfl rfl rfl ?_
              replace h := iDet h
              obtain ⟨v56, hy57, h⟩ := h
              refine PQl.guardT (fun _ he ho => LR.callN (ctx_Has_ok b2 d3 v56 hy57) (he rfl rfl) Try.call45 (evsE he rfl rfl) rfl rfl rfl) rfl rfl rfl ?_
              refine PQl.guardT (fun _ he ho => LR.not (he rfl rfl)) rfl rfl rfl ?_
              refine PQl.guardT (fun _ he ho => LR.pickT (he rfl rfl) (he rfl rfl)) rfl rfl rfl ?_
              refine PQl.guardT (fun _ he ho => LR.neqBool Try.underlying4 (he rfl rfl) (he rfl rfl)) rfl rfl rfl ?_
              refine PQl.step (fun _ he ho => LR.pickF (he rfl rfl) (he rfl rfl)) rfl ?_
              refine PQl.nil ?_
              exact ⟨(!(v51 == (!v56))), (), h, Sub.of rfl (.cons rfl rfl <| .cons rfl rfl <| .cons rfl rfl <| .cons rfl rfl <| .cons rfl rfl <| .cons rfl rfl <| .nil) (.nil)⟩
            · replace h := iF hg55 h
              refine PQl.guardF rfl rfl rfl (by decide) ?_
              refine PQl.guardF rfl rfl rfl (by decide) ?_
              refine PQl.guardF rfl rfl rfl (by decide) ?_
              refine PQl.guardF rfl rfl rfl (by decide) ?_
              refine PQl.guardT (fun _ he ho => LR.pickF (he rfl rfl) (he rfl rfl)) rfl rfl rfl ?_
              refine PQl.guardT (fun _ he ho => LR.neqBool Try.underlying4 (he rfl rfl) (he rfl rfl)) rfl rfl rfl ?_
              refine PQl.step (fun _ he ho => LR.pickF (he rfl rfl) (he rfl rfl)) rfl ?_
              refine PQl.nil ?_
              exact ⟨(!(v51 == false)), (), h, Sub.of rfl (.cons rfl rfl <| .cons rfl rfl <| .cons rfl rfl <| .cons rfl rfl <| .cons rfl rfl <| .cons rfl rfl <| .nil) (.nil)⟩
        · replace h := iF hg47 h
          refine PQl.guardF rfl rfl rfl (by decide) ?_
          refine PQl.guardF rfl rfl rfl (by decide) ?_
          refine PQl.guardF rfl rfl rfl (by decide) ?_
          refine PQl.guardT (fun _ he ho => LR.pickF (he rfl rfl) (he rfl rfl)) rfl rfl rfl ?_
          refine PQl.guardT (fun _ he ho => LR.neqBool Try.underlying4 (he rfl rfl) (he rfl rfl)) rfl rfl rfl ?_
          refine PQl.step (fun _ he ho => LR.pickF (he rfl rfl) (he rfl rfl)) rfl ?_
          refine PQl.step (fun _ he ho => LR.move (he rfl rfl)) rfl ?_
          refine PQl.split (d := 45) rfl (fun hg58 => ?_) (fun hg58 => ?_)
          · replace h := iT hg58 h
            refine PQl.guardF rfl rfl rfl (by decide) ?_
            refine PQl.guardF rfl rfl rfl (by decide) ?_
            refine PQl.guardF rfl rfl rfl (by decide) ?_
            refine PQl.guardF rfl rfl rfl (by decide) ?_
            refine PQl.guardF rfl rfl rfl (by decide) ?_
            refine PQl.guardF rfl rfl rfl (by decide) ?_
            refine PQl.guardF rfl rfl rfl (by decide) ?_
            refine PQl.guardU rfl rfl rfl ?_
            refine PQl.guardU rfl rfl rfl ?_
            refine PQl.guardU rfl rfl rfl ?_
            refine PQl.guardU rfl rfl rfl ?_
            refine PQl.guardF rfl rfl rfl (by decide) ?_
            refine PQl.guardF rfl rfl rfl (by decide) ?_
            refine PQl.step (fun _ he ho => LR.pickT (he rfl rfl) (he rfl rfl)) rfl ?_
            refine PQl.nil ?_
            exact ⟨true, (), h, Sub.of rfl (.cons rfl rfl <| .cons rfl rfl <| .cons rfl rfl <| .cons rfl rfl <| .cons rfl rfl <| .cons rfl rfl <| .nil) (.nil)⟩
          · replace h := iF hg58 h
            refine PQl.guardT (fun _ he ho => LR.move (he rfl rfl)) rfl rfl rfl ?_
            refine PQl.guardT (fun _ he ho => LR.loadRefAgg (ps := [_, _]) Try.isAgg38 Try.sizeOf38 (he rfl rfl) (ho rfl) rfl rfl) rfl rfl rfl ?_
            replace h := iDet h
            obtain ⟨v59, hy60, h⟩ := h
            refine PQl.guardT (fun _ he ho => LR.callN (ctx_Has_ok v8 d3 v59 hy60) (he rfl rfl) Try.call45 (evsE he rfl rfl) rfl rfl rfl) rfl rfl rfl ?_
            refine PQl.guardT (fun _ he ho => LR.move (he rfl rfl)) rfl rfl rfl ?_
            refine PQl.guardT (fun _ he ho => LR.loadRefAgg (ps := [_, _]) Try.isAgg38 Try.sizeOf38 (he rfl rfl) (ho rfl) rfl rfl) rfl rfl rfl ?_
            replace h := iDet h
            obtain ⟨v61, hy62, h⟩ := h
            refine PQl.guardT (fun _ he ho => LR.callN (ctx_Has_ok a1 d3 v61 hy62) (he rfl rfl) Try.call45 (evsE he rfl rfl) rfl rfl rfl) rfl rfl rfl ?_
            refine PQl.guardT (fun _ he ho => LR.move (he rfl rfl)) rfl rfl rfl ?_
            refine PQl.split (d := 52) rfl (fun hg63 => ?_) (fun hg63 => ?_)
            · replace h := iT hg63 h
              refine PQl.guardT (fun _ he ho => LR.move (he rfl rfl)) rfl rfl rfl ?_
              refine PQl.guardT (fun _ he ho => LR.loadRefAgg (ps := [_, _]) Try.isAgg38 Try.sizeOf38 (he rfl rfl) (ho rfl) rfl rfl) rfl rfl rfl ?_
              replace h := iDet h
              obtain ⟨v64, hy65, h⟩ := h
              refine PQl.guardT (fun _ he ho => LR.callN (ctx_Has_ok b2 d3 v64 hy65) (he rfl rfl) Try.call45 (evsE he rfl rfl) rfl rfl rfl) rfl rfl rfl ?_
              refine PQl.guardT (fun _ he ho => LR.not (he rfl rfl)) rfl rfl rfl ?_
              refine PQl.guardT (fun _ he ho => LR.pickT (he rfl rfl) (he rfl rfl)) rfl rfl rfl ?_
              refine PQl.guardT (fun _ he ho => LR.neqBool Try.underlying4 (he rfl rfl) (he rfl rfl)) rfl rfl rfl ?_
              refine PQl.step (fun _ he ho => LR.pickF (he rfl rfl) (he rfl rfl)) rfl ?_
              refine PQl.nil ?_
              exact ⟨(!(v59 == (!v64))), (), h, Sub.of rfl (.cons rfl rfl <| .cons rfl rfl <| .cons rfl rfl <| .cons rfl rfl <| .cons rfl rfl <| .cons rfl rfl <| .nil) (.nil)⟩
            · replace h := iF hg63 h
              refine PQl.guardF rfl rfl rfl (by decide) ?_
              refine PQl.guardF rfl rfl rfl (by decide) ?_
              refine PQl.guardF rfl rfl rfl (by decide) ?_
              refine PQl.guardF rfl rfl rfl (by decide) ?_
              refine PQl.guardT (fun _ he ho => LR.pickF (he rfl rfl) (he rfl rfl)) rfl rfl rfl ?_
              refine PQl.guardT (fun _ he ho => LR.neqBool Try.underlying4 (he rfl rfl) (he rfl rfl)) rfl rfl rfl ?_
              refine PQl.step (fun _ he ho => LR.pickF (he rfl rfl) (he rfl rfl)) rfl ?_
              refine PQl.nil ?_
              exact ⟨(!(v59 == false)), (), h, Sub.of rfl (.cons rfl rfl <| .cons rfl rfl <| .cons rfl rfl <| .cons rfl rfl <| .cons rfl rfl <| .cons rfl rfl <| .nil) (.nil)⟩
  · rintro v10 _ h
    refine PWc.cond rfl (fun hc66 => ?_) (fun hc66 => ?_)
    · replace h := iT hc66 h
      refine PWc.seq ?_
      refine PWc.region ?_
      refine PWl.step (LR.assign rfl) rfl ?_
      refine PWl.nil ?_
      refine PWc.ret ?_
      replace h : _ = r0 := h
      subst h
      exact ⟨.inr rfl, _, .cons (.tmp rfl rfl) <| .nil, rfl⟩
    · replace h := iF hc66 h
      refine PWc.skip ?_
      refine PWc.seq ?_
      refine PWc.jn (iBind h) (fun (v67 : Bool) (_ : Unit) => ⟨113, [(6, .d (.v (.bool v67)))], []⟩) (fun h => ?_) ?_
      · refine PWc.region ?_
        refine PWl.step (LR.move rfl) rfl ?_
        replace h := iDet h
        obtain ⟨v68, hy69, h⟩ := h
        refine PWl.step (LR.callN (ctx_Size_ok v4 v68 hy69) rfl Try.call55 rfl rfl rfl rfl) rfl ?_
        refine PWl.step (LR.move rfl) rfl ?_
        replace h := iDet h
        obtain ⟨v70, hy71, h⟩ := h
        refine PWl.step (LR.callN (ctx_Size_ok v6 v70 hy71) rfl Try.call55 rfl rfl rfl rfl) rfl ?_
        refine PWl.step (LR.addW rfl rfl) rfl ?_
        refine PWl.step (LR.move rfl) rfl ?_
        replace h := iDet h
        obtain ⟨v72, hy73, h⟩ := h
        refine PWl.step (LR.callN (ctx_Size_ok a1 v72 hy73) rfl Try.call55 rfl rfl rfl rfl) rfl ?_
        refine PWl.step (LR.move rfl) rfl ?_
        replace h := iDet h
        obtain ⟨v74, hy75, h⟩ := h
        refine PWl.step (LR.callN (ctx_Size_ok b2 v74 hy75) rfl Try.call55 rfl rfl rfl rfl) rfl ?_
        refine PWl.step (LR.addW rfl rfl) rfl ?_
        refine PWl.step (LR.eql rfl rfl) rfl ?_
        refine PWl.step (LR.move rfl) rfl ?_
        refine PWl.split (d := 71) rfl (fun hg76 => ?_) (fun hg76 => ?_)
        · replace h := iT hg76 h
          refine PWl.guardT (LR.move rfl) rfl rfl rfl ?_
          refine PWl.guardT (LR.move rfl) rfl rfl rfl ?_
          refine PWl.re (tl := [(0, _), (1, _), (7, _), (8, _), (9, _), (71, _), (72, _), (73, _)]) (to := []) rfl (.cons rfl rfl <| .cons rfl rfl <| .cons rfl rfl <| .cons rfl rfl <| .cons rfl rfl <| .cons rfl rfl <| .cons rfl rfl <| .cons rfl rfl <| .nil) (.nil) ?_
          replace h := iDet h
          obtain ⟨v77, hy78, h⟩ := h
          refine PWl.guardT (LR.rowN (ctx_Join_ok b2 a1 v77 hy78) rfl Try.call52 rfl rfl rfl rfl) rfl rfl rfl ?_
          refine PWl.guardT (LR.move rfl) rfl rfl rfl ?_
          replace h := iDet h
          obtain ⟨v79, hy80, h⟩ := h
          refine PWl.frz [74] hK (.cons rfl <| .nil) rfl (by simp) ?_
          refine PWl.guardT (LR.callN (r09_Eq_ok v77 v4 v79 hy80) rfl Try.call46 rfl rfl rfl rfl) rfl rfl rfl ?_
          refine PWl.step (LR.pickT rfl rfl) rfl ?_
          refine PWl.step (LR.move rfl) rfl ?_
          refine PWl.split (d := 78) rfl (fun hg81 => ?_) (fun hg81 => ?_)
          · replace h := iT hg81 h
            refine PWl.guardT (LR.move rfl) rfl rfl rfl ?_
            refine PWl.guardT (LR.move rfl) rfl rfl rfl ?_
            replace h := iDet h
            obtain ⟨v82, hy83, h⟩ := h
            refine PWl.guardT (LR.rowN (ctx_Meet_ok b2 a1 v82 hy83) rfl Try.call53 rfl rfl rfl rfl) rfl rfl rfl ?_
            refine PWl.guardT (LR.move rfl) rfl rfl rfl ?_
            replace h := iDet h
            obtain ⟨v84, hy85, h⟩ := h
            refine PWl.frz [81] hK (.cons rfl <| .nil) rfl (by simp) ?_
            refine PWl.guardT (LR.callN (r09_Eq_ok v82 v6 v84 hy85) rfl Try.call46 rfl rfl rfl rfl) rfl rfl rfl ?_
            refine PWl.step (LR.pickT rfl rfl) rfl ?_
            refine PWl.step (LR.move rfl) rfl ?_
            refine PWl.re (tl := [(0, _), (1, _), (7, _), (8, _), (9, _), (85, _)]) (to := []) rfl (.cons rfl rfl <| .cons rfl rfl <| .cons rfl rfl <| .cons rfl rfl <| .cons rfl rfl <| .cons rfl rfl <| .nil) (.nil) ?_
            refine PWl.split (d := 85) rfl (fun hg86 => ?_) (fun hg86 => ?_)
            · replace h := iT hg86 h
              refine PWl.guardT (LR.move rfl) rfl rfl rfl ?_
              refine PWl.guardT (LR.move rfl) rfl rfl rfl ?_
              replace h := iDet h
              obtain ⟨v87, hy88, h⟩ := h
              refine PWl.guardT (LR.rowN (ctx_Join_ok v8 v6 v87 hy88) rfl Try.call52 rfl rfl rfl rfl) rfl rfl rfl ?_
              refine PWl.guardT (LR.move rfl) rfl rfl rfl ?_
              replace h := iDet h
              obtain ⟨v89, hy90, h⟩ := h
              refine PWl.frz [88] hK (.cons rfl <| .nil) rfl (by simp) ?_
              refine PWl.guardT (LR.callN (ctx_Same_ok v87 a1 v89 hy90) rfl Try.call56 rfl rfl rfl rfl) rfl rfl rfl ?_
              refine PWl.step (LR.pickT rfl rfl) rfl ?_
              refine PWl.step (LR.move rfl) rfl ?_
              refine PWl.split (d := 92) rfl (fun hg91 => ?_) (fun hg91 => ?_)
              · replace h := iT hg91 h
                refine PWl.guardT (LR.move rfl) rfl rfl rfl ?_
                refine PWl.guardT (LR.move rfl) rfl rfl rfl ?_
                replace h := iDet h
                obtain ⟨v92, hy93, h⟩ := h
                refine PWl.guardT (LR.callN (ctx_Within_ok v6 b2 v92 hy93) rfl Try.call48 rfl rfl rfl rfl) rfl rfl rfl ?_
                refine PWl.step (LR.pickT rfl rfl) rfl ?_
                refine PWl.step (LR.move rfl) rfl ?_
                refine PWl.split (d := 97) rfl (fun hg94 => ?_) (fun hg94 => ?_)
                · replace h := iT hg94 h
                  refine PWl.re (tl := [(1, _), (7, _), (9, _), (97, _)]) (to := []) rfl (.cons rfl rfl <| .cons rfl rfl <| .cons rfl rfl <| .cons rfl rfl <| .nil) (.nil) ?_
                  refine PWl.guardT (LR.move rfl) rfl rfl rfl ?_
                  refine PWl.guardT (LR.move rfl) rfl rfl rfl ?_
                  replace h := iDet h
                  obtain ⟨v95, hy96, h⟩ := h
                  refine PWl.guardT (LR.callN (ctx_Within_ok b2 v4 v95 hy96) rfl Try.call48 rfl rfl rfl rfl) rfl rfl rfl ?_
                  refine PWl.step (LR.pickT rfl rfl) rfl ?_
                  refine PWl.step (LR.move rfl) rfl ?_
                  refine PWl.split (d := 102) rfl (fun hg97 => ?_) (fun hg97 => ?_)
                  · replace h := iT hg97 h
                    refine PWl.guardT (LR.move rfl) rfl rfl rfl ?_
                    replace h := iDet h
                    obtain ⟨v98, hy99, h⟩ := h
                    refine PWl.guardT (LR.callN (ctx_Good_ok v4 v98 hy99) rfl Try.call57 rfl rfl rfl rfl) rfl rfl rfl ?_
                    refine PWl.step (LR.pickT rfl rfl) rfl ?_
                    refine PWl.step (LR.move rfl) rfl ?_
                    refine PWl.split (d := 106) rfl (fun hg100 => ?_) (fun hg100 => ?_)
                    · replace h := iT hg100 h
                      refine PWl.guardT (LR.move rfl) rfl rfl rfl ?_
                      replace h := iDet h
                      obtain ⟨v101, hy102, h⟩ := h
                      refine PWl.guardT (LR.callN (ctx_Good_ok v8 v101 hy102) rfl Try.call57 rfl rfl rfl rfl) rfl rfl rfl ?_
                      refine PWl.step (LR.pickT rfl rfl) rfl ?_
                      refine PWl.step (LR.move rfl) rfl ?_
                      refine PWl.split (d := 110) rfl (fun hg103 => ?_) (fun hg103 => ?_)
                      · replace h := iT hg103 h
                        replace h := iDet h
                        obtain ⟨v104, hy105, h⟩ := h
                        refine PWl.guardT (LR.callN (l09_works_ok v104 hy105) rfl Try.call42 rfl rfl rfl rfl) rfl rfl rfl ?_
                        refine PWl.re (tl := [(110, _), (111, _)]) (to := []) rfl (.cons rfl rfl <| .cons rfl rfl <| .nil) (.nil) ?_
                        refine PWl.step (LR.pickT rfl rfl) rfl ?_
                        refine PWl.step (LR.assign rfl) rfl ?_
                        refine PWl.nil ?_
                        exact ⟨v104, (), h, Sub.of rfl (.cons rfl rfl <| .nil) (.nil)⟩
                      · replace h := iF hg103 h
                        refine PWl.guardF rfl rfl rfl (by decide) ?_
                        refine PWl.re (tl := [(110, _), (111, _)]) (to := []) rfl (.cons rfl rfl <| .cons rfl rfl <| .nil) (.nil) ?_
                        refine PWl.step (LR.pickF rfl rfl) rfl ?_
                        refine PWl.step (LR.assign rfl) rfl ?_
                        refine PWl.nil ?_
                        exact ⟨false, (), h, Sub.of rfl (.cons rfl rfl <| .nil) (.nil)⟩
                    · replace h := iF hg100 h
                      refine PWl.guardF rfl rfl rfl (by decide) ?_
                      refine PWl.guardF rfl rfl rfl (by decide) ?_
                      refine PWl.step (LR.pickF rfl rfl) rfl ?_
                      refine PWl.step (LR.move rfl) rfl ?_
                      refine PWl.guardF rfl rfl rfl (by decide) ?_
                      refine PWl.step (LR.pickF rfl rfl) rfl ?_
                      refine PWl.re (tl := [(112, _)]) (to := []) rfl (.cons rfl rfl <| .nil) (.nil) ?_
                      refine PWl.step (LR.assign rfl) rfl ?_
                      refine PWl.nil ?_
                      exact ⟨false, (), h, Sub.of rfl (.cons rfl rfl <| .nil) (.nil)⟩
                  · replace h := iF hg97 h
                    refine PWl.guardF rfl rfl rfl (by decide) ?_
                    refine PWl.guardF rfl rfl rfl (by decide) ?_
                    refine PWl.step (LR.pickF rfl rfl) rfl ?_
                    refine PWl.step (LR.move rfl) rfl ?_
                    refine PWl.guardF rfl rfl rfl (by decide) ?_
                    refine PWl.guardF rfl rfl rfl (by decide) ?_
                    refine PWl.step (LR.pickF rfl rfl) rfl ?_
                    refine PWl.step (LR.move rfl) rfl ?_
                    refine PWl.guardF rfl rfl rfl (by decide) ?_
                    refine PWl.step (LR.pickF rfl rfl) rfl ?_
                    refine PWl.step (LR.assign rfl) rfl ?_
                    refine PWl.nil ?_
                    exact ⟨false, (), h, Sub.of rfl (.cons rfl rfl <| .nil) (.nil)⟩
                · replace h := iF hg94 h
                  refine PWl.re (tl := [(1, _), (7, _), (9, _), (97, _)]) (to := []) rfl (.cons rfl rfl <| .cons rfl rfl <| .cons rfl rfl <| .cons rfl rfl <| .nil) (.nil) ?_
                  refine PWl.guardF rfl rfl rfl (by decide) ?_
                  refine PWl.guardF rfl rfl rfl (by decide) ?_
                  refine PWl.guardF rfl rfl rfl (by decide) ?_
                  refine PWl.step (LR.pickF rfl rfl) rfl ?_
                  refine PWl.step (LR.move rfl) rfl ?_
                  refine PWl.guardF rfl rfl rfl (by decide) ?_
                  refine PWl.guardF rfl rfl rfl (by decide) ?_
                  refine PWl.step (LR.pickF rfl rfl) rfl ?_
                  refine PWl.step (LR.move rfl) rfl ?_
                  refine PWl.guardF rfl rfl rfl (by decide) ?_
                  refine PWl.guardF rfl rfl rfl (by decide) ?_
                  refine PWl.step (LR.pickF rfl rfl) rfl ?_
                  refine PWl.step (LR.move rfl) rfl ?_
                  refine PWl.guardF rfl rfl rfl (by decide) ?_
                  refine PWl.step (LR.pickF rfl rfl) rfl ?_
                  refine PWl.step (LR.assign rfl) rfl ?_
                  refine PWl.nil ?_
                  exact ⟨false, (), h, Sub.of rfl (.cons rfl rfl <| .nil) (.nil)⟩
              · replace h := iF hg91 h
                refine PWl.guardF rfl rfl rfl (by decide) ?_
                refine PWl.guardF rfl rfl rfl (by decide) ?_
                refine PWl.guardF rfl rfl rfl (by decide) ?_
                refine PWl.step (LR.pickF rfl rfl) rfl ?_
                refine PWl.step (LR.move rfl) rfl ?_
                refine PWl.guardF rfl rfl rfl (by decide) ?_
                refine PWl.re (tl := [(7, _), (9, _), (97, _), (98, _)]) (to := []) rfl (.cons rfl rfl <| .cons rfl rfl <| .cons rfl rfl <| .cons rfl rfl <| .nil) (.nil) ?_
                refine PWl.guardF rfl rfl rfl (by decide) ?_
                refine PWl.guardF rfl rfl rfl (by decide) ?_
                refine PWl.step (LR.pickF rfl rfl) rfl ?_
                refine PWl.step (LR.move rfl) rfl ?_
                refine PWl.guardF rfl rfl rfl (by decide) ?_
                refine PWl.guardF rfl rfl rfl (by decide) ?_
                refine PWl.step (LR.pickF rfl rfl) rfl ?_
                refine PWl.step (LR.move rfl) rfl ?_
                refine PWl.guardF rfl rfl rfl (by decide) ?_
                refine PWl.guardF rfl rfl rfl (by decide) ?_
                refine PWl.step (LR.pickF rfl rfl) rfl ?_
                refine PWl.step (LR.move rfl) rfl ?_
                refine PWl.guardF rfl rfl rfl (by decide) ?_
                refine PWl.step (LR.pickF rfl rfl) rfl ?_
                refine PWl.step (LR.assign rfl) rfl ?_
                refine PWl.nil ?_
                exact ⟨false, (), h, Sub.of rfl (.cons rfl rfl <| .nil) (.nil)⟩
            · replace h := iF hg86 h
              refine PWl.guardF rfl rfl rfl (by decide) ?_
              refine PWl.guardF rfl rfl rfl (by decide) ?_
              refine PWl.guardF rfl rfl rfl (by decide) ?_
              refine PWl.guardF rfl rfl rfl (by decide) ?_
              refine PWl.guardF rfl rfl rfl (by decide) ?_
              refine PWl.step (LR.pickF rfl rfl) rfl ?_
              refine PWl.step (LR.move rfl) rfl ?_
              refine PWl.guardF rfl rfl rfl (by decide) ?_
              refine PWl.guardF rfl rfl rfl (by decide) ?_
              refine PWl.guardF rfl rfl rfl (by decide) ?_
              refine PWl.step (LR.pickF rfl rfl) rfl ?_
              refine PWl.step (LR.move rfl) rfl ?_
              refine PWl.guardF rfl rfl rfl (by decide) ?_
              refine PWl.guardF rfl rfl rfl (by decide) ?_
              refine PWl.re (tl := [(7, _), (9, _), (97, _), (98, _), (99, _)]) (to := []) rfl (.cons rfl rfl <| .cons rfl rfl <| .cons rfl rfl <| .cons rfl rfl <| .cons rfl rfl <| .nil) (.nil) ?_
              refine PWl.guardF rfl rfl rfl (by decide) ?_
              refine PWl.step (LR.pickF rfl rfl) rfl ?_
              refine PWl.step (LR.move rfl) rfl ?_
              refine PWl.guardF rfl rfl rfl (by decide) ?_
              refine PWl.guardF rfl rfl rfl (by decide) ?_
              refine PWl.step (LR.pickF rfl rfl) rfl ?_
              refine PWl.step (LR.move rfl) rfl ?_
              refine PWl.guardF rfl rfl rfl (by decide) ?_
              refine PWl.guardF rfl rfl rfl (by decide) ?_
              refine PWl.step (LR.pickF rfl rfl) rfl ?_
              refine PWl.step (LR.move rfl) rfl ?_
              refine PWl.guardF rfl rfl rfl (by decide) ?_
              refine PWl.step (LR.pickF rfl rfl) rfl ?_
              refine PWl.step (LR.assign rfl) rfl ?_
              refine PWl.nil ?_
              exact ⟨false, (), h, Sub.of rfl (.cons rfl rfl <| .nil) (.nil)⟩
          · replace h := iF hg81 h
            refine PWl.guardF rfl rfl rfl (by decide) ?_
            refine PWl.guardF rfl rfl rfl (by decide) ?_
            refine PWl.guardF rfl rfl rfl (by decide) ?_
            refine PWl.guardF rfl rfl rfl (by decide) ?_
            refine PWl.guardF rfl rfl rfl (by decide) ?_
            refine PWl.step (LR.pickF rfl rfl) rfl ?_
            refine PWl.step (LR.move rfl) rfl ?_
            refine PWl.re (tl := [(0, _), (1, _), (7, _), (8, _), (9, _), (85, _)]) (to := []) rfl (.cons rfl rfl <| .cons rfl rfl <| .cons rfl rfl <| .cons rfl rfl <| .cons rfl rfl <| .cons rfl rfl <| .nil) (.nil) ?_
            refine PWl.guardF rfl rfl rfl (by decide) ?_
            refine PWl.guardF rfl rfl rfl (by decide) ?_
            refine PWl.guardF rfl rfl rfl (by decide) ?_
            refine PWl.guardF rfl rfl rfl (by decide) ?_
            refine PWl.guardF rfl rfl rfl (by decide) ?_
            refine PWl.step (LR.pickF rfl rfl) rfl ?_
            refine PWl.step (LR.move rfl) rfl ?_
            refine PWl.guardF rfl rfl rfl (by decide) ?_
            refine PWl.guardF rfl rfl rfl (by decide) ?_
            refine PWl.guardF rfl rfl rfl (by decide) ?_
            refine PWl.step (LR.pickF rfl rfl) rfl ?_
            refine PWl.step (LR.move rfl) rfl ?_
            refine PWl.guardF rfl rfl rfl (by decide) ?_
            refine PWl.guardF rfl rfl rfl (by decide) ?_
            refine PWl.guardF rfl rfl rfl (by decide) ?_
            refine PWl.re (tl := [(7, _), (9, _), (97, _), (100, _)]) (to := []) rfl (.cons rfl rfl <| .cons rfl rfl <| .cons rfl rfl <| .cons rfl rfl <| .nil) (.nil) ?_
            refine PWl.step (LR.pickF rfl rfl) rfl ?_
            refine PWl.step (LR.move rfl) rfl ?_
            refine PWl.guardF rfl rfl rfl (by decide) ?_
            refine PWl.guardF rfl rfl rfl (by decide) ?_
            refine PWl.step (LR.pickF rfl rfl) rfl ?_
            refine PWl.step (LR.move rfl) rfl ?_
            refine PWl.guardF rfl rfl rfl (by decide) ?_
            refine PWl.guardF rfl rfl rfl (by decide) ?_
            refine PWl.step (LR.pickF rfl rfl) rfl ?_
            refine PWl.step (LR.move rfl) rfl ?_
            refine PWl.guardF rfl rfl rfl (by decide) ?_
            refine PWl.step (LR.pickF rfl rfl) rfl ?_
            refine PWl.step (LR.assign rfl) rfl ?_
            refine PWl.nil ?_
            exact ⟨false, (), h, Sub.of rfl (.cons rfl rfl <| .nil) (.nil)⟩
        · replace h := iF hg76 h
          refine PWl.guardF rfl rfl rfl (by decide) ?_
          refine PWl.guardF rfl rfl rfl (by decide) ?_
          refine PWl.re (tl := [(0, _), (1, _), (7, _), (8, _), (9, _), (71, _), (72, _), (73, _)]) (to := []) rfl (.cons rfl rfl <| .cons rfl rfl <| .cons rfl rfl <| .cons rfl rfl <| .cons rfl rfl <| .cons rfl rfl <| .cons rfl rfl <| .cons rfl rfl <| .nil) (.nil) ?_
          refine PWl.guardF rfl rfl rfl (by decide) ?_
          refine PWl.guardF rfl rfl rfl (by decide) ?_
          refine PWl.guardF rfl rfl rfl (by decide) ?_
          refine PWl.step (LR.pickF rfl rfl) rfl ?_
          refine PWl.step (LR.move rfl) rfl ?_
          refine PWl.guardF rfl rfl rfl (by decide) ?_
          refine PWl.guardF rfl rfl rfl (by decide) ?_
          refine PWl.guardF rfl rfl rfl (by decide) ?_
          refine PWl.guardF rfl rfl rfl (by decide) ?_
          refine PWl.guardF rfl rfl rfl (by decide) ?_
          refine PWl.step (LR.pickF rfl rfl) rfl ?_
          refine PWl.step (LR.move rfl) rfl ?_
          refine PWl.guardF rfl rfl rfl (by decide) ?_
          refine PWl.re (tl := [(0, _), (1, _), (7, _), (8, _), (9, _), (85, _), (86, _)]) (to := []) rfl (.cons rfl rfl <| .cons rfl rfl <| .cons rfl rfl <| .cons rfl rfl <| .cons rfl rfl <| .cons rfl rfl <| .cons rfl rfl <| .nil) (.nil) ?_
          refine PWl.guardF rfl rfl rfl (by decide) ?_
          refine PWl.guardF rfl rfl rfl (by decide) ?_
          refine PWl.guardF rfl rfl rfl (by decide) ?_
          refine PWl.guardF rfl rfl rfl (by decide) ?_
          refine PWl.step (LR.pickF rfl rfl) rfl ?_
          refine PWl.step (LR.move rfl) rfl ?_
          refine PWl.guardF rfl rfl rfl (by decide) ?_
          refine PWl.guardF rfl rfl rfl (by decide) ?_
          refine PWl.guardF rfl rfl rfl (by decide) ?_
          refine PWl.step (LR.pickF rfl rfl) rfl ?_
          refine PWl.step (LR.move rfl) rfl ?_
          refine PWl.guardF rfl rfl rfl (by decide) ?_
          refine PWl.guardF rfl rfl rfl (by decide) ?_
          refine PWl.guardF rfl rfl rfl (by decide) ?_
          refine PWl.re (tl := [(7, _), (9, _), (97, _), (100, _)]) (to := []) rfl (.cons rfl rfl <| .cons rfl rfl <| .cons rfl rfl <| .cons rfl rfl <| .nil) (.nil) ?_
          refine PWl.step (LR.pickF rfl rfl) rfl ?_
          refine PWl.step (LR.move rfl) rfl ?_
          refine PWl.guardF rfl rfl rfl (by decide) ?_
          refine PWl.guardF rfl rfl rfl (by decide) ?_
          refine PWl.step (LR.pickF rfl rfl) rfl ?_
          refine PWl.step (LR.move rfl) rfl ?_
          refine PWl.guardF rfl rfl rfl (by decide) ?_
          refine PWl.guardF rfl rfl rfl (by decide) ?_
          refine PWl.step (LR.pickF rfl rfl) rfl ?_
          refine PWl.step (LR.move rfl) rfl ?_
          refine PWl.guardF rfl rfl rfl (by decide) ?_
          refine PWl.step (LR.pickF rfl rfl) rfl ?_
          refine PWl.step (LR.assign rfl) rfl ?_
          refine PWl.nil ?_
          exact ⟨false, (), h, Sub.of rfl (.cons rfl rfl <| .nil) (.nil)⟩
      · rintro v67 _ h
        refine PWc.ret ?_
        replace h : _ = r0 := h
        subst h
        exact ⟨.inr rfl, _, .cons (.tmp rfl rfl) <| .nil, rfl⟩
end Go.Proofs

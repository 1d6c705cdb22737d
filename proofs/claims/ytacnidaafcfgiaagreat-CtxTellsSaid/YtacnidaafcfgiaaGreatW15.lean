/- Walks: written by program. -/
import Derived.Test.YtacnidaafcfgiaaGreatFc
import Derived.Test.YtacnidaafcfgiaaGreatSh
import Derived.Test.YtacnidaafcfgiaaGreatSx
import Derived.Test.YtacnidaafcfgiaaGreatTl
import Derived.Test.YtacnidaafcfgiaaGreatSr
import Derived.Test.YtacnidaafcfgiaaGreatDr
import Derived.Test.YtacnidaafcfgiaaGreatW0
import Derived.Test.YtacnidaafcfgiaaGreatW1
import Derived.Test.YtacnidaafcfgiaaGreatW2
import Derived.Test.YtacnidaafcfgiaaGreatW3
import Derived.Test.YtacnidaafcfgiaaGreatW4
import Derived.Test.YtacnidaafcfgiaaGreatW5
import Derived.Test.YtacnidaafcfgiaaGreatW6
import Derived.Test.YtacnidaafcfgiaaGreatW9
import Derived.Test.YtacnidaafcfgiaaGreatW10
import Derived.Test.YtacnidaafcfgiaaGreatW11
import Derived.Test.YtacnidaafcfgiaaGreatW13
import Derived.Test.YtacnidaafcfgiaaGreatW14
namespace Go.Proofs
open Go.Ep
set_option maxHeartbeats 1000000
set_option maxRecDepth 100000
set_option linter.unusedVariables false
set_option linter.unusedSimpArgs false


theorem l09_CtxTells_ok (c1 : List TPart) (l2 : List TDot) (d3 : TDot) (r0 : Bool) (h : (l09_CtxTells c1 l2 d3).wp (· = r0)) : PFun Tryz.prog 4 [.d (.sl (List.map TPart.e c1)), .d (.sl (List.map TDot.e l2)), .agg (List.map .d (TDot.e d3))] (.d (.v (.bool r0))) := by
  refine PFun.intro (sl := [(0, _), (1, _), (2, _)]) Tryz.func4 rfl Tryz.ntmps4 rfl rfl ?_
  intro ctx hK
  refine PWc.seq ?_
  refine PWc.region ?_
  refine PWl.step (LR.box rfl rfl rfl rfl) rfl ?_
  refine PWl.step (LR.assign rfl) rfl ?_
  refine PWl.nil ?_
  refine PWc.seq ?_
  refine PWc.seq ?_
  refine PWc.jn (iBind h) (fun (v4 : Bool) (_ : Unit) => ⟨101, [(0, .d (.sl (List.map TPart.e c1))), (1, .d (.sl (List.map TDot.e l2))), (5, .ref 5 0), (14, .d (.v (.bool v4)))], [(5, .cells 32 [.d (.v (.int .u16 d3.dev)), .d (.v (.int .u64 d3.n))])]⟩) (fun h => ?_) ?_
  · refine PWc.region ?_
    refine PWl.step (LR.move rfl) rfl ?_
    replace h := iDet h
    obtain ⟨v5, hy6, h⟩ := h
    refine PWl.step (LR.callN (r09_Few_ok c1 v5 hy6) rfl Tryz.call7 rfl rfl rfl rfl) rfl ?_
    refine PWl.step (LR.not rfl) rfl ?_
    refine PWl.step (LR.move rfl) rfl ?_
    refine PWl.split (d := 10) rfl (fun hg7 => ?_) (fun hg7 => ?_)
    · replace h := iT hg7 h
      refine PWl.guardF rfl rfl rfl (by decide) ?_
      refine PWl.guardF rfl rfl rfl (by decide) ?_
      refine PWl.guardF rfl rfl rfl (by decide) ?_
      refine PWl.step (LR.pickT rfl rfl) rfl ?_
      refine PWl.nil ?_
      exact ⟨true, (), h, Sub.of rfl (.cons rfl rfl <| .cons rfl rfl <| .cons rfl rfl <| .cons rfl rfl <| .nil) (.cons rfl rfl <| .nil)⟩
    · replace h := iF hg7 h
      refine PWl.guardT (LR.move rfl) rfl rfl rfl ?_
      refine PWl.guardT (LR.lenMap (enc := TDot.e) (L := l2) Tryz.underlying28 rfl) rfl rfl rfl ?_
      refine PWl.guardT (LR.gtr rfl rfl) rfl rfl rfl ?_
      refine PWl.step (LR.pickF rfl rfl) rfl ?_
      refine PWl.nil ?_
      exact ⟨(decide (40 < (List.length l2 : Int))), (), h, Sub.of rfl (.cons rfl rfl <| .cons rfl rfl <| .cons rfl rfl <| .cons rfl rfl <| .nil) (.cons rfl rfl <| .nil)⟩
  · rintro v4 _ h
    refine PWc.cond rfl (fun hc8 => ?_) (fun hc8 => ?_)
    · replace h := iT hc8 h
      refine PWc.seq ?_
      refine PWc.region ?_
      replace h := iDet h
      obtain ⟨v9, hy10, h⟩ := h
      refine PWl.step (LR.callN (l09_works_ok v9 hy10) rfl Tryz.call8 rfl rfl rfl rfl) rfl ?_
      refine PWl.step (LR.assign rfl) rfl ?_
      refine PWl.nil ?_
      refine PWc.ret ?_
      replace h : _ = r0 := h
      subst h
      exact ⟨.inr rfl, _, .cons (.tmp rfl rfl) <| .nil, rfl⟩
    · replace h := iF hc8 h
      refine PWc.skip ?_
      refine PWc.seq ?_
      refine PWc.seq ?_
      refine PWc.jn (iBind h) (fun (v11 : Bool) (_ : Unit) => ⟨101, [(0, .d (.sl (List.map TPart.e c1))), (1, .d (.sl (List.map TDot.e l2))), (5, .ref 5 0), (57, .d (.v (.bool v11)))], [(5, .cells 32 [.d (.v (.int .u16 d3.dev)), .d (.v (.int .u64 d3.n))])]⟩) (fun h => ?_) ?_
      · refine PWc.regionD (by kernel_rfl) (by kernel_rfl) ?_
        refine PQl.step (fun _ he ho => LR.move (he rfl rfl)) rfl ?_
        replace h := iDet h
        obtain ⟨v12, hy13, h⟩ := h
        refine PQl.step (fun _ he ho => LR.callN (PRow.fun (ctx_Norm_ok c1 v12 hy13)) (he rfl rfl) Tryz.call20 (evsE he rfl rfl) rfl rfl rfl) rfl ?_
        refine PQl.step (fun _ he ho => LR.move (he rfl rfl)) rfl ?_
        replace h := iDet h
        obtain ⟨v14, hy15, h⟩ := h
        refine PQl.step (fun _ he ho => LR.callN (PRow.fun (r09_Norm_ok c1 v14 hy15)) (he rfl rfl) Tryz.call21 (evsE he rfl rfl) rfl rfl rfl) rfl ?_
        replace h := iDet h
        obtain ⟨v16, hy17, h⟩ := h
        refine PQl.step (fun _ he ho => LR.callN (r09_Eq_ok v12 v14 v16 hy17) (he rfl rfl) Tryz.call9 (evsE he rfl rfl) rfl rfl rfl) rfl ?_
        refine PQl.step (fun _ he ho => LR.not (he rfl rfl)) rfl ?_
        refine PQl.step (fun _ he ho => LR.move (he rfl rfl)) rfl ?_
        refine PQl.split (d := 22) rfl (fun hg18 => ?_) (fun hg18 => ?_)
        · replace h := iT hg18 h
          refine PQl.guardF rfl rfl rfl (by decide) ?_
          refine PQl.guardF rfl rfl rfl (by decide) ?_
          refine PQl.guardF rfl rfl rfl (by decide) ?_
          refine PQl.guardF rfl rfl rfl (by decide) ?_
          refine PQl.guardF rfl rfl rfl (by decide) ?_
          refine PQl.step (fun _ he ho => LR.pickT (he rfl rfl) (he rfl rfl)) rfl ?_
          refine PQl.step (fun _ he ho => LR.move (he rfl rfl)) rfl ?_
          refine PQl.guardF rfl rfl rfl (by decide) ?_
          refine PQl.guardF rfl rfl rfl (by decide) ?_
          refine PQl.guardF rfl rfl rfl (by decide) ?_
          refine PQl.guardF rfl rfl rfl (by decide) ?_
          refine PQl.guardF rfl rfl rfl (by decide) ?_
          refine PQl.guardF rfl rfl rfl (by decide) ?_
          refine PQl.step (fun _ he ho => LR.pickT (he rfl rfl) (he rfl rfl)) rfl ?_
          refine PQl.step (fun _ he ho => LR.move (he rfl rfl)) rfl ?_
          refine PQl.guardF rfl rfl rfl (by decide) ?_
          refine PQl.guardF rfl rfl rfl (by decide) ?_
          refine PQl.guardF rfl rfl rfl (by decide) ?_
          refine PQl.guardF rfl rfl rfl (by decide) ?_
          refine PQl.guardF rfl rfl rfl (by decide) ?_
          refine PQl.guardF rfl rfl rfl (by decide) ?_
          refine PQl.guardF rfl rfl rfl (by decide) ?_
          refine PQl.guardF rfl rfl rfl (by decide) ?_
          refine PQl.guardF rfl rfl rfl (by decide) ?_
          refine PQl.guardF rfl rfl rfl (by decide) ?_
          refine PQl.keep (tl := [(0, _), (1, _), (5, _), (37, _), (47, _)]) rfl (.cons rfl rfl <| .cons rfl rfl <| .cons rfl rfl <| .cons rfl rfl <| .cons rfl rfl <| .nil) ?_
          refine PQl.step (fun _ he ho => LR.pickT (he rfl rfl) (he rfl rfl)) rfl ?_
          refine PQl.step (fun _ he ho => LR.move (he rfl rfl)) rfl ?_
          refine PQl.guardF rfl rfl rfl (by decide) ?_
          refine PQl.guardF rfl rfl rfl (by decide) ?_
          refine PQl.guardF rfl rfl rfl (by decide) ?_
          refine PQl.guardF rfl rfl rfl (by decide) ?_
          refine PQl.guardF rfl rfl rfl (by decide) ?_
          refine PQl.guardF rfl rfl rfl (by decide) ?_
          refine PQl.guardF rfl rfl rfl (by decide) ?_
          refine PQl.step (fun _ he ho => LR.pickT (he rfl rfl) (he rfl rfl)) rfl ?_
          refine PQl.nil ?_
          exact ⟨true, (), h, Sub.of rfl (.cons rfl rfl <| .cons rfl rfl <| .cons rfl rfl <| .cons rfl rfl <| .nil) (.cons rfl rfl <| .nil)⟩
        · replace h := iF hg18 h
          refine PQl.guardT (fun _ he ho => LR.move (he rfl rfl)) rfl rfl rfl ?_
          replace h := iDet h
          obtain ⟨v19, hy20, h⟩ := h
          refine PQl.guardT (fun _ he ho => LR.callN (ctx_Good_ok c1 v19 hy20) (he rfl rfl) Tryz.call22 (evsE he rfl rfl) rfl rfl rfl) rfl rfl rfl ?_
          refine PQl.guardT (fun _ he ho => LR.move (he rfl rfl)) rfl rfl rfl ?_
          replace h := iDet h
          obtain ⟨v21, hy22, h⟩ := h
          refine PQl.guardT (fun _ he ho => LR.callN (r09_Good_ok c1 v21 hy22) (he rfl rfl) Tryz.call23 (evsE he rfl rfl) rfl rfl rfl) rfl rfl rfl ?_
          refine PQl.guardT (fun _ he ho => LR.neqBool Tryz.underlying4 (he rfl rfl) (he rfl rfl)) rfl rfl rfl ?_
          refine PQl.step (fun _ he ho => LR.pickF (he rfl rfl) (he rfl rfl)) rfl ?_
          refine PQl.step (fun _ he ho => LR.move (he rfl rfl)) rfl ?_
          refine PQl.split (d := 29) rfl (fun hg23 => ?_) (fun hg23 => ?_)
          · replace h := iT hg23 h
            refine PQl.guardF rfl rfl rfl (by decide) ?_
            refine PQl.guardF rfl rfl rfl (by decide) ?_
            refine PQl.guardF rfl rfl rfl (by decide) ?_
            refine PQl.guardF rfl rfl rfl (by decide) ?_
            refine PQl.guardF rfl rfl rfl (by decide) ?_
            refine PQl.guardF rfl rfl rfl (by decide) ?_
            refine PQl.step (fun _ he ho => LR.pickT (he rfl rfl) (he rfl rfl)) rfl ?_
            refine PQl.step (fun _ he ho => LR.move (he rfl rfl)) rfl ?_
            refine PQl.guardF rfl rfl rfl (by decide) ?_
            refine PQl.guardF rfl rfl rfl (by decide) ?_
            refine PQl.guardF rfl rfl rfl (by decide) ?_
            refine PQl.guardF rfl rfl rfl (by decide) ?_
            refine PQl.guardF rfl rfl rfl (by decide) ?_
            refine PQl.guardF rfl rfl rfl (by decide) ?_
            refine PQl.guardF rfl rfl rfl (by decide) ?_
            refine PQl.guardF rfl rfl rfl (by decide) ?_
            refine PQl.guardF rfl rfl rfl (by decide) ?_
            refine PQl.keep (tl := [(0, _), (1, _), (5, _), (37, _), (46, _)]) rfl (.cons rfl rfl <| .cons rfl rfl <| .cons rfl rfl <| .cons rfl rfl <| .cons rfl rfl <| .nil) ?_
            refine PQl.guardF rfl rfl rfl (by decide) ?_
            refine PQl.step (fun _ he ho => LR.pickT (he rfl rfl) (he rfl rfl)) rfl ?_
            refine PQl.step (fun _ he ho => LR.move (he rfl rfl)) rfl ?_
            refine PQl.guardF rfl rfl rfl (by decide) ?_
            refine PQl.guardF rfl rfl rfl (by decide) ?_
            refine PQl.guardF rfl rfl rfl (by decide) ?_
            refine PQl.guardF rfl rfl rfl (by decide) ?_
            refine PQl.guardF rfl rfl rfl (by decide) ?_
            refine PQl.guardF rfl rfl rfl (by decide) ?_
            refine PQl.guardF rfl rfl rfl (by decide) ?_
            refine PQl.step (fun _ he ho => LR.pickT (he rfl rfl) (he rfl rfl)) rfl ?_
            refine PQl.nil ?_
            exact ⟨true, (), h, Sub.of rfl (.cons rfl rfl <| .cons rfl rfl <| .cons rfl rfl <| .cons rfl rfl <| .nil) (.cons rfl rfl <| .nil)⟩
          · replace h := iF hg23 h
            refine PQl.guardT (fun _ he ho => LR.move (he rfl rfl)) rfl rfl rfl ?_
            replace h := iDet h
            obtain ⟨v24, hy25, h⟩ := h
            refine PQl.guardT (fun _ he ho => LR.callN (PRow.fun (ctx_Of_ok l2 v24 hy25)) (he rfl rfl) Tryz.call24 (evsE he rfl rfl) rfl rfl rfl) rfl rfl rfl ?_
            refine PQl.guardT (fun _ he ho => LR.move (he rfl rfl)) rfl rfl rfl ?_
            replace h := iDet h
            obtain ⟨v26, hy27, h⟩ := h
            refine PQl.guardT (fun _ he ho => LR.callN (r09_Of_ok l2 v26 hy27) (he rfl rfl) Tryz.call25 (evsE he rfl rfl) rfl rfl rfl) rfl rfl rfl ?_
            replace h := iDet h
            obtain ⟨v28, hy29, h⟩ := h
            refine PQl.guardT (fun _ he ho => LR.callN (r09_Eq_ok v24 v26 v28 hy29) (he rfl rfl) Tryz.call9 (evsE he rfl rfl) rfl rfl rfl) rfl rfl rfl ?_
            refine PQl.guardT (fun _ he ho => LR.not (he rfl rfl)) rfl rfl rfl ?_
            refine PQl.step (fun _ he ho => LR.pickF (he rfl rfl) (he rfl rfl)) rfl ?_
            refine PQl.step (fun _ he ho => LR.move (he rfl rfl)) rfl ?_
            refine PQl.split (d := 37) rfl (fun hg30 => ?_) (fun hg30 => ?_)
            · replace h := iT hg30 h
              refine PQl.guardF rfl rfl rfl (by decide) ?_
              refine PQl.guardF rfl rfl rfl (by decide) ?_
              refine PQl.guardF rfl rfl rfl (by decide) ?_
              refine PQl.guardF rfl rfl rfl (by decide) ?_
              refine PQl.guardF rfl rfl rfl (by decide) ?_
              refine PQl.guardF rfl rfl rfl (by decide) ?_
              refine PQl.guardF rfl rfl rfl (by decide) ?_
              refine PQl.guardF rfl rfl rfl (by decide) ?_
              refine PQl.keep (tl := [(0, _), (1, _), (5, _), (37, _), (41, _), (45, _)]) rfl (.cons rfl rfl <| .cons rfl rfl <| .cons rfl rfl <| .cons rfl rfl <| .cons rfl rfl <| .cons rfl rfl <| .nil) ?_
              refine PQl.guardF rfl rfl rfl (by decide) ?_
              refine PQl.guardF rfl rfl rfl (by decide) ?_
              refine PQl.step (fun _ he ho => LR.pickT (he rfl rfl) (he rfl rfl)) rfl ?_
              refine PQl.step (fun _ he ho => LR.move (he rfl rfl)) rfl ?_
              refine PQl.guardF rfl rfl rfl (by decide) ?_
              refine PQl.guardF rfl rfl rfl (by decide) ?_
              refine PQl.guardF rfl rfl rfl (by decide) ?_
              refine PQl.guardF rfl rfl rfl (by decide) ?_
              refine PQl.guardF rfl rfl rfl (by decide) ?_
              refine PQl.guardF rfl rfl rfl (by decide) ?_
              refine PQl.guardF rfl rfl rfl (by decide) ?_
              refine PQl.step (fun _ he ho => LR.pickT (he rfl rfl) (he rfl rfl)) rfl ?_
              refine PQl.nil ?_
              exact ⟨true, (), h, Sub.of rfl (.cons rfl rfl <| .cons rfl rfl <| .cons rfl rfl <| .cons rfl rfl <| .nil) (.cons rfl rfl <| .nil)⟩
            · replace h := iF hg30 h
              refine PQl.guardT (fun _ he ho => LR.move (he rfl rfl)) rfl rfl rfl ?_
              refine PQl.guardT (fun _ he ho => LR.fieldRef Tryz.underlying32 rfl Tryz.sizeOf29 (by decide) rfl (he rfl rfl)) rfl rfl rfl ?_
              refine PQl.guardT (fun _ he ho => LR.loadRef Tryz.isAgg29 (he rfl rfl) (ho rfl) rfl) rfl rfl rfl ?_
              replace h := iDet h
              obtain ⟨v31, hy32, h⟩ := h
              refine PQl.guardT (fun _ he ho => LR.callN (PRow.fun (ctx_Runs_ok c1 d3.dev v31 hy32)) (he rfl rfl) Tryz.call27 (evsE he rfl rfl) rfl rfl rfl) rfl rfl rfl ?_
              refine PQl.guardT (fun _ he ho => LR.move (he rfl rfl)) rfl rfl rfl ?_
              refine PQl.guardT (fun _ he ho => LR.fieldRef Tryz.underlying32 rfl Tryz.sizeOf29 (by decide) rfl (he rfl rfl)) rfl rfl rfl ?_
              refine PQl.guardT (fun _ he ho => LR.loadRef Tryz.isAgg29 (he rfl rfl) (ho rfl) rfl) rfl rfl rfl ?_
              replace h := iDet h
              obtain ⟨v33, hy34, h⟩ := h
              refine PQl.guardT (fun _ he ho => LR.callN (r09_Runs_ok c1 d3.dev v33 hy34) (he rfl rfl) Tryz.call28 (evsE he rfl rfl) rfl rfl rfl) rfl rfl rfl ?_
              refine PQl.keep (tl := [(0, _), (1, _), (5, _), (37, _), (41, _), (45, _)]) rfl (.cons rfl rfl <| .cons rfl rfl <| .cons rfl rfl <| .cons rfl rfl <| .cons rfl rfl <| .cons rfl rfl <| .nil) ?_
              replace h := iDet h
              obtain ⟨v35, hy36, h⟩ := h
              refine PQl.guardT (fun _ he ho => LR.callN (r06_Eq_ok v31 v33 v35 hy36) (he rfl rfl) Tryz.call26 (evsE he rfl rfl) rfl rfl rfl) rfl rfl rfl ?_
              refine PQl.guardT (fun _ he ho => LR.not (he rfl rfl)) rfl rfl rfl ?_
              refine PQl.step (fun _ he ho => LR.pickF (he rfl rfl) (he rfl rfl)) rfl ?_
              refine PQl.step (fun _ he ho => LR.move (he rfl rfl)) rfl ?_
              refine PQl.split (d := 49) rfl (fun hg37 => ?_) (fun hg37 => ?_)
              · replace h := iT hg37 h
                refine PQl.guardF rfl rfl rfl (by decide) ?_
                refine PQl.guardF rfl rfl rfl (by decide) ?_
                refine PQl.guardF rfl rfl rfl (by decide) ?_
                refine PQl.guardF rfl rfl rfl (by decide) ?_
                refine PQl.guardF rfl rfl rfl (by decide) ?_
                refine PQl.guardF rfl rfl rfl (by decide) ?_
                refine PQl.guardF rfl rfl rfl (by decide) ?_
                refine PQl.step (fun _ he ho => LR.pickT (he rfl rfl) (he rfl rfl)) rfl ?_
                refine PQl.nil ?_
                exact ⟨true, (), h, Sub.of rfl (.cons rfl rfl <| .cons rfl rfl <| .cons rfl rfl <| .cons rfl rfl <| .nil) (.cons rfl rfl <| .nil)⟩
              · replace h := iF hg37 h
                refine PQl.guardT (fun _ he ho => LR.move (he rfl rfl)) rfl rfl rfl ?_
                refine PQl.guardT (fun _ he ho => LR.loadRefAgg (ps := [_, _]) Tryz.isAgg32 Tryz.sizeOf32 (he rfl rfl) (ho rfl) rfl rfl) rfl rfl rfl ?_
                replace h := iDet h
                obtain ⟨v38, hy39, h⟩ := h
                refine PQl.guardT (fun _ he ho => LR.callN (ctx_Has_ok c1 d3 v38 hy39) (he rfl rfl) Tryz.call29 (evsE he rfl rfl) rfl rfl rfl) rfl rfl rfl ?_
                refine PQl.guardT (fun _ he ho => LR.move (he rfl rfl)) rfl rfl rfl ?_
                refine PQl.guardT (fun _ he ho => LR.loadRefAgg (ps := [_, _]) Tryz.isAgg32 Tryz.sizeOf32 (he rfl rfl) (ho rfl) rfl rfl) rfl rfl rfl ?_
                replace h := iDet h
                obtain ⟨v40, hy41, h⟩ := h
                refine PQl.guardT (fun _ he ho => LR.callN (r09_Has_ok c1 d3 v40 hy41) (he rfl rfl) Tryz.call30 (evsE he rfl rfl) rfl rfl rfl) rfl rfl rfl ?_
                refine PQl.guardT (fun _ he ho => LR.neqBool Tryz.underlying4 (he rfl rfl) (he rfl rfl)) rfl rfl rfl ?_
                refine PQl.step (fun _ he ho => LR.pickF (he rfl rfl) (he rfl rfl)) rfl ?_
                refine PQl.nil ?_
                exact ⟨(!(v38 == v40)), (), h, Sub.of rfl (.cons rfl rfl <| .cons rfl rfl <| .cons rfl rfl <| .cons rfl rfl <| .nil) (.cons rfl rfl <| .nil)⟩
      · rintro v11 _ h
        refine PWc.cond rfl (fun hc42 => ?_) (fun hc42 => ?_)
        · replace h := iT hc42 h
          refine PWc.seq ?_
          refine PWc.region ?_
          refine PWl.step (LR.assign rfl) rfl ?_
          refine PWl.nil ?_
          refine PWc.ret ?_
          replace h : _ = r0 := h
          subst h
          exact ⟨.inr rfl, _, .cons (.tmp rfl rfl) <| .nil, rfl⟩
        · replace h := iF hc42 h
          refine PWc.skip ?_
          refine PWc.seq ?_
          refine PWc.jn (iBind h) (fun (v43 : Bool) (_ : Unit) => ⟨101, [(6, .d (.v (.bool v43)))], []⟩) (fun h => ?_) ?_
          · refine PWc.regionD (by kernel_rfl) (by kernel_rfl) ?_
            refine PQl.step (fun _ he ho => LR.move (he rfl rfl)) rfl ?_
            refine PQl.step (fun _ he ho => LR.move (he rfl rfl)) rfl ?_
            replace h := iDet h
            obtain ⟨v44, hy45, h⟩ := h
            refine PQl.step (fun _ he ho => LR.callN (PRow.fun (ctx_Add_ok c1 l2 v44 hy45)) (he rfl rfl) Tryz.call31 (evsE he rfl rfl) rfl rfl rfl) rfl ?_
            refine PQl.step (fun _ he ho => LR.move (he rfl rfl)) rfl ?_
            refine PQl.step (fun _ he ho => LR.move (he rfl rfl)) rfl ?_
            replace h := iDet h
            obtain ⟨v46, hy47, h⟩ := h
            refine PQl.step (fun _ he ho => LR.callN (r09_Of_ok l2 v46 hy47) (he rfl rfl) Tryz.call25 (evsE he rfl rfl) rfl rfl rfl) rfl ?_
            replace h := iDet h
            obtain ⟨v48, hy49, h⟩ := h
            refine PQl.step (fun _ he ho => LR.callN (PRow.fun (r09_Join_ok c1 v46 v48 hy49)) (he rfl rfl) Tryz.call11 (evsE he rfl rfl) rfl rfl rfl) rfl ?_
            replace h := iDet h
            obtain ⟨v50, hy51, h⟩ := h
            refine PQl.step (fun _ he ho => LR.callN (r09_Eq_ok v44 v48 v50 hy51) (he rfl rfl) Tryz.call9 (evsE he rfl rfl) rfl rfl rfl) rfl ?_
            refine PQl.step (fun _ he ho => LR.move (he rfl rfl)) rfl ?_
            refine PQl.split (d := 66) rfl (fun hg52 => ?_) (fun hg52 => ?_)
            · replace h := iT hg52 h
              refine PQl.guardT (fun _ he ho => LR.move (he rfl rfl)) rfl rfl rfl ?_
              refine PQl.guardT (fun _ he ho => LR.fieldRef Tryz.underlying32 rfl Tryz.sizeOf29 (by decide) rfl (he rfl rfl)) rfl rfl rfl ?_
              refine PQl.guardT (fun _ he ho => LR.loadRef Tryz.isAgg29 (he rfl rfl) (ho rfl) rfl) rfl rfl rfl ?_
              replace h := iDet h
              obtain ⟨v53, hy54, h⟩ := h
              refine PQl.guardT (fun _ he ho => LR.callN (PRow.fun (ctx_Only_ok c1 d3.dev v53 hy54)) (he rfl rfl) Tryz.call32 (evsE he rfl rfl) rfl rfl rfl) rfl rfl rfl ?_
              refine PQl.guardT (fun _ he ho => LR.move (he rfl rfl)) rfl rfl rfl ?_
              refine PQl.guardT (fun _ he ho => LR.fieldRef Tryz.underlying32 rfl Tryz.sizeOf29 (by decide) rfl (he rfl rfl)) rfl rfl rfl ?_
              refine PQl.guardT (fun _ he ho => LR.loadRef Tryz.isAgg29 (he rfl rfl) (ho rfl) rfl) rfl rfl rfl ?_
              replace h := iDet h
              obtain ⟨v55, hy56, h⟩ := h
              refine PQl.guardT (fun _ he ho => LR.callN (r09_Only_ok c1 d3.dev v55 hy56) (he rfl rfl) Tryz.call33 (evsE he rfl rfl) rfl rfl rfl) rfl rfl rfl ?_
              replace h := iDet h
              obtain ⟨v57, hy58, h⟩ := h
              refine PQl.guardT (fun _ he ho => LR.callN (r09_Eq_ok v53 v55 v57 hy58) (he rfl rfl) Tryz.call9 (evsE he rfl rfl) rfl rfl rfl) rfl rfl rfl ?_
              refine PQl.step (fun _ he ho => LR.pickT (he rfl rfl) (he rfl rfl)) rfl ?_
              refine PQl.step (fun _ he ho => LR.move (he rfl rfl)) rfl ?_
              refine PQl.split (d := 77) rfl (fun hg59 => ?_) (fun hg59 => ?_)
              · replace h := iT hg59 h
                refine PQl.guardT (fun _ he ho => LR.move (he rfl rfl)) rfl rfl rfl ?_
                replace h := iDet h
                obtain ⟨v60, hy61, h⟩ := h
                refine PQl.guardT (fun _ he ho => LR.callN (ctx_Size_ok c1 v60 hy61) (he rfl rfl) Tryz.call34 (evsE he rfl rfl) rfl rfl rfl) rfl rfl rfl ?_
                refine PQl.guardT (fun _ he ho => LR.move (he rfl rfl)) rfl rfl rfl ?_
                replace h := iDet h
                obtain ⟨v62, hy63, h⟩ := h
                refine PQl.guardT (fun _ he ho => LR.callN (r09_Size_ok c1 v62 hy63) (he rfl rfl) Tryz.call35 (evsE he rfl rfl) rfl rfl rfl) rfl rfl rfl ?_
                refine PQl.guardT (fun _ he ho => LR.eql (he rfl rfl) (he rfl rfl)) rfl rfl rfl ?_
                refine PQl.step (fun _ he ho => LR.pickT (he rfl rfl) (he rfl rfl)) rfl ?_
                refine PQl.step (fun _ he ho => LR.move (he rfl rfl)) rfl ?_
                refine PQl.split (d := 84) rfl (fun hg64 => ?_) (fun hg64 => ?_)
                · replace h := iT hg64 h
                  refine PQl.guardT (fun _ he ho => LR.move (he rfl rfl)) rfl rfl rfl ?_
                  replace h := iDet h
                  obtain ⟨v65, hy66, h⟩ := h
                  refine PQl.guardT (fun _ he ho => LR.callN (PRow.fun (ctx_Base_ok c1 v65 hy66)) (he rfl rfl) Tryz.call37 (evsE he rfl rfl) rfl rfl rfl) rfl rfl rfl ?_
                  refine PQl.guardT (fun _ he ho => LR.move (he rfl rfl)) rfl rfl rfl ?_
                  refine PQl.keep (tl := [(1, _), (84, _), (86, _), (87, _)]) rfl (.cons rfl rfl <| .cons rfl rfl <| .cons rfl rfl <| .cons rfl rfl <| .nil) ?_
                  replace h := iDet h
                  obtain ⟨v67, hy68, h⟩ := h
                  refine PQl.guardT (fun _ he ho => LR.callN (PRow.fun (r09_Base_ok c1 v67 hy68)) (he rfl rfl) Tryz.call38 (evsE he rfl rfl) rfl rfl rfl) rfl rfl rfl ?_
                  replace h := iDet h
                  obtain ⟨v69, hy70, h⟩ := h
                  refine PQl.guardT (fun _ he ho => LR.callN (r07_Same_ok v65 v67 v69 hy70) (he rfl rfl) Tryz.call36 (evsE he rfl rfl) rfl rfl rfl) rfl rfl rfl ?_
                  refine PQl.step (fun _ he ho => LR.pickT (he rfl rfl) (he rfl rfl)) rfl ?_
                  refine PQl.step (fun _ he ho => LR.move (he rfl rfl)) rfl ?_
                  refine PQl.split (d := 91) rfl (fun hg71 => ?_) (fun hg71 => ?_)
                  · replace h := iT hg71 h
                    refine PQl.guardT (fun _ he ho => LR.move (he rfl rfl)) rfl rfl rfl ?_
                    replace h := iDet h
                    obtain ⟨v72, hy73, h⟩ := h
                    refine PQl.guardT (fun _ he ho => LR.callN (PRow.fun (ctx_Plain_ok l2 v72 hy73)) (he rfl rfl) Tryz.call39 (evsE he rfl rfl) rfl rfl rfl) rfl rfl rfl ?_
                    refine PQl.guardT (fun _ he ho => LR.move (he rfl rfl)) rfl rfl rfl ?_
                    replace h := iDet h
                    obtain ⟨v74, hy75, h⟩ := h
                    refine PQl.guardT (fun _ he ho => LR.callN (PRow.fun (r09_Plain_ok l2 v74 hy75)) (he rfl rfl) Tryz.call40 (evsE he rfl rfl) rfl rfl rfl) rfl rfl rfl ?_
                    replace h := iDet h
                    obtain ⟨v76, hy77, h⟩ := h
                    refine PQl.guardT (fun _ he ho => LR.callN (r09_Eq_ok v72 v74 v76 hy77) (he rfl rfl) Tryz.call9 (evsE he rfl rfl) rfl rfl rfl) rfl rfl rfl ?_
                    refine PQl.step (fun _ he ho => LR.pickT (he rfl rfl) (he rfl rfl)) rfl ?_
                    refine PQl.step (fun _ he ho => LR.move (he rfl rfl)) rfl ?_
                    refine PQl.split (d := 98) rfl (fun hg78 => ?_) (fun hg78 => ?_)
                    · replace h := iT hg78 h
                      replace h := iDet h
                      obtain ⟨v79, hy80, h⟩ := h
                      refine PQl.guardT (fun _ he ho => LR.callN (l09_works_ok v79 hy80) (he rfl rfl) Tryz.call8 (evsE he rfl rfl) rfl rfl rfl) rfl rfl rfl ?_
                      refine PQl.step (fun _ he ho => LR.pickT (he rfl rfl) (he rfl rfl)) rfl ?_
                      refine PQl.step (fun _ he ho => LR.assign (he rfl rfl)) rfl ?_
                      refine PQl.nil ?_
                      exact ⟨v79, (), h, Sub.of rfl (.cons rfl rfl <| .nil) (.nil)⟩
                    · replace h := iF hg78 h
                      refine PQl.guardF rfl rfl rfl (by decide) ?_
                      refine PQl.step (fun _ he ho => LR.pickF (he rfl rfl) (he rfl rfl)) rfl ?_
                      refine PQl.step (fun _ he ho => LR.assign (he rfl rfl)) rfl ?_
                      refine PQl.nil ?_
                      exact ⟨false, (), h, Sub.of rfl (.cons rfl rfl <| .nil) (.nil)⟩
                  · replace h := iF hg71 h
                    refine PQl.guardF rfl rfl rfl (by decide) ?_
                    refine PQl.guardF rfl rfl rfl (by decide) ?_
                    refine PQl.guardF rfl rfl rfl (by decide) ?_
                    refine PQl.guardF rfl rfl rfl (by decide) ?_
                    refine PQl.guardF rfl rfl rfl (by decide) ?_
                    refine PQl.step (fun _ he ho => LR.pickF (he rfl rfl) (he rfl rfl)) rfl ?_
                    refine PQl.step (fun _ he ho => LR.move (he rfl rfl)) rfl ?_
                    refine PQl.guardF rfl rfl rfl (by decide) ?_
                    refine PQl.step (fun _ he ho => LR.pickF (he rfl rfl) (he rfl rfl)) rfl ?_
                    refine PQl.step (fun _ he ho => LR.assign (he rfl rfl)) rfl ?_
                    refine PQl.nil ?_
                    exact ⟨false, (), h, Sub.of rfl (.cons rfl rfl <| .nil) (.nil)⟩
                · replace h := iF hg64 h
                  refine PQl.guardF rfl rfl rfl (by decide) ?_
                  refine PQl.guardF rfl rfl rfl (by decide) ?_
                  refine PQl.guardF rfl rfl rfl (by decide) ?_
                  refine PQl.keep (tl := [(1, _), (84, _), (86, _), (87, _)]) rfl (.cons rfl rfl <| .cons rfl rfl <| .cons rfl rfl <| .cons rfl rfl <| .nil) ?_
                  refine PQl.guardF rfl rfl rfl (by decide) ?_
                  refine PQl.guardF rfl rfl rfl (by decide) ?_
                  refine PQl.step (fun _ he ho => LR.pickF (he rfl rfl) (he rfl rfl)) rfl ?_
                  refine PQl.step (fun _ he ho => LR.move (he rfl rfl)) rfl ?_
                  refine PQl.guardF rfl rfl rfl (by decide) ?_
                  refine PQl.guardF rfl rfl rfl (by decide) ?_
                  refine PQl.guardF rfl rfl rfl (by decide) ?_
                  refine PQl.guardF rfl rfl rfl (by decide) ?_
                  refine PQl.guardF rfl rfl rfl (by decide) ?_
                  refine PQl.step (fun _ he ho => LR.pickF (he rfl rfl) (he rfl rfl)) rfl ?_
                  refine PQl.step (fun _ he ho => LR.move (he rfl rfl)) rfl ?_
                  refine PQl.guardF rfl rfl rfl (by decide) ?_
                  refine PQl.step (fun _ he ho => LR.pickF (he rfl rfl) (he rfl rfl)) rfl ?_
                  refine PQl.step (fun _ he ho => LR.assign (he rfl rfl)) rfl ?_
                  refine PQl.nil ?_
                  exact ⟨false, (), h, Sub.of rfl (.cons rfl rfl <| .nil) (.nil)⟩
              · replace h := iF hg59 h
                refine PQl.guardF rfl rfl rfl (by decide) ?_
                refine PQl.guardF rfl rfl rfl (by decide) ?_
                refine PQl.guardF rfl rfl rfl (by decide) ?_
                refine PQl.guardF rfl rfl rfl (by decide) ?_
                refine PQl.guardF rfl rfl rfl (by decide) ?_
                refine PQl.step (fun _ he ho => LR.pickF (he rfl rfl) (he rfl rfl)) rfl ?_
                refine PQl.step (fun _ he ho => LR.move (he rfl rfl)) rfl ?_
                refine PQl.guardF rfl rfl rfl (by decide) ?_
                refine PQl.guardF rfl rfl rfl (by decide) ?_
                refine PQl.guardF rfl rfl rfl (by decide) ?_
                refine PQl.guardF rfl rfl rfl (by decide) ?_
                refine PQl.keep (tl := [(1, _), (84, _), (86, _), (88, _)]) rfl (.cons rfl rfl <| .cons rfl rfl <| .cons rfl rfl <| .cons rfl rfl <| .nil) ?_
                refine PQl.guardF rfl rfl rfl (by decide) ?_
                refine PQl.step (fun _ he ho => LR.pickF (he rfl rfl) (he rfl rfl)) rfl ?_
                refine PQl.step (fun _ he ho => LR.move (he rfl rfl)) rfl ?_
                refine PQl.guardF rfl rfl rfl (by decide) ?_
                refine PQl.guardF rfl rfl rfl (by decide) ?_
                refine PQl.guardF rfl rfl rfl (by decide) ?_
                refine PQl.guardF rfl rfl rfl (by decide) ?_
                refine PQl.guardF rfl rfl rfl (by decide) ?_
                refine PQl.step (fun _ he ho => LR.pickF (he rfl rfl) (he rfl rfl)) rfl ?_
                refine PQl.step (fun _ he ho => LR.move (he rfl rfl)) rfl ?_
                refine PQl.guardF rfl rfl rfl (by decide) ?_
                refine PQl.step (fun _ he ho => LR.pickF (he rfl rfl) (he rfl rfl)) rfl ?_
                refine PQl.step (fun _ he ho => LR.assign (he rfl rfl)) rfl ?_
                refine PQl.nil ?_
                exact ⟨false, (), h, Sub.of rfl (.cons rfl rfl <| .nil) (.nil)⟩
            · replace h := iF hg52 h
              refine PQl.guardF rfl rfl rfl (by decide) ?_
              refine PQl.guardF rfl rfl rfl (by decide) ?_
              refine PQl.guardF rfl rfl rfl (by decide) ?_
              refine PQl.guardF rfl rfl rfl (by decide) ?_
              refine PQl.guardF rfl rfl rfl (by decide) ?_
              refine PQl.guardF rfl rfl rfl (by decide) ?_
              refine PQl.guardF rfl rfl rfl (by decide) ?_
              refine PQl.guardF rfl rfl rfl (by decide) ?_
              refine PQl.guardF rfl rfl rfl (by decide) ?_
              refine PQl.step (fun _ he ho => LR.pickF (he rfl rfl) (he rfl rfl)) rfl ?_
              refine PQl.step (fun _ he ho => LR.move (he rfl rfl)) rfl ?_
              refine PQl.guardF rfl rfl rfl (by decide) ?_
              refine PQl.guardF rfl rfl rfl (by decide) ?_
              refine PQl.guardF rfl rfl rfl (by decide) ?_
              refine PQl.guardF rfl rfl rfl (by decide) ?_
              refine PQl.guardF rfl rfl rfl (by decide) ?_
              refine PQl.step (fun _ he ho => LR.pickF (he rfl rfl) (he rfl rfl)) rfl ?_
              refine PQl.step (fun _ he ho => LR.move (he rfl rfl)) rfl ?_
              refine PQl.guardF rfl rfl rfl (by decide) ?_
              refine PQl.guardF rfl rfl rfl (by decide) ?_
              refine PQl.guardF rfl rfl rfl (by decide) ?_
              refine PQl.guardF rfl rfl rfl (by decide) ?_
              refine PQl.guardF rfl rfl rfl (by decide) ?_
              refine PQl.keep (tl := [(1, _), (84, _), (89, _)]) rfl (.cons rfl rfl <| .cons rfl rfl <| .cons rfl rfl <| .nil) ?_
              refine PQl.step (fun _ he ho => LR.pickF (he rfl rfl) (he rfl rfl)) rfl ?_
              refine PQl.step (fun _ he ho => LR.move (he rfl rfl)) rfl ?_
              refine PQl.guardF rfl rfl rfl (by decide) ?_
              refine PQl.guardF rfl rfl rfl (by decide) ?_
              refine PQl.guardF rfl rfl rfl (by decide) ?_
              refine PQl.guardF rfl rfl rfl (by decide) ?_
              refine PQl.guardF rfl rfl rfl (by decide) ?_
              refine PQl.step (fun _ he ho => LR.pickF (he rfl rfl) (he rfl rfl)) rfl ?_
              refine PQl.step (fun _ he ho => LR.move (he rfl rfl)) rfl ?_
              refine PQl.guardF rfl rfl rfl (by decide) ?_
              refine PQl.step (fun _ he ho => LR.pickF (he rfl rfl) (he rfl rfl)) rfl ?_
              refine PQl.step (fun _ he ho => LR.assign (he rfl rfl)) rfl ?_
              refine PQl.nil ?_
              exact ⟨false, (), h, Sub.of rfl (.cons rfl rfl <| .nil) (.nil)⟩
          · rintro v43 _ h
            refine PWc.ret ?_
            replace h : _ = r0 := h
            subst h
            exact ⟨.inr rfl, _, .cons (.tmp rfl rfl) <| .nil, rfl⟩
end Go.Proofs

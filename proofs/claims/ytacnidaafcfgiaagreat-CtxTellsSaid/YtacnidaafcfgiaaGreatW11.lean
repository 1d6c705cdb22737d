/- Walks: written by program. -/
import Derived.Test.YtacnidaafcfgiaaGreatFc
import Derived.Test.YtacnidaafcfgiaaGreatSh
import Derived.Test.YtacnidaafcfgiaaGreatSx
import Derived.Test.YtacnidaafcfgiaaGreatTl
import Derived.Test.YtacnidaafcfgiaaGreatSr
import Derived.Test.YtacnidaafcfgiaaGreatDr
import Derived.Test.YtacnidaafcfgiaaGreatW0
import Derived.Test.YtacnidaafcfgiaaGreatW2
import Derived.Test.YtacnidaafcfgiaaGreatW4
import Derived.Test.YtacnidaafcfgiaaGreatW5
import Derived.Test.YtacnidaafcfgiaaGreatW10
namespace Go.Proofs
open Go.Ep
set_option maxHeartbeats 1000000
set_option maxRecDepth 100000
set_option linter.unusedVariables false
set_option linter.unusedSimpArgs false


theorem slices_BinarySearchFunc_sl_Run_Run_uint64_runs_Has_c1_ok (x1 : List TRun) (target2 : Int) (r0 : Int × Bool) (h : (slices_BinarySearchFunc_sl_Run_Run_uint64_runs_Has_c1 x1 target2).wp (· = r0)) : PFun Tryz.prog 109 [.d (.sl (List.map TRun.e x1)), .d (.v (.int .u64 target2)), .d (.v (.func (.func 110) #[] #[]))] (.tup [.d (.v (.int .i64 r0.1)), .d (.v (.bool r0.2))]) := by
  refine PFun.intro (sl := [(0, _), (1, _), (2, _)]) Tryz.func109 rfl Tryz.ntmps109 rfl rfl ?_
  intro ctx hK
  refine PWc.seq ?_
  refine PWc.region ?_
  refine PWl.step (LR.assign rfl) rfl ?_
  refine PWl.step (LR.assign rfl) rfl ?_
  refine PWl.nil ?_
  refine PWc.seq ?_
  refine PWc.region ?_
  refine PWl.step (LR.move rfl) rfl ?_
  refine PWl.step (LR.lenMap (enc := TRun.e) (L := x1) Tryz.underlying37 rfl) rfl ?_
  refine PWl.step (LR.assign rfl) rfl ?_
  refine PWl.nil ?_
  refine PWc.seq ?_
  refine PWc.region ?_
  refine PWl.step (LR.move rfl) rfl ?_
  refine PWl.step (LR.assign rfl) rfl ?_
  refine PWl.step (LR.assign rfl) rfl ?_
  refine PWl.nil ?_
  refine PWc.seq ?_
  refine PWc.jn (iBind h) (fun (i3 : Int) (_ : Unit) => ⟨49, [(0, .d (.sl (List.map TRun.e x1))), (1, .d (.v (.int .u64 target2))), (2, .d (.v (.func (.func 110) #[] #[]))), (8, .d (.v (.int .i64 (List.length x1 : Int)))), (9, .d (.v (.int .i64 i3)))], []⟩) (fun h => ?_) ?_
  · refine PWc.block ?_
    refine PWc.loopM (fun (⟨i18, j19⟩ : Int × Int) (_ : Unit) => ⟨49, [(0, .d (.sl (List.map TRun.e x1))), (1, .d (.v (.int .u64 target2))), (2, .d (.v (.func (.func 110) #[] #[]))), (8, .d (.v (.int .i64 (List.length x1 : Int)))), (9, .d (.v (.int .i64 i18))), (10, .d (.v (.int .i64 j19)))], []⟩) () h (Sub.of rfl (.cons rfl rfl <| .cons rfl rfl <| .cons rfl rfl <| .cons rfl rfl <| .cons rfl rfl <| .cons rfl rfl <| .nil) (.nil)) ?_
    rintro N ⟨i18, j19⟩ _ h
    refine PWc.seq ?_
    refine PWc.seq ?_
    refine PWc.region ?_
    refine PWl.step (LR.move rfl) rfl ?_
    refine PWl.step (LR.move rfl) rfl ?_
    refine PWl.step (LR.lss rfl rfl) rfl ?_
    refine PWl.nil ?_
    refine PWc.cond rfl (fun hc20 => ?_) (fun hc20 => ?_)
    · replace h := iT hc20 h
      refine PWc.skip ?_
      refine PWc.block ?_
      refine PWc.seq ?_
      refine PWc.region ?_
      refine PWl.step (LR.move rfl) rfl ?_
      refine PWl.step (LR.move rfl) rfl ?_
      refine PWl.step (LR.addW rfl rfl) rfl ?_
      refine PWl.step (LR.convInt Tryz.underlying140 (by rw [Tryz.underlying3]; rfl) rfl rfl) rfl ?_
      refine PWl.step (LR.shr rfl rfl (by decide) rfl) rfl ?_
      refine PWl.step (LR.convInt Tryz.underlying3 (by rw [Tryz.underlying140]; rfl) rfl rfl) rfl ?_
      refine PWl.step (LR.assign rfl) rfl ?_
      refine PWl.nil ?_
      refine PWc.seq ?_
      refine PWc.region ?_
      refine PWl.step (LR.move rfl) rfl ?_
      refine PWl.step (LR.move rfl) rfl ?_
      refine PWl.step (LR.move rfl) rfl ?_
      replace h := iIdx h
      obtain ⟨x21, hy22, h⟩ := h
      refine PWl.step (LR.idxT (enc := TRun.e) (L := x1) (y := x21) Tryz.underlying37 Tryz.sizeOf89 rfl rfl hy22 (fun _ => rfl)) rfl ?_
      refine PWl.step (LR.loadEpAgg (ys := [_, _]) Tryz.isAgg89 Tryz.sizeOf89 rfl rfl rfl) rfl ?_
      refine PWl.re (tl := [(0, _), (1, _), (2, _), (8, _), (9, _), (10, _), (11, _), (24, _), (28, _)]) (to := []) rfl (.cons rfl rfl <| .cons rfl rfl <| .cons rfl rfl <| .cons rfl rfl <| .cons rfl rfl <| .cons rfl rfl <| .cons rfl rfl <| .cons rfl rfl <| .cons rfl rfl <| .nil) (.nil) ?_
      refine PWl.step (LR.move rfl) rfl ?_
      replace h := iDet h
      obtain ⟨v23, hy24, h⟩ := h
      refine PWl.step (LR.callN (runs_Has_c1_ok x21 target2 v23 hy24) rfl Tryz.call110 rfl rfl rfl rfl) rfl ?_
      refine PWl.step (LR.lss rfl rfl) rfl ?_
      refine PWl.nil ?_
      refine PWc.cond rfl (fun hc25 => ?_) (fun hc25 => ?_)
      · replace h := iT hc25 h
        refine PWc.region ?_
        refine PWl.step (LR.move rfl) rfl ?_
        refine PWl.step (LR.addW rfl rfl) rfl ?_
        refine PWl.step (LR.assign rfl) rfl ?_
        refine PWl.nil ?_
        exact ⟨((IntKind.i64.wrap (((IntKind.i64.wrap ((Int.fdiv ((IntKind.u64.wrap (IntKind.i64.wrap (i18 + j19)))) (2 ^ 1))))) + 1)), j19), (), h, Sub.of rfl (.cons rfl rfl <| .cons rfl rfl <| .cons rfl rfl <| .cons rfl rfl <| .cons rfl rfl <| .cons rfl rfl <| .nil) (.nil)⟩
      · replace h := iF hc25 h
        refine PWc.region ?_
        refine PWl.step (LR.move rfl) rfl ?_
        refine PWl.step (LR.assign rfl) rfl ?_
        refine PWl.nil ?_
        exact ⟨(i18, (IntKind.i64.wrap ((Int.fdiv ((IntKind.u64.wrap (IntKind.i64.wrap (i18 + j19)))) (2 ^ 1))))), (), h, Sub.of rfl (.cons rfl rfl <| .cons rfl rfl <| .cons rfl rfl <| .cons rfl rfl <| .cons rfl rfl <| .cons rfl rfl <| .nil) (.nil)⟩
    · replace h := iF hc20 h
      refine PWc.exit ?_
      exact ⟨i18, (), h, Sub.of rfl (.cons rfl rfl <| .cons rfl rfl <| .cons rfl rfl <| .cons rfl rfl <| .cons rfl rfl <| .nil) (.nil)⟩
  · rintro i3 _ h
    refine PWc.seq ?_
    refine PWc.jn (iBind h) (fun (v26 : Bool) (_ : Unit) => ⟨49, [(6, .d (.v (.int .i64 i3))), (7, .d (.v (.bool v26)))], []⟩) (fun h => ?_) ?_
    · refine PWc.region ?_
      refine PWl.step (LR.move rfl) rfl ?_
      refine PWl.step (LR.move rfl) rfl ?_
      refine PWl.step (LR.move rfl) rfl ?_
      refine PWl.step (LR.lss rfl rfl) rfl ?_
      refine PWl.step (LR.move rfl) rfl ?_
      refine PWl.split (d := 39) rfl (fun hg27 => ?_) (fun hg27 => ?_)
      · replace h := iT hg27 h
        refine PWl.guardT (LR.move rfl) rfl rfl rfl ?_
        refine PWl.guardT (LR.move rfl) rfl rfl rfl ?_
        refine PWl.guardT (LR.move rfl) rfl rfl rfl ?_
        replace h := iIdx h
        obtain ⟨x28, hy29, h⟩ := h
        refine PWl.guardT (LR.idxT (enc := TRun.e) (L := x1) (y := x28) Tryz.underlying37 Tryz.sizeOf89 rfl rfl hy29 (fun _ => rfl)) rfl rfl rfl ?_
        refine PWl.guardT (LR.loadEpAgg (ys := [_, _]) Tryz.isAgg89 Tryz.sizeOf89 rfl rfl rfl) rfl rfl rfl ?_
        refine PWl.guardT (LR.move rfl) rfl rfl rfl ?_
        replace h := iDet h
        obtain ⟨v30, hy31, h⟩ := h
        refine PWl.guardT (LR.callN (runs_Has_c1_ok x28 target2 v30 hy31) rfl Tryz.call110 rfl rfl rfl rfl) rfl rfl rfl ?_
        refine PWl.guardT (LR.eql rfl rfl) rfl rfl rfl ?_
        refine PWl.step (LR.pickT rfl rfl) rfl ?_
        refine PWl.step (LR.assign rfl) rfl ?_
        refine PWl.re (tl := [(6, _), (48, _)]) (to := []) rfl (.cons rfl rfl <| .cons rfl rfl <| .nil) (.nil) ?_
        refine PWl.step (LR.assign rfl) rfl ?_
        refine PWl.nil ?_
        exact ⟨(decide (v30 = 0)), (), h, Sub.of rfl (.cons rfl rfl <| .cons rfl rfl <| .nil) (.nil)⟩
      · replace h := iF hg27 h
        refine PWl.guardF rfl rfl rfl (by decide) ?_
        refine PWl.guardF rfl rfl rfl (by decide) ?_
        refine PWl.guardF rfl rfl rfl (by decide) ?_
        refine PWl.guardF rfl rfl rfl (by decide) ?_
        refine PWl.guardF rfl rfl rfl (by decide) ?_
        refine PWl.guardF rfl rfl rfl (by decide) ?_
        refine PWl.guardF rfl rfl rfl (by decide) ?_
        refine PWl.guardF rfl rfl rfl (by decide) ?_
        refine PWl.step (LR.pickF rfl rfl) rfl ?_
        refine PWl.step (LR.assign rfl) rfl ?_
        refine PWl.re (tl := [(6, _), (48, _)]) (to := []) rfl (.cons rfl rfl <| .cons rfl rfl <| .nil) (.nil) ?_
        refine PWl.step (LR.assign rfl) rfl ?_
        refine PWl.nil ?_
        exact ⟨false, (), h, Sub.of rfl (.cons rfl rfl <| .cons rfl rfl <| .nil) (.nil)⟩
    · rintro v26 _ h
      refine PWc.ret ?_
      replace h : _ = r0 := h
      subst h
      exact ⟨.inr rfl, _, .cons (.tmp rfl rfl) <| .cons (.tmp rfl rfl) <| .nil, rfl⟩

theorem runs_Has_ok (l1 : List TRun) (n2 : Int) (r0 : Bool) (h : (runs_Has l1 n2).wp (· = r0)) : PFun Tryz.prog 71 [.d (.sl (List.map TRun.e l1)), .d (.v (.int .u64 n2))] (.d (.v (.bool r0))) := by
  refine PFun.intro (sl := [(0, _), (1, _)]) Tryz.func71 rfl Tryz.ntmps71 rfl rfl ?_
  intro ctx hK
  refine PWc.seq ?_
  refine PWc.region ?_
  refine PWl.step (LR.assign rfl) rfl ?_
  refine PWl.nil ?_
  refine PWc.seq ?_
  refine PWc.region ?_
  refine PWl.step (LR.move rfl) rfl ?_
  replace h := iDet h
  obtain ⟨v3, hy4, h⟩ := h
  refine PWl.step (LR.rowN (runs_Norm_ok l1 v3 hy4) rfl Tryz.call69 rfl rfl rfl rfl) rfl ?_
  refine PWl.step (LR.assign rfl) rfl ?_
  refine PWl.nil ?_
  refine PWc.seq ?_
  refine PWc.region ?_
  refine PWl.step (LR.move rfl) rfl ?_
  refine PWl.step (LR.move rfl) rfl ?_
  replace h := iDet h
  obtain ⟨v5, hy6, h⟩ := h
  refine PWl.frz [0, 8, 10] hK (.cons rfl <| .cons rfl <| .cons rfl <| .nil) rfl (by simp) ?_
  refine PWl.step (LR.callN (slices_BinarySearchFunc_sl_Run_Run_uint64_runs_Has_c1_ok v3 n2 v5 hy6) rfl Tryz.call109 rfl rfl rfl rfl) rfl ?_
  refine PWl.step (LR.move rfl) rfl ?_
  refine PWl.step (LR.extract rfl rfl) rfl ?_
  refine PWl.step (LR.extract rfl rfl) rfl ?_
  refine PWl.step (LR.assign rfl) rfl ?_
  refine PWl.step (LR.assign rfl) rfl ?_
  refine PWl.nil ?_
  refine PWc.seq ?_
  refine PWc.jn (iBind h) (fun (v7 : Bool) (_ : Unit) => ⟨28, [(4, .d (.v (.bool v7)))], []⟩) (fun h => ?_) ?_
  · refine PWc.region ?_
    refine PWl.step (LR.move rfl) rfl ?_
    refine PWl.step (LR.move rfl) rfl ?_
    refine PWl.step (LR.lenMap (enc := TRun.e) (L := v3) Tryz.underlying37 rfl) rfl ?_
    refine PWl.step (LR.lss rfl rfl) rfl ?_
    refine PWl.step (LR.move rfl) rfl ?_
    refine PWl.split (d := 19) rfl (fun hg8 => ?_) (fun hg8 => ?_)
    · replace h := iT hg8 h
      refine PWl.guardT (LR.move rfl) rfl rfl rfl ?_
      refine PWl.re (tl := [(1, _), (4, _), (5, _), (19, _), (20, _)]) (to := []) rfl (.cons rfl rfl <| .cons rfl rfl <| .cons rfl rfl <| .cons rfl rfl <| .cons rfl rfl <| .nil) (.nil) ?_
      refine PWl.guardT (LR.move rfl) rfl rfl rfl ?_
      replace h := iIdx h
      obtain ⟨x9, hy10, h⟩ := h
      refine PWl.guardT (LR.idxT (enc := TRun.e) (L := v3) (y := x9) Tryz.underlying37 Tryz.sizeOf89 rfl rfl hy10 (fun _ => rfl)) rfl rfl rfl ?_
      refine PWl.guardT (LR.fieldEp Tryz.underlying89 rfl Tryz.sizeOf30 (by decide) rfl rfl) rfl rfl rfl ?_
      refine PWl.guardT (LR.loadEp Tryz.isAgg30 rfl rfl) rfl rfl rfl ?_
      refine PWl.guardT (LR.move rfl) rfl rfl rfl ?_
      refine PWl.guardT (LR.leq rfl rfl) rfl rfl rfl ?_
      refine PWl.step (LR.pickT rfl rfl) rfl ?_
      refine PWl.step (LR.assign rfl) rfl ?_
      refine PWl.nil ?_
      exact ⟨(decide (x9.lo ≤ n2)), (), h, Sub.of rfl (.cons rfl rfl <| .nil) (.nil)⟩
    · replace h := iF hg8 h
      refine PWl.guardF rfl rfl rfl (by decide) ?_
      refine PWl.re (tl := [(1, _), (4, _), (5, _), (19, _), (20, _)]) (to := []) rfl (.cons rfl rfl <| .cons rfl rfl <| .cons rfl rfl <| .cons rfl rfl <| .cons rfl rfl <| .nil) (.nil) ?_
      refine PWl.guardF rfl rfl rfl (by decide) ?_
      refine PWl.guardF rfl rfl rfl (by decide) ?_
      refine PWl.guardF rfl rfl rfl (by decide) ?_
      refine PWl.guardF rfl rfl rfl (by decide) ?_
      refine PWl.guardF rfl rfl rfl (by decide) ?_
      refine PWl.guardF rfl rfl rfl (by decide) ?_
      refine PWl.step (LR.pickF rfl rfl) rfl ?_
      refine PWl.step (LR.assign rfl) rfl ?_
      refine PWl.nil ?_
      exact ⟨false, (), h, Sub.of rfl (.cons rfl rfl <| .nil) (.nil)⟩
  · rintro v7 _ h
    refine PWc.ret ?_
    replace h : _ = r0 := h
    subst h
    exact ⟨.inr rfl, _, .cons (.tmp rfl rfl) <| .nil, rfl⟩

theorem ctx_Has_ok (c1 : List TPart) (d2 : TDot) (r0 : Bool) (h : (ctx_Has c1 d2).wp (· = r0)) : PFun Tryz.prog 29 [.d (.sl (List.map TPart.e c1)), .agg (List.map .d (TDot.e d2))] (.d (.v (.bool r0))) := by
  refine PFun.intro (sl := [(0, _), (1, _)]) Tryz.func29 rfl Tryz.ntmps29 rfl rfl ?_
  intro ctx hK
  refine PWc.seq ?_
  refine PWc.region ?_
  refine PWl.step (LR.box rfl rfl rfl rfl) rfl ?_
  refine PWl.step (LR.assign rfl) rfl ?_
  refine PWl.nil ?_
  refine PWc.seq ?_
  refine PWc.jn (iBind h) (fun (v3 : Bool) (_ : Unit) => ⟨17, [(4, .d (.v (.bool v3)))], []⟩) (fun h => ?_) ?_
  · refine PWc.regionD (by kernel_rfl) (by kernel_rfl) ?_
    refine PQl.step (fun _ he ho => LR.fieldRef Tryz.underlying32 rfl Tryz.sizeOf29 (by decide) rfl (he rfl rfl)) rfl ?_
    refine PQl.step (fun _ he ho => LR.loadRef Tryz.isAgg29 (he rfl rfl) (ho rfl) rfl) rfl ?_
    refine PQl.step (fun _ he ho => LR.gtr (he rfl rfl) (he rfl rfl)) rfl ?_
    refine PQl.step (fun _ he ho => LR.move (he rfl rfl)) rfl ?_
    refine PQl.split (d := 8) rfl (fun hg4 => ?_) (fun hg4 => ?_)
    · replace h := iT hg4 h
      refine PQl.guardT (fun _ he ho => LR.move (he rfl rfl)) rfl rfl rfl ?_
      refine PQl.guardT (fun _ he ho => LR.fieldRef Tryz.underlying32 rfl Tryz.sizeOf29 (by decide) rfl (he rfl rfl)) rfl rfl rfl ?_
      refine PQl.guardT (fun _ he ho => LR.loadRef Tryz.isAgg29 (he rfl rfl) (ho rfl) rfl) rfl rfl rfl ?_
      replace h := iDet h
      obtain ⟨v5, hy6, h⟩ := h
      refine PQl.guardT (fun _ he ho => LR.callN (PRow.fun (ctx_Runs_ok c1 d2.dev v5 hy6)) (he rfl rfl) Tryz.call27 (evsE he rfl rfl) rfl rfl rfl) rfl rfl rfl ?_
      refine PQl.guardT (fun _ he ho => LR.fieldRef Tryz.underlying32 rfl Tryz.sizeOf30 (by decide) rfl (he rfl rfl)) rfl rfl rfl ?_
      refine PQl.guardT (fun _ he ho => LR.loadRef Tryz.isAgg30 (he rfl rfl) (ho rfl) rfl) rfl rfl rfl ?_
      replace h := iDet h
      obtain ⟨v7, hy8, h⟩ := h
      refine PQl.guardT (fun _ he ho => LR.callN (runs_Has_ok v5 d2.n v7 hy8) (he rfl rfl) Tryz.call71 (evsE he rfl rfl) rfl rfl rfl) rfl rfl rfl ?_
      refine PQl.step (fun _ he ho => LR.pickT (he rfl rfl) (he rfl rfl)) rfl ?_
      refine PQl.step (fun _ he ho => LR.assign (he rfl rfl)) rfl ?_
      refine PQl.nil ?_
      exact ⟨v7, (), h, Sub.of rfl (.cons rfl rfl <| .nil) (.nil)⟩
    · replace h := iF hg4 h
      refine PQl.guardF rfl rfl rfl (by decide) ?_
      refine PQl.guardF rfl rfl rfl (by decide) ?_
      refine PQl.guardF rfl rfl rfl (by decide) ?_
      refine PQl.guardF rfl rfl rfl (by decide) ?_
      refine PQl.guardF rfl rfl rfl (by decide) ?_
      refine PQl.guardF rfl rfl rfl (by decide) ?_
      refine PQl.guardF rfl rfl rfl (by decide) ?_
      refine PQl.step (fun _ he ho => LR.pickF (he rfl rfl) (he rfl rfl)) rfl ?_
      refine PQl.step (fun _ he ho => LR.assign (he rfl rfl)) rfl ?_
      refine PQl.nil ?_
      exact ⟨false, (), h, Sub.of rfl (.cons rfl rfl <| .nil) (.nil)⟩
  · rintro v3 _ h
    refine PWc.ret ?_
    replace h : _ = r0 := h
    subst h
    exact ⟨.inr rfl, _, .cons (.tmp rfl rfl) <| .nil, rfl⟩

theorem r09_Has_ok (c1 : List TPart) (d2 : TDot) (r0 : Bool) (h : (r09_Has c1 d2).wp (· = r0)) : PFun Tryz.prog 30 [.d (.sl (List.map TPart.e c1)), .agg (List.map .d (TDot.e d2))] (.d (.v (.bool r0))) := by
  refine PFun.intro (sl := [(0, _), (1, _)]) Tryz.func30 rfl Tryz.ntmps30 rfl rfl ?_
  intro ctx hK
  refine PWc.seq ?_
  refine PWc.region ?_
  refine PWl.step (LR.box rfl rfl rfl rfl) rfl ?_
  refine PWl.step (LR.assign rfl) rfl ?_
  refine PWl.nil ?_
  refine PWc.seq ?_
  refine PWc.jn (iBind h) (fun (v3 : Bool) (_ : Unit) => ⟨16, [(4, .d (.v (.bool v3)))], []⟩) (fun h => ?_) ?_
  · refine PWc.regionD (by kernel_rfl) (by kernel_rfl) ?_
    refine PQl.step (fun _ he ho => LR.loadRefAgg (ps := [_, _]) Tryz.isAgg32 Tryz.sizeOf32 (he rfl rfl) (ho rfl) rfl rfl) rfl ?_
    replace h := iDet h
    obtain ⟨v4, hy5, h⟩ := h
    refine PQl.step (fun _ he ho => LR.callN (r07_Good_ok d2 v4 hy5) (he rfl rfl) Tryz.call53 (evsE he rfl rfl) rfl rfl rfl) rfl ?_
    refine PQl.step (fun _ he ho => LR.move (he rfl rfl)) rfl ?_
    refine PQl.split (d := 7) rfl (fun hg6 => ?_) (fun hg6 => ?_)
    · replace h := iT hg6 h
      refine PQl.guardT (fun _ he ho => LR.move (he rfl rfl)) rfl rfl rfl ?_
      refine PQl.guardT (fun _ he ho => LR.fieldRef Tryz.underlying32 rfl Tryz.sizeOf29 (by decide) rfl (he rfl rfl)) rfl rfl rfl ?_
      refine PQl.guardT (fun _ he ho => LR.loadRef Tryz.isAgg29 (he rfl rfl) (ho rfl) rfl) rfl rfl rfl ?_
      replace h := iDet h
      obtain ⟨v7, hy8, h⟩ := h
      refine PQl.guardT (fun _ he ho => LR.callN (r09_Runs_ok c1 d2.dev v7 hy8) (he rfl rfl) Tryz.call28 (evsE he rfl rfl) rfl rfl rfl) rfl rfl rfl ?_
      refine PQl.guardT (fun _ he ho => LR.fieldRef Tryz.underlying32 rfl Tryz.sizeOf30 (by decide) rfl (he rfl rfl)) rfl rfl rfl ?_
      refine PQl.guardT (fun _ he ho => LR.loadRef Tryz.isAgg30 (he rfl rfl) (ho rfl) rfl) rfl rfl rfl ?_
      replace h := iDet h
      obtain ⟨v9, hy10, h⟩ := h
      refine PQl.guardT (fun _ he ho => LR.callN (r06_Has_ok v7 d2.n v9 hy10) (he rfl rfl) Tryz.call72 (evsE he rfl rfl) rfl rfl rfl) rfl rfl rfl ?_
      refine PQl.step (fun _ he ho => LR.pickT (he rfl rfl) (he rfl rfl)) rfl ?_
      refine PQl.step (fun _ he ho => LR.assign (he rfl rfl)) rfl ?_
      refine PQl.nil ?_
      exact ⟨v9, (), h, Sub.of rfl (.cons rfl rfl <| .nil) (.nil)⟩
    · replace h := iF hg6 h
      refine PQl.guardF rfl rfl rfl (by decide) ?_
      refine PQl.guardF rfl rfl rfl (by decide) ?_
      refine PQl.guardF rfl rfl rfl (by decide) ?_
      refine PQl.guardF rfl rfl rfl (by decide) ?_
      refine PQl.guardF rfl rfl rfl (by decide) ?_
      refine PQl.guardF rfl rfl rfl (by decide) ?_
      refine PQl.guardF rfl rfl rfl (by decide) ?_
      refine PQl.step (fun _ he ho => LR.pickF (he rfl rfl) (he rfl rfl)) rfl ?_
      refine PQl.step (fun _ he ho => LR.assign (he rfl rfl)) rfl ?_
      refine PQl.nil ?_
      exact ⟨false, (), h, Sub.of rfl (.cons rfl rfl <| .nil) (.nil)⟩
  · rintro v3 _ h
    refine PWc.ret ?_
    replace h : _ = r0 := h
    subst h
    exact ⟨.inr rfl, _, .cons (.tmp rfl rfl) <| .nil, rfl⟩

theorem ctx_Only_ok (c1 : List TPart) (dev2 : Int) (r0 : List TPart) (h : (ctx_Only c1 dev2).wp (· = r0)) : PRow Tryz.prog 32 [.d (.sl (List.map TPart.e c1)), .d (.v (.int .u16 dev2))] 80 2 (List.map TPart.e r0) := by
  refine PRow.intro (sl := [(0, _), (1, _)]) Tryz.func32 rfl Tryz.ntmps32 rfl rfl ?_
  intro ctx hK
  refine PWc.seq ?_
  refine PWc.region ?_
  refine PWl.step (LR.assignNilRow 80 2 rfl) rfl ?_
  refine PWl.nil ?_
  refine PWc.seq ?_
  refine PWc.region ?_
  refine PWl.step (LR.move rfl) rfl ?_
  refine PWl.step (LR.move rfl) rfl ?_
  refine PWl.step (LR.move rfl) rfl ?_
  replace h := iDet h
  obtain ⟨v3, hy4, h⟩ := h
  refine PWl.step (LR.rowN (ctx_Runs_ok c1 dev2 v3 hy4) rfl Tryz.call27 rfl rfl rfl rfl) rfl ?_
  refine PWl.frz [8] hK (.cons rfl <| .nil) rfl (by simp) ?_
  refine PWl.step (LR.build (ns := [_, _]) build80 rfl rfl rfl) rfl ?_
  refine PWl.step (LR.buildSliceD [.tmp 9] elem23 rfl rfl (.cons rfl rfl rfl <| .nil) (by decide) (by decide)) rfl ?_
  replace h := iDet h
  obtain ⟨v5, hy6, h⟩ := h
  refine PWl.step (LR.rowN (ctx_Norm_ok ([(⟨dev2, v3⟩ : TPart)]) v5 hy6) rfl Tryz.call20 rfl rfl rfl rfl) rfl ?_
  refine PWl.re (tl := [(0, _), (1, _), (5, _), (6, _), (7, _), (8, _), (9, _), (10, _), (11, _)]) (to := [(11, _)]) rfl (.cons rfl rfl <| .cons rfl rfl <| .cons rfl rfl <| .cons rfl rfl <| .cons rfl rfl <| .cons rfl rfl <| .cons rfl rfl <| .cons rfl rfl <| .cons rfl rfl <| .nil) (.cons rfl rfl <| .nil) ?_
  refine PWl.step (LR.assign rfl) rfl ?_
  refine PWl.nil ?_
  refine PWc.ret ?_
  replace h : _ = r0 := h
  subst h
  exact ⟨.inr rfl, 4, rfl, .inr ⟨11, _, rfl, (by simp), rfl⟩⟩

theorem r09_Only_ok (c1 : List TPart) (dev2 : Int) (r0 : List TPart) (h : (r09_Only c1 dev2).wp (· = r0)) : PFun Tryz.prog 33 [.d (.sl (List.map TPart.e c1)), .d (.v (.int .u16 dev2))] (.d (.sl (List.map TPart.e r0))) := by
  refine PFun.intro (sl := [(0, _), (1, _)]) Tryz.func33 rfl Tryz.ntmps33 rfl rfl ?_
  intro ctx hK
  refine PWc.seq ?_
  refine PWc.region ?_
  refine PWl.step (LR.assignNilRow 80 2 rfl) rfl ?_
  refine PWl.nil ?_
  refine PWc.seq ?_
  refine PWc.region ?_
  refine PWl.step (LR.move rfl) rfl ?_
  refine PWl.step (LR.move rfl) rfl ?_
  replace h := iDet h
  obtain ⟨v3, hy4, h⟩ := h
  refine PWl.step (LR.callN (r09_Runs_ok c1 dev2 v3 hy4) rfl Tryz.call28 rfl rfl rfl rfl) rfl ?_
  refine PWl.step (LR.assign rfl) rfl ?_
  refine PWl.nil ?_
  refine PWc.seq ?_
  refine PWc.seq ?_
  refine PWc.region ?_
  refine PWl.step (LR.move rfl) rfl ?_
  refine PWl.step (LR.lenMap (enc := TRun.e) (L := v3) Tryz.underlying37 rfl) rfl ?_
  refine PWl.step (LR.eql rfl rfl) rfl ?_
  refine PWl.nil ?_
  refine PWc.cond rfl (fun hc5 => ?_) (fun hc5 => ?_)
  · replace h := iT hc5 h
    refine PWc.seq ?_
    refine PWc.region ?_
    refine PWl.re (tl := [(0, _), (1, _), (5, _), (6, _), (7, _), (8, _), (9, _), (10, _), (11, _)]) (to := []) rfl (.cons rfl rfl <| .cons rfl rfl <| .cons rfl rfl <| .cons rfl rfl <| .cons rfl rfl <| .cons rfl rfl <| .cons rfl rfl <| .cons rfl rfl <| .cons rfl rfl <| .nil) (.nil) ?_
    refine PWl.step (LR.assignNilRow 80 2 rfl) rfl ?_
    refine PWl.nil ?_
    refine PWc.ret ?_
    replace h : _ = r0 := h
    subst h
    exact ⟨.inr rfl, _, .cons (.row rfl rfl (by first | (simp; done) | (simp; omega) | omega)) <| .nil, rfl⟩
  · replace h := iF hc5 h
    refine PWc.skip ?_
    refine PWc.seq ?_
    refine PWc.region ?_
    refine PWl.step (LR.move rfl) rfl ?_
    refine PWl.step (LR.move rfl) rfl ?_
    refine PWl.step (LR.build (ns := [_, _]) build80 rfl rfl rfl) rfl ?_
    refine PWl.step (LR.buildSliceD [.tmp 14] elem23 rfl rfl (.cons rfl rfl rfl <| .nil) (by decide) (by decide)) rfl ?_
    refine PWl.re (tl := [(0, _), (1, _), (5, _), (6, _), (7, _), (8, _), (9, _), (10, _), (11, _), (12, _), (13, _), (14, _), (15, _)]) (to := []) rfl (.cons rfl rfl <| .cons rfl rfl <| .cons rfl rfl <| .cons rfl rfl <| .cons rfl rfl <| .cons rfl rfl <| .cons rfl rfl <| .cons rfl rfl <| .cons rfl rfl <| .cons rfl rfl <| .cons rfl rfl <| .cons rfl rfl <| .cons rfl rfl <| .nil) (.nil) ?_
    refine PWl.step (LR.assign rfl) rfl ?_
    refine PWl.nil ?_
    refine PWc.ret ?_
    replace h : _ = r0 := h
    subst h
    exact ⟨.inr rfl, _, .cons (.tmp rfl rfl) <| .nil, rfl⟩
end Go.Proofs

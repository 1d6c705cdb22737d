/- Walks: written by program. -/
import Derived.Test.YtacnidaafcfgiaaDFc
import Derived.Test.YtacnidaafcfgiaaDSh
import Derived.Test.YtacnidaafcfgiaaDSx
import Derived.Test.YtacnidaafcfgiaaTl
import Derived.Test.YtacnidaafcfgiaaSr
import Derived.Test.YtacnidaafcfgiaaDr
import Derived.Test.YtacnidaafcfgiaaOb
import Derived.Test.YtacnidaafcfgiaaOe
import Derived.Test.YtacnidaafcfgiaaLs
import Derived.Test.YtacnidaafcfgiaaTl
import Derived.Test.YtacnidaafcfgiaaStr
import Derived.Test.YtacnidaafcfgiaaPc
import Derived.Test.YtacnidaafcfgiaaDW2
namespace Go.Proofs
open Go.Ep
set_option maxHeartbeats 1000000
set_option maxRecDepth 100000
set_option linter.unusedVariables false
set_option linter.unusedSimpArgs false


theorem runs_Has_c1_ok (x1 : TRun) (n2 : Int) (r0 : Int) (h : (runs_Has_c1 x1 n2).wp (· = r0)) : PFun Try.prog 142 [.agg (List.map .d (TRun.e x1)), .d (.v (.int .u64 n2))] (.d (.v (.int .i64 r0))) := by
  refine PFun.intro (sl := [(0, _), (1, _)]) Try.func142 rfl Try.ntmps142 rfl rfl ?_
  intro ctx hK
  refine PWc.seq ?_
  refine PWc.region ?_
  refine PWl.step (LR.box rfl rfl rfl rfl) rfl ?_
  refine PWl.step (LR.assign rfl) rfl ?_
  refine PWl.nil ?_
  refine PWc.seq ?_
  refine PWc.region ?_
  refine PWl.step (LR.fieldRef Try.underlying114 rfl Try.sizeOf36 (by decide) rfl rfl) rfl ?_
  refine PWl.step (LR.loadRef Try.isAgg36 rfl rfl rfl) rfl ?_
  refine PWl.step (LR.move rfl) rfl ?_
  replace h := iDet h
  obtain ⟨v3, hy4, h⟩ := h
  refine PWl.step (LR.callN (cmp_Compare_uint64_ok x1.hi n2 v3 hy4) rfl Try.call143 rfl rfl rfl rfl) rfl ?_
  refine PWl.step (LR.assign rfl) rfl ?_
  refine PWl.nil ?_
  refine PWc.ret ?_
  replace h : _ = r0 := h
  subst h
  exact ⟨.inr rfl, _, .cons (.tmp rfl rfl) <| .nil, rfl⟩

theorem slices_BinarySearchFunc_sl_Run_Run_uint64_runs_Has_c1_ok (x1 : List TRun) (target2 : Int) (r0 : Int × Bool) (h : (slices_BinarySearchFunc_sl_Run_Run_uint64_runs_Has_c1 x1 target2).wp (· = r0)) : PFun Try.prog 141 [.d (.sl (List.map TRun.e x1)), .d (.v (.int .u64 target2)), .d (.v (.func (.func 142) #[] #[]))] (.tup [.d (.v (.int .i64 r0.1)), .d (.v (.bool r0.2))]) := by
  refine PFun.intro (sl := [(0, _), (1, _), (2, _)]) Try.func141 rfl Try.ntmps141 rfl rfl ?_
  intro ctx hK
  refine PWc.seq ?_
  refine PWc.region ?_
  refine PWl.step (LR.assign rfl) rfl ?_
  refine PWl.step (LR.assign rfl) rfl ?_
  refine PWl.nil ?_
  refine PWc.seq ?_
  refine PWc.region ?_
  refine PWl.step (LR.move rfl) rfl ?_
  refine PWl.step (LR.lenMap (enc := TRun.e) (L := x1) Try.underlying34 rfl) rfl ?_
  refine PWl.step (LR.assign rfl) rfl ?_
  refine PWl.nil ?_
  refine PWc.seq ?_
  refine PWc.region ?_
  refine PWl.step (LR.move rfl) rfl ?_
  refine PWl.step (LR.assign rfl) rfl ?_
  refine PWl.step (LR.assign rfl) rfl ?_
  refine PWl.nil ?_
  refine PWc.seq ?_
  refine PWc.jn (iBind h) (fun (i3 : Int) (_ : Unit) => ⟨49, [(0, .d (.sl (List.map TRun.e x1))), (1, .d (.v (.int .u64 target2))), (2, .d (.v (.func (.func 142) #[] #[]))), (8, .d (.v (.int .i64 (List.length x1 : Int)))), (9, .d (.v (.int .i64 i3)))], []⟩) (fun h => ?_) ?_
  · refine PWc.block ?_
    refine PWc.loopM (fun (⟨i18, j19⟩ : Int × Int) (_ : Unit) => ⟨49, [(0, .d (.sl (List.map TRun.e x1))), (1, .d (.v (.int .u64 target2))), (2, .d (.v (.func (.func 142) #[] #[]))), (8, .d (.v (.int .i64 (List.length x1 : Int)))), (9, .d (.v (.int .i64 i18))), (10, .d (.v (.int .i64 j19)))], []⟩) () h (Sub.of rfl (.cons rfl rfl <| .cons rfl rfl <| .cons rfl rfl <| .cons rfl rfl <| .cons rfl rfl <| .cons rfl rfl <| .nil) (.nil)) ?_
    rintro N ⟨i18, j19⟩ _ h
    refine PWc.seq ?_
    refine PWc.seq ?_
    refine PWc.region ?_
    refine PWl.step (LR.move rfl) rfl ?_
    refine PWl.step (LR.move rfl) rfl ?_
    refine PWl.step (LR.lss rfl rfl) rfl ?_
    refine PWl.nil ?_
    refine PWc.cond rfl (fun hc20 => ?_) (fun hc20 => ?_)
    · replace h := iT hc20 h
      refine PWc.skip ?_
      refine PWc.block ?_
      refine PWc.seq ?_
      refine PWc.region ?_
      refine PWl.step (LR.move rfl) rfl ?_
      refine PWl.step (LR.move rfl) rfl ?_
      refine PWl.step (LR.addW rfl rfl) rfl ?_
      refine PWl.step (LR.convInt Try.underlying184 (by rw [Try.underlying3]; rfl) rfl rfl) rfl ?_
      refine PWl.step (LR.shr rfl rfl (by decide) rfl) rfl ?_
      refine PWl.step (LR.convInt Try.underlying3 (by rw [Try.underlying184]; rfl) rfl rfl) rfl ?_
      refine PWl.step (LR.assign rfl) rfl ?_
      refine PWl.nil ?_
      refine PWc.seq ?_
      refine PWc.region ?_
      refine PWl.step (LR.move rfl) rfl ?_
      refine PWl.step (LR.move rfl) rfl ?_
      refine PWl.step (LR.move rfl) rfl ?_
      replace h := iIdx h
      obtain ⟨x21, hy22, h⟩ := h
      refine PWl.step (LR.idxT (enc := TRun.e) (L := x1) (y := x21) Try.underlying34 Try.sizeOf114 rfl rfl hy22 (fun _ => rfl)) rfl ?_
      refine PWl.step (LR.loadEpAgg (ys := [_, _]) Try.isAgg114 Try.sizeOf114 rfl rfl rfl) rfl ?_
      refine PWl.re (tl := [(0, _), (1, _), (2, _), (8, _), (9, _), (10, _), (11, _), (24, _), (28, _)]) (to := []) rfl (.cons rfl rfl <| .cons rfl rfl <| .cons rfl rfl <| .cons rfl rfl <| .cons rfl rfl <| .cons rfl rfl <| .cons rfl rfl <| .cons rfl rfl <| .cons rfl rfl <| .nil) (.nil) ?_
      refine PWl.step (LR.move rfl) rfl ?_
      replace h := iDet h
      obtain ⟨v23, hy24, h⟩ := h
      refine PWl.step (LR.callN (runs_Has_c1_ok x21 target2 v23 hy24) rfl Try.call142 rfl rfl rfl rfl) rfl ?_
      refine PWl.step (LR.lss rfl rfl) rfl ?_
      refine PWl.nil ?_
      refine PWc.cond rfl (fun hc25 => ?_) (fun hc25 => ?_)
      · replace h := iT hc25 h
        refine PWc.region ?_
        refine PWl.step (LR.move rfl) rfl ?_
        refine PWl.step (LR.addW rfl rfl) rfl ?_
        refine PWl.step (LR.assign rfl) rfl ?_
        refine PWl.nil ?_
        exact ⟨((IntKind.i64.wrap (((IntKind.i64.wrap ((Int.fdiv ((IntKind.u64.wrap (IntKind.i64.wrap (i18 + j19)))) (2 ^ 1))))) + 1)), j19), (), h, Sub.of rfl (.cons rfl rfl <| .cons rfl rfl <| .cons rfl rfl <| .cons rfl rfl <| .cons rfl rfl <| .cons rfl rfl <| .nil) (.nil)⟩
      · replace h := iF hc25 h
        refine PWc.region ?_
        refine PWl.step (LR.move rfl) rfl ?_
        refine PWl.step (LR.assign rfl) rfl ?_
        refine PWl.nil ?_
        exact ⟨(i18, (IntKind.i64.wrap ((Int.fdiv ((IntKind.u64.wrap (IntKind.i64.wrap (i18 + j19)))) (2 ^ 1))))), (), h, Sub.of rfl (.cons rfl rfl <| .cons rfl rfl <| .cons rfl rfl <| .cons rfl rfl <| .cons rfl rfl <| .cons rfl rfl <| .nil) (.nil)⟩
    · replace h := iF hc20 h
      refine PWc.exit ?_
      exact ⟨i18, (), h, Sub.of rfl (.cons rfl rfl <| .cons rfl rfl <| .cons rfl rfl <| .cons rfl rfl <| .cons rfl rfl <| .nil) (.nil)⟩
  · rintro i3 _ h
    refine PWc.seq ?_
    refine PWc.jn (iBind h) (fun (v26 : Bool) (_ : Unit) => ⟨49, [(6, .d (.v (.int .i64 i3))), (7, .d (.v (.bool v26)))], []⟩) (fun h => ?_) ?_
    · refine PWc.region ?_
      refine PWl.step (LR.move rfl) rfl ?_
      refine PWl.step (LR.move rfl) rfl ?_
      refine PWl.step (LR.move rfl) rfl ?_
      refine PWl.step (LR.lss rfl rfl) rfl ?_
      refine PWl.step (LR.move rfl) rfl ?_
      refine PWl.split (d := 39) rfl (fun hg27 => ?_) (fun hg27 => ?_)
      · replace h := iT hg27 h
        refine PWl.guardT (LR.move rfl) rfl rfl rfl ?_
        refine PWl.guardT (LR.move rfl) rfl rfl rfl ?_
        refine PWl.guardT (LR.move rfl) rfl rfl rfl ?_
        replace h := iIdx h
        obtain ⟨x28, hy29, h⟩ := h
        refine PWl.guardT (LR.idxT (enc := TRun.e) (L := x1) (y := x28) Try.underlying34 Try.sizeOf114 rfl rfl hy29 (fun _ => rfl)) rfl rfl rfl ?_
        refine PWl.guardT (LR.loadEpAgg (ys := [_, _]) Try.isAgg114 Try.sizeOf114 rfl rfl rfl) rfl rfl rfl ?_
        refine PWl.guardT (LR.move rfl) rfl rfl rfl ?_
        replace h := iDet h
        obtain ⟨v30, hy31, h⟩ := h
        refine PWl.guardT (LR.callN (runs_Has_c1_ok x28 target2 v30 hy31) rfl Try.call142 rfl rfl rfl rfl) rfl rfl rfl ?_
        refine PWl.guardT (LR.eql rfl rfl) rfl rfl rfl ?_
        refine PWl.step (LR.pickT rfl rfl) rfl ?_
        refine PWl.step (LR.assign rfl) rfl ?_
        refine PWl.re (tl := [(6, _), (48, _)]) (to := []) rfl (.cons rfl rfl <| .cons rfl rfl <| .nil) (.nil) ?_
        refine PWl.step (LR.assign rfl) rfl ?_
        refine PWl.nil ?_
        exact ⟨(decide (v30 = 0)), (), h, Sub.of rfl (.cons rfl rfl <| .cons rfl rfl <| .nil) (.nil)⟩
      · replace h := iF hg27 h
        refine PWl.guardF rfl rfl rfl (by decide) ?_
        refine PWl.guardF rfl rfl rfl (by decide) ?_
        refine PWl.guardF rfl rfl rfl (by decide) ?_
        refine PWl.guardF rfl rfl rfl (by decide) ?_
        refine PWl.guardF rfl rfl rfl (by decide) ?_
        refine PWl.guardF rfl rfl rfl (by decide) ?_
        refine PWl.guardF rfl rfl rfl (by decide) ?_
        refine PWl.guardF rfl rfl rfl (by decide) ?_
        refine PWl.step (LR.pickF rfl rfl) rfl ?_
        refine PWl.step (LR.assign rfl) rfl ?_
        refine PWl.re (tl := [(6, _), (48, _)]) (to := []) rfl (.cons rfl rfl <| .cons rfl rfl <| .nil) (.nil) ?_
        refine PWl.step (LR.assign rfl) rfl ?_
        refine PWl.nil ?_
        exact ⟨false, (), h, Sub.of rfl (.cons rfl rfl <| .cons rfl rfl <| .nil) (.nil)⟩
    · rintro v26 _ h
      refine PWc.ret ?_
      replace h : _ = r0 := h
      subst h
      exact ⟨.inr rfl, _, .cons (.tmp rfl rfl) <| .cons (.tmp rfl rfl) <| .nil, rfl⟩

theorem runs_Has_ok (l1 : List TRun) (n2 : Int) (r0 : Bool) (h : (runs_Has l1 n2).wp (· = r0)) : PFun Try.prog 95 [.d (.sl (List.map TRun.e l1)), .d (.v (.int .u64 n2))] (.d (.v (.bool r0))) := by
  refine PFun.intro (sl := [(0, _), (1, _)]) Try.func95 rfl Try.ntmps95 rfl rfl ?_
  intro ctx hK
  refine PWc.seq ?_
  refine PWc.region ?_
  refine PWl.step (LR.assign rfl) rfl ?_
  refine PWl.nil ?_
  refine PWc.seq ?_
  refine PWc.region ?_
  refine PWl.step (LR.move rfl) rfl ?_
  replace h := iDet h
  obtain ⟨v3, hy4, h⟩ := h
  refine PWl.step (LR.rowN (runs_Norm_ok l1 v3 hy4) rfl Try.call138 rfl rfl rfl rfl) rfl ?_
  refine PWl.step (LR.assign rfl) rfl ?_
  refine PWl.nil ?_
  refine PWc.seq ?_
  refine PWc.region ?_
  refine PWl.step (LR.move rfl) rfl ?_
  refine PWl.step (LR.move rfl) rfl ?_
  replace h := iDet h
  obtain ⟨v5, hy6, h⟩ := h
  refine PWl.frz [0, 8, 10] hK (.cons rfl <| .cons rfl <| .cons rfl <| .nil) rfl (by simp) ?_
  refine PWl.step (LR.callN (slices_BinarySearchFunc_sl_Run_Run_uint64_runs_Has_c1_ok v3 n2 v5 hy6) rfl Try.call141 rfl rfl rfl rfl) rfl ?_
  refine PWl.step (LR.move rfl) rfl ?_
  refine PWl.step (LR.extract rfl rfl) rfl ?_
  refine PWl.step (LR.extract rfl rfl) rfl ?_
  refine PWl.step (LR.assign rfl) rfl ?_
  refine PWl.step (LR.assign rfl) rfl ?_
  refine PWl.nil ?_
  refine PWc.seq ?_
  refine PWc.jn (iBind h) (fun (v7 : Bool) (_ : Unit) => ⟨28, [(4, .d (.v (.bool v7)))], []⟩) (fun h => ?_) ?_
  · refine PWc.region ?_
    refine PWl.step (LR.move rfl) rfl ?_
    refine PWl.step (LR.move rfl) rfl ?_
    refine PWl.step (LR.lenMap (enc := TRun.e) (L := v3) Try.underlying34 rfl) rfl ?_
    refine PWl.step (LR.lss rfl rfl) rfl ?_
    refine PWl.step (LR.move rfl) rfl ?_
    refine PWl.split (d := 19) rfl (fun hg8 => ?_) (fun hg8 => ?_)
    · replace h := iT hg8 h
      refine PWl.guardT (LR.move rfl) rfl rfl rfl ?_
      refine PWl.re (tl := [(1, _), (4, _), (5, _), (19, _), (20, _)]) (to := []) rfl (.cons rfl rfl <| .cons rfl rfl <| .cons rfl rfl <| .cons rfl rfl <| .cons rfl rfl <| .nil) (.nil) ?_
      refine PWl.guardT (LR.move rfl) rfl rfl rfl ?_
      replace h := iIdx h
      obtain ⟨x9, hy10, h⟩ := h
      refine PWl.guardT (LR.idxT (enc := TRun.e) (L := v3) (y := x9) Try.underlying34 Try.sizeOf114 rfl rfl hy10 (fun _ => rfl)) rfl rfl rfl ?_
      refine PWl.guardT (LR.fieldEp Try.underlying114 rfl Try.sizeOf36 (by decide) rfl rfl) rfl rfl rfl ?_
      refine PWl.guardT (LR.loadEp Try.isAgg36 rfl rfl) rfl rfl rfl ?_
      refine PWl.guardT (LR.move rfl) rfl rfl rfl ?_
      refine PWl.guardT (LR.leq rfl rfl) rfl rfl rfl ?_
      refine PWl.step (LR.pickT rfl rfl) rfl ?_
      refine PWl.step (LR.assign rfl) rfl ?_
      refine PWl.nil ?_
      exact ⟨(decide (x9.lo ≤ n2)), (), h, Sub.of rfl (.cons rfl rfl <| .nil) (.nil)⟩
    · replace h := iF hg8 h
      refine PWl.guardF rfl rfl rfl (by decide) ?_
      refine PWl.re (tl := [(1, _), (4, _), (5, _), (19, _), (20, _)]) (to := []) rfl (.cons rfl rfl <| .cons rfl rfl <| .cons rfl rfl <| .cons rfl rfl <| .cons rfl rfl <| .nil) (.nil) ?_
      refine PWl.guardF rfl rfl rfl (by decide) ?_
      refine PWl.guardF rfl rfl rfl (by decide) ?_
      refine PWl.guardF rfl rfl rfl (by decide) ?_
      refine PWl.guardF rfl rfl rfl (by decide) ?_
      refine PWl.guardF rfl rfl rfl (by decide) ?_
      refine PWl.guardF rfl rfl rfl (by decide) ?_
      refine PWl.step (LR.pickF rfl rfl) rfl ?_
      refine PWl.step (LR.assign rfl) rfl ?_
      refine PWl.nil ?_
      exact ⟨false, (), h, Sub.of rfl (.cons rfl rfl <| .nil) (.nil)⟩
  · rintro v7 _ h
    refine PWc.ret ?_
    replace h : _ = r0 := h
    subst h
    exact ⟨.inr rfl, _, .cons (.tmp rfl rfl) <| .nil, rfl⟩

theorem ctx_Has_ok (c1 : List TPart) (d2 : TDot) (r0 : Bool) (h : (ctx_Has c1 d2).wp (· = r0)) : PFun Try.prog 45 [.d (.sl (List.map TPart.e c1)), .agg (List.map .d (TDot.e d2))] (.d (.v (.bool r0))) := by
  refine PFun.intro (sl := [(0, _), (1, _)]) Try.func45 rfl Try.ntmps45 rfl rfl ?_
  intro ctx hK
  refine PWc.seq ?_
  refine PWc.region ?_
  refine PWl.step (LR.box rfl rfl rfl rfl) rfl ?_
  refine PWl.step (LR.assign rfl) rfl ?_
  refine PWl.nil ?_
  refine PWc.seq ?_
  refine PWc.jn (iBind h) (fun (v3 : Bool) (_ : Unit) => ⟨17, [(4, .d (.v (.bool v3)))], []⟩) (fun h => ?_) ?_
  · refine PWc.regionD (by kernel_rfl) (by kernel_rfl) ?_
    refine PQl.step (fun _ he ho => LR.fieldRef Try.underlying38 rfl Try.sizeOf28 (by decide) rfl (he rfl rfl)) rfl ?_
    refine PQl.step (fun _ he ho => LR.loadRef Try.isAgg28 (he rfl rfl) (ho rfl) rfl) rfl ?_
    refine PQl.step (fun _ he ho => LR.gtr (he rfl rfl) (he rfl rfl)) rfl ?_
    refine PQl.step (fun _ he ho => LR.move (he rfl rfl)) rfl ?_
    refine PQl.split (d := 8) rfl (fun hg4 => ?_) (fun hg4 => ?_)
    · replace h := iT hg4 h
      refine PQl.guardT (fun _ he ho => LR.move (he rfl rfl)) rfl rfl rfl ?_
      refine PQl.guardT (fun _ he ho => LR.fieldRef Try.underlying38 rfl Try.sizeOf28 (by decide) rfl (he rfl rfl)) rfl rfl rfl ?_
      refine PQl.guardT (fun _ he ho => LR.loadRef Try.isAgg28 (he rfl rfl) (ho rfl) rfl) rfl rfl rfl ?_
      replace h := iDet h
      obtain ⟨v5, hy6, h⟩ := h
      refine PQl.guardT (fun _ he ho => LR.callN (PRow.fun (ctx_Runs_ok c1 d2.dev v5 hy6)) (he rfl rfl) Try.call92 (evsE he rfl rfl) rfl rfl rfl) rfl rfl rfl ?_
      refine PQl.guardT (fun _ he ho => LR.fieldRef Try.underlying38 rfl Try.sizeOf36 (by decide) rfl (he rfl rfl)) rfl rfl rfl ?_
      refine PQl.guardT (fun _ he ho => LR.loadRef Try.isAgg36 (he rfl rfl) (ho rfl) rfl) rfl rfl rfl ?_
      replace h := iDet h
      obtain ⟨v7, hy8, h⟩ := h
      refine PQl.guardT (fun _ he ho => LR.callN (runs_Has_ok v5 d2.n v7 hy8) (he rfl rfl) Try.call95 (evsE he rfl rfl) rfl rfl rfl) rfl rfl rfl ?_
      refine PQl.step (fun _ he ho => LR.pickT (he rfl rfl) (he rfl rfl)) rfl ?_
      refine PQl.step (fun _ he ho => LR.assign (he rfl rfl)) rfl ?_
      refine PQl.nil ?_
      exact ⟨v7, (), h, Sub.of rfl (.cons rfl rfl <| .nil) (.nil)⟩
    · replace h := iF hg4 h
      refine PQl.guardF rfl rfl rfl (by decide) ?_
      refine PQl.guardF rfl rfl rfl (by decide) ?_
      refine PQl.guardF rfl rfl rfl (by decide) ?_
      refine PQl.guardF rfl rfl rfl (by decide) ?_
      refine PQl.guardF rfl rfl rfl (by decide) ?_
      refine PQl.guardF rfl rfl rfl (by decide) ?_
      refine PQl.guardF rfl rfl rfl (by decide) ?_
      refine PQl.step (fun _ he ho => LR.pickF (he rfl rfl) (he rfl rfl)) rfl ?_
      refine PQl.step (fun _ he ho => LR.assign (he rfl rfl)) rfl ?_
      refine PQl.nil ?_
      exact ⟨false, (), h, Sub.of rfl (.cons rfl rfl <| .nil) (.nil)⟩
  · rintro v3 _ h
    refine PWc.ret ?_
    replace h : _ = r0 := h
    subst h
    exact ⟨.inr rfl, _, .cons (.tmp rfl rfl) <| .nil, rfl⟩

theorem cmp_isNaN_uint16_ok (x1 : Int) (r0 : Bool) (h : (cmp_isNaN_uint16 x1).wp (· = r0)) : PFun Try.prog 174 [.d (.v (.int .u16 x1))] (.d (.v (.bool r0))) := by
  refine PFun.intro (sl := [(0, _)]) Try.func174 rfl Try.ntmps174 rfl rfl ?_
  intro ctx hK
  refine PWc.seq ?_
  refine PWc.region ?_
  refine PWl.step (LR.assign rfl) rfl ?_
  refine PWl.nil ?_
  refine PWc.seq ?_
  refine PWc.region ?_
  refine PWl.step (LR.move rfl) rfl ?_
  refine PWl.step (LR.move rfl) rfl ?_
  refine PWl.step (LR.neq rfl rfl) rfl ?_
  refine PWl.step (LR.assign rfl) rfl ?_
  refine PWl.nil ?_
  refine PWc.ret ?_
  replace h : _ = r0 := h
  subst h
  exact ⟨.inr rfl, _, .cons (.tmp rfl rfl) <| .nil, rfl⟩

theorem cmp_Compare_uint16_ok (x1 : Int) (y2 : Int) (r0 : Int) (h : (cmp_Compare_uint16 x1 y2).wp (· = r0)) : PFun Try.prog 146 [.d (.v (.int .u16 x1)), .d (.v (.int .u16 y2))] (.d (.v (.int .i64 r0))) := by
  refine PFun.intro (sl := [(0, _), (1, _)]) Try.func146 rfl Try.ntmps146 rfl rfl ?_
  intro ctx hK
  refine PWc.seq ?_
  refine PWc.region ?_
  refine PWl.step (LR.assign rfl) rfl ?_
  refine PWl.nil ?_
  refine PWc.seq ?_
  refine PWc.region ?_
  refine PWl.step (LR.move rfl) rfl ?_
  replace h := iDet h
  obtain ⟨v3, hy4, h⟩ := h
  refine PWl.step (LR.callN (cmp_isNaN_uint16_ok x1 v3 hy4) rfl Try.call174 rfl rfl rfl rfl) rfl ?_
  refine PWl.step (LR.assign rfl) rfl ?_
  refine PWl.nil ?_
  refine PWc.seq ?_
  refine PWc.region ?_
  refine PWl.step (LR.move rfl) rfl ?_
  replace h := iDet h
  obtain ⟨v5, hy6, h⟩ := h
  refine PWl.step (LR.callN (cmp_isNaN_uint16_ok y2 v5 hy6) rfl Try.call174 rfl rfl rfl rfl) rfl ?_
  refine PWl.step (LR.assign rfl) rfl ?_
  refine PWl.nil ?_
  refine PWc.seq ?_
  refine PWc.seq ?_
  refine PWc.region ?_
  refine PWl.step (LR.move rfl) rfl ?_
  refine PWl.nil ?_
  refine PWc.cond rfl (fun hc7 => ?_) (fun hc7 => ?_)
  · replace h := iT hc7 h
    refine PWc.seq ?_
    refine PWc.seq ?_
    refine PWc.region ?_
    refine PWl.step (LR.move rfl) rfl ?_
    refine PWl.nil ?_
    refine PWc.cond rfl (fun hc8 => ?_) (fun hc8 => ?_)
    · replace h := iT hc8 h
      refine PWc.seq ?_
      refine PWc.region ?_
      refine PWl.step (LR.assign rfl) rfl ?_
      refine PWl.nil ?_
      refine PWc.ret ?_
      replace h : _ = r0 := h
      subst h
      exact ⟨.inr rfl, _, .cons (.tmp rfl rfl) <| .nil, rfl⟩
    · replace h := iF hc8 h
      refine PWc.skip ?_
      refine PWc.seq ?_
      refine PWc.region ?_
      refine PWl.step (LR.assign rfl) rfl ?_
      refine PWl.nil ?_
      refine PWc.ret ?_
      replace h : _ = r0 := h
      subst h
      exact ⟨.inr rfl, _, .cons (.tmp rfl rfl) <| .nil, rfl⟩
  · replace h := iF hc7 h
    refine PWc.skip ?_
    refine PWc.seq ?_
    refine PWc.seq ?_
    refine PWc.region ?_
    refine PWl.step (LR.move rfl) rfl ?_
    refine PWl.nil ?_
    refine PWc.cond rfl (fun hc9 => ?_) (fun hc9 => ?_)
    · replace h := iT hc9 h
      refine PWc.seq ?_
      refine PWc.region ?_
      refine PWl.step (LR.assign rfl) rfl ?_
      refine PWl.nil ?_
      refine PWc.ret ?_
      replace h : _ = r0 := h
      subst h
      exact ⟨.inr rfl, _, .cons (.tmp rfl rfl) <| .nil, rfl⟩
    · replace h := iF hc9 h
      refine PWc.skip ?_
      refine PWc.seq ?_
      refine PWc.seq ?_
      refine PWc.region ?_
      refine PWl.step (LR.move rfl) rfl ?_
      refine PWl.step (LR.move rfl) rfl ?_
      refine PWl.step (LR.lss rfl rfl) rfl ?_
      refine PWl.nil ?_
      refine PWc.cond rfl (fun hc10 => ?_) (fun hc10 => ?_)
      · replace h := iT hc10 h
        refine PWc.seq ?_
        refine PWc.region ?_
        refine PWl.step (LR.assign rfl) rfl ?_
        refine PWl.nil ?_
        refine PWc.ret ?_
        replace h : _ = r0 := h
        subst h
        exact ⟨.inr rfl, _, .cons (.tmp rfl rfl) <| .nil, rfl⟩
      · replace h := iF hc10 h
        refine PWc.skip ?_
        refine PWc.seq ?_
        refine PWc.seq ?_
        refine PWc.region ?_
        refine PWl.step (LR.move rfl) rfl ?_
        refine PWl.step (LR.move rfl) rfl ?_
        refine PWl.step (LR.gtr rfl rfl) rfl ?_
        refine PWl.nil ?_
        refine PWc.cond rfl (fun hc11 => ?_) (fun hc11 => ?_)
        · replace h := iT hc11 h
          refine PWc.seq ?_
          refine PWc.region ?_
          refine PWl.step (LR.assign rfl) rfl ?_
          refine PWl.nil ?_
          refine PWc.ret ?_
          replace h : _ = r0 := h
          subst h
          exact ⟨.inr rfl, _, .cons (.tmp rfl rfl) <| .nil, rfl⟩
        · replace h := iF hc11 h
          refine PWc.skip ?_
          refine PWc.seq ?_
          refine PWc.region ?_
          refine PWl.step (LR.assign rfl) rfl ?_
          refine PWl.nil ?_
          refine PWc.ret ?_
          replace h : _ = r0 := h
          subst h
          exact ⟨.inr rfl, _, .cons (.tmp rfl rfl) <| .nil, rfl⟩
end Go.Proofs

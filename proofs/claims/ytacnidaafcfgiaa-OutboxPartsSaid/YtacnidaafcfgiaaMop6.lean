/- Texts that the walks and laws lean on, side by side. -/
import Derived.Test.YtacnidaafcfgiaaMop2
import Derived.Test.YtacnidaafcfgiaaMop3
import Derived.Test.YtacnidaafcfgiaaMop4
import Derived.Test.YtacnidaafcfgiaaMop5
set_option linter.unusedVariables false
set_option linter.unusedSimpArgs false
namespace Go.Proofs
open Go.Ep
set_option maxHeartbeats 1000000
set_option maxRecDepth 100000
set_option linter.unusedVariables false
set_option linter.unusedSimpArgs false


theorem runs_Has_c1_ok (x1 : TRun) (n2 : Int) (r0 : Int) (h : (runs_Has_c1 x1 n2).wp (· = r0)) : PFun Try.prog 142 [.agg (List.map .d (TRun.e x1)), .d (.v (.int .u64 n2))] (.d (.v (.int .i64 r0))) := by
  refine PFun.intro (sl := [(0, _), (1, _)]) Try.func142 rfl Try.ntmps142 rfl rfl ?_
  intro ctx hK
  refine PWc.seq ?_
  refine PWc.region ?_
  refine PWl.step (LR.box rfl rfl rfl rfl) rfl ?_
  refine PWl.step (LR.assign rfl) rfl ?_
  refine PWl.nil ?_
  refine PWc.seq ?_
  refine PWc.region ?_
  refine PWl.step (LR.fieldRef Try.underlying114 rfl Try.sizeOf36 (by decide) rfl rfl) rfl ?_
  refine PWl.step (LR.loadRef Try.isAgg36 rfl rfl rfl) rfl ?_
  refine PWl.step (LR.move rfl) rfl ?_
  replace h := iDet h
  obtain ⟨v3, hy4, h⟩ := h
  refine PWl.step (LR.callN (cmp_Compare_uint64_ok x1.hi n2 v3 hy4) rfl Try.call143 rfl rfl rfl rfl) rfl ?_
  refine PWl.step (LR.assign rfl) rfl ?_
  refine PWl.nil ?_
  refine PWc.ret ?_
  replace h : _ = r0 := h
  subst h
  exact ⟨.inr rfl, _, .cons (.tmp rfl rfl) <| .nil, rfl⟩

theorem slices_BinarySearchFunc_sl_Run_Run_uint64_runs_Has_c1_ok (x1 : List TRun) (target2 : Int) (r0 : Int × Bool) (h : (slices_BinarySearchFunc_sl_Run_Run_uint64_runs_Has_c1 x1 target2).wp (· = r0)) : PFun Try.prog 141 [.d (.sl (List.map TRun.e x1)), .d (.v (.int .u64 target2)), .d (.v (.func (.func 142) #[] #[]))] (.tup [.d (.v (.int .i64 r0.1)), .d (.v (.bool r0.2))]) := by
  refine PFun.intro (sl := [(0, _), (1, _), (2, _)]) Try.func141 rfl Try.ntmps141 rfl rfl ?_
  intro ctx hK
  refine PWc.seq ?_
  refine PWc.region ?_
  refine PWl.step (LR.assign rfl) rfl ?_
  refine PWl.step (LR.assign rfl) rfl ?_
  refine PWl.nil ?_
  refine PWc.seq ?_
  refine PWc.region ?_
  refine PWl.step (LR.move rfl) rfl ?_
  refine PWl.step (LR.lenMap (enc := TRun.e) (L := x1) Try.underlying34 rfl) rfl ?_
  refine PWl.step (LR.assign rfl) rfl ?_
  refine PWl.nil ?_
  refine PWc.seq ?_
  refine PWc.region ?_
  refine PWl.step (LR.move rfl) rfl ?_
  refine PWl.step (LR.assign rfl) rfl ?_
  refine PWl.step (LR.assign rfl) rfl ?_
  refine PWl.nil ?_
  refine PWc.seq ?_
  refine PWc.jn (iBind h) (fun (i3 : Int) (_ : Unit) => ⟨49, [(0, .d (.sl (List.map TRun.e x1))), (1, .d (.v (.int .u64 target2))), (2, .d (.v (.func (.func 142) #[] #[]))), (8, .d (.v (.int .i64 (List.length x1 : Int)))), (9, .d (.v (.int .i64 i3)))], []⟩) (fun h => ?_) ?_
  · refine PWc.block ?_
    refine PWc.loopM (fun (⟨i18, j19⟩ : Int × Int) (_ : Unit) => ⟨49, [(0, .d (.sl (List.map TRun.e x1))), (1, .d (.v (.int .u64 target2))), (2, .d (.v (.func (.func 142) #[] #[]))), (8, .d (.v (.int .i64 (List.length x1 : Int)))), (9, .d (.v (.int .i64 i18))), (10, .d (.v (.int .i64 j19)))], []⟩) () h (Sub.of rfl (.cons rfl rfl <| .cons rfl rfl <| .cons rfl rfl <| .cons rfl rfl <| .cons rfl rfl <| .cons rfl rfl <| .nil) (.nil)) ?_
    rintro N ⟨i18, j19⟩ _ h
    refine PWc.seq ?_
    refine PWc.seq ?_
    refine PWc.region ?_
    refine PWl.step (LR.move rfl) rfl ?_
    refine PWl.step (LR.move rfl) rfl ?_
    refine PWl.step (LR.lss rfl rfl) rfl ?_
    refine PWl.nil ?_
    refine PWc.cond rfl (fun hc20 => ?_) (fun hc20 => ?_)
    · replace h := iT hc20 h
      refine PWc.skip ?_
      refine PWc.block ?_
      refine PWc.seq ?_
      refine PWc.region ?_
      refine PWl.step (LR.move rfl) rfl ?_
      refine PWl.step (LR.move rfl) rfl ?_
      refine PWl.step (LR.addW rfl rfl) rfl ?_
      refine PWl.step (LR.convInt Try.underlying184 (by rw [Try.underlying3]; rfl) rfl rfl) rfl ?_
      refine PWl.step (LR.shr rfl rfl (by decide) rfl) rfl ?_
      refine PWl.step (LR.convInt Try.underlying3 (by rw [Try.underlying184]; rfl) rfl rfl) rfl ?_
      refine PWl.step (LR.assign rfl) rfl ?_
      refine PWl.nil ?_
      refine PWc.seq ?_
      refine PWc.region ?_
      refine PWl.step (LR.move rfl) rfl ?_
      refine PWl.step (LR.move rfl) rfl ?_
      refine PWl.step (LR.move rfl) rfl ?_
      replace h := iIdx h
      obtain ⟨x21, hy22, h⟩ := h
      refine PWl.step (LR.idxT (enc := TRun.e) (L := x1) (y := x21) Try.underlying34 Try.sizeOf114 rfl rfl hy22 (fun _ => rfl)) rfl ?_
      refine PWl.step (LR.loadEpAgg (ys := [_, _]) Try.isAgg114 Try.sizeOf114 rfl rfl rfl) rfl ?_
      refine PWl.re (tl := [(0, _), (1, _), (2, _), (8, _), (9, _), (10, _), (11, _), (24, _), (28, _)]) (to := []) rfl (.cons rfl rfl <| .cons rfl rfl <| .cons rfl rfl <| .cons rfl rfl <| .cons rfl rfl <| .cons rfl rfl <| .cons rfl rfl <| .cons rfl rfl <| .cons rfl rfl <| .nil) (.nil) ?_
      refine PWl.step (LR.move rfl) rfl ?_
      replace h := iDet h
      obtain ⟨v23, hy24, h⟩ := h
      refine PWl.step (LR.callN (runs_Has_c1_ok x21 target2 v23 hy24) rfl Try.call142 rfl rfl rfl rfl) rfl ?_
      refine PWl.step (LR.lss rfl rfl) rfl ?_
      refine PWl.nil ?_
      refine PWc.cond rfl (fun hc25 => ?_) (fun hc25 => ?_)
      · replace h := iT hc25 h
        refine PWc.region ?_
        refine PWl.step (LR.move rfl) rfl ?_
        refine PWl.step (LR.addW rfl rfl) rfl ?_
        refine PWl.step (LR.assign rfl) rfl ?_
        refine PWl.nil ?_
        exact ⟨((IntKind.i64.wrap (((IntKind.i64.wrap ((Int.fdiv ((IntKind.u64.wrap (IntKind.i64.wrap (i18 + j19)))) (2 ^ 1))))) + 1)), j19), (), h, Sub.of rfl (.cons rfl rfl <| .cons rfl rfl <| .cons rfl rfl <| .cons rfl rfl <| .cons rfl rfl <| .cons rfl rfl <| .nil) (.nil)⟩
      · replace h := iF hc25 h
        refine PWc.region ?_
        refine PWl.step (LR.move rfl) rfl ?_
        refine PWl.step (LR.assign rfl) rfl ?_
        refine PWl.nil ?_
        exact ⟨(i18, (IntKind.i64.wrap ((Int.fdiv ((IntKind.u64.wrap (IntKind.i64.wrap (i18 + j19)))) (2 ^ 1))))), (), h, Sub.of rfl (.cons rfl rfl <| .cons rfl rfl <| .cons rfl rfl <| .cons rfl rfl <| .cons rfl rfl <| .cons rfl rfl <| .nil) (.nil)⟩
    · replace h := iF hc20 h
      refine PWc.exit ?_
      exact ⟨i18, (), h, Sub.of rfl (.cons rfl rfl <| .cons rfl rfl <| .cons rfl rfl <| .cons rfl rfl <| .cons rfl rfl <| .nil) (.nil)⟩
  · rintro i3 _ h
    refine PWc.seq ?_
    refine PWc.jn (iBind h) (fun (v26 : Bool) (_ : Unit) => ⟨49, [(6, .d (.v (.int .i64 i3))), (7, .d (.v (.bool v26)))], []⟩) (fun h => ?_) ?_
    · refine PWc.region ?_
      refine PWl.step (LR.move rfl) rfl ?_
      refine PWl.step (LR.move rfl) rfl ?_
      refine PWl.step (LR.move rfl) rfl ?_
      refine PWl.step (LR.lss rfl rfl) rfl ?_
      refine PWl.step (LR.move rfl) rfl ?_
      refine PWl.split (d := 39) rfl (fun hg27 => ?_) (fun hg27 => ?_)
      · replace h := iT hg27 h
        refine PWl.guardT (LR.move rfl) rfl rfl rfl ?_
        refine PWl.guardT (LR.move rfl) rfl rfl rfl ?_
        refine PWl.guardT (LR.move rfl) rfl rfl rfl ?_
        replace h := iIdx h
        obtain ⟨x28, hy29, h⟩ := h
        refine PWl.guardT (LR.idxT (enc := TRun.e) (L := x1) (y := x28) Try.underlying34 Try.sizeOf114 rfl rfl hy29 (fun _ => rfl)) rfl rfl rfl ?_
        refine PWl.guardT (LR.loadEpAgg (ys := [_, _]) Try.isAgg114 Try.sizeOf114 rfl rfl rfl) rfl rfl rfl ?_
        refine PWl.guardT (LR.move rfl) rfl rfl rfl ?_
        replace h := iDet h
        obtain ⟨v30, hy31, h⟩ := h
        refine PWl.guardT (LR.callN (runs_Has_c1_ok x28 target2 v30 hy31) rfl Try.call142 rfl rfl rfl rfl) rfl rfl rfl ?_
        refine PWl.guardT (LR.eql rfl rfl) rfl rfl rfl ?_
        refine PWl.step (LR.pickT rfl rfl) rfl ?_
        refine PWl.step (LR.assign rfl) rfl ?_
        refine PWl.re (tl := [(6, _), (48, _)]) (to := []) rfl (.cons rfl rfl <| .cons rfl rfl <| .nil) (.nil) ?_
        refine PWl.step (LR.assign rfl) rfl ?_
        refine PWl.nil ?_
        exact ⟨(decide (v30 = 0)), (), h, Sub.of rfl (.cons rfl rfl <| .cons rfl rfl <| .nil) (.nil)⟩
      · replace h := iF hg27 h
        refine PWl.guardF rfl rfl rfl (by decide) ?_
        refine PWl.guardF rfl rfl rfl (by decide) ?_
        refine PWl.guardF rfl rfl rfl (by decide) ?_
        refine PWl.guardF rfl rfl rfl (by decide) ?_
        refine PWl.guardF rfl rfl rfl (by decide) ?_
        refine PWl.guardF rfl rfl rfl (by decide) ?_
        refine PWl.guardF rfl rfl rfl (by decide) ?_
        refine PWl.guardF rfl rfl rfl (by decide) ?_
        refine PWl.step (LR.pickF rfl rfl) rfl ?_
        refine PWl.step (LR.assign rfl) rfl ?_
        refine PWl.re (tl := [(6, _), (48, _)]) (to := []) rfl (.cons rfl rfl <| .cons rfl rfl <| .nil) (.nil) ?_
        refine PWl.step (LR.assign rfl) rfl ?_
        refine PWl.nil ?_
        exact ⟨false, (), h, Sub.of rfl (.cons rfl rfl <| .cons rfl rfl <| .nil) (.nil)⟩
    · rintro v26 _ h
      refine PWc.ret ?_
      replace h : _ = r0 := h
      subst h
      exact ⟨.inr rfl, _, .cons (.tmp rfl rfl) <| .cons (.tmp rfl rfl) <| .nil, rfl⟩

theorem runs_Has_ok (l1 : List TRun) (n2 : Int) (r0 : Bool) (h : (runs_Has l1 n2).wp (· = r0)) : PFun Try.prog 95 [.d (.sl (List.map TRun.e l1)), .d (.v (.int .u64 n2))] (.d (.v (.bool r0))) := by
  refine PFun.intro (sl := [(0, _), (1, _)]) Try.func95 rfl Try.ntmps95 rfl rfl ?_
  intro ctx hK
  refine PWc.seq ?_
  refine PWc.region ?_
  refine PWl.step (LR.assign rfl) rfl ?_
  refine PWl.nil ?_
  refine PWc.seq ?_
  refine PWc.region ?_
  refine PWl.step (LR.move rfl) rfl ?_
  replace h := iDet h
  obtain ⟨v3, hy4, h⟩ := h
  refine PWl.step (LR.rowN (runs_Norm_ok l1 v3 hy4) rfl Try.call138 rfl rfl rfl rfl) rfl ?_
  refine PWl.step (LR.assign rfl) rfl ?_
  refine PWl.nil ?_
  refine PWc.seq ?_
  refine PWc.region ?_
  refine PWl.step (LR.move rfl) rfl ?_
  refine PWl.step (LR.move rfl) rfl ?_
  replace h := iDet h
  obtain ⟨v5, hy6, h⟩ := h
  refine PWl.frz [0, 8, 10] hK (.cons rfl <| .cons rfl <| .cons rfl <| .nil) rfl (by simp) ?_
  refine PWl.step (LR.callN (slices_BinarySearchFunc_sl_Run_Run_uint64_runs_Has_c1_ok v3 n2 v5 hy6) rfl Try.call141 rfl rfl rfl rfl) rfl ?_
  refine PWl.step (LR.move rfl) rfl ?_
  refine PWl.step (LR.extract rfl rfl) rfl ?_
  refine PWl.step (LR.extract rfl rfl) rfl ?_
  refine PWl.step (LR.assign rfl) rfl ?_
  refine PWl.step (LR.assign rfl) rfl ?_
  refine PWl.nil ?_
  refine PWc.seq ?_
  refine PWc.jn (iBind h) (fun (v7 : Bool) (_ : Unit) => ⟨28, [(4, .d (.v (.bool v7)))], []⟩) (fun h => ?_) ?_
  · refine PWc.region ?_
    refine PWl.step (LR.move rfl) rfl ?_
    refine PWl.step (LR.move rfl) rfl ?_
    refine PWl.step (LR.lenMap (enc := TRun.e) (L := v3) Try.underlying34 rfl) rfl ?_
    refine PWl.step (LR.lss rfl rfl) rfl ?_
    refine PWl.step (LR.move rfl) rfl ?_
    refine PWl.split (d := 19) rfl (fun hg8 => ?_) (fun hg8 => ?_)
    · replace h := iT hg8 h
      refine PWl.guardT (LR.move rfl) rfl rfl rfl ?_
      refine PWl.re (tl := [(1, _), (4, _), (5, _), (19, _), (20, _)]) (to := []) rfl (.cons rfl rfl <| .cons rfl rfl <| .cons rfl rfl <| .cons rfl rfl <| .cons rfl rfl <| .nil) (.nil) ?_
      refine PWl.guardT (LR.move rfl) rfl rfl rfl ?_
      replace h := iIdx h
      obtain ⟨x9, hy10, h⟩ := h
      refine PWl.guardT (LR.idxT (enc := TRun.e) (L := v3) (y := x9) Try.underlying34 Try.sizeOf114 rfl rfl hy10 (fun _ => rfl)) rfl rfl rfl ?_
      refine PWl.guardT (LR.fieldEp Try.underlying114 rfl Try.sizeOf36 (by decide) rfl rfl) rfl rfl rfl ?_
      refine PWl.guardT (LR.loadEp Try.isAgg36 rfl rfl) rfl rfl rfl ?_
      refine PWl.guardT (LR.move rfl) rfl rfl rfl ?_
      refine PWl.guardT (LR.leq rfl rfl) rfl rfl rfl ?_
      refine PWl.step (LR.pickT rfl rfl) rfl ?_
      refine PWl.step (LR.assign rfl) rfl ?_
      refine PWl.nil ?_
      exact ⟨(decide (x9.lo ≤ n2)), (), h, Sub.of rfl (.cons rfl rfl <| .nil) (.nil)⟩
    · replace h := iF hg8 h
      refine PWl.guardF rfl rfl rfl (by decide) ?_
      refine PWl.re (tl := [(1, _), (4, _), (5, _), (19, _), (20, _)]) (to := []) rfl (.cons rfl rfl <| .cons rfl rfl <| .cons rfl rfl <| .cons rfl rfl <| .cons rfl rfl <| .nil) (.nil) ?_
      refine PWl.guardF rfl rfl rfl (by decide) ?_
      refine PWl.guardF rfl rfl rfl (by decide) ?_
      refine PWl.guardF rfl rfl rfl (by decide) ?_
      refine PWl.guardF rfl rfl rfl (by decide) ?_
      refine PWl.guardF rfl rfl rfl (by decide) ?_
      refine PWl.guardF rfl rfl rfl (by decide) ?_
      refine PWl.step (LR.pickF rfl rfl) rfl ?_
      refine PWl.step (LR.assign rfl) rfl ?_
      refine PWl.nil ?_
      exact ⟨false, (), h, Sub.of rfl (.cons rfl rfl <| .nil) (.nil)⟩
  · rintro v7 _ h
    refine PWc.ret ?_
    replace h : _ = r0 := h
    subst h
    exact ⟨.inr rfl, _, .cons (.tmp rfl rfl) <| .nil, rfl⟩

theorem ctx_Has_ok (c1 : List TPart) (d2 : TDot) (r0 : Bool) (h : (ctx_Has c1 d2).wp (· = r0)) : PFun Try.prog 45 [.d (.sl (List.map TPart.e c1)), .agg (List.map .d (TDot.e d2))] (.d (.v (.bool r0))) := by
  refine PFun.intro (sl := [(0, _), (1, _)]) Try.func45 rfl Try.ntmps45 rfl rfl ?_
  intro ctx hK
  refine PWc.seq ?_
  refine PWc.region ?_
  refine PWl.step (LR.box rfl rfl rfl rfl) rfl ?_
  refine PWl.step (LR.assign rfl) rfl ?_
  refine PWl.nil ?_
  refine PWc.seq ?_
  refine PWc.jn (iBind h) (fun (v3 : Bool) (_ : Unit) => ⟨17, [(4, .d (.v (.bool v3)))], []⟩) (fun h => ?_) ?_
  · refine PWc.regionD (by kernel_rfl) (by kernel_rfl) ?_
    refine PQl.step (fun _ he ho => LR.fieldRef Try.underlying38 rfl Try.sizeOf28 (by decide) rfl (he rfl rfl)) rfl ?_
    refine PQl.step (fun _ he ho => LR.loadRef Try.isAgg28 (he rfl rfl) (ho rfl) rfl) rfl ?_
    refine PQl.step (fun _ he ho => LR.gtr (he rfl rfl) (he rfl rfl)) rfl ?_
    refine PQl.step (fun _ he ho => LR.move (he rfl rfl)) rfl ?_
    refine PQl.split (d := 8) rfl (fun hg4 => ?_) (fun hg4 => ?_)
    · replace h := iT hg4 h
      refine PQl.guardT (fun _ he ho => LR.move (he rfl rfl)) rfl rfl rfl ?_
      refine PQl.guardT (fun _ he ho => LR.fieldRef Try.underlying38 rfl Try.sizeOf28 (by decide) rfl (he rfl rfl)) rfl rfl rfl ?_
      refine PQl.guardT (fun _ he ho => LR.loadRef Try.isAgg28 (he rfl rfl) (ho rfl) rfl) rfl rfl rfl ?_
      replace h := iDet h
      obtain ⟨v5, hy6, h⟩ := h
      refine PQl.guardT (fun _ he ho => LR.callN (PRow.fun (ctx_Runs_ok c1 d2.dev v5 hy6)) (he rfl rfl) Try.call92 (evsE he rfl rfl) rfl rfl rfl) rfl rfl rfl ?_
      refine PQl.guardT (fun _ he ho => LR.fieldRef Try.underlying38 rfl Try.sizeOf36 (by decide) rfl (he rfl rfl)) rfl rfl rfl ?_
      refine PQl.guardT (fun _ he ho => LR.loadRef Try.isAgg36 (he rfl rfl) (ho rfl) rfl) rfl rfl rfl ?_
      replace h := iDet h
      obtain ⟨v7, hy8, h⟩ := h
      refine PQl.guardT (fun _ he ho => LR.callN (runs_Has_ok v5 d2.n v7 hy8) (he rfl rfl) Try.call95 (evsE he rfl rfl) rfl rfl rfl) rfl rfl rfl ?_
      refine PQl.step (fun _ he ho => LR.pickT (he rfl rfl) (he rfl rfl)) rfl ?_
      refine PQl.step (fun _ he ho => LR.assign (he rfl rfl)) rfl ?_
      refine PQl.nil ?_
      exact ⟨v7, (), h, Sub.of rfl (.cons rfl rfl <| .nil) (.nil)⟩
    · replace h := iF hg4 h
      refine PQl.guardF rfl rfl rfl (by decide) ?_
      refine PQl.guardF rfl rfl rfl (by decide) ?_
      refine PQl.guardF rfl rfl rfl (by decide) ?_
      refine PQl.guardF rfl rfl rfl (by decide) ?_
      refine PQl.guardF rfl rfl rfl (by decide) ?_
      refine PQl.guardF rfl rfl rfl (by decide) ?_
      refine PQl.guardF rfl rfl rfl (by decide) ?_
      refine PQl.step (fun _ he ho => LR.pickF (he rfl rfl) (he rfl rfl)) rfl ?_
      refine PQl.step (fun _ he ho => LR.assign (he rfl rfl)) rfl ?_
      refine PQl.nil ?_
      exact ⟨false, (), h, Sub.of rfl (.cons rfl rfl <| .nil) (.nil)⟩
  · rintro v3 _ h
    refine PWc.ret ?_
    replace h : _ = r0 := h
    subst h
    exact ⟨.inr rfl, _, .cons (.tmp rfl rfl) <| .nil, rfl⟩

end Go.Proofs

namespace Go.Proofs
open Go.Ep
set_option maxHeartbeats 1000000
set_option maxRecDepth 100000
set_option linter.unusedVariables false
set_option linter.unusedSimpArgs false


theorem slices_Compact_sl_Dot_Dot_o_ok (row1 : List TDot) (r0 : List TDot) (h : (slices_Compact_sl_Dot_Dot_o row1).wp (· = r0)) : PObj Try.prog 129 [.row 100 (List.length row1)] [(100, .row 38 2 (List.map TDot.e row1))] [] (.row 100 (List.length r0)) (fun _ : Unit => [(100, .row 38 2 (List.map TDot.e r0))]) := by
  refine PObj.intro (sl := [(0, _)]) Try.func129 rfl Try.ntmps129 rfl rfl rfl ?_
  intro ctx hK pv
  refine PWc.seq ?_
  refine PWc.region ?_
  refine PWl.step (LR.assignNilRow 38 2 rfl) rfl ?_
  refine PWl.nil ?_
  refine PWc.seq ?_
  refine PWc.seq ?_
  refine PWc.region ?_
  refine PWl.step (LR.move rfl) rfl ?_
  refine PWl.step (LR.lenRow Try.underlying39 rfl) rfl ?_
  refine PWl.step (LR.lss rfl rfl) rfl ?_
  refine PWl.nil ?_
  refine PWc.cond rfl (fun hc2 => ?_) (fun hc2 => ?_)
  · replace h := iT hc2 h
    refine PWc.seq ?_
    refine PWc.region ?_
    refine PWl.step (LR.move rfl) rfl ?_
    refine PWl.re (tl := [(0, _), (6, _), (7, _), (8, _), (9, _)]) (to := [(100, _)]) rfl (.cons rfl rfl <| .cons rfl rfl <| .cons rfl rfl <| .cons rfl rfl <| .cons rfl rfl <| .nil) (.cons rfl rfl <| .nil) ?_
    refine PWl.step (LR.assign rfl) rfl ?_
    refine PWl.nil ?_
    refine PWc.ret ?_
    replace h : _ = r0 := h
    subst h
    exact EndsO.mk () (.inr rfl) (Sub.of (tl := [(2, _)]) (to := [(100, _)]) rfl (.cons rfl (by first | rfl | (simp; done) | (congr 1; first | (simp; done) | (simp; omega))) <| .nil) (.cons rfl rfl <| .nil)) (.cons (.tmp rfl) <| .nil) rfl rfl
  · replace h := iF hc2 h
    refine PWc.skip ?_
    refine PWc.seq ?_
    refine PWc.seq ?_
    refine PWc.region ?_
    refine PWl.step (LR.assign rfl) rfl ?_
    refine PWl.nil ?_
    refine PWc.jnX (iBind h) (fun (_ : Unit) (_ : Unit) => ⟨61, [(0, .row 100 (List.length row1))], [(100, .row 38 2 (List.map TDot.e row1))]⟩) (fun h => ?_) ?_
    · refine PWc.block ?_
      refine PWc.loopM (fun (k148 : Int) (_ : Unit) => ⟨61, [(0, .row 100 (List.length row1)), (3, .d (.v (.int .i64 k148)))], [(100, .row 38 2 (List.map TDot.e row1))]⟩) () h (Sub.of rfl (.cons rfl rfl <| .cons rfl rfl <| .nil) (.cons rfl rfl <| .nil)) ?_
      rintro N k148 _ h
      refine PWc.seq ?_
      refine PWc.seq ?_
      refine PWc.region ?_
      refine PWl.step (LR.move rfl) rfl ?_
      refine PWl.step (LR.move rfl) rfl ?_
      refine PWl.step (LR.lenRow Try.underlying39 rfl) rfl ?_
      refine PWl.step (LR.lss rfl rfl) rfl ?_
      refine PWl.nil ?_
      refine PWc.cond rfl (fun hc149 => ?_) (fun hc149 => ?_)
      · replace h := iT hc149 h
        refine PWc.skip ?_
        refine PWc.seq ?_
        refine PWc.jnX (iBind h) (fun (_ : Unit) (_ : Unit) => ⟨61, [(0, .row 100 (List.length row1)), (3, .d (.v (.int .i64 k148)))], [(100, .row 38 2 (List.map TDot.e row1))]⟩) (fun h => ?_) ?_
        · refine PWc.block ?_
          refine PWc.seq ?_
          refine PWc.regionD (by kernel_rfl) (by kernel_rfl) ?_
          refine PQl.step (fun _ he ho => LR.move (he rfl rfl)) rfl ?_
          refine PQl.step (fun _ he ho => LR.move (he rfl rfl)) rfl ?_
          replace h := iIdx h
          obtain ⟨x150, hy151, h⟩ := h
          refine PQl.step (fun _ he ho => LR.idxRowT (L := row1) (y := x150) Try.underlying39 Try.sizeOf38 (he rfl rfl) rfl (he rfl rfl) hy151) rfl ?_
          refine PQl.step (fun _ he ho => LR.loadRpT (enc := TDot.e) (L := row1) (y := x150) Try.isAgg38 Try.sizeOf38 (he rfl rfl) (ho rfl) hy151.2) rfl ?_
          refine PQl.step (fun _ he ho => LR.move (he rfl rfl)) rfl ?_
          refine PQl.step (fun _ he ho => LR.move (he rfl rfl)) rfl ?_
          refine PQl.step (fun _ he ho => LR.subW (he rfl rfl) (he rfl rfl)) rfl ?_
          replace h := iIdx h
          obtain ⟨x152, hy153, h⟩ := h
          refine PQl.step (fun _ he ho => LR.idxRowT (L := row1) (y := x152) Try.underlying39 Try.sizeOf38 (he rfl rfl) rfl (he rfl rfl) hy153) rfl ?_
          refine PQl.step (fun _ he ho => LR.loadRpT (enc := TDot.e) (L := row1) (y := x152) Try.isAgg38 Try.sizeOf38 (he rfl rfl) (ho rfl) hy153.2) rfl ?_
          refine PQl.step (fun _ he ho => LR.eqlAgg (he rfl rfl) (he rfl rfl) rfl rfl eq38) rfl ?_
          refine PQl.nil ?_
          refine PWc.cond rfl (fun hc154 => ?_) (fun hc154 => ?_)
          · replace h := iT hc154 h
            refine PWc.seq ?_
            refine PWc.region ?_
            refine PWl.step (LR.move rfl) rfl ?_
            refine PWl.step (LR.move rfl) rfl ?_
            replace h := iNeed h
            obtain ⟨hy155, h⟩ := h
            refine PWl.step (LR.pieceRowT (enc := TDot.e) (L := row1) Try.underlying39 Try.sizeOf38 rfl rfl rfl rfl hy155) rfl ?_
            refine PWl.step (LR.assign rfl) rfl ?_
            refine PWl.nil ?_
            refine PWc.seq ?_
            refine PWc.seq ?_
            refine PWc.region ?_
            refine PWl.step (LR.assign rfl) rfl ?_
            refine PWl.nil ?_
            refine PWc.jn (iBind h) (fun (⟨k156, v157⟩ : Int × List TDot) (_ : Unit) => ⟨61, [(0, .row 100 (List.length v157)), (3, .d (.v (.int .i64 k156)))], [(100, .row 38 2 (List.map TDot.e v157))]⟩) (fun h => ?_) ?_
            · refine PWc.block ?_
              refine PWc.loopM (fun (⟨k197, k2_198, v199⟩ : Int × Int × List TDot) (_ : Unit) => ⟨61, [(0, .row 100 (List.length v199)), (3, .d (.v (.int .i64 k197))), (4, .pc 100 (Int.toNat k148) (List.length row1 - Int.toNat k148) 2), (5, .d (.v (.int .i64 k2_198)))], [(100, .row 38 2 (List.map TDot.e v199))]⟩) () h (Sub.of rfl (.cons rfl rfl <| .cons rfl rfl <| .cons rfl rfl <| .cons rfl rfl <| .nil) (.cons rfl rfl <| .nil)) ?_
              rintro N ⟨k197, k2_198, v199⟩ _ h
              refine PWc.seq ?_
              refine PWc.seq ?_
              refine PWc.region ?_
              refine PWl.step (LR.move rfl) rfl ?_
              refine PWl.step (LR.move rfl) rfl ?_
              refine PWl.step (LR.lenPc Try.underlying39 rfl) rfl ?_
              refine PWl.step (LR.lss rfl rfl) rfl ?_
              refine PWl.nil ?_
              refine PWc.cond rfl (fun hc200 => ?_) (fun hc200 => ?_)
              · replace h := iT hc200 h
                refine PWc.skip ?_
                refine PWc.seq ?_
                refine PWc.jn (iBind h) (fun (⟨k201, v202⟩ : Int × List TDot) (_ : Unit) => ⟨61, [(0, .row 100 (List.length v202)), (3, .d (.v (.int .i64 k201))), (4, .pc 100 (Int.toNat k148) (List.length row1 - Int.toNat k148) 2), (5, .d (.v (.int .i64 k2_198)))], [(100, .row 38 2 (List.map TDot.e v202))]⟩) (fun h => ?_) ?_
                · refine PWc.block ?_
                  refine PWc.seq ?_
                  refine PWc.regionD (by kernel_rfl) (by kernel_rfl) ?_
                  refine PQl.step (fun _ he ho => LR.move (he rfl rfl)) rfl ?_
                  refine PQl.step (fun _ he ho => LR.move (he rfl rfl)) rfl ?_
                  replace h := iNeed h
                  obtain ⟨hy205, h⟩ := h
                  replace h := iIdx h
                  obtain ⟨x203, hy204, h⟩ := h
                  have hy206 : True ∧ v199[((Int.toNat k148) + Int.toNat k2_198)]? = some x203 := ⟨trivial, hy204.2⟩
                  refine PQl.step (fun _ he ho => LR.idxPc Try.underlying39 Try.sizeOf38 (he rfl rfl) (he rfl rfl) hy205) rfl ?_
                  refine PQl.step (fun _ he ho => LR.loadRpT (enc := TDot.e) (L := v199) (y := x203) Try.isAgg38 Try.sizeOf38 (he rfl rfl) (ho rfl) hy206.2) rfl ?_
                  refine PQl.step (fun _ he ho => LR.move (he rfl rfl)) rfl ?_
                  refine PQl.step (fun _ he ho => LR.move (he rfl rfl)) rfl ?_
                  refine PQl.step (fun _ he ho => LR.subW (he rfl rfl) (he rfl rfl)) rfl ?_
                  replace h := iNeed h
                  obtain ⟨hy209, h⟩ := h
                  replace h := iIdx h
                  obtain ⟨x207, hy208, h⟩ := h
                  have hy210 : True ∧ v199[((Int.toNat k148) + Int.toNat (IntKind.i64.wrap (k2_198 - 1)))]? = some x207 := ⟨trivial, hy208.2⟩
                  refine PQl.step (fun _ he ho => LR.idxPc Try.underlying39 Try.sizeOf38 (he rfl rfl) (he rfl rfl) hy209) rfl ?_
                  refine PQl.step (fun _ he ho => LR.loadRpT (enc := TDot.e) (L := v199) (y := x207) Try.isAgg38 Try.sizeOf38 (he rfl rfl) (ho rfl) hy210.2) rfl ?_
                  refine PQl.step (fun _ he ho => LR.neqAgg (he rfl rfl) (he rfl rfl) rfl rfl eq38) rfl ?_
                  refine PQl.nil ?_
                  refine PWc.cond rfl (fun hc211 => ?_) (fun hc211 => ?_)
                  · replace h := iT hc211 h
                    refine PWc.seq ?_
                    refine PWc.region ?_
                    refine PWl.step (LR.move rfl) rfl ?_
                    refine PWl.step (LR.move rfl) rfl ?_
                    refine PWl.step (LR.move rfl) rfl ?_
                    refine PWl.re (tl := [(0, _), (3, _), (4, _), (5, _), (45, _), (46, _), (47, _)]) (to := [(100, _)]) rfl (.cons rfl rfl <| .cons rfl rfl <| .cons rfl rfl <| .cons rfl rfl <| .cons rfl rfl <| .cons rfl rfl <| .cons rfl rfl <| .nil) (.cons rfl rfl <| .nil) ?_
                    refine PWl.step (LR.move rfl) rfl ?_
                    replace h := iNeed h
                    obtain ⟨hy214, h⟩ := h
                    replace h := iIdx h
                    obtain ⟨x212, hy213, h⟩ := h
                    have hy215 : True ∧ v199[((Int.toNat k148) + Int.toNat k2_198)]? = some x212 := ⟨trivial, hy213.2⟩
                    refine PWl.step (LR.idxPc Try.underlying39 Try.sizeOf38 rfl rfl hy214) rfl ?_
                    refine PWl.step (LR.loadRpT (enc := TDot.e) (L := v199) (y := x212) Try.isAgg38 Try.sizeOf38 rfl rfl hy215.2) rfl ?_
                    replace h := iIdx h
                    obtain ⟨x216, hy217, h⟩ := h
                    refine PWl.step (LR.idxRowT (L := v199) (y := x216) Try.underlying39 Try.sizeOf38 rfl rfl rfl hy217) rfl ?_
                    refine PWl.step (LR.storeRpT (enc := TDot.e) (L := v199) (a := x216) (b := x212) Try.sizeOf38 rfl rfl rfl rfl rfl hy217.2 rfl rfl) rfl ?_
                    refine PWl.nil ?_
                    refine PWc.region ?_
                    refine PWl.step (LR.move rfl) rfl ?_
                    refine PWl.step (LR.addW rfl rfl) rfl ?_
                    refine PWl.step (LR.assign rfl) rfl ?_
                    refine PWl.nil ?_
                    exact ⟨((IntKind.i64.wrap (k197 + 1)), (List.set v199 (Int.toNat k197) x212)), (), h, Sub.of rfl (.cons rfl (by first | rfl | (simp; done) | (congr 1; first | (simp; done) | (simp; omega))) <| .cons rfl rfl <| .cons rfl rfl <| .cons rfl rfl <| .nil) (.cons rfl rfl <| .nil)⟩
                  · replace h := iF hc211 h
                    refine PWc.skip ?_
                    exact ⟨(k197, v199), (), h, Sub.of rfl (.cons rfl rfl <| .cons rfl rfl <| .cons rfl rfl <| .cons rfl rfl <| .nil) (.cons rfl rfl <| .nil)⟩
                · rintro ⟨k201, v202⟩ _ h
                  refine PWc.region ?_
                  refine PWl.step (LR.move rfl) rfl ?_
                  refine PWl.step (LR.addW rfl rfl) rfl ?_
                  refine PWl.step (LR.assign rfl) rfl ?_
                  refine PWl.nil ?_
                  exact ⟨(k201, (IntKind.i64.wrap (k2_198 + 1)), v202), (), h, Sub.of rfl (.cons rfl rfl <| .cons rfl rfl <| .cons rfl rfl <| .cons rfl rfl <| .nil) (.cons rfl rfl <| .nil)⟩
              · replace h := iF hc200 h
                refine PWc.exit ?_
                exact ⟨(k197, v199), (), h, Sub.of rfl (.cons rfl rfl <| .cons rfl rfl <| .nil) (.cons rfl rfl <| .nil)⟩
            · rintro ⟨k156, v157⟩ _ h
              refine PWc.seq ?_
              refine PWc.region ?_
              refine PWl.step (LR.move rfl) rfl ?_
              refine PWl.step (LR.move rfl) rfl ?_
              replace h := iNeed h
              obtain ⟨hy218, h⟩ := h
              refine PWl.step (LR.pieceRowT (enc := TDot.e) (L := v157) Try.underlying39 Try.sizeOf38 rfl rfl rfl rfl hy218) rfl ?_
              replace h := iNeed h
              obtain ⟨hy219, h⟩ := h
              refine PWl.step (LR.clearPcT (enc := TDot.e) (L := v157) (z := (⟨0, 0⟩ : TDot)) Try.underlying39 rfl rfl Try.zeroValue38 rfl rfl rfl rfl hy219 rfl) rfl ?_
              refine PWl.nil ?_
              refine PWc.seq ?_
              refine PWc.region ?_
              refine PWl.step (LR.move rfl) rfl ?_
              refine PWl.step (LR.move rfl) rfl ?_
              replace h := iNeed h
              obtain ⟨hy220, h⟩ := h
              refine PWl.step (LR.cutRowT (enc := TDot.e) (L := (List.take (Int.toNat k156) v157 ++ List.replicate (List.length v157 - Int.toNat k156) (⟨0, 0⟩ : TDot) ++ List.drop ((Int.toNat k156) + (List.length v157 - Int.toNat k156)) v157)) [0, 54, 56, 57] Try.underlying39 Try.sizeOf38 rfl (by first | (simp; done) | (simp; omega) | omega) rfl rfl hy220 rfl) rfl ?_
              refine PWl.step (LR.assign rfl) rfl ?_
              refine PWl.nil ?_
              refine PWc.ret ?_
              replace h : _ = r0 := h
              subst h
              exact EndsO.mk () (.inr rfl) (Sub.of (tl := [(2, _)]) (to := [(100, _)]) rfl (.cons rfl (by first | rfl | (simp; done) | (congr 1; first | (simp; done) | (simp; omega))) <| .nil) (.cons rfl rfl <| .nil)) (.cons (.tmp rfl) <| .nil) rfl rfl
          · replace h := iF hc154 h
            refine PWc.skip ?_
            exact ⟨(), (), h, Sub.of rfl (.cons rfl rfl <| .cons rfl rfl <| .nil) (.cons rfl rfl <| .nil)⟩
        · rintro _ _ h
          refine PWc.region ?_
          refine PWl.step (LR.move rfl) rfl ?_
          refine PWl.step (LR.addW rfl rfl) rfl ?_
          refine PWl.step (LR.assign rfl) rfl ?_
          refine PWl.nil ?_
          exact ⟨(IntKind.i64.wrap (k148 + 1)), (), h, Sub.of rfl (.cons rfl rfl <| .cons rfl rfl <| .nil) (.cons rfl rfl <| .nil)⟩
      · replace h := iF hc149 h
        refine PWc.exit ?_
        exact ⟨(), (), h, Sub.of rfl (.cons rfl rfl <| .nil) (.cons rfl rfl <| .nil)⟩
    · rintro _ _ h
      refine PWc.seq ?_
      refine PWc.region ?_
      refine PWl.step (LR.move rfl) rfl ?_
      refine PWl.step (LR.assign rfl) rfl ?_
      refine PWl.nil ?_
      refine PWc.ret ?_
      replace h : _ = r0 := h
      subst h
      exact EndsO.mk () (.inr rfl) (Sub.of (tl := [(2, _)]) (to := [(100, _)]) rfl (.cons rfl (by first | rfl | (simp; done) | (congr 1; first | (simp; done) | (simp; omega))) <| .nil) (.cons rfl rfl <| .nil)) (.cons (.tmp rfl) <| .nil) rfl rfl

theorem dot_Sort_ok (l1 : List TDot) (r0 : List TDot) (h : (dot_Sort l1).wp (· = r0)) : PRow Try.prog 83 [.d (.sl (List.map TDot.e l1))] 38 2 (List.map TDot.e r0) := by
  refine PRow.intro (sl := [(0, _)]) Try.func83 rfl Try.ntmps83 rfl rfl ?_
  intro ctx hK
  refine PWc.seq ?_
  refine PWc.region ?_
  refine PWl.step (LR.assignNilRow 38 2 rfl) rfl ?_
  refine PWl.nil ?_
  refine PWc.seq ?_
  refine PWc.region ?_
  refine PWl.step (LR.move rfl) rfl ?_
  replace h := iDet h
  obtain ⟨v2, hy3, h⟩ := h
  refine PWl.step (LR.rowN (slices_Clone_sl_Dot_Dot_ok l1 v2 hy3) rfl Try.call121 rfl rfl rfl rfl) rfl ?_
  refine PWl.step (LR.assign rfl) rfl ?_
  refine PWl.nil ?_
  refine PWc.seq ?_
  refine PWc.region ?_
  refine PWl.step (LR.move rfl) rfl ?_
  replace h := iNeed h
  obtain ⟨hy5, h⟩ := h
  refine PWl.sortFn (encD := TDot.e) (enc := TDot.v) (l := v2) srt128_107 (fun _ => rfl) TDot.v1 (fun _ => rfl) rfl Try.call128 rfl rfl rfl (by simp) hy5 rfl (fun s4 hy6 hy7 => ?_)
  replace h := iSrt h s4 hy6 hy7
  have hy6l := hy6.length_eq
  refine PWl.nil ?_
  refine PWc.seq ?_
  refine PWc.region ?_
  refine PWl.step (LR.move rfl) rfl ?_
  replace h := iDet h
  obtain ⟨y8, hy9, h⟩ := h
  refine PWl.step (LR.callObj [(100, 5)] [3, 5, 6, 8] [100] (slices_Compact_sl_Dot_Dot_o_ok s4 y8 hy9) hK rfl Try.call129 rfl (by first | rfl | (simp; done) | (simp [PV.nilD, PV.ren, rn]; omega)) (.cons (by first | rfl | (congr 1; first | (simp; done) | (simp; omega))) <| .nil) rfl rfl rfl rfl) rfl ?_
  refine PWl.re (tl := [(0, _), (4, _), (7, _), (9, _)]) (to := [(5, _)]) rfl (.cons rfl rfl <| .cons rfl rfl <| .cons rfl rfl <| .cons rfl rfl <| .nil) (.cons rfl rfl <| .nil) ?_
  refine PWl.step (LR.assign rfl) rfl ?_
  refine PWl.nil ?_
  refine PWc.ret ?_
  replace h : _ = r0 := h
  subst h
  exact ⟨.inr rfl, 2, rfl, .inr ⟨5, _, rfl, (by simp), rfl⟩⟩

theorem kills_part_ok (l1 : List TDot) (c2 : List TPart) (has3 : Bool) (r0 : List TDot) (h : (kills_part l1 c2 has3).wp (· = r0)) : PRow Try.prog 122 [.d (.sl (List.map TDot.e l1)), .d (.sl (List.map TPart.e c2)), .d (.v (.bool has3))] 38 2 (List.map TDot.e r0) := by
  refine PRow.intro (sl := [(0, _), (1, _), (2, _)]) Try.func122 rfl Try.ntmps122 rfl rfl ?_
  intro ctx hK
  refine PWc.seq ?_
  refine PWc.region ?_
  refine PWl.step (LR.assignNilRow 38 2 rfl) rfl ?_
  refine PWl.nil ?_
  refine PWc.seq ?_
  refine PWc.region ?_
  refine PWl.step (LR.assignNilRow 38 2 rfl) rfl ?_
  refine PWl.nil ?_
  refine PWc.seq ?_
  refine PWc.seq ?_
  refine PWc.region ?_
  refine PWl.step (LR.move rfl) rfl ?_
  refine PWl.step (LR.lenMap (enc := TDot.e) (L := l1) Try.underlying39 rfl) rfl ?_
  refine PWl.step (LR.move rfl) rfl ?_
  refine PWl.nil ?_
  refine PWc.jn (iBind h) (fun (out4 : List TDot) (_ : Unit) => ⟨28, [(7, .row 7 (List.length out4))], [(7, .row 38 2 (List.map TDot.e out4))]⟩) (fun h => ?_) ?_
  · refine PWc.block ?_
    refine PWc.loopM (fun (⟨v23, out24⟩ : Int × List TDot) (_ : Unit) => ⟨28, [(1, .d (.sl (List.map TPart.e c2))), (2, .d (.v (.bool has3))), (7, .row 7 (List.length out24)), (10, .d (.sl (List.map TDot.e l1))), (11, .d (.v (.int .i64 (List.length l1 : Int)))), (12, .d (.v (.int .i64 v23)))], [(7, .row 38 2 (List.map TDot.e out24))]⟩) () h (Sub.of rfl (.cons rfl rfl <| .cons rfl rfl <| .cons rfl rfl <| .cons rfl rfl <| .cons rfl rfl <| .cons rfl rfl <| .nil) (.cons rfl rfl <| .nil)) ?_
    rintro N ⟨v23, out24⟩ _ h
    refine PWc.seq ?_
    refine PWc.region ?_
    refine PWl.step (LR.lss rfl rfl) rfl ?_
    refine PWl.nil ?_
    refine PWc.seq ?_
    refine PWc.cond rfl (fun hc25 => ?_) (fun hc25 => ?_)
    · replace h := iT hc25 h
      refine PWc.skip ?_
      refine PWc.seq ?_
      refine PWc.jn (iBind h) (fun (out26 : List TDot) (_ : Unit) => ⟨28, [(1, .d (.sl (List.map TPart.e c2))), (2, .d (.v (.bool has3))), (7, .row 7 (List.length out26)), (10, .d (.sl (List.map TDot.e l1))), (11, .d (.v (.int .i64 (List.length l1 : Int)))), (12, .d (.v (.int .i64 v23)))], [(7, .row 38 2 (List.map TDot.e out26))]⟩) (fun h => ?_) ?_
      · refine PWc.block ?_
        refine PWc.seq ?_
        refine PWc.region ?_
        replace h := iIdx h
        obtain ⟨x27, hy28, h⟩ := h
        refine PWl.step (LR.idxT (enc := TDot.e) (L := l1) (y := x27) Try.underlying39 Try.sizeOf38 rfl rfl hy28 (fun _ => rfl)) rfl ?_
        refine PWl.step (LR.loadEpAgg (ys := [_, _]) Try.isAgg38 Try.sizeOf38 rfl rfl rfl) rfl ?_
        refine PWl.step (LR.allocZ (cs := [_, _]) Try.zeroValue38 rfl rfl rfl rfl) rfl ?_
        refine PWl.step (LR.storeB (ns := [_, _]) Try.sizeOf38 rfl rfl rfl rfl rfl rfl rfl) rfl ?_
        refine PWl.nil ?_
        refine PWc.seq ?_
        refine PWc.region ?_
        refine PWl.step (LR.move rfl) rfl ?_
        refine PWl.step (LR.loadRefAgg (ps := [_, _]) Try.isAgg38 Try.sizeOf38 rfl rfl rfl rfl) rfl ?_
        replace h := iDet h
        obtain ⟨v29, hy30, h⟩ := h
        refine PWl.step (LR.callN (ctx_Has_ok c2 x27 v29 hy30) rfl Try.call45 rfl rfl rfl rfl) rfl ?_
        refine PWl.step (LR.move rfl) rfl ?_
        refine PWl.step (LR.eqlBool Try.underlying4 rfl rfl) rfl ?_
        refine PWl.nil ?_
        refine PWc.cond rfl (fun hc31 => ?_) (fun hc31 => ?_)
        · replace h := iT hc31 h
          refine PWc.region ?_
          refine PWl.step (LR.move rfl) rfl ?_
          refine PWl.step (LR.loadRefAgg (ps := [_, _]) Try.isAgg38 Try.sizeOf38 rfl rfl rfl rfl) rfl ?_
          refine PWl.step (LR.buildSliceD [.tmp 22] elem39 rfl rfl (.cons rfl rfl rfl <| .nil) (by decide) (by decide)) rfl ?_
          replace h := iNeed h
          obtain ⟨hy32, h⟩ := h
          refine PWl.step (LR.appT (enc := TDot.e) (L := out24) (R := [x27]) [7, 21] elem39 Try.underlying39 rfl rfl rfl (Src.slT (enc := TDot.e) (R := [x27]) rfl (fun _ => rfl)) (fun _ => rfl) hy32 rfl rfl) rfl ?_
          refine PWl.step (LR.assign rfl) rfl ?_
          refine PWl.nil ?_
          exact ⟨(out24 ++ [x27]), (), h, Sub.of rfl (.cons rfl rfl <| .cons rfl rfl <| .cons rfl rfl <| .cons rfl rfl <| .cons rfl rfl <| .cons rfl rfl <| .nil) (.cons rfl rfl <| .nil)⟩
        · replace h := iF hc31 h
          refine PWc.skip ?_
          exact ⟨out24, (), h, Sub.of rfl (.cons rfl rfl <| .cons rfl rfl <| .cons rfl rfl <| .cons rfl rfl <| .cons rfl rfl <| .cons rfl rfl <| .nil) (.cons rfl rfl <| .nil)⟩
      · rintro out26 _ h
        refine PWc.region ?_
        refine PWl.step (LR.addW rfl rfl) rfl ?_
        refine PWl.step (LR.move rfl) rfl ?_
        refine PWl.nil ?_
        exact ⟨((IntKind.i64.wrap (v23 + 1)), out26), (), h, Sub.of rfl (.cons rfl rfl <| .cons rfl rfl <| .cons rfl rfl <| .cons rfl rfl <| .cons rfl rfl <| .cons rfl rfl <| .nil) (.cons rfl rfl <| .nil)⟩
    · replace h := iF hc25 h
      refine PWc.exit ?_
      exact ⟨out24, (), h, Sub.of rfl (.cons rfl rfl <| .nil) (.cons rfl rfl <| .nil)⟩
  · rintro out4 _ h
    refine PWc.seq ?_
    refine PWc.region ?_
    refine PWl.step (LR.move rfl) rfl ?_
    replace h := iDet h
    obtain ⟨v33, hy34, h⟩ := h
    refine PWl.frz [7, 26] hK (.cons rfl <| .cons rfl <| .nil) rfl (by simp) ?_
    refine PWl.step (LR.rowN (dot_Sort_ok out4 v33 hy34) rfl Try.call83 rfl rfl rfl rfl) rfl ?_
    refine PWl.step (LR.assign rfl) rfl ?_
    refine PWl.nil ?_
    refine PWc.ret ?_
    replace h : _ = r0 := h
    subst h
    exact ⟨.inr rfl, 6, rfl, .inr ⟨27, _, rfl, (by simp), rfl⟩⟩

theorem kills_Keep_ok (l1 : List TDot) (c2 : List TPart) (r0 : List TDot) (h : (kills_Keep l1 c2).wp (· = r0)) : PRow Try.prog 71 [.d (.sl (List.map TDot.e l1)), .d (.sl (List.map TPart.e c2))] 38 2 (List.map TDot.e r0) := by
  refine PRow.intro (sl := [(0, _), (1, _)]) Try.func71 rfl Try.ntmps71 rfl rfl ?_
  intro ctx hK
  refine PWc.seq ?_
  refine PWc.region ?_
  refine PWl.step (LR.assignNilRow 38 2 rfl) rfl ?_
  refine PWl.nil ?_
  refine PWc.seq ?_
  refine PWc.region ?_
  refine PWl.step (LR.move rfl) rfl ?_
  refine PWl.step (LR.move rfl) rfl ?_
  replace h := iDet h
  obtain ⟨v3, hy4, h⟩ := h
  refine PWl.step (LR.rowN (kills_part_ok l1 c2 true v3 hy4) rfl Try.call122 rfl rfl rfl rfl) rfl ?_
  refine PWl.re (tl := [(0, _), (1, _), (5, _), (6, _), (7, _)]) (to := [(7, _)]) rfl (.cons rfl rfl <| .cons rfl rfl <| .cons rfl rfl <| .cons rfl rfl <| .cons rfl rfl <| .nil) (.cons rfl rfl <| .nil) ?_
  refine PWl.step (LR.assign rfl) rfl ?_
  refine PWl.nil ?_
  refine PWc.ret ?_
  replace h : _ = r0 := h
  subst h
  exact ⟨.inr rfl, 4, rfl, .inr ⟨7, _, rfl, (by simp), rfl⟩⟩

theorem outbox_Replay_ok (l1 : List TEvent) (dev2 : Int) (to3 : List TPart) (r0 : List TEvent) (h : (outbox_Replay l1 dev2 to3).wp (· = r0)) : PRow Try.prog 20 [.d (.sl (List.map TEvent.e l1)), .d (.v (.int .u16 dev2)), .d (.sl (List.map TPart.e to3))] 41 7 (List.map TEvent.e r0) := by
  refine PRow.intro (sl := [(0, _), (1, _), (2, _)]) Try.func20 rfl Try.ntmps20 rfl rfl ?_
  intro ctx hK
  refine PWc.seq ?_
  refine PWc.region ?_
  refine PWl.step (LR.assignNilRow 41 7 rfl) rfl ?_
  refine PWl.nil ?_
  refine PWc.seq ?_
  refine PWc.region ?_
  refine PWl.step (LR.move rfl) rfl ?_
  refine PWl.step (LR.lenMap (enc := TEvent.e) (L := l1) Try.underlying22 rfl) rfl ?_
  replace h := iNeed h
  obtain ⟨hy4, h⟩ := h
  refine PWl.makeT (enc := TEvent.e) (z := (⟨(⟨0, 0⟩ : TDot), 0, 0, 0, (⟨#[]⟩ : ByteArray), ([] : List TDot)⟩ : TEvent)) hy4 elem22 Try.zeroValue41 rfl rfl rfl rfl rfl rfl rfl rfl ?_
  refine PWl.step (LR.assign rfl) rfl ?_
  refine PWl.nil ?_
  refine PWc.seq ?_
  refine PWc.seq ?_
  refine PWc.region ?_
  refine PWl.step (LR.move rfl) rfl ?_
  refine PWl.step (LR.lenMap (enc := TEvent.e) (L := l1) Try.underlying22 rfl) rfl ?_
  refine PWl.step (LR.move rfl) rfl ?_
  refine PWl.nil ?_
  refine PWc.jn (iBind h) (fun (v5 : List TEvent) (_ : Unit) => ⟨37, [(7, .row 12 (List.length v5))], [(12, .row 41 7 (List.map TEvent.e v5))]⟩) (fun h => ?_) ?_
  · refine PWc.block ?_
    refine PWc.loopM (fun (⟨v22, v23⟩ : Int × List TEvent) (_ : Unit) => ⟨37, [(1, .d (.v (.int .u16 dev2))), (2, .d (.sl (List.map TPart.e to3))), (7, .row 12 (List.length v23)), (13, .d (.sl (List.map TEvent.e l1))), (14, .d (.v (.int .i64 (List.length l1 : Int)))), (15, .d (.v (.int .i64 v22)))], [(12, .row 41 7 (List.map TEvent.e v23))]⟩) () h (Sub.of rfl (.cons rfl rfl <| .cons rfl rfl <| .cons rfl (by first | rfl | (simp; done) | (congr 1; first | (simp; done) | (simp; omega))) <| .cons rfl rfl <| .cons rfl rfl <| .cons rfl rfl <| .nil) (.cons rfl rfl <| .nil)) ?_
    rintro N ⟨v22, v23⟩ _ h
    refine PWc.seq ?_
    refine PWc.region ?_
    refine PWl.step (LR.lss rfl rfl) rfl ?_
    refine PWl.nil ?_
    refine PWc.seq ?_
    refine PWc.cond rfl (fun hc24 => ?_) (fun hc24 => ?_)
    · replace h := iT hc24 h
      refine PWc.skip ?_
      refine PWc.seq ?_
      refine PWc.block ?_
      refine PWc.seq ?_
      refine PWc.region ?_
      refine PWl.step (LR.move rfl) rfl ?_
      replace h := iIdx h
      obtain ⟨x25, hy26, h⟩ := h
      refine PWl.step (LR.idxT (enc := TEvent.e) (L := l1) (y := x25) Try.underlying22 Try.sizeOf41 rfl rfl hy26 (fun _ => rfl)) rfl ?_
      refine PWl.step (LR.loadEpAgg (ys := [_, _, _, _, _, _, _]) Try.isAgg41 Try.sizeOf41 rfl rfl rfl) rfl ?_
      refine PWl.step (LR.allocZ (cs := [_, _, _, _, _, _, _]) Try.zeroValue41 rfl rfl rfl rfl) rfl ?_
      refine PWl.step (LR.assign rfl) rfl ?_
      refine PWl.step (LR.storeB (ns := [_, _, _, _, _, _, _]) Try.sizeOf41 rfl rfl rfl rfl rfl rfl rfl) rfl ?_
      refine PWl.nil ?_
      refine PWc.seq ?_
      refine PWc.region ?_
      refine PWl.step (LR.move rfl) rfl ?_
      refine PWl.step (LR.move rfl) rfl ?_
      refine PWl.step (LR.convInt Try.underlying36 (by rw [Try.underlying3]; rfl) rfl rfl) rfl ?_
      refine PWl.step (LR.addW rfl rfl) rfl ?_
      refine PWl.step (LR.build (ns := [_, _]) build38 rfl rfl rfl) rfl ?_
      refine PWl.step (LR.fieldRef Try.underlying41 rfl Try.sizeOf38 (by decide) rfl rfl) rfl ?_
      refine PWl.step (LR.storeB (ns := [_, _, _, _, _, _, _]) Try.sizeOf38 rfl rfl rfl rfl rfl rfl rfl) rfl ?_
      refine PWl.nil ?_
      refine PWc.seq ?_
      refine PWc.region ?_
      refine PWl.step (LR.fieldRef Try.underlying41 rfl Try.sizeOf39 (by decide) rfl rfl) rfl ?_
      refine PWl.step (LR.loadRef Try.isAgg39 rfl rfl rfl) rfl ?_
      refine PWl.step (LR.move rfl) rfl ?_
      refine PWl.re (tl := [(1, _), (2, _), (7, _), (8, _), (9, _), (13, _), (14, _), (15, _), (27, _), (28, _)]) (to := [(9, _), (12, _)]) rfl (.cons rfl rfl <| .cons rfl rfl <| .cons rfl rfl <| .cons rfl rfl <| .cons rfl rfl <| .cons rfl rfl <| .cons rfl rfl <| .cons rfl rfl <| .cons rfl rfl <| .cons rfl rfl <| .nil) (.cons rfl rfl <| .cons rfl rfl <| .nil) ?_
      replace h := iDet h
      obtain ⟨v27, hy28, h⟩ := h
      refine PWl.step (LR.rowN (kills_Keep_ok x25.kills to3 v27 hy28) rfl Try.call71 rfl rfl rfl rfl) rfl ?_
      refine PWl.step (LR.fieldRef Try.underlying41 rfl Try.sizeOf39 (by decide) rfl rfl) rfl ?_
      refine PWl.frz [29] hK (.cons rfl <| .nil) rfl (by simp) ?_
      refine PWl.step (LR.storeB (ns := [_, _, _, _, _, _, _]) Try.sizeOf39 rfl rfl rfl rfl rfl rfl rfl) rfl ?_
      refine PWl.nil ?_
      refine PWc.region ?_
      refine PWl.step (LR.move rfl) rfl ?_
      refine PWl.step (LR.move rfl) rfl ?_
      refine PWl.step (LR.loadRefAgg (ps := [_, _, _, _, _, _, _]) Try.isAgg41 Try.sizeOf41 rfl rfl rfl rfl) rfl ?_
      replace h := iIdx h
      obtain ⟨x29, hy30, h⟩ := h
      refine PWl.step (LR.idxRowT (L := v23) (y := x29) Try.underlying22 Try.sizeOf41 rfl rfl rfl hy30) rfl ?_
      refine PWl.step (LR.storeRpT (enc := TEvent.e) (L := v23) (a := x29) (b := (⟨(⟨dev2, (IntKind.u64.wrap ((IntKind.u64.wrap v22) + 1))⟩ : TDot), x25.kind, x25.cid, x25.field, x25.text, v27⟩ : TEvent)) Try.sizeOf41 rfl rfl rfl rfl rfl hy30.2 rfl rfl) rfl ?_
      refine PWl.nil ?_
      refine PWc.region ?_
      refine PWl.step (LR.addW rfl rfl) rfl ?_
      refine PWl.step (LR.move rfl) rfl ?_
      refine PWl.nil ?_
      exact ⟨((IntKind.i64.wrap (v22 + 1)), (List.set v23 (Int.toNat v22) ((⟨(⟨dev2, (IntKind.u64.wrap ((IntKind.u64.wrap v22) + 1))⟩ : TDot), x25.kind, x25.cid, x25.field, x25.text, v27⟩ : TEvent)))), (), h, Sub.of rfl (.cons rfl rfl <| .cons rfl rfl <| .cons rfl (by first | rfl | (simp; done) | (congr 1; first | (simp; done) | (simp; omega))) <| .cons rfl rfl <| .cons rfl rfl <| .cons rfl rfl <| .nil) (.cons rfl rfl <| .nil)⟩
    · replace h := iF hc24 h
      refine PWc.exit ?_
      exact ⟨v23, (), h, Sub.of rfl (.cons rfl rfl <| .nil) (.cons rfl rfl <| .nil)⟩
  · rintro v5 _ h
    refine PWc.seq ?_
    refine PWc.region ?_
    refine PWl.step (LR.move rfl) rfl ?_
    refine PWl.step (LR.assign rfl) rfl ?_
    refine PWl.nil ?_
    refine PWc.ret ?_
    replace h : _ = r0 := h
    subst h
    exact ⟨.inr rfl, 6, rfl, .inr ⟨12, _, rfl, (by simp), rfl⟩⟩
end Go.Proofs

namespace Go.Proofs
open Go.Ep
set_option maxHeartbeats 1000000
set_option maxRecDepth 100000
set_option linter.unusedVariables false
set_option linter.unusedSimpArgs false


theorem r06_may_ok (x1 : TRun) (r0 : Bool) (h : (r06_may x1).wp (· = r0)) : PFun Try.prog 125 [.agg (List.map .d (TRun.e x1))] (.d (.v (.bool r0))) := by
  refine PFun.intro (sl := [(0, _)]) Try.func125 rfl Try.ntmps125 rfl rfl ?_
  intro ctx hK
  refine PWc.seq ?_
  refine PWc.region ?_
  refine PWl.step (LR.box rfl rfl rfl rfl) rfl ?_
  refine PWl.step (LR.assign rfl) rfl ?_
  refine PWl.nil ?_
  refine PWc.seq ?_
  refine PWc.jn (iBind h) (fun (v2 : Bool) (_ : Unit) => ⟨18, [(2, .d (.v (.bool v2)))], []⟩) (fun h => ?_) ?_
  · refine PWc.region ?_
    refine PWl.step (LR.fieldRef Try.underlying114 rfl Try.sizeOf36 (by decide) rfl rfl) rfl ?_
    refine PWl.step (LR.loadRef Try.isAgg36 rfl rfl rfl) rfl ?_
    refine PWl.step (LR.geq rfl rfl) rfl ?_
    refine PWl.step (LR.move rfl) rfl ?_
    refine PWl.split (d := 6) rfl (fun hg3 => ?_) (fun hg3 => ?_)
    · replace h := iT hg3 h
      refine PWl.guardT (LR.fieldRef Try.underlying114 rfl Try.sizeOf36 (by decide) rfl rfl) rfl rfl rfl ?_
      refine PWl.guardT (LR.loadRef Try.isAgg36 rfl rfl rfl) rfl rfl rfl ?_
      refine PWl.guardT (LR.fieldRef Try.underlying114 rfl Try.sizeOf36 (by decide) rfl rfl) rfl rfl rfl ?_
      refine PWl.guardT (LR.loadRef Try.isAgg36 rfl rfl rfl) rfl rfl rfl ?_
      refine PWl.guardT (LR.leq rfl rfl) rfl rfl rfl ?_
      refine PWl.step (LR.pickT rfl rfl) rfl ?_
      refine PWl.step (LR.move rfl) rfl ?_
      refine PWl.split (d := 13) rfl (fun hg4 => ?_) (fun hg4 => ?_)
      · replace h := iT hg4 h
        refine PWl.guardT (LR.fieldRef Try.underlying114 rfl Try.sizeOf36 (by decide) rfl rfl) rfl rfl rfl ?_
        refine PWl.guardT (LR.loadRef Try.isAgg36 rfl rfl rfl) rfl rfl rfl ?_
        refine PWl.guardT (LR.leq rfl rfl) rfl rfl rfl ?_
        refine PWl.step (LR.pickT rfl rfl) rfl ?_
        refine PWl.step (LR.assign rfl) rfl ?_
        refine PWl.nil ?_
        exact ⟨(decide (x1.hi ≤ 281474976710655)), (), h, Sub.of rfl (.cons rfl rfl <| .nil) (.nil)⟩
      · replace h := iF hg4 h
        refine PWl.guardF rfl rfl rfl (by decide) ?_
        refine PWl.guardF rfl rfl rfl (by decide) ?_
        refine PWl.guardF rfl rfl rfl (by decide) ?_
        refine PWl.step (LR.pickF rfl rfl) rfl ?_
        refine PWl.step (LR.assign rfl) rfl ?_
        refine PWl.nil ?_
        exact ⟨false, (), h, Sub.of rfl (.cons rfl rfl <| .nil) (.nil)⟩
    · replace h := iF hg3 h
      refine PWl.guardF rfl rfl rfl (by decide) ?_
      refine PWl.guardF rfl rfl rfl (by decide) ?_
      refine PWl.guardF rfl rfl rfl (by decide) ?_
      refine PWl.guardF rfl rfl rfl (by decide) ?_
      refine PWl.guardF rfl rfl rfl (by decide) ?_
      refine PWl.step (LR.pickF rfl rfl) rfl ?_
      refine PWl.step (LR.move rfl) rfl ?_
      refine PWl.guardF rfl rfl rfl (by decide) ?_
      refine PWl.guardF rfl rfl rfl (by decide) ?_
      refine PWl.guardF rfl rfl rfl (by decide) ?_
      refine PWl.step (LR.pickF rfl rfl) rfl ?_
      refine PWl.step (LR.assign rfl) rfl ?_
      refine PWl.nil ?_
      exact ⟨false, (), h, Sub.of rfl (.cons rfl rfl <| .nil) (.nil)⟩
  · rintro v2 _ h
    refine PWc.ret ?_
    replace h : _ = r0 := h
    subst h
    exact ⟨.inr rfl, _, .cons (.tmp rfl rfl) <| .nil, rfl⟩

theorem r06_Has_ok (l1 : List TRun) (n2 : Int) (r0 : Bool) (h : (r06_Has l1 n2).wp (· = r0)) : PFun Try.prog 80 [.d (.sl (List.map TRun.e l1)), .d (.v (.int .u64 n2))] (.d (.v (.bool r0))) := by
  refine PFun.intro (sl := [(0, _), (1, _)]) Try.func80 rfl Try.ntmps80 rfl rfl ?_
  intro ctx hK
  refine PWc.seq ?_
  refine PWc.region ?_
  refine PWl.step (LR.assign rfl) rfl ?_
  refine PWl.nil ?_
  refine PWc.seq ?_
  refine PWc.seq ?_
  refine PWc.region ?_
  refine PWl.step (LR.assign rfl) rfl ?_
  refine PWl.nil ?_
  refine PWc.jnX (iBind h) (fun (_ : Unit) (_ : Unit) => ⟨35, [], []⟩) (fun h => ?_) ?_
  · refine PWc.block ?_
    refine PWc.loopM (fun (i30 : Int) (_ : Unit) => ⟨35, [(0, .d (.sl (List.map TRun.e l1))), (1, .d (.v (.int .u64 n2))), (5, .d (.v (.int .i64 i30)))], []⟩) () h (Sub.of rfl (.cons rfl rfl <| .cons rfl rfl <| .cons rfl rfl <| .nil) (.nil)) ?_
    rintro N i30 _ h
    refine PWc.seq ?_
    refine PWc.seq ?_
    refine PWc.region ?_
    refine PWl.step (LR.move rfl) rfl ?_
    refine PWl.step (LR.move rfl) rfl ?_
    refine PWl.step (LR.lenMap (enc := TRun.e) (L := l1) Try.underlying34 rfl) rfl ?_
    refine PWl.step (LR.lss rfl rfl) rfl ?_
    refine PWl.nil ?_
    refine PWc.cond rfl (fun hc31 => ?_) (fun hc31 => ?_)
    · replace h := iT hc31 h
      refine PWc.skip ?_
      refine PWc.seq ?_
      refine PWc.block ?_
      refine PWc.seq ?_
      refine PWc.jn (iBind h) (fun (v32 : Bool) (_ : Unit) => ⟨35, [(0, .d (.sl (List.map TRun.e l1))), (1, .d (.v (.int .u64 n2))), (5, .d (.v (.int .i64 i30))), (34, .d (.v (.bool v32)))], []⟩) (fun h => ?_) ?_
      · refine PWc.region ?_
        refine PWl.step (LR.move rfl) rfl ?_
        refine PWl.step (LR.move rfl) rfl ?_
        replace h := iIdx h
        obtain ⟨x33, hy34, h⟩ := h
        refine PWl.step (LR.idxT (enc := TRun.e) (L := l1) (y := x33) Try.underlying34 Try.sizeOf114 rfl rfl hy34 (fun _ => rfl)) rfl ?_
        refine PWl.step (LR.loadEpAgg (ys := [_, _]) Try.isAgg114 Try.sizeOf114 rfl rfl rfl) rfl ?_
        replace h := iDet h
        obtain ⟨v35, hy36, h⟩ := h
        refine PWl.step (LR.callN (r06_may_ok x33 v35 hy36) rfl Try.call125 rfl rfl rfl rfl) rfl ?_
        refine PWl.step (LR.move rfl) rfl ?_
        refine PWl.split (d := 17) rfl (fun hg37 => ?_) (fun hg37 => ?_)
        · replace h := iT hg37 h
          refine PWl.guardT (LR.move rfl) rfl rfl rfl ?_
          refine PWl.guardT (LR.move rfl) rfl rfl rfl ?_
          replace h := iIdx h
          obtain ⟨x38, hy39, h⟩ := h
          refine PWl.guardT (LR.idxT (enc := TRun.e) (L := l1) (y := x38) Try.underlying34 Try.sizeOf114 rfl rfl hy39 (fun _ => rfl)) rfl rfl rfl ?_
          refine PWl.guardT (LR.fieldEp Try.underlying114 rfl Try.sizeOf36 (by decide) rfl rfl) rfl rfl rfl ?_
          refine PWl.guardT (LR.loadEp Try.isAgg36 rfl rfl) rfl rfl rfl ?_
          refine PWl.guardT (LR.move rfl) rfl rfl rfl ?_
          refine PWl.guardT (LR.leq rfl rfl) rfl rfl rfl ?_
          refine PWl.re (tl := [(0, _), (1, _), (5, _), (17, _), (18, _), (19, _), (20, _), (21, _), (22, _), (23, _), (24, _)]) (to := []) rfl (.cons rfl rfl <| .cons rfl rfl <| .cons rfl rfl <| .cons rfl rfl <| .cons rfl rfl <| .cons rfl rfl <| .cons rfl rfl <| .cons rfl rfl <| .cons rfl rfl <| .cons rfl rfl <| .cons rfl rfl <| .nil) (.nil) ?_
          refine PWl.step (LR.pickT rfl rfl) rfl ?_
          refine PWl.step (LR.move rfl) rfl ?_
          refine PWl.split (d := 26) rfl (fun hg40 => ?_) (fun hg40 => ?_)
          · replace h := iT hg40 h
            refine PWl.guardT (LR.move rfl) rfl rfl rfl ?_
            refine PWl.guardT (LR.move rfl) rfl rfl rfl ?_
            refine PWl.guardT (LR.move rfl) rfl rfl rfl ?_
            replace h := iIdx h
            obtain ⟨x41, hy42, h⟩ := h
            refine PWl.guardT (LR.idxT (enc := TRun.e) (L := l1) (y := x41) Try.underlying34 Try.sizeOf114 rfl rfl hy42 (fun _ => rfl)) rfl rfl rfl ?_
            refine PWl.guardT (LR.fieldEp Try.underlying114 rfl Try.sizeOf36 (by decide) rfl rfl) rfl rfl rfl ?_
            refine PWl.guardT (LR.loadEp Try.isAgg36 rfl rfl) rfl rfl rfl ?_
            refine PWl.guardT (LR.leq rfl rfl) rfl rfl rfl ?_
            refine PWl.step (LR.pickT rfl rfl) rfl ?_
            refine PWl.nil ?_
            exact ⟨(decide (n2 ≤ x41.hi)), (), h, Sub.of rfl (.cons rfl rfl <| .cons rfl rfl <| .cons rfl rfl <| .cons rfl rfl <| .nil) (.nil)⟩
          · replace h := iF hg40 h
            refine PWl.guardF rfl rfl rfl (by decide) ?_
            refine PWl.guardF rfl rfl rfl (by decide) ?_
            refine PWl.guardF rfl rfl rfl (by decide) ?_
            refine PWl.guardF rfl rfl rfl (by decide) ?_
            refine PWl.guardF rfl rfl rfl (by decide) ?_
            refine PWl.guardF rfl rfl rfl (by decide) ?_
            refine PWl.guardF rfl rfl rfl (by decide) ?_
            refine PWl.step (LR.pickF rfl rfl) rfl ?_
            refine PWl.nil ?_
            exact ⟨false, (), h, Sub.of rfl (.cons rfl rfl <| .cons rfl rfl <| .cons rfl rfl <| .cons rfl rfl <| .nil) (.nil)⟩
        · replace h := iF hg37 h
          refine PWl.guardF rfl rfl rfl (by decide) ?_
          refine PWl.guardF rfl rfl rfl (by decide) ?_
          refine PWl.guardF rfl rfl rfl (by decide) ?_
          refine PWl.guardF rfl rfl rfl (by decide) ?_
          refine PWl.guardF rfl rfl rfl (by decide) ?_
          refine PWl.guardF rfl rfl rfl (by decide) ?_
          refine PWl.guardF rfl rfl rfl (by decide) ?_
          refine PWl.re (tl := [(0, _), (1, _), (5, _), (17, _), (18, _), (19, _), (20, _), (21, _), (22, _), (23, _), (24, _)]) (to := []) rfl (.cons rfl rfl <| .cons rfl rfl <| .cons rfl rfl <| .cons rfl rfl <| .cons rfl rfl <| .cons rfl rfl <| .cons rfl rfl <| .cons rfl rfl <| .cons rfl rfl <| .cons rfl rfl <| .cons rfl rfl <| .nil) (.nil) ?_
          refine PWl.step (LR.pickF rfl rfl) rfl ?_
          refine PWl.step (LR.move rfl) rfl ?_
          refine PWl.guardF rfl rfl rfl (by decide) ?_
          refine PWl.guardF rfl rfl rfl (by decide) ?_
          refine PWl.guardF rfl rfl rfl (by decide) ?_
          refine PWl.guardF rfl rfl rfl (by decide) ?_
          refine PWl.guardF rfl rfl rfl (by decide) ?_
          refine PWl.guardF rfl rfl rfl (by decide) ?_
          refine PWl.guardF rfl rfl rfl (by decide) ?_
          refine PWl.step (LR.pickF rfl rfl) rfl ?_
          refine PWl.nil ?_
          exact ⟨false, (), h, Sub.of rfl (.cons rfl rfl <| .cons rfl rfl <| .cons rfl rfl <| .cons rfl rfl <| .nil) (.nil)⟩
      · rintro v32 _ h
        refine PWc.cond rfl (fun hc43 => ?_) (fun hc43 => ?_)
        · replace h := iT hc43 h
          refine PWc.seq ?_
          refine PWc.region ?_
          refine PWl.step (LR.assign rfl) rfl ?_
          refine PWl.nil ?_
          refine PWc.ret ?_
          replace h : _ = r0 := h
          subst h
          exact ⟨.inr rfl, _, .cons (.tmp rfl rfl) <| .nil, rfl⟩
        · replace h := iF hc43 h
          refine PWc.skip ?_
          refine PWc.region ?_
          refine PWl.step (LR.move rfl) rfl ?_
          refine PWl.step (LR.addW rfl rfl) rfl ?_
          refine PWl.step (LR.assign rfl) rfl ?_
          refine PWl.nil ?_
          exact ⟨(IntKind.i64.wrap (i30 + 1)), (), h, Sub.of rfl (.cons rfl rfl <| .cons rfl rfl <| .cons rfl rfl <| .nil) (.nil)⟩
    · replace h := iF hc31 h
      refine PWc.exit ?_
      exact ⟨(), (), h, Sub.of rfl (.nil) (.nil)⟩
  · rintro _ _ h
    refine PWc.seq ?_
    refine PWc.region ?_
    refine PWl.step (LR.assign rfl) rfl ?_
    refine PWl.nil ?_
    refine PWc.ret ?_
    replace h : _ = r0 := h
    subst h
    exact ⟨.inr rfl, _, .cons (.tmp rfl rfl) <| .nil, rfl⟩

theorem r06_put_ok (l1 : List Int) (n2 : Int) (r0 : List Int) (h : (r06_put l1 n2).wp (· = r0)) : PRow Try.prog 176 [.d (.sl (List.map (eK .u64) l1)), .d (.v (.int .u64 n2))] 36 1 (List.map (eK .u64) r0) := by
  refine PRow.intro (sl := [(0, _), (1, _)]) Try.func176 rfl Try.ntmps176 rfl rfl ?_
  intro ctx hK
  refine PWc.seq ?_
  refine PWc.region ?_
  refine PWl.step (LR.assignNilRow 36 1 rfl) rfl ?_
  refine PWl.nil ?_
  refine PWc.seq ?_
  refine PWc.region ?_
  refine PWl.step (LR.assignNilRow 36 1 rfl) rfl ?_
  refine PWl.nil ?_
  refine PWc.seq ?_
  refine PWc.region ?_
  refine PWl.step (LR.assign rfl) rfl ?_
  refine PWl.nil ?_
  refine PWc.seq ?_
  refine PWc.seq ?_
  refine PWc.region ?_
  refine PWl.step (LR.assign rfl) rfl ?_
  refine PWl.nil ?_
  refine PWc.jn (iBind h) (fun (⟨done3, out4⟩ : Bool × List Int) (_ : Unit) => ⟨48, [(1, .d (.v (.int .u64 n2))), (5, .row 5 (List.length out4)), (6, .d (.v (.bool done3)))], [(5, .row 36 1 (List.map (eK .u64) out4))]⟩) (fun h => ?_) ?_
  · refine PWc.block ?_
    refine PWc.loopM (fun (⟨done43, i44, out45⟩ : Bool × Int × List Int) (_ : Unit) => ⟨48, [(0, .d (.sl (List.map (eK .u64) l1))), (1, .d (.v (.int .u64 n2))), (5, .row 5 (List.length out45)), (6, .d (.v (.bool done43))), (7, .d (.v (.int .i64 i44)))], [(5, .row 36 1 (List.map (eK .u64) out45))]⟩) () h (Sub.of rfl (.cons rfl rfl <| .cons rfl rfl <| .cons rfl rfl <| .cons rfl rfl <| .cons rfl rfl <| .nil) (.cons rfl rfl <| .nil)) ?_
    rintro N ⟨done43, i44, out45⟩ _ h
    refine PWc.seq ?_
    refine PWc.seq ?_
    refine PWc.region ?_
    refine PWl.step (LR.move rfl) rfl ?_
    refine PWl.step (LR.move rfl) rfl ?_
    refine PWl.step (LR.lenMap (enc := (eK .u64)) (L := l1) Try.underlying180 rfl) rfl ?_
    refine PWl.step (LR.lss rfl rfl) rfl ?_
    refine PWl.nil ?_
    refine PWc.cond rfl (fun hc46 => ?_) (fun hc46 => ?_)
    · replace h := iT hc46 h
      refine PWc.skip ?_
      refine PWc.seq ?_
      refine PWc.jn (iBind h) (fun (⟨done47, out48⟩ : Bool × List Int) (_ : Unit) => ⟨48, [(0, .d (.sl (List.map (eK .u64) l1))), (1, .d (.v (.int .u64 n2))), (5, .row 5 (List.length out48)), (6, .d (.v (.bool done47))), (7, .d (.v (.int .i64 i44)))], [(5, .row 36 1 (List.map (eK .u64) out48))]⟩) (fun h => ?_) ?_
      · refine PWc.block ?_
        refine PWc.seq ?_
        refine PWc.seq ?_
        refine PWc.jn (iBind h) (fun (v49 : Bool) (_ : Unit) => ⟨48, [(0, .d (.sl (List.map (eK .u64) l1))), (1, .d (.v (.int .u64 n2))), (5, .row 5 (List.length out45)), (6, .d (.v (.bool done43))), (7, .d (.v (.int .i64 i44))), (23, .d (.v (.bool v49)))], [(5, .row 36 1 (List.map (eK .u64) out45))]⟩) (fun h => ?_) ?_
        · refine PWc.region ?_
          refine PWl.step (LR.move rfl) rfl ?_
          refine PWl.step (LR.not rfl) rfl ?_
          refine PWl.step (LR.move rfl) rfl ?_
          refine PWl.split (d := 16) rfl (fun hg50 => ?_) (fun hg50 => ?_)
          · replace h := iT hg50 h
            refine PWl.guardT (LR.move rfl) rfl rfl rfl ?_
            refine PWl.guardT (LR.move rfl) rfl rfl rfl ?_
            replace h := iIdx h
            obtain ⟨x51, hy52, h⟩ := h
            refine PWl.guardT (LR.idxT (enc := (eK .u64)) (L := l1) (y := x51) Try.underlying180 Try.sizeOf36 rfl rfl hy52 (fun _ => rfl)) rfl rfl rfl ?_
            refine PWl.guardT (LR.loadEp Try.isAgg36 rfl rfl) rfl rfl rfl ?_
            refine PWl.guardT (LR.move rfl) rfl rfl rfl ?_
            refine PWl.guardT (LR.geq rfl rfl) rfl rfl rfl ?_
            refine PWl.step (LR.pickT rfl rfl) rfl ?_
            refine PWl.nil ?_
            exact ⟨(decide (n2 ≤ x51)), (), h, Sub.of rfl (.cons rfl rfl <| .cons rfl rfl <| .cons rfl rfl <| .cons rfl rfl <| .cons rfl rfl <| .cons rfl rfl <| .nil) (.cons rfl rfl <| .nil)⟩
          · replace h := iF hg50 h
            refine PWl.guardF rfl rfl rfl (by decide) ?_
            refine PWl.guardF rfl rfl rfl (by decide) ?_
            refine PWl.guardF rfl rfl rfl (by decide) ?_
            refine PWl.guardF rfl rfl rfl (by decide) ?_
            refine PWl.guardF rfl rfl rfl (by decide) ?_
            refine PWl.guardF rfl rfl rfl (by decide) ?_
            refine PWl.step (LR.pickF rfl rfl) rfl ?_
            refine PWl.nil ?_
            exact ⟨false, (), h, Sub.of rfl (.cons rfl rfl <| .cons rfl rfl <| .cons rfl rfl <| .cons rfl rfl <| .cons rfl rfl <| .cons rfl rfl <| .nil) (.cons rfl rfl <| .nil)⟩
        · rintro v49 _ h
          refine PWc.jn (iBind h) (fun (⟨done53, out54⟩ : Bool × List Int) (_ : Unit) => ⟨48, [(0, .d (.sl (List.map (eK .u64) l1))), (1, .d (.v (.int .u64 n2))), (5, .row 5 (List.length out54)), (6, .d (.v (.bool done53))), (7, .d (.v (.int .i64 i44)))], [(5, .row 36 1 (List.map (eK .u64) out54))]⟩) (fun h => ?_) ?_
          · refine PWc.cond rfl (fun hc55 => ?_) (fun hc55 => ?_)
            · replace h := iT hc55 h
              refine PWc.seq ?_
              refine PWc.region ?_
              refine PWl.step (LR.move rfl) rfl ?_
              refine PWl.step (LR.move rfl) rfl ?_
              refine PWl.step (LR.buildSliceD [.tmp 25] elem180 rfl rfl (.cons rfl rfl rfl <| .nil) (by decide) (by decide)) rfl ?_
              replace h := iNeed h
              obtain ⟨hy56, h⟩ := h
              refine PWl.step (LR.appT (enc := (eK .u64)) (L := out45) (R := [n2]) [5, 24] elem180 Try.underlying180 rfl rfl rfl (Src.slT (enc := (eK .u64)) (R := [n2]) rfl (fun _ => rfl)) (fun _ => rfl) hy56 rfl rfl) rfl ?_
              refine PWl.step (LR.assign rfl) rfl ?_
              refine PWl.nil ?_
              refine PWc.region ?_
              refine PWl.step (LR.assign rfl) rfl ?_
              refine PWl.nil ?_
              exact ⟨(true, (out45 ++ [n2])), (), h, Sub.of rfl (.cons rfl rfl <| .cons rfl rfl <| .cons rfl rfl <| .cons rfl rfl <| .cons rfl rfl <| .nil) (.cons rfl rfl <| .nil)⟩
            · replace h := iF hc55 h
              refine PWc.skip ?_
              exact ⟨(done43, out45), (), h, Sub.of rfl (.cons rfl rfl <| .cons rfl rfl <| .cons rfl rfl <| .cons rfl rfl <| .cons rfl rfl <| .nil) (.cons rfl rfl <| .nil)⟩
          · rintro ⟨done53, out54⟩ _ h
            refine PWc.seq ?_
            refine PWc.region ?_
            refine PWl.step (LR.move rfl) rfl ?_
            refine PWl.step (LR.move rfl) rfl ?_
            replace h := iIdx h
            obtain ⟨x57, hy58, h⟩ := h
            refine PWl.step (LR.idxT (enc := (eK .u64)) (L := l1) (y := x57) Try.underlying180 Try.sizeOf36 rfl rfl hy58 (fun _ => rfl)) rfl ?_
            refine PWl.step (LR.loadEp Try.isAgg36 rfl rfl) rfl ?_
            refine PWl.step (LR.move rfl) rfl ?_
            refine PWl.step (LR.neq rfl rfl) rfl ?_
            refine PWl.nil ?_
            refine PWc.cond rfl (fun hc59 => ?_) (fun hc59 => ?_)
            · replace h := iT hc59 h
              refine PWc.region ?_
              refine PWl.step (LR.move rfl) rfl ?_
              refine PWl.step (LR.move rfl) rfl ?_
              refine PWl.step (LR.move rfl) rfl ?_
              replace h := iIdx h
              obtain ⟨x60, hy61, h⟩ := h
              refine PWl.step (LR.idxT (enc := (eK .u64)) (L := l1) (y := x60) Try.underlying180 Try.sizeOf36 rfl rfl hy61 (fun _ => rfl)) rfl ?_
              refine PWl.step (LR.loadEp Try.isAgg36 rfl rfl) rfl ?_
              refine PWl.step (LR.buildSliceD [.tmp 38] elem180 rfl rfl (.cons rfl rfl rfl <| .nil) (by decide) (by decide)) rfl ?_
              replace h := iNeed h
              obtain ⟨hy62, h⟩ := h
              refine PWl.step (LR.appT (enc := (eK .u64)) (L := out54) (R := [x60]) [5, 34] elem180 Try.underlying180 rfl rfl rfl (Src.slT (enc := (eK .u64)) (R := [x60]) rfl (fun _ => rfl)) (fun _ => rfl) hy62 rfl rfl) rfl ?_
              refine PWl.step (LR.assign rfl) rfl ?_
              refine PWl.nil ?_
              exact ⟨(done53, (out54 ++ [x60])), (), h, Sub.of rfl (.cons rfl rfl <| .cons rfl rfl <| .cons rfl rfl <| .cons rfl rfl <| .cons rfl rfl <| .nil) (.cons rfl rfl <| .nil)⟩
            · replace h := iF hc59 h
              refine PWc.skip ?_
              exact ⟨(done53, out54), (), h, Sub.of rfl (.cons rfl rfl <| .cons rfl rfl <| .cons rfl rfl <| .cons rfl rfl <| .cons rfl rfl <| .nil) (.cons rfl rfl <| .nil)⟩
      · rintro ⟨done47, out48⟩ _ h
        refine PWc.region ?_
        refine PWl.step (LR.move rfl) rfl ?_
        refine PWl.step (LR.addW rfl rfl) rfl ?_
        refine PWl.step (LR.assign rfl) rfl ?_
        refine PWl.nil ?_
        exact ⟨(done47, (IntKind.i64.wrap (i44 + 1)), out48), (), h, Sub.of rfl (.cons rfl rfl <| .cons rfl rfl <| .cons rfl rfl <| .cons rfl rfl <| .cons rfl rfl <| .nil) (.cons rfl rfl <| .nil)⟩
    · replace h := iF hc46 h
      refine PWc.exit ?_
      exact ⟨(done43, out45), (), h, Sub.of rfl (.cons rfl rfl <| .cons rfl rfl <| .cons rfl rfl <| .nil) (.cons rfl rfl <| .nil)⟩
  · rintro ⟨done3, out4⟩ _ h
    refine PWc.seq ?_
    refine PWc.seq ?_
    refine PWc.region ?_
    refine PWl.step (LR.move rfl) rfl ?_
    refine PWl.step (LR.not rfl) rfl ?_
    refine PWl.nil ?_
    refine PWc.jn (iBind h) (fun (out63 : List Int) (_ : Unit) => ⟨48, [(5, .row 5 (List.length out63))], [(5, .row 36 1 (List.map (eK .u64) out63))]⟩) (fun h => ?_) ?_
    · refine PWc.cond rfl (fun hc64 => ?_) (fun hc64 => ?_)
      · replace h := iT hc64 h
        refine PWc.region ?_
        refine PWl.step (LR.move rfl) rfl ?_
        refine PWl.step (LR.move rfl) rfl ?_
        refine PWl.step (LR.buildSliceD [.tmp 44] elem180 rfl rfl (.cons rfl rfl rfl <| .nil) (by decide) (by decide)) rfl ?_
        replace h := iNeed h
        obtain ⟨hy65, h⟩ := h
        refine PWl.step (LR.appT (enc := (eK .u64)) (L := out4) (R := [n2]) [5, 43] elem180 Try.underlying180 rfl rfl rfl (Src.slT (enc := (eK .u64)) (R := [n2]) rfl (fun _ => rfl)) (fun _ => rfl) hy65 rfl rfl) rfl ?_
        refine PWl.step (LR.assign rfl) rfl ?_
        refine PWl.nil ?_
        exact ⟨(out4 ++ [n2]), (), h, Sub.of rfl (.cons rfl rfl <| .nil) (.cons rfl rfl <| .nil)⟩
      · replace h := iF hc64 h
        refine PWc.skip ?_
        exact ⟨out4, (), h, Sub.of rfl (.cons rfl rfl <| .nil) (.cons rfl rfl <| .nil)⟩
    · rintro out63 _ h
      refine PWc.seq ?_
      refine PWc.region ?_
      refine PWl.step (LR.move rfl) rfl ?_
      refine PWl.step (LR.assign rfl) rfl ?_
      refine PWl.nil ?_
      refine PWc.ret ?_
      replace h : _ = r0 := h
      subst h
      exact ⟨.inr rfl, 4, rfl, .inr ⟨5, _, rfl, (by simp), rfl⟩⟩

theorem r06_points_ok (a1 : List TRun) (b2 : List TRun) (r0 : List Int) (h : (r06_points a1 b2).wp (· = r0)) : PFun Try.prog 160 [.d (.sl (List.map TRun.e a1)), .d (.sl (List.map TRun.e b2))] (.d (.sl (List.map (eK .u64) r0))) := by
  refine PFun.intro (sl := [(0, _), (1, _)]) Try.func160 rfl Try.ntmps160 rfl rfl ?_
  intro ctx hK
  refine PWc.seq ?_
  refine PWc.region ?_
  refine PWl.step (LR.assignNilRow 36 1 rfl) rfl ?_
  refine PWl.nil ?_
  refine PWc.seq ?_
  refine PWc.region ?_
  refine PWl.step (LR.assignNilRow 36 1 rfl) rfl ?_
  refine PWl.nil ?_
  refine PWc.seq ?_
  refine PWc.region ?_
  refine PWl.step (LR.buildSlice [] elem34 rfl rfl (.nil) (by decide) (by decide) rfl) rfl ?_
  refine PWl.step (LR.move rfl) rfl ?_
  replace h := iNeed h
  obtain ⟨hy3, h⟩ := h
  refine PWl.step (LR.appT (enc := TRun.e) (L := ([] : List TRun)) (R := a1) [8] elem34 Try.underlying34 rfl (by first | (simp; done) | (simp; omega) | omega) rfl (Src.slT (enc := TRun.e) (R := a1) rfl (fun _ => rfl)) (fun _ => rfl) hy3 rfl rfl) rfl ?_
  refine PWl.step (LR.move rfl) rfl ?_
  replace h := iNeed h
  obtain ⟨hy4, h⟩ := h
  refine PWl.step (LR.appT (enc := TRun.e) (L := (([] : List TRun) ++ a1)) (R := b2) [10] elem34 Try.underlying34 rfl rfl rfl (Src.slT (enc := TRun.e) (R := b2) rfl (fun _ => rfl)) (fun _ => rfl) hy4 rfl rfl) rfl ?_
  refine PWl.step (LR.assign rfl) rfl ?_
  refine PWl.nil ?_
  refine PWc.seq ?_
  refine PWc.seq ?_
  refine PWc.region ?_
  refine PWl.step (LR.assign rfl) rfl ?_
  refine PWl.nil ?_
  refine PWc.jn (iBind h) (fun (out5 : List Int) (_ : Unit) => ⟨40, [(5, .d (.sl (List.map (eK .u64) out5)))], []⟩) (fun h => ?_) ?_
  · refine PWc.block ?_
    refine PWc.loopM (fun (⟨out38, i39⟩ : List Int × Int) (_ : Unit) => ⟨40, [(5, .d (.sl (List.map (eK .u64) out38))), (6, .row 8 ((List.length ((([] : List TRun) ++ a1) ++ b2)))), (7, .d (.v (.int .i64 i39)))], [(8, .row 114 2 (List.map TRun.e (((([] : List TRun) ++ a1) ++ b2))))]⟩) () h (Sub.trans (Sub.frz [5] hK rfl (by first | (simp; done) | (simp; omega) | omega) (AllRow.get (.cons rfl <| .nil))) <| Sub.of rfl (.cons rfl rfl <| .cons rfl (by first | rfl | (simp; done) | (congr 1; first | (simp; done) | (simp; omega))) <| .cons rfl rfl <| .nil) (.cons rfl rfl <| .nil)) ?_
    rintro N ⟨out38, i39⟩ _ h
    refine PWc.seq ?_
    refine PWc.seq ?_
    refine PWc.region ?_
    refine PWl.step (LR.move rfl) rfl ?_
    refine PWl.step (LR.move rfl) rfl ?_
    refine PWl.step (LR.lenRow Try.underlying34 rfl) rfl ?_
    refine PWl.step (LR.lss rfl rfl) rfl ?_
    refine PWl.nil ?_
    refine PWc.cond rfl (fun hc40 => ?_) (fun hc40 => ?_)
    · replace h := iT hc40 h
      refine PWc.skip ?_
      refine PWc.seq ?_
      refine PWc.jn (iBind h) (fun (out41 : List Int) (_ : Unit) => ⟨40, [(5, .d (.sl (List.map (eK .u64) out41))), (6, .row 8 ((List.length ((([] : List TRun) ++ a1) ++ b2)))), (7, .d (.v (.int .i64 i39)))], [(8, .row 114 2 (List.map TRun.e (((([] : List TRun) ++ a1) ++ b2))))]⟩) (fun h => ?_) ?_
      · refine PWc.block ?_
        refine PWc.seq ?_
        refine PWc.region ?_
        refine PWl.step (LR.move rfl) rfl ?_
        refine PWl.step (LR.move rfl) rfl ?_
        replace h := iIdx h
        obtain ⟨x42, hy43, h⟩ := h
        refine PWl.step (LR.idxRowT (L := ((([] : List TRun) ++ a1) ++ b2)) (y := x42) Try.underlying34 Try.sizeOf114 rfl (by first | (simp; done) | (simp; omega) | omega) rfl hy43) rfl ?_
        refine PWl.step (LR.loadRpT (enc := TRun.e) (L := ((([] : List TRun) ++ a1) ++ b2)) (y := x42) Try.isAgg114 Try.sizeOf114 rfl rfl hy43.2) rfl ?_
        replace h := iDet h
        obtain ⟨v44, hy45, h⟩ := h
        refine PWl.step (LR.callN (r06_may_ok x42 v44 hy45) rfl Try.call125 rfl rfl rfl rfl) rfl ?_
        refine PWl.nil ?_
        refine PWc.cond rfl (fun hc46 => ?_) (fun hc46 => ?_)
        · replace h := iT hc46 h
          refine PWc.seq ?_
          refine PWc.region ?_
          refine PWl.step (LR.move rfl) rfl ?_
          refine PWl.step (LR.move rfl) rfl ?_
          refine PWl.step (LR.move rfl) rfl ?_
          replace h := iIdx h
          obtain ⟨x47, hy48, h⟩ := h
          refine PWl.step (LR.idxRowT (L := ((([] : List TRun) ++ a1) ++ b2)) (y := x47) Try.underlying34 Try.sizeOf114 rfl (by first | (simp; done) | (simp; omega) | omega) rfl hy48) rfl ?_
          refine PWl.step (LR.fieldRp Try.underlying114 rfl Try.sizeOf36 (by decide) rfl rfl) rfl ?_
          refine PWl.step (LR.loadRpF (enc := TRun.e) (L := ((([] : List TRun) ++ a1) ++ b2)) (y := x47) Try.isAgg36 rfl rfl hy48.2 rfl) rfl ?_
          replace h := iDet h
          obtain ⟨v49, hy50, h⟩ := h
          refine PWl.step (LR.rowN (r06_put_ok out38 x47.lo v49 hy50) rfl Try.call176 rfl rfl rfl rfl) rfl ?_
          refine PWl.step (LR.assign rfl) rfl ?_
          refine PWl.nil ?_
          refine PWc.region ?_
          refine PWl.step (LR.move rfl) rfl ?_
          refine PWl.re (tl := [(5, _), (6, _), (7, _), (31, _)]) (to := [(8, _), (30, _)]) rfl (.cons rfl rfl <| .cons rfl rfl <| .cons rfl rfl <| .cons rfl rfl <| .nil) (.cons rfl rfl <| .cons rfl rfl <| .nil) ?_
          refine PWl.step (LR.move rfl) rfl ?_
          refine PWl.step (LR.move rfl) rfl ?_
          replace h := iIdx h
          obtain ⟨x51, hy52, h⟩ := h
          refine PWl.step (LR.idxRowT (L := ((([] : List TRun) ++ a1) ++ b2)) (y := x51) Try.underlying34 Try.sizeOf114 rfl (by first | (simp; done) | (simp; omega) | omega) rfl hy52) rfl ?_
          refine PWl.step (LR.fieldRp Try.underlying114 rfl Try.sizeOf36 (by decide) rfl rfl) rfl ?_
          refine PWl.step (LR.loadRpF (enc := TRun.e) (L := ((([] : List TRun) ++ a1) ++ b2)) (y := x51) Try.isAgg36 rfl rfl hy52.2 rfl) rfl ?_
          refine PWl.step (LR.addW rfl rfl) rfl ?_
          replace h := iDet h
          obtain ⟨v53, hy54, h⟩ := h
          refine PWl.frz [5, 31] hK (.cons rfl <| .cons rfl <| .nil) rfl (by simp) ?_
          refine PWl.step (LR.rowN (r06_put_ok v49 (IntKind.u64.wrap (x51.hi + 1)) v53 hy54) rfl Try.call176 rfl rfl rfl rfl) rfl ?_
          refine PWl.step (LR.assign rfl) rfl ?_
          refine PWl.nil ?_
          exact ⟨v53, (), h, Sub.trans (Sub.frz [5, 38] hK rfl (by simp) (AllRow.get (.cons rfl <| .cons rfl <| .nil))) <| Sub.of rfl (.cons rfl rfl <| .cons rfl (by first | rfl | (simp; done) | (congr 1; first | (simp; done) | (simp; omega))) <| .cons rfl rfl <| .nil) (.cons rfl rfl <| .nil)⟩
        · replace h := iF hc46 h
          refine PWc.skip ?_
          exact ⟨out38, (), h, Sub.of rfl (.cons rfl rfl <| .cons rfl (by first | rfl | (simp; done) | (congr 1; first | (simp; done) | (simp; omega))) <| .cons rfl rfl <| .nil) (.cons rfl rfl <| .nil)⟩
      · rintro out41 _ h
        refine PWc.region ?_
        refine PWl.step (LR.move rfl) rfl ?_
        refine PWl.step (LR.addW rfl rfl) rfl ?_
        refine PWl.step (LR.assign rfl) rfl ?_
        refine PWl.nil ?_
        exact ⟨(out41, (IntKind.i64.wrap (i39 + 1))), (), h, Sub.of rfl (.cons rfl rfl <| .cons rfl (by first | rfl | (simp; done) | (congr 1; first | (simp; done) | (simp; omega))) <| .cons rfl rfl <| .nil) (.cons rfl rfl <| .nil)⟩
    · replace h := iF hc40 h
      refine PWc.exit ?_
      exact ⟨out38, (), h, Sub.of rfl (.cons rfl rfl <| .nil) (.nil)⟩
  · rintro out5 _ h
    refine PWc.seq ?_
    refine PWc.region ?_
    refine PWl.step (LR.move rfl) rfl ?_
    refine PWl.step (LR.assign rfl) rfl ?_
    refine PWl.nil ?_
    refine PWc.ret ?_
    replace h : _ = r0 := h
    subst h
    exact ⟨.inr rfl, _, .cons (.tmp rfl rfl) <| .nil, rfl⟩

theorem r06_set_ok (a1 : List TRun) (b2 : List TRun) (how3 : Int) (r0 : List TRun) (h : (r06_set a1 b2 how3).wp (· = r0)) : PRow Try.prog 123 [.d (.sl (List.map TRun.e a1)), .d (.sl (List.map TRun.e b2)), .d (.v (.int .i64 how3))] 114 2 (List.map TRun.e r0) := by
  refine PRow.intro (sl := [(0, _), (1, _), (2, _)]) Try.func123 rfl Try.ntmps123 rfl rfl ?_
  intro ctx hK
  refine PWc.seq ?_
  refine PWc.region ?_
  refine PWl.step (LR.assignNilRow 114 2 rfl) rfl ?_
  refine PWl.nil ?_
  refine PWc.seq ?_
  refine PWc.region ?_
  refine PWl.step (LR.move rfl) rfl ?_
  refine PWl.step (LR.move rfl) rfl ?_
  replace h := iDet h
  obtain ⟨v4, hy5, h⟩ := h
  refine PWl.step (LR.callN (r06_points_ok a1 b2 v4 hy5) rfl Try.call160 rfl rfl rfl rfl) rfl ?_
  refine PWl.step (LR.assign rfl) rfl ?_
  refine PWl.nil ?_
  refine PWc.seq ?_
  refine PWc.region ?_
  refine PWl.step (LR.assignNilRow 114 2 rfl) rfl ?_
  refine PWl.nil ?_
  refine PWc.seq ?_
  refine PWc.seq ?_
  refine PWc.region ?_
  refine PWl.step (LR.assign rfl) rfl ?_
  refine PWl.nil ?_
  refine PWc.jn (iBind h) (fun (out6 : List TRun) (_ : Unit) => ⟨100, [(8, .row 8 (List.length out6))], [(8, .row 114 2 (List.map TRun.e out6))]⟩) (fun h => ?_) ?_
  · refine PWc.block ?_
    refine PWc.loopM (fun (⟨i85, out86⟩ : Int × List TRun) (_ : Unit) => ⟨100, [(0, .d (.sl (List.map TRun.e a1))), (1, .d (.sl (List.map TRun.e b2))), (2, .d (.v (.int .i64 how3))), (7, .d (.sl (List.map (eK .u64) v4))), (8, .row 8 (List.length out86)), (9, .d (.v (.int .i64 i85)))], [(8, .row 114 2 (List.map TRun.e out86))]⟩) () h (Sub.of rfl (.cons rfl rfl <| .cons rfl rfl <| .cons rfl rfl <| .cons rfl rfl <| .cons rfl rfl <| .cons rfl rfl <| .nil) (.cons rfl rfl <| .nil)) ?_
    rintro N ⟨i85, out86⟩ _ h
    refine PWc.seq ?_
    refine PWc.seq ?_
    refine PWc.region ?_
    refine PWl.step (LR.move rfl) rfl ?_
    refine PWl.step (LR.addW rfl rfl) rfl ?_
    refine PWl.step (LR.move rfl) rfl ?_
    refine PWl.step (LR.lenMap (enc := (eK .u64)) (L := v4) Try.underlying180 rfl) rfl ?_
    refine PWl.step (LR.lss rfl rfl) rfl ?_
    refine PWl.nil ?_
    refine PWc.cond rfl (fun hc87 => ?_) (fun hc87 => ?_)
    · replace h := iT hc87 h
      refine PWc.skip ?_
      refine PWc.seq ?_
      refine PWc.jn (iBind h) (fun (out88 : List TRun) (_ : Unit) => ⟨100, [(0, .d (.sl (List.map TRun.e a1))), (1, .d (.sl (List.map TRun.e b2))), (2, .d (.v (.int .i64 how3))), (7, .d (.sl (List.map (eK .u64) v4))), (8, .row 8 (List.length out88)), (9, .d (.v (.int .i64 i85)))], [(8, .row 114 2 (List.map TRun.e out88))]⟩) (fun h => ?_) ?_
      · refine PWc.block ?_
        refine PWc.seq ?_
        refine PWc.regionD (by kernel_rfl) (by kernel_rfl) ?_
        refine PQl.step (fun _ he ho => LR.move (he rfl rfl)) rfl ?_
        refine PQl.step (fun _ he ho => LR.move (he rfl rfl)) rfl ?_
        refine PQl.step (fun _ he ho => LR.move (he rfl rfl)) rfl ?_
        replace h := iIdx h
        obtain ⟨x89, hy90, h⟩ := h
        refine PQl.step (fun _ he ho => LR.idxT (enc := (eK .u64)) (L := v4) (y := x89) Try.underlying180 Try.sizeOf36 (he rfl rfl) (he rfl rfl) hy90 (fun _ => rfl)) rfl ?_
        refine PQl.step (fun _ he ho => LR.loadEp Try.isAgg36 (he rfl rfl) rfl) rfl ?_
        replace h := iDet h
        obtain ⟨v91, hy92, h⟩ := h
        refine PQl.step (fun _ he ho => LR.callN (r06_Has_ok a1 x89 v91 hy92) (he rfl rfl) Try.call80 (evsE he rfl rfl) rfl rfl rfl) rfl ?_
        refine PQl.step (fun _ he ho => LR.move (he rfl rfl)) rfl ?_
        refine PQl.step (fun _ he ho => LR.move (he rfl rfl)) rfl ?_
        refine PQl.step (fun _ he ho => LR.move (he rfl rfl)) rfl ?_
        replace h := iIdx h
        obtain ⟨x93, hy94, h⟩ := h
        refine PQl.step (fun _ he ho => LR.idxT (enc := (eK .u64)) (L := v4) (y := x93) Try.underlying180 Try.sizeOf36 (he rfl rfl) (he rfl rfl) hy94 (fun _ => rfl)) rfl ?_
        refine PQl.step (fun _ he ho => LR.loadEp Try.isAgg36 (he rfl rfl) rfl) rfl ?_
        replace h := iDet h
        obtain ⟨v95, hy96, h⟩ := h
        refine PQl.step (fun _ he ho => LR.callN (r06_Has_ok b2 x93 v95 hy96) (he rfl rfl) Try.call80 (evsE he rfl rfl) rfl rfl rfl) rfl ?_
        refine PQl.step (fun _ he ho => LR.assign (he rfl rfl)) rfl ?_
        refine PQl.step (fun _ he ho => LR.assign (he rfl rfl)) rfl ?_
        refine PQl.nil ?_
        refine PWc.seq ?_
        refine PWc.re (tl := [(0, _), (1, _), (2, _), (7, _), (8, _), (9, _), (10, _), (11, _)]) (to := [(8, _)]) rfl (.cons rfl rfl <| .cons rfl rfl <| .cons rfl rfl <| .cons rfl rfl <| .cons rfl rfl <| .cons rfl rfl <| .cons rfl rfl <| .cons rfl rfl <| .nil) (.cons rfl rfl <| .nil) ?_
        refine PWc.jn (iBind h) (fun (in97 : Bool) (_ : Unit) => ⟨100, [(0, .d (.sl (List.map TRun.e a1))), (1, .d (.sl (List.map TRun.e b2))), (2, .d (.v (.int .i64 how3))), (7, .d (.sl (List.map (eK .u64) v4))), (8, .row 8 (List.length out86)), (9, .d (.v (.int .i64 i85))), (10, .d (.v (.bool v91))), (11, .d (.v (.bool v95))), (12, .d (.v (.bool in97)))], [(8, .row 114 2 (List.map TRun.e out86))]⟩) (fun h => ?_) ?_
        · refine PWc.region ?_
          refine PWl.step (LR.move rfl) rfl ?_
          refine PWl.step (LR.move rfl) rfl ?_
          refine PWl.split (d := 37) rfl (fun hg98 => ?_) (fun hg98 => ?_)
          · replace h := iT hg98 h
            refine PWl.guardF rfl rfl rfl (by decide) ?_
            refine PWl.step (LR.pickT rfl rfl) rfl ?_
            refine PWl.step (LR.assign rfl) rfl ?_
            refine PWl.nil ?_
            exact ⟨true, (), h, Sub.of rfl (.cons rfl rfl <| .cons rfl rfl <| .cons rfl rfl <| .cons rfl rfl <| .cons rfl rfl <| .cons rfl rfl <| .cons rfl rfl <| .cons rfl rfl <| .cons rfl rfl <| .nil) (.cons rfl rfl <| .nil)⟩
          · replace h := iF hg98 h
            refine PWl.guardT (LR.move rfl) rfl rfl rfl ?_
            refine PWl.step (LR.pickF rfl rfl) rfl ?_
            refine PWl.step (LR.assign rfl) rfl ?_
            refine PWl.nil ?_
            exact ⟨v95, (), h, Sub.of rfl (.cons rfl rfl <| .cons rfl rfl <| .cons rfl rfl <| .cons rfl rfl <| .cons rfl rfl <| .cons rfl rfl <| .cons rfl rfl <| .cons rfl rfl <| .cons rfl rfl <| .nil) (.cons rfl rfl <| .nil)⟩
        · rintro in97 _ h
          refine PWc.seq ?_
          refine PWc.seq ?_
          refine PWc.region ?_
          refine PWl.step (LR.move rfl) rfl ?_
          refine PWl.step (LR.eql rfl rfl) rfl ?_
          refine PWl.nil ?_
          refine PWc.jn (iBind h) (fun (in99 : Bool) (_ : Unit) => ⟨100, [(0, .d (.sl (List.map TRun.e a1))), (1, .d (.sl (List.map TRun.e b2))), (2, .d (.v (.int .i64 how3))), (7, .d (.sl (List.map (eK .u64) v4))), (8, .row 8 (List.length out86)), (9, .d (.v (.int .i64 i85))), (10, .d (.v (.bool v91))), (11, .d (.v (.bool v95))), (12, .d (.v (.bool in99)))], [(8, .row 114 2 (List.map TRun.e out86))]⟩) (fun h => ?_) ?_
          · refine PWc.cond rfl (fun hc100 => ?_) (fun hc100 => ?_)
            · replace h := iT hc100 h
              refine PWc.jn (iBind h) (fun (in101 : Bool) (_ : Unit) => ⟨100, [(0, .d (.sl (List.map TRun.e a1))), (1, .d (.sl (List.map TRun.e b2))), (2, .d (.v (.int .i64 how3))), (7, .d (.sl (List.map (eK .u64) v4))), (8, .row 8 (List.length out86)), (9, .d (.v (.int .i64 i85))), (10, .d (.v (.bool v91))), (11, .d (.v (.bool v95))), (12, .d (.v (.bool in101)))], [(8, .row 114 2 (List.map TRun.e out86))]⟩) (fun h => ?_) ?_
              · refine PWc.region ?_
                refine PWl.step (LR.move rfl) rfl ?_
                refine PWl.step (LR.move rfl) rfl ?_
                refine PWl.split (d := 43) rfl (fun hg102 => ?_) (fun hg102 => ?_)
                · replace h := iT hg102 h
                  refine PWl.guardT (LR.move rfl) rfl rfl rfl ?_
                  refine PWl.step (LR.pickT rfl rfl) rfl ?_
                  refine PWl.step (LR.assign rfl) rfl ?_
                  refine PWl.nil ?_
                  exact ⟨v95, (), h, Sub.of rfl (.cons rfl rfl <| .cons rfl rfl <| .cons rfl rfl <| .cons rfl rfl <| .cons rfl rfl <| .cons rfl rfl <| .cons rfl rfl <| .cons rfl rfl <| .cons rfl rfl <| .nil) (.cons rfl rfl <| .nil)⟩
                · replace h := iF hg102 h
                  refine PWl.guardF rfl rfl rfl (by decide) ?_
                  refine PWl.step (LR.pickF rfl rfl) rfl ?_
                  refine PWl.step (LR.assign rfl) rfl ?_
                  refine PWl.nil ?_
                  exact ⟨false, (), h, Sub.of rfl (.cons rfl rfl <| .cons rfl rfl <| .cons rfl rfl <| .cons rfl rfl <| .cons rfl rfl <| .cons rfl rfl <| .cons rfl rfl <| .cons rfl rfl <| .cons rfl rfl <| .nil) (.cons rfl rfl <| .nil)⟩
              · rintro in101 _ h
                exact ⟨in101, (), h, Sub.of rfl (.cons rfl rfl <| .cons rfl rfl <| .cons rfl rfl <| .cons rfl rfl <| .cons rfl rfl <| .cons rfl rfl <| .cons rfl rfl <| .cons rfl rfl <| .cons rfl rfl <| .nil) (.cons rfl rfl <| .nil)⟩
            · replace h := iF hc100 h
              refine PWc.skip ?_
              exact ⟨in97, (), h, Sub.of rfl (.cons rfl rfl <| .cons rfl rfl <| .cons rfl rfl <| .cons rfl rfl <| .cons rfl rfl <| .cons rfl rfl <| .cons rfl rfl <| .cons rfl rfl <| .cons rfl rfl <| .nil) (.cons rfl rfl <| .nil)⟩
          · rintro in99 _ h
            refine PWc.seq ?_
            refine PWc.seq ?_
            refine PWc.region ?_
            refine PWl.step (LR.move rfl) rfl ?_
            refine PWl.step (LR.eql rfl rfl) rfl ?_
            refine PWl.nil ?_
            refine PWc.jn (iBind h) (fun (in103 : Bool) (_ : Unit) => ⟨100, [(0, .d (.sl (List.map TRun.e a1))), (1, .d (.sl (List.map TRun.e b2))), (2, .d (.v (.int .i64 how3))), (7, .d (.sl (List.map (eK .u64) v4))), (8, .row 8 (List.length out86)), (9, .d (.v (.int .i64 i85))), (12, .d (.v (.bool in103)))], [(8, .row 114 2 (List.map TRun.e out86))]⟩) (fun h => ?_) ?_
            · refine PWc.cond rfl (fun hc104 => ?_) (fun hc104 => ?_)
              · replace h := iT hc104 h
                refine PWc.jn (iBind h) (fun (in105 : Bool) (_ : Unit) => ⟨100, [(0, .d (.sl (List.map TRun.e a1))), (1, .d (.sl (List.map TRun.e b2))), (2, .d (.v (.int .i64 how3))), (7, .d (.sl (List.map (eK .u64) v4))), (8, .row 8 (List.length out86)), (9, .d (.v (.int .i64 i85))), (12, .d (.v (.bool in105)))], [(8, .row 114 2 (List.map TRun.e out86))]⟩) (fun h => ?_) ?_
                · refine PWc.region ?_
                  refine PWl.step (LR.move rfl) rfl ?_
                  refine PWl.step (LR.move rfl) rfl ?_
                  refine PWl.split (d := 49) rfl (fun hg106 => ?_) (fun hg106 => ?_)
                  · replace h := iT hg106 h
                    refine PWl.guardT (LR.move rfl) rfl rfl rfl ?_
                    refine PWl.guardT (LR.not rfl) rfl rfl rfl ?_
                    refine PWl.step (LR.pickT rfl rfl) rfl ?_
                    refine PWl.step (LR.assign rfl) rfl ?_
                    refine PWl.nil ?_
                    exact ⟨(!v95), (), h, Sub.of rfl (.cons rfl rfl <| .cons rfl rfl <| .cons rfl rfl <| .cons rfl rfl <| .cons rfl rfl <| .cons rfl rfl <| .cons rfl rfl <| .nil) (.cons rfl rfl <| .nil)⟩
                  · replace h := iF hg106 h
                    refine PWl.guardF rfl rfl rfl (by decide) ?_
                    refine PWl.guardF rfl rfl rfl (by decide) ?_
                    refine PWl.step (LR.pickF rfl rfl) rfl ?_
                    refine PWl.step (LR.assign rfl) rfl ?_
                    refine PWl.nil ?_
                    exact ⟨false, (), h, Sub.of rfl (.cons rfl rfl <| .cons rfl rfl <| .cons rfl rfl <| .cons rfl rfl <| .cons rfl rfl <| .cons rfl rfl <| .cons rfl rfl <| .nil) (.cons rfl rfl <| .nil)⟩
                · rintro in105 _ h
                  exact ⟨in105, (), h, Sub.of rfl (.cons rfl rfl <| .cons rfl rfl <| .cons rfl rfl <| .cons rfl rfl <| .cons rfl rfl <| .cons rfl rfl <| .cons rfl rfl <| .nil) (.cons rfl rfl <| .nil)⟩
              · replace h := iF hc104 h
                refine PWc.skip ?_
                exact ⟨in99, (), h, Sub.of rfl (.cons rfl rfl <| .cons rfl rfl <| .cons rfl rfl <| .cons rfl rfl <| .cons rfl rfl <| .cons rfl rfl <| .cons rfl rfl <| .nil) (.cons rfl rfl <| .nil)⟩
            · rintro in103 _ h
              refine PWc.seq ?_
              refine PWc.region ?_
              refine PWl.step (LR.move rfl) rfl ?_
              refine PWl.step (LR.lenRow Try.underlying34 rfl) rfl ?_
              refine PWl.step (LR.subW rfl rfl) rfl ?_
              refine PWl.step (LR.assign rfl) rfl ?_
              refine PWl.nil ?_
              refine PWc.seq ?_
              refine PWc.jn (iBind h) (fun (v107 : Bool) (_ : Unit) => ⟨100, [(0, .d (.sl (List.map TRun.e a1))), (1, .d (.sl (List.map TRun.e b2))), (2, .d (.v (.int .i64 how3))), (7, .d (.sl (List.map (eK .u64) v4))), (8, .row 8 (List.length out86)), (9, .d (.v (.int .i64 i85))), (12, .d (.v (.bool in103))), (13, .d (.v (.int .i64 ((IntKind.i64.wrap (((List.length out86) : Int) - 1)))))), (73, .d (.v (.bool v107)))], [(8, .row 114 2 (List.map TRun.e out86))]⟩) (fun h => ?_) ?_
              · refine PWc.regionD (by kernel_rfl) (by kernel_rfl) ?_
                refine PQl.step (fun _ he ho => LR.move (he rfl rfl)) rfl ?_
                refine PQl.step (fun _ he ho => LR.move (he rfl rfl)) rfl ?_
                refine PQl.split (d := 57) rfl (fun hg108 => ?_) (fun hg108 => ?_)
                · replace h := iT hg108 h
                  refine PQl.guardT (fun _ he ho => LR.move (he rfl rfl)) rfl rfl rfl ?_
                  refine PQl.guardT (fun _ he ho => LR.geq (he rfl rfl) (he rfl rfl)) rfl rfl rfl ?_
                  refine PQl.step (fun _ he ho => LR.pickT (he rfl rfl) (he rfl rfl)) rfl ?_
                  refine PQl.step (fun _ he ho => LR.move (he rfl rfl)) rfl ?_
                  refine PQl.split (d := 61) rfl (fun hg109 => ?_) (fun hg109 => ?_)
                  · replace h := iT hg109 h
                    refine PQl.guardT (fun _ he ho => LR.move (he rfl rfl)) rfl rfl rfl ?_
                    refine PQl.guardT (fun _ he ho => LR.move (he rfl rfl)) rfl rfl rfl ?_
                    replace h := iIdx h
                    obtain ⟨x110, hy111, h⟩ := h
                    refine PQl.guardT (fun _ he ho => LR.idxRowT (L := out86) (y := x110) Try.underlying34 Try.sizeOf114 (he rfl rfl) rfl (he rfl rfl) hy111) rfl rfl rfl ?_
                    refine PQl.guardT (fun _ he ho => LR.fieldRp Try.underlying114 rfl Try.sizeOf36 (by decide) rfl (he rfl rfl)) rfl rfl rfl ?_
                    refine PQl.guardT (fun _ he ho => LR.loadRpF (enc := TRun.e) (L := out86) (y := x110) Try.isAgg36 (he rfl rfl) (ho rfl) hy111.2 rfl) rfl rfl rfl ?_
                    refine PQl.guardT (fun _ he ho => LR.addW (he rfl rfl) (he rfl rfl)) rfl rfl rfl ?_
                    refine PQl.guardT (fun _ he ho => LR.move (he rfl rfl)) rfl rfl rfl ?_
                    refine PQl.guardT (fun _ he ho => LR.move (he rfl rfl)) rfl rfl rfl ?_
                    replace h := iIdx h
                    obtain ⟨x112, hy113, h⟩ := h
                    refine PQl.guardT (fun _ he ho => LR.idxT (enc := (eK .u64)) (L := v4) (y := x112) Try.underlying180 Try.sizeOf36 (he rfl rfl) (he rfl rfl) hy113 (fun _ => rfl)) rfl rfl rfl ?_
                    refine PQl.guardT (fun _ he ho => LR.loadEp Try.isAgg36 (he rfl rfl) rfl) rfl rfl rfl ?_
                    refine PQl.guardT (fun _ he ho => LR.eql (he rfl rfl) (he rfl rfl)) rfl rfl rfl ?_
                    refine PQl.step (fun _ he ho => LR.pickT (he rfl rfl) (he rfl rfl)) rfl ?_
                    refine PQl.nil ?_
                    exact ⟨(decide ((IntKind.u64.wrap (x110.hi + 1)) = x112)), (), h, Sub.of rfl (.cons rfl rfl <| .cons rfl rfl <| .cons rfl rfl <| .cons rfl rfl <| .cons rfl rfl <| .cons rfl rfl <| .cons rfl rfl <| .cons rfl rfl <| .cons rfl rfl <| .nil) (.cons rfl rfl <| .nil)⟩
                  · replace h := iF hg109 h
                    refine PQl.guardF rfl rfl rfl (by decide) ?_
                    refine PQl.guardF rfl rfl rfl (by decide) ?_
                    refine PQl.guardF rfl rfl rfl (by decide) ?_
                    refine PQl.guardF rfl rfl rfl (by decide) ?_
                    refine PQl.guardF rfl rfl rfl (by decide) ?_
                    refine PQl.guardF rfl rfl rfl (by decide) ?_
                    refine PQl.guardF rfl rfl rfl (by decide) ?_
                    refine PQl.guardF rfl rfl rfl (by decide) ?_
                    refine PQl.guardF rfl rfl rfl (by decide) ?_
                    refine PQl.guardF rfl rfl rfl (by decide) ?_
                    refine PQl.guardF rfl rfl rfl (by decide) ?_
                    refine PQl.step (fun _ he ho => LR.pickF (he rfl rfl) (he rfl rfl)) rfl ?_
                    refine PQl.nil ?_
                    exact ⟨false, (), h, Sub.of rfl (.cons rfl rfl <| .cons rfl rfl <| .cons rfl rfl <| .cons rfl rfl <| .cons rfl rfl <| .cons rfl rfl <| .cons rfl rfl <| .cons rfl rfl <| .cons rfl rfl <| .nil) (.cons rfl rfl <| .nil)⟩
                · replace h := iF hg108 h
                  refine PQl.guardF rfl rfl rfl (by decide) ?_
                  refine PQl.guardF rfl rfl rfl (by decide) ?_
                  refine PQl.step (fun _ he ho => LR.pickF (he rfl rfl) (he rfl rfl)) rfl ?_
                  refine PQl.step (fun _ he ho => LR.move (he rfl rfl)) rfl ?_
                  refine PQl.guardF rfl rfl rfl (by decide) ?_
                  refine PQl.guardF rfl rfl rfl (by decide) ?_
                  refine PQl.guardF rfl rfl rfl (by decide) ?_
                  refine PQl.guardF rfl rfl rfl (by decide) ?_
                  refine PQl.guardF rfl rfl rfl (by decide) ?_
                  refine PQl.guardF rfl rfl rfl (by decide) ?_
                  refine PQl.guardF rfl rfl rfl (by decide) ?_
                  refine PQl.guardF rfl rfl rfl (by decide) ?_
                  refine PQl.guardF rfl rfl rfl (by decide) ?_
                  refine PQl.guardF rfl rfl rfl (by decide) ?_
                  refine PQl.guardF rfl rfl rfl (by decide) ?_
                  refine PQl.step (fun _ he ho => LR.pickF (he rfl rfl) (he rfl rfl)) rfl ?_
                  refine PQl.nil ?_
                  exact ⟨false, (), h, Sub.of rfl (.cons rfl rfl <| .cons rfl rfl <| .cons rfl rfl <| .cons rfl rfl <| .cons rfl rfl <| .cons rfl rfl <| .cons rfl rfl <| .cons rfl rfl <| .cons rfl rfl <| .nil) (.cons rfl rfl <| .nil)⟩
              · rintro v107 _ h
                refine PWc.cond rfl (fun hc114 => ?_) (fun hc114 => ?_)
                · replace h := iT hc114 h
                  refine PWc.region ?_
                  refine PWl.step (LR.move rfl) rfl ?_
                  refine PWl.step (LR.move rfl) rfl ?_
                  refine PWl.step (LR.move rfl) rfl ?_
                  refine PWl.step (LR.move rfl) rfl ?_
                  refine PWl.step (LR.addW rfl rfl) rfl ?_
                  replace h := iIdx h
                  obtain ⟨x115, hy116, h⟩ := h
                  refine PWl.step (LR.idxT (enc := (eK .u64)) (L := v4) (y := x115) Try.underlying180 Try.sizeOf36 rfl rfl hy116 (fun _ => rfl)) rfl ?_
                  refine PWl.step (LR.loadEp Try.isAgg36 rfl rfl) rfl ?_
                  refine PWl.step (LR.subW rfl rfl) rfl ?_
                  replace h := iIdx h
                  obtain ⟨x117, hy118, h⟩ := h
                  refine PWl.step (LR.idxRowT (L := out86) (y := x117) Try.underlying34 Try.sizeOf114 rfl rfl rfl hy118) rfl ?_
                  refine PWl.step (LR.fieldRp Try.underlying114 rfl Try.sizeOf36 (by decide) rfl rfl) rfl ?_
                  refine PWl.step (LR.storeRpT (enc := TRun.e) (L := out86) (a := x117) (b := (⟨x117.lo, (IntKind.u64.wrap (x115 - 1))⟩ : TRun)) Try.sizeOf36 rfl rfl rfl rfl rfl hy118.2 rfl rfl) rfl ?_
                  refine PWl.nil ?_
                  exact ⟨(List.set out86 ((Int.toNat ((IntKind.i64.wrap (((List.length out86) : Int) - 1))))) ((⟨x117.lo, (IntKind.u64.wrap (x115 - 1))⟩ : TRun))), (), h, Sub.of rfl (.cons rfl rfl <| .cons rfl rfl <| .cons rfl rfl <| .cons rfl rfl <| .cons rfl (by first | rfl | (simp; done) | (congr 1; first | (simp; done) | (simp; omega))) <| .cons rfl rfl <| .nil) (.cons rfl rfl <| .nil)⟩
                · replace h := iF hc114 h
                  refine PWc.seq ?_
                  refine PWc.region ?_
                  refine PWl.step (LR.move rfl) rfl ?_
                  refine PWl.nil ?_
                  refine PWc.cond rfl (fun hc119 => ?_) (fun hc119 => ?_)
                  · replace h := iT hc119 h
                    refine PWc.re (tl := [(0, _), (1, _), (2, _), (7, _), (8, _), (9, _)]) (to := [(8, _)]) rfl (.cons rfl rfl <| .cons rfl rfl <| .cons rfl rfl <| .cons rfl rfl <| .cons rfl rfl <| .cons rfl rfl <| .nil) (.cons rfl rfl <| .nil) ?_
                    refine PWc.regionE [⟨[85], [], [], [], [], [8], [], []⟩, ⟨[86], [], [], [], [], [], [], []⟩, ⟨[87], [], [], [], [], [], [], []⟩, ⟨[88], [], [], [], [], [], [], []⟩, ⟨[89], [], [], [], [], [], [], []⟩, ⟨[90], [], [], [], [], [], [], []⟩, ⟨[91], [], [], [], [], [], [], []⟩, ⟨[92], [], [], [], [], [], [], []⟩, ⟨[93], [], [], [], [], [], [], []⟩, ⟨[94], [], [], [], [], [], [], []⟩, ⟨[95], [], [], [], [], [], [], []⟩, ⟨[96], [], [], [], [], [], [], []⟩, ⟨[97], [], [], [], [], [], [], []⟩, ⟨[8, 85, 98], [8], [8], [], [(8, [8, 85])], [8], [], []⟩, ⟨[8], [], [], [], [], [8], [], []⟩] (by kernel_rfl) (by kernel_rfl) rfl ?_
                    refine PQe.stepP (fun _ he ho => LR.move (he rfl rfl)) (.inl rfl) rfl ?_
                    refine PQe.stepP (fun _ he ho => LR.move (he rfl rfl)) (.inl rfl) rfl ?_
                    refine PQe.stepP (fun _ he ho => LR.move (he rfl rfl)) (.inl rfl) rfl ?_
                    replace h := iIdx h
                    obtain ⟨x120, hy121, h⟩ := h
                    refine PQe.stepP (fun _ he ho => LR.idxT (enc := (eK .u64)) (L := v4) (y := x120) Try.underlying180 Try.sizeOf36 (he rfl rfl) (he rfl rfl) hy121 (fun _ => rfl)) (.inl rfl) rfl ?_
                    refine PQe.stepP (fun _ he ho => LR.loadEp Try.isAgg36 (he rfl rfl) rfl) (.inl rfl) rfl ?_
                    refine PQe.stepP (fun _ he ho => LR.move (he rfl rfl)) (.inl rfl) rfl ?_
                    refine PQe.stepP (fun _ he ho => LR.move (he rfl rfl)) (.inl rfl) rfl ?_
                    refine PQe.stepP (fun _ he ho => LR.addW (he rfl rfl) (he rfl rfl)) (.inl rfl) rfl ?_
                    replace h := iIdx h
                    obtain ⟨x122, hy123, h⟩ := h
                    refine PQe.stepP (fun _ he ho => LR.idxT (enc := (eK .u64)) (L := v4) (y := x122) Try.underlying180 Try.sizeOf36 (he rfl rfl) (he rfl rfl) hy123 (fun _ => rfl)) (.inl rfl) rfl ?_
                    refine PQe.stepP (fun _ he ho => LR.loadEp Try.isAgg36 (he rfl rfl) rfl) (.inl rfl) rfl ?_
                    refine PQe.stepP (fun _ he ho => LR.subW (he rfl rfl) (he rfl rfl)) (.inl rfl) rfl ?_
                    refine PQe.stepP (fun _ he ho => LR.build (ns := [_, _]) build114 rfl (evpE he rfl rfl) rfl) (.inl rfl) rfl ?_
                    refine PQe.stepP (fun _ he ho => LR.buildSliceD [.tmp 96] elem34 rfl rfl (.cons (he rfl rfl) rfl rfl <| .nil) (by decide) (by decide)) (.inl rfl) rfl ?_
                    replace h := iNeed h
                    obtain ⟨hy124, h⟩ := h
                    refine PQe.stepA [8, 85] (fun _ he ho ha => LR.appT (enc := TRun.e) (L := out86) (R := [(⟨x120, (IntKind.u64.wrap (x122 - 1))⟩ : TRun)]) [8, 85] elem34 Try.underlying34 (he rfl rfl) rfl (ho rfl rfl) (Src.slT (enc := TRun.e) (R := [(⟨x120, (IntKind.u64.wrap (x122 - 1))⟩ : TRun)]) (he rfl rfl) (fun _ => rfl)) (fun _ => rfl) hy124 rfl ha) rfl (.inl rfl) rfl ?_
                    refine PQe.stepP (fun _ he ho => LR.assign (he rfl rfl)) (.inl rfl) rfl ?_
                    refine PQe.nil ?_
                    exact ⟨(out86 ++ [(⟨x120, (IntKind.u64.wrap (x122 - 1))⟩ : TRun)]), (), h, Sub.of rfl (.cons rfl rfl <| .cons rfl rfl <| .cons rfl rfl <| .cons rfl rfl <| .cons rfl (by first | rfl | (simp; done) | (congr 1; first | (simp; done) | (simp; omega))) <| .cons rfl rfl <| .nil) (.cons rfl rfl <| .nil)⟩
                  · replace h := iF hc119 h
                    refine PWc.skip ?_
                    exact ⟨out86, (), h, Sub.of rfl (.cons rfl rfl <| .cons rfl rfl <| .cons rfl rfl <| .cons rfl rfl <| .cons rfl rfl <| .cons rfl rfl <| .nil) (.cons rfl rfl <| .nil)⟩
      · rintro out88 _ h
        refine PWc.region ?_
        refine PWl.step (LR.move rfl) rfl ?_
        refine PWl.step (LR.addW rfl rfl) rfl ?_
        refine PWl.step (LR.assign rfl) rfl ?_
        refine PWl.nil ?_
        exact ⟨((IntKind.i64.wrap (i85 + 1)), out88), (), h, Sub.of rfl (.cons rfl rfl <| .cons rfl rfl <| .cons rfl rfl <| .cons rfl rfl <| .cons rfl rfl <| .cons rfl rfl <| .nil) (.cons rfl rfl <| .nil)⟩
    · replace h := iF hc87 h
      refine PWc.exit ?_
      exact ⟨out86, (), h, Sub.of rfl (.cons rfl rfl <| .nil) (.cons rfl rfl <| .nil)⟩
  · rintro out6 _ h
    refine PWc.seq ?_
    refine PWc.region ?_
    refine PWl.step (LR.move rfl) rfl ?_
    refine PWl.step (LR.assign rfl) rfl ?_
    refine PWl.nil ?_
    refine PWc.ret ?_
    replace h : _ = r0 := h
    subst h
    exact ⟨.inr rfl, 6, rfl, .inr ⟨8, _, rfl, (by simp), rfl⟩⟩

theorem r06_Join_ok (a1 : List TRun) (b2 : List TRun) (r0 : List TRun) (h : (r06_Join a1 b2).wp (· = r0)) : PRow Try.prog 73 [.d (.sl (List.map TRun.e a1)), .d (.sl (List.map TRun.e b2))] 114 2 (List.map TRun.e r0) := by
  refine PRow.intro (sl := [(0, _), (1, _)]) Try.func73 rfl Try.ntmps73 rfl rfl ?_
  intro ctx hK
  refine PWc.seq ?_
  refine PWc.region ?_
  refine PWl.step (LR.assignNilRow 114 2 rfl) rfl ?_
  refine PWl.nil ?_
  refine PWc.seq ?_
  refine PWc.region ?_
  refine PWl.step (LR.move rfl) rfl ?_
  refine PWl.step (LR.move rfl) rfl ?_
  replace h := iDet h
  obtain ⟨v3, hy4, h⟩ := h
  refine PWl.step (LR.rowN (r06_set_ok a1 b2 0 v3 hy4) rfl Try.call123 rfl rfl rfl rfl) rfl ?_
  refine PWl.re (tl := [(0, _), (1, _), (5, _), (6, _), (7, _)]) (to := [(7, _)]) rfl (.cons rfl rfl <| .cons rfl rfl <| .cons rfl rfl <| .cons rfl rfl <| .cons rfl rfl <| .nil) (.cons rfl rfl <| .nil) ?_
  refine PWl.step (LR.assign rfl) rfl ?_
  refine PWl.nil ?_
  refine PWc.ret ?_
  replace h : _ = r0 := h
  subst h
  exact ⟨.inr rfl, 4, rfl, .inr ⟨7, _, rfl, (by simp), rfl⟩⟩
end Go.Proofs


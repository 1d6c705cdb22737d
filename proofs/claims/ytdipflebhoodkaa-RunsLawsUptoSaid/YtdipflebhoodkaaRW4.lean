/- Walks: written by program. -/
import Derived.Test.YtdipflebhoodkaaRFc
import Derived.Test.YtdipflebhoodkaaRSh
import Derived.Test.YtdipflebhoodkaaRSx
import Derived.Test.YtdipflebhoodkaaDr
import Derived.Test.YtdipflebhoodkaaRW3
namespace Go.Proofs
open Go.Ep
set_option maxHeartbeats 1000000
set_option maxRecDepth 100000
set_option linter.unusedVariables false
set_option linter.unusedSimpArgs false


theorem slices_Equal_sl_Run_Run_ok (s1_1 : List TRun) (s2_2 : List TRun) (r0 : Bool) (h : (slices_Equal_sl_Run_Run s1_1 s2_2).wp (· = r0)) : PFun Try.prog 109 [.d (.sl (List.map TRun.e s1_1)), .d (.sl (List.map TRun.e s2_2))] (.d (.v (.bool r0))) := by
  refine PFun.intro (sl := [(0, _), (1, _)]) Try.func109 rfl Try.ntmps109 rfl rfl ?_
  intro ctx hK
  refine PWc.seq ?_
  refine PWc.region ?_
  refine PWl.step (LR.assign rfl) rfl ?_
  refine PWl.nil ?_
  refine PWc.seq ?_
  refine PWc.seq ?_
  refine PWc.region ?_
  refine PWl.step (LR.move rfl) rfl ?_
  refine PWl.step (LR.lenMap (enc := TRun.e) (L := s1_1) Try.underlying29 rfl) rfl ?_
  refine PWl.step (LR.move rfl) rfl ?_
  refine PWl.step (LR.lenMap (enc := TRun.e) (L := s2_2) Try.underlying29 rfl) rfl ?_
  refine PWl.step (LR.neq rfl rfl) rfl ?_
  refine PWl.nil ?_
  refine PWc.cond rfl (fun hc3 => ?_) (fun hc3 => ?_)
  · replace h := iT hc3 h
    refine PWc.seq ?_
    refine PWc.region ?_
    refine PWl.step (LR.assign rfl) rfl ?_
    refine PWl.nil ?_
    refine PWc.ret ?_
    replace h : _ = r0 := h
    subst h
    exact ⟨.inr rfl, _, .cons (.tmp rfl rfl) <| .nil, rfl⟩
  · replace h := iF hc3 h
    refine PWc.skip ?_
    refine PWc.seq ?_
    refine PWc.seq ?_
    refine PWc.region ?_
    refine PWl.step (LR.move rfl) rfl ?_
    refine PWl.step (LR.lenMap (enc := TRun.e) (L := s1_1) Try.underlying29 rfl) rfl ?_
    refine PWl.step (LR.move rfl) rfl ?_
    refine PWl.nil ?_
    refine PWc.jnX (iBind h) (fun (_ : Unit) (_ : Unit) => ⟨26, [], []⟩) (fun h => ?_) ?_
    · refine PWc.block ?_
      refine PWc.loopM (fun (v17 : Int) (_ : Unit) => ⟨26, [(0, .d (.sl (List.map TRun.e s1_1))), (1, .d (.sl (List.map TRun.e s2_2))), (12, .d (.v (.int .i64 (List.length s1_1 : Int)))), (13, .d (.v (.int .i64 v17)))], []⟩) () h (Sub.of rfl (.cons rfl rfl <| .cons rfl rfl <| .cons rfl rfl <| .cons rfl rfl <| .nil) (.nil)) ?_
      rintro N v17 _ h
      refine PWc.seq ?_
      refine PWc.region ?_
      refine PWl.step (LR.lss rfl rfl) rfl ?_
      refine PWl.nil ?_
      refine PWc.seq ?_
      refine PWc.cond rfl (fun hc18 => ?_) (fun hc18 => ?_)
      · replace h := iT hc18 h
        refine PWc.skip ?_
        refine PWc.seq ?_
        refine PWc.block ?_
        refine PWc.seq ?_
        refine PWc.region ?_
        refine PWl.step (LR.move rfl) rfl ?_
        refine PWl.step (LR.assign rfl) rfl ?_
        refine PWl.nil ?_
        refine PWc.seq ?_
        refine PWc.regionD (by kernel_rfl) (by kernel_rfl) ?_
        refine PQl.step (fun _ he ho => LR.move (he rfl rfl)) rfl ?_
        refine PQl.step (fun _ he ho => LR.move (he rfl rfl)) rfl ?_
        replace h := iIdx h
        obtain ⟨x19, hy20, h⟩ := h
        refine PQl.step (fun _ he ho => LR.idxT (enc := TRun.e) (L := s1_1) (y := x19) Try.underlying29 Try.sizeOf40 (he rfl rfl) (he rfl rfl) hy20 (fun _ => rfl)) rfl ?_
        refine PQl.step (fun _ he ho => LR.loadEpAgg (ys := [_, _]) Try.isAgg40 Try.sizeOf40 (he rfl rfl) rfl rfl) rfl ?_
        refine PQl.step (fun _ he ho => LR.move (he rfl rfl)) rfl ?_
        refine PQl.step (fun _ he ho => LR.move (he rfl rfl)) rfl ?_
        replace h := iIdx h
        obtain ⟨x21, hy22, h⟩ := h
        refine PQl.step (fun _ he ho => LR.idxT (enc := TRun.e) (L := s2_2) (y := x21) Try.underlying29 Try.sizeOf40 (he rfl rfl) (he rfl rfl) hy22 (fun _ => rfl)) rfl ?_
        refine PQl.step (fun _ he ho => LR.loadEpAgg (ys := [_, _]) Try.isAgg40 Try.sizeOf40 (he rfl rfl) rfl rfl) rfl ?_
        refine PQl.step (fun _ he ho => LR.neqAgg (he rfl rfl) (he rfl rfl) rfl rfl eq40) rfl ?_
        refine PQl.nil ?_
        refine PWc.cond rfl (fun hc23 => ?_) (fun hc23 => ?_)
        · replace h := iT hc23 h
          refine PWc.seq ?_
          refine PWc.region ?_
          refine PWl.step (LR.assign rfl) rfl ?_
          refine PWl.nil ?_
          refine PWc.ret ?_
          replace h : _ = r0 := h
          subst h
          exact ⟨.inr rfl, _, .cons (.tmp rfl rfl) <| .nil, rfl⟩
        · replace h := iF hc23 h
          refine PWc.skip ?_
          refine PWc.region ?_
          refine PWl.step (LR.addW rfl rfl) rfl ?_
          refine PWl.step (LR.move rfl) rfl ?_
          refine PWl.nil ?_
          exact ⟨(IntKind.i64.wrap (v17 + 1)), (), h, Sub.of rfl (.cons rfl rfl <| .cons rfl rfl <| .cons rfl rfl <| .cons rfl rfl <| .nil) (.nil)⟩
      · replace h := iF hc18 h
        refine PWc.exit ?_
        exact ⟨(), (), h, Sub.of rfl (.nil) (.nil)⟩
    · rintro _ _ h
      refine PWc.seq ?_
      refine PWc.region ?_
      refine PWl.step (LR.assign rfl) rfl ?_
      refine PWl.nil ?_
      refine PWc.ret ?_
      replace h : _ = r0 := h
      subst h
      exact ⟨.inr rfl, _, .cons (.tmp rfl rfl) <| .nil, rfl⟩

theorem runs_Good_ok (l1 : List TRun) (r0 : Bool) (h : (runs_Good l1).wp (· = r0)) : PFun Try.prog 64 [.d (.sl (List.map TRun.e l1))] (.d (.v (.bool r0))) := by
  refine PFun.intro (sl := [(0, _)]) Try.func64 rfl Try.ntmps64 rfl rfl ?_
  intro ctx hK
  refine PWc.seq ?_
  refine PWc.region ?_
  refine PWl.step (LR.assign rfl) rfl ?_
  refine PWl.nil ?_
  refine PWc.seq ?_
  refine PWc.region ?_
  refine PWl.step (LR.move rfl) rfl ?_
  refine PWl.step (LR.move rfl) rfl ?_
  replace h := iDet h
  obtain ⟨v2, hy3, h⟩ := h
  refine PWl.step (LR.rowN (runs_Norm_ok l1 v2 hy3) rfl Try.call62 rfl rfl rfl rfl) rfl ?_
  replace h := iDet h
  obtain ⟨v4, hy5, h⟩ := h
  refine PWl.frz [5] hK (.cons rfl <| .nil) rfl (by simp) ?_
  refine PWl.step (LR.callN (slices_Equal_sl_Run_Run_ok l1 v2 v4 hy5) rfl Try.call109 rfl rfl rfl rfl) rfl ?_
  refine PWl.step (LR.assign rfl) rfl ?_
  refine PWl.nil ?_
  refine PWc.ret ?_
  replace h : _ = r0 := h
  subst h
  exact ⟨.inr rfl, _, .cons (.tmp rfl rfl) <| .nil, rfl⟩

theorem r06_Good_ok (l1 : List TRun) (r0 : Bool) (h : (r06_Good l1).wp (· = r0)) : PFun Try.prog 65 [.d (.sl (List.map TRun.e l1))] (.d (.v (.bool r0))) := by
  refine PFun.intro (sl := [(0, _)]) Try.func65 rfl Try.ntmps65 rfl rfl ?_
  intro ctx hK
  refine PWc.seq ?_
  refine PWc.region ?_
  refine PWl.step (LR.assign rfl) rfl ?_
  refine PWl.nil ?_
  refine PWc.seq ?_
  refine PWc.region ?_
  refine PWl.step (LR.move rfl) rfl ?_
  refine PWl.step (LR.move rfl) rfl ?_
  replace h := iDet h
  obtain ⟨v2, hy3, h⟩ := h
  refine PWl.step (LR.rowN (r06_Norm_ok l1 v2 hy3) rfl Try.call63 rfl rfl rfl rfl) rfl ?_
  replace h := iDet h
  obtain ⟨v4, hy5, h⟩ := h
  refine PWl.frz [5] hK (.cons rfl <| .nil) rfl (by simp) ?_
  refine PWl.step (LR.callN (r06_Eq_ok l1 v2 v4 hy5) rfl Try.call27 rfl rfl rfl rfl) rfl ?_
  refine PWl.step (LR.assign rfl) rfl ?_
  refine PWl.nil ?_
  refine PWc.ret ?_
  replace h : _ = r0 := h
  subst h
  exact ⟨.inr rfl, _, .cons (.tmp rfl rfl) <| .nil, rfl⟩

theorem runs_Has_c1_ok (x1 : TRun) (n2 : Int) (r0 : Int) (h : (runs_Has_c1 x1 n2).wp (· = r0)) : PFun Try.prog 111 [.agg (List.map .d (TRun.e x1)), .d (.v (.int .u64 n2))] (.d (.v (.int .i64 r0))) := by
  refine PFun.intro (sl := [(0, _), (1, _)]) Try.func111 rfl Try.ntmps111 rfl rfl ?_
  intro ctx hK
  refine PWc.seq ?_
  refine PWc.region ?_
  refine PWl.step (LR.box rfl rfl rfl rfl) rfl ?_
  refine PWl.step (LR.assign rfl) rfl ?_
  refine PWl.nil ?_
  refine PWc.seq ?_
  refine PWc.region ?_
  refine PWl.step (LR.fieldRef Try.underlying40 rfl Try.sizeOf34 (by decide) rfl rfl) rfl ?_
  refine PWl.step (LR.loadRef Try.isAgg34 rfl rfl rfl) rfl ?_
  refine PWl.step (LR.move rfl) rfl ?_
  replace h := iDet h
  obtain ⟨v3, hy4, h⟩ := h
  refine PWl.step (LR.callN (cmp_Compare_uint64_ok x1.hi n2 v3 hy4) rfl Try.call108 rfl rfl rfl rfl) rfl ?_
  refine PWl.step (LR.assign rfl) rfl ?_
  refine PWl.nil ?_
  refine PWc.ret ?_
  replace h : _ = r0 := h
  subst h
  exact ⟨.inr rfl, _, .cons (.tmp rfl rfl) <| .nil, rfl⟩

theorem slices_BinarySearchFunc_sl_Run_Run_uint64_runs_Has_c1_ok (x1 : List TRun) (target2 : Int) (r0 : Int × Bool) (h : (slices_BinarySearchFunc_sl_Run_Run_uint64_runs_Has_c1 x1 target2).wp (· = r0)) : PFun Try.prog 110 [.d (.sl (List.map TRun.e x1)), .d (.v (.int .u64 target2)), .d (.v (.func (.func 111) #[] #[]))] (.tup [.d (.v (.int .i64 r0.1)), .d (.v (.bool r0.2))]) := by
  refine PFun.intro (sl := [(0, _), (1, _), (2, _)]) Try.func110 rfl Try.ntmps110 rfl rfl ?_
  intro ctx hK
  refine PWc.seq ?_
  refine PWc.region ?_
  refine PWl.step (LR.assign rfl) rfl ?_
  refine PWl.step (LR.assign rfl) rfl ?_
  refine PWl.nil ?_
  refine PWc.seq ?_
  refine PWc.region ?_
  refine PWl.step (LR.move rfl) rfl ?_
  refine PWl.step (LR.lenMap (enc := TRun.e) (L := x1) Try.underlying29 rfl) rfl ?_
  refine PWl.step (LR.assign rfl) rfl ?_
  refine PWl.nil ?_
  refine PWc.seq ?_
  refine PWc.region ?_
  refine PWl.step (LR.move rfl) rfl ?_
  refine PWl.step (LR.assign rfl) rfl ?_
  refine PWl.step (LR.assign rfl) rfl ?_
  refine PWl.nil ?_
  refine PWc.seq ?_
  refine PWc.jn (iBind h) (fun (i3 : Int) (_ : Unit) => ⟨49, [(0, .d (.sl (List.map TRun.e x1))), (1, .d (.v (.int .u64 target2))), (2, .d (.v (.func (.func 111) #[] #[]))), (8, .d (.v (.int .i64 (List.length x1 : Int)))), (9, .d (.v (.int .i64 i3)))], []⟩) (fun h => ?_) ?_
  · refine PWc.block ?_
    refine PWc.loopM (fun (⟨i18, j19⟩ : Int × Int) (_ : Unit) => ⟨49, [(0, .d (.sl (List.map TRun.e x1))), (1, .d (.v (.int .u64 target2))), (2, .d (.v (.func (.func 111) #[] #[]))), (8, .d (.v (.int .i64 (List.length x1 : Int)))), (9, .d (.v (.int .i64 i18))), (10, .d (.v (.int .i64 j19)))], []⟩) () h (Sub.of rfl (.cons rfl rfl <| .cons rfl rfl <| .cons rfl rfl <| .cons rfl rfl <| .cons rfl rfl <| .cons rfl rfl <| .nil) (.nil)) ?_
    rintro N ⟨i18, j19⟩ _ h
    refine PWc.seq ?_
    refine PWc.seq ?_
    refine PWc.region ?_
    refine PWl.step (LR.move rfl) rfl ?_
    refine PWl.step (LR.move rfl) rfl ?_
    refine PWl.step (LR.lss rfl rfl) rfl ?_
    refine PWl.nil ?_
    refine PWc.cond rfl (fun hc20 => ?_) (fun hc20 => ?_)
    · replace h := iT hc20 h
      refine PWc.skip ?_
      refine PWc.block ?_
      refine PWc.seq ?_
      refine PWc.region ?_
      refine PWl.step (LR.move rfl) rfl ?_
      refine PWl.step (LR.move rfl) rfl ?_
      refine PWl.step (LR.addW rfl rfl) rfl ?_
      refine PWl.step (LR.convInt Try.underlying145 (by rw [Try.underlying3]; rfl) rfl rfl) rfl ?_
      refine PWl.step (LR.shr rfl rfl (by decide) rfl) rfl ?_
      refine PWl.step (LR.convInt Try.underlying3 (by rw [Try.underlying145]; rfl) rfl rfl) rfl ?_
      refine PWl.step (LR.assign rfl) rfl ?_
      refine PWl.nil ?_
      refine PWc.seq ?_
      refine PWc.region ?_
      refine PWl.step (LR.move rfl) rfl ?_
      refine PWl.step (LR.move rfl) rfl ?_
      refine PWl.step (LR.move rfl) rfl ?_
      replace h := iIdx h
      obtain ⟨x21, hy22, h⟩ := h
      refine PWl.step (LR.idxT (enc := TRun.e) (L := x1) (y := x21) Try.underlying29 Try.sizeOf40 rfl rfl hy22 (fun _ => rfl)) rfl ?_
      refine PWl.step (LR.loadEpAgg (ys := [_, _]) Try.isAgg40 Try.sizeOf40 rfl rfl rfl) rfl ?_
      refine PWl.re (tl := [(0, _), (1, _), (2, _), (8, _), (9, _), (10, _), (11, _), (24, _), (28, _)]) (to := []) rfl (.cons rfl rfl <| .cons rfl rfl <| .cons rfl rfl <| .cons rfl rfl <| .cons rfl rfl <| .cons rfl rfl <| .cons rfl rfl <| .cons rfl rfl <| .cons rfl rfl <| .nil) (.nil) ?_
      refine PWl.step (LR.move rfl) rfl ?_
      replace h := iDet h
      obtain ⟨v23, hy24, h⟩ := h
      refine PWl.step (LR.callN (runs_Has_c1_ok x21 target2 v23 hy24) rfl Try.call111 rfl rfl rfl rfl) rfl ?_
      refine PWl.step (LR.lss rfl rfl) rfl ?_
      refine PWl.nil ?_
      refine PWc.cond rfl (fun hc25 => ?_) (fun hc25 => ?_)
      · replace h := iT hc25 h
        refine PWc.region ?_
        refine PWl.step (LR.move rfl) rfl ?_
        refine PWl.step (LR.addW rfl rfl) rfl ?_
        refine PWl.step (LR.assign rfl) rfl ?_
        refine PWl.nil ?_
        exact ⟨((IntKind.i64.wrap (((IntKind.i64.wrap ((Int.fdiv ((IntKind.u64.wrap (IntKind.i64.wrap (i18 + j19)))) (2 ^ 1))))) + 1)), j19), (), h, Sub.of rfl (.cons rfl rfl <| .cons rfl rfl <| .cons rfl rfl <| .cons rfl rfl <| .cons rfl rfl <| .cons rfl rfl <| .nil) (.nil)⟩
      · replace h := iF hc25 h
        refine PWc.region ?_
        refine PWl.step (LR.move rfl) rfl ?_
        refine PWl.step (LR.assign rfl) rfl ?_
        refine PWl.nil ?_
        exact ⟨(i18, (IntKind.i64.wrap ((Int.fdiv ((IntKind.u64.wrap (IntKind.i64.wrap (i18 + j19)))) (2 ^ 1))))), (), h, Sub.of rfl (.cons rfl rfl <| .cons rfl rfl <| .cons rfl rfl <| .cons rfl rfl <| .cons rfl rfl <| .cons rfl rfl <| .nil) (.nil)⟩
    · replace h := iF hc20 h
      refine PWc.exit ?_
      exact ⟨i18, (), h, Sub.of rfl (.cons rfl rfl <| .cons rfl rfl <| .cons rfl rfl <| .cons rfl rfl <| .cons rfl rfl <| .nil) (.nil)⟩
  · rintro i3 _ h
    refine PWc.seq ?_
    refine PWc.jn (iBind h) (fun (v26 : Bool) (_ : Unit) => ⟨49, [(6, .d (.v (.int .i64 i3))), (7, .d (.v (.bool v26)))], []⟩) (fun h => ?_) ?_
    · refine PWc.region ?_
      refine PWl.step (LR.move rfl) rfl ?_
      refine PWl.step (LR.move rfl) rfl ?_
      refine PWl.step (LR.move rfl) rfl ?_
      refine PWl.step (LR.lss rfl rfl) rfl ?_
      refine PWl.step (LR.move rfl) rfl ?_
      refine PWl.split (d := 39) rfl (fun hg27 => ?_) (fun hg27 => ?_)
      · replace h := iT hg27 h
        refine PWl.guardT (LR.move rfl) rfl rfl rfl ?_
        refine PWl.guardT (LR.move rfl) rfl rfl rfl ?_
        refine PWl.guardT (LR.move rfl) rfl rfl rfl ?_
        replace h := iIdx h
        obtain ⟨x28, hy29, h⟩ := h
        refine PWl.guardT (LR.idxT (enc := TRun.e) (L := x1) (y := x28) Try.underlying29 Try.sizeOf40 rfl rfl hy29 (fun _ => rfl)) rfl rfl rfl ?_
        refine PWl.guardT (LR.loadEpAgg (ys := [_, _]) Try.isAgg40 Try.sizeOf40 rfl rfl rfl) rfl rfl rfl ?_
        refine PWl.guardT (LR.move rfl) rfl rfl rfl ?_
        replace h := iDet h
        obtain ⟨v30, hy31, h⟩ := h
        refine PWl.guardT (LR.callN (runs_Has_c1_ok x28 target2 v30 hy31) rfl Try.call111 rfl rfl rfl rfl) rfl rfl rfl ?_
        refine PWl.guardT (LR.eql rfl rfl) rfl rfl rfl ?_
        refine PWl.step (LR.pickT rfl rfl) rfl ?_
        refine PWl.step (LR.assign rfl) rfl ?_
        refine PWl.re (tl := [(6, _), (48, _)]) (to := []) rfl (.cons rfl rfl <| .cons rfl rfl <| .nil) (.nil) ?_
        refine PWl.step (LR.assign rfl) rfl ?_
        refine PWl.nil ?_
        exact ⟨(decide (v30 = 0)), (), h, Sub.of rfl (.cons rfl rfl <| .cons rfl rfl <| .nil) (.nil)⟩
      · replace h := iF hg27 h
        refine PWl.guardF rfl rfl rfl (by decide) ?_
        refine PWl.guardF rfl rfl rfl (by decide) ?_
        refine PWl.guardF rfl rfl rfl (by decide) ?_
        refine PWl.guardF rfl rfl rfl (by decide) ?_
        refine PWl.guardF rfl rfl rfl (by decide) ?_
        refine PWl.guardF rfl rfl rfl (by decide) ?_
        refine PWl.guardF rfl rfl rfl (by decide) ?_
        refine PWl.guardF rfl rfl rfl (by decide) ?_
        refine PWl.step (LR.pickF rfl rfl) rfl ?_
        refine PWl.step (LR.assign rfl) rfl ?_
        refine PWl.re (tl := [(6, _), (48, _)]) (to := []) rfl (.cons rfl rfl <| .cons rfl rfl <| .nil) (.nil) ?_
        refine PWl.step (LR.assign rfl) rfl ?_
        refine PWl.nil ?_
        exact ⟨false, (), h, Sub.of rfl (.cons rfl rfl <| .cons rfl rfl <| .nil) (.nil)⟩
    · rintro v26 _ h
      refine PWc.ret ?_
      replace h : _ = r0 := h
      subst h
      exact ⟨.inr rfl, _, .cons (.tmp rfl rfl) <| .cons (.tmp rfl rfl) <| .nil, rfl⟩

theorem runs_Has_ok (l1 : List TRun) (n2 : Int) (r0 : Bool) (h : (runs_Has l1 n2).wp (· = r0)) : PFun Try.prog 66 [.d (.sl (List.map TRun.e l1)), .d (.v (.int .u64 n2))] (.d (.v (.bool r0))) := by
  refine PFun.intro (sl := [(0, _), (1, _)]) Try.func66 rfl Try.ntmps66 rfl rfl ?_
  intro ctx hK
  refine PWc.seq ?_
  refine PWc.region ?_
  refine PWl.step (LR.assign rfl) rfl ?_
  refine PWl.nil ?_
  refine PWc.seq ?_
  refine PWc.region ?_
  refine PWl.step (LR.move rfl) rfl ?_
  replace h := iDet h
  obtain ⟨v3, hy4, h⟩ := h
  refine PWl.step (LR.rowN (runs_Norm_ok l1 v3 hy4) rfl Try.call62 rfl rfl rfl rfl) rfl ?_
  refine PWl.step (LR.assign rfl) rfl ?_
  refine PWl.nil ?_
  refine PWc.seq ?_
  refine PWc.region ?_
  refine PWl.step (LR.move rfl) rfl ?_
  refine PWl.step (LR.move rfl) rfl ?_
  replace h := iDet h
  obtain ⟨v5, hy6, h⟩ := h
  refine PWl.frz [0, 8, 10] hK (.cons rfl <| .cons rfl <| .cons rfl <| .nil) rfl (by simp) ?_
  refine PWl.step (LR.callN (slices_BinarySearchFunc_sl_Run_Run_uint64_runs_Has_c1_ok v3 n2 v5 hy6) rfl Try.call110 rfl rfl rfl rfl) rfl ?_
  refine PWl.step (LR.move rfl) rfl ?_
  refine PWl.step (LR.extract rfl rfl) rfl ?_
  refine PWl.step (LR.extract rfl rfl) rfl ?_
  refine PWl.step (LR.assign rfl) rfl ?_
  refine PWl.step (LR.assign rfl) rfl ?_
  refine PWl.nil ?_
  refine PWc.seq ?_
  refine PWc.jn (iBind h) (fun (v7 : Bool) (_ : Unit) => ⟨28, [(4, .d (.v (.bool v7)))], []⟩) (fun h => ?_) ?_
  · refine PWc.region ?_
    refine PWl.step (LR.move rfl) rfl ?_
    refine PWl.step (LR.move rfl) rfl ?_
    refine PWl.step (LR.lenMap (enc := TRun.e) (L := v3) Try.underlying29 rfl) rfl ?_
    refine PWl.step (LR.lss rfl rfl) rfl ?_
    refine PWl.step (LR.move rfl) rfl ?_
    refine PWl.split (d := 19) rfl (fun hg8 => ?_) (fun hg8 => ?_)
    · replace h := iT hg8 h
      refine PWl.guardT (LR.move rfl) rfl rfl rfl ?_
      refine PWl.re (tl := [(1, _), (4, _), (5, _), (19, _), (20, _)]) (to := []) rfl (.cons rfl rfl <| .cons rfl rfl <| .cons rfl rfl <| .cons rfl rfl <| .cons rfl rfl <| .nil) (.nil) ?_
      refine PWl.guardT (LR.move rfl) rfl rfl rfl ?_
      replace h := iIdx h
      obtain ⟨x9, hy10, h⟩ := h
      refine PWl.guardT (LR.idxT (enc := TRun.e) (L := v3) (y := x9) Try.underlying29 Try.sizeOf40 rfl rfl hy10 (fun _ => rfl)) rfl rfl rfl ?_
      refine PWl.guardT (LR.fieldEp Try.underlying40 rfl Try.sizeOf34 (by decide) rfl rfl) rfl rfl rfl ?_
      refine PWl.guardT (LR.loadEp Try.isAgg34 rfl rfl) rfl rfl rfl ?_
      refine PWl.guardT (LR.move rfl) rfl rfl rfl ?_
      refine PWl.guardT (LR.leq rfl rfl) rfl rfl rfl ?_
      refine PWl.step (LR.pickT rfl rfl) rfl ?_
      refine PWl.step (LR.assign rfl) rfl ?_
      refine PWl.nil ?_
      exact ⟨(decide (x9.lo ≤ n2)), (), h, Sub.of rfl (.cons rfl rfl <| .nil) (.nil)⟩
    · replace h := iF hg8 h
      refine PWl.guardF rfl rfl rfl (by decide) ?_
      refine PWl.re (tl := [(1, _), (4, _), (5, _), (19, _), (20, _)]) (to := []) rfl (.cons rfl rfl <| .cons rfl rfl <| .cons rfl rfl <| .cons rfl rfl <| .cons rfl rfl <| .nil) (.nil) ?_
      refine PWl.guardF rfl rfl rfl (by decide) ?_
      refine PWl.guardF rfl rfl rfl (by decide) ?_
      refine PWl.guardF rfl rfl rfl (by decide) ?_
      refine PWl.guardF rfl rfl rfl (by decide) ?_
      refine PWl.guardF rfl rfl rfl (by decide) ?_
      refine PWl.guardF rfl rfl rfl (by decide) ?_
      refine PWl.step (LR.pickF rfl rfl) rfl ?_
      refine PWl.step (LR.assign rfl) rfl ?_
      refine PWl.nil ?_
      exact ⟨false, (), h, Sub.of rfl (.cons rfl rfl <| .nil) (.nil)⟩
  · rintro v7 _ h
    refine PWc.ret ?_
    replace h : _ = r0 := h
    subst h
    exact ⟨.inr rfl, _, .cons (.tmp rfl rfl) <| .nil, rfl⟩
end Go.Proofs

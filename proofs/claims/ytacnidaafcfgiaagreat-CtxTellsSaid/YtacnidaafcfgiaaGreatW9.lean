/- Walks: written by program. -/
import Derived.Test.YtacnidaafcfgiaaGreatFc
import Derived.Test.YtacnidaafcfgiaaGreatSh
import Derived.Test.YtacnidaafcfgiaaGreatSx
import Derived.Test.YtacnidaafcfgiaaGreatTl
import Derived.Test.YtacnidaafcfgiaaGreatSr
import Derived.Test.YtacnidaafcfgiaaGreatDr
import Derived.Test.YtacnidaafcfgiaaGreatW2
import Derived.Test.YtacnidaafcfgiaaGreatW4
import Derived.Test.YtacnidaafcfgiaaGreatW6
import Derived.Test.YtacnidaafcfgiaaGreatW8
namespace Go.Proofs
open Go.Ep
set_option maxHeartbeats 1000000
set_option maxRecDepth 100000
set_option linter.unusedVariables false
set_option linter.unusedSimpArgs false


theorem ctx_eq_c1_ok (x1 : TPart) (y2 : TPart) (r0 : Bool) (h : (ctx_eq_c1 x1 y2).wp (· = r0)) : PFun Tryz.prog 100 [.agg (List.map .d (TPart.e x1)), .agg (List.map .d (TPart.e y2))] (.d (.v (.bool r0))) := by
  refine PFun.intro (sl := [(0, _), (1, _)]) Tryz.func100 rfl Tryz.ntmps100 rfl rfl ?_
  intro ctx hK
  refine PWc.seq ?_
  refine PWc.region ?_
  refine PWl.step (LR.box rfl rfl rfl rfl) rfl ?_
  refine PWl.step (LR.box rfl rfl rfl rfl) rfl ?_
  refine PWl.step (LR.assign rfl) rfl ?_
  refine PWl.nil ?_
  refine PWc.seq ?_
  refine PWc.jn (iBind h) (fun (v3 : Bool) (_ : Unit) => ⟨17, [(4, .d (.v (.bool v3)))], []⟩) (fun h => ?_) ?_
  · refine PWc.region ?_
    refine PWl.step (LR.fieldRef Tryz.underlying80 rfl Tryz.sizeOf29 (by decide) rfl rfl) rfl ?_
    refine PWl.step (LR.loadRef Tryz.isAgg29 rfl rfl rfl) rfl ?_
    refine PWl.step (LR.fieldRef Tryz.underlying80 rfl Tryz.sizeOf29 (by decide) rfl rfl) rfl ?_
    refine PWl.step (LR.loadRef Tryz.isAgg29 rfl rfl rfl) rfl ?_
    refine PWl.step (LR.eql rfl rfl) rfl ?_
    refine PWl.step (LR.move rfl) rfl ?_
    refine PWl.split (d := 10) rfl (fun hg4 => ?_) (fun hg4 => ?_)
    · replace h := iT hg4 h
      refine PWl.guardT (LR.fieldRef Tryz.underlying80 rfl Tryz.sizeOf37 (by decide) rfl rfl) rfl rfl rfl ?_
      refine PWl.guardT (LR.loadRef Tryz.isAgg37 rfl rfl rfl) rfl rfl rfl ?_
      refine PWl.guardT (LR.fieldRef Tryz.underlying80 rfl Tryz.sizeOf37 (by decide) rfl rfl) rfl rfl rfl ?_
      refine PWl.guardT (LR.loadRef Tryz.isAgg37 rfl rfl rfl) rfl rfl rfl ?_
      replace h := iDet h
      obtain ⟨v5, hy6, h⟩ := h
      refine PWl.guardT (LR.callN (slices_Equal_sl_Run_Run_ok x1.runs y2.runs v5 hy6) rfl Tryz.call101 rfl rfl rfl rfl) rfl rfl rfl ?_
      refine PWl.step (LR.pickT rfl rfl) rfl ?_
      refine PWl.step (LR.assign rfl) rfl ?_
      refine PWl.nil ?_
      exact ⟨v5, (), h, Sub.of rfl (.cons rfl rfl <| .nil) (.nil)⟩
    · replace h := iF hg4 h
      refine PWl.guardF rfl rfl rfl (by decide) ?_
      refine PWl.guardF rfl rfl rfl (by decide) ?_
      refine PWl.guardF rfl rfl rfl (by decide) ?_
      refine PWl.guardF rfl rfl rfl (by decide) ?_
      refine PWl.guardF rfl rfl rfl (by decide) ?_
      refine PWl.step (LR.pickF rfl rfl) rfl ?_
      refine PWl.step (LR.assign rfl) rfl ?_
      refine PWl.nil ?_
      exact ⟨false, (), h, Sub.of rfl (.cons rfl rfl <| .nil) (.nil)⟩
  · rintro v3 _ h
    refine PWc.ret ?_
    replace h : _ = r0 := h
    subst h
    exact ⟨.inr rfl, _, .cons (.tmp rfl rfl) <| .nil, rfl⟩

theorem slices_EqualFunc_Ctx_Ctx_Part_Part_ctx_eq_c1_ok (s1_1 : List TPart) (s2_2 : List TPart) (r0 : Bool) (h : (slices_EqualFunc_Ctx_Ctx_Part_Part_ctx_eq_c1 s1_1 s2_2).wp (· = r0)) : PFun Tryz.prog 99 [.d (.sl (List.map TPart.e s1_1)), .d (.sl (List.map TPart.e s2_2)), .d (.v (.func (.func 100) #[] #[]))] (.d (.v (.bool r0))) := by
  refine PFun.intro (sl := [(0, _), (1, _), (2, _)]) Tryz.func99 rfl Tryz.ntmps99 rfl rfl ?_
  intro ctx hK
  refine PWc.seq ?_
  refine PWc.region ?_
  refine PWl.step (LR.assign rfl) rfl ?_
  refine PWl.nil ?_
  refine PWc.seq ?_
  refine PWc.seq ?_
  refine PWc.region ?_
  refine PWl.step (LR.move rfl) rfl ?_
  refine PWl.step (LR.lenMap (enc := TPart.e) (L := s1_1) Tryz.underlying23 rfl) rfl ?_
  refine PWl.step (LR.move rfl) rfl ?_
  refine PWl.step (LR.lenMap (enc := TPart.e) (L := s2_2) Tryz.underlying23 rfl) rfl ?_
  refine PWl.step (LR.neq rfl rfl) rfl ?_
  refine PWl.nil ?_
  refine PWc.cond rfl (fun hc3 => ?_) (fun hc3 => ?_)
  · replace h := iT hc3 h
    refine PWc.seq ?_
    refine PWc.region ?_
    refine PWl.step (LR.assign rfl) rfl ?_
    refine PWl.nil ?_
    refine PWc.ret ?_
    replace h : _ = r0 := h
    subst h
    exact ⟨.inr rfl, _, .cons (.tmp rfl rfl) <| .nil, rfl⟩
  · replace h := iF hc3 h
    refine PWc.skip ?_
    refine PWc.seq ?_
    refine PWc.seq ?_
    refine PWc.region ?_
    refine PWl.step (LR.move rfl) rfl ?_
    refine PWl.step (LR.lenMap (enc := TPart.e) (L := s1_1) Tryz.underlying23 rfl) rfl ?_
    refine PWl.step (LR.move rfl) rfl ?_
    refine PWl.nil ?_
    refine PWc.jnX (iBind h) (fun (_ : Unit) (_ : Unit) => ⟨32, [], []⟩) (fun h => ?_) ?_
    · refine PWc.block ?_
      refine PWc.loopM (fun (v21 : Int) (_ : Unit) => ⟨32, [(1, .d (.sl (List.map TPart.e s2_2))), (2, .d (.v (.func (.func 100) #[] #[]))), (15, .d (.sl (List.map TPart.e s1_1))), (16, .d (.v (.int .i64 (List.length s1_1 : Int)))), (17, .d (.v (.int .i64 v21)))], []⟩) () h (Sub.of rfl (.cons rfl rfl <| .cons rfl rfl <| .cons rfl rfl <| .cons rfl rfl <| .cons rfl rfl <| .nil) (.nil)) ?_
      rintro N v21 _ h
      refine PWc.seq ?_
      refine PWc.region ?_
      refine PWl.step (LR.lss rfl rfl) rfl ?_
      refine PWl.nil ?_
      refine PWc.seq ?_
      refine PWc.cond rfl (fun hc22 => ?_) (fun hc22 => ?_)
      · replace h := iT hc22 h
        refine PWc.skip ?_
        refine PWc.seq ?_
        refine PWc.block ?_
        refine PWc.seq ?_
        refine PWc.region ?_
        refine PWl.step (LR.move rfl) rfl ?_
        replace h := iIdx h
        obtain ⟨x23, hy24, h⟩ := h
        refine PWl.step (LR.idxT (enc := TPart.e) (L := s1_1) (y := x23) Tryz.underlying23 Tryz.sizeOf80 rfl rfl hy24 (fun _ => rfl)) rfl ?_
        refine PWl.step (LR.loadEpAgg (ys := [_, _]) Tryz.isAgg80 Tryz.sizeOf80 rfl rfl rfl) rfl ?_
        refine PWl.step (LR.allocZ (cs := [_, _]) Tryz.zeroValue80 rfl rfl rfl rfl) rfl ?_
        refine PWl.step (LR.assign rfl) rfl ?_
        refine PWl.step (LR.storeB (ns := [_, _]) Tryz.sizeOf80 rfl rfl rfl rfl rfl rfl rfl) rfl ?_
        refine PWl.nil ?_
        refine PWc.seq ?_
        refine PWc.region ?_
        refine PWl.step (LR.move rfl) rfl ?_
        refine PWl.step (LR.move rfl) rfl ?_
        replace h := iIdx h
        obtain ⟨x25, hy26, h⟩ := h
        refine PWl.step (LR.idxT (enc := TPart.e) (L := s2_2) (y := x25) Tryz.underlying23 Tryz.sizeOf80 rfl rfl hy26 (fun _ => rfl)) rfl ?_
        refine PWl.step (LR.loadEpAgg (ys := [_, _]) Tryz.isAgg80 Tryz.sizeOf80 rfl rfl rfl) rfl ?_
        refine PWl.step (LR.allocZ (cs := [_, _]) Tryz.zeroValue80 rfl rfl rfl rfl) rfl ?_
        refine PWl.step (LR.storeB (ns := [_, _]) Tryz.sizeOf80 rfl rfl rfl rfl rfl rfl rfl) rfl ?_
        refine PWl.nil ?_
        refine PWc.seq ?_
        refine PWc.region ?_
        refine PWl.step (LR.move rfl) rfl ?_
        refine PWl.step (LR.loadRefAgg (ps := [_, _]) Tryz.isAgg80 Tryz.sizeOf80 rfl rfl rfl rfl) rfl ?_
        refine PWl.step (LR.loadRefAgg (ps := [_, _]) Tryz.isAgg80 Tryz.sizeOf80 rfl rfl rfl rfl) rfl ?_
        replace h := iDet h
        obtain ⟨v27, hy28, h⟩ := h
        refine PWl.step (LR.callN (ctx_eq_c1_ok x23 x25 v27 hy28) rfl Tryz.call100 rfl rfl rfl rfl) rfl ?_
        refine PWl.step (LR.not rfl) rfl ?_
        refine PWl.nil ?_
        refine PWc.cond rfl (fun hc29 => ?_) (fun hc29 => ?_)
        · replace h := iT hc29 h
          refine PWc.seq ?_
          refine PWc.region ?_
          refine PWl.re (tl := []) (to := []) rfl (.nil) (.nil) ?_
          refine PWl.step (LR.assign rfl) rfl ?_
          refine PWl.nil ?_
          refine PWc.ret ?_
          replace h : _ = r0 := h
          subst h
          exact ⟨.inr rfl, _, .cons (.tmp rfl rfl) <| .nil, rfl⟩
        · replace h := iF hc29 h
          refine PWc.skip ?_
          refine PWc.region ?_
          refine PWl.re (tl := [(1, _), (2, _), (15, _), (16, _), (17, _)]) (to := []) rfl (.cons rfl rfl <| .cons rfl rfl <| .cons rfl rfl <| .cons rfl rfl <| .cons rfl rfl <| .nil) (.nil) ?_
          refine PWl.step (LR.addW rfl rfl) rfl ?_
          refine PWl.step (LR.move rfl) rfl ?_
          refine PWl.nil ?_
          exact ⟨(IntKind.i64.wrap (v21 + 1)), (), h, Sub.of rfl (.cons rfl rfl <| .cons rfl rfl <| .cons rfl rfl <| .cons rfl rfl <| .cons rfl rfl <| .nil) (.nil)⟩
      · replace h := iF hc22 h
        refine PWc.exit ?_
        exact ⟨(), (), h, Sub.of rfl (.nil) (.nil)⟩
    · rintro _ _ h
      refine PWc.seq ?_
      refine PWc.region ?_
      refine PWl.step (LR.assign rfl) rfl ?_
      refine PWl.nil ?_
      refine PWc.ret ?_
      replace h : _ = r0 := h
      subst h
      exact ⟨.inr rfl, _, .cons (.tmp rfl rfl) <| .nil, rfl⟩

theorem ctx_eq_ok (a1 : List TPart) (b2 : List TPart) (r0 : Bool) (h : (ctx_eq a1 b2).wp (· = r0)) : PFun Tryz.prog 65 [.d (.sl (List.map TPart.e a1)), .d (.sl (List.map TPart.e b2))] (.d (.v (.bool r0))) := by
  refine PFun.intro (sl := [(0, _), (1, _)]) Tryz.func65 rfl Tryz.ntmps65 rfl rfl ?_
  intro ctx hK
  refine PWc.seq ?_
  refine PWc.region ?_
  refine PWl.step (LR.assign rfl) rfl ?_
  refine PWl.nil ?_
  refine PWc.seq ?_
  refine PWc.region ?_
  refine PWl.step (LR.move rfl) rfl ?_
  refine PWl.step (LR.move rfl) rfl ?_
  replace h := iDet h
  obtain ⟨v3, hy4, h⟩ := h
  refine PWl.step (LR.callN (slices_EqualFunc_Ctx_Ctx_Part_Part_ctx_eq_c1_ok a1 b2 v3 hy4) rfl Tryz.call99 rfl rfl rfl rfl) rfl ?_
  refine PWl.step (LR.assign rfl) rfl ?_
  refine PWl.nil ?_
  refine PWc.ret ?_
  replace h : _ = r0 := h
  subst h
  exact ⟨.inr rfl, _, .cons (.tmp rfl rfl) <| .nil, rfl⟩

theorem ctx_Same_ok (a1 : List TPart) (b2 : List TPart) (r0 : Bool) (h : (ctx_Same a1 b2).wp (· = r0)) : PFun Tryz.prog 18 [.d (.sl (List.map TPart.e a1)), .d (.sl (List.map TPart.e b2))] (.d (.v (.bool r0))) := by
  refine PFun.intro (sl := [(0, _), (1, _)]) Tryz.func18 rfl Tryz.ntmps18 rfl rfl ?_
  intro ctx hK
  refine PWc.seq ?_
  refine PWc.region ?_
  refine PWl.step (LR.assign rfl) rfl ?_
  refine PWl.nil ?_
  refine PWc.seq ?_
  refine PWc.region ?_
  refine PWl.step (LR.move rfl) rfl ?_
  replace h := iDet h
  obtain ⟨v3, hy4, h⟩ := h
  refine PWl.step (LR.rowN (ctx_Norm_ok a1 v3 hy4) rfl Tryz.call20 rfl rfl rfl rfl) rfl ?_
  refine PWl.step (LR.move rfl) rfl ?_
  replace h := iDet h
  obtain ⟨v5, hy6, h⟩ := h
  refine PWl.step (LR.rowN (ctx_Norm_ok b2 v5 hy6) rfl Tryz.call20 rfl rfl rfl rfl) rfl ?_
  replace h := iDet h
  obtain ⟨v7, hy8, h⟩ := h
  refine PWl.frz [6] hK (.cons rfl <| .nil) rfl (by simp) ?_
  refine PWl.frz [8] hK (.cons rfl <| .nil) rfl (by simp) ?_
  refine PWl.step (LR.callN (ctx_eq_ok v3 v5 v7 hy8) rfl Tryz.call65 rfl rfl rfl rfl) rfl ?_
  refine PWl.step (LR.assign rfl) rfl ?_
  refine PWl.nil ?_
  refine PWc.ret ?_
  replace h : _ = r0 := h
  subst h
  exact ⟨.inr rfl, _, .cons (.tmp rfl rfl) <| .nil, rfl⟩

theorem r09_Norm_ok (c1 : List TPart) (r0 : List TPart) (h : (r09_Norm c1).wp (· = r0)) : PRow Tryz.prog 21 [.d (.sl (List.map TPart.e c1))] 80 2 (List.map TPart.e r0) := by
  refine PRow.intro (sl := [(0, _)]) Tryz.func21 rfl Tryz.ntmps21 rfl rfl ?_
  intro ctx hK
  refine PWc.seq ?_
  refine PWc.region ?_
  refine PWl.step (LR.assignNilRow 80 2 rfl) rfl ?_
  refine PWl.nil ?_
  refine PWc.seq ?_
  refine PWc.region ?_
  refine PWl.step (LR.move rfl) rfl ?_
  replace h := iDet h
  obtain ⟨v2, hy3, h⟩ := h
  refine PWl.step (LR.rowN (r09_set_ok c1 ([] : List TPart) 0 v2 hy3) rfl Tryz.call61 rfl rfl rfl rfl) rfl ?_
  refine PWl.re (tl := [(0, _), (3, _), (4, _)]) (to := [(4, _)]) rfl (.cons rfl rfl <| .cons rfl rfl <| .cons rfl rfl <| .nil) (.cons rfl rfl <| .nil) ?_
  refine PWl.step (LR.assign rfl) rfl ?_
  refine PWl.nil ?_
  refine PWc.ret ?_
  replace h : _ = r0 := h
  subst h
  exact ⟨.inr rfl, 2, rfl, .inr ⟨4, _, rfl, (by simp), rfl⟩⟩

theorem r09_Same_ok (a1 : List TPart) (b2 : List TPart) (r0 : Bool) (h : (r09_Same a1 b2).wp (· = r0)) : PFun Tryz.prog 19 [.d (.sl (List.map TPart.e a1)), .d (.sl (List.map TPart.e b2))] (.d (.v (.bool r0))) := by
  refine PFun.intro (sl := [(0, _), (1, _)]) Tryz.func19 rfl Tryz.ntmps19 rfl rfl ?_
  intro ctx hK
  refine PWc.seq ?_
  refine PWc.region ?_
  refine PWl.step (LR.assign rfl) rfl ?_
  refine PWl.nil ?_
  refine PWc.seq ?_
  refine PWc.region ?_
  refine PWl.step (LR.move rfl) rfl ?_
  replace h := iDet h
  obtain ⟨v3, hy4, h⟩ := h
  refine PWl.step (LR.rowN (r09_Norm_ok a1 v3 hy4) rfl Tryz.call21 rfl rfl rfl rfl) rfl ?_
  refine PWl.step (LR.move rfl) rfl ?_
  replace h := iDet h
  obtain ⟨v5, hy6, h⟩ := h
  refine PWl.step (LR.rowN (r09_Norm_ok b2 v5 hy6) rfl Tryz.call21 rfl rfl rfl rfl) rfl ?_
  replace h := iDet h
  obtain ⟨v7, hy8, h⟩ := h
  refine PWl.frz [6] hK (.cons rfl <| .nil) rfl (by simp) ?_
  refine PWl.frz [8] hK (.cons rfl <| .nil) rfl (by simp) ?_
  refine PWl.step (LR.callN (r09_Eq_ok v3 v5 v7 hy8) rfl Tryz.call9 rfl rfl rfl rfl) rfl ?_
  refine PWl.step (LR.assign rfl) rfl ?_
  refine PWl.nil ?_
  refine PWc.ret ?_
  replace h : _ = r0 := h
  subst h
  exact ⟨.inr rfl, _, .cons (.tmp rfl rfl) <| .nil, rfl⟩
end Go.Proofs

/- Texts that the walks and laws lean on, side by side. -/
import Derived.Test.YtacnidaafcfgiaaMda2
import Derived.Test.YtacnidaafcfgiaaMda3
import Derived.Test.YtacnidaafcfgiaaMda4
import Derived.Test.YtacnidaafcfgiaaMda5
namespace Go.Proofs
open Go.Ep
set_option maxHeartbeats 1000000
set_option maxRecDepth 100000
set_option linter.unusedVariables false
set_option linter.unusedSimpArgs false


theorem slices_Equal_sl_Run_Run_ok (s1_1 : List TRun) (s2_2 : List TRun) (r0 : Bool) (h : (slices_Equal_sl_Run_Run s1_1 s2_2).wp (· = r0)) : PFun Try.prog 153 [.d (.sl (List.map TRun.e s1_1)), .d (.sl (List.map TRun.e s2_2))] (.d (.v (.bool r0))) := by
  refine PFun.intro (sl := [(0, _), (1, _)]) Try.func153 rfl Try.ntmps153 rfl rfl ?_
  intro ctx hK
  refine PWc.seq ?_
  refine PWc.region ?_
  refine PWl.step (LR.assign rfl) rfl ?_
  refine PWl.nil ?_
  refine PWc.seq ?_
  refine PWc.seq ?_
  refine PWc.region ?_
  refine PWl.step (LR.move rfl) rfl ?_
  refine PWl.step (LR.lenMap (enc := TRun.e) (L := s1_1) Try.underlying34 rfl) rfl ?_
  refine PWl.step (LR.move rfl) rfl ?_
  refine PWl.step (LR.lenMap (enc := TRun.e) (L := s2_2) Try.underlying34 rfl) rfl ?_
  refine PWl.step (LR.neq rfl rfl) rfl ?_
  refine PWl.nil ?_
  refine PWc.cond rfl (fun hc3 => ?_) (fun hc3 => ?_)
  · replace h := iT hc3 h
    refine PWc.seq ?_
    refine PWc.region ?_
    refine PWl.step (LR.assign rfl) rfl ?_
    refine PWl.nil ?_
    refine PWc.ret ?_
    replace h : _ = r0 := h
    subst h
    exact ⟨.inr rfl, _, .cons (.tmp rfl rfl) <| .nil, rfl⟩
  · replace h := iF hc3 h
    refine PWc.skip ?_
    refine PWc.seq ?_
    refine PWc.seq ?_
    refine PWc.region ?_
    refine PWl.step (LR.move rfl) rfl ?_
    refine PWl.step (LR.lenMap (enc := TRun.e) (L := s1_1) Try.underlying34 rfl) rfl ?_
    refine PWl.step (LR.move rfl) rfl ?_
    refine PWl.nil ?_
    refine PWc.jnX (iBind h) (fun (_ : Unit) (_ : Unit) => ⟨26, [], []⟩) (fun h => ?_) ?_
    · refine PWc.block ?_
      refine PWc.loopM (fun (v17 : Int) (_ : Unit) => ⟨26, [(0, .d (.sl (List.map TRun.e s1_1))), (1, .d (.sl (List.map TRun.e s2_2))), (12, .d (.v (.int .i64 (List.length s1_1 : Int)))), (13, .d (.v (.int .i64 v17)))], []⟩) () h (Sub.of rfl (.cons rfl rfl <| .cons rfl rfl <| .cons rfl rfl <| .cons rfl rfl <| .nil) (.nil)) ?_
      rintro N v17 _ h
      refine PWc.seq ?_
      refine PWc.region ?_
      refine PWl.step (LR.lss rfl rfl) rfl ?_
      refine PWl.nil ?_
      refine PWc.seq ?_
      refine PWc.cond rfl (fun hc18 => ?_) (fun hc18 => ?_)
      · replace h := iT hc18 h
        refine PWc.skip ?_
        refine PWc.seq ?_
        refine PWc.block ?_
        refine PWc.seq ?_
        refine PWc.region ?_
        refine PWl.step (LR.move rfl) rfl ?_
        refine PWl.step (LR.assign rfl) rfl ?_
        refine PWl.nil ?_
        refine PWc.seq ?_
        refine PWc.regionD (by kernel_rfl) (by kernel_rfl) ?_
        refine PQl.step (fun _ he ho => LR.move (he rfl rfl)) rfl ?_
        refine PQl.step (fun _ he ho => LR.move (he rfl rfl)) rfl ?_
        replace h := iIdx h
        obtain ⟨x19, hy20, h⟩ := h
        refine PQl.step (fun _ he ho => LR.idxT (enc := TRun.e) (L := s1_1) (y := x19) Try.underlying34 Try.sizeOf114 (he rfl rfl) (he rfl rfl) hy20 (fun _ => rfl)) rfl ?_
        refine PQl.step (fun _ he ho => LR.loadEpAgg (ys := [_, _]) Try.isAgg114 Try.sizeOf114 (he rfl rfl) rfl rfl) rfl ?_
        refine PQl.step (fun _ he ho => LR.move (he rfl rfl)) rfl ?_
        refine PQl.step (fun _ he ho => LR.move (he rfl rfl)) rfl ?_
        replace h := iIdx h
        obtain ⟨x21, hy22, h⟩ := h
        refine PQl.step (fun _ he ho => LR.idxT (enc := TRun.e) (L := s2_2) (y := x21) Try.underlying34 Try.sizeOf114 (he rfl rfl) (he rfl rfl) hy22 (fun _ => rfl)) rfl ?_
        refine PQl.step (fun _ he ho => LR.loadEpAgg (ys := [_, _]) Try.isAgg114 Try.sizeOf114 (he rfl rfl) rfl rfl) rfl ?_
        refine PQl.step (fun _ he ho => LR.neqAgg (he rfl rfl) (he rfl rfl) rfl rfl eq114) rfl ?_
        refine PQl.nil ?_
        refine PWc.cond rfl (fun hc23 => ?_) (fun hc23 => ?_)
        · replace h := iT hc23 h
          refine PWc.seq ?_
          refine PWc.region ?_
          refine PWl.step (LR.assign rfl) rfl ?_
          refine PWl.nil ?_
          refine PWc.ret ?_
          replace h : _ = r0 := h
          subst h
          exact ⟨.inr rfl, _, .cons (.tmp rfl rfl) <| .nil, rfl⟩
        · replace h := iF hc23 h
          refine PWc.skip ?_
          refine PWc.region ?_
          refine PWl.step (LR.addW rfl rfl) rfl ?_
          refine PWl.step (LR.move rfl) rfl ?_
          refine PWl.nil ?_
          exact ⟨(IntKind.i64.wrap (v17 + 1)), (), h, Sub.of rfl (.cons rfl rfl <| .cons rfl rfl <| .cons rfl rfl <| .cons rfl rfl <| .nil) (.nil)⟩
      · replace h := iF hc18 h
        refine PWc.exit ?_
        exact ⟨(), (), h, Sub.of rfl (.nil) (.nil)⟩
    · rintro _ _ h
      refine PWc.seq ?_
      refine PWc.region ?_
      refine PWl.step (LR.assign rfl) rfl ?_
      refine PWl.nil ?_
      refine PWc.ret ?_
      replace h : _ = r0 := h
      subst h
      exact ⟨.inr rfl, _, .cons (.tmp rfl rfl) <| .nil, rfl⟩

theorem ctx_eq_c1_ok (x1 : TPart) (y2 : TPart) (r0 : Bool) (h : (ctx_eq_c1 x1 y2).wp (· = r0)) : PFun Try.prog 152 [.agg (List.map .d (TPart.e x1)), .agg (List.map .d (TPart.e y2))] (.d (.v (.bool r0))) := by
  refine PFun.intro (sl := [(0, _), (1, _)]) Try.func152 rfl Try.ntmps152 rfl rfl ?_
  intro ctx hK
  refine PWc.seq ?_
  refine PWc.region ?_
  refine PWl.step (LR.box rfl rfl rfl rfl) rfl ?_
  refine PWl.step (LR.box rfl rfl rfl rfl) rfl ?_
  refine PWl.step (LR.assign rfl) rfl ?_
  refine PWl.nil ?_
  refine PWc.seq ?_
  refine PWc.jn (iBind h) (fun (v3 : Bool) (_ : Unit) => ⟨17, [(4, .d (.v (.bool v3)))], []⟩) (fun h => ?_) ?_
  · refine PWc.region ?_
    refine PWl.step (LR.fieldRef Try.underlying101 rfl Try.sizeOf28 (by decide) rfl rfl) rfl ?_
    refine PWl.step (LR.loadRef Try.isAgg28 rfl rfl rfl) rfl ?_
    refine PWl.step (LR.fieldRef Try.underlying101 rfl Try.sizeOf28 (by decide) rfl rfl) rfl ?_
    refine PWl.step (LR.loadRef Try.isAgg28 rfl rfl rfl) rfl ?_
    refine PWl.step (LR.eql rfl rfl) rfl ?_
    refine PWl.step (LR.move rfl) rfl ?_
    refine PWl.split (d := 10) rfl (fun hg4 => ?_) (fun hg4 => ?_)
    · replace h := iT hg4 h
      refine PWl.guardT (LR.fieldRef Try.underlying101 rfl Try.sizeOf34 (by decide) rfl rfl) rfl rfl rfl ?_
      refine PWl.guardT (LR.loadRef Try.isAgg34 rfl rfl rfl) rfl rfl rfl ?_
      refine PWl.guardT (LR.fieldRef Try.underlying101 rfl Try.sizeOf34 (by decide) rfl rfl) rfl rfl rfl ?_
      refine PWl.guardT (LR.loadRef Try.isAgg34 rfl rfl rfl) rfl rfl rfl ?_
      replace h := iDet h
      obtain ⟨v5, hy6, h⟩ := h
      refine PWl.guardT (LR.callN (slices_Equal_sl_Run_Run_ok x1.runs y2.runs v5 hy6) rfl Try.call153 rfl rfl rfl rfl) rfl rfl rfl ?_
      refine PWl.step (LR.pickT rfl rfl) rfl ?_
      refine PWl.step (LR.assign rfl) rfl ?_
      refine PWl.nil ?_
      exact ⟨v5, (), h, Sub.of rfl (.cons rfl rfl <| .nil) (.nil)⟩
    · replace h := iF hg4 h
      refine PWl.guardF rfl rfl rfl (by decide) ?_
      refine PWl.guardF rfl rfl rfl (by decide) ?_
      refine PWl.guardF rfl rfl rfl (by decide) ?_
      refine PWl.guardF rfl rfl rfl (by decide) ?_
      refine PWl.guardF rfl rfl rfl (by decide) ?_
      refine PWl.step (LR.pickF rfl rfl) rfl ?_
      refine PWl.step (LR.assign rfl) rfl ?_
      refine PWl.nil ?_
      exact ⟨false, (), h, Sub.of rfl (.cons rfl rfl <| .nil) (.nil)⟩
  · rintro v3 _ h
    refine PWc.ret ?_
    replace h : _ = r0 := h
    subst h
    exact ⟨.inr rfl, _, .cons (.tmp rfl rfl) <| .nil, rfl⟩

theorem slices_EqualFunc_Ctx_Ctx_Part_Part_ctx_eq_c1_ok (s1_1 : List TPart) (s2_2 : List TPart) (r0 : Bool) (h : (slices_EqualFunc_Ctx_Ctx_Part_Part_ctx_eq_c1 s1_1 s2_2).wp (· = r0)) : PFun Try.prog 151 [.d (.sl (List.map TPart.e s1_1)), .d (.sl (List.map TPart.e s2_2)), .d (.v (.func (.func 152) #[] #[]))] (.d (.v (.bool r0))) := by
  refine PFun.intro (sl := [(0, _), (1, _), (2, _)]) Try.func151 rfl Try.ntmps151 rfl rfl ?_
  intro ctx hK
  refine PWc.seq ?_
  refine PWc.region ?_
  refine PWl.step (LR.assign rfl) rfl ?_
  refine PWl.nil ?_
  refine PWc.seq ?_
  refine PWc.seq ?_
  refine PWc.region ?_
  refine PWl.step (LR.move rfl) rfl ?_
  refine PWl.step (LR.lenMap (enc := TPart.e) (L := s1_1) Try.underlying24 rfl) rfl ?_
  refine PWl.step (LR.move rfl) rfl ?_
  refine PWl.step (LR.lenMap (enc := TPart.e) (L := s2_2) Try.underlying24 rfl) rfl ?_
  refine PWl.step (LR.neq rfl rfl) rfl ?_
  refine PWl.nil ?_
  refine PWc.cond rfl (fun hc3 => ?_) (fun hc3 => ?_)
  · replace h := iT hc3 h
    refine PWc.seq ?_
    refine PWc.region ?_
    refine PWl.step (LR.assign rfl) rfl ?_
    refine PWl.nil ?_
    refine PWc.ret ?_
    replace h : _ = r0 := h
    subst h
    exact ⟨.inr rfl, _, .cons (.tmp rfl rfl) <| .nil, rfl⟩
  · replace h := iF hc3 h
    refine PWc.skip ?_
    refine PWc.seq ?_
    refine PWc.seq ?_
    refine PWc.region ?_
    refine PWl.step (LR.move rfl) rfl ?_
    refine PWl.step (LR.lenMap (enc := TPart.e) (L := s1_1) Try.underlying24 rfl) rfl ?_
    refine PWl.step (LR.move rfl) rfl ?_
    refine PWl.nil ?_
    refine PWc.jnX (iBind h) (fun (_ : Unit) (_ : Unit) => ⟨32, [], []⟩) (fun h => ?_) ?_
    · refine PWc.block ?_
      refine PWc.loopM (fun (v21 : Int) (_ : Unit) => ⟨32, [(1, .d (.sl (List.map TPart.e s2_2))), (2, .d (.v (.func (.func 152) #[] #[]))), (15, .d (.sl (List.map TPart.e s1_1))), (16, .d (.v (.int .i64 (List.length s1_1 : Int)))), (17, .d (.v (.int .i64 v21)))], []⟩) () h (Sub.of rfl (.cons rfl rfl <| .cons rfl rfl <| .cons rfl rfl <| .cons rfl rfl <| .cons rfl rfl <| .nil) (.nil)) ?_
      rintro N v21 _ h
      refine PWc.seq ?_
      refine PWc.region ?_
      refine PWl.step (LR.lss rfl rfl) rfl ?_
      refine PWl.nil ?_
      refine PWc.seq ?_
      refine PWc.cond rfl (fun hc22 => ?_) (fun hc22 => ?_)
      · replace h := iT hc22 h
        refine PWc.skip ?_
        refine PWc.seq ?_
        refine PWc.block ?_
        refine PWc.seq ?_
        refine PWc.region ?_
        refine PWl.step (LR.move rfl) rfl ?_
        replace h := iIdx h
        obtain ⟨x23, hy24, h⟩ := h
        refine PWl.step (LR.idxT (enc := TPart.e) (L := s1_1) (y := x23) Try.underlying24 Try.sizeOf101 rfl rfl hy24 (fun _ => rfl)) rfl ?_
        refine PWl.step (LR.loadEpAgg (ys := [_, _]) Try.isAgg101 Try.sizeOf101 rfl rfl rfl) rfl ?_
        refine PWl.step (LR.allocZ (cs := [_, _]) Try.zeroValue101 rfl rfl rfl rfl) rfl ?_
        refine PWl.step (LR.assign rfl) rfl ?_
        refine PWl.step (LR.storeB (ns := [_, _]) Try.sizeOf101 rfl rfl rfl rfl rfl rfl rfl) rfl ?_
        refine PWl.nil ?_
        refine PWc.seq ?_
        refine PWc.region ?_
        refine PWl.step (LR.move rfl) rfl ?_
        refine PWl.step (LR.move rfl) rfl ?_
        replace h := iIdx h
        obtain ⟨x25, hy26, h⟩ := h
        refine PWl.step (LR.idxT (enc := TPart.e) (L := s2_2) (y := x25) Try.underlying24 Try.sizeOf101 rfl rfl hy26 (fun _ => rfl)) rfl ?_
        refine PWl.step (LR.loadEpAgg (ys := [_, _]) Try.isAgg101 Try.sizeOf101 rfl rfl rfl) rfl ?_
        refine PWl.step (LR.allocZ (cs := [_, _]) Try.zeroValue101 rfl rfl rfl rfl) rfl ?_
        refine PWl.step (LR.storeB (ns := [_, _]) Try.sizeOf101 rfl rfl rfl rfl rfl rfl rfl) rfl ?_
        refine PWl.nil ?_
        refine PWc.seq ?_
        refine PWc.region ?_
        refine PWl.step (LR.move rfl) rfl ?_
        refine PWl.step (LR.loadRefAgg (ps := [_, _]) Try.isAgg101 Try.sizeOf101 rfl rfl rfl rfl) rfl ?_
        refine PWl.step (LR.loadRefAgg (ps := [_, _]) Try.isAgg101 Try.sizeOf101 rfl rfl rfl rfl) rfl ?_
        replace h := iDet h
        obtain ⟨v27, hy28, h⟩ := h
        refine PWl.step (LR.callN (ctx_eq_c1_ok x23 x25 v27 hy28) rfl Try.call152 rfl rfl rfl rfl) rfl ?_
        refine PWl.step (LR.not rfl) rfl ?_
        refine PWl.nil ?_
        refine PWc.cond rfl (fun hc29 => ?_) (fun hc29 => ?_)
        · replace h := iT hc29 h
          refine PWc.seq ?_
          refine PWc.region ?_
          refine PWl.re (tl := []) (to := []) rfl (.nil) (.nil) ?_
          refine PWl.step (LR.assign rfl) rfl ?_
          refine PWl.nil ?_
          refine PWc.ret ?_
          replace h : _ = r0 := h
          subst h
          exact ⟨.inr rfl, _, .cons (.tmp rfl rfl) <| .nil, rfl⟩
        · replace h := iF hc29 h
          refine PWc.skip ?_
          refine PWc.region ?_
          refine PWl.re (tl := [(1, _), (2, _), (15, _), (16, _), (17, _)]) (to := []) rfl (.cons rfl rfl <| .cons rfl rfl <| .cons rfl rfl <| .cons rfl rfl <| .cons rfl rfl <| .nil) (.nil) ?_
          refine PWl.step (LR.addW rfl rfl) rfl ?_
          refine PWl.step (LR.move rfl) rfl ?_
          refine PWl.nil ?_
          exact ⟨(IntKind.i64.wrap (v21 + 1)), (), h, Sub.of rfl (.cons rfl rfl <| .cons rfl rfl <| .cons rfl rfl <| .cons rfl rfl <| .cons rfl rfl <| .nil) (.nil)⟩
      · replace h := iF hc22 h
        refine PWc.exit ?_
        exact ⟨(), (), h, Sub.of rfl (.nil) (.nil)⟩
    · rintro _ _ h
      refine PWc.seq ?_
      refine PWc.region ?_
      refine PWl.step (LR.assign rfl) rfl ?_
      refine PWl.nil ?_
      refine PWc.ret ?_
      replace h : _ = r0 := h
      subst h
      exact ⟨.inr rfl, _, .cons (.tmp rfl rfl) <| .nil, rfl⟩

theorem ctx_eq_ok (a1 : List TPart) (b2 : List TPart) (r0 : Bool) (h : (ctx_eq a1 b2).wp (· = r0)) : PFun Try.prog 104 [.d (.sl (List.map TPart.e a1)), .d (.sl (List.map TPart.e b2))] (.d (.v (.bool r0))) := by
  refine PFun.intro (sl := [(0, _), (1, _)]) Try.func104 rfl Try.ntmps104 rfl rfl ?_
  intro ctx hK
  refine PWc.seq ?_
  refine PWc.region ?_
  refine PWl.step (LR.assign rfl) rfl ?_
  refine PWl.nil ?_
  refine PWc.seq ?_
  refine PWc.region ?_
  refine PWl.step (LR.move rfl) rfl ?_
  refine PWl.step (LR.move rfl) rfl ?_
  replace h := iDet h
  obtain ⟨v3, hy4, h⟩ := h
  refine PWl.step (LR.callN (slices_EqualFunc_Ctx_Ctx_Part_Part_ctx_eq_c1_ok a1 b2 v3 hy4) rfl Try.call151 rfl rfl rfl rfl) rfl ?_
  refine PWl.step (LR.assign rfl) rfl ?_
  refine PWl.nil ?_
  refine PWc.ret ?_
  replace h : _ = r0 := h
  subst h
  exact ⟨.inr rfl, _, .cons (.tmp rfl rfl) <| .nil, rfl⟩

theorem ctx_Good_ok (c1 : List TPart) (r0 : Bool) (h : (ctx_Good c1).wp (· = r0)) : PFun Try.prog 57 [.d (.sl (List.map TPart.e c1))] (.d (.v (.bool r0))) := by
  refine PFun.intro (sl := [(0, _)]) Try.func57 rfl Try.ntmps57 rfl rfl ?_
  intro ctx hK
  refine PWc.seq ?_
  refine PWc.region ?_
  refine PWl.step (LR.assign rfl) rfl ?_
  refine PWl.nil ?_
  refine PWc.seq ?_
  refine PWc.region ?_
  refine PWl.step (LR.move rfl) rfl ?_
  refine PWl.step (LR.move rfl) rfl ?_
  replace h := iDet h
  obtain ⟨v2, hy3, h⟩ := h
  refine PWl.step (LR.rowN (ctx_Norm_ok c1 v2 hy3) rfl Try.call84 rfl rfl rfl rfl) rfl ?_
  replace h := iDet h
  obtain ⟨v4, hy5, h⟩ := h
  refine PWl.frz [5] hK (.cons rfl <| .nil) rfl (by simp) ?_
  refine PWl.step (LR.callN (ctx_eq_ok c1 v2 v4 hy5) rfl Try.call104 rfl rfl rfl rfl) rfl ?_
  refine PWl.step (LR.assign rfl) rfl ?_
  refine PWl.nil ?_
  refine PWc.ret ?_
  replace h : _ = r0 := h
  subst h
  exact ⟨.inr rfl, _, .cons (.tmp rfl rfl) <| .nil, rfl⟩

theorem num_Read_ok (b1 : List Int) (at2 : Int) (r0 : Int × Int × Int) (h : (num_Read b1 at2).wp (· = r0)) : PFun Try.prog 154 [.d (.sl (List.map (eK .u8) b1)), .d (.v (.int .i64 at2))] (.tup [.d (.v (.int .u64 r0.1)), .d (.v (.int .i64 r0.2.1)), .d (.v (.int .i64 r0.2.2))]) := by
  refine PFun.intro (sl := [(0, _), (1, _)]) Try.func154 rfl Try.ntmps154 rfl rfl ?_
  intro ctx hK
  refine PWc.seq ?_
  refine PWc.region ?_
  refine PWl.step (LR.assign rfl) rfl ?_
  refine PWl.step (LR.assign rfl) rfl ?_
  refine PWl.step (LR.assign rfl) rfl ?_
  refine PWl.nil ?_
  refine PWc.seq ?_
  refine PWc.seq ?_
  refine PWc.jn (iBind h) (fun (v3 : Bool) (_ : Unit) => ⟨75, [(0, .d (.sl (List.map (eK .u8) b1))), (1, .d (.v (.int .i64 at2))), (19, .d (.v (.bool v3)))], []⟩) (fun h => ?_) ?_
  · refine PWc.region ?_
    refine PWl.step (LR.move rfl) rfl ?_
    refine PWl.step (LR.lss rfl rfl) rfl ?_
    refine PWl.step (LR.move rfl) rfl ?_
    refine PWl.split (d := 14) rfl (fun hg4 => ?_) (fun hg4 => ?_)
    · replace h := iT hg4 h
      refine PWl.guardF rfl rfl rfl (by decide) ?_
      refine PWl.guardF rfl rfl rfl (by decide) ?_
      refine PWl.guardF rfl rfl rfl (by decide) ?_
      refine PWl.guardF rfl rfl rfl (by decide) ?_
      refine PWl.step (LR.pickT rfl rfl) rfl ?_
      refine PWl.nil ?_
      exact ⟨true, (), h, Sub.of rfl (.cons rfl rfl <| .cons rfl rfl <| .cons rfl rfl <| .nil) (.nil)⟩
    · replace h := iF hg4 h
      refine PWl.guardT (LR.move rfl) rfl rfl rfl ?_
      refine PWl.guardT (LR.move rfl) rfl rfl rfl ?_
      refine PWl.guardT (LR.lenMap (enc := (eK .u8)) (L := b1) Try.underlying45 rfl) rfl rfl rfl ?_
      refine PWl.guardT (LR.gtr rfl rfl) rfl rfl rfl ?_
      refine PWl.step (LR.pickF rfl rfl) rfl ?_
      refine PWl.nil ?_
      exact ⟨(decide ((List.length b1 : Int) < at2)), (), h, Sub.of rfl (.cons rfl rfl <| .cons rfl rfl <| .cons rfl rfl <| .nil) (.nil)⟩
  · rintro v3 _ h
    refine PWc.cond rfl (fun hc5 => ?_) (fun hc5 => ?_)
    · replace h := iT hc5 h
      refine PWc.seq ?_
      refine PWc.region ?_
      refine PWl.step (LR.assign rfl) rfl ?_
      refine PWl.step (LR.assign rfl) rfl ?_
      refine PWl.step (LR.assign rfl) rfl ?_
      refine PWl.nil ?_
      refine PWc.ret ?_
      replace h : _ = r0 := h
      subst h
      exact ⟨.inr rfl, _, .cons (.tmp rfl rfl) <| .cons (.tmp rfl rfl) <| .cons (.tmp rfl rfl) <| .nil, rfl⟩
    · replace h := iF hc5 h
      refine PWc.skip ?_
      refine PWc.seq ?_
      refine PWc.seq ?_
      refine PWc.region ?_
      refine PWl.step (LR.move rfl) rfl ?_
      refine PWl.step (LR.move rfl) rfl ?_
      refine PWl.step (LR.lenMap (enc := (eK .u8)) (L := b1) Try.underlying45 rfl) rfl ?_
      refine PWl.step (LR.eql rfl rfl) rfl ?_
      refine PWl.nil ?_
      refine PWc.cond rfl (fun hc6 => ?_) (fun hc6 => ?_)
      · replace h := iT hc6 h
        refine PWc.seq ?_
        refine PWc.region ?_
        refine PWl.step (LR.assign rfl) rfl ?_
        refine PWl.step (LR.assign rfl) rfl ?_
        refine PWl.step (LR.assign rfl) rfl ?_
        refine PWl.nil ?_
        refine PWc.ret ?_
        replace h : _ = r0 := h
        subst h
        exact ⟨.inr rfl, _, .cons (.tmp rfl rfl) <| .cons (.tmp rfl rfl) <| .cons (.tmp rfl rfl) <| .nil, rfl⟩
      · replace h := iF hc6 h
        refine PWc.skip ?_
        refine PWc.seq ?_
        refine PWc.regionD (by kernel_rfl) (by kernel_rfl) ?_
        refine PQl.step (fun _ he ho => LR.move (he rfl rfl)) rfl ?_
        refine PQl.step (fun _ he ho => LR.move (he rfl rfl)) rfl ?_
        replace h := iIdx h
        obtain ⟨x7, hy8, h⟩ := h
        refine PQl.step (fun _ he ho => LR.idxT (enc := (eK .u8)) (L := b1) (y := x7) Try.underlying45 Try.sizeOf5 (he rfl rfl) (he rfl rfl) hy8 (fun _ => rfl)) rfl ?_
        refine PQl.step (fun _ he ho => LR.loadEp Try.isAgg5 (he rfl rfl) rfl) rfl ?_
        refine PQl.step (fun _ he ho => LR.convInt Try.underlying3 (by rw [Try.underlying5]; rfl) (he rfl rfl) rfl) rfl ?_
        refine PQl.step (fun _ he ho => LR.move (he rfl rfl)) rfl ?_
        refine PQl.step (fun _ he ho => LR.move (he rfl rfl)) rfl ?_
        refine PQl.step (fun _ he ho => LR.addW (he rfl rfl) (he rfl rfl)) rfl ?_
        replace h := iNeed h
        obtain ⟨hy9, h⟩ := h
        refine PQl.step (fun _ he ho => LR.cutLT (enc := (eK .u8)) (L := b1) Try.underlying45 Try.sizeOf5 (he rfl rfl) (fun _ => rfl) (he rfl rfl) hy9) rfl ?_
        refine PQl.step (fun _ he ho => LR.assign (he rfl rfl)) rfl ?_
        refine PQl.step (fun _ he ho => LR.assign (he rfl rfl)) rfl ?_
        refine PQl.nil ?_
        refine PWc.seq ?_
        refine PWc.block ?_
        refine PWc.seq ?_
        refine PWc.jn (iBind h) (fun (v10 : Bool) (_ : Unit) => ⟨75, [(1, .d (.v (.int .i64 at2))), (7, .d (.v (.int .i64 (IntKind.i64.wrap x7)))), (8, .d (.sl (List.map (eK .u8) ((List.drop (Int.toNat (IntKind.i64.wrap (at2 + 1))) (List.take (Int.toNat (List.length b1 : Int)) b1)))))), (33, .d (.v (.bool v10)))], []⟩) (fun h => ?_) ?_
        · refine PWc.region ?_
          refine PWl.step (LR.move rfl) rfl ?_
          refine PWl.step (LR.gtr rfl rfl) rfl ?_
          refine PWl.step (LR.move rfl) rfl ?_
          refine PWl.re (tl := [(1, _), (7, _), (8, _), (36, _)]) (to := []) rfl (.cons rfl rfl <| .cons rfl rfl <| .cons rfl rfl <| .cons rfl rfl <| .nil) (.nil) ?_
          refine PWl.split (d := 36) rfl (fun hg11 => ?_) (fun hg11 => ?_)
          · replace h := iT hg11 h
            refine PWl.guardF rfl rfl rfl (by decide) ?_
            refine PWl.guardF rfl rfl rfl (by decide) ?_
            refine PWl.guardF rfl rfl rfl (by decide) ?_
            refine PWl.guardU rfl rfl rfl ?_
            refine PWl.guardU rfl rfl rfl ?_
            refine PWl.guardU rfl rfl rfl ?_
            refine PWl.guardF rfl rfl rfl (by decide) ?_
            refine PWl.guardF rfl rfl rfl (by decide) ?_
            refine PWl.guardU rfl rfl rfl ?_
            refine PWl.guardU rfl rfl rfl ?_
            refine PWl.guardU rfl rfl rfl ?_
            refine PWl.guardU rfl rfl rfl ?_
            refine PWl.guardF rfl rfl rfl (by decide) ?_
            refine PWl.step (LR.pickT rfl rfl) rfl ?_
            refine PWl.step (LR.assign rfl) rfl ?_
            refine PWl.nil ?_
            exact ⟨true, (), h, Sub.of rfl (.cons rfl rfl <| .cons rfl rfl <| .cons rfl rfl <| .cons rfl rfl <| .nil) (.nil)⟩
          · replace h := iF hg11 h
            refine PWl.guardT (LR.move rfl) rfl rfl rfl ?_
            refine PWl.guardT (LR.gtr rfl rfl) rfl rfl rfl ?_
            refine PWl.guardT (LR.move rfl) rfl rfl rfl ?_
            refine PWl.split (d := 39) rfl (fun hg12 => ?_) (fun hg12 => ?_)
            · replace h := iT hg12 h
              refine PWl.guardT (LR.move rfl) rfl rfl rfl ?_
              refine PWl.guardT (LR.lenMap (enc := (eK .u8)) (L := (List.drop (Int.toNat (IntKind.i64.wrap (at2 + 1))) (List.take (Int.toNat (List.length b1 : Int)) b1))) Try.underlying45 rfl) rfl rfl rfl ?_
              refine PWl.guardT (LR.gtr rfl rfl) rfl rfl rfl ?_
              refine PWl.guardT (LR.pickT rfl rfl) rfl rfl rfl ?_
              refine PWl.guardT (LR.move rfl) rfl rfl rfl ?_
              refine PWl.split (d := 44) rfl (fun hg13 => ?_) (fun hg13 => ?_)
              · replace h := iT hg13 h
                refine PWl.guardT (LR.move rfl) rfl rfl rfl ?_
                replace h := iIdx h
                obtain ⟨x14, hy15, h⟩ := h
                refine PWl.guardT (LR.idxT (enc := (eK .u8)) (L := (List.drop (Int.toNat (IntKind.i64.wrap (at2 + 1))) (List.take (Int.toNat (List.length b1 : Int)) b1))) (y := x14) Try.underlying45 Try.sizeOf5 rfl rfl hy15 (fun _ => rfl)) rfl rfl rfl ?_
                refine PWl.guardT (LR.loadEp Try.isAgg5 rfl rfl) rfl rfl rfl ?_
                refine PWl.guardT (LR.eql rfl rfl) rfl rfl rfl ?_
                refine PWl.guardT (LR.pickT rfl rfl) rfl rfl rfl ?_
                refine PWl.step (LR.pickF rfl rfl) rfl ?_
                refine PWl.re (tl := [(1, _), (7, _), (8, _), (50, _)]) (to := []) rfl (.cons rfl rfl <| .cons rfl rfl <| .cons rfl rfl <| .cons rfl rfl <| .nil) (.nil) ?_
                refine PWl.step (LR.assign rfl) rfl ?_
                refine PWl.nil ?_
                exact ⟨(decide (x14 = 0)), (), h, Sub.of rfl (.cons rfl rfl <| .cons rfl rfl <| .cons rfl rfl <| .cons rfl rfl <| .nil) (.nil)⟩
              · replace h := iF hg13 h
                refine PWl.guardF rfl rfl rfl (by decide) ?_
                refine PWl.guardF rfl rfl rfl (by decide) ?_
                refine PWl.guardF rfl rfl rfl (by decide) ?_
                refine PWl.guardF rfl rfl rfl (by decide) ?_
                refine PWl.guardT (LR.pickF rfl rfl) rfl rfl rfl ?_
                refine PWl.step (LR.pickF rfl rfl) rfl ?_
                refine PWl.re (tl := [(1, _), (7, _), (8, _), (50, _)]) (to := []) rfl (.cons rfl rfl <| .cons rfl rfl <| .cons rfl rfl <| .cons rfl rfl <| .nil) (.nil) ?_
                refine PWl.step (LR.assign rfl) rfl ?_
                refine PWl.nil ?_
                exact ⟨false, (), h, Sub.of rfl (.cons rfl rfl <| .cons rfl rfl <| .cons rfl rfl <| .cons rfl rfl <| .nil) (.nil)⟩
            · replace h := iF hg12 h
              refine PWl.guardF rfl rfl rfl (by decide) ?_
              refine PWl.guardF rfl rfl rfl (by decide) ?_
              refine PWl.guardF rfl rfl rfl (by decide) ?_
              refine PWl.guardT (LR.pickF rfl rfl) rfl rfl rfl ?_
              refine PWl.guardT (LR.move rfl) rfl rfl rfl ?_
              refine PWl.guardF rfl rfl rfl (by decide) ?_
              refine PWl.guardF rfl rfl rfl (by decide) ?_
              refine PWl.guardF rfl rfl rfl (by decide) ?_
              refine PWl.guardF rfl rfl rfl (by decide) ?_
              refine PWl.guardT (LR.pickF rfl rfl) rfl rfl rfl ?_
              refine PWl.step (LR.pickF rfl rfl) rfl ?_
              refine PWl.step (LR.assign rfl) rfl ?_
              refine PWl.nil ?_
              exact ⟨false, (), h, Sub.of rfl (.cons rfl rfl <| .cons rfl rfl <| .cons rfl rfl <| .cons rfl rfl <| .nil) (.nil)⟩
        · rintro v10 _ h
          refine PWc.cond rfl (fun hc16 => ?_) (fun hc16 => ?_)
          · replace h := iT hc16 h
            refine PWc.seq ?_
            refine PWc.region ?_
            refine PWl.step (LR.assign rfl) rfl ?_
            refine PWl.step (LR.assign rfl) rfl ?_
            refine PWl.step (LR.assign rfl) rfl ?_
            refine PWl.nil ?_
            refine PWc.ret ?_
            replace h : _ = r0 := h
            subst h
            exact ⟨.inr rfl, _, .cons (.tmp rfl rfl) <| .cons (.tmp rfl rfl) <| .cons (.tmp rfl rfl) <| .nil, rfl⟩
          · replace h := iF hc16 h
            refine PWc.seq ?_
            refine PWc.region ?_
            refine PWl.step (LR.move rfl) rfl ?_
            refine PWl.step (LR.lenMap (enc := (eK .u8)) (L := (List.drop (Int.toNat (IntKind.i64.wrap (at2 + 1))) (List.take (Int.toNat (List.length b1 : Int)) b1))) Try.underlying45 rfl) rfl ?_
            refine PWl.step (LR.move rfl) rfl ?_
            refine PWl.step (LR.lss rfl rfl) rfl ?_
            refine PWl.step (LR.assign rfl) rfl ?_
            refine PWl.nil ?_
            refine PWc.cond rfl (fun hc17 => ?_) (fun hc17 => ?_)
            · replace h := iT hc17 h
              refine PWc.seq ?_
              refine PWc.region ?_
              refine PWl.step (LR.assign rfl) rfl ?_
              refine PWl.step (LR.assign rfl) rfl ?_
              refine PWl.step (LR.assign rfl) rfl ?_
              refine PWl.nil ?_
              refine PWc.ret ?_
              replace h : _ = r0 := h
              subst h
              exact ⟨.inr rfl, _, .cons (.tmp rfl rfl) <| .cons (.tmp rfl rfl) <| .cons (.tmp rfl rfl) <| .nil, rfl⟩
            · replace h := iF hc17 h
              refine PWc.skip ?_
              refine PWc.seq ?_
              refine PWc.region ?_
              refine PWl.step (LR.assign rfl) rfl ?_
              refine PWl.nil ?_
              refine PWc.seq ?_
              refine PWc.seq ?_
              refine PWc.region ?_
              refine PWl.step (LR.move rfl) rfl ?_
              refine PWl.step (LR.move rfl) rfl ?_
              replace h := iNeed h
              obtain ⟨hy18, h⟩ := h
              refine PWl.step (LR.cutHT (enc := (eK .u8)) (L := (List.drop (Int.toNat (IntKind.i64.wrap (at2 + 1))) (List.take (Int.toNat (List.length b1 : Int)) b1))) Try.underlying45 Try.sizeOf5 rfl (fun _ => rfl) rfl hy18) rfl ?_
              refine PWl.step (LR.lenMap (enc := (eK .u8)) (L := (List.drop (Int.toNat 0) (List.take (Int.toNat (IntKind.i64.wrap x7)) ((List.drop (Int.toNat (IntKind.i64.wrap (at2 + 1))) (List.take (Int.toNat (List.length b1 : Int)) b1)))))) Try.underlying45 rfl) rfl ?_
              refine PWl.step (LR.move rfl) rfl ?_
              refine PWl.nil ?_
              refine PWc.jn (iBind h) (fun (v19 : Int) (_ : Unit) => ⟨75, [(1, .d (.v (.int .i64 at2))), (7, .d (.v (.int .i64 (IntKind.i64.wrap x7)))), (9, .d (.v (.int .u64 v19)))], []⟩) (fun h => ?_) ?_
              · refine PWc.block ?_
                refine PWc.loopM (fun (⟨v28, v29⟩ : Int × Int) (_ : Unit) => ⟨75, [(1, .d (.v (.int .i64 at2))), (7, .d (.v (.int .i64 (IntKind.i64.wrap x7)))), (9, .d (.v (.int .u64 v28))), (58, .d (.sl (List.map (eK .u8) ((List.drop (Int.toNat 0) (List.take (Int.toNat (IntKind.i64.wrap x7)) ((List.drop (Int.toNat (IntKind.i64.wrap (at2 + 1))) (List.take (Int.toNat (List.length b1 : Int)) b1))))))))), (59, .d (.v (.int .i64 ((List.length ((List.drop (Int.toNat 0) (List.take (Int.toNat (IntKind.i64.wrap x7)) ((List.drop (Int.toNat (IntKind.i64.wrap (at2 + 1))) (List.take (Int.toNat (List.length b1 : Int)) b1)))))) : Int))))), (60, .d (.v (.int .i64 v29)))], []⟩) () h (Sub.of rfl (.cons rfl rfl <| .cons rfl rfl <| .cons rfl rfl <| .cons rfl rfl <| .cons rfl rfl <| .cons rfl rfl <| .nil) (.nil)) ?_
                rintro N ⟨v28, v29⟩ _ h
                refine PWc.seq ?_
                refine PWc.region ?_
                refine PWl.step (LR.lss rfl rfl) rfl ?_
                refine PWl.nil ?_
                refine PWc.seq ?_
                refine PWc.cond rfl (fun hc30 => ?_) (fun hc30 => ?_)
                · replace h := iT hc30 h
                  refine PWc.skip ?_
                  refine PWc.seq ?_
                  refine PWc.block ?_
                  refine PWc.seq ?_
                  refine PWc.region ?_
                  replace h := iIdx h
                  obtain ⟨x31, hy32, h⟩ := h
                  refine PWl.step (LR.idxT (enc := (eK .u8)) (L := (List.drop (Int.toNat 0) (List.take (Int.toNat (IntKind.i64.wrap x7)) ((List.drop (Int.toNat (IntKind.i64.wrap (at2 + 1))) (List.take (Int.toNat (List.length b1 : Int)) b1)))))) (y := x31) Try.underlying45 Try.sizeOf5 rfl rfl hy32 (fun _ => rfl)) rfl ?_
                  refine PWl.step (LR.loadEp Try.isAgg5 rfl rfl) rfl ?_
                  refine PWl.step (LR.assign rfl) rfl ?_
                  refine PWl.nil ?_
                  refine PWc.region ?_
                  refine PWl.step (LR.move rfl) rfl ?_
                  refine PWl.step (LR.shl rfl rfl (by decide) rfl) rfl ?_
                  refine PWl.step (LR.move rfl) rfl ?_
                  refine PWl.step (LR.convInt Try.underlying36 (by rw [Try.underlying5]; rfl) rfl rfl) rfl ?_
                  refine PWl.step (LR.or rfl rfl) rfl ?_
                  refine PWl.step (LR.assign rfl) rfl ?_
                  refine PWl.nil ?_
                  refine PWc.region ?_
                  refine PWl.step (LR.addW rfl rfl) rfl ?_
                  refine PWl.step (LR.move rfl) rfl ?_
                  refine PWl.nil ?_
                  exact ⟨((bOr .u64 (IntKind.u64.wrap (v28 * 2 ^ 8)) (IntKind.u64.wrap x31)), (IntKind.i64.wrap (v29 + 1))), (), h, Sub.of rfl (.cons rfl rfl <| .cons rfl rfl <| .cons rfl rfl <| .cons rfl rfl <| .cons rfl rfl <| .cons rfl rfl <| .nil) (.nil)⟩
                · replace h := iF hc30 h
                  refine PWc.exit ?_
                  exact ⟨v28, (), h, Sub.of rfl (.cons rfl rfl <| .cons rfl rfl <| .cons rfl rfl <| .nil) (.nil)⟩
              · rintro v19 _ h
                refine PWc.seq ?_
                refine PWc.region ?_
                refine PWl.step (LR.move rfl) rfl ?_
                refine PWl.step (LR.move rfl) rfl ?_
                refine PWl.step (LR.addW rfl rfl) rfl ?_
                refine PWl.step (LR.move rfl) rfl ?_
                refine PWl.step (LR.addW rfl rfl) rfl ?_
                refine PWl.step (LR.assign rfl) rfl ?_
                refine PWl.step (LR.assign rfl) rfl ?_
                refine PWl.step (LR.assign rfl) rfl ?_
                refine PWl.nil ?_
                refine PWc.ret ?_
                replace h : _ = r0 := h
                subst h
                exact ⟨.inr rfl, _, .cons (.tmp rfl rfl) <| .cons (.tmp rfl rfl) <| .cons (.tmp rfl rfl) <| .nil, rfl⟩
end Go.Proofs

namespace Go.Proofs
open Go.Ep
set_option maxHeartbeats 1000000
set_option maxRecDepth 100000
set_option linter.unusedVariables false
set_option linter.unusedSimpArgs false


theorem pack_New_o_ok (b1 : List Int) (r0 : List Int × Int) (h : (pack_New_o b1).wp (· = r0)) : PObj Try.prog 58 [.d (.sl (List.map (eK .u8) b1))] [] [] (.ref 7 0) (fun _ : Unit => [(7, .cells 133 [.d (.sl (List.map (eK .u8) r0.1)), .d (.v (.int .i64 r0.2))])]) := by
  refine PObj.intro (sl := [(0, _)]) Try.func58 rfl Try.ntmps58 rfl rfl rfl ?_
  intro ctx hK pv
  refine PWc.seq ?_
  refine PWc.region ?_
  refine PWl.step (LR.assign rfl) rfl ?_
  refine PWl.nil ?_
  refine PWc.seq ?_
  refine PWc.region ?_
  refine PWl.step (LR.move rfl) rfl ?_
  replace h := iNeed h
  obtain ⟨hy2, h⟩ := h
  refine PWl.step (LR.appNilT (enc := (eK .u8)) (R := b1) elem45 Try.underlying45 rfl (Src.slT (enc := (eK .u8)) (R := b1) rfl (fun _ => rfl)) (fun _ => rfl) hy2 rfl rfl) rfl ?_
  refine PWl.frz [4] hK (.cons rfl <| .nil) rfl (by simp) ?_
  refine PWl.step (LR.build (ns := [_]) build131 rfl rfl rfl) rfl ?_
  refine PWl.step (LR.build (ns := [_, _]) build133 rfl rfl rfl) rfl ?_
  refine PWl.step (LR.box rfl rfl rfl rfl) rfl ?_
  refine PWl.step (LR.assign rfl) rfl ?_
  refine PWl.nil ?_
  refine PWc.ret ?_
  replace h : _ = r0 := h
  subst h
  exact EndsO.mk () (.inr rfl) (Sub.of (tl := [(2, _)]) (to := [(7, _)]) rfl (.cons rfl rfl <| .nil) (.cons rfl rfl <| .nil)) (.cons (.tmp rfl) <| .nil) rfl rfl

theorem pack_Reader_Err_o_ok (b_1 : List Int) (bad_2 : Int) (r0 : Int × List Int × Int) (h : (pack_Reader_Err_o b_1 bad_2).wp (· = r0)) : PObj Try.prog 68 [.ref 100 0] [(100, .cells 133 [.d (.sl (List.map (eK .u8) b_1)), .d (.v (.int .i64 bad_2))])] [100] (.d (.v (.int .i64 r0.1))) (fun _ : Unit => [(100, .cells 133 [.d (.sl (List.map (eK .u8) r0.2.1)), .d (.v (.int .i64 r0.2.2))])]) := by
  refine PObj.intro (sl := [(0, _)]) Try.func68 rfl Try.ntmps68 rfl rfl rfl ?_
  intro ctx hK pv
  refine PWc.seq ?_
  refine PWc.region ?_
  refine PWl.step (LR.assign rfl) rfl ?_
  refine PWl.nil ?_
  refine PWc.seq ?_
  refine PWc.seq ?_
  refine PWc.region ?_
  refine PWl.step (LR.move rfl) rfl ?_
  refine PWl.step (LR.eqlPtr Try.underlying81 rfl) rfl ?_
  refine PWl.nil ?_
  refine PWc.condF rfl ?_
  refine PWc.skip ?_
  refine PWc.seq ?_
  refine PWc.region ?_
  refine PWl.step (LR.move rfl) rfl ?_
  refine PWl.step (LR.nilCheckRef rfl) rfl ?_
  refine PWl.step (LR.fieldRef Try.underlying133 rfl Try.sizeOf63 (by decide) rfl rfl) rfl ?_
  refine PWl.step (LR.loadRef Try.isAgg63 rfl rfl rfl) rfl ?_
  refine PWl.step (LR.assign rfl) rfl ?_
  refine PWl.nil ?_
  refine PWc.ret ?_
  replace h : _ = r0 := h
  subst h
  exact EndsO.mk () (.inr rfl) (Sub.of (tl := [(2, _)]) (to := [(100, _), (1100, _)]) rfl (.cons rfl rfl <| .nil) (.cons rfl rfl <| .cons rfl rfl <| .nil)) (.cons (.tmp rfl) <| .nil) rfl rfl

theorem pack_Reader_Fail_o_ok (e1 : Int) (b_2 : List Int) (bad_3 : Int) (r0 : List Int × Int) (h : (pack_Reader_Fail_o e1 b_2 bad_3).wp (· = r0)) : PObj Try.prog 106 [.ref 100 0, .d (.v (.int .i64 e1))] [(100, .cells 133 [.d (.sl (List.map (eK .u8) b_2)), .d (.v (.int .i64 bad_3))])] [100] (.tup []) (fun _ : Unit => [(100, .cells 133 [.d (.sl (List.map (eK .u8) r0.1)), .d (.v (.int .i64 r0.2))])]) := by
  refine PObj.intro (sl := [(0, _), (1, _)]) Try.func106 rfl Try.ntmps106 rfl rfl rfl ?_
  intro ctx hK pv
  refine PWc.seq ?_
  refine PWc.jn (iBind h) (fun (v4 : Bool) (_ : Unit) => ⟨25, [(0, .ref 100 0), (1, .d (.v (.int .i64 e1))), (16, .d (.v (.bool v4)))], [(100, .cells 133 [.d (.sl (List.map (eK .u8) b_2)), .d (.v (.int .i64 bad_3))]), (1100, .pin 100 (pv 100).1 (pv 100).2)]⟩) (fun h => ?_) ?_
  · refine PWc.region ?_
    refine PWl.step (LR.move rfl) rfl ?_
    refine PWl.step (LR.neqPtr Try.underlying81 rfl) rfl ?_
    refine PWl.step (LR.move rfl) rfl ?_
    refine PWl.guardT (LR.move rfl) rfl rfl rfl ?_
    refine PWl.guardT (LR.nilCheckRef rfl) rfl rfl rfl ?_
    refine PWl.guardT (LR.fieldRef Try.underlying133 rfl Try.sizeOf63 (by decide) rfl rfl) rfl rfl rfl ?_
    refine PWl.guardT (LR.loadRef Try.isAgg63 rfl rfl rfl) rfl rfl rfl ?_
    refine PWl.guardT (LR.eql rfl rfl) rfl rfl rfl ?_
    refine PWl.step (LR.pickT rfl rfl) rfl ?_
    refine PWl.step (LR.move rfl) rfl ?_
    refine PWl.split (d := 13) rfl (fun hg5 => ?_) (fun hg5 => ?_)
    · replace h := iT hg5 h
      refine PWl.guardT (LR.move rfl) rfl rfl rfl ?_
      refine PWl.guardT (LR.neq rfl rfl) rfl rfl rfl ?_
      refine PWl.step (LR.pickT rfl rfl) rfl ?_
      refine PWl.nil ?_
      exact ⟨(!decide (e1 = 0)), (), h, Sub.of rfl (.cons rfl rfl <| .cons rfl rfl <| .cons rfl rfl <| .nil) (.cons rfl rfl <| .cons rfl rfl <| .nil)⟩
    · replace h := iF hg5 h
      refine PWl.guardF rfl rfl rfl (by decide) ?_
      refine PWl.guardF rfl rfl rfl (by decide) ?_
      refine PWl.step (LR.pickF rfl rfl) rfl ?_
      refine PWl.nil ?_
      exact ⟨false, (), h, Sub.of rfl (.cons rfl rfl <| .cons rfl rfl <| .cons rfl rfl <| .nil) (.cons rfl rfl <| .cons rfl rfl <| .nil)⟩
  · rintro v4 _ h
    refine PWc.cond rfl (fun hc6 => ?_) (fun hc6 => ?_)
    · replace h := iT hc6 h
      refine PWc.region ?_
      refine PWl.step (LR.move rfl) rfl ?_
      refine PWl.step (LR.move rfl) rfl ?_
      refine PWl.step (LR.move rfl) rfl ?_
      refine PWl.step (LR.nilCheckRef rfl) rfl ?_
      refine PWl.step (LR.fieldRef Try.underlying133 rfl Try.sizeOf63 (by decide) rfl rfl) rfl ?_
      refine PWl.step (LR.storeB (ns := [_, _]) Try.sizeOf63 rfl rfl rfl rfl rfl rfl rfl) rfl ?_
      refine PWl.step (LR.nilCheckRef rfl) rfl ?_
      refine PWl.step (LR.fieldRef Try.underlying133 rfl Try.sizeOf131 (by decide) rfl rfl) rfl ?_
      refine PWl.step (LR.fieldRef Try.underlying131 rfl Try.sizeOf45 (by decide) rfl rfl) rfl ?_
      refine PWl.step (LR.storeB (ns := [_, _]) Try.sizeOf45 rfl rfl rfl rfl rfl rfl rfl) rfl ?_
      refine PWl.sub (Sub.nilCell (id := 100) (j := 0) rfl rfl) ?_
      refine PWl.nil ?_
      replace h : _ = r0 := h
      subst h
      exact EndsO.mk () (.inl rfl) (Sub.of (tl := []) (to := [(100, _), (1100, _)]) rfl (.nil) (.cons rfl rfl <| .cons rfl rfl <| .nil)) (.nil) rfl rfl
    · replace h := iF hc6 h
      refine PWc.skip ?_
      replace h : _ = r0 := h
      subst h
      exact EndsO.mk () (.inl rfl) (Sub.of (tl := []) (to := [(100, _), (1100, _)]) rfl (.nil) (.cons rfl rfl <| .cons rfl rfl <| .nil)) (.nil) rfl rfl

theorem pack_rest_take_o_ok (n1 : Int) (b_2 : List Int) (bad_3 : Int) (r0 : List Int × List Int × Int) (h : (pack_rest_take_o n1 b_2 bad_3).wp (· = r0)) : PObj Try.prog 155 [.ref 100 0, .d (.v (.int .i64 n1))] [(100, .cells 133 [.d (.sl (List.map (eK .u8) b_2)), .d (.v (.int .i64 bad_3))])] [100] (.d (.sl (List.map (eK .u8) r0.1))) (fun _ : Unit => [(100, .cells 133 [.d (.sl (List.map (eK .u8) r0.2.1)), .d (.v (.int .i64 r0.2.2))])]) := by
  refine PObj.intro (sl := [(0, _), (1, _)]) Try.func155 rfl Try.ntmps155 rfl rfl rfl ?_
  intro ctx hK pv
  refine PWc.seq ?_
  refine PWc.region ?_
  refine PWl.step (LR.assignNilRow 5 1 rfl) rfl ?_
  refine PWl.nil ?_
  refine PWc.seq ?_
  refine PWc.region ?_
  refine PWl.step (LR.move rfl) rfl ?_
  refine PWl.step (LR.nilCheckRef rfl) rfl ?_
  refine PWl.step (LR.fieldRef Try.underlying131 rfl Try.sizeOf45 (by decide) rfl rfl) rfl ?_
  refine PWl.step (LR.loadRef Try.isAgg45 rfl rfl rfl) rfl ?_
  refine PWl.step (LR.move rfl) rfl ?_
  replace h := iNeed h
  obtain ⟨hy4, h⟩ := h
  refine PWl.step (LR.cutHT (enc := (eK .u8)) (L := b_2) Try.underlying45 Try.sizeOf5 rfl (fun _ => rfl) rfl hy4) rfl ?_
  refine PWl.step (LR.assign rfl) rfl ?_
  refine PWl.nil ?_
  refine PWc.seq ?_
  refine PWc.region ?_
  refine PWl.step (LR.move rfl) rfl ?_
  refine PWl.step (LR.move rfl) rfl ?_
  refine PWl.step (LR.nilCheckRef rfl) rfl ?_
  refine PWl.step (LR.fieldRef Try.underlying131 rfl Try.sizeOf45 (by decide) rfl rfl) rfl ?_
  refine PWl.step (LR.loadRef Try.isAgg45 rfl rfl rfl) rfl ?_
  refine PWl.step (LR.move rfl) rfl ?_
  replace h := iNeed h
  obtain ⟨hy5, h⟩ := h
  refine PWl.step (LR.cutLT (enc := (eK .u8)) (L := b_2) Try.underlying45 Try.sizeOf5 rfl (fun _ => rfl) rfl hy5) rfl ?_
  refine PWl.step (LR.nilCheckRef rfl) rfl ?_
  refine PWl.step (LR.fieldRef Try.underlying131 rfl Try.sizeOf45 (by decide) rfl rfl) rfl ?_
  refine PWl.step (LR.storeB (ns := [_, _]) Try.sizeOf45 rfl rfl rfl rfl rfl rfl rfl) rfl ?_
  refine PWl.nil ?_
  refine PWc.seq ?_
  refine PWc.region ?_
  refine PWl.step (LR.move rfl) rfl ?_
  refine PWl.re (tl := [(0, _), (1, _), (5, _), (6, _), (7, _), (8, _), (9, _), (10, _), (11, _), (12, _), (13, _), (14, _), (15, _), (16, _), (17, _), (18, _), (19, _), (20, _), (21, _)]) (to := [(100, _), (1100, _)]) rfl (.cons rfl rfl <| .cons rfl rfl <| .cons rfl rfl <| .cons rfl rfl <| .cons rfl rfl <| .cons rfl rfl <| .cons rfl rfl <| .cons rfl rfl <| .cons rfl rfl <| .cons rfl rfl <| .cons rfl rfl <| .cons rfl rfl <| .cons rfl rfl <| .cons rfl rfl <| .cons rfl rfl <| .cons rfl rfl <| .cons rfl rfl <| .cons rfl rfl <| .cons rfl rfl <| .nil) (.cons rfl rfl <| .cons rfl rfl <| .nil) ?_
  refine PWl.step (LR.assign rfl) rfl ?_
  refine PWl.nil ?_
  refine PWc.ret ?_
  replace h : _ = r0 := h
  subst h
  exact EndsO.mk () (.inr rfl) (Sub.of (tl := [(4, _)]) (to := [(100, _), (1100, _)]) rfl (.cons rfl rfl <| .nil) (.cons rfl rfl <| .cons rfl rfl <| .nil)) (.cons (.tmp rfl) <| .nil) rfl rfl

theorem pack_Reader_Num_o_ok (b_1 : List Int) (bad_2 : Int) (r0 : Int × List Int × Int) (h : (pack_Reader_Num_o b_1 bad_2).wp (· = r0)) : PObj Try.prog 105 [.ref 100 0] [(100, .cells 133 [.d (.sl (List.map (eK .u8) b_1)), .d (.v (.int .i64 bad_2))])] [100] (.d (.v (.int .u64 r0.1))) (fun _ : Unit => [(100, .cells 133 [.d (.sl (List.map (eK .u8) r0.2.1)), .d (.v (.int .i64 r0.2.2))])]) := by
  refine PObj.intro (sl := [(0, _)]) Try.func105 rfl Try.ntmps105 rfl rfl rfl ?_
  intro ctx hK pv
  refine PWc.seq ?_
  refine PWc.region ?_
  refine PWl.step (LR.assign rfl) rfl ?_
  refine PWl.nil ?_
  refine PWc.seq ?_
  refine PWc.seq ?_
  refine PWc.region ?_
  refine PWl.step (LR.move rfl) rfl ?_
  replace h := iDet h
  obtain ⟨y3, hy4, h⟩ := h
  refine PWl.step (LR.callObj [(100, 100)] [] [100] (pack_Reader_Err_o_ok b_1 bad_2 y3 hy4) hK rfl Try.call68 rfl (by first | rfl | (simp; done) | (simp [PV.nilD, PV.ren, rn]; omega)) (.cons (by first | rfl | (congr 1; first | (simp; done) | (simp; omega))) <| .nil) rfl rfl rfl rfl) rfl ?_
  refine PWl.step (LR.neq rfl rfl) rfl ?_
  refine PWl.nil ?_
  refine PWc.cond rfl (fun hc5 => ?_) (fun hc5 => ?_)
  · replace h := iT hc5 h
    refine PWc.seq ?_
    refine PWc.re (tl := []) (to := [(100, _), (1100, _)]) rfl (.nil) (.cons rfl rfl <| .cons rfl rfl <| .nil) ?_
    refine PWc.region ?_
    refine PWl.step (LR.assign rfl) rfl ?_
    refine PWl.nil ?_
    refine PWc.ret ?_
    replace h : _ = r0 := h
    subst h
    exact EndsO.mk () (.inr rfl) (Sub.of (tl := [(2, _)]) (to := [(100, _), (1100, _)]) rfl (.cons rfl rfl <| .nil) (.cons rfl rfl <| .cons rfl rfl <| .nil)) (.cons (.tmp rfl) <| .nil) rfl rfl
  · replace h := iF hc5 h
    refine PWc.skip ?_
    refine PWc.seq ?_
    refine PWc.re (tl := [(0, _)]) (to := [(100, _), (1100, _)]) rfl (.cons rfl rfl <| .nil) (.cons rfl rfl <| .cons rfl rfl <| .nil) ?_
    refine PWc.region ?_
    refine PWl.step (LR.move rfl) rfl ?_
    refine PWl.step (LR.nilCheckRef rfl) rfl ?_
    refine PWl.step (LR.fieldRef Try.underlying133 rfl Try.sizeOf131 (by decide) rfl rfl) rfl ?_
    refine PWl.step (LR.fieldRef Try.underlying131 rfl Try.sizeOf45 (by decide) rfl rfl) rfl ?_
    refine PWl.step (LR.loadRef Try.isAgg45 rfl rfl rfl) rfl ?_
    replace h := iDet h
    obtain ⟨v6, hy7, h⟩ := h
    refine PWl.step (LR.callN (num_Read_ok y3.2.1 0 v6 hy7) rfl Try.call154 rfl rfl rfl rfl) rfl ?_
    refine PWl.step (LR.move rfl) rfl ?_
    refine PWl.step (LR.extract rfl rfl) rfl ?_
    refine PWl.step (LR.extract rfl rfl) rfl ?_
    refine PWl.step (LR.extract rfl rfl) rfl ?_
    refine PWl.step (LR.assign rfl) rfl ?_
    refine PWl.step (LR.assign rfl) rfl ?_
    refine PWl.step (LR.assign rfl) rfl ?_
    refine PWl.nil ?_
    refine PWc.seq ?_
    refine PWc.seq ?_
    refine PWc.region ?_
    refine PWl.step (LR.move rfl) rfl ?_
    refine PWl.step (LR.neq rfl rfl) rfl ?_
    refine PWl.nil ?_
    refine PWc.cond rfl (fun hc8 => ?_) (fun hc8 => ?_)
    · replace h := iT hc8 h
      refine PWc.seq ?_
      refine PWc.region ?_
      refine PWl.step (LR.move rfl) rfl ?_
      refine PWl.step (LR.move rfl) rfl ?_
      replace h := iDet h
      obtain ⟨y9, hy10, h⟩ := h
      refine PWl.step (LR.callObj [(100, 100)] [] [100] (pack_Reader_Fail_o_ok v6.2.2 y3.2.1 y3.2.2 y9 hy10) hK rfl Try.call106 rfl (by first | rfl | (simp; done) | (simp [PV.nilD, PV.ren, rn]; omega)) (.cons (by first | rfl | (congr 1; first | (simp; done) | (simp; omega))) <| .nil) rfl rfl rfl rfl) rfl ?_
      refine PWl.nil ?_
      refine PWc.seq ?_
      refine PWc.re (tl := []) (to := [(100, _), (1100, _)]) rfl (.nil) (.cons rfl rfl <| .cons rfl rfl <| .nil) ?_
      refine PWc.region ?_
      refine PWl.step (LR.assign rfl) rfl ?_
      refine PWl.nil ?_
      refine PWc.ret ?_
      replace h : _ = r0 := h
      subst h
      exact EndsO.mk () (.inr rfl) (Sub.of (tl := [(2, _)]) (to := [(100, _), (1100, _)]) rfl (.cons rfl rfl <| .nil) (.cons rfl rfl <| .cons rfl rfl <| .nil)) (.cons (.tmp rfl) <| .nil) rfl rfl
    · replace h := iF hc8 h
      refine PWc.skip ?_
      refine PWc.seq ?_
      refine PWc.region ?_
      refine PWl.step (LR.move rfl) rfl ?_
      refine PWl.step (LR.nilCheckRef rfl) rfl ?_
      refine PWl.step (LR.fieldRef Try.underlying133 rfl Try.sizeOf131 (by decide) rfl rfl) rfl ?_
      refine PWl.step (LR.move rfl) rfl ?_
      replace h := iDet h
      obtain ⟨y11, hy12, h⟩ := h
      refine PWl.step (LR.callObj [(100, 100)] [] [100] (pack_rest_take_o_ok v6.2.1 y3.2.1 y3.2.2 y11 hy12) hK rfl Try.call155 rfl (by first | rfl | (simp; done) | (simp [PV.nilD, PV.ren, rn]; omega)) (.cons (by first | rfl | (congr 1; first | (simp; done) | (simp; omega))) <| .nil) rfl rfl rfl rfl) rfl ?_
      refine PWl.nil ?_
      refine PWc.seq ?_
      refine PWc.re (tl := [(3, _)]) (to := [(100, _), (1100, _)]) rfl (.cons rfl rfl <| .nil) (.cons rfl rfl <| .cons rfl rfl <| .nil) ?_
      refine PWc.region ?_
      refine PWl.step (LR.move rfl) rfl ?_
      refine PWl.step (LR.assign rfl) rfl ?_
      refine PWl.nil ?_
      refine PWc.ret ?_
      replace h : _ = r0 := h
      subst h
      exact EndsO.mk () (.inr rfl) (Sub.of (tl := [(2, _)]) (to := [(100, _), (1100, _)]) rfl (.cons rfl rfl <| .nil) (.cons rfl rfl <| .cons rfl rfl <| .nil)) (.cons (.tmp rfl) <| .nil) rfl rfl

theorem pack_Reader_Upto_o_ok (most1 : Int) (b_2 : List Int) (bad_3 : Int) (r0 : Int × List Int × Int) (h : (pack_Reader_Upto_o most1 b_2 bad_3).wp (· = r0)) : PObj Try.prog 158 [.ref 100 0, .d (.v (.int .u64 most1))] [(100, .cells 133 [.d (.sl (List.map (eK .u8) b_2)), .d (.v (.int .i64 bad_3))])] [100] (.d (.v (.int .u64 r0.1))) (fun _ : Unit => [(100, .cells 133 [.d (.sl (List.map (eK .u8) r0.2.1)), .d (.v (.int .i64 r0.2.2))])]) := by
  refine PObj.intro (sl := [(0, _), (1, _)]) Try.func158 rfl Try.ntmps158 rfl rfl rfl ?_
  intro ctx hK pv
  refine PWc.seq ?_
  refine PWc.region ?_
  refine PWl.step (LR.assign rfl) rfl ?_
  refine PWl.nil ?_
  refine PWc.seq ?_
  refine PWc.region ?_
  refine PWl.step (LR.move rfl) rfl ?_
  replace h := iDet h
  obtain ⟨y4, hy5, h⟩ := h
  refine PWl.step (LR.callObj [(100, 100)] [] [100] (pack_Reader_Num_o_ok b_2 bad_3 y4 hy5) hK rfl Try.call105 rfl (by first | rfl | (simp; done) | (simp [PV.nilD, PV.ren, rn]; omega)) (.cons (by first | rfl | (congr 1; first | (simp; done) | (simp; omega))) <| .nil) rfl rfl rfl rfl) rfl ?_
  refine PWl.step (LR.assign rfl) rfl ?_
  refine PWl.nil ?_
  refine PWc.seq ?_
  refine PWc.seq ?_
  refine PWc.re (tl := [(0, _), (1, _), (5, _)]) (to := [(100, _), (1100, _)]) rfl (.cons rfl rfl <| .cons rfl rfl <| .cons rfl rfl <| .nil) (.cons rfl rfl <| .cons rfl rfl <| .nil) ?_
  refine PWc.region ?_
  refine PWl.step (LR.move rfl) rfl ?_
  refine PWl.step (LR.move rfl) rfl ?_
  refine PWl.step (LR.gtr rfl rfl) rfl ?_
  refine PWl.nil ?_
  refine PWc.cond rfl (fun hc6 => ?_) (fun hc6 => ?_)
  · replace h := iT hc6 h
    refine PWc.seq ?_
    refine PWc.region ?_
    refine PWl.step (LR.move rfl) rfl ?_
    replace h := iDet h
    obtain ⟨y7, hy8, h⟩ := h
    refine PWl.step (LR.callObj [(100, 100)] [] [100] (pack_Reader_Fail_o_ok 4 y4.2.1 y4.2.2 y7 hy8) hK rfl Try.call106 rfl (by first | rfl | (simp; done) | (simp [PV.nilD, PV.ren, rn]; omega)) (.cons (by first | rfl | (congr 1; first | (simp; done) | (simp; omega))) <| .nil) rfl rfl rfl rfl) rfl ?_
    refine PWl.nil ?_
    refine PWc.seq ?_
    refine PWc.re (tl := []) (to := [(100, _), (1100, _)]) rfl (.nil) (.cons rfl rfl <| .cons rfl rfl <| .nil) ?_
    refine PWc.region ?_
    refine PWl.step (LR.assign rfl) rfl ?_
    refine PWl.nil ?_
    refine PWc.ret ?_
    replace h : _ = r0 := h
    subst h
    exact EndsO.mk () (.inr rfl) (Sub.of (tl := [(4, _)]) (to := [(100, _), (1100, _)]) rfl (.cons rfl rfl <| .nil) (.cons rfl rfl <| .cons rfl rfl <| .nil)) (.cons (.tmp rfl) <| .nil) rfl rfl
  · replace h := iF hc6 h
    refine PWc.skip ?_
    refine PWc.seq ?_
    refine PWc.region ?_
    refine PWl.step (LR.move rfl) rfl ?_
    refine PWl.step (LR.assign rfl) rfl ?_
    refine PWl.nil ?_
    refine PWc.ret ?_
    replace h : _ = r0 := h
    subst h
    exact EndsO.mk () (.inr rfl) (Sub.of (tl := [(4, _)]) (to := [(100, _), (1100, _)]) rfl (.cons rfl rfl <| .nil) (.cons rfl rfl <| .cons rfl rfl <| .nil)) (.cons (.tmp rfl) <| .nil) rfl rfl
end Go.Proofs

namespace Go.Proofs
open Go.Ep
set_option maxHeartbeats 1000000
set_option maxRecDepth 100000
set_option linter.unusedVariables false
set_option linter.unusedSimpArgs false


theorem dcode_part_o_ok (b_1 : List Int) (bad_2 : Int) (r0 : TPart × List Int × Int) (h : (dcode_part_o b_1 bad_2).wp (· = r0)) : PObj Try.prog 147 [.ref 100 0] [(100, .cells 133 [.d (.sl (List.map (eK .u8) b_1)), .d (.v (.int .i64 bad_2))])] [100] (.agg (List.map .d (TPart.e r0.1))) (fun _ : Unit => [(100, .cells 133 [.d (.sl (List.map (eK .u8) r0.2.1)), .d (.v (.int .i64 r0.2.2))])]) := by
  refine PObj.intro (sl := [(0, _)]) Try.func147 rfl Try.ntmps147 rfl rfl rfl ?_
  intro ctx hK pv
  refine PWc.seq ?_
  refine PWc.region ?_
  refine PWl.step (LR.allocZ (cs := [_, _]) Try.zeroValue101 rfl rfl rfl rfl) rfl ?_
  refine PWl.nil ?_
  refine PWc.seq ?_
  refine PWc.region ?_
  refine PWl.step (LR.move rfl) rfl ?_
  replace h := iDet h
  obtain ⟨y3, hy4, h⟩ := h
  refine PWl.step (LR.callObj [(100, 100)] [] [100] (pack_Reader_Upto_o_ok 65535 b_1 bad_2 y3 hy4) hK rfl Try.call158 rfl (by first | rfl | (simp; done) | (simp [PV.nilD, PV.ren, rn]; omega)) (.cons (by first | rfl | (congr 1; first | (simp; done) | (simp; omega))) <| .nil) rfl rfl rfl rfl) rfl ?_
  refine PWl.step (LR.convInt Try.underlying28 (by rw [Try.underlying36]; rfl) rfl rfl) rfl ?_
  refine PWl.step (LR.buildR (ns := [_, _]) build101 rfl rfl rfl) rfl ?_
  refine PWl.step (LR.allocZ (cs := [_, _]) Try.zeroValue101 rfl rfl rfl rfl) rfl ?_
  refine PWl.step (LR.storeB (ns := [_, _]) Try.sizeOf101 rfl rfl rfl rfl rfl rfl rfl) rfl ?_
  refine PWl.sub (Sub.ownNil (id := 3) (j := 1) (id' := 30061) (e := 114) (k := 2) rfl rfl rfl rfl) ?_
  refine PWl.nil ?_
  refine PWc.seq ?_
  refine PWc.seq ?_
  refine PWc.re (tl := [(0, _), (2, _), (3, _)]) (to := [(2, _), (3, _), (100, _), (1100, _), (30061, _)]) rfl (.cons rfl rfl <| .cons rfl rfl <| .cons rfl rfl <| .nil) (.cons rfl rfl <| .cons rfl rfl <| .cons rfl rfl <| .cons rfl rfl <| .cons rfl rfl <| .nil) ?_
  refine PWc.region ?_
  refine PWl.step (LR.move rfl) rfl ?_
  replace h := iDet h
  obtain ⟨y5, hy6, h⟩ := h
  refine PWl.step (LR.callObj [(100, 100)] [] [100] (pack_Reader_Num_o_ok y3.2.1 y3.2.2 y5 hy6) hK rfl Try.call105 rfl (by first | rfl | (simp; done) | (simp [PV.nilD, PV.ren, rn]; omega)) (.cons (by first | rfl | (congr 1; first | (simp; done) | (simp; omega))) <| .nil) rfl rfl rfl rfl) rfl ?_
  refine PWl.step (LR.move rfl) rfl ?_
  refine PWl.nil ?_
  refine PWc.jn (iBind h) (fun (⟨v7, v8, v9⟩ : List TRun × List Int × Int) (_ : Unit) => ⟨29, [(2, .ref 2 0), (3, .ref 3 0)], [(2, .cells 101 [.d (.v (.int .u16 0)), .d (.sl (List.map TRun.e ([] : List TRun)))]), (3, .cells 101 [.d (.v (.int .u16 (IntKind.u16.wrap y3.1))), .row 30061 (List.length v7)]), (100, .cells 133 [.d (.sl (List.map (eK .u8) v8)), .d (.v (.int .i64 v9))]), (1100, .pin 100 (pv 100).1 (pv 100).2), (30061, .row 114 2 (List.map TRun.e v7))]⟩) (fun h => ?_) ?_
  · refine PWc.block ?_
    refine PWc.loopM (fun (⟨v32, v33, v34, v35⟩ : Int × List TRun × List Int × Int) (_ : Unit) => ⟨29, [(0, .ref 100 0), (2, .ref 2 0), (3, .ref 3 0), (10, .d (.v (.int .u64 y5.1))), (11, .d (.v (.int .u64 v32)))], [(2, .cells 101 [.d (.v (.int .u16 0)), .d (.sl (List.map TRun.e ([] : List TRun)))]), (3, .cells 101 [.d (.v (.int .u16 (IntKind.u16.wrap y3.1))), .row 30061 (List.length v33)]), (100, .cells 133 [.d (.sl (List.map (eK .u8) v34)), .d (.v (.int .i64 v35))]), (1100, .pin 100 (pv 100).1 (pv 100).2), (30061, .row 114 2 (List.map TRun.e v33))]⟩) () h (Sub.of rfl (.cons rfl rfl <| .cons rfl rfl <| .cons rfl rfl <| .cons rfl rfl <| .cons rfl rfl <| .nil) (.cons rfl rfl <| .cons rfl rfl <| .cons rfl rfl <| .cons rfl rfl <| .cons rfl rfl <| .nil)) ?_
    rintro N ⟨v32, v33, v34, v35⟩ _ h
    refine PWc.seq ?_
    refine PWc.region ?_
    refine PWl.step (LR.lss rfl rfl) rfl ?_
    refine PWl.nil ?_
    refine PWc.seq ?_
    refine PWc.cond rfl (fun hc36 => ?_) (fun hc36 => ?_)
    · replace h := iT hc36 h
      refine PWc.skip ?_
      refine PWc.seq ?_
      refine PWc.block ?_
      refine PWc.seq ?_
      refine PWc.region ?_
      refine PWl.step (LR.move rfl) rfl ?_
      replace h := iDet h
      obtain ⟨y37, hy38, h⟩ := h
      refine PWl.step (LR.callObj [(100, 100)] [] [100] (pack_Reader_Num_o_ok v34 v35 y37 hy38) hK rfl Try.call105 rfl (by first | rfl | (simp; done) | (simp [PV.nilD, PV.ren, rn]; omega)) (.cons (by first | rfl | (congr 1; first | (simp; done) | (simp; omega))) <| .nil) rfl rfl rfl rfl) rfl ?_
      refine PWl.step (LR.assign rfl) rfl ?_
      refine PWl.nil ?_
      refine PWc.seq ?_
      refine PWc.re (tl := [(0, _), (2, _), (3, _), (4, _), (10, _), (11, _)]) (to := [(2, _), (3, _), (100, _), (1100, _), (30061, _)]) rfl (.cons rfl rfl <| .cons rfl rfl <| .cons rfl rfl <| .cons rfl rfl <| .cons rfl rfl <| .cons rfl rfl <| .nil) (.cons rfl rfl <| .cons rfl rfl <| .cons rfl rfl <| .cons rfl rfl <| .cons rfl rfl <| .nil) ?_
      refine PWc.regionE [⟨[15], [], [], [], [], [3], [], []⟩, ⟨[16], [], [3], [], [], [30061], [], []⟩, ⟨[17], [], [], [], [], [], [], []⟩, ⟨[18], [], [], [], [], [100], [], []⟩, ⟨[19], [100], [100], [], [], [], [], []⟩, ⟨[20], [], [], [], [], [], [], []⟩, ⟨[21], [], [], [], [], [], [], []⟩, ⟨[16, 22], [3, 30061], [3, 30061], [], [(30061, [16])], [30061], [], [3]⟩, ⟨[23], [], [], [], [], [3], [], []⟩, ⟨[], [3], [3, 30061], [], [], [], [30061], []⟩] (by kernel_rfl) (by kernel_rfl) rfl ?_
      refine PQe.stepP (fun _ he ho => LR.fieldRef Try.underlying101 rfl Try.sizeOf34 (by decide) rfl (he rfl rfl)) (.inl rfl) rfl ?_
      refine PQe.stepP (fun _ he ho => LR.loadRef Try.isAgg34 (he rfl rfl) (ho rfl rfl) rfl) (.inl rfl) rfl ?_
      refine PQe.stepP (fun _ he ho => LR.move (he rfl rfl)) (.inl rfl) rfl ?_
      refine PQe.stepP (fun _ he ho => LR.move (he rfl rfl)) (.inl rfl) rfl ?_
      replace h := iDet h
      obtain ⟨y39, hy40, h⟩ := h
      refine PQe.callObj [(100, 100)] [] [100] (pack_Reader_Num_o_ok y37.2.1 y37.2.2 y39 hy40) hK (fun _ he => ⟨he rfl rfl, evsE he rfl rfl⟩) Try.call105 (by first | rfl | (simp; done) | (simp [PV.nilD, PV.ren, rn]; omega)) (.cons (by first | rfl | (congr 1; first | (simp; done) | (simp; omega))) <| .nil) rfl rfl rfl rfl (.inl rfl) rfl ?_
      refine PQe.stepP (fun _ he ho => LR.build (ns := [_, _]) build114 rfl (evpE he rfl rfl) rfl) (.inl rfl) rfl ?_
      refine PQe.stepP (fun _ he ho => LR.buildSliceD [.tmp 20] elem34 rfl rfl (.cons (he rfl rfl) rfl rfl <| .nil) (by decide) (by decide)) (.inl rfl) rfl ?_
      replace h := iNeed h
      obtain ⟨hy41, h⟩ := h
      refine PQe.stepX [16] (fun _ he ho ha => LR.appC (enc := TRun.e) (L := v33) (R := [(⟨y37.1, y39.1⟩ : TRun)]) (j := 1) [16] elem34 Try.underlying34 (he rfl rfl) rfl (ho rfl rfl) (ho rfl rfl) rfl rfl (fun _ h1 h2 => Src.slT (enc := TRun.e) (R := [(⟨y37.1, y39.1⟩ : TRun)]) (evSame h1 h2 (he rfl rfl)) (fun _ => rfl)) (fun _ => rfl) hy41 rfl ha) rfl rfl (.inl rfl) rfl ?_
      refine PQe.stepP (fun _ he ho => LR.fieldRef Try.underlying101 rfl Try.sizeOf34 (by decide) rfl (he rfl rfl)) (.inl rfl) rfl ?_
      refine PQe.stepS (fun _ he ho => LR.storeB (ns := [_, _]) Try.sizeOf34 (he rfl rfl) (he rfl rfl) rfl rfl (ho rfl rfl) rfl rfl) (.inl rfl) rfl ?_
      refine PQe.nil ?_
      refine PWc.seq ?_
      refine PWc.re (tl := [(0, _), (2, _), (3, _), (10, _), (11, _)]) (to := [(2, _), (3, _), (100, _), (1100, _), (30061, _)]) rfl (.cons rfl rfl <| .cons rfl rfl <| .cons rfl rfl <| .cons rfl rfl <| .cons rfl rfl <| .nil) (.cons rfl rfl <| .cons rfl rfl <| .cons rfl rfl <| .cons rfl rfl <| .cons rfl rfl <| .nil) ?_
      refine PWc.region ?_
      refine PWl.step (LR.move rfl) rfl ?_
      replace h := iDet h
      obtain ⟨y42, hy43, h⟩ := h
      refine PWl.step (LR.callObj [(100, 100)] [] [100] (pack_Reader_Err_o_ok y39.2.1 y39.2.2 y42 hy43) hK rfl Try.call68 rfl (by first | rfl | (simp; done) | (simp [PV.nilD, PV.ren, rn]; omega)) (.cons (by first | rfl | (congr 1; first | (simp; done) | (simp; omega))) <| .nil) rfl rfl rfl rfl) rfl ?_
      refine PWl.step (LR.neq rfl rfl) rfl ?_
      refine PWl.nil ?_
      refine PWc.cond rfl (fun hc44 => ?_) (fun hc44 => ?_)
      · replace h := iT hc44 h
        refine PWc.exit ?_
        exact ⟨((v33 ++ [(⟨y37.1, y39.1⟩ : TRun)]), y42.2.1, y42.2.2), (), h, Sub.of rfl (.cons rfl rfl <| .cons rfl rfl <| .nil) (.cons rfl rfl <| .cons rfl rfl <| .cons rfl rfl <| .cons rfl rfl <| .cons rfl rfl <| .nil)⟩
      · replace h := iF hc44 h
        refine PWc.skip ?_
        refine PWc.re (tl := [(0, _), (2, _), (3, _), (10, _), (11, _)]) (to := [(2, _), (3, _), (100, _), (1100, _), (30061, _)]) rfl (.cons rfl rfl <| .cons rfl rfl <| .cons rfl rfl <| .cons rfl rfl <| .cons rfl rfl <| .nil) (.cons rfl rfl <| .cons rfl rfl <| .cons rfl rfl <| .cons rfl rfl <| .cons rfl rfl <| .nil) ?_
        refine PWc.region ?_
        refine PWl.step (LR.addW rfl rfl) rfl ?_
        refine PWl.step (LR.move rfl) rfl ?_
        refine PWl.nil ?_
        exact ⟨((IntKind.u64.wrap (v32 + 1)), (v33 ++ [(⟨y37.1, y39.1⟩ : TRun)]), y42.2.1, y42.2.2), (), h, Sub.of rfl (.cons rfl rfl <| .cons rfl rfl <| .cons rfl rfl <| .cons rfl rfl <| .cons rfl rfl <| .nil) (.cons rfl rfl <| .cons rfl rfl <| .cons rfl rfl <| .cons rfl rfl <| .cons rfl rfl <| .nil)⟩
    · replace h := iF hc36 h
      refine PWc.exit ?_
      exact ⟨(v33, v34, v35), (), h, Sub.of rfl (.cons rfl rfl <| .cons rfl rfl <| .nil) (.cons rfl rfl <| .cons rfl rfl <| .cons rfl rfl <| .cons rfl rfl <| .cons rfl rfl <| .nil)⟩
  · rintro ⟨v7, v8, v9⟩ _ h
    refine PWc.seq ?_
    refine PWc.region ?_
    refine PWl.frzC (id := 30061) (oid := 3) (j := 1) (n := (List.length v7)) [] hK (.nil) rfl (by simp) rfl (by first | rfl | (congr 2; first | (simp; done) | (simp; omega))) rfl ?_
    refine PWl.step (LR.loadRefAgg (ps := [_, _]) Try.isAgg101 Try.sizeOf101 rfl rfl rfl rfl) rfl ?_
    refine PWl.step (LR.storeB (ns := [_, _]) Try.sizeOf101 rfl rfl rfl rfl rfl rfl rfl) rfl ?_
    refine PWl.nil ?_
    refine PWc.ret ?_
    replace h : _ = r0 := h
    subst h
    exact EndsO.mkX (ex := [(2, _)]) () (.inr rfl) (Sub.of (tl := [(2, _)]) (to := [(100, _), (1100, _), (2, _)]) rfl (.cons rfl rfl <| .nil) (.cons rfl rfl <| .cons rfl rfl <| .cons rfl rfl <| .nil)) (.cons (.agg Try.isAgg101 Try.sizeOf101 rfl rfl rfl) <| .nil) rfl rfl

theorem dcode_Ctx_o_ok (b_1 : List Int) (bad_2 : Int) (r0 : List TPart × List Int × Int) (h : (dcode_Ctx_o b_1 bad_2).wp (· = r0)) : PObj Try.prog 98 [.ref 100 0] [(100, .cells 133 [.d (.sl (List.map (eK .u8) b_1)), .d (.v (.int .i64 bad_2))])] [100] (.d (.sl (List.map TPart.e r0.1))) (fun _ : Unit => [(100, .cells 133 [.d (.sl (List.map (eK .u8) r0.2.1)), .d (.v (.int .i64 r0.2.2))])]) := by
  refine PObj.intro (sl := [(0, _)]) Try.func98 rfl Try.ntmps98 rfl rfl rfl ?_
  intro ctx hK pv
  refine PWc.seq ?_
  refine PWc.region ?_
  refine PWl.step (LR.assignNilRow 101 2 rfl) rfl ?_
  refine PWl.nil ?_
  refine PWc.seq ?_
  refine PWc.region ?_
  refine PWl.step (LR.assignNilRow 101 2 rfl) rfl ?_
  refine PWl.nil ?_
  refine PWc.seq ?_
  refine PWc.seq ?_
  refine PWc.region ?_
  refine PWl.step (LR.move rfl) rfl ?_
  replace h := iDet h
  obtain ⟨y3, hy4, h⟩ := h
  refine PWl.step (LR.callObj [(100, 100)] [] [100] (pack_Reader_Num_o_ok b_1 bad_2 y3 hy4) hK rfl Try.call105 rfl (by first | rfl | (simp; done) | (simp [PV.nilD, PV.ren, rn]; omega)) (.cons (by first | rfl | (congr 1; first | (simp; done) | (simp; omega))) <| .nil) rfl rfl rfl rfl) rfl ?_
  refine PWl.step (LR.move rfl) rfl ?_
  refine PWl.nil ?_
  refine PWc.jnX (iBind h) (fun (⟨c5, v6, v7⟩ : List TPart × List Int × Int) (_ : Unit) => ⟨23, [(0, .ref 100 0), (3, .row 3 (List.length c5))], [(3, .row 101 2 (List.map TPart.e c5)), (100, .cells 133 [.d (.sl (List.map (eK .u8) v6)), .d (.v (.int .i64 v7))]), (1100, .pin 100 (pv 100).1 (pv 100).2)]⟩) (fun h => ?_) ?_
  · refine PWc.block ?_
    refine PWc.loopM (fun (⟨v26, c27, v28, v29⟩ : Int × List TPart × List Int × Int) (_ : Unit) => ⟨23, [(0, .ref 100 0), (3, .row 3 (List.length c27)), (5, .d (.v (.int .u64 y3.1))), (6, .d (.v (.int .u64 v26)))], [(3, .row 101 2 (List.map TPart.e c27)), (100, .cells 133 [.d (.sl (List.map (eK .u8) v28)), .d (.v (.int .i64 v29))]), (1100, .pin 100 (pv 100).1 (pv 100).2)]⟩) () h (Sub.of rfl (.cons rfl rfl <| .cons rfl rfl <| .cons rfl rfl <| .cons rfl rfl <| .nil) (.cons rfl rfl <| .cons rfl rfl <| .cons rfl rfl <| .nil)) ?_
    rintro N ⟨v26, c27, v28, v29⟩ _ h
    refine PWc.seq ?_
    refine PWc.region ?_
    refine PWl.step (LR.lss rfl rfl) rfl ?_
    refine PWl.nil ?_
    refine PWc.seq ?_
    refine PWc.cond rfl (fun hc30 => ?_) (fun hc30 => ?_)
    · replace h := iT hc30 h
      refine PWc.skip ?_
      refine PWc.seq ?_
      refine PWc.block ?_
      refine PWc.seq ?_
      refine PWc.region ?_
      refine PWl.step (LR.move rfl) rfl ?_
      refine PWl.step (LR.move rfl) rfl ?_
      replace h := iDet h
      obtain ⟨y31, hy32, h⟩ := h
      refine PWl.step (LR.callObj [(100, 100)] [] [100] (dcode_part_o_ok v28 v29 y31 hy32) hK rfl Try.call147 rfl (by first | rfl | (simp; done) | (simp [PV.nilD, PV.ren, rn]; omega)) (.cons (by first | rfl | (congr 1; first | (simp; done) | (simp; omega))) <| .nil) rfl rfl rfl rfl) rfl ?_
      refine PWl.step (LR.buildSliceD [.tmp 10] elem24 rfl rfl (.cons rfl rfl rfl <| .nil) (by decide) (by decide)) rfl ?_
      replace h := iNeed h
      obtain ⟨hy33, h⟩ := h
      refine PWl.step (LR.appT (enc := TPart.e) (L := c27) (R := [y31.1]) [3, 8] elem24 Try.underlying24 rfl rfl rfl (Src.slT (enc := TPart.e) (R := [y31.1]) rfl (fun _ => rfl)) (fun _ => rfl) hy33 rfl rfl) rfl ?_
      refine PWl.step (LR.assign rfl) rfl ?_
      refine PWl.nil ?_
      refine PWc.seq ?_
      refine PWc.re (tl := [(0, _), (3, _), (5, _), (6, _)]) (to := [(3, _), (100, _), (1100, _)]) rfl (.cons rfl rfl <| .cons rfl rfl <| .cons rfl rfl <| .cons rfl rfl <| .nil) (.cons rfl rfl <| .cons rfl rfl <| .cons rfl rfl <| .nil) ?_
      refine PWc.region ?_
      refine PWl.step (LR.move rfl) rfl ?_
      replace h := iDet h
      obtain ⟨y34, hy35, h⟩ := h
      refine PWl.step (LR.callObj [(100, 100)] [] [100] (pack_Reader_Err_o_ok y31.2.1 y31.2.2 y34 hy35) hK rfl Try.call68 rfl (by first | rfl | (simp; done) | (simp [PV.nilD, PV.ren, rn]; omega)) (.cons (by first | rfl | (congr 1; first | (simp; done) | (simp; omega))) <| .nil) rfl rfl rfl rfl) rfl ?_
      refine PWl.step (LR.neq rfl rfl) rfl ?_
      refine PWl.nil ?_
      refine PWc.cond rfl (fun hc36 => ?_) (fun hc36 => ?_)
      · replace h := iT hc36 h
        refine PWc.seq ?_
        refine PWc.re (tl := []) (to := [(100, _), (1100, _)]) rfl (.nil) (.cons rfl rfl <| .cons rfl rfl <| .nil) ?_
        refine PWc.region ?_
        refine PWl.step (LR.assignNilRow 101 2 rfl) rfl ?_
        refine PWl.nil ?_
        refine PWc.ret ?_
        replace h : _ = r0 := h
        subst h
        exact EndsO.mk () (.inr rfl) (Sub.trans (Sub.frz [2] hK rfl (by first | (simp; done) | (simp; omega) | omega) (AllRow.get (.cons rfl <| .nil))) <| Sub.of (tl := [(2, _)]) (to := [(100, _), (1100, _)]) rfl (.cons rfl rfl <| .nil) (.cons rfl rfl <| .cons rfl rfl <| .nil)) (.cons (.tmp rfl) <| .nil) rfl rfl
      · replace h := iF hc36 h
        refine PWc.skip ?_
        refine PWc.re (tl := [(0, _), (3, _), (5, _), (6, _)]) (to := [(3, _), (100, _), (1100, _)]) rfl (.cons rfl rfl <| .cons rfl rfl <| .cons rfl rfl <| .cons rfl rfl <| .nil) (.cons rfl rfl <| .cons rfl rfl <| .cons rfl rfl <| .nil) ?_
        refine PWc.region ?_
        refine PWl.step (LR.addW rfl rfl) rfl ?_
        refine PWl.step (LR.move rfl) rfl ?_
        refine PWl.nil ?_
        exact ⟨((IntKind.u64.wrap (v26 + 1)), (c27 ++ [y31.1]), y34.2.1, y34.2.2), (), h, Sub.of rfl (.cons rfl rfl <| .cons rfl rfl <| .cons rfl rfl <| .cons rfl rfl <| .nil) (.cons rfl rfl <| .cons rfl rfl <| .cons rfl rfl <| .nil)⟩
    · replace h := iF hc30 h
      refine PWc.exit ?_
      exact ⟨(c27, v28, v29), (), h, Sub.of rfl (.cons rfl rfl <| .cons rfl rfl <| .nil) (.cons rfl rfl <| .cons rfl rfl <| .cons rfl rfl <| .nil)⟩
  · rintro ⟨c5, v6, v7⟩ _ h
    refine PWc.seq ?_
    refine PWc.seq ?_
    refine PWc.region ?_
    refine PWl.step (LR.move rfl) rfl ?_
    replace h := iDet h
    obtain ⟨v37, hy38, h⟩ := h
    refine PWl.frz [3, 17] hK (.cons rfl <| .cons rfl <| .nil) rfl (by simp) ?_
    refine PWl.step (LR.callN (ctx_Good_ok c5 v37 hy38) rfl Try.call57 rfl rfl rfl rfl) rfl ?_
    refine PWl.step (LR.not rfl) rfl ?_
    refine PWl.nil ?_
    refine PWc.cond rfl (fun hc39 => ?_) (fun hc39 => ?_)
    · replace h := iT hc39 h
      refine PWc.seq ?_
      refine PWc.region ?_
      refine PWl.step (LR.move rfl) rfl ?_
      replace h := iDet h
      obtain ⟨y40, hy41, h⟩ := h
      refine PWl.step (LR.callObj [(100, 100)] [] [100] (pack_Reader_Fail_o_ok 4 v6 v7 y40 hy41) hK rfl Try.call106 rfl (by first | rfl | (simp; done) | (simp [PV.nilD, PV.ren, rn]; omega)) (.cons (by first | rfl | (congr 1; first | (simp; done) | (simp; omega))) <| .nil) rfl rfl rfl rfl) rfl ?_
      refine PWl.nil ?_
      refine PWc.seq ?_
      refine PWc.re (tl := []) (to := [(100, _), (1100, _)]) rfl (.nil) (.cons rfl rfl <| .cons rfl rfl <| .nil) ?_
      refine PWc.region ?_
      refine PWl.step (LR.assignNilRow 101 2 rfl) rfl ?_
      refine PWl.nil ?_
      refine PWc.ret ?_
      replace h : _ = r0 := h
      subst h
      exact EndsO.mk () (.inr rfl) (Sub.trans (Sub.frz [2] hK rfl (by first | (simp; done) | (simp; omega) | omega) (AllRow.get (.cons rfl <| .nil))) <| Sub.of (tl := [(2, _)]) (to := [(100, _), (1100, _)]) rfl (.cons rfl rfl <| .nil) (.cons rfl rfl <| .cons rfl rfl <| .nil)) (.cons (.tmp rfl) <| .nil) rfl rfl
    · replace h := iF hc39 h
      refine PWc.skip ?_
      refine PWc.seq ?_
      refine PWc.region ?_
      refine PWl.step (LR.move rfl) rfl ?_
      refine PWl.step (LR.assign rfl) rfl ?_
      refine PWl.nil ?_
      refine PWc.ret ?_
      replace h : _ = r0 := h
      subst h
      exact EndsO.mk () (.inr rfl) (Sub.of (tl := [(2, _)]) (to := [(100, _), (1100, _)]) rfl (.cons rfl rfl <| .nil) (.cons rfl rfl <| .cons rfl rfl <| .nil)) (.cons (.tmp rfl) <| .nil) rfl rfl

theorem pack_rest_Left_o_ok (b_1 : List Int) (bad_2 : Int) (r0 : Int × List Int × Int) (h : (pack_rest_Left_o b_1 bad_2).wp (· = r0)) : PObj Try.prog 157 [.ref 100 0] [(100, .cells 133 [.d (.sl (List.map (eK .u8) b_1)), .d (.v (.int .i64 bad_2))])] [100] (.d (.v (.int .i64 r0.1))) (fun _ : Unit => [(100, .cells 133 [.d (.sl (List.map (eK .u8) r0.2.1)), .d (.v (.int .i64 r0.2.2))])]) := by
  refine PObj.intro (sl := [(0, _)]) Try.func157 rfl Try.ntmps157 rfl rfl rfl ?_
  intro ctx hK pv
  refine PWc.seq ?_
  refine PWc.region ?_
  refine PWl.step (LR.assign rfl) rfl ?_
  refine PWl.nil ?_
  refine PWc.seq ?_
  refine PWc.seq ?_
  refine PWc.region ?_
  refine PWl.step (LR.move rfl) rfl ?_
  refine PWl.step (LR.eqlPtr Try.underlying192 rfl) rfl ?_
  refine PWl.nil ?_
  refine PWc.condF rfl ?_
  refine PWc.skip ?_
  refine PWc.seq ?_
  refine PWc.region ?_
  refine PWl.step (LR.move rfl) rfl ?_
  refine PWl.step (LR.nilCheckRef rfl) rfl ?_
  refine PWl.step (LR.fieldRef Try.underlying131 rfl Try.sizeOf45 (by decide) rfl rfl) rfl ?_
  refine PWl.step (LR.loadRef Try.isAgg45 rfl rfl rfl) rfl ?_
  refine PWl.step (LR.lenMap (enc := (eK .u8)) (L := b_1) Try.underlying45 rfl) rfl ?_
  refine PWl.step (LR.assign rfl) rfl ?_
  refine PWl.nil ?_
  refine PWc.ret ?_
  replace h : _ = r0 := h
  subst h
  exact EndsO.mk () (.inr rfl) (Sub.of (tl := [(2, _)]) (to := [(100, _), (1100, _)]) rfl (.cons rfl rfl <| .nil) (.cons rfl rfl <| .cons rfl rfl <| .nil)) (.cons (.tmp rfl) <| .nil) rfl rfl

theorem pack_Reader_Left_o_ok (b_1 : List Int) (bad_2 : Int) (r0 : Int × List Int × Int) (h : (pack_Reader_Left_o b_1 bad_2).wp (· = r0)) : PObj Try.prog 111 [.ref 100 0] [(100, .cells 133 [.d (.sl (List.map (eK .u8) b_1)), .d (.v (.int .i64 bad_2))])] [100] (.d (.v (.int .i64 r0.1))) (fun _ : Unit => [(100, .cells 133 [.d (.sl (List.map (eK .u8) r0.2.1)), .d (.v (.int .i64 r0.2.2))])]) := by
  refine PObj.intro (sl := [(0, _)]) Try.func111 rfl Try.ntmps111 rfl rfl rfl ?_
  intro ctx hK pv
  refine PWc.seq ?_
  refine PWc.region ?_
  refine PWl.step (LR.assign rfl) rfl ?_
  refine PWl.nil ?_
  refine PWc.seq ?_
  refine PWc.seq ?_
  refine PWc.region ?_
  refine PWl.step (LR.move rfl) rfl ?_
  refine PWl.step (LR.eqlPtr Try.underlying81 rfl) rfl ?_
  refine PWl.nil ?_
  refine PWc.condF rfl ?_
  refine PWc.skip ?_
  refine PWc.seq ?_
  refine PWc.region ?_
  refine PWl.step (LR.move rfl) rfl ?_
  refine PWl.step (LR.nilCheckRef rfl) rfl ?_
  refine PWl.step (LR.fieldRef Try.underlying133 rfl Try.sizeOf131 (by decide) rfl rfl) rfl ?_
  replace h := iDet h
  obtain ⟨y3, hy4, h⟩ := h
  refine PWl.step (LR.callObj [(100, 100)] [] [100] (pack_rest_Left_o_ok b_1 bad_2 y3 hy4) hK rfl Try.call157 rfl (by first | rfl | (simp; done) | (simp [PV.nilD, PV.ren, rn]; omega)) (.cons (by first | rfl | (congr 1; first | (simp; done) | (simp; omega))) <| .nil) rfl rfl rfl rfl) rfl ?_
  refine PWl.step (LR.assign rfl) rfl ?_
  refine PWl.nil ?_
  refine PWc.ret ?_
  replace h : _ = r0 := h
  subst h
  exact EndsO.mk () (.inr rfl) (Sub.of (tl := [(2, _)]) (to := [(100, _), (1100, _)]) rfl (.cons rfl rfl <| .nil) (.cons rfl rfl <| .cons rfl rfl <| .nil)) (.cons (.tmp rfl) <| .nil) rfl rfl

theorem pack_Reader_End_o_ok (b_1 : List Int) (bad_2 : Int) (r0 : Int × List Int × Int) (h : (pack_Reader_End_o b_1 bad_2).wp (· = r0)) : PObj Try.prog 61 [.ref 100 0] [(100, .cells 133 [.d (.sl (List.map (eK .u8) b_1)), .d (.v (.int .i64 bad_2))])] [100] (.d (.v (.int .i64 r0.1))) (fun _ : Unit => [(100, .cells 133 [.d (.sl (List.map (eK .u8) r0.2.1)), .d (.v (.int .i64 r0.2.2))])]) := by
  refine PObj.intro (sl := [(0, _)]) Try.func61 rfl Try.ntmps61 rfl rfl rfl ?_
  intro ctx hK pv
  refine PWc.seq ?_
  refine PWc.region ?_
  refine PWl.step (LR.assign rfl) rfl ?_
  refine PWl.nil ?_
  refine PWc.seq ?_
  refine PWc.seq ?_
  refine PWc.region ?_
  refine PWl.step (LR.move rfl) rfl ?_
  replace h := iDet h
  obtain ⟨y3, hy4, h⟩ := h
  refine PWl.step (LR.callObj [(100, 100)] [] [100] (pack_Reader_Left_o_ok b_1 bad_2 y3 hy4) hK rfl Try.call111 rfl (by first | rfl | (simp; done) | (simp [PV.nilD, PV.ren, rn]; omega)) (.cons (by first | rfl | (congr 1; first | (simp; done) | (simp; omega))) <| .nil) rfl rfl rfl rfl) rfl ?_
  refine PWl.step (LR.gtr rfl rfl) rfl ?_
  refine PWl.nil ?_
  refine PWc.jn (iBind h) (fun (⟨v5, v6⟩ : List Int × Int) (_ : Unit) => ⟨10, [(0, .ref 100 0)], [(100, .cells 133 [.d (.sl (List.map (eK .u8) v5)), .d (.v (.int .i64 v6))]), (1100, .pin 100 (pv 100).1 (pv 100).2)]⟩) (fun h => ?_) ?_
  · refine PWc.cond rfl (fun hc7 => ?_) (fun hc7 => ?_)
    · replace h := iT hc7 h
      refine PWc.re (tl := [(0, _)]) (to := [(100, _), (1100, _)]) rfl (.cons rfl rfl <| .nil) (.cons rfl rfl <| .cons rfl rfl <| .nil) ?_
      refine PWc.region ?_
      refine PWl.step (LR.move rfl) rfl ?_
      replace h := iDet h
      obtain ⟨y8, hy9, h⟩ := h
      refine PWl.step (LR.callObj [(100, 100)] [] [100] (pack_Reader_Fail_o_ok 4 y3.2.1 y3.2.2 y8 hy9) hK rfl Try.call106 rfl (by first | rfl | (simp; done) | (simp [PV.nilD, PV.ren, rn]; omega)) (.cons (by first | rfl | (congr 1; first | (simp; done) | (simp; omega))) <| .nil) rfl rfl rfl rfl) rfl ?_
      refine PWl.nil ?_
      exact ⟨(y8.1, y8.2), (), h, Sub.of rfl (.cons rfl rfl <| .nil) (.cons rfl rfl <| .cons rfl rfl <| .nil)⟩
    · replace h := iF hc7 h
      refine PWc.skip ?_
      exact ⟨(y3.2.1, y3.2.2), (), h, Sub.of rfl (.cons rfl rfl <| .nil) (.cons rfl rfl <| .cons rfl rfl <| .nil)⟩
  · rintro ⟨v5, v6⟩ _ h
    refine PWc.seq ?_
    refine PWc.region ?_
    refine PWl.step (LR.move rfl) rfl ?_
    replace h := iDet h
    obtain ⟨y10, hy11, h⟩ := h
    refine PWl.step (LR.callObj [(100, 100)] [] [100] (pack_Reader_Err_o_ok v5 v6 y10 hy11) hK rfl Try.call68 rfl (by first | rfl | (simp; done) | (simp [PV.nilD, PV.ren, rn]; omega)) (.cons (by first | rfl | (congr 1; first | (simp; done) | (simp; omega))) <| .nil) rfl rfl rfl rfl) rfl ?_
    refine PWl.step (LR.assign rfl) rfl ?_
    refine PWl.nil ?_
    refine PWc.ret ?_
    replace h : _ = r0 := h
    subst h
    exact EndsO.mk () (.inr rfl) (Sub.of (tl := [(2, _)]) (to := [(100, _), (1100, _)]) rfl (.cons rfl rfl <| .nil) (.cons rfl rfl <| .cons rfl rfl <| .nil)) (.cons (.tmp rfl) <| .nil) rfl rfl

theorem dcode_Decode_ok (b1 : List Int) (r0 : List TPart × Int) (h : (dcode_Decode b1).wp (· = r0)) : PFun Try.prog 51 [.d (.sl (List.map (eK .u8) b1))] (.tup [.d (.sl (List.map TPart.e r0.1)), .d (.v (.int .i64 r0.2))]) := by
  refine PFun.intro (sl := [(0, _)]) Try.func51 rfl Try.ntmps51 rfl rfl ?_
  intro ctx hK
  refine PWc.seq ?_
  refine PWc.region ?_
  refine PWl.step (LR.assignNilRow 101 2 rfl) rfl ?_
  refine PWl.step (LR.assign rfl) rfl ?_
  refine PWl.nil ?_
  refine PWc.seq ?_
  refine PWc.region ?_
  refine PWl.step (LR.move rfl) rfl ?_
  replace h := iDet h
  obtain ⟨y2, hy3, h⟩ := h
  refine PWl.step (LR.callObj [(7, 8)] [] [7] (pack_New_o_ok b1 y2 hy3) hK rfl Try.call58 rfl (by first | rfl | (simp; done) | (simp [PV.nilD, PV.ren, rn]; omega)) (.nil) rfl rfl rfl rfl) rfl ?_
  refine PWl.step (LR.assign rfl) rfl ?_
  refine PWl.nil ?_
  refine PWc.seq ?_
  refine PWc.re (tl := [(4, _)]) (to := [(8, _)]) rfl (.cons rfl rfl <| .nil) (.cons rfl rfl <| .nil) ?_
  refine PWc.region ?_
  refine PWl.step (LR.move rfl) rfl ?_
  replace h := iDet h
  obtain ⟨y4, hy5, h⟩ := h
  refine PWl.step (LR.callObj [(100, 8)] [] [100] (dcode_Ctx_o_ok y2.1 y2.2 y4 hy5) hK rfl Try.call98 rfl (by first | rfl | (simp; done) | (simp [PV.nilD, PV.ren, rn]; omega)) (.cons (by first | rfl | (congr 1; first | (simp; done) | (simp; omega))) <| .nil) rfl rfl rfl rfl) rfl ?_
  refine PWl.step (LR.assign rfl) rfl ?_
  refine PWl.nil ?_
  refine PWc.seq ?_
  refine PWc.seq ?_
  refine PWc.re (tl := [(4, _), (5, _)]) (to := [(8, _)]) rfl (.cons rfl rfl <| .cons rfl rfl <| .nil) (.cons rfl rfl <| .nil) ?_
  refine PWc.region ?_
  refine PWl.step (LR.move rfl) rfl ?_
  replace h := iDet h
  obtain ⟨y6, hy7, h⟩ := h
  refine PWl.step (LR.callObj [(100, 8)] [] [100] (pack_Reader_End_o_ok y4.2.1 y4.2.2 y6 hy7) hK rfl Try.call61 rfl (by first | rfl | (simp; done) | (simp [PV.nilD, PV.ren, rn]; omega)) (.cons (by first | rfl | (congr 1; first | (simp; done) | (simp; omega))) <| .nil) rfl rfl rfl rfl) rfl ?_
  refine PWl.step (LR.assign rfl) rfl ?_
  refine PWl.nil ?_
  refine PWc.seq ?_
  refine PWc.re (tl := [(5, _), (6, _)]) (to := []) rfl (.cons rfl rfl <| .cons rfl rfl <| .nil) (.nil) ?_
  refine PWc.region ?_
  refine PWl.step (LR.move rfl) rfl ?_
  refine PWl.step (LR.neq rfl rfl) rfl ?_
  refine PWl.nil ?_
  refine PWc.cond rfl (fun hc8 => ?_) (fun hc8 => ?_)
  · replace h := iT hc8 h
    refine PWc.seq ?_
    refine PWc.region ?_
    refine PWl.step (LR.move rfl) rfl ?_
    refine PWl.step (LR.assignNilRow 101 2 rfl) rfl ?_
    refine PWl.step (LR.assign rfl) rfl ?_
    refine PWl.nil ?_
    refine PWc.ret ?_
    replace h : _ = r0 := h
    subst h
    exact ⟨.inr rfl, _, .cons (.row rfl rfl (by first | (simp; done) | (simp; omega) | omega)) <| .cons (.tmp rfl rfl) <| .nil, rfl⟩
  · replace h := iF hc8 h
    refine PWc.skip ?_
    refine PWc.seq ?_
    refine PWc.region ?_
    refine PWl.step (LR.move rfl) rfl ?_
    refine PWl.step (LR.assign rfl) rfl ?_
    refine PWl.step (LR.assign rfl) rfl ?_
    refine PWl.nil ?_
    refine PWc.ret ?_
    replace h : _ = r0 := h
    subst h
    exact ⟨.inr rfl, _, .cons (.tmp rfl rfl) <| .cons (.tmp rfl rfl) <| .nil, rfl⟩
end Go.Proofs

namespace Go.Proofs
open Go.Ep
set_option maxHeartbeats 1000000
set_option maxRecDepth 100000
set_option linter.unusedVariables false
set_option linter.unusedSimpArgs false


theorem l15_DcodeOnce_ok (b1 : List Int) (c2 : Int) (r0 : Bool) (h : (l15_DcodeOnce b1 c2).wp (· = r0)) : PFun Try.prog 8 [.d (.sl (List.map (eK .u8) b1)), .d (.v (.int .u8 c2))] (.d (.v (.bool r0))) := by
  refine PFun.intro (sl := [(0, _), (1, _)]) Try.func8 rfl Try.ntmps8 rfl rfl ?_
  intro ctx hK
  refine PWc.seq ?_
  refine PWc.region ?_
  refine PWl.step (LR.assign rfl) rfl ?_
  refine PWl.nil ?_
  refine PWc.seq ?_
  refine PWc.seq ?_
  refine PWc.region ?_
  refine PWl.step (LR.move rfl) rfl ?_
  refine PWl.step (LR.lenMap (enc := (eK .u8)) (L := b1) Try.underlying45 rfl) rfl ?_
  refine PWl.step (LR.gtr rfl rfl) rfl ?_
  refine PWl.nil ?_
  refine PWc.cond rfl (fun hc3 => ?_) (fun hc3 => ?_)
  · replace h := iT hc3 h
    refine PWc.seq ?_
    refine PWc.region ?_
    replace h := iDet h
    obtain ⟨v4, hy5, h⟩ := h
    refine PWl.step (LR.callN (l15_works_ok v4 hy5) rfl Try.call25 rfl rfl rfl rfl) rfl ?_
    refine PWl.step (LR.assign rfl) rfl ?_
    refine PWl.nil ?_
    refine PWc.ret ?_
    replace h : _ = r0 := h
    subst h
    exact ⟨.inr rfl, _, .cons (.tmp rfl rfl) <| .nil, rfl⟩
  · replace h := iF hc3 h
    refine PWc.skip ?_
    refine PWc.seq ?_
    refine PWc.region ?_
    refine PWl.step (LR.move rfl) rfl ?_
    replace h := iDet h
    obtain ⟨v6, hy7, h⟩ := h
    refine PWl.step (LR.callN (dcode_Decode_ok b1 v6 hy7) rfl Try.call51 rfl rfl rfl rfl) rfl ?_
    refine PWl.step (LR.move rfl) rfl ?_
    refine PWl.step (LR.extract rfl rfl) rfl ?_
    refine PWl.step (LR.extract rfl rfl) rfl ?_
    refine PWl.step (LR.assign rfl) rfl ?_
    refine PWl.step (LR.assign rfl) rfl ?_
    refine PWl.nil ?_
    refine PWc.seq ?_
    refine PWc.seq ?_
    refine PWc.region ?_
    refine PWl.step (LR.move rfl) rfl ?_
    refine PWl.step (LR.neq rfl rfl) rfl ?_
    refine PWl.nil ?_
    refine PWc.cond rfl (fun hc8 => ?_) (fun hc8 => ?_)
    · replace h := iT hc8 h
      refine PWc.seq ?_
      refine PWc.jn (iBind h) (fun (v9 : Bool) (_ : Unit) => ⟨63, [(4, .d (.v (.bool v9)))], []⟩) (fun h => ?_) ?_
      · refine PWc.region ?_
        refine PWl.step (LR.move rfl) rfl ?_
        refine PWl.step (LR.lenMap (enc := TPart.e) (L := v6.1) Try.underlying24 rfl) rfl ?_
        refine PWl.step (LR.eql rfl rfl) rfl ?_
        refine PWl.step (LR.move rfl) rfl ?_
        refine PWl.split (d := 25) rfl (fun hg10 => ?_) (fun hg10 => ?_)
        · replace h := iT hg10 h
          replace h := iDet h
          obtain ⟨v11, hy12, h⟩ := h
          refine PWl.guardT (LR.callN (l15_works_ok v11 hy12) rfl Try.call25 rfl rfl rfl rfl) rfl rfl rfl ?_
          refine PWl.re (tl := [(4, _), (25, _), (26, _)]) (to := []) rfl (.cons rfl rfl <| .cons rfl rfl <| .cons rfl rfl <| .nil) (.nil) ?_
          refine PWl.step (LR.pickT rfl rfl) rfl ?_
          refine PWl.step (LR.assign rfl) rfl ?_
          refine PWl.nil ?_
          exact ⟨v11, (), h, Sub.of rfl (.cons rfl rfl <| .nil) (.nil)⟩
        · replace h := iF hg10 h
          refine PWl.guardF rfl rfl rfl (by decide) ?_
          refine PWl.re (tl := [(4, _), (25, _), (26, _)]) (to := []) rfl (.cons rfl rfl <| .cons rfl rfl <| .cons rfl rfl <| .nil) (.nil) ?_
          refine PWl.step (LR.pickF rfl rfl) rfl ?_
          refine PWl.step (LR.assign rfl) rfl ?_
          refine PWl.nil ?_
          exact ⟨false, (), h, Sub.of rfl (.cons rfl rfl <| .nil) (.nil)⟩
      · rintro v9 _ h
        refine PWc.ret ?_
        replace h : _ = r0 := h
        subst h
        exact ⟨.inr rfl, _, .cons (.tmp rfl rfl) <| .nil, rfl⟩
    · replace h := iF hc8 h
      refine PWc.skip ?_
      refine PWc.seq ?_
      refine PWc.region ?_
      refine PWl.step (LR.move rfl) rfl ?_
      refine PWl.step (LR.move rfl) rfl ?_
      refine PWl.step (LR.lenMap (enc := (eK .u8)) (L := b1) Try.underlying45 rfl) rfl ?_
      refine PWl.step (LR.subW rfl rfl) rfl ?_
      refine PWl.step (LR.maxI rfl rfl) rfl ?_
      replace h := iNeed h
      obtain ⟨hy13, h⟩ := h
      refine PWl.step (LR.cutHT (enc := (eK .u8)) (L := b1) Try.underlying45 Try.sizeOf5 rfl (fun _ => rfl) rfl hy13) rfl ?_
      refine PWl.re (tl := [(0, _), (1, _), (5, _), (34, _)]) (to := []) rfl (.cons rfl rfl <| .cons rfl rfl <| .cons rfl rfl <| .cons rfl rfl <| .nil) (.nil) ?_
      replace h := iDet h
      obtain ⟨v14, hy15, h⟩ := h
      refine PWl.step (LR.callN (dcode_Decode_ok ((List.drop (Int.toNat 0) (List.take (Int.toNat ((max ((IntKind.i64.wrap ((List.length b1 : Int) - 1))) 0))) b1))) v14 hy15) rfl Try.call51 rfl rfl rfl rfl) rfl ?_
      refine PWl.step (LR.move rfl) rfl ?_
      refine PWl.step (LR.extract rfl rfl) rfl ?_
      refine PWl.step (LR.extract rfl rfl) rfl ?_
      refine PWl.step (LR.assign rfl) rfl ?_
      refine PWl.step (LR.assign rfl) rfl ?_
      refine PWl.nil ?_
      refine PWc.seq ?_
      refine PWc.region ?_
      refine PWl.step (LR.buildSlice [] elem45 rfl rfl (.nil) (by decide) (by decide) rfl) rfl ?_
      refine PWl.step (LR.move rfl) rfl ?_
      replace h := iNeed h
      obtain ⟨hy16, h⟩ := h
      refine PWl.step (LR.appT (enc := (eK .u8)) (L := ([] : List Int)) (R := b1) [39] elem45 Try.underlying45 rfl (by first | (simp; done) | (simp; omega) | omega) rfl (Src.slT (enc := (eK .u8)) (R := b1) rfl (fun _ => rfl)) (fun _ => rfl) hy16 rfl rfl) rfl ?_
      refine PWl.step (LR.move rfl) rfl ?_
      refine PWl.step (LR.buildSliceD [.tmp 42] elem45 rfl rfl (.cons rfl rfl rfl <| .nil) (by decide) (by decide)) rfl ?_
      replace h := iNeed h
      obtain ⟨hy17, h⟩ := h
      refine PWl.step (LR.appT (enc := (eK .u8)) (L := (([] : List Int) ++ b1)) (R := [c2]) [41] elem45 Try.underlying45 rfl rfl rfl (Src.slT (enc := (eK .u8)) (R := [c2]) rfl (fun _ => rfl)) (fun _ => rfl) hy17 rfl rfl) rfl ?_
      replace h := iDet h
      obtain ⟨v18, hy19, h⟩ := h
      refine PWl.frz [44] hK (.cons rfl <| .nil) rfl (by first | (simp; done) | (simp; omega) | omega) ?_
      refine PWl.step (LR.callN (dcode_Decode_ok (((([] : List Int) ++ b1) ++ [c2])) v18 hy19) rfl Try.call51 rfl rfl rfl rfl) rfl ?_
      refine PWl.step (LR.move rfl) rfl ?_
      refine PWl.step (LR.extract rfl rfl) rfl ?_
      refine PWl.step (LR.extract rfl rfl) rfl ?_
      refine PWl.step (LR.assign rfl) rfl ?_
      refine PWl.re (tl := [(0, _), (5, _), (8, _), (47, _)]) (to := []) rfl (.cons rfl rfl <| .cons rfl rfl <| .cons rfl rfl <| .cons rfl rfl <| .nil) (.nil) ?_
      refine PWl.step (LR.assign rfl) rfl ?_
      refine PWl.nil ?_
      refine PWc.seq ?_
      refine PWc.jn (iBind h) (fun (v20 : Bool) (_ : Unit) => ⟨63, [(4, .d (.v (.bool v20)))], []⟩) (fun h => ?_) ?_
      · refine PWc.region ?_
        refine PWl.step (LR.move rfl) rfl ?_
        replace h := iDet h
        obtain ⟨v21, hy22, h⟩ := h
        refine PWl.step (LR.callN (dcode_Encode_ok v6.1 v21 hy22) rfl Try.call34 rfl rfl rfl rfl) rfl ?_
        refine PWl.step (LR.move rfl) rfl ?_
        replace h := iDet h
        obtain ⟨v23, hy24, h⟩ := h
        refine PWl.step (LR.callN (l15_equal_ok v21 b1 v23 hy24) rfl Try.call29 rfl rfl rfl rfl) rfl ?_
        refine PWl.step (LR.move rfl) rfl ?_
        refine PWl.split (d := 52) rfl (fun hg25 => ?_) (fun hg25 => ?_)
        · replace h := iT hg25 h
          refine PWl.guardT (LR.move rfl) rfl rfl rfl ?_
          refine PWl.guardT (LR.neq rfl rfl) rfl rfl rfl ?_
          refine PWl.step (LR.pickT rfl rfl) rfl ?_
          refine PWl.step (LR.move rfl) rfl ?_
          refine PWl.split (d := 56) rfl (fun hg26 => ?_) (fun hg26 => ?_)
          · replace h := iT hg26 h
            refine PWl.guardT (LR.move rfl) rfl rfl rfl ?_
            refine PWl.guardT (LR.neq rfl rfl) rfl rfl rfl ?_
            refine PWl.step (LR.pickT rfl rfl) rfl ?_
            refine PWl.step (LR.move rfl) rfl ?_
            refine PWl.split (d := 60) rfl (fun hg27 => ?_) (fun hg27 => ?_)
            · replace h := iT hg27 h
              refine PWl.re (tl := [(60, _)]) (to := []) rfl (.cons rfl rfl <| .nil) (.nil) ?_
              replace h := iDet h
              obtain ⟨v28, hy29, h⟩ := h
              refine PWl.guardT (LR.callN (l15_works_ok v28 hy29) rfl Try.call25 rfl rfl rfl rfl) rfl rfl rfl ?_
              refine PWl.step (LR.pickT rfl rfl) rfl ?_
              refine PWl.step (LR.assign rfl) rfl ?_
              refine PWl.nil ?_
              exact ⟨v28, (), h, Sub.of rfl (.cons rfl rfl <| .nil) (.nil)⟩
            · replace h := iF hg27 h
              refine PWl.re (tl := [(60, _)]) (to := []) rfl (.cons rfl rfl <| .nil) (.nil) ?_
              refine PWl.guardF rfl rfl rfl (by decide) ?_
              refine PWl.step (LR.pickF rfl rfl) rfl ?_
              refine PWl.step (LR.assign rfl) rfl ?_
              refine PWl.nil ?_
              exact ⟨false, (), h, Sub.of rfl (.cons rfl rfl <| .nil) (.nil)⟩
          · replace h := iF hg26 h
            refine PWl.guardF rfl rfl rfl (by decide) ?_
            refine PWl.guardF rfl rfl rfl (by decide) ?_
            refine PWl.step (LR.pickF rfl rfl) rfl ?_
            refine PWl.step (LR.move rfl) rfl ?_
            refine PWl.guardF rfl rfl rfl (by decide) ?_
            refine PWl.re (tl := [(60, _), (61, _)]) (to := []) rfl (.cons rfl rfl <| .cons rfl rfl <| .nil) (.nil) ?_
            refine PWl.step (LR.pickF rfl rfl) rfl ?_
            refine PWl.step (LR.assign rfl) rfl ?_
            refine PWl.nil ?_
            exact ⟨false, (), h, Sub.of rfl (.cons rfl rfl <| .nil) (.nil)⟩
        · replace h := iF hg25 h
          refine PWl.guardF rfl rfl rfl (by decide) ?_
          refine PWl.guardF rfl rfl rfl (by decide) ?_
          refine PWl.step (LR.pickF rfl rfl) rfl ?_
          refine PWl.step (LR.move rfl) rfl ?_
          refine PWl.guardF rfl rfl rfl (by decide) ?_
          refine PWl.guardF rfl rfl rfl (by decide) ?_
          refine PWl.step (LR.pickF rfl rfl) rfl ?_
          refine PWl.step (LR.move rfl) rfl ?_
          refine PWl.guardF rfl rfl rfl (by decide) ?_
          refine PWl.step (LR.pickF rfl rfl) rfl ?_
          refine PWl.re (tl := [(62, _)]) (to := []) rfl (.cons rfl rfl <| .nil) (.nil) ?_
          refine PWl.step (LR.assign rfl) rfl ?_
          refine PWl.nil ?_
          exact ⟨false, (), h, Sub.of rfl (.cons rfl rfl <| .nil) (.nil)⟩
      · rintro v20 _ h
        refine PWc.ret ?_
        replace h : _ = r0 := h
        subst h
        exact ⟨.inr rfl, _, .cons (.tmp rfl rfl) <| .nil, rfl⟩

end Go.Proofs

namespace Go.Ep
open Go

theorem wI64 {n : Int} (h : -9223372036854775808 ≤ n) (h' : n ≤ 9223372036854775807) : IntKind.i64.wrap n = n := by simp [IntKind.wrap, IntKind.bits, IntKind.signed]; omega
theorem wU64 {n : Int} (h : 0 ≤ n) (h' : n ≤ 18446744073709551615) : IntKind.u64.wrap n = n := by simp [IntKind.wrap, IntKind.bits, IntKind.signed]; omega
theorem wU16 {n : Int} (h : 0 ≤ n) (h' : n ≤ 65535) : IntKind.u16.wrap n = n := by simp [IntKind.wrap, IntKind.bits, IntKind.signed]; omega
theorem wU8 {n : Int} (h : 0 ≤ n) (h' : n ≤ 255) : IntKind.u8.wrap n = n := by simp [IntKind.wrap, IntKind.bits, IntKind.signed]; omega
theorem wSucc {i : Nat} (h : i < 9223372036854775807) : IntKind.i64.wrap ((i : Int) + 1) = ((i + 1 : Nat) : Int) := by rw [wI64 (by omega) (by omega)]; rfl
namespace M
variable {α β σ ρ τ ε : Type}
theorem cond_dec (p : Prop) [Decidable p] (x y : M α) : cond (decide p) x y = if p then x else y := by by_cases h : p <;> simp [h]
/-- A loop over a list's places; mk: the state at a place. -/
theorem loopL {body : σ → M (Step σ ρ)} (l : List ε) (mk : Nat → τ → σ) (f : τ → ε → τ) (g : τ → M ρ)
    (I : Nat → τ → Prop) (h1 : ∀ (i : Nat) (x : ε) (t : τ), l[i]? = some x → i < l.length → I i t → body (mk i t) = pure (.next (mk (i + 1) (f t x))) ∧ I (i + 1) (f t x))
    (h2 : ∀ t, I l.length t → body (mk l.length t) = (g t).bind fun r => pure (.done r)) (t0 : τ) (h0 : I 0 t0) : loop body (mk 0 t0) = g (l.foldl f t0) := by
  have key : ∀ k i t, i + k = l.length → I i t → loop body (mk i t) = g ((l.drop i).foldl f t) := by
    intro k
    induction k with
    | zero =>
      intro i t hi hI
      have : i = l.length := by omega
      subst this
      rw [loop_eq, h2 t hI, List.drop_length]
      rfl
    | succ k ih =>
      intro i t hi hI
      have hlt : i < l.length := by omega
      obtain ⟨h3, h4⟩ := h1 i l[i] t (List.getElem?_eq_getElem hlt) hlt hI
      rw [loop_next h3, ih (i + 1) _ (by omega) h4, List.drop_eq_getElem_cons hlt]
      rfl
  simpa using key l.length 0 t0 (by omega) h0
/-- Does each element pass? -/
theorem loopAll {body : σ → M (Step σ ρ)} (l : List ε) (mk : Nat → σ) (p : Nat → ε → Bool) (r1 r2 : ρ)
    (h1 : ∀ (i : Nat) (x : ε), l[i]? = some x → i < l.length → body (mk i) = if p i x then pure (.next (mk (i + 1))) else pure (.done r2))
    (h2 : body (mk l.length) = pure (.done r1)) : loop body (mk 0) = pure (if l.zipIdx.all (fun y => p y.2 y.1) then r1 else r2) := by
  have key : ∀ k i, i + k = l.length → loop body (mk i) = pure (if ((l.drop i).zipIdx i).all (fun y => p y.2 y.1) then r1 else r2) := by
    intro k
    induction k with
    | zero =>
      intro i hi
      have : i = l.length := by omega
      subst this
      rw [loop_done h2, List.drop_length]
      rfl
    | succ k ih =>
      intro i hi
      have hlt : i < l.length := by omega
      have h3 := h1 i l[i] (List.getElem?_eq_getElem hlt) hlt
      rw [List.drop_eq_getElem_cons hlt, List.zipIdx_cons, List.all_cons]
      by_cases hp : p i l[i] = true
      · rw [if_pos hp] at h3
        rw [loop_next h3, ih (i + 1) (by omega), hp, Bool.true_and]
      · rw [if_neg hp] at h3
        rw [loop_done h3]
        simp [hp]
  have := key l.length 0 (by omega)
  rw [List.drop_zero] at this
  exact this

/-- What came, as a list. -/
def came {ε : Type} (m : List ε) (L : List Nat) : List ε := L.filterMap fun i => m[i]?
theorem came_snoc {m : List ε} {L : List Nat} {i : Nat} {y : ε} (h : m[i]? = some y) : came m (L ++ [i]) = came m L ++ [y] := by simp [came, h]
theorem all_perm {n : Nat} {L : List Nat} (hn : L.Nodup) (hb : ∀ i ∈ L, i < n) (ha : ∀ i, i < n → i ∈ L) : L.Perm (List.range n) := by
  refine (List.perm_ext_iff_of_nodup hn List.nodup_range).2 fun i => ?_
  rw [List.mem_range]
  exact ⟨hb i, ha i⟩
theorem came_perm {m : List ε} {L : List Nat} (hn : L.Nodup) (hb : ∀ i ∈ L, i < m.length) (ha : ∀ i, i < m.length → i ∈ L) : (came m L).Perm m := by
  have h1 := (all_perm hn hb ha).filterMap fun i => m[i]?
  have h2 : (List.range m.length).filterMap (fun i => m[i]?) = m := by
    apply List.ext_getElem?
    intro i
    clear h1 hn hb ha
    have : (List.range m.length).filterMap (fun i => m[i]?) = m := by
      induction m with
      | nil => rfl
      | cons x r ih =>
        rw [List.length_cons, List.range_succ_eq_map, List.filterMap_cons]
        simp only [List.getElem?_cons_zero, List.filterMap_map]
        congr 1
    rw [this]
  rw [h2] at h1
  exact h1
theorem nodup_len {n : Nat} {L : List Nat} (hn : L.Nodup) (hb : ∀ i ∈ L, i < n) : L.length ≤ n := by
  have := List.Nodup.length_le_of_subset hn (l₂ := List.range n) (fun i hi => List.mem_range.2 (hb i hi))
  simpa using this

theorem full {n : Nat} {L : List Nat} (hn : L.Nodup) (hb : ∀ i ∈ L, i < n) (hl : n ≤ L.length) : ∀ i, i < n → i ∈ L := by
  intro i hi
  refine Classical.byContradiction fun hni => ?_
  have := nodup_len (n := n) (L := i :: L) (List.nodup_cons.2 ⟨hni, hn⟩) (fun j hj => by
    rcases List.mem_cons.1 hj with rfl | hj
    · exact hi
    · exact hb j hj)
  simp at this
  omega
/-- A map is gone over; mk: the state when the places L came. -/
theorem loopM {body : σ → M (Step σ ρ)} (m : List ε) (mk : List Nat → τ → σ) (f : τ → ε → M τ) (g : τ → M ρ) (I : List ε → τ → Prop) (Q : ρ → Prop)
    (hb : ∀ L t, (∀ i ∈ L, i < m.length) → body (mk L t) = need (∀ i ∈ L, i < m.length) ((nxt m.length L).bind fun o => match o with
      | none => (g t).bind fun r => pure (.done r)
      | some i => (idx m (Int.ofNat i)).bind fun y => (f t y).bind fun t' => pure (.next (mk (L ++ [i]) t'))))
    (hs : ∀ l t y, I l t → l.length < m.length → y ∈ m → ∃ t', f t y = pure t' ∧ I (l ++ [y]) t') (he : ∀ l t, l.Perm m → I l t → (g t).wp Q) (t0 : τ) (h0 : I [] t0) : (loop body (mk [] t0)).wp Q := by
  have key : ∀ k L t, L.length + k = m.length → L.Nodup → (∀ i ∈ L, i < m.length) → I (came m L) t → loopP body Q (mk L t) := by
    intro k
    induction k with
    | zero =>
      intro L t hk hn hlt hI
      refine loopP_in ?_
      rw [hb L t hlt]
      have hall : ∀ i, i < m.length → i ∈ L := fun i hi => full hn hlt (by omega) i hi
      refine ⟨hlt, ⟨⟨none, hall⟩, fun o ho => ?_⟩⟩
      cases o with
      | none =>
        have := he _ t (came_perm hn hlt hall) hI
        exact this
      | some i => exact absurd (hall i ho.1) ho.2
    | succ k ih =>
      intro L t hk hn hlt hI
      refine loopP_in ?_
      rw [hb L t hlt]
      have hex : ∃ i, i < m.length ∧ i ∉ L := by
        refine Classical.byContradiction fun hno => ?_
        have hall : ∀ i, i < m.length → i ∈ L := fun i hi => Classical.byContradiction fun h => hno ⟨i, hi, h⟩
        have := (all_perm hn hlt hall).length_eq
        simp at this
        omega
      obtain ⟨i0, hi0⟩ := hex
      refine ⟨hlt, ⟨⟨some i0, hi0⟩, fun o ho => ?_⟩⟩
      cases o with
      | none => exact absurd (ho i0 hi0.1) hi0.2
      | some i =>
        have hi := List.getElem?_eq_getElem ho.1
        obtain ⟨t', h1, h2⟩ := hs (came m L) t m[i] hI (by have := List.length_filterMap_le (fun i => m[i]?) L; unfold came; omega) (List.getElem_mem ho.1)
        show ((idx m (Int.ofNat i)).bind _).wp _
        rw [show (Int.ofNat i) = (i : Int) from rfl, idx_nat hi, pure_bind, h1, pure_bind]
        refine ih (L ++ [i]) t' (by simp; omega) ?_ ?_ (by rw [came_snoc hi]; exact h2)
        · rw [List.nodup_append]
          refine ⟨hn, by simp, fun a ha b hb' => ?_⟩
          rw [List.mem_singleton.1 hb']
          intro e
          exact ho.2 (e ▸ ha)
        · intro j hj
          rcases List.mem_append.1 hj with hj | hj
          · exact hlt j hj
          · rw [List.mem_singleton.1 hj]; exact ho.1
  exact key m.length [] t0 (by simp) List.nodup_nil (by simp) h0

end M

namespace AL
variable {κ ν : Type} [DecidableEq κ]
theorem get_set (m : List (κ × ν)) (k q : κ) (v : ν) : get (set m k v) q = if k = q then some v else get m q := by
  induction m with
  | nil => simp [set, get]
  | cons x r ih =>
    obtain ⟨a, u⟩ := x
    by_cases h : a = k
    · subst h; simp only [set, if_true, get]; split <;> rfl
    · simp only [set, h, if_false, get, ih]
      by_cases h2 : a = q
      · subst h2; simp [Ne.symm h]
      · simp [h2]
theorem getZ_set (m : List (κ × ν)) (k q : κ) (v z : ν) : getZ (set m k v) q z = if k = q then v else getZ m q z := by
  unfold getZ; rw [get_set]; split <;> rfl
theorem keys_set (m : List (κ × ν)) (k : κ) (v : ν) : (set m k v).map (·.1) = if k ∈ m.map (·.1) then m.map (·.1) else m.map (·.1) ++ [k] := by
  induction m with
  | nil => simp [set]
  | cons x r ih =>
    obtain ⟨a, u⟩ := x
    by_cases h : a = k
    · subst h; simp [set]
    · simp only [set, h, if_false, List.map_cons, ih, List.mem_cons, Ne.symm h, false_or]
      split <;> simp
theorem nodup_set {m : List (κ × ν)} (h : (m.map (·.1)).Nodup) (k : κ) (v : ν) : ((set m k v).map (·.1)).Nodup := by
  rw [keys_set]
  split
  · exact h
  · rename_i hk
    rw [List.nodup_append]
    refine ⟨h, by simp, fun a ha b hb => ?_⟩
    rw [List.mem_singleton.1 hb]
    intro e; exact hk (e ▸ ha)
theorem get_mem {m : List (κ × ν)} {k : κ} {v : ν} (h : get m k = some v) : (k, v) ∈ m := by
  induction m with
  | nil => simp [get] at h
  | cons x r ih =>
    obtain ⟨a, u⟩ := x
    by_cases e : a = k
    · subst e; simp [get] at h; subst h; simp
    · simp only [get, e, if_false] at h; exact List.mem_cons_of_mem _ (ih h)
theorem mem_get {m : List (κ × ν)} (hn : (m.map (·.1)).Nodup) {k : κ} {v : ν} (h : (k, v) ∈ m) : get m k = some v := by
  induction m with
  | nil => simp at h
  | cons x r ih =>
    obtain ⟨a, u⟩ := x
    simp only [List.map_cons, List.nodup_cons] at hn
    rcases List.mem_cons.1 h with e | h
    · cases e; simp [get]
    · have : a ≠ k := fun e => hn.1 (e ▸ List.mem_map.2 ⟨(k, v), h, rfl⟩)
      simp only [get, this, if_false]; exact ih hn.2 h
theorem len_set (m : List (κ × ν)) (k : κ) (v : ν) : (set m k v).length ≤ m.length + 1 := by
  induction m with
  | nil => simp [set]
  | cons x r ih =>
    obtain ⟨a, u⟩ := x
    unfold set
    split
    · simp
    · simpa using ih
end AL
end Go.Ep

namespace Go.Ep.M.V
open Go

def goodD (d : TDot) : Bool := decide (1 ≤ d.dev) && (decide (1 ≤ d.n) && decide (d.n ≤ 281474976710655))
theorem goodD_iff {d : TDot} : goodD d = true ↔ 1 ≤ d.dev ∧ 1 ≤ d.n ∧ d.n ≤ 281474976710655 := by simp [goodD]
def ofV : List TDot → Int → Int
  | [], _ => 0
  | d :: r, dev => if d.dev = dev ∧ goodD d = true then max d.n (ofV r dev) else ofV r dev
theorem ofV_range (v : List TDot) (dev : Int) : 0 ≤ ofV v dev ∧ ofV v dev ≤ 281474976710655 := by
  induction v with
  | nil => simp [ofV]
  | cons d r ih =>
    simp only [ofV]
    split
    · rename_i h; have := goodD_iff.1 h.2; omega
    · exact ih
theorem ofV_pos {v : List TDot} {dev : Int} : 0 < ofV v dev ↔ ∃ d ∈ v, d.dev = dev ∧ goodD d = true := by
  induction v with
  | nil => simp [ofV]
  | cons d r ih =>
    simp only [ofV, List.mem_cons, exists_eq_or_imp]
    split
    · rename_i h
      have := goodD_iff.1 h.2
      constructor
      · intro _; exact .inl h
      · intro _; omega
    · rename_i h
      rw [ih]
      constructor
      · exact .inr
      · rintro (hh | hh)
        · exact absurd hh h
        · exact hh
/-- Numbers, rising, each once. -/
def insI : List Int → Int → List Int
  | [], k => [k]
  | a :: r, k => if k < a then k :: a :: r else if k = a then a :: r else a :: insI r k
theorem mem_insI {l : List Int} {k q : Int} : q ∈ insI l k ↔ q = k ∨ q ∈ l := by
  induction l with
  | nil => simp [insI]
  | cons a r ih =>
    unfold insI
    split
    · simp
    · split
      · rename_i h; subst h; simp
      · simp only [List.mem_cons, ih]; constructor
        · rintro (h | h | h) <;> simp [h]
        · rintro (h | h | h) <;> simp [h]
theorem insI_sorted {l : List Int} (h : l.Pairwise (· < ·)) (k : Int) : (insI l k).Pairwise (· < ·) := by
  induction l with
  | nil => simp [insI]
  | cons a r ih =>
    obtain ⟨h1, h2⟩ := List.pairwise_cons.1 h
    unfold insI
    split
    · rename_i hk
      refine List.pairwise_cons.2 ⟨fun x hx => ?_, h⟩
      rcases List.mem_cons.1 hx with rfl | hx
      · exact hk
      · have := h1 x hx; omega
    · split
      · exact h
      · refine List.pairwise_cons.2 ⟨fun x hx => ?_, ih h2⟩
        rcases mem_insI.1 hx with rfl | hx
        · omega
        · exact h1 x hx
theorem len_insI (l : List Int) (k : Int) : (insI l k).length ≤ l.length + 1 := by
  induction l with
  | nil => simp [insI]
  | cons a r ih => unfold insI; split <;> try split
                   all_goals simp_all
def devStep (l : List Int) (d : TDot) : List Int := if goodD d then insI l d.dev else l
/-- The devices that a vector tells of. -/
def devsL (v : List TDot) : List Int := v.foldl devStep []
theorem devs_gen (v : List TDot) : ∀ l : List Int, l.Pairwise (· < ·) → (v.foldl devStep l).Pairwise (· < ·) ∧ (∀ k, k ∈ v.foldl devStep l ↔ k ∈ l ∨ ∃ d ∈ v, d.dev = k ∧ goodD d = true) ∧ (v.foldl devStep l).length ≤ l.length + v.length := by
  induction v with
  | nil => intro l h; simp [h]
  | cons d r ih =>
    intro l h
    simp only [List.foldl_cons]
    unfold devStep
    split
    · rename_i hg
      obtain ⟨h1, h2, h3⟩ := ih _ (insI_sorted h d.dev)
      refine ⟨h1, fun k => ?_, ?_⟩
      · have := h2 k
        unfold devStep at this
        rw [this, mem_insI]
        constructor
        · rintro ((rfl | h) | ⟨e, he, h⟩)
          · exact .inr ⟨d, by simp, rfl, hg⟩
          · exact .inl h
          · exact .inr ⟨e, by simp [he], h⟩
        · rintro (h | ⟨e, he, h⟩)
          · exact .inl (.inr h)
          · rcases List.mem_cons.1 he with rfl | he
            · exact .inl (.inl h.1.symm)
            · exact .inr ⟨e, he, h⟩
      · have := len_insI l d.dev; simp only [List.length_cons]; unfold devStep at h3; omega
    · rename_i hg
      obtain ⟨h1, h2, h3⟩ := ih _ h
      refine ⟨h1, fun k => ?_, ?_⟩
      · have := h2 k
        unfold devStep at this
        rw [this]
        constructor
        · rintro (h | ⟨e, he, h⟩)
          · exact .inl h
          · exact .inr ⟨e, by simp [he], h⟩
        · rintro (h | ⟨e, he, h⟩)
          · exact .inl h
          · rcases List.mem_cons.1 he with rfl | he
            · exact absurd h.2 hg
            · exact .inr ⟨e, he, h⟩
      · simp only [List.length_cons]; unfold devStep at h3; omega
theorem devs_sorted (v : List TDot) : (devsL v).Pairwise (· < ·) := (devs_gen v [] List.Pairwise.nil).1
theorem mem_devs {v : List TDot} {k : Int} : k ∈ devsL v ↔ 0 < ofV v k := by rw [ofV_pos]; simpa [devsL] using (devs_gen v [] List.Pairwise.nil).2.1 k
theorem len_devs (v : List TDot) : (devsL v).length ≤ v.length := by simpa [devsL] using (devs_gen v [] List.Pairwise.nil).2.2
def toldStep (m : List (Int × Int)) (d : TDot) : List (Int × Int) := if goodD d then AL.set m d.dev (max (AL.getZ m d.dev 0) d.n) else m
def toldM (v : List TDot) : List (Int × Int) := v.foldl toldStep []
theorem told_gen (v : List TDot) : ∀ m : List (Int × Int), (m.map (·.1)).Nodup → ((v.foldl toldStep m).map (·.1)).Nodup ∧ ((∀ k, 0 ≤ AL.getZ m k 0) → ∀ k, AL.getZ (v.foldl toldStep m) k 0 = max (AL.getZ m k 0) (ofV v k)) ∧ (v.foldl toldStep m).length ≤ m.length + v.length ∧ (∀ k, k ∈ (v.foldl toldStep m).map (·.1) → k ∈ m.map (·.1) ∨ 0 < ofV v k) := by
  induction v with
  | nil =>
    intro m h
    refine ⟨h, fun h0 k => ?_, by simp, fun k hk => .inl hk⟩
    have := h0 k
    simp only [List.foldl_nil, ofV]
    omega
  | cons d r ih =>
    intro m h
    simp only [List.foldl_cons]
    by_cases hg : goodD d = true
    · have hd := goodD_iff.1 hg
      have e : toldStep m d = AL.set m d.dev (max (AL.getZ m d.dev 0) d.n) := by simp [toldStep, hg]
      rw [e]
      obtain ⟨h1, h2, h3, h4⟩ := ih _ (AL.nodup_set h d.dev (max (AL.getZ m d.dev 0) d.n))
      refine ⟨h1, fun h0 k => ?_, ?_, fun k hk => ?_⟩
      · rw [h2 (fun q => by rw [AL.getZ_set]; have := h0 q; have := h0 d.dev; split <;> omega), AL.getZ_set]
        simp only [ofV]
        by_cases hk : d.dev = k
        · subst hk
          simp only [if_true, hg, and_self]
          omega
        · simp [hk]
      · have := AL.len_set m d.dev (max (AL.getZ m d.dev 0) d.n)
        simp only [List.length_cons]; omega
      · simp only [ofV]
        rcases h4 k hk with h5 | h5
        · rw [AL.keys_set] at h5
          split at h5
          · exact .inl h5
          · rcases List.mem_append.1 h5 with h5 | h5
            · exact .inl h5
            · right
              rw [List.mem_singleton.1 h5, if_pos ⟨rfl, hg⟩]
              omega
        · right; split <;> omega
    · have e : toldStep m d = m := by simp [toldStep, hg]
      rw [e]
      obtain ⟨h1, h2, h3, h4⟩ := ih m h
      have e2 : ∀ k, ofV (d :: r) k = ofV r k := fun k => by simp only [ofV]; rw [if_neg (fun hh => hg hh.2)]
      exact ⟨h1, fun h0 k => by rw [h2 h0, e2], by simp only [List.length_cons]; omega, fun k hk => by rw [e2]; exact h4 k hk⟩
theorem told_nodup (v : List TDot) : ((toldM v).map (·.1)).Nodup := (told_gen v [] (by simp)).1
theorem told_get (v : List TDot) (k : Int) : AL.getZ (toldM v) k 0 = ofV v k := by
  have := (told_gen v [] (by simp)).2.1 (fun _ => Int.le_refl _) k
  have h2 := ofV_range v k
  rw [toldM, this]
  show max 0 (ofV v k) = _
  omega
theorem told_len (v : List TDot) : (toldM v).length ≤ v.length := by simpa [toldM] using (told_gen v [] (by simp)).2.2.1
theorem told_mem {v : List TDot} {k n : Int} (h : (k, n) ∈ toldM v) : n = ofV v k ∧ 0 < n := by
  have h1 := AL.mem_get (told_nodup v) h
  have h2 : AL.getZ (toldM v) k 0 = n := by simp [AL.getZ, h1]
  rw [told_get] at h2
  have h3 := (told_gen v [] (by simp)).2.2.2 k (List.mem_map.2 ⟨_, h, rfl⟩)
  simp at h3
  omega
theorem told_at {v : List TDot} {k : Int} (h : 0 < ofV v k) : (k, ofV v k) ∈ toldM v := by
  have h1 : AL.getZ (toldM v) k 0 = ofV v k := told_get v k
  unfold AL.getZ at h1
  cases hg : AL.get (toldM v) k with
  | none => rw [hg] at h1; simp at h1; omega
  | some n => rw [hg] at h1; simp at h1; subst h1; exact AL.get_mem hg

/-- Dots with the number 1. -/
def ones (l : List Int) : List TDot := l.map fun k => ⟨k, 1⟩
end Go.Ep.M.V


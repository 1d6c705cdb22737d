/- Walks: written by program. -/
import Derived.Test.YtacnidaafcfgiaaFc
import Derived.Test.YtacnidaafcfgiaaSh
import Derived.Test.YtacnidaafcfgiaaSx
import Derived.Test.YtacnidaafcfgiaaTl
import Derived.Test.YtacnidaafcfgiaaSr
import Derived.Test.YtacnidaafcfgiaaDr
import Derived.Test.YtacnidaafcfgiaaW1
import Derived.Test.YtacnidaafcfgiaaW7
namespace Go.Proofs
open Go.Ep
set_option maxHeartbeats 1000000
set_option maxRecDepth 100000
set_option linter.unusedVariables false
set_option linter.unusedSimpArgs false


theorem ctx_Size_ok (c1 : List TPart) (r0 : Int) (h : (ctx_Size c1).wp (· = r0)) : PFun Try.prog 55 [.d (.sl (List.map TPart.e c1))] (.d (.v (.int .u64 r0))) := by
  refine PFun.intro (sl := [(0, _)]) Try.func55 rfl Try.ntmps55 rfl rfl ?_
  intro ctx hK
  refine PWc.seq ?_
  refine PWc.region ?_
  refine PWl.step (LR.assign rfl) rfl ?_
  refine PWl.nil ?_
  refine PWc.seq ?_
  refine PWc.region ?_
  refine PWl.step (LR.assign rfl) rfl ?_
  refine PWl.nil ?_
  refine PWc.seq ?_
  refine PWc.seq ?_
  refine PWc.region ?_
  refine PWl.step (LR.move rfl) rfl ?_
  replace h := iDet h
  obtain ⟨v2, hy3, h⟩ := h
  refine PWl.step (LR.rowN (ctx_Norm_ok c1 v2 hy3) rfl Try.call84 rfl rfl rfl rfl) rfl ?_
  refine PWl.step (LR.lenRow Try.underlying24 rfl) rfl ?_
  refine PWl.step (LR.move rfl) rfl ?_
  refine PWl.nil ?_
  refine PWc.jn (iBind h) (fun (n4 : Int) (_ : Unit) => ⟨20, [(3, .d (.v (.int .u64 n4)))], []⟩) (fun h => ?_) ?_
  · refine PWc.block ?_
    refine PWc.loopM (fun (⟨n17, v18⟩ : Int × Int) (_ : Unit) => ⟨20, [(3, .d (.v (.int .u64 n17))), (7, .row 7 (List.length v2)), (8, .d (.v (.int .i64 ((List.length v2) : Int)))), (9, .d (.v (.int .i64 v18)))], [(7, .row 101 2 (List.map TPart.e v2))]⟩) () h (Sub.of rfl (.cons rfl rfl <| .cons rfl rfl <| .cons rfl rfl <| .cons rfl rfl <| .nil) (.cons rfl rfl <| .nil)) ?_
    rintro N ⟨n17, v18⟩ _ h
    refine PWc.seq ?_
    refine PWc.region ?_
    refine PWl.step (LR.lss rfl rfl) rfl ?_
    refine PWl.nil ?_
    refine PWc.seq ?_
    refine PWc.cond rfl (fun hc19 => ?_) (fun hc19 => ?_)
    · replace h := iT hc19 h
      refine PWc.skip ?_
      refine PWc.seq ?_
      refine PWc.block ?_
      refine PWc.seq ?_
      refine PWc.region ?_
      replace h := iIdx h
      obtain ⟨x20, hy21, h⟩ := h
      refine PWl.step (LR.idxRowT (L := v2) (y := x20) Try.underlying24 Try.sizeOf101 rfl rfl rfl hy21) rfl ?_
      refine PWl.step (LR.loadRpT (enc := TPart.e) (L := v2) (y := x20) Try.isAgg101 Try.sizeOf101 rfl rfl hy21.2) rfl ?_
      refine PWl.step (LR.allocZ (cs := [_, _]) Try.zeroValue101 rfl rfl rfl rfl) rfl ?_
      refine PWl.step (LR.storeB (ns := [_, _]) Try.sizeOf101 rfl rfl rfl rfl rfl rfl rfl) rfl ?_
      refine PWl.nil ?_
      refine PWc.region ?_
      refine PWl.step (LR.move rfl) rfl ?_
      refine PWl.step (LR.fieldRef Try.underlying101 rfl Try.sizeOf34 (by decide) rfl rfl) rfl ?_
      refine PWl.step (LR.loadRef Try.isAgg34 rfl rfl rfl) rfl ?_
      replace h := iDet h
      obtain ⟨v22, hy23, h⟩ := h
      refine PWl.step (LR.callN (runs_Size_ok x20.runs v22 hy23) rfl Try.call103 rfl rfl rfl rfl) rfl ?_
      refine PWl.step (LR.addW rfl rfl) rfl ?_
      refine PWl.step (LR.assign rfl) rfl ?_
      refine PWl.nil ?_
      refine PWc.region ?_
      refine PWl.step (LR.addW rfl rfl) rfl ?_
      refine PWl.step (LR.move rfl) rfl ?_
      refine PWl.nil ?_
      exact ⟨((IntKind.u64.wrap (n17 + v22)), (IntKind.i64.wrap (v18 + 1))), (), h, Sub.of rfl (.cons rfl rfl <| .cons rfl rfl <| .cons rfl rfl <| .cons rfl rfl <| .nil) (.cons rfl rfl <| .nil)⟩
    · replace h := iF hc19 h
      refine PWc.exit ?_
      exact ⟨n17, (), h, Sub.of rfl (.cons rfl rfl <| .nil) (.nil)⟩
  · rintro n4 _ h
    refine PWc.seq ?_
    refine PWc.region ?_
    refine PWl.step (LR.move rfl) rfl ?_
    refine PWl.step (LR.assign rfl) rfl ?_
    refine PWl.nil ?_
    refine PWc.ret ?_
    replace h : _ = r0 := h
    subst h
    exact ⟨.inr rfl, _, .cons (.tmp rfl rfl) <| .nil, rfl⟩

theorem slices_Equal_sl_Run_Run_ok (s1_1 : List TRun) (s2_2 : List TRun) (r0 : Bool) (h : (slices_Equal_sl_Run_Run s1_1 s2_2).wp (· = r0)) : PFun Try.prog 153 [.d (.sl (List.map TRun.e s1_1)), .d (.sl (List.map TRun.e s2_2))] (.d (.v (.bool r0))) := by
  refine PFun.intro (sl := [(0, _), (1, _)]) Try.func153 rfl Try.ntmps153 rfl rfl ?_
  intro ctx hK
  refine PWc.seq ?_
  refine PWc.region ?_
  refine PWl.step (LR.assign rfl) rfl ?_
  refine PWl.nil ?_
  refine PWc.seq ?_
  refine PWc.seq ?_
  refine PWc.region ?_
  refine PWl.step (LR.move rfl) rfl ?_
  refine PWl.step (LR.lenMap (enc := TRun.e) (L := s1_1) Try.underlying34 rfl) rfl ?_
  refine PWl.step (LR.move rfl) rfl ?_
  refine PWl.step (LR.lenMap (enc := TRun.e) (L := s2_2) Try.underlying34 rfl) rfl ?_
  refine PWl.step (LR.neq rfl rfl) rfl ?_
  refine PWl.nil ?_
  refine PWc.cond rfl (fun hc3 => ?_) (fun hc3 => ?_)
  · replace h := iT hc3 h
    refine PWc.seq ?_
    refine PWc.region ?_
    refine PWl.step (LR.assign rfl) rfl ?_
    refine PWl.nil ?_
    refine PWc.ret ?_
    replace h : _ = r0 := h
    subst h
    exact ⟨.inr rfl, _, .cons (.tmp rfl rfl) <| .nil, rfl⟩
  · replace h := iF hc3 h
    refine PWc.skip ?_
    refine PWc.seq ?_
    refine PWc.seq ?_
    refine PWc.region ?_
    refine PWl.step (LR.move rfl) rfl ?_
    refine PWl.step (LR.lenMap (enc := TRun.e) (L := s1_1) Try.underlying34 rfl) rfl ?_
    refine PWl.step (LR.move rfl) rfl ?_
    refine PWl.nil ?_
    refine PWc.jnX (iBind h) (fun (_ : Unit) (_ : Unit) => ⟨26, [], []⟩) (fun h => ?_) ?_
    · refine PWc.block ?_
      refine PWc.loopM (fun (v17 : Int) (_ : Unit) => ⟨26, [(0, .d (.sl (List.map TRun.e s1_1))), (1, .d (.sl (List.map TRun.e s2_2))), (12, .d (.v (.int .i64 (List.length s1_1 : Int)))), (13, .d (.v (.int .i64 v17)))], []⟩) () h (Sub.of rfl (.cons rfl rfl <| .cons rfl rfl <| .cons rfl rfl <| .cons rfl rfl <| .nil) (.nil)) ?_
      rintro N v17 _ h
      refine PWc.seq ?_
      refine PWc.region ?_
      refine PWl.step (LR.lss rfl rfl) rfl ?_
      refine PWl.nil ?_
      refine PWc.seq ?_
      refine PWc.cond rfl (fun hc18 => ?_) (fun hc18 => ?_)
      · replace h := iT hc18 h
        refine PWc.skip ?_
        refine PWc.seq ?_
        refine PWc.block ?_
        refine PWc.seq ?_
        refine PWc.region ?_
        refine PWl.step (LR.move rfl) rfl ?_
        refine PWl.step (LR.assign rfl) rfl ?_
        refine PWl.nil ?_
        refine PWc.seq ?_
        refine PWc.regionD (by kernel_rfl) (by kernel_rfl) ?_
        refine PQl.step (fun _ he ho => LR.move (he rfl rfl)) rfl ?_
        refine PQl.step (fun _ he ho => LR.move (he rfl rfl)) rfl ?_
        replace h := iIdx h
        obtain ⟨x19, hy20, h⟩ := h
        refine PQl.step (fun _ he ho => LR.idxT (enc := TRun.e) (L := s1_1) (y := x19) Try.underlying34 Try.sizeOf114 (he rfl rfl) (he rfl rfl) hy20 (fun _ => rfl)) rfl ?_
        refine PQl.step (fun _ he ho => LR.loadEpAgg (ys := [_, _]) Try.isAgg114 Try.sizeOf114 (he rfl rfl) rfl rfl) rfl ?_
        refine PQl.step (fun _ he ho => LR.move (he rfl rfl)) rfl ?_
        refine PQl.step (fun _ he ho => LR.move (he rfl rfl)) rfl ?_
        replace h := iIdx h
        obtain ⟨x21, hy22, h⟩ := h
        refine PQl.step (fun _ he ho => LR.idxT (enc := TRun.e) (L := s2_2) (y := x21) Try.underlying34 Try.sizeOf114 (he rfl rfl) (he rfl rfl) hy22 (fun _ => rfl)) rfl ?_
        refine PQl.step (fun _ he ho => LR.loadEpAgg (ys := [_, _]) Try.isAgg114 Try.sizeOf114 (he rfl rfl) rfl rfl) rfl ?_
        refine PQl.step (fun _ he ho => LR.neqAgg (he rfl rfl) (he rfl rfl) rfl rfl eq114) rfl ?_
        refine PQl.nil ?_
        refine PWc.cond rfl (fun hc23 => ?_) (fun hc23 => ?_)
        · replace h := iT hc23 h
          refine PWc.seq ?_
          refine PWc.region ?_
          refine PWl.step (LR.assign rfl) rfl ?_
          refine PWl.nil ?_
          refine PWc.ret ?_
          replace h : _ = r0 := h
          subst h
          exact ⟨.inr rfl, _, .cons (.tmp rfl rfl) <| .nil, rfl⟩
        · replace h := iF hc23 h
          refine PWc.skip ?_
          refine PWc.region ?_
          refine PWl.step (LR.addW rfl rfl) rfl ?_
          refine PWl.step (LR.move rfl) rfl ?_
          refine PWl.nil ?_
          exact ⟨(IntKind.i64.wrap (v17 + 1)), (), h, Sub.of rfl (.cons rfl rfl <| .cons rfl rfl <| .cons rfl rfl <| .cons rfl rfl <| .nil) (.nil)⟩
      · replace h := iF hc18 h
        refine PWc.exit ?_
        exact ⟨(), (), h, Sub.of rfl (.nil) (.nil)⟩
    · rintro _ _ h
      refine PWc.seq ?_
      refine PWc.region ?_
      refine PWl.step (LR.assign rfl) rfl ?_
      refine PWl.nil ?_
      refine PWc.ret ?_
      replace h : _ = r0 := h
      subst h
      exact ⟨.inr rfl, _, .cons (.tmp rfl rfl) <| .nil, rfl⟩

theorem ctx_eq_c1_ok (x1 : TPart) (y2 : TPart) (r0 : Bool) (h : (ctx_eq_c1 x1 y2).wp (· = r0)) : PFun Try.prog 152 [.agg (List.map .d (TPart.e x1)), .agg (List.map .d (TPart.e y2))] (.d (.v (.bool r0))) := by
  refine PFun.intro (sl := [(0, _), (1, _)]) Try.func152 rfl Try.ntmps152 rfl rfl ?_
  intro ctx hK
  refine PWc.seq ?_
  refine PWc.region ?_
  refine PWl.step (LR.box rfl rfl rfl rfl) rfl ?_
  refine PWl.step (LR.box rfl rfl rfl rfl) rfl ?_
  refine PWl.step (LR.assign rfl) rfl ?_
  refine PWl.nil ?_
  refine PWc.seq ?_
  refine PWc.jn (iBind h) (fun (v3 : Bool) (_ : Unit) => ⟨17, [(4, .d (.v (.bool v3)))], []⟩) (fun h => ?_) ?_
  · refine PWc.region ?_
    refine PWl.step (LR.fieldRef Try.underlying101 rfl Try.sizeOf28 (by decide) rfl rfl) rfl ?_
    refine PWl.step (LR.loadRef Try.isAgg28 rfl rfl rfl) rfl ?_
    refine PWl.step (LR.fieldRef Try.underlying101 rfl Try.sizeOf28 (by decide) rfl rfl) rfl ?_
    refine PWl.step (LR.loadRef Try.isAgg28 rfl rfl rfl) rfl ?_
    refine PWl.step (LR.eql rfl rfl) rfl ?_
    refine PWl.step (LR.move rfl) rfl ?_
    refine PWl.split (d := 10) rfl (fun hg4 => ?_) (fun hg4 => ?_)
    · replace h := iT hg4 h
      refine PWl.guardT (LR.fieldRef Try.underlying101 rfl Try.sizeOf34 (by decide) rfl rfl) rfl rfl rfl ?_
      refine PWl.guardT (LR.loadRef Try.isAgg34 rfl rfl rfl) rfl rfl rfl ?_
      refine PWl.guardT (LR.fieldRef Try.underlying101 rfl Try.sizeOf34 (by decide) rfl rfl) rfl rfl rfl ?_
      refine PWl.guardT (LR.loadRef Try.isAgg34 rfl rfl rfl) rfl rfl rfl ?_
      replace h := iDet h
      obtain ⟨v5, hy6, h⟩ := h
      refine PWl.guardT (LR.callN (slices_Equal_sl_Run_Run_ok x1.runs y2.runs v5 hy6) rfl Try.call153 rfl rfl rfl rfl) rfl rfl rfl ?_
      refine PWl.step (LR.pickT rfl rfl) rfl ?_
      refine PWl.step (LR.assign rfl) rfl ?_
      refine PWl.nil ?_
      exact ⟨v5, (), h, Sub.of rfl (.cons rfl rfl <| .nil) (.nil)⟩
    · replace h := iF hg4 h
      refine PWl.guardF rfl rfl rfl (by decide) ?_
      refine PWl.guardF rfl rfl rfl (by decide) ?_
      refine PWl.guardF rfl rfl rfl (by decide) ?_
      refine PWl.guardF rfl rfl rfl (by decide) ?_
      refine PWl.guardF rfl rfl rfl (by decide) ?_
      refine PWl.step (LR.pickF rfl rfl) rfl ?_
      refine PWl.step (LR.assign rfl) rfl ?_
      refine PWl.nil ?_
      exact ⟨false, (), h, Sub.of rfl (.cons rfl rfl <| .nil) (.nil)⟩
  · rintro v3 _ h
    refine PWc.ret ?_
    replace h : _ = r0 := h
    subst h
    exact ⟨.inr rfl, _, .cons (.tmp rfl rfl) <| .nil, rfl⟩

theorem slices_EqualFunc_Ctx_Ctx_Part_Part_ctx_eq_c1_ok (s1_1 : List TPart) (s2_2 : List TPart) (r0 : Bool) (h : (slices_EqualFunc_Ctx_Ctx_Part_Part_ctx_eq_c1 s1_1 s2_2).wp (· = r0)) : PFun Try.prog 151 [.d (.sl (List.map TPart.e s1_1)), .d (.sl (List.map TPart.e s2_2)), .d (.v (.func (.func 152) #[] #[]))] (.d (.v (.bool r0))) := by
  refine PFun.intro (sl := [(0, _), (1, _), (2, _)]) Try.func151 rfl Try.ntmps151 rfl rfl ?_
  intro ctx hK
  refine PWc.seq ?_
  refine PWc.region ?_
  refine PWl.step (LR.assign rfl) rfl ?_
  refine PWl.nil ?_
  refine PWc.seq ?_
  refine PWc.seq ?_
  refine PWc.region ?_
  refine PWl.step (LR.move rfl) rfl ?_
  refine PWl.step (LR.lenMap (enc := TPart.e) (L := s1_1) Try.underlying24 rfl) rfl ?_
  refine PWl.step (LR.move rfl) rfl ?_
  refine PWl.step (LR.lenMap (enc := TPart.e) (L := s2_2) Try.underlying24 rfl) rfl ?_
  refine PWl.step (LR.neq rfl rfl) rfl ?_
  refine PWl.nil ?_
  refine PWc.cond rfl (fun hc3 => ?_) (fun hc3 => ?_)
  · replace h := iT hc3 h
    refine PWc.seq ?_
    refine PWc.region ?_
    refine PWl.step (LR.assign rfl) rfl ?_
    refine PWl.nil ?_
    refine PWc.ret ?_
    replace h : _ = r0 := h
    subst h
    exact ⟨.inr rfl, _, .cons (.tmp rfl rfl) <| .nil, rfl⟩
  · replace h := iF hc3 h
    refine PWc.skip ?_
    refine PWc.seq ?_
    refine PWc.seq ?_
    refine PWc.region ?_
    refine PWl.step (LR.move rfl) rfl ?_
    refine PWl.step (LR.lenMap (enc := TPart.e) (L := s1_1) Try.underlying24 rfl) rfl ?_
    refine PWl.step (LR.move rfl) rfl ?_
    refine PWl.nil ?_
    refine PWc.jnX (iBind h) (fun (_ : Unit) (_ : Unit) => ⟨32, [], []⟩) (fun h => ?_) ?_
    · refine PWc.block ?_
      refine PWc.loopM (fun (v21 : Int) (_ : Unit) => ⟨32, [(1, .d (.sl (List.map TPart.e s2_2))), (2, .d (.v (.func (.func 152) #[] #[]))), (15, .d (.sl (List.map TPart.e s1_1))), (16, .d (.v (.int .i64 (List.length s1_1 : Int)))), (17, .d (.v (.int .i64 v21)))], []⟩) () h (Sub.of rfl (.cons rfl rfl <| .cons rfl rfl <| .cons rfl rfl <| .cons rfl rfl <| .cons rfl rfl <| .nil) (.nil)) ?_
      rintro N v21 _ h
      refine PWc.seq ?_
      refine PWc.region ?_
      refine PWl.step (LR.lss rfl rfl) rfl ?_
      refine PWl.nil ?_
      refine PWc.seq ?_
      refine PWc.cond rfl (fun hc22 => ?_) (fun hc22 => ?_)
      · replace h := iT hc22 h
        refine PWc.skip ?_
        refine PWc.seq ?_
        refine PWc.block ?_
        refine PWc.seq ?_
        refine PWc.region ?_
        refine PWl.step (LR.move rfl) rfl ?_
        replace h := iIdx h
        obtain ⟨x23, hy24, h⟩ := h
        refine PWl.step (LR.idxT (enc := TPart.e) (L := s1_1) (y := x23) Try.underlying24 Try.sizeOf101 rfl rfl hy24 (fun _ => rfl)) rfl ?_
        refine PWl.step (LR.loadEpAgg (ys := [_, _]) Try.isAgg101 Try.sizeOf101 rfl rfl rfl) rfl ?_
        refine PWl.step (LR.allocZ (cs := [_, _]) Try.zeroValue101 rfl rfl rfl rfl) rfl ?_
        refine PWl.step (LR.assign rfl) rfl ?_
        refine PWl.step (LR.storeB (ns := [_, _]) Try.sizeOf101 rfl rfl rfl rfl rfl rfl rfl) rfl ?_
        refine PWl.nil ?_
        refine PWc.seq ?_
        refine PWc.region ?_
        refine PWl.step (LR.move rfl) rfl ?_
        refine PWl.step (LR.move rfl) rfl ?_
        replace h := iIdx h
        obtain ⟨x25, hy26, h⟩ := h
        refine PWl.step (LR.idxT (enc := TPart.e) (L := s2_2) (y := x25) Try.underlying24 Try.sizeOf101 rfl rfl hy26 (fun _ => rfl)) rfl ?_
        refine PWl.step (LR.loadEpAgg (ys := [_, _]) Try.isAgg101 Try.sizeOf101 rfl rfl rfl) rfl ?_
        refine PWl.step (LR.allocZ (cs := [_, _]) Try.zeroValue101 rfl rfl rfl rfl) rfl ?_
        refine PWl.step (LR.storeB (ns := [_, _]) Try.sizeOf101 rfl rfl rfl rfl rfl rfl rfl) rfl ?_
        refine PWl.nil ?_
        refine PWc.seq ?_
        refine PWc.region ?_
        refine PWl.step (LR.move rfl) rfl ?_
        refine PWl.step (LR.loadRefAgg (ps := [_, _]) Try.isAgg101 Try.sizeOf101 rfl rfl rfl rfl) rfl ?_
        refine PWl.step (LR.loadRefAgg (ps := [_, _]) Try.isAgg101 Try.sizeOf101 rfl rfl rfl rfl) rfl ?_
        replace h := iDet h
        obtain ⟨v27, hy28, h⟩ := h
        refine PWl.step (LR.callN (ctx_eq_c1_ok x23 x25 v27 hy28) rfl Try.call152 rfl rfl rfl rfl) rfl ?_
        refine PWl.step (LR.not rfl) rfl ?_
        refine PWl.nil ?_
        refine PWc.cond rfl (fun hc29 => ?_) (fun hc29 => ?_)
        · replace h := iT hc29 h
          refine PWc.seq ?_
          refine PWc.region ?_
          refine PWl.re (tl := []) (to := []) rfl (.nil) (.nil) ?_
          refine PWl.step (LR.assign rfl) rfl ?_
          refine PWl.nil ?_
          refine PWc.ret ?_
          replace h : _ = r0 := h
          subst h
          exact ⟨.inr rfl, _, .cons (.tmp rfl rfl) <| .nil, rfl⟩
        · replace h := iF hc29 h
          refine PWc.skip ?_
          refine PWc.region ?_
          refine PWl.re (tl := [(1, _), (2, _), (15, _), (16, _), (17, _)]) (to := []) rfl (.cons rfl rfl <| .cons rfl rfl <| .cons rfl rfl <| .cons rfl rfl <| .cons rfl rfl <| .nil) (.nil) ?_
          refine PWl.step (LR.addW rfl rfl) rfl ?_
          refine PWl.step (LR.move rfl) rfl ?_
          refine PWl.nil ?_
          exact ⟨(IntKind.i64.wrap (v21 + 1)), (), h, Sub.of rfl (.cons rfl rfl <| .cons rfl rfl <| .cons rfl rfl <| .cons rfl rfl <| .cons rfl rfl <| .nil) (.nil)⟩
      · replace h := iF hc22 h
        refine PWc.exit ?_
        exact ⟨(), (), h, Sub.of rfl (.nil) (.nil)⟩
    · rintro _ _ h
      refine PWc.seq ?_
      refine PWc.region ?_
      refine PWl.step (LR.assign rfl) rfl ?_
      refine PWl.nil ?_
      refine PWc.ret ?_
      replace h : _ = r0 := h
      subst h
      exact ⟨.inr rfl, _, .cons (.tmp rfl rfl) <| .nil, rfl⟩

theorem ctx_eq_ok (a1 : List TPart) (b2 : List TPart) (r0 : Bool) (h : (ctx_eq a1 b2).wp (· = r0)) : PFun Try.prog 104 [.d (.sl (List.map TPart.e a1)), .d (.sl (List.map TPart.e b2))] (.d (.v (.bool r0))) := by
  refine PFun.intro (sl := [(0, _), (1, _)]) Try.func104 rfl Try.ntmps104 rfl rfl ?_
  intro ctx hK
  refine PWc.seq ?_
  refine PWc.region ?_
  refine PWl.step (LR.assign rfl) rfl ?_
  refine PWl.nil ?_
  refine PWc.seq ?_
  refine PWc.region ?_
  refine PWl.step (LR.move rfl) rfl ?_
  refine PWl.step (LR.move rfl) rfl ?_
  replace h := iDet h
  obtain ⟨v3, hy4, h⟩ := h
  refine PWl.step (LR.callN (slices_EqualFunc_Ctx_Ctx_Part_Part_ctx_eq_c1_ok a1 b2 v3 hy4) rfl Try.call151 rfl rfl rfl rfl) rfl ?_
  refine PWl.step (LR.assign rfl) rfl ?_
  refine PWl.nil ?_
  refine PWc.ret ?_
  replace h : _ = r0 := h
  subst h
  exact ⟨.inr rfl, _, .cons (.tmp rfl rfl) <| .nil, rfl⟩

theorem ctx_Same_ok (a1 : List TPart) (b2 : List TPart) (r0 : Bool) (h : (ctx_Same a1 b2).wp (· = r0)) : PFun Try.prog 56 [.d (.sl (List.map TPart.e a1)), .d (.sl (List.map TPart.e b2))] (.d (.v (.bool r0))) := by
  refine PFun.intro (sl := [(0, _), (1, _)]) Try.func56 rfl Try.ntmps56 rfl rfl ?_
  intro ctx hK
  refine PWc.seq ?_
  refine PWc.region ?_
  refine PWl.step (LR.assign rfl) rfl ?_
  refine PWl.nil ?_
  refine PWc.seq ?_
  refine PWc.region ?_
  refine PWl.step (LR.move rfl) rfl ?_
  replace h := iDet h
  obtain ⟨v3, hy4, h⟩ := h
  refine PWl.step (LR.rowN (ctx_Norm_ok a1 v3 hy4) rfl Try.call84 rfl rfl rfl rfl) rfl ?_
  refine PWl.step (LR.move rfl) rfl ?_
  replace h := iDet h
  obtain ⟨v5, hy6, h⟩ := h
  refine PWl.step (LR.rowN (ctx_Norm_ok b2 v5 hy6) rfl Try.call84 rfl rfl rfl rfl) rfl ?_
  replace h := iDet h
  obtain ⟨v7, hy8, h⟩ := h
  refine PWl.frz [6] hK (.cons rfl <| .nil) rfl (by simp) ?_
  refine PWl.frz [8] hK (.cons rfl <| .nil) rfl (by simp) ?_
  refine PWl.step (LR.callN (ctx_eq_ok v3 v5 v7 hy8) rfl Try.call104 rfl rfl rfl rfl) rfl ?_
  refine PWl.step (LR.assign rfl) rfl ?_
  refine PWl.nil ?_
  refine PWc.ret ?_
  replace h : _ = r0 := h
  subst h
  exact ⟨.inr rfl, _, .cons (.tmp rfl rfl) <| .nil, rfl⟩
end Go.Proofs

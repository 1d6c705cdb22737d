/- Walks: written by program. -/
import Derived.Test.YtdipflebhoodkaaFc
import Derived.Test.YtdipflebhoodkaaSh
import Derived.Test.YtdipflebhoodkaaSx
import Derived.Test.YtdipflebhoodkaaW3
namespace Go.Proofs
open Go.Ep
set_option maxHeartbeats 1000000
set_option maxRecDepth 100000
set_option linter.unusedVariables false
set_option linter.unusedSimpArgs false


theorem r08_Join_ok (a1 : List TDot) (b2 : List TDot) (r0 : List TDot) (h : (r08_Join a1 b2).wp (· = r0)) : PRow Try.prog 41 [.d (.sl (List.map TDot.e a1)), .d (.sl (List.map TDot.e b2))] 70 2 (List.map TDot.e r0) := by
  refine PRow.intro (sl := [(0, _), (1, _)]) Try.func41 rfl Try.ntmps41 rfl rfl ?_
  intro ctx hK
  refine PWc.seq ?_
  refine PWc.region ?_
  refine PWl.step (LR.assignNilRow 70 2 rfl) rfl ?_
  refine PWl.nil ?_
  refine PWc.seq ?_
  refine PWc.region ?_
  refine PWl.step (LR.move rfl) rfl ?_
  refine PWl.step (LR.move rfl) rfl ?_
  replace h := iDet h
  obtain ⟨v3, hy4, h⟩ := h
  refine PWl.step (LR.rowN (r08_both_ok a1 b2 true v3 hy4) rfl Try.call97 rfl rfl rfl rfl) rfl ?_
  refine PWl.step (LR.assign rfl) rfl ?_
  refine PWl.nil ?_
  refine PWc.ret ?_
  replace h : _ = r0 := h
  subst h
  exact ⟨.inr rfl, 4, rfl, .inr ⟨7, _, rfl, (by simp), rfl⟩⟩

theorem r08_Meet_ok (a1 : List TDot) (b2 : List TDot) (r0 : List TDot) (h : (r08_Meet a1 b2).wp (· = r0)) : PRow Try.prog 43 [.d (.sl (List.map TDot.e a1)), .d (.sl (List.map TDot.e b2))] 70 2 (List.map TDot.e r0) := by
  refine PRow.intro (sl := [(0, _), (1, _)]) Try.func43 rfl Try.ntmps43 rfl rfl ?_
  intro ctx hK
  refine PWc.seq ?_
  refine PWc.region ?_
  refine PWl.step (LR.assignNilRow 70 2 rfl) rfl ?_
  refine PWl.nil ?_
  refine PWc.seq ?_
  refine PWc.region ?_
  refine PWl.step (LR.move rfl) rfl ?_
  refine PWl.step (LR.move rfl) rfl ?_
  replace h := iDet h
  obtain ⟨v3, hy4, h⟩ := h
  refine PWl.step (LR.rowN (r08_both_ok a1 b2 false v3 hy4) rfl Try.call97 rfl rfl rfl rfl) rfl ?_
  refine PWl.step (LR.assign rfl) rfl ?_
  refine PWl.nil ?_
  refine PWc.ret ?_
  replace h : _ = r0 := h
  subst h
  exact ⟨.inr rfl, 4, rfl, .inr ⟨7, _, rfl, (by simp), rfl⟩⟩

theorem r08_Within_ok (a1 : List TDot) (b2 : List TDot) (r0 : Bool) (h : (r08_Within a1 b2).wp (· = r0)) : PFun Try.prog 100 [.d (.sl (List.map TDot.e a1)), .d (.sl (List.map TDot.e b2))] (.d (.v (.bool r0))) := by
  refine PFun.intro (sl := [(0, _), (1, _)]) Try.func100 rfl Try.ntmps100 rfl rfl ?_
  intro ctx hK
  refine PWc.seq ?_
  refine PWc.region ?_
  refine PWl.step (LR.assign rfl) rfl ?_
  refine PWl.nil ?_
  refine PWc.seq ?_
  refine PWc.region ?_
  refine PWl.step (LR.move rfl) rfl ?_
  refine PWl.step (LR.move rfl) rfl ?_
  replace h := iDet h
  obtain ⟨v3, hy4, h⟩ := h
  refine PWl.step (LR.callN (r08_devs_ok a1 b2 v3 hy4) rfl Try.call101 rfl rfl rfl rfl) rfl ?_
  refine PWl.step (LR.assign rfl) rfl ?_
  refine PWl.nil ?_
  refine PWc.seq ?_
  refine PWc.seq ?_
  refine PWc.region ?_
  refine PWl.step (LR.assign rfl) rfl ?_
  refine PWl.nil ?_
  refine PWc.jnX (iBind h) (fun (_ : Unit) (_ : Unit) => ⟨31, [], []⟩) (fun h => ?_) ?_
  · refine PWc.block ?_
    refine PWc.loopM (fun (i26 : Int) (_ : Unit) => ⟨31, [(0, .d (.sl (List.map TDot.e a1))), (1, .d (.sl (List.map TDot.e b2))), (5, .d (.sl (List.map TDot.e v3))), (6, .d (.v (.int .i64 i26)))], []⟩) () h (Sub.of rfl (.cons rfl rfl <| .cons rfl rfl <| .cons rfl rfl <| .cons rfl rfl <| .nil) (.nil)) ?_
    rintro N i26 _ h
    refine PWc.seq ?_
    refine PWc.seq ?_
    refine PWc.region ?_
    refine PWl.step (LR.move rfl) rfl ?_
    refine PWl.step (LR.move rfl) rfl ?_
    refine PWl.step (LR.lenMap (enc := TDot.e) (L := v3) Try.underlying61 rfl) rfl ?_
    refine PWl.step (LR.lss rfl rfl) rfl ?_
    refine PWl.nil ?_
    refine PWc.cond rfl (fun hc27 => ?_) (fun hc27 => ?_)
    · replace h := iT hc27 h
      refine PWc.skip ?_
      refine PWc.seq ?_
      refine PWc.block ?_
      refine PWc.seq ?_
      refine PWc.regionD (by kernel_rfl) (by kernel_rfl) ?_
      refine PQl.step (fun _ he ho => LR.move (he rfl rfl)) rfl ?_
      refine PQl.step (fun _ he ho => LR.move (he rfl rfl)) rfl ?_
      refine PQl.step (fun _ he ho => LR.move (he rfl rfl)) rfl ?_
      replace h := iIdx h
      obtain ⟨x28, hy29, h⟩ := h
      refine PQl.step (fun _ he ho => LR.idxT (enc := TDot.e) (L := v3) (y := x28) Try.underlying61 Try.sizeOf70 (he rfl rfl) (he rfl rfl) hy29 (fun _ => rfl)) rfl ?_
      refine PQl.step (fun _ he ho => LR.fieldEp Try.underlying70 rfl Try.sizeOf46 (by decide) rfl (he rfl rfl)) rfl ?_
      refine PQl.step (fun _ he ho => LR.loadEp Try.isAgg46 (he rfl rfl) rfl) rfl ?_
      replace h := iDet h
      obtain ⟨v30, hy31, h⟩ := h
      refine PQl.step (fun _ he ho => LR.callN (r08_Of_ok a1 x28.dev v30 hy31) (he rfl rfl) Try.call58 (evsE he rfl rfl) rfl rfl rfl) rfl ?_
      refine PQl.step (fun _ he ho => LR.move (he rfl rfl)) rfl ?_
      refine PQl.step (fun _ he ho => LR.move (he rfl rfl)) rfl ?_
      refine PQl.step (fun _ he ho => LR.move (he rfl rfl)) rfl ?_
      replace h := iIdx h
      obtain ⟨x32, hy33, h⟩ := h
      refine PQl.step (fun _ he ho => LR.idxT (enc := TDot.e) (L := v3) (y := x32) Try.underlying61 Try.sizeOf70 (he rfl rfl) (he rfl rfl) hy33 (fun _ => rfl)) rfl ?_
      refine PQl.step (fun _ he ho => LR.fieldEp Try.underlying70 rfl Try.sizeOf46 (by decide) rfl (he rfl rfl)) rfl ?_
      refine PQl.step (fun _ he ho => LR.loadEp Try.isAgg46 (he rfl rfl) rfl) rfl ?_
      replace h := iDet h
      obtain ⟨v34, hy35, h⟩ := h
      refine PQl.step (fun _ he ho => LR.callN (r08_Of_ok b2 x32.dev v34 hy35) (he rfl rfl) Try.call58 (evsE he rfl rfl) rfl rfl rfl) rfl ?_
      refine PQl.step (fun _ he ho => LR.gtr (he rfl rfl) (he rfl rfl)) rfl ?_
      refine PQl.nil ?_
      refine PWc.cond rfl (fun hc36 => ?_) (fun hc36 => ?_)
      · replace h := iT hc36 h
        refine PWc.seq ?_
        refine PWc.region ?_
        refine PWl.re (tl := []) (to := []) rfl (.nil) (.nil) ?_
        refine PWl.step (LR.assign rfl) rfl ?_
        refine PWl.nil ?_
        refine PWc.ret ?_
        replace h : _ = r0 := h
        subst h
        exact ⟨.inr rfl, _, .cons (.tmp rfl rfl) <| .nil, rfl⟩
      · replace h := iF hc36 h
        refine PWc.skip ?_
        refine PWc.region ?_
        refine PWl.re (tl := [(0, _), (1, _), (5, _), (6, _)]) (to := []) rfl (.cons rfl rfl <| .cons rfl rfl <| .cons rfl rfl <| .cons rfl rfl <| .nil) (.nil) ?_
        refine PWl.step (LR.move rfl) rfl ?_
        refine PWl.step (LR.addW rfl rfl) rfl ?_
        refine PWl.step (LR.assign rfl) rfl ?_
        refine PWl.nil ?_
        exact ⟨(IntKind.i64.wrap (i26 + 1)), (), h, Sub.of rfl (.cons rfl rfl <| .cons rfl rfl <| .cons rfl rfl <| .cons rfl rfl <| .nil) (.nil)⟩
    · replace h := iF hc27 h
      refine PWc.exit ?_
      exact ⟨(), (), h, Sub.of rfl (.nil) (.nil)⟩
  · rintro _ _ h
    refine PWc.seq ?_
    refine PWc.region ?_
    refine PWl.step (LR.assign rfl) rfl ?_
    refine PWl.nil ?_
    refine PWc.ret ?_
    replace h : _ = r0 := h
    subst h
    exact ⟨.inr rfl, _, .cons (.tmp rfl rfl) <| .nil, rfl⟩

theorem r08_Order_ok (a1 : List TDot) (b2 : List TDot) (r0 : Int) (h : (r08_Order a1 b2).wp (· = r0)) : PFun Try.prog 45 [.d (.sl (List.map TDot.e a1)), .d (.sl (List.map TDot.e b2))] (.d (.v (.int .i64 r0))) := by
  refine PFun.intro (sl := [(0, _), (1, _)]) Try.func45 rfl Try.ntmps45 rfl rfl ?_
  intro ctx hK
  refine PWc.seq ?_
  refine PWc.region ?_
  refine PWl.step (LR.assign rfl) rfl ?_
  refine PWl.nil ?_
  refine PWc.seq ?_
  refine PWc.seq ?_
  refine PWc.jn (iBind h) (fun (v3 : Bool) (_ : Unit) => ⟨19, [(0, .d (.sl (List.map TDot.e a1))), (1, .d (.sl (List.map TDot.e b2))), (12, .d (.v (.bool v3)))], []⟩) (fun h => ?_) ?_
  · refine PWc.region ?_
    refine PWl.step (LR.move rfl) rfl ?_
    refine PWl.step (LR.move rfl) rfl ?_
    replace h := iDet h
    obtain ⟨v4, hy5, h⟩ := h
    refine PWl.step (LR.callN (r08_Within_ok a1 b2 v4 hy5) rfl Try.call100 rfl rfl rfl rfl) rfl ?_
    refine PWl.step (LR.move rfl) rfl ?_
    refine PWl.split (d := 8) rfl (fun hg6 => ?_) (fun hg6 => ?_)
    · replace h := iT hg6 h
      refine PWl.guardT (LR.move rfl) rfl rfl rfl ?_
      refine PWl.guardT (LR.move rfl) rfl rfl rfl ?_
      replace h := iDet h
      obtain ⟨v7, hy8, h⟩ := h
      refine PWl.guardT (LR.callN (r08_Within_ok b2 a1 v7 hy8) rfl Try.call100 rfl rfl rfl rfl) rfl rfl rfl ?_
      refine PWl.step (LR.pickT rfl rfl) rfl ?_
      refine PWl.nil ?_
      exact ⟨v7, (), h, Sub.of rfl (.cons rfl rfl <| .cons rfl rfl <| .cons rfl rfl <| .nil) (.nil)⟩
    · replace h := iF hg6 h
      refine PWl.guardF rfl rfl rfl (by decide) ?_
      refine PWl.guardF rfl rfl rfl (by decide) ?_
      refine PWl.guardF rfl rfl rfl (by decide) ?_
      refine PWl.step (LR.pickF rfl rfl) rfl ?_
      refine PWl.nil ?_
      exact ⟨false, (), h, Sub.of rfl (.cons rfl rfl <| .cons rfl rfl <| .cons rfl rfl <| .nil) (.nil)⟩
  · rintro v3 _ h
    refine PWc.cond rfl (fun hc9 => ?_) (fun hc9 => ?_)
    · replace h := iT hc9 h
      refine PWc.seq ?_
      refine PWc.region ?_
      refine PWl.step (LR.assign rfl) rfl ?_
      refine PWl.nil ?_
      refine PWc.ret ?_
      replace h : _ = r0 := h
      subst h
      exact ⟨.inr rfl, _, .cons (.tmp rfl rfl) <| .nil, rfl⟩
    · replace h := iF hc9 h
      refine PWc.skip ?_
      refine PWc.seq ?_
      refine PWc.seq ?_
      refine PWc.region ?_
      refine PWl.step (LR.move rfl) rfl ?_
      refine PWl.step (LR.move rfl) rfl ?_
      replace h := iDet h
      obtain ⟨v10, hy11, h⟩ := h
      refine PWl.step (LR.callN (r08_Within_ok a1 b2 v10 hy11) rfl Try.call100 rfl rfl rfl rfl) rfl ?_
      refine PWl.nil ?_
      refine PWc.cond rfl (fun hc12 => ?_) (fun hc12 => ?_)
      · replace h := iT hc12 h
        refine PWc.seq ?_
        refine PWc.region ?_
        refine PWl.step (LR.assign rfl) rfl ?_
        refine PWl.nil ?_
        refine PWc.ret ?_
        replace h : _ = r0 := h
        subst h
        exact ⟨.inr rfl, _, .cons (.tmp rfl rfl) <| .nil, rfl⟩
      · replace h := iF hc12 h
        refine PWc.skip ?_
        refine PWc.seq ?_
        refine PWc.seq ?_
        refine PWc.region ?_
        refine PWl.step (LR.move rfl) rfl ?_
        refine PWl.step (LR.move rfl) rfl ?_
        replace h := iDet h
        obtain ⟨v13, hy14, h⟩ := h
        refine PWl.step (LR.callN (r08_Within_ok b2 a1 v13 hy14) rfl Try.call100 rfl rfl rfl rfl) rfl ?_
        refine PWl.nil ?_
        refine PWc.cond rfl (fun hc15 => ?_) (fun hc15 => ?_)
        · replace h := iT hc15 h
          refine PWc.seq ?_
          refine PWc.region ?_
          refine PWl.step (LR.assign rfl) rfl ?_
          refine PWl.nil ?_
          refine PWc.ret ?_
          replace h : _ = r0 := h
          subst h
          exact ⟨.inr rfl, _, .cons (.tmp rfl rfl) <| .nil, rfl⟩
        · replace h := iF hc15 h
          refine PWc.skip ?_
          refine PWc.seq ?_
          refine PWc.region ?_
          refine PWl.step (LR.assign rfl) rfl ?_
          refine PWl.nil ?_
          refine PWc.ret ?_
          replace h : _ = r0 := h
          subst h
          exact ⟨.inr rfl, _, .cons (.tmp rfl rfl) <| .nil, rfl⟩

theorem r08_Lack_ok (a1 : List TDot) (b2 : List TDot) (r0 : Int) (h : (r08_Lack a1 b2).wp (· = r0)) : PFun Try.prog 47 [.d (.sl (List.map TDot.e a1)), .d (.sl (List.map TDot.e b2))] (.d (.v (.int .u64 r0))) := by
  refine PFun.intro (sl := [(0, _), (1, _)]) Try.func47 rfl Try.ntmps47 rfl rfl ?_
  intro ctx hK
  refine PWc.seq ?_
  refine PWc.region ?_
  refine PWl.step (LR.assign rfl) rfl ?_
  refine PWl.nil ?_
  refine PWc.seq ?_
  refine PWc.region ?_
  refine PWl.step (LR.assign rfl) rfl ?_
  refine PWl.nil ?_
  refine PWc.seq ?_
  refine PWc.region ?_
  refine PWl.step (LR.move rfl) rfl ?_
  refine PWl.step (LR.move rfl) rfl ?_
  replace h := iDet h
  obtain ⟨v3, hy4, h⟩ := h
  refine PWl.step (LR.callN (r08_devs_ok a1 b2 v3 hy4) rfl Try.call101 rfl rfl rfl rfl) rfl ?_
  refine PWl.step (LR.assign rfl) rfl ?_
  refine PWl.nil ?_
  refine PWc.seq ?_
  refine PWc.seq ?_
  refine PWc.region ?_
  refine PWl.step (LR.assign rfl) rfl ?_
  refine PWl.nil ?_
  refine PWc.jn (iBind h) (fun (n5 : Int) (_ : Unit) => ⟨42, [(5, .d (.v (.int .u64 n5)))], []⟩) (fun h => ?_) ?_
  · refine PWc.block ?_
    refine PWc.loopM (fun (⟨n30, i31⟩ : Int × Int) (_ : Unit) => ⟨42, [(0, .d (.sl (List.map TDot.e a1))), (1, .d (.sl (List.map TDot.e b2))), (5, .d (.v (.int .u64 n30))), (6, .d (.sl (List.map TDot.e v3))), (7, .d (.v (.int .i64 i31)))], []⟩) () h (Sub.of rfl (.cons rfl rfl <| .cons rfl rfl <| .cons rfl rfl <| .cons rfl rfl <| .cons rfl rfl <| .nil) (.nil)) ?_
    rintro N ⟨n30, i31⟩ _ h
    refine PWc.seq ?_
    refine PWc.seq ?_
    refine PWc.region ?_
    refine PWl.step (LR.move rfl) rfl ?_
    refine PWl.step (LR.move rfl) rfl ?_
    refine PWl.step (LR.lenMap (enc := TDot.e) (L := v3) Try.underlying61 rfl) rfl ?_
    refine PWl.step (LR.lss rfl rfl) rfl ?_
    refine PWl.nil ?_
    refine PWc.cond rfl (fun hc32 => ?_) (fun hc32 => ?_)
    · replace h := iT hc32 h
      refine PWc.skip ?_
      refine PWc.seq ?_
      refine PWc.jn (iBind h) (fun (n33 : Int) (_ : Unit) => ⟨42, [(0, .d (.sl (List.map TDot.e a1))), (1, .d (.sl (List.map TDot.e b2))), (5, .d (.v (.int .u64 n33))), (6, .d (.sl (List.map TDot.e v3))), (7, .d (.v (.int .i64 i31)))], []⟩) (fun h => ?_) ?_
      · refine PWc.block ?_
        refine PWc.seq ?_
        refine PWc.regionD (by kernel_rfl) (by kernel_rfl) ?_
        refine PQl.step (fun _ he ho => LR.move (he rfl rfl)) rfl ?_
        refine PQl.step (fun _ he ho => LR.move (he rfl rfl)) rfl ?_
        refine PQl.step (fun _ he ho => LR.move (he rfl rfl)) rfl ?_
        replace h := iIdx h
        obtain ⟨x34, hy35, h⟩ := h
        refine PQl.step (fun _ he ho => LR.idxT (enc := TDot.e) (L := v3) (y := x34) Try.underlying61 Try.sizeOf70 (he rfl rfl) (he rfl rfl) hy35 (fun _ => rfl)) rfl ?_
        refine PQl.step (fun _ he ho => LR.fieldEp Try.underlying70 rfl Try.sizeOf46 (by decide) rfl (he rfl rfl)) rfl ?_
        refine PQl.step (fun _ he ho => LR.loadEp Try.isAgg46 (he rfl rfl) rfl) rfl ?_
        replace h := iDet h
        obtain ⟨v36, hy37, h⟩ := h
        refine PQl.step (fun _ he ho => LR.callN (r08_Of_ok a1 x34.dev v36 hy37) (he rfl rfl) Try.call58 (evsE he rfl rfl) rfl rfl rfl) rfl ?_
        refine PQl.step (fun _ he ho => LR.move (he rfl rfl)) rfl ?_
        refine PQl.step (fun _ he ho => LR.move (he rfl rfl)) rfl ?_
        refine PQl.step (fun _ he ho => LR.move (he rfl rfl)) rfl ?_
        replace h := iIdx h
        obtain ⟨x38, hy39, h⟩ := h
        refine PQl.step (fun _ he ho => LR.idxT (enc := TDot.e) (L := v3) (y := x38) Try.underlying61 Try.sizeOf70 (he rfl rfl) (he rfl rfl) hy39 (fun _ => rfl)) rfl ?_
        refine PQl.step (fun _ he ho => LR.fieldEp Try.underlying70 rfl Try.sizeOf46 (by decide) rfl (he rfl rfl)) rfl ?_
        refine PQl.step (fun _ he ho => LR.loadEp Try.isAgg46 (he rfl rfl) rfl) rfl ?_
        replace h := iDet h
        obtain ⟨v40, hy41, h⟩ := h
        refine PQl.step (fun _ he ho => LR.callN (r08_Of_ok b2 x38.dev v40 hy41) (he rfl rfl) Try.call58 (evsE he rfl rfl) rfl rfl rfl) rfl ?_
        refine PQl.step (fun _ he ho => LR.assign (he rfl rfl)) rfl ?_
        refine PQl.step (fun _ he ho => LR.assign (he rfl rfl)) rfl ?_
        refine PQl.nil ?_
        refine PWc.seq ?_
        refine PWc.re (tl := [(0, _), (1, _), (5, _), (6, _), (7, _), (8, _), (9, _)]) (to := []) rfl (.cons rfl rfl <| .cons rfl rfl <| .cons rfl rfl <| .cons rfl rfl <| .cons rfl rfl <| .cons rfl rfl <| .cons rfl rfl <| .nil) (.nil) ?_
        refine PWc.region ?_
        refine PWl.step (LR.move rfl) rfl ?_
        refine PWl.step (LR.move rfl) rfl ?_
        refine PWl.step (LR.gtr rfl rfl) rfl ?_
        refine PWl.nil ?_
        refine PWc.cond rfl (fun hc42 => ?_) (fun hc42 => ?_)
        · replace h := iT hc42 h
          refine PWc.region ?_
          refine PWl.step (LR.move rfl) rfl ?_
          refine PWl.step (LR.move rfl) rfl ?_
          refine PWl.step (LR.addW rfl rfl) rfl ?_
          refine PWl.step (LR.move rfl) rfl ?_
          refine PWl.step (LR.subW rfl rfl) rfl ?_
          refine PWl.step (LR.assign rfl) rfl ?_
          refine PWl.nil ?_
          exact ⟨(IntKind.u64.wrap ((IntKind.u64.wrap (n30 + v40)) - v36)), (), h, Sub.of rfl (.cons rfl rfl <| .cons rfl rfl <| .cons rfl rfl <| .cons rfl rfl <| .cons rfl rfl <| .nil) (.nil)⟩
        · replace h := iF hc42 h
          refine PWc.skip ?_
          exact ⟨n30, (), h, Sub.of rfl (.cons rfl rfl <| .cons rfl rfl <| .cons rfl rfl <| .cons rfl rfl <| .cons rfl rfl <| .nil) (.nil)⟩
      · rintro n33 _ h
        refine PWc.region ?_
        refine PWl.step (LR.move rfl) rfl ?_
        refine PWl.step (LR.addW rfl rfl) rfl ?_
        refine PWl.step (LR.assign rfl) rfl ?_
        refine PWl.nil ?_
        exact ⟨(n33, (IntKind.i64.wrap (i31 + 1))), (), h, Sub.of rfl (.cons rfl rfl <| .cons rfl rfl <| .cons rfl rfl <| .cons rfl rfl <| .cons rfl rfl <| .nil) (.nil)⟩
    · replace h := iF hc32 h
      refine PWc.exit ?_
      exact ⟨n30, (), h, Sub.of rfl (.cons rfl rfl <| .nil) (.nil)⟩
  · rintro n5 _ h
    refine PWc.seq ?_
    refine PWc.region ?_
    refine PWl.step (LR.move rfl) rfl ?_
    refine PWl.step (LR.assign rfl) rfl ?_
    refine PWl.nil ?_
    refine PWc.ret ?_
    replace h : _ = r0 := h
    subst h
    exact ⟨.inr rfl, _, .cons (.tmp rfl rfl) <| .nil, rfl⟩

theorem l08_VecPairs_ok (a1 : List TDot) (b2 : List TDot) (r0 : Bool) (h : (l08_VecPairs a1 b2).wp (· = r0)) : PFun Try.prog 6 [.d (.sl (List.map TDot.e a1)), .d (.sl (List.map TDot.e b2))] (.d (.v (.bool r0))) := by
  refine PFun.intro (sl := [(0, _), (1, _)]) Try.func6 rfl Try.ntmps6 rfl rfl ?_
  intro ctx hK
  refine PWc.seq ?_
  refine PWc.region ?_
  refine PWl.step (LR.assign rfl) rfl ?_
  refine PWl.nil ?_
  refine PWc.seq ?_
  refine PWc.seq ?_
  refine PWc.jn (iBind h) (fun (v3 : Bool) (_ : Unit) => ⟨51, [(0, .d (.sl (List.map TDot.e a1))), (1, .d (.sl (List.map TDot.e b2))), (12, .d (.v (.bool v3)))], []⟩) (fun h => ?_) ?_
  · refine PWc.region ?_
    refine PWl.step (LR.move rfl) rfl ?_
    replace h := iDet h
    obtain ⟨v4, hy5, h⟩ := h
    refine PWl.step (LR.callN (l08_few_ok a1 v4 hy5) rfl Try.call37 rfl rfl rfl rfl) rfl ?_
    refine PWl.step (LR.not rfl) rfl ?_
    refine PWl.step (LR.move rfl) rfl ?_
    refine PWl.split (d := 8) rfl (fun hg6 => ?_) (fun hg6 => ?_)
    · replace h := iT hg6 h
      refine PWl.guardF rfl rfl rfl (by decide) ?_
      refine PWl.guardF rfl rfl rfl (by decide) ?_
      refine PWl.guardF rfl rfl rfl (by decide) ?_
      refine PWl.step (LR.pickT rfl rfl) rfl ?_
      refine PWl.nil ?_
      exact ⟨true, (), h, Sub.of rfl (.cons rfl rfl <| .cons rfl rfl <| .cons rfl rfl <| .nil) (.nil)⟩
    · replace h := iF hg6 h
      refine PWl.guardT (LR.move rfl) rfl rfl rfl ?_
      replace h := iDet h
      obtain ⟨v7, hy8, h⟩ := h
      refine PWl.guardT (LR.callN (l08_few_ok b2 v7 hy8) rfl Try.call37 rfl rfl rfl rfl) rfl rfl rfl ?_
      refine PWl.guardT (LR.not rfl) rfl rfl rfl ?_
      refine PWl.step (LR.pickF rfl rfl) rfl ?_
      refine PWl.nil ?_
      exact ⟨(!v7), (), h, Sub.of rfl (.cons rfl rfl <| .cons rfl rfl <| .cons rfl rfl <| .nil) (.nil)⟩
  · rintro v3 _ h
    refine PWc.cond rfl (fun hc9 => ?_) (fun hc9 => ?_)
    · replace h := iT hc9 h
      refine PWc.seq ?_
      refine PWc.region ?_
      replace h := iDet h
      obtain ⟨v10, hy11, h⟩ := h
      refine PWl.step (LR.callN (l08_works_ok v10 hy11) rfl Try.call38 rfl rfl rfl rfl) rfl ?_
      refine PWl.step (LR.assign rfl) rfl ?_
      refine PWl.nil ?_
      refine PWc.ret ?_
      replace h : _ = r0 := h
      subst h
      exact ⟨.inr rfl, _, .cons (.tmp rfl rfl) <| .nil, rfl⟩
    · replace h := iF hc9 h
      refine PWc.skip ?_
      refine PWc.seq ?_
      refine PWc.jn (iBind h) (fun (v12 : Bool) (_ : Unit) => ⟨51, [(4, .d (.v (.bool v12)))], []⟩) (fun h => ?_) ?_
      · refine PWc.region ?_
        refine PWl.step (LR.move rfl) rfl ?_
        refine PWl.step (LR.move rfl) rfl ?_
        replace h := iDet h
        obtain ⟨v13, hy14, h⟩ := h
        refine PWl.step (LR.rowN (vec_Join_ok a1 b2 v13 hy14) rfl Try.call40 rfl rfl rfl rfl) rfl ?_
        refine PWl.step (LR.move rfl) rfl ?_
        refine PWl.step (LR.move rfl) rfl ?_
        replace h := iDet h
        obtain ⟨v15, hy16, h⟩ := h
        refine PWl.step (LR.rowN (r08_Join_ok a1 b2 v15 hy16) rfl Try.call41 rfl rfl rfl rfl) rfl ?_
        replace h := iDet h
        obtain ⟨v17, hy18, h⟩ := h
        refine PWl.frz [16] hK (.cons rfl <| .nil) rfl (by simp) ?_
        refine PWl.frz [19] hK (.cons rfl <| .nil) rfl (by simp) ?_
        refine PWl.step (LR.callN (r07_Same_ok v13 v15 v17 hy18) rfl Try.call39 rfl rfl rfl rfl) rfl ?_
        refine PWl.step (LR.move rfl) rfl ?_
        refine PWl.split (d := 21) rfl (fun hg19 => ?_) (fun hg19 => ?_)
        · replace h := iT hg19 h
          refine PWl.guardT (LR.move rfl) rfl rfl rfl ?_
          refine PWl.guardT (LR.move rfl) rfl rfl rfl ?_
          replace h := iDet h
          obtain ⟨v20, hy21, h⟩ := h
          refine PWl.guardT (LR.rowN (vec_Meet_ok a1 b2 v20 hy21) rfl Try.call42 rfl rfl rfl rfl) rfl rfl rfl ?_
          refine PWl.guardT (LR.move rfl) rfl rfl rfl ?_
          refine PWl.guardT (LR.move rfl) rfl rfl rfl ?_
          replace h := iDet h
          obtain ⟨v22, hy23, h⟩ := h
          refine PWl.guardT (LR.rowN (r08_Meet_ok a1 b2 v22 hy23) rfl Try.call43 rfl rfl rfl rfl) rfl rfl rfl ?_
          replace h := iDet h
          obtain ⟨v24, hy25, h⟩ := h
          refine PWl.frz [24] hK (.cons rfl <| .nil) rfl (by simp) ?_
          refine PWl.frz [27] hK (.cons rfl <| .nil) rfl (by simp) ?_
          refine PWl.guardT (LR.callN (r07_Same_ok v20 v22 v24 hy25) rfl Try.call39 rfl rfl rfl rfl) rfl rfl rfl ?_
          refine PWl.step (LR.pickT rfl rfl) rfl ?_
          refine PWl.step (LR.move rfl) rfl ?_
          refine PWl.re (tl := [(0, _), (1, _), (30, _)]) (to := []) rfl (.cons rfl rfl <| .cons rfl rfl <| .cons rfl rfl <| .nil) (.nil) ?_
          refine PWl.split (d := 30) rfl (fun hg26 => ?_) (fun hg26 => ?_)
          · replace h := iT hg26 h
            refine PWl.guardT (LR.move rfl) rfl rfl rfl ?_
            refine PWl.guardT (LR.move rfl) rfl rfl rfl ?_
            replace h := iDet h
            obtain ⟨v27, hy28, h⟩ := h
            refine PWl.guardT (LR.callN (vec_Order_ok a1 b2 v27 hy28) rfl Try.call44 rfl rfl rfl rfl) rfl rfl rfl ?_
            refine PWl.guardT (LR.move rfl) rfl rfl rfl ?_
            refine PWl.guardT (LR.move rfl) rfl rfl rfl ?_
            replace h := iDet h
            obtain ⟨v29, hy30, h⟩ := h
            refine PWl.guardT (LR.callN (r08_Order_ok a1 b2 v29 hy30) rfl Try.call45 rfl rfl rfl rfl) rfl rfl rfl ?_
            refine PWl.guardT (LR.eql rfl rfl) rfl rfl rfl ?_
            refine PWl.step (LR.pickT rfl rfl) rfl ?_
            refine PWl.step (LR.move rfl) rfl ?_
            refine PWl.split (d := 39) rfl (fun hg31 => ?_) (fun hg31 => ?_)
            · replace h := iT hg31 h
              refine PWl.guardT (LR.move rfl) rfl rfl rfl ?_
              refine PWl.guardT (LR.move rfl) rfl rfl rfl ?_
              replace h := iDet h
              obtain ⟨v32, hy33, h⟩ := h
              refine PWl.guardT (LR.callN (vec_Lack_ok a1 b2 v32 hy33) rfl Try.call46 rfl rfl rfl rfl) rfl rfl rfl ?_
              refine PWl.guardT (LR.move rfl) rfl rfl rfl ?_
              refine PWl.guardT (LR.move rfl) rfl rfl rfl ?_
              replace h := iDet h
              obtain ⟨v34, hy35, h⟩ := h
              refine PWl.guardT (LR.callN (r08_Lack_ok a1 b2 v34 hy35) rfl Try.call47 rfl rfl rfl rfl) rfl rfl rfl ?_
              refine PWl.guardT (LR.eql rfl rfl) rfl rfl rfl ?_
              refine PWl.re (tl := [(39, _), (46, _)]) (to := []) rfl (.cons rfl rfl <| .cons rfl rfl <| .nil) (.nil) ?_
              refine PWl.step (LR.pickT rfl rfl) rfl ?_
              refine PWl.step (LR.move rfl) rfl ?_
              refine PWl.split (d := 48) rfl (fun hg36 => ?_) (fun hg36 => ?_)
              · replace h := iT hg36 h
                replace h := iDet h
                obtain ⟨v37, hy38, h⟩ := h
                refine PWl.guardT (LR.callN (l08_works_ok v37 hy38) rfl Try.call38 rfl rfl rfl rfl) rfl rfl rfl ?_
                refine PWl.step (LR.pickT rfl rfl) rfl ?_
                refine PWl.step (LR.assign rfl) rfl ?_
                refine PWl.nil ?_
                exact ⟨v37, (), h, Sub.of rfl (.cons rfl rfl <| .nil) (.nil)⟩
              · replace h := iF hg36 h
                refine PWl.guardF rfl rfl rfl (by decide) ?_
                refine PWl.step (LR.pickF rfl rfl) rfl ?_
                refine PWl.step (LR.assign rfl) rfl ?_
                refine PWl.nil ?_
                exact ⟨false, (), h, Sub.of rfl (.cons rfl rfl <| .nil) (.nil)⟩
            · replace h := iF hg31 h
              refine PWl.guardF rfl rfl rfl (by decide) ?_
              refine PWl.guardF rfl rfl rfl (by decide) ?_
              refine PWl.guardF rfl rfl rfl (by decide) ?_
              refine PWl.guardF rfl rfl rfl (by decide) ?_
              refine PWl.guardF rfl rfl rfl (by decide) ?_
              refine PWl.guardF rfl rfl rfl (by decide) ?_
              refine PWl.guardF rfl rfl rfl (by decide) ?_
              refine PWl.re (tl := [(39, _), (46, _)]) (to := []) rfl (.cons rfl rfl <| .cons rfl rfl <| .nil) (.nil) ?_
              refine PWl.step (LR.pickF rfl rfl) rfl ?_
              refine PWl.step (LR.move rfl) rfl ?_
              refine PWl.guardF rfl rfl rfl (by decide) ?_
              refine PWl.step (LR.pickF rfl rfl) rfl ?_
              refine PWl.step (LR.assign rfl) rfl ?_
              refine PWl.nil ?_
              exact ⟨false, (), h, Sub.of rfl (.cons rfl rfl <| .nil) (.nil)⟩
          · replace h := iF hg26 h
            refine PWl.guardF rfl rfl rfl (by decide) ?_
            refine PWl.guardF rfl rfl rfl (by decide) ?_
            refine PWl.guardF rfl rfl rfl (by decide) ?_
            refine PWl.guardF rfl rfl rfl (by decide) ?_
            refine PWl.guardF rfl rfl rfl (by decide) ?_
            refine PWl.guardF rfl rfl rfl (by decide) ?_
            refine PWl.guardF rfl rfl rfl (by decide) ?_
            refine PWl.step (LR.pickF rfl rfl) rfl ?_
            refine PWl.step (LR.move rfl) rfl ?_
            refine PWl.guardF rfl rfl rfl (by decide) ?_
            refine PWl.guardF rfl rfl rfl (by decide) ?_
            refine PWl.guardF rfl rfl rfl (by decide) ?_
            refine PWl.guardF rfl rfl rfl (by decide) ?_
            refine PWl.guardF rfl rfl rfl (by decide) ?_
            refine PWl.guardF rfl rfl rfl (by decide) ?_
            refine PWl.guardF rfl rfl rfl (by decide) ?_
            refine PWl.step (LR.pickF rfl rfl) rfl ?_
            refine PWl.re (tl := [(47, _)]) (to := []) rfl (.cons rfl rfl <| .nil) (.nil) ?_
            refine PWl.step (LR.move rfl) rfl ?_
            refine PWl.guardF rfl rfl rfl (by decide) ?_
            refine PWl.step (LR.pickF rfl rfl) rfl ?_
            refine PWl.step (LR.assign rfl) rfl ?_
            refine PWl.nil ?_
            exact ⟨false, (), h, Sub.of rfl (.cons rfl rfl <| .nil) (.nil)⟩
        · replace h := iF hg19 h
          refine PWl.guardF rfl rfl rfl (by decide) ?_
          refine PWl.guardF rfl rfl rfl (by decide) ?_
          refine PWl.guardF rfl rfl rfl (by decide) ?_
          refine PWl.guardF rfl rfl rfl (by decide) ?_
          refine PWl.guardF rfl rfl rfl (by decide) ?_
          refine PWl.guardF rfl rfl rfl (by decide) ?_
          refine PWl.guardF rfl rfl rfl (by decide) ?_
          refine PWl.step (LR.pickF rfl rfl) rfl ?_
          refine PWl.step (LR.move rfl) rfl ?_
          refine PWl.re (tl := [(0, _), (1, _), (30, _)]) (to := []) rfl (.cons rfl rfl <| .cons rfl rfl <| .cons rfl rfl <| .nil) (.nil) ?_
          refine PWl.guardF rfl rfl rfl (by decide) ?_
          refine PWl.guardF rfl rfl rfl (by decide) ?_
          refine PWl.guardF rfl rfl rfl (by decide) ?_
          refine PWl.guardF rfl rfl rfl (by decide) ?_
          refine PWl.guardF rfl rfl rfl (by decide) ?_
          refine PWl.guardF rfl rfl rfl (by decide) ?_
          refine PWl.guardF rfl rfl rfl (by decide) ?_
          refine PWl.step (LR.pickF rfl rfl) rfl ?_
          refine PWl.step (LR.move rfl) rfl ?_
          refine PWl.guardF rfl rfl rfl (by decide) ?_
          refine PWl.guardF rfl rfl rfl (by decide) ?_
          refine PWl.guardF rfl rfl rfl (by decide) ?_
          refine PWl.guardF rfl rfl rfl (by decide) ?_
          refine PWl.guardF rfl rfl rfl (by decide) ?_
          refine PWl.guardF rfl rfl rfl (by decide) ?_
          refine PWl.guardF rfl rfl rfl (by decide) ?_
          refine PWl.step (LR.pickF rfl rfl) rfl ?_
          refine PWl.step (LR.move rfl) rfl ?_
          refine PWl.re (tl := [(48, _)]) (to := []) rfl (.cons rfl rfl <| .nil) (.nil) ?_
          refine PWl.guardF rfl rfl rfl (by decide) ?_
          refine PWl.step (LR.pickF rfl rfl) rfl ?_
          refine PWl.step (LR.assign rfl) rfl ?_
          refine PWl.nil ?_
          exact ⟨false, (), h, Sub.of rfl (.cons rfl rfl <| .nil) (.nil)⟩
      · rintro v12 _ h
        refine PWc.ret ?_
        replace h : _ = r0 := h
        subst h
        exact ⟨.inr rfl, _, .cons (.tmp rfl rfl) <| .nil, rfl⟩
end Go.Proofs

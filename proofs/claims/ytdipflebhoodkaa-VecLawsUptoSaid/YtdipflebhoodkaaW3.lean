/- Walks: written by program. -/
import Derived.Test.YtdipflebhoodkaaFc
import Derived.Test.YtdipflebhoodkaaSh
import Derived.Test.YtdipflebhoodkaaSx
import Derived.Test.YtdipflebhoodkaaW2
namespace Go.Proofs
open Go.Ep
set_option maxHeartbeats 1000000
set_option maxRecDepth 100000
set_option linter.unusedVariables false
set_option linter.unusedSimpArgs false


theorem r07_Good_ok (d1 : TDot) (r0 : Bool) (h : (r07_Good d1).wp (· = r0)) : PFun Try.prog 50 [.agg (List.map .d (TDot.e d1))] (.d (.v (.bool r0))) := by
  refine PFun.intro (sl := [(0, _)]) Try.func50 rfl Try.ntmps50 rfl rfl ?_
  intro ctx hK
  refine PWc.seq ?_
  refine PWc.region ?_
  refine PWl.step (LR.box rfl rfl rfl rfl) rfl ?_
  refine PWl.step (LR.assign rfl) rfl ?_
  refine PWl.nil ?_
  refine PWc.seq ?_
  refine PWc.jn (iBind h) (fun (v2 : Bool) (_ : Unit) => ⟨16, [(2, .d (.v (.bool v2)))], []⟩) (fun h => ?_) ?_
  · refine PWc.region ?_
    refine PWl.step (LR.fieldRef Try.underlying70 rfl Try.sizeOf46 (by decide) rfl rfl) rfl ?_
    refine PWl.step (LR.loadRef Try.isAgg46 rfl rfl rfl) rfl ?_
    refine PWl.step (LR.geq rfl rfl) rfl ?_
    refine PWl.step (LR.move rfl) rfl ?_
    refine PWl.split (d := 6) rfl (fun hg3 => ?_) (fun hg3 => ?_)
    · replace h := iT hg3 h
      refine PWl.guardT (LR.fieldRef Try.underlying70 rfl Try.sizeOf34 (by decide) rfl rfl) rfl rfl rfl ?_
      refine PWl.guardT (LR.loadRef Try.isAgg34 rfl rfl rfl) rfl rfl rfl ?_
      refine PWl.guardT (LR.geq rfl rfl) rfl rfl rfl ?_
      refine PWl.step (LR.pickT rfl rfl) rfl ?_
      refine PWl.step (LR.move rfl) rfl ?_
      refine PWl.split (d := 11) rfl (fun hg4 => ?_) (fun hg4 => ?_)
      · replace h := iT hg4 h
        refine PWl.guardT (LR.fieldRef Try.underlying70 rfl Try.sizeOf34 (by decide) rfl rfl) rfl rfl rfl ?_
        refine PWl.guardT (LR.loadRef Try.isAgg34 rfl rfl rfl) rfl rfl rfl ?_
        refine PWl.guardT (LR.lss rfl rfl) rfl rfl rfl ?_
        refine PWl.step (LR.pickT rfl rfl) rfl ?_
        refine PWl.step (LR.assign rfl) rfl ?_
        refine PWl.nil ?_
        exact ⟨(decide (d1.n < 281474976710656)), (), h, Sub.of rfl (.cons rfl rfl <| .nil) (.nil)⟩
      · replace h := iF hg4 h
        refine PWl.guardF rfl rfl rfl (by decide) ?_
        refine PWl.guardF rfl rfl rfl (by decide) ?_
        refine PWl.guardF rfl rfl rfl (by decide) ?_
        refine PWl.step (LR.pickF rfl rfl) rfl ?_
        refine PWl.step (LR.assign rfl) rfl ?_
        refine PWl.nil ?_
        exact ⟨false, (), h, Sub.of rfl (.cons rfl rfl <| .nil) (.nil)⟩
    · replace h := iF hg3 h
      refine PWl.guardF rfl rfl rfl (by decide) ?_
      refine PWl.guardF rfl rfl rfl (by decide) ?_
      refine PWl.guardF rfl rfl rfl (by decide) ?_
      refine PWl.step (LR.pickF rfl rfl) rfl ?_
      refine PWl.step (LR.move rfl) rfl ?_
      refine PWl.guardF rfl rfl rfl (by decide) ?_
      refine PWl.guardF rfl rfl rfl (by decide) ?_
      refine PWl.guardF rfl rfl rfl (by decide) ?_
      refine PWl.step (LR.pickF rfl rfl) rfl ?_
      refine PWl.step (LR.assign rfl) rfl ?_
      refine PWl.nil ?_
      exact ⟨false, (), h, Sub.of rfl (.cons rfl rfl <| .nil) (.nil)⟩
  · rintro v2 _ h
    refine PWc.ret ?_
    replace h : _ = r0 := h
    subst h
    exact ⟨.inr rfl, _, .cons (.tmp rfl rfl) <| .nil, rfl⟩

theorem r08_Of_ok (v1 : List TDot) (dev2 : Int) (r0 : Int) (h : (r08_Of v1 dev2).wp (· = r0)) : PFun Try.prog 58 [.d (.sl (List.map TDot.e v1)), .d (.v (.int .u16 dev2))] (.d (.v (.int .u64 r0))) := by
  refine PFun.intro (sl := [(0, _), (1, _)]) Try.func58 rfl Try.ntmps58 rfl rfl ?_
  intro ctx hK
  refine PWc.seq ?_
  refine PWc.region ?_
  refine PWl.step (LR.assign rfl) rfl ?_
  refine PWl.nil ?_
  refine PWc.seq ?_
  refine PWc.region ?_
  refine PWl.step (LR.assign rfl) rfl ?_
  refine PWl.nil ?_
  refine PWc.seq ?_
  refine PWc.seq ?_
  refine PWc.region ?_
  refine PWl.step (LR.assign rfl) rfl ?_
  refine PWl.nil ?_
  refine PWc.jn (iBind h) (fun (n3 : Int) (_ : Unit) => ⟨42, [(5, .d (.v (.int .u64 n3)))], []⟩) (fun h => ?_) ?_
  · refine PWc.block ?_
    refine PWc.loopM (fun (⟨n38, i39⟩ : Int × Int) (_ : Unit) => ⟨42, [(0, .d (.sl (List.map TDot.e v1))), (1, .d (.v (.int .u16 dev2))), (5, .d (.v (.int .u64 n38))), (6, .d (.v (.int .i64 i39)))], []⟩) () h (Sub.of rfl (.cons rfl rfl <| .cons rfl rfl <| .cons rfl rfl <| .cons rfl rfl <| .nil) (.nil)) ?_
    rintro N ⟨n38, i39⟩ _ h
    refine PWc.seq ?_
    refine PWc.seq ?_
    refine PWc.region ?_
    refine PWl.step (LR.move rfl) rfl ?_
    refine PWl.step (LR.move rfl) rfl ?_
    refine PWl.step (LR.lenMap (enc := TDot.e) (L := v1) Try.underlying62 rfl) rfl ?_
    refine PWl.step (LR.lss rfl rfl) rfl ?_
    refine PWl.nil ?_
    refine PWc.cond rfl (fun hc40 => ?_) (fun hc40 => ?_)
    · replace h := iT hc40 h
      refine PWc.skip ?_
      refine PWc.seq ?_
      refine PWc.jn (iBind h) (fun (n41 : Int) (_ : Unit) => ⟨42, [(0, .d (.sl (List.map TDot.e v1))), (1, .d (.v (.int .u16 dev2))), (5, .d (.v (.int .u64 n41))), (6, .d (.v (.int .i64 i39)))], []⟩) (fun h => ?_) ?_
      · refine PWc.block ?_
        refine PWc.seq ?_
        refine PWc.jn (iBind h) (fun (v42 : Bool) (_ : Unit) => ⟨42, [(0, .d (.sl (List.map TDot.e v1))), (1, .d (.v (.int .u16 dev2))), (5, .d (.v (.int .u64 n38))), (6, .d (.v (.int .i64 i39))), (35, .d (.v (.bool v42)))], []⟩) (fun h => ?_) ?_
        · refine PWc.region ?_
          refine PWl.step (LR.move rfl) rfl ?_
          refine PWl.step (LR.move rfl) rfl ?_
          replace h := iIdx h
          obtain ⟨x43, hy44, h⟩ := h
          refine PWl.step (LR.idxT (enc := TDot.e) (L := v1) (y := x43) Try.underlying62 Try.sizeOf70 rfl rfl hy44 (fun _ => rfl)) rfl ?_
          refine PWl.step (LR.fieldEp Try.underlying70 rfl Try.sizeOf46 (by decide) rfl rfl) rfl ?_
          refine PWl.step (LR.loadEp Try.isAgg46 rfl rfl) rfl ?_
          refine PWl.step (LR.move rfl) rfl ?_
          refine PWl.step (LR.eql rfl rfl) rfl ?_
          refine PWl.step (LR.move rfl) rfl ?_
          refine PWl.split (d := 20) rfl (fun hg45 => ?_) (fun hg45 => ?_)
          · replace h := iT hg45 h
            refine PWl.guardT (LR.move rfl) rfl rfl rfl ?_
            refine PWl.guardT (LR.move rfl) rfl rfl rfl ?_
            replace h := iIdx h
            obtain ⟨x46, hy47, h⟩ := h
            refine PWl.guardT (LR.idxT (enc := TDot.e) (L := v1) (y := x46) Try.underlying62 Try.sizeOf70 rfl rfl hy47 (fun _ => rfl)) rfl rfl rfl ?_
            refine PWl.guardT (LR.loadEpAgg (ys := [_, _]) Try.isAgg70 Try.sizeOf70 rfl rfl rfl) rfl rfl rfl ?_
            refine PWl.re (tl := [(0, _), (1, _), (5, _), (6, _), (20, _), (21, _), (22, _), (23, _), (24, _)]) (to := []) rfl (.cons rfl rfl <| .cons rfl rfl <| .cons rfl rfl <| .cons rfl rfl <| .cons rfl rfl <| .cons rfl rfl <| .cons rfl rfl <| .cons rfl rfl <| .cons rfl rfl <| .nil) (.nil) ?_
            replace h := iDet h
            obtain ⟨v48, hy49, h⟩ := h
            refine PWl.guardT (LR.callN (r07_Good_ok x46 v48 hy49) rfl Try.call50 rfl rfl rfl rfl) rfl rfl rfl ?_
            refine PWl.step (LR.pickT rfl rfl) rfl ?_
            refine PWl.step (LR.move rfl) rfl ?_
            refine PWl.split (d := 27) rfl (fun hg50 => ?_) (fun hg50 => ?_)
            · replace h := iT hg50 h
              refine PWl.guardT (LR.move rfl) rfl rfl rfl ?_
              refine PWl.guardT (LR.move rfl) rfl rfl rfl ?_
              replace h := iIdx h
              obtain ⟨x51, hy52, h⟩ := h
              refine PWl.guardT (LR.idxT (enc := TDot.e) (L := v1) (y := x51) Try.underlying62 Try.sizeOf70 rfl rfl hy52 (fun _ => rfl)) rfl rfl rfl ?_
              refine PWl.guardT (LR.fieldEp Try.underlying70 rfl Try.sizeOf34 (by decide) rfl rfl) rfl rfl rfl ?_
              refine PWl.guardT (LR.loadEp Try.isAgg34 rfl rfl) rfl rfl rfl ?_
              refine PWl.guardT (LR.move rfl) rfl rfl rfl ?_
              refine PWl.guardT (LR.gtr rfl rfl) rfl rfl rfl ?_
              refine PWl.step (LR.pickT rfl rfl) rfl ?_
              refine PWl.nil ?_
              exact ⟨(decide (n38 < x51.n)), (), h, Sub.of rfl (.cons rfl rfl <| .cons rfl rfl <| .cons rfl rfl <| .cons rfl rfl <| .cons rfl rfl <| .nil) (.nil)⟩
            · replace h := iF hg50 h
              refine PWl.guardF rfl rfl rfl (by decide) ?_
              refine PWl.guardF rfl rfl rfl (by decide) ?_
              refine PWl.guardF rfl rfl rfl (by decide) ?_
              refine PWl.guardF rfl rfl rfl (by decide) ?_
              refine PWl.guardF rfl rfl rfl (by decide) ?_
              refine PWl.guardF rfl rfl rfl (by decide) ?_
              refine PWl.guardF rfl rfl rfl (by decide) ?_
              refine PWl.step (LR.pickF rfl rfl) rfl ?_
              refine PWl.nil ?_
              exact ⟨false, (), h, Sub.of rfl (.cons rfl rfl <| .cons rfl rfl <| .cons rfl rfl <| .cons rfl rfl <| .cons rfl rfl <| .nil) (.nil)⟩
          · replace h := iF hg45 h
            refine PWl.guardF rfl rfl rfl (by decide) ?_
            refine PWl.guardF rfl rfl rfl (by decide) ?_
            refine PWl.guardF rfl rfl rfl (by decide) ?_
            refine PWl.guardF rfl rfl rfl (by decide) ?_
            refine PWl.re (tl := [(0, _), (1, _), (5, _), (6, _), (20, _), (21, _), (22, _), (23, _), (24, _)]) (to := []) rfl (.cons rfl rfl <| .cons rfl rfl <| .cons rfl rfl <| .cons rfl rfl <| .cons rfl rfl <| .cons rfl rfl <| .cons rfl rfl <| .cons rfl rfl <| .cons rfl rfl <| .nil) (.nil) ?_
            refine PWl.guardF rfl rfl rfl (by decide) ?_
            refine PWl.step (LR.pickF rfl rfl) rfl ?_
            refine PWl.step (LR.move rfl) rfl ?_
            refine PWl.guardF rfl rfl rfl (by decide) ?_
            refine PWl.guardF rfl rfl rfl (by decide) ?_
            refine PWl.guardF rfl rfl rfl (by decide) ?_
            refine PWl.guardF rfl rfl rfl (by decide) ?_
            refine PWl.guardF rfl rfl rfl (by decide) ?_
            refine PWl.guardF rfl rfl rfl (by decide) ?_
            refine PWl.guardF rfl rfl rfl (by decide) ?_
            refine PWl.step (LR.pickF rfl rfl) rfl ?_
            refine PWl.nil ?_
            exact ⟨false, (), h, Sub.of rfl (.cons rfl rfl <| .cons rfl rfl <| .cons rfl rfl <| .cons rfl rfl <| .cons rfl rfl <| .nil) (.nil)⟩
        · rintro v42 _ h
          refine PWc.cond rfl (fun hc53 => ?_) (fun hc53 => ?_)
          · replace h := iT hc53 h
            refine PWc.region ?_
            refine PWl.step (LR.move rfl) rfl ?_
            refine PWl.step (LR.move rfl) rfl ?_
            replace h := iIdx h
            obtain ⟨x54, hy55, h⟩ := h
            refine PWl.step (LR.idxT (enc := TDot.e) (L := v1) (y := x54) Try.underlying62 Try.sizeOf70 rfl rfl hy55 (fun _ => rfl)) rfl ?_
            refine PWl.step (LR.fieldEp Try.underlying70 rfl Try.sizeOf34 (by decide) rfl rfl) rfl ?_
            refine PWl.step (LR.loadEp Try.isAgg34 rfl rfl) rfl ?_
            refine PWl.step (LR.assign rfl) rfl ?_
            refine PWl.nil ?_
            exact ⟨x54.n, (), h, Sub.of rfl (.cons rfl rfl <| .cons rfl rfl <| .cons rfl rfl <| .cons rfl rfl <| .nil) (.nil)⟩
          · replace h := iF hc53 h
            refine PWc.skip ?_
            exact ⟨n38, (), h, Sub.of rfl (.cons rfl rfl <| .cons rfl rfl <| .cons rfl rfl <| .cons rfl rfl <| .nil) (.nil)⟩
      · rintro n41 _ h
        refine PWc.region ?_
        refine PWl.step (LR.move rfl) rfl ?_
        refine PWl.step (LR.addW rfl rfl) rfl ?_
        refine PWl.step (LR.assign rfl) rfl ?_
        refine PWl.nil ?_
        exact ⟨(n41, (IntKind.i64.wrap (i39 + 1))), (), h, Sub.of rfl (.cons rfl rfl <| .cons rfl rfl <| .cons rfl rfl <| .cons rfl rfl <| .nil) (.nil)⟩
    · replace h := iF hc40 h
      refine PWc.exit ?_
      exact ⟨n38, (), h, Sub.of rfl (.cons rfl rfl <| .nil) (.nil)⟩
  · rintro n3 _ h
    refine PWc.seq ?_
    refine PWc.region ?_
    refine PWl.step (LR.move rfl) rfl ?_
    refine PWl.step (LR.assign rfl) rfl ?_
    refine PWl.nil ?_
    refine PWc.ret ?_
    replace h : _ = r0 := h
    subst h
    exact ⟨.inr rfl, _, .cons (.tmp rfl rfl) <| .nil, rfl⟩

theorem r07_Cmp_ok (a1 : TDot) (b2 : TDot) (r0 : Int) (h : (r07_Cmp a1 b2).wp (· = r0)) : PFun Try.prog 142 [.agg (List.map .d (TDot.e a1)), .agg (List.map .d (TDot.e b2))] (.d (.v (.int .i64 r0))) := by
  refine PFun.intro (sl := [(0, _), (1, _)]) Try.func142 rfl Try.ntmps142 rfl rfl ?_
  intro ctx hK
  refine PWc.seq ?_
  refine PWc.region ?_
  refine PWl.step (LR.box rfl rfl rfl rfl) rfl ?_
  refine PWl.step (LR.box rfl rfl rfl rfl) rfl ?_
  refine PWl.step (LR.assign rfl) rfl ?_
  refine PWl.nil ?_
  refine PWc.seq ?_
  refine PWc.seq ?_
  refine PWc.region ?_
  refine PWl.step (LR.loadRefAgg (ps := [_, _]) Try.isAgg70 Try.sizeOf70 rfl rfl rfl rfl) rfl ?_
  refine PWl.step (LR.loadRefAgg (ps := [_, _]) Try.isAgg70 Try.sizeOf70 rfl rfl rfl rfl) rfl ?_
  refine PWl.step (LR.eqlAgg rfl rfl rfl rfl eq70) rfl ?_
  refine PWl.nil ?_
  refine PWc.cond rfl (fun hc3 => ?_) (fun hc3 => ?_)
  · replace h := iT hc3 h
    refine PWc.seq ?_
    refine PWc.region ?_
    refine PWl.step (LR.assign rfl) rfl ?_
    refine PWl.nil ?_
    refine PWc.ret ?_
    replace h : _ = r0 := h
    subst h
    exact ⟨.inr rfl, _, .cons (.tmp rfl rfl) <| .nil, rfl⟩
  · replace h := iF hc3 h
    refine PWc.skip ?_
    refine PWc.seq ?_
    refine PWc.seq ?_
    refine PWc.jn (iBind h) (fun (v4 : Bool) (_ : Unit) => ⟨27, [(26, .d (.v (.bool v4)))], []⟩) (fun h => ?_) ?_
    · refine PWc.region ?_
      refine PWl.step (LR.fieldRef Try.underlying70 rfl Try.sizeOf46 (by decide) rfl rfl) rfl ?_
      refine PWl.step (LR.loadRef Try.isAgg46 rfl rfl rfl) rfl ?_
      refine PWl.step (LR.fieldRef Try.underlying70 rfl Try.sizeOf46 (by decide) rfl rfl) rfl ?_
      refine PWl.step (LR.loadRef Try.isAgg46 rfl rfl rfl) rfl ?_
      refine PWl.step (LR.lss rfl rfl) rfl ?_
      refine PWl.step (LR.move rfl) rfl ?_
      refine PWl.split (d := 13) rfl (fun hg5 => ?_) (fun hg5 => ?_)
      · replace h := iT hg5 h
        refine PWl.guardF rfl rfl rfl (by decide) ?_
        refine PWl.guardF rfl rfl rfl (by decide) ?_
        refine PWl.guardF rfl rfl rfl (by decide) ?_
        refine PWl.guardF rfl rfl rfl (by decide) ?_
        refine PWl.guardF rfl rfl rfl (by decide) ?_
        refine PWl.guardF rfl rfl rfl (by decide) ?_
        refine PWl.re (tl := [(2, _), (3, _), (13, _), (19, _)]) (to := [(2, _), (3, _)]) rfl (.cons rfl rfl <| .cons rfl rfl <| .cons rfl rfl <| .cons rfl rfl <| .nil) (.cons rfl rfl <| .cons rfl rfl <| .nil) ?_
        refine PWl.guardU rfl rfl rfl ?_
        refine PWl.guardU rfl rfl rfl ?_
        refine PWl.guardU rfl rfl rfl ?_
        refine PWl.guardU rfl rfl rfl ?_
        refine PWl.guardU rfl rfl rfl ?_
        refine PWl.guardF rfl rfl rfl (by decide) ?_
        refine PWl.step (LR.pickT rfl rfl) rfl ?_
        refine PWl.nil ?_
        exact ⟨true, (), h, Sub.of rfl (.cons rfl rfl <| .nil) (.nil)⟩
      · replace h := iF hg5 h
        refine PWl.guardT (LR.fieldRef Try.underlying70 rfl Try.sizeOf46 (by decide) rfl rfl) rfl rfl rfl ?_
        refine PWl.guardT (LR.loadRef Try.isAgg46 rfl rfl rfl) rfl rfl rfl ?_
        refine PWl.guardT (LR.fieldRef Try.underlying70 rfl Try.sizeOf46 (by decide) rfl rfl) rfl rfl rfl ?_
        refine PWl.guardT (LR.loadRef Try.isAgg46 rfl rfl rfl) rfl rfl rfl ?_
        refine PWl.guardT (LR.eql rfl rfl) rfl rfl rfl ?_
        refine PWl.guardT (LR.move rfl) rfl rfl rfl ?_
        refine PWl.re (tl := [(2, _), (3, _), (13, _), (19, _)]) (to := [(2, _), (3, _)]) rfl (.cons rfl rfl <| .cons rfl rfl <| .cons rfl rfl <| .cons rfl rfl <| .nil) (.cons rfl rfl <| .cons rfl rfl <| .nil) ?_
        refine PWl.split (d := 19) rfl (fun hg6 => ?_) (fun hg6 => ?_)
        · replace h := iT hg6 h
          refine PWl.guardT (LR.fieldRef Try.underlying70 rfl Try.sizeOf34 (by decide) rfl rfl) rfl rfl rfl ?_
          refine PWl.guardT (LR.loadRef Try.isAgg34 rfl rfl rfl) rfl rfl rfl ?_
          refine PWl.guardT (LR.fieldRef Try.underlying70 rfl Try.sizeOf34 (by decide) rfl rfl) rfl rfl rfl ?_
          refine PWl.guardT (LR.loadRef Try.isAgg34 rfl rfl rfl) rfl rfl rfl ?_
          refine PWl.guardT (LR.lss rfl rfl) rfl rfl rfl ?_
          refine PWl.guardT (LR.pickT rfl rfl) rfl rfl rfl ?_
          refine PWl.step (LR.pickF rfl rfl) rfl ?_
          refine PWl.nil ?_
          exact ⟨(decide (a1.n < b2.n)), (), h, Sub.of rfl (.cons rfl rfl <| .nil) (.nil)⟩
        · replace h := iF hg6 h
          refine PWl.guardF rfl rfl rfl (by decide) ?_
          refine PWl.guardF rfl rfl rfl (by decide) ?_
          refine PWl.guardF rfl rfl rfl (by decide) ?_
          refine PWl.guardF rfl rfl rfl (by decide) ?_
          refine PWl.guardF rfl rfl rfl (by decide) ?_
          refine PWl.guardT (LR.pickF rfl rfl) rfl rfl rfl ?_
          refine PWl.step (LR.pickF rfl rfl) rfl ?_
          refine PWl.nil ?_
          exact ⟨false, (), h, Sub.of rfl (.cons rfl rfl <| .nil) (.nil)⟩
    · rintro v4 _ h
      refine PWc.cond rfl (fun hc7 => ?_) (fun hc7 => ?_)
      · replace h := iT hc7 h
        refine PWc.seq ?_
        refine PWc.region ?_
        refine PWl.step (LR.assign rfl) rfl ?_
        refine PWl.nil ?_
        refine PWc.ret ?_
        replace h : _ = r0 := h
        subst h
        exact ⟨.inr rfl, _, .cons (.tmp rfl rfl) <| .nil, rfl⟩
      · replace h := iF hc7 h
        refine PWc.skip ?_
        refine PWc.seq ?_
        refine PWc.region ?_
        refine PWl.step (LR.assign rfl) rfl ?_
        refine PWl.nil ?_
        refine PWc.ret ?_
        replace h : _ = r0 := h
        subst h
        exact ⟨.inr rfl, _, .cons (.tmp rfl rfl) <| .nil, rfl⟩

theorem r07_Put_ok (l1 : List TDot) (d2 : TDot) (r0 : List TDot) (h : (r07_Put l1 d2).wp (· = r0)) : PRow Try.prog 124 [.d (.sl (List.map TDot.e l1)), .agg (List.map .d (TDot.e d2))] 70 2 (List.map TDot.e r0) := by
  refine PRow.intro (sl := [(0, _), (1, _)]) Try.func124 rfl Try.ntmps124 rfl rfl ?_
  intro ctx hK
  refine PWc.seq ?_
  refine PWc.region ?_
  refine PWl.step (LR.box rfl rfl rfl rfl) rfl ?_
  refine PWl.step (LR.assignNilRow 70 2 rfl) rfl ?_
  refine PWl.nil ?_
  refine PWc.seq ?_
  refine PWc.region ?_
  refine PWl.step (LR.assignNilRow 70 2 rfl) rfl ?_
  refine PWl.nil ?_
  refine PWc.seq ?_
  refine PWc.seq ?_
  refine PWc.region ?_
  refine PWl.step (LR.assign rfl) rfl ?_
  refine PWl.nil ?_
  refine PWc.jn (iBind h) (fun (out3 : List TDot) (_ : Unit) => ⟨53, [(0, .d (.sl (List.map TDot.e l1))), (3, .ref 3 0), (5, .row 5 (List.length out3))], [(3, .cells 70 [.d (.v (.int .u16 d2.dev)), .d (.v (.int .u64 d2.n))]), (5, .row 70 2 (List.map TDot.e out3))]⟩) (fun h => ?_) ?_
  · refine PWc.block ?_
    refine PWc.loopM (fun (⟨i26, out27⟩ : Int × List TDot) (_ : Unit) => ⟨53, [(0, .d (.sl (List.map TDot.e l1))), (3, .ref 3 0), (5, .row 5 (List.length out27)), (6, .d (.v (.int .i64 i26)))], [(3, .cells 70 [.d (.v (.int .u16 d2.dev)), .d (.v (.int .u64 d2.n))]), (5, .row 70 2 (List.map TDot.e out27))]⟩) () h (Sub.of rfl (.cons rfl rfl <| .cons rfl rfl <| .cons rfl rfl <| .cons rfl rfl <| .nil) (.cons rfl rfl <| .cons rfl rfl <| .nil)) ?_
    rintro N ⟨i26, out27⟩ _ h
    refine PWc.seq ?_
    refine PWc.seq ?_
    refine PWc.region ?_
    refine PWl.step (LR.move rfl) rfl ?_
    refine PWl.step (LR.move rfl) rfl ?_
    refine PWl.step (LR.lenMap (enc := TDot.e) (L := l1) Try.underlying61 rfl) rfl ?_
    refine PWl.step (LR.lss rfl rfl) rfl ?_
    refine PWl.nil ?_
    refine PWc.cond rfl (fun hc28 => ?_) (fun hc28 => ?_)
    · replace h := iT hc28 h
      refine PWc.skip ?_
      refine PWc.seq ?_
      refine PWc.jn (iBind h) (fun (out29 : List TDot) (_ : Unit) => ⟨53, [(0, .d (.sl (List.map TDot.e l1))), (3, .ref 3 0), (5, .row 5 (List.length out29)), (6, .d (.v (.int .i64 i26)))], [(3, .cells 70 [.d (.v (.int .u16 d2.dev)), .d (.v (.int .u64 d2.n))]), (5, .row 70 2 (List.map TDot.e out29))]⟩) (fun h => ?_) ?_
      · refine PWc.block ?_
        refine PWc.seq ?_
        refine PWc.regionD (by kernel_rfl) (by kernel_rfl) ?_
        refine PQl.step (fun _ he ho => LR.move (he rfl rfl)) rfl ?_
        refine PQl.step (fun _ he ho => LR.move (he rfl rfl)) rfl ?_
        replace h := iIdx h
        obtain ⟨x30, hy31, h⟩ := h
        refine PQl.step (fun _ he ho => LR.idxT (enc := TDot.e) (L := l1) (y := x30) Try.underlying61 Try.sizeOf70 (he rfl rfl) (he rfl rfl) hy31 (fun _ => rfl)) rfl ?_
        refine PQl.step (fun _ he ho => LR.loadEpAgg (ys := [_, _]) Try.isAgg70 Try.sizeOf70 (he rfl rfl) rfl rfl) rfl ?_
        refine PQl.step (fun _ he ho => LR.loadRefAgg (ps := [_, _]) Try.isAgg70 Try.sizeOf70 (he rfl rfl) (ho rfl) rfl rfl) rfl ?_
        replace h := iDet h
        obtain ⟨v32, hy33, h⟩ := h
        refine PQl.step (fun _ he ho => LR.callN (r07_Cmp_ok x30 d2 v32 hy33) (he rfl rfl) Try.call142 (evsE he rfl rfl) rfl rfl rfl) rfl ?_
        refine PQl.step (fun _ he ho => LR.lss (he rfl rfl) (he rfl rfl)) rfl ?_
        refine PQl.nil ?_
        refine PWc.cond rfl (fun hc34 => ?_) (fun hc34 => ?_)
        · replace h := iT hc34 h
          refine PWc.region ?_
          refine PWl.step (LR.move rfl) rfl ?_
          refine PWl.step (LR.move rfl) rfl ?_
          refine PWl.step (LR.move rfl) rfl ?_
          replace h := iIdx h
          obtain ⟨x35, hy36, h⟩ := h
          refine PWl.step (LR.idxT (enc := TDot.e) (L := l1) (y := x35) Try.underlying61 Try.sizeOf70 rfl rfl hy36 (fun _ => rfl)) rfl ?_
          refine PWl.step (LR.loadEpAgg (ys := [_, _]) Try.isAgg70 Try.sizeOf70 rfl rfl rfl) rfl ?_
          refine PWl.step (LR.buildSliceD [.tmp 25] elem61 rfl rfl (.cons rfl rfl rfl <| .nil) (by decide) (by decide)) rfl ?_
          refine PWl.re (tl := [(0, _), (3, _), (5, _), (6, _), (21, _), (26, _)]) (to := [(3, _), (5, _)]) rfl (.cons rfl rfl <| .cons rfl rfl <| .cons rfl rfl <| .cons rfl rfl <| .cons rfl rfl <| .cons rfl rfl <| .nil) (.cons rfl rfl <| .cons rfl rfl <| .nil) ?_
          replace h := iNeed h
          obtain ⟨hy37, h⟩ := h
          refine PWl.step (LR.appT (enc := TDot.e) (L := out27) (R := [x35]) [5, 21] elem61 Try.underlying61 rfl rfl rfl (Src.slT (enc := TDot.e) (R := [x35]) rfl (fun _ => rfl)) (fun _ => rfl) hy37 rfl rfl) rfl ?_
          refine PWl.step (LR.assign rfl) rfl ?_
          refine PWl.nil ?_
          exact ⟨(out27 ++ [x35]), (), h, Sub.of rfl (.cons rfl rfl <| .cons rfl rfl <| .cons rfl rfl <| .cons rfl rfl <| .nil) (.cons rfl rfl <| .cons rfl rfl <| .nil)⟩
        · replace h := iF hc34 h
          refine PWc.skip ?_
          exact ⟨out27, (), h, Sub.of rfl (.cons rfl rfl <| .cons rfl rfl <| .cons rfl rfl <| .cons rfl rfl <| .nil) (.cons rfl rfl <| .cons rfl rfl <| .nil)⟩
      · rintro out29 _ h
        refine PWc.region ?_
        refine PWl.step (LR.move rfl) rfl ?_
        refine PWl.step (LR.addW rfl rfl) rfl ?_
        refine PWl.step (LR.assign rfl) rfl ?_
        refine PWl.nil ?_
        exact ⟨((IntKind.i64.wrap (i26 + 1)), out29), (), h, Sub.of rfl (.cons rfl rfl <| .cons rfl rfl <| .cons rfl rfl <| .cons rfl rfl <| .nil) (.cons rfl rfl <| .cons rfl rfl <| .nil)⟩
    · replace h := iF hc28 h
      refine PWc.exit ?_
      exact ⟨out27, (), h, Sub.of rfl (.cons rfl rfl <| .cons rfl rfl <| .cons rfl rfl <| .nil) (.cons rfl rfl <| .cons rfl rfl <| .nil)⟩
  · rintro out3 _ h
    refine PWc.seq ?_
    refine PWc.region ?_
    refine PWl.step (LR.move rfl) rfl ?_
    refine PWl.step (LR.loadRefAgg (ps := [_, _]) Try.isAgg70 Try.sizeOf70 rfl rfl rfl rfl) rfl ?_
    refine PWl.step (LR.buildSliceD [.tmp 29] elem61 rfl rfl (.cons rfl rfl rfl <| .nil) (by decide) (by decide)) rfl ?_
    replace h := iNeed h
    obtain ⟨hy38, h⟩ := h
    refine PWl.step (LR.appT (enc := TDot.e) (L := out3) (R := [d2]) [5, 28] elem61 Try.underlying61 rfl rfl rfl (Src.slT (enc := TDot.e) (R := [d2]) rfl (fun _ => rfl)) (fun _ => rfl) hy38 rfl rfl) rfl ?_
    refine PWl.step (LR.assign rfl) rfl ?_
    refine PWl.nil ?_
    refine PWc.seq ?_
    refine PWc.seq ?_
    refine PWc.region ?_
    refine PWl.step (LR.assign rfl) rfl ?_
    refine PWl.nil ?_
    refine PWc.jn (iBind h) (fun (out39 : List TDot) (_ : Unit) => ⟨53, [(5, .row 5 (List.length out39))], [(5, .row 70 2 (List.map TDot.e out39))]⟩) (fun h => ?_) ?_
    · refine PWc.block ?_
      refine PWc.loopM (fun (⟨i62, out63⟩ : Int × List TDot) (_ : Unit) => ⟨53, [(0, .d (.sl (List.map TDot.e l1))), (3, .ref 3 0), (5, .row 5 (List.length out63)), (7, .d (.v (.int .i64 i62)))], [(3, .cells 70 [.d (.v (.int .u16 d2.dev)), .d (.v (.int .u64 d2.n))]), (5, .row 70 2 (List.map TDot.e out63))]⟩) () h (Sub.of rfl (.cons rfl rfl <| .cons rfl rfl <| .cons rfl rfl <| .cons rfl rfl <| .nil) (.cons rfl rfl <| .cons rfl rfl <| .nil)) ?_
      rintro N ⟨i62, out63⟩ _ h
      refine PWc.seq ?_
      refine PWc.seq ?_
      refine PWc.region ?_
      refine PWl.step (LR.move rfl) rfl ?_
      refine PWl.step (LR.move rfl) rfl ?_
      refine PWl.step (LR.lenMap (enc := TDot.e) (L := l1) Try.underlying61 rfl) rfl ?_
      refine PWl.step (LR.lss rfl rfl) rfl ?_
      refine PWl.nil ?_
      refine PWc.cond rfl (fun hc64 => ?_) (fun hc64 => ?_)
      · replace h := iT hc64 h
        refine PWc.skip ?_
        refine PWc.seq ?_
        refine PWc.jn (iBind h) (fun (out65 : List TDot) (_ : Unit) => ⟨53, [(0, .d (.sl (List.map TDot.e l1))), (3, .ref 3 0), (5, .row 5 (List.length out65)), (7, .d (.v (.int .i64 i62)))], [(3, .cells 70 [.d (.v (.int .u16 d2.dev)), .d (.v (.int .u64 d2.n))]), (5, .row 70 2 (List.map TDot.e out65))]⟩) (fun h => ?_) ?_
        · refine PWc.block ?_
          refine PWc.seq ?_
          refine PWc.regionD (by kernel_rfl) (by kernel_rfl) ?_
          refine PQl.step (fun _ he ho => LR.move (he rfl rfl)) rfl ?_
          refine PQl.step (fun _ he ho => LR.move (he rfl rfl)) rfl ?_
          replace h := iIdx h
          obtain ⟨x66, hy67, h⟩ := h
          refine PQl.step (fun _ he ho => LR.idxT (enc := TDot.e) (L := l1) (y := x66) Try.underlying61 Try.sizeOf70 (he rfl rfl) (he rfl rfl) hy67 (fun _ => rfl)) rfl ?_
          refine PQl.step (fun _ he ho => LR.loadEpAgg (ys := [_, _]) Try.isAgg70 Try.sizeOf70 (he rfl rfl) rfl rfl) rfl ?_
          refine PQl.step (fun _ he ho => LR.loadRefAgg (ps := [_, _]) Try.isAgg70 Try.sizeOf70 (he rfl rfl) (ho rfl) rfl rfl) rfl ?_
          replace h := iDet h
          obtain ⟨v68, hy69, h⟩ := h
          refine PQl.step (fun _ he ho => LR.callN (r07_Cmp_ok x66 d2 v68 hy69) (he rfl rfl) Try.call142 (evsE he rfl rfl) rfl rfl rfl) rfl ?_
          refine PQl.step (fun _ he ho => LR.gtr (he rfl rfl) (he rfl rfl)) rfl ?_
          refine PQl.nil ?_
          refine PWc.cond rfl (fun hc70 => ?_) (fun hc70 => ?_)
          · replace h := iT hc70 h
            refine PWc.region ?_
            refine PWl.step (LR.move rfl) rfl ?_
            refine PWl.step (LR.move rfl) rfl ?_
            refine PWl.step (LR.move rfl) rfl ?_
            replace h := iIdx h
            obtain ⟨x71, hy72, h⟩ := h
            refine PWl.step (LR.idxT (enc := TDot.e) (L := l1) (y := x71) Try.underlying61 Try.sizeOf70 rfl rfl hy72 (fun _ => rfl)) rfl ?_
            refine PWl.step (LR.loadEpAgg (ys := [_, _]) Try.isAgg70 Try.sizeOf70 rfl rfl rfl) rfl ?_
            refine PWl.step (LR.buildSliceD [.tmp 49] elem61 rfl rfl (.cons rfl rfl rfl <| .nil) (by decide) (by decide)) rfl ?_
            refine PWl.re (tl := [(0, _), (3, _), (5, _), (7, _), (45, _), (50, _)]) (to := [(3, _), (5, _)]) rfl (.cons rfl rfl <| .cons rfl rfl <| .cons rfl rfl <| .cons rfl rfl <| .cons rfl rfl <| .cons rfl rfl <| .nil) (.cons rfl rfl <| .cons rfl rfl <| .nil) ?_
            replace h := iNeed h
            obtain ⟨hy73, h⟩ := h
            refine PWl.step (LR.appT (enc := TDot.e) (L := out63) (R := [x71]) [5, 45] elem61 Try.underlying61 rfl rfl rfl (Src.slT (enc := TDot.e) (R := [x71]) rfl (fun _ => rfl)) (fun _ => rfl) hy73 rfl rfl) rfl ?_
            refine PWl.step (LR.assign rfl) rfl ?_
            refine PWl.nil ?_
            exact ⟨(out63 ++ [x71]), (), h, Sub.of rfl (.cons rfl rfl <| .cons rfl rfl <| .cons rfl rfl <| .cons rfl rfl <| .nil) (.cons rfl rfl <| .cons rfl rfl <| .nil)⟩
          · replace h := iF hc70 h
            refine PWc.skip ?_
            exact ⟨out63, (), h, Sub.of rfl (.cons rfl rfl <| .cons rfl rfl <| .cons rfl rfl <| .cons rfl rfl <| .nil) (.cons rfl rfl <| .cons rfl rfl <| .nil)⟩
        · rintro out65 _ h
          refine PWc.region ?_
          refine PWl.step (LR.move rfl) rfl ?_
          refine PWl.step (LR.addW rfl rfl) rfl ?_
          refine PWl.step (LR.assign rfl) rfl ?_
          refine PWl.nil ?_
          exact ⟨((IntKind.i64.wrap (i62 + 1)), out65), (), h, Sub.of rfl (.cons rfl rfl <| .cons rfl rfl <| .cons rfl rfl <| .cons rfl rfl <| .nil) (.cons rfl rfl <| .cons rfl rfl <| .nil)⟩
      · replace h := iF hc64 h
        refine PWc.exit ?_
        exact ⟨out63, (), h, Sub.of rfl (.cons rfl rfl <| .nil) (.cons rfl rfl <| .nil)⟩
    · rintro out39 _ h
      refine PWc.seq ?_
      refine PWc.region ?_
      refine PWl.step (LR.move rfl) rfl ?_
      refine PWl.step (LR.assign rfl) rfl ?_
      refine PWl.nil ?_
      refine PWc.ret ?_
      replace h : _ = r0 := h
      subst h
      exact ⟨.inr rfl, 4, rfl, .inr ⟨5, _, rfl, (by simp), rfl⟩⟩

theorem r08_devs_ok (a1 : List TDot) (b2 : List TDot) (r0 : List TDot) (h : (r08_devs a1 b2).wp (· = r0)) : PFun Try.prog 101 [.d (.sl (List.map TDot.e a1)), .d (.sl (List.map TDot.e b2))] (.d (.sl (List.map TDot.e r0))) := by
  refine PFun.intro (sl := [(0, _), (1, _)]) Try.func101 rfl Try.ntmps101 rfl rfl ?_
  intro ctx hK
  refine PWc.seq ?_
  refine PWc.region ?_
  refine PWl.step (LR.assignNilRow 70 2 rfl) rfl ?_
  refine PWl.nil ?_
  refine PWc.seq ?_
  refine PWc.region ?_
  refine PWl.step (LR.assignNilRow 70 2 rfl) rfl ?_
  refine PWl.nil ?_
  refine PWc.seq ?_
  refine PWc.region ?_
  refine PWl.step (LR.buildSlice [] elem61 rfl rfl (.nil) (by decide) (by decide) rfl) rfl ?_
  refine PWl.step (LR.move rfl) rfl ?_
  replace h := iNeed h
  obtain ⟨hy3, h⟩ := h
  refine PWl.step (LR.appT (enc := TDot.e) (L := ([] : List TDot)) (R := a1) [8] elem61 Try.underlying62 rfl (by first | (simp; done) | (simp; omega)) rfl (Src.slT (enc := TDot.e) (R := a1) rfl (fun _ => rfl)) (fun _ => rfl) hy3 rfl rfl) rfl ?_
  refine PWl.step (LR.move rfl) rfl ?_
  replace h := iNeed h
  obtain ⟨hy4, h⟩ := h
  refine PWl.step (LR.appT (enc := TDot.e) (L := (([] : List TDot) ++ a1)) (R := b2) [10] elem61 Try.underlying62 rfl rfl rfl (Src.slT (enc := TDot.e) (R := b2) rfl (fun _ => rfl)) (fun _ => rfl) hy4 rfl rfl) rfl ?_
  refine PWl.step (LR.assign rfl) rfl ?_
  refine PWl.nil ?_
  refine PWc.seq ?_
  refine PWc.seq ?_
  refine PWc.region ?_
  refine PWl.step (LR.assign rfl) rfl ?_
  refine PWl.nil ?_
  refine PWc.jn (iBind h) (fun (out5 : List TDot) (_ : Unit) => ⟨33, [(5, .d (.sl (List.map TDot.e out5)))], []⟩) (fun h => ?_) ?_
  · refine PWc.block ?_
    refine PWc.loopM (fun (⟨out30, i31⟩ : List TDot × Int) (_ : Unit) => ⟨33, [(5, .d (.sl (List.map TDot.e out30))), (6, .row 8 ((List.length ((([] : List TDot) ++ a1) ++ b2)))), (7, .d (.v (.int .i64 i31)))], [(8, .row 70 2 (List.map TDot.e (((([] : List TDot) ++ a1) ++ b2))))]⟩) () h (Sub.trans (Sub.frz [5] hK rfl (by first | (simp; done) | (simp; omega)) (AllRow.get (.cons rfl <| .nil))) <| Sub.of rfl (.cons rfl rfl <| .cons rfl (by first | rfl | (simp; done) | (congr 1; first | (simp; done) | (simp; omega))) <| .cons rfl rfl <| .nil) (.cons rfl rfl <| .nil)) ?_
    rintro N ⟨out30, i31⟩ _ h
    refine PWc.seq ?_
    refine PWc.seq ?_
    refine PWc.region ?_
    refine PWl.step (LR.move rfl) rfl ?_
    refine PWl.step (LR.move rfl) rfl ?_
    refine PWl.step (LR.lenRow Try.underlying61 rfl) rfl ?_
    refine PWl.step (LR.lss rfl rfl) rfl ?_
    refine PWl.nil ?_
    refine PWc.cond rfl (fun hc32 => ?_) (fun hc32 => ?_)
    · replace h := iT hc32 h
      refine PWc.skip ?_
      refine PWc.seq ?_
      refine PWc.jn (iBind h) (fun (out33 : List TDot) (_ : Unit) => ⟨33, [(5, .d (.sl (List.map TDot.e out33))), (6, .row 8 ((List.length ((([] : List TDot) ++ a1) ++ b2)))), (7, .d (.v (.int .i64 i31)))], [(8, .row 70 2 (List.map TDot.e (((([] : List TDot) ++ a1) ++ b2))))]⟩) (fun h => ?_) ?_
      · refine PWc.block ?_
        refine PWc.seq ?_
        refine PWc.region ?_
        refine PWl.step (LR.move rfl) rfl ?_
        refine PWl.step (LR.move rfl) rfl ?_
        replace h := iIdx h
        obtain ⟨x34, hy35, h⟩ := h
        refine PWl.step (LR.idxRowT (L := ((([] : List TDot) ++ a1) ++ b2)) (y := x34) Try.underlying61 Try.sizeOf70 rfl (by first | (simp; done) | (simp; omega)) rfl hy35) rfl ?_
        refine PWl.step (LR.loadRpT (enc := TDot.e) (L := ((([] : List TDot) ++ a1) ++ b2)) (y := x34) Try.isAgg70 Try.sizeOf70 rfl rfl hy35.2) rfl ?_
        replace h := iDet h
        obtain ⟨v36, hy37, h⟩ := h
        refine PWl.step (LR.callN (r07_Good_ok x34 v36 hy37) rfl Try.call50 rfl rfl rfl rfl) rfl ?_
        refine PWl.nil ?_
        refine PWc.cond rfl (fun hc38 => ?_) (fun hc38 => ?_)
        · replace h := iT hc38 h
          refine PWc.region ?_
          refine PWl.step (LR.move rfl) rfl ?_
          refine PWl.step (LR.move rfl) rfl ?_
          refine PWl.step (LR.move rfl) rfl ?_
          replace h := iIdx h
          obtain ⟨x39, hy40, h⟩ := h
          refine PWl.step (LR.idxRowT (L := ((([] : List TDot) ++ a1) ++ b2)) (y := x39) Try.underlying61 Try.sizeOf70 rfl (by first | (simp; done) | (simp; omega)) rfl hy40) rfl ?_
          refine PWl.step (LR.fieldRp Try.underlying70 rfl Try.sizeOf46 (by decide) rfl rfl) rfl ?_
          refine PWl.step (LR.loadRpF (enc := TDot.e) (L := ((([] : List TDot) ++ a1) ++ b2)) (y := x39) Try.isAgg46 rfl rfl hy40.2 rfl) rfl ?_
          refine PWl.step (LR.build (ns := [_, _]) build70 rfl rfl rfl) rfl ?_
          replace h := iDet h
          obtain ⟨v41, hy42, h⟩ := h
          refine PWl.step (LR.rowN (r07_Put_ok out30 (⟨x39.dev, 1⟩ : TDot) v41 hy42) rfl Try.call124 rfl rfl rfl rfl) rfl ?_
          refine PWl.step (LR.assign rfl) rfl ?_
          refine PWl.nil ?_
          exact ⟨v41, (), h, Sub.trans (Sub.frz [5, 31] hK rfl (by simp) (AllRow.get (.cons rfl <| .cons rfl <| .nil))) <| Sub.of rfl (.cons rfl rfl <| .cons rfl (by first | rfl | (simp; done) | (congr 1; first | (simp; done) | (simp; omega))) <| .cons rfl rfl <| .nil) (.cons rfl rfl <| .nil)⟩
        · replace h := iF hc38 h
          refine PWc.skip ?_
          exact ⟨out30, (), h, Sub.of rfl (.cons rfl rfl <| .cons rfl (by first | rfl | (simp; done) | (congr 1; first | (simp; done) | (simp; omega))) <| .cons rfl rfl <| .nil) (.cons rfl rfl <| .nil)⟩
      · rintro out33 _ h
        refine PWc.region ?_
        refine PWl.step (LR.move rfl) rfl ?_
        refine PWl.step (LR.addW rfl rfl) rfl ?_
        refine PWl.step (LR.assign rfl) rfl ?_
        refine PWl.nil ?_
        exact ⟨(out33, (IntKind.i64.wrap (i31 + 1))), (), h, Sub.of rfl (.cons rfl rfl <| .cons rfl (by first | rfl | (simp; done) | (congr 1; first | (simp; done) | (simp; omega))) <| .cons rfl rfl <| .nil) (.cons rfl rfl <| .nil)⟩
    · replace h := iF hc32 h
      refine PWc.exit ?_
      exact ⟨out30, (), h, Sub.of rfl (.cons rfl rfl <| .nil) (.nil)⟩
  · rintro out5 _ h
    refine PWc.seq ?_
    refine PWc.region ?_
    refine PWl.step (LR.move rfl) rfl ?_
    refine PWl.step (LR.assign rfl) rfl ?_
    refine PWl.nil ?_
    refine PWc.ret ?_
    replace h : _ = r0 := h
    subst h
    exact ⟨.inr rfl, _, .cons (.tmp rfl rfl) <| .nil, rfl⟩

theorem r08_both_ok (a1 : List TDot) (b2 : List TDot) (greater3 : Bool) (r0 : List TDot) (h : (r08_both a1 b2 greater3).wp (· = r0)) : PRow Try.prog 97 [.d (.sl (List.map TDot.e a1)), .d (.sl (List.map TDot.e b2)), .d (.v (.bool greater3))] 70 2 (List.map TDot.e r0) := by
  refine PRow.intro (sl := [(0, _), (1, _), (2, _)]) Try.func97 rfl Try.ntmps97 rfl rfl ?_
  intro ctx hK
  refine PWc.seq ?_
  refine PWc.region ?_
  refine PWl.step (LR.assignNilRow 70 2 rfl) rfl ?_
  refine PWl.nil ?_
  refine PWc.seq ?_
  refine PWc.region ?_
  refine PWl.step (LR.assignNilRow 70 2 rfl) rfl ?_
  refine PWl.nil ?_
  refine PWc.seq ?_
  refine PWc.region ?_
  refine PWl.step (LR.move rfl) rfl ?_
  refine PWl.step (LR.move rfl) rfl ?_
  replace h := iDet h
  obtain ⟨v4, hy5, h⟩ := h
  refine PWl.step (LR.callN (r08_devs_ok a1 b2 v4 hy5) rfl Try.call101 rfl rfl rfl rfl) rfl ?_
  refine PWl.step (LR.assign rfl) rfl ?_
  refine PWl.nil ?_
  refine PWc.seq ?_
  refine PWc.seq ?_
  refine PWc.region ?_
  refine PWl.step (LR.assign rfl) rfl ?_
  refine PWl.nil ?_
  refine PWc.jn (iBind h) (fun (out6 : List TDot) (_ : Unit) => ⟨54, [(7, .row 7 (List.length out6))], [(7, .row 70 2 (List.map TDot.e out6))]⟩) (fun h => ?_) ?_
  · refine PWc.block ?_
    refine PWc.loopM (fun (⟨i41, out42⟩ : Int × List TDot) (_ : Unit) => ⟨54, [(0, .d (.sl (List.map TDot.e a1))), (1, .d (.sl (List.map TDot.e b2))), (2, .d (.v (.bool greater3))), (7, .row 7 (List.length out42)), (8, .d (.sl (List.map TDot.e v4))), (9, .d (.v (.int .i64 i41)))], [(7, .row 70 2 (List.map TDot.e out42))]⟩) () h (Sub.of rfl (.cons rfl rfl <| .cons rfl rfl <| .cons rfl rfl <| .cons rfl rfl <| .cons rfl rfl <| .cons rfl rfl <| .nil) (.cons rfl rfl <| .nil)) ?_
    rintro N ⟨i41, out42⟩ _ h
    refine PWc.seq ?_
    refine PWc.seq ?_
    refine PWc.region ?_
    refine PWl.step (LR.move rfl) rfl ?_
    refine PWl.step (LR.move rfl) rfl ?_
    refine PWl.step (LR.lenMap (enc := TDot.e) (L := v4) Try.underlying61 rfl) rfl ?_
    refine PWl.step (LR.lss rfl rfl) rfl ?_
    refine PWl.nil ?_
    refine PWc.cond rfl (fun hc43 => ?_) (fun hc43 => ?_)
    · replace h := iT hc43 h
      refine PWc.skip ?_
      refine PWc.seq ?_
      refine PWc.jn (iBind h) (fun (out44 : List TDot) (_ : Unit) => ⟨54, [(0, .d (.sl (List.map TDot.e a1))), (1, .d (.sl (List.map TDot.e b2))), (2, .d (.v (.bool greater3))), (7, .row 7 (List.length out44)), (8, .d (.sl (List.map TDot.e v4))), (9, .d (.v (.int .i64 i41)))], [(7, .row 70 2 (List.map TDot.e out44))]⟩) (fun h => ?_) ?_
      · refine PWc.block ?_
        refine PWc.seq ?_
        refine PWc.regionD (by kernel_rfl) (by kernel_rfl) ?_
        refine PQl.step (fun _ he ho => LR.move (he rfl rfl)) rfl ?_
        refine PQl.step (fun _ he ho => LR.move (he rfl rfl)) rfl ?_
        refine PQl.step (fun _ he ho => LR.move (he rfl rfl)) rfl ?_
        replace h := iIdx h
        obtain ⟨x45, hy46, h⟩ := h
        refine PQl.step (fun _ he ho => LR.idxT (enc := TDot.e) (L := v4) (y := x45) Try.underlying61 Try.sizeOf70 (he rfl rfl) (he rfl rfl) hy46 (fun _ => rfl)) rfl ?_
        refine PQl.step (fun _ he ho => LR.fieldEp Try.underlying70 rfl Try.sizeOf46 (by decide) rfl (he rfl rfl)) rfl ?_
        refine PQl.step (fun _ he ho => LR.loadEp Try.isAgg46 (he rfl rfl) rfl) rfl ?_
        replace h := iDet h
        obtain ⟨v47, hy48, h⟩ := h
        refine PQl.step (fun _ he ho => LR.callN (r08_Of_ok a1 x45.dev v47 hy48) (he rfl rfl) Try.call58 (evsE he rfl rfl) rfl rfl rfl) rfl ?_
        refine PQl.step (fun _ he ho => LR.move (he rfl rfl)) rfl ?_
        refine PQl.step (fun _ he ho => LR.move (he rfl rfl)) rfl ?_
        refine PQl.step (fun _ he ho => LR.move (he rfl rfl)) rfl ?_
        replace h := iIdx h
        obtain ⟨x49, hy50, h⟩ := h
        refine PQl.step (fun _ he ho => LR.idxT (enc := TDot.e) (L := v4) (y := x49) Try.underlying61 Try.sizeOf70 (he rfl rfl) (he rfl rfl) hy50 (fun _ => rfl)) rfl ?_
        refine PQl.step (fun _ he ho => LR.fieldEp Try.underlying70 rfl Try.sizeOf46 (by decide) rfl (he rfl rfl)) rfl ?_
        refine PQl.step (fun _ he ho => LR.loadEp Try.isAgg46 (he rfl rfl) rfl) rfl ?_
        replace h := iDet h
        obtain ⟨v51, hy52, h⟩ := h
        refine PQl.step (fun _ he ho => LR.callN (r08_Of_ok b2 x49.dev v51 hy52) (he rfl rfl) Try.call58 (evsE he rfl rfl) rfl rfl rfl) rfl ?_
        refine PQl.step (fun _ he ho => LR.assign (he rfl rfl)) rfl ?_
        refine PQl.step (fun _ he ho => LR.assign (he rfl rfl)) rfl ?_
        refine PQl.nil ?_
        refine PWc.seq ?_
        refine PWc.seq ?_
        refine PWc.re (tl := [(0, _), (1, _), (2, _), (7, _), (8, _), (9, _), (10, _), (11, _)]) (to := [(7, _)]) rfl (.cons rfl rfl <| .cons rfl rfl <| .cons rfl rfl <| .cons rfl rfl <| .cons rfl rfl <| .cons rfl rfl <| .cons rfl rfl <| .cons rfl rfl <| .nil) (.cons rfl rfl <| .nil) ?_
        refine PWc.region ?_
        refine PWl.step (LR.move rfl) rfl ?_
        refine PWl.step (LR.move rfl) rfl ?_
        refine PWl.step (LR.move rfl) rfl ?_
        refine PWl.step (LR.lss rfl rfl) rfl ?_
        refine PWl.step (LR.eqlBool Try.underlying4 rfl rfl) rfl ?_
        refine PWl.nil ?_
        refine PWc.jn (iBind h) (fun (x53 : Int) (_ : Unit) => ⟨54, [(0, .d (.sl (List.map TDot.e a1))), (1, .d (.sl (List.map TDot.e b2))), (2, .d (.v (.bool greater3))), (7, .row 7 (List.length out42)), (8, .d (.sl (List.map TDot.e v4))), (9, .d (.v (.int .i64 i41))), (10, .d (.v (.int .u64 x53)))], [(7, .row 70 2 (List.map TDot.e out42))]⟩) (fun h => ?_) ?_
        · refine PWc.cond rfl (fun hc54 => ?_) (fun hc54 => ?_)
          · replace h := iT hc54 h
            refine PWc.region ?_
            refine PWl.step (LR.move rfl) rfl ?_
            refine PWl.step (LR.assign rfl) rfl ?_
            refine PWl.nil ?_
            exact ⟨v51, (), h, Sub.of rfl (.cons rfl rfl <| .cons rfl rfl <| .cons rfl rfl <| .cons rfl rfl <| .cons rfl rfl <| .cons rfl rfl <| .cons rfl rfl <| .nil) (.cons rfl rfl <| .nil)⟩
          · replace h := iF hc54 h
            refine PWc.skip ?_
            exact ⟨v47, (), h, Sub.of rfl (.cons rfl rfl <| .cons rfl rfl <| .cons rfl rfl <| .cons rfl rfl <| .cons rfl rfl <| .cons rfl rfl <| .cons rfl rfl <| .nil) (.cons rfl rfl <| .nil)⟩
        · rintro x53 _ h
          refine PWc.seq ?_
          refine PWc.region ?_
          refine PWl.step (LR.move rfl) rfl ?_
          refine PWl.step (LR.gtr rfl rfl) rfl ?_
          refine PWl.nil ?_
          refine PWc.cond rfl (fun hc55 => ?_) (fun hc55 => ?_)
          · replace h := iT hc55 h
            refine PWc.region ?_
            refine PWl.step (LR.move rfl) rfl ?_
            refine PWl.step (LR.move rfl) rfl ?_
            refine PWl.step (LR.move rfl) rfl ?_
            replace h := iIdx h
            obtain ⟨x56, hy57, h⟩ := h
            refine PWl.step (LR.idxT (enc := TDot.e) (L := v4) (y := x56) Try.underlying61 Try.sizeOf70 rfl rfl hy57 (fun _ => rfl)) rfl ?_
            refine PWl.step (LR.fieldEp Try.underlying70 rfl Try.sizeOf46 (by decide) rfl rfl) rfl ?_
            refine PWl.step (LR.loadEp Try.isAgg46 rfl rfl) rfl ?_
            refine PWl.step (LR.move rfl) rfl ?_
            refine PWl.step (LR.build (ns := [_, _]) build70 rfl rfl rfl) rfl ?_
            refine PWl.step (LR.buildSliceD [.tmp 50] elem62 rfl rfl (.cons rfl rfl rfl <| .nil) (by decide) (by decide)) rfl ?_
            replace h := iNeed h
            obtain ⟨hy58, h⟩ := h
            refine PWl.step (LR.appT (enc := TDot.e) (L := out42) (R := [(⟨x56.dev, x53⟩ : TDot)]) [7, 43] elem62 Try.underlying62 rfl rfl rfl (Src.slT (enc := TDot.e) (R := [(⟨x56.dev, x53⟩ : TDot)]) rfl (fun _ => rfl)) (fun _ => rfl) hy58 rfl rfl) rfl ?_
            refine PWl.step (LR.assign rfl) rfl ?_
            refine PWl.nil ?_
            exact ⟨(out42 ++ [(⟨x56.dev, x53⟩ : TDot)]), (), h, Sub.of rfl (.cons rfl rfl <| .cons rfl rfl <| .cons rfl rfl <| .cons rfl rfl <| .cons rfl rfl <| .cons rfl rfl <| .nil) (.cons rfl rfl <| .nil)⟩
          · replace h := iF hc55 h
            refine PWc.skip ?_
            exact ⟨out42, (), h, Sub.of rfl (.cons rfl rfl <| .cons rfl rfl <| .cons rfl rfl <| .cons rfl rfl <| .cons rfl rfl <| .cons rfl rfl <| .nil) (.cons rfl rfl <| .nil)⟩
      · rintro out44 _ h
        refine PWc.region ?_
        refine PWl.step (LR.move rfl) rfl ?_
        refine PWl.step (LR.addW rfl rfl) rfl ?_
        refine PWl.step (LR.assign rfl) rfl ?_
        refine PWl.nil ?_
        exact ⟨((IntKind.i64.wrap (i41 + 1)), out44), (), h, Sub.of rfl (.cons rfl rfl <| .cons rfl rfl <| .cons rfl rfl <| .cons rfl rfl <| .cons rfl rfl <| .cons rfl rfl <| .nil) (.cons rfl rfl <| .nil)⟩
    · replace h := iF hc43 h
      refine PWc.exit ?_
      exact ⟨out42, (), h, Sub.of rfl (.cons rfl rfl <| .nil) (.cons rfl rfl <| .nil)⟩
  · rintro out6 _ h
    refine PWc.seq ?_
    refine PWc.region ?_
    refine PWl.step (LR.move rfl) rfl ?_
    refine PWl.step (LR.assign rfl) rfl ?_
    refine PWl.nil ?_
    refine PWc.ret ?_
    replace h : _ = r0 := h
    subst h
    exact ⟨.inr rfl, 6, rfl, .inr ⟨7, _, rfl, (by simp), rfl⟩⟩
end Go.Proofs

/- Walks: written by program. -/
import Derived.Test.YtdipflebhoodkaaRFc
import Derived.Test.YtdipflebhoodkaaRSh
import Derived.Test.YtdipflebhoodkaaRSx
import Derived.Test.YtdipflebhoodkaaDr
import Derived.Test.YtdipflebhoodkaaRW1
namespace Go.Proofs
open Go.Ep
set_option maxHeartbeats 1000000
set_option maxRecDepth 100000
set_option linter.unusedVariables false
set_option linter.unusedSimpArgs false


theorem runs_First_ok (l1 : List TRun) (r0 : Int) (h : (runs_First l1).wp (· = r0)) : PFun Try.prog 70 [.d (.sl (List.map TRun.e l1))] (.d (.v (.int .u64 r0))) := by
  refine PFun.intro (sl := [(0, _)]) Try.func70 rfl Try.ntmps70 rfl rfl ?_
  intro ctx hK
  refine PWc.seq ?_
  refine PWc.region ?_
  refine PWl.step (LR.assign rfl) rfl ?_
  refine PWl.nil ?_
  refine PWc.seq ?_
  refine PWc.seq ?_
  refine PWc.region ?_
  refine PWl.step (LR.move rfl) rfl ?_
  replace h := iDet h
  obtain ⟨v2, hy3, h⟩ := h
  refine PWl.step (LR.rowN (runs_Norm_ok l1 v2 hy3) rfl Try.call62 rfl rfl rfl rfl) rfl ?_
  refine PWl.step (LR.assign rfl) rfl ?_
  refine PWl.nil ?_
  refine PWc.seq ?_
  refine PWc.jn (iBind h) (fun (v4 : Bool) (_ : Unit) => ⟨20, [(0, .row 4 (List.length v2)), (14, .d (.v (.bool v4)))], [(4, .row 40 2 (List.map TRun.e v2))]⟩) (fun h => ?_) ?_
  · refine PWc.region ?_
    refine PWl.step (LR.move rfl) rfl ?_
    refine PWl.step (LR.lenRow Try.underlying29 rfl) rfl ?_
    refine PWl.step (LR.gtr rfl rfl) rfl ?_
    refine PWl.step (LR.move rfl) rfl ?_
    refine PWl.split (d := 8) rfl (fun hg5 => ?_) (fun hg5 => ?_)
    · replace h := iT hg5 h
      refine PWl.guardT (LR.move rfl) rfl rfl rfl ?_
      replace h := iIdx h
      obtain ⟨x6, hy7, h⟩ := h
      refine PWl.guardT (LR.idxRowT (L := v2) (y := x6) Try.underlying29 Try.sizeOf40 rfl rfl rfl hy7) rfl rfl rfl ?_
      refine PWl.guardT (LR.fieldRp Try.underlying40 rfl Try.sizeOf34 (by decide) rfl rfl) rfl rfl rfl ?_
      refine PWl.guardT (LR.loadRpF (enc := TRun.e) (L := v2) (y := x6) Try.isAgg34 rfl rfl hy7.2 rfl) rfl rfl rfl ?_
      refine PWl.guardT (LR.eql rfl rfl) rfl rfl rfl ?_
      refine PWl.step (LR.pickT rfl rfl) rfl ?_
      refine PWl.nil ?_
      exact ⟨(decide (x6.lo = 1)), (), h, Sub.of rfl (.cons rfl rfl <| .cons rfl rfl <| .nil) (.cons rfl rfl <| .nil)⟩
    · replace h := iF hg5 h
      refine PWl.guardF rfl rfl rfl (by decide) ?_
      refine PWl.guardF rfl rfl rfl (by decide) ?_
      refine PWl.guardF rfl rfl rfl (by decide) ?_
      refine PWl.guardF rfl rfl rfl (by decide) ?_
      refine PWl.guardF rfl rfl rfl (by decide) ?_
      refine PWl.step (LR.pickF rfl rfl) rfl ?_
      refine PWl.nil ?_
      exact ⟨false, (), h, Sub.of rfl (.cons rfl rfl <| .cons rfl rfl <| .nil) (.cons rfl rfl <| .nil)⟩
  · rintro v4 _ h
    refine PWc.cond rfl (fun hc8 => ?_) (fun hc8 => ?_)
    · replace h := iT hc8 h
      refine PWc.seq ?_
      refine PWc.region ?_
      refine PWl.step (LR.move rfl) rfl ?_
      replace h := iIdx h
      obtain ⟨x9, hy10, h⟩ := h
      refine PWl.step (LR.idxRowT (L := v2) (y := x9) Try.underlying29 Try.sizeOf40 rfl rfl rfl hy10) rfl ?_
      refine PWl.step (LR.fieldRp Try.underlying40 rfl Try.sizeOf34 (by decide) rfl rfl) rfl ?_
      refine PWl.step (LR.loadRpF (enc := TRun.e) (L := v2) (y := x9) Try.isAgg34 rfl rfl hy10.2 rfl) rfl ?_
      refine PWl.step (LR.addW rfl rfl) rfl ?_
      refine PWl.step (LR.assign rfl) rfl ?_
      refine PWl.nil ?_
      refine PWc.ret ?_
      replace h : _ = r0 := h
      subst h
      exact ⟨.inr rfl, _, .cons (.tmp rfl rfl) <| .nil, rfl⟩
    · replace h := iF hc8 h
      refine PWc.skip ?_
      refine PWc.seq ?_
      refine PWc.region ?_
      refine PWl.step (LR.assign rfl) rfl ?_
      refine PWl.nil ?_
      refine PWc.ret ?_
      replace h : _ = r0 := h
      subst h
      exact ⟨.inr rfl, _, .cons (.tmp rfl rfl) <| .nil, rfl⟩

theorem runs_Last_ok (l1 : List TRun) (r0 : Int) (h : (runs_Last l1).wp (· = r0)) : PFun Try.prog 72 [.d (.sl (List.map TRun.e l1))] (.d (.v (.int .u64 r0))) := by
  refine PFun.intro (sl := [(0, _)]) Try.func72 rfl Try.ntmps72 rfl rfl ?_
  intro ctx hK
  refine PWc.seq ?_
  refine PWc.region ?_
  refine PWl.step (LR.assign rfl) rfl ?_
  refine PWl.nil ?_
  refine PWc.seq ?_
  refine PWc.seq ?_
  refine PWc.region ?_
  refine PWl.step (LR.move rfl) rfl ?_
  replace h := iDet h
  obtain ⟨v2, hy3, h⟩ := h
  refine PWl.step (LR.rowN (runs_Norm_ok l1 v2 hy3) rfl Try.call62 rfl rfl rfl rfl) rfl ?_
  refine PWl.step (LR.assign rfl) rfl ?_
  refine PWl.nil ?_
  refine PWc.seq ?_
  refine PWc.region ?_
  refine PWl.step (LR.move rfl) rfl ?_
  refine PWl.step (LR.lenRow Try.underlying29 rfl) rfl ?_
  refine PWl.step (LR.gtr rfl rfl) rfl ?_
  refine PWl.nil ?_
  refine PWc.cond rfl (fun hc4 => ?_) (fun hc4 => ?_)
  · replace h := iT hc4 h
    refine PWc.seq ?_
    refine PWc.region ?_
    refine PWl.step (LR.move rfl) rfl ?_
    refine PWl.step (LR.move rfl) rfl ?_
    refine PWl.step (LR.lenRow Try.underlying29 rfl) rfl ?_
    refine PWl.step (LR.subW rfl rfl) rfl ?_
    replace h := iIdx h
    obtain ⟨x5, hy6, h⟩ := h
    refine PWl.step (LR.idxRowT (L := v2) (y := x5) Try.underlying29 Try.sizeOf40 rfl rfl rfl hy6) rfl ?_
    refine PWl.step (LR.fieldRp Try.underlying40 rfl Try.sizeOf34 (by decide) rfl rfl) rfl ?_
    refine PWl.step (LR.loadRpF (enc := TRun.e) (L := v2) (y := x5) Try.isAgg34 rfl rfl hy6.2 rfl) rfl ?_
    refine PWl.step (LR.assign rfl) rfl ?_
    refine PWl.nil ?_
    refine PWc.ret ?_
    replace h : _ = r0 := h
    subst h
    exact ⟨.inr rfl, _, .cons (.tmp rfl rfl) <| .nil, rfl⟩
  · replace h := iF hc4 h
    refine PWc.skip ?_
    refine PWc.seq ?_
    refine PWc.region ?_
    refine PWl.step (LR.assign rfl) rfl ?_
    refine PWl.nil ?_
    refine PWc.ret ?_
    replace h : _ = r0 := h
    subst h
    exact ⟨.inr rfl, _, .cons (.tmp rfl rfl) <| .nil, rfl⟩

theorem runs_Of_ok (nums1 : List Int) (r0 : List TRun) (h : (runs_Of nums1).wp (· = r0)) : PRow Try.prog 74 [.d (.sl (List.map (eK .u64) nums1))] 40 2 (List.map TRun.e r0) := by
  refine PRow.intro (sl := [(0, _)]) Try.func74 rfl Try.ntmps74 rfl rfl ?_
  intro ctx hK
  refine PWc.seq ?_
  refine PWc.region ?_
  refine PWl.step (LR.assignNilRow 40 2 rfl) rfl ?_
  refine PWl.nil ?_
  refine PWc.seq ?_
  refine PWc.region ?_
  refine PWl.step (LR.move rfl) rfl ?_
  refine PWl.step (LR.lenMap (enc := (eK .u64)) (L := nums1) Try.underlying76 rfl) rfl ?_
  replace h := iNeed h
  obtain ⟨hy2, h⟩ := h
  refine PWl.step (LR.make0 (n := Int.toNat (List.length nums1 : Int)) elem29 rfl rfl (by omega) (by omega) (by omega) rfl) rfl ?_
  refine PWl.step (LR.assign rfl) rfl ?_
  refine PWl.nil ?_
  refine PWc.seq ?_
  refine PWc.seq ?_
  refine PWc.region ?_
  refine PWl.step (LR.move rfl) rfl ?_
  refine PWl.step (LR.lenMap (enc := (eK .u64)) (L := nums1) Try.underlying76 rfl) rfl ?_
  refine PWl.step (LR.move rfl) rfl ?_
  refine PWl.nil ?_
  refine PWc.jn (iBind h) (fun (v3 : List TRun) (_ : Unit) => ⟨24, [(3, .row 8 (List.length v3))], [(8, .row 40 2 (List.map TRun.e v3))]⟩) (fun h => ?_) ?_
  · refine PWc.block ?_
    refine PWc.loopM (fun (⟨v14, v15⟩ : Int × List TRun) (_ : Unit) => ⟨24, [(3, .row 8 (List.length v15)), (9, .d (.sl (List.map (eK .u64) nums1))), (10, .d (.v (.int .i64 (List.length nums1 : Int)))), (11, .d (.v (.int .i64 v14)))], [(8, .row 40 2 (List.map TRun.e v15))]⟩) () h (Sub.of rfl (.cons rfl rfl <| .cons rfl rfl <| .cons rfl rfl <| .cons rfl rfl <| .nil) (.cons rfl rfl <| .nil)) ?_
    rintro N ⟨v14, v15⟩ _ h
    refine PWc.seq ?_
    refine PWc.region ?_
    refine PWl.step (LR.lss rfl rfl) rfl ?_
    refine PWl.nil ?_
    refine PWc.seq ?_
    refine PWc.cond rfl (fun hc16 => ?_) (fun hc16 => ?_)
    · replace h := iT hc16 h
      refine PWc.skip ?_
      refine PWc.seq ?_
      refine PWc.block ?_
      refine PWc.seq ?_
      refine PWc.region ?_
      replace h := iIdx h
      obtain ⟨x17, hy18, h⟩ := h
      refine PWl.step (LR.idxT (enc := (eK .u64)) (L := nums1) (y := x17) Try.underlying76 Try.sizeOf34 rfl rfl hy18 (fun _ => rfl)) rfl ?_
      refine PWl.step (LR.loadEp Try.isAgg34 rfl rfl) rfl ?_
      refine PWl.step (LR.assign rfl) rfl ?_
      refine PWl.nil ?_
      refine PWc.region ?_
      refine PWl.step (LR.move rfl) rfl ?_
      refine PWl.step (LR.move rfl) rfl ?_
      refine PWl.step (LR.move rfl) rfl ?_
      refine PWl.step (LR.build (ns := [_, _]) build40 rfl rfl rfl) rfl ?_
      refine PWl.step (LR.buildSliceD [.tmp 18] elem29 rfl rfl (.cons rfl rfl rfl <| .nil) (by decide) (by decide)) rfl ?_
      replace h := iNeed h
      obtain ⟨hy19, h⟩ := h
      refine PWl.step (LR.appT (enc := TRun.e) (L := v15) (R := [(⟨x17, x17⟩ : TRun)]) [3, 15] elem29 Try.underlying29 rfl rfl rfl (Src.slT (enc := TRun.e) (R := [(⟨x17, x17⟩ : TRun)]) rfl (fun _ => rfl)) (fun _ => rfl) hy19 rfl rfl) rfl ?_
      refine PWl.step (LR.assign rfl) rfl ?_
      refine PWl.nil ?_
      refine PWc.region ?_
      refine PWl.step (LR.addW rfl rfl) rfl ?_
      refine PWl.step (LR.move rfl) rfl ?_
      refine PWl.nil ?_
      exact ⟨((IntKind.i64.wrap (v14 + 1)), (v15 ++ [(⟨x17, x17⟩ : TRun)])), (), h, Sub.of rfl (.cons rfl rfl <| .cons rfl rfl <| .cons rfl rfl <| .cons rfl rfl <| .nil) (.cons rfl rfl <| .nil)⟩
    · replace h := iF hc16 h
      refine PWc.exit ?_
      exact ⟨v15, (), h, Sub.of rfl (.cons rfl rfl <| .nil) (.cons rfl rfl <| .nil)⟩
  · rintro v3 _ h
    refine PWc.seq ?_
    refine PWc.region ?_
    refine PWl.step (LR.move rfl) rfl ?_
    replace h := iDet h
    obtain ⟨v20, hy21, h⟩ := h
    refine PWl.frz [3, 22] hK (.cons rfl <| .cons rfl <| .nil) rfl (by simp) ?_
    refine PWl.step (LR.rowN (runs_Norm_ok v3 v20 hy21) rfl Try.call62 rfl rfl rfl rfl) rfl ?_
    refine PWl.step (LR.assign rfl) rfl ?_
    refine PWl.nil ?_
    refine PWc.ret ?_
    replace h : _ = r0 := h
    subst h
    exact ⟨.inr rfl, 2, rfl, .inr ⟨23, _, rfl, (by simp), rfl⟩⟩

theorem l06_works_ok  (r0 : Bool) (h : (l06_works ).wp (· = r0)) : PFun Try.prog 23 [] (.d (.v (.bool r0))) := by
  refine PFun.intro (sl := []) Try.func23 rfl Try.ntmps23 rfl rfl ?_
  intro ctx hK
  refine PWc.seq ?_
  refine PWc.region ?_
  refine PWl.step (LR.assign rfl) rfl ?_
  refine PWl.nil ?_
  refine PWc.seq ?_
  refine PWc.region ?_
  refine PWl.step (LR.buildSliceD [.const (.int .u64 5), .const (.int .u64 1), .const (.int .u64 2), .const (.int .u64 6)] elem76 rfl rfl (.cons rfl rfl rfl <| .cons rfl rfl rfl <| .cons rfl rfl rfl <| .cons rfl rfl rfl <| .nil) (by decide) (by decide)) rfl ?_
  replace h := iDet h
  obtain ⟨v1, hy2, h⟩ := h
  refine PWl.step (LR.rowN (runs_Of_ok ([5, 1, 2, 6]) v1 hy2) rfl Try.call74 rfl rfl rfl rfl) rfl ?_
  refine PWl.step (LR.assign rfl) rfl ?_
  refine PWl.nil ?_
  refine PWc.seq ?_
  refine PWc.jn (iBind h) (fun (v3 : Bool) (_ : Unit) => ⟨24, [(0, .d (.v (.bool v3)))], []⟩) (fun h => ?_) ?_
  · refine PWc.region ?_
    refine PWl.step (LR.move rfl) rfl ?_
    refine PWl.step (LR.build (ns := [_, _]) build40 rfl rfl rfl) rfl ?_
    refine PWl.step (LR.build (ns := [_, _]) build40 rfl rfl rfl) rfl ?_
    refine PWl.step (LR.buildSliceD [.tmp 5, .tmp 6] elem29 rfl rfl (.cons rfl rfl rfl <| .cons rfl rfl rfl <| .nil) (by decide) (by decide)) rfl ?_
    replace h := iDet h
    obtain ⟨v4, hy5, h⟩ := h
    refine PWl.frz [1, 3, 4] hK (.cons rfl <| .cons rfl <| .cons rfl <| .nil) rfl (by simp) ?_
    refine PWl.step (LR.callN (r06_Eq_ok v1 ([(⟨1, 2⟩ : TRun), (⟨5, 6⟩ : TRun)]) v4 hy5) rfl Try.call27 rfl rfl rfl rfl) rfl ?_
    refine PWl.step (LR.move rfl) rfl ?_
    refine PWl.split (d := 9) rfl (fun hg6 => ?_) (fun hg6 => ?_)
    · replace h := iT hg6 h
      refine PWl.guardT (LR.move rfl) rfl rfl rfl ?_
      replace h := iDet h
      obtain ⟨v7, hy8, h⟩ := h
      refine PWl.guardT (LR.callN (runs_First_ok v1 v7 hy8) rfl Try.call70 rfl rfl rfl rfl) rfl rfl rfl ?_
      refine PWl.guardT (LR.eql rfl rfl) rfl rfl rfl ?_
      refine PWl.step (LR.pickT rfl rfl) rfl ?_
      refine PWl.step (LR.move rfl) rfl ?_
      refine PWl.split (d := 14) rfl (fun hg9 => ?_) (fun hg9 => ?_)
      · replace h := iT hg9 h
        refine PWl.guardT (LR.move rfl) rfl rfl rfl ?_
        replace h := iDet h
        obtain ⟨v10, hy11, h⟩ := h
        refine PWl.guardT (LR.callN (runs_Last_ok v1 v10 hy11) rfl Try.call72 rfl rfl rfl rfl) rfl rfl rfl ?_
        refine PWl.guardT (LR.eql rfl rfl) rfl rfl rfl ?_
        refine PWl.step (LR.pickT rfl rfl) rfl ?_
        refine PWl.re (tl := [(0, _), (1, _), (18, _)]) (to := []) rfl (.cons rfl rfl <| .cons rfl rfl <| .cons rfl rfl <| .nil) (.nil) ?_
        refine PWl.step (LR.move rfl) rfl ?_
        refine PWl.split (d := 19) rfl (fun hg12 => ?_) (fun hg12 => ?_)
        · replace h := iT hg12 h
          refine PWl.guardT (LR.move rfl) rfl rfl rfl ?_
          replace h := iDet h
          obtain ⟨v13, hy14, h⟩ := h
          refine PWl.guardT (LR.callN (runs_Size_ok v1 v13 hy14) rfl Try.call69 rfl rfl rfl rfl) rfl rfl rfl ?_
          refine PWl.guardT (LR.eql rfl rfl) rfl rfl rfl ?_
          refine PWl.step (LR.pickT rfl rfl) rfl ?_
          refine PWl.step (LR.assign rfl) rfl ?_
          refine PWl.nil ?_
          exact ⟨(decide (v13 = 4)), (), h, Sub.of rfl (.cons rfl rfl <| .nil) (.nil)⟩
        · replace h := iF hg12 h
          refine PWl.guardF rfl rfl rfl (by decide) ?_
          refine PWl.guardF rfl rfl rfl (by decide) ?_
          refine PWl.guardF rfl rfl rfl (by decide) ?_
          refine PWl.step (LR.pickF rfl rfl) rfl ?_
          refine PWl.step (LR.assign rfl) rfl ?_
          refine PWl.nil ?_
          exact ⟨false, (), h, Sub.of rfl (.cons rfl rfl <| .nil) (.nil)⟩
      · replace h := iF hg9 h
        refine PWl.guardF rfl rfl rfl (by decide) ?_
        refine PWl.guardF rfl rfl rfl (by decide) ?_
        refine PWl.guardF rfl rfl rfl (by decide) ?_
        refine PWl.step (LR.pickF rfl rfl) rfl ?_
        refine PWl.re (tl := [(0, _), (1, _), (18, _)]) (to := []) rfl (.cons rfl rfl <| .cons rfl rfl <| .cons rfl rfl <| .nil) (.nil) ?_
        refine PWl.step (LR.move rfl) rfl ?_
        refine PWl.guardF rfl rfl rfl (by decide) ?_
        refine PWl.guardF rfl rfl rfl (by decide) ?_
        refine PWl.guardF rfl rfl rfl (by decide) ?_
        refine PWl.step (LR.pickF rfl rfl) rfl ?_
        refine PWl.step (LR.assign rfl) rfl ?_
        refine PWl.nil ?_
        exact ⟨false, (), h, Sub.of rfl (.cons rfl rfl <| .nil) (.nil)⟩
    · replace h := iF hg6 h
      refine PWl.guardF rfl rfl rfl (by decide) ?_
      refine PWl.guardF rfl rfl rfl (by decide) ?_
      refine PWl.guardF rfl rfl rfl (by decide) ?_
      refine PWl.step (LR.pickF rfl rfl) rfl ?_
      refine PWl.step (LR.move rfl) rfl ?_
      refine PWl.guardF rfl rfl rfl (by decide) ?_
      refine PWl.guardF rfl rfl rfl (by decide) ?_
      refine PWl.guardF rfl rfl rfl (by decide) ?_
      refine PWl.step (LR.pickF rfl rfl) rfl ?_
      refine PWl.step (LR.move rfl) rfl ?_
      refine PWl.re (tl := [(0, _), (1, _), (19, _)]) (to := []) rfl (.cons rfl rfl <| .cons rfl rfl <| .cons rfl rfl <| .nil) (.nil) ?_
      refine PWl.guardF rfl rfl rfl (by decide) ?_
      refine PWl.guardF rfl rfl rfl (by decide) ?_
      refine PWl.guardF rfl rfl rfl (by decide) ?_
      refine PWl.step (LR.pickF rfl rfl) rfl ?_
      refine PWl.step (LR.assign rfl) rfl ?_
      refine PWl.nil ?_
      exact ⟨false, (), h, Sub.of rfl (.cons rfl rfl <| .nil) (.nil)⟩
  · rintro v3 _ h
    refine PWc.ret ?_
    replace h : _ = r0 := h
    subst h
    exact ⟨.inr rfl, _, .cons (.tmp rfl rfl) <| .nil, rfl⟩

theorem r06_may_ok (x1 : TRun) (r0 : Bool) (h : (r06_may x1).wp (· = r0)) : PFun Try.prog 90 [.agg (List.map .d (TRun.e x1))] (.d (.v (.bool r0))) := by
  refine PFun.intro (sl := [(0, _)]) Try.func90 rfl Try.ntmps90 rfl rfl ?_
  intro ctx hK
  refine PWc.seq ?_
  refine PWc.region ?_
  refine PWl.step (LR.box rfl rfl rfl rfl) rfl ?_
  refine PWl.step (LR.assign rfl) rfl ?_
  refine PWl.nil ?_
  refine PWc.seq ?_
  refine PWc.jn (iBind h) (fun (v2 : Bool) (_ : Unit) => ⟨18, [(2, .d (.v (.bool v2)))], []⟩) (fun h => ?_) ?_
  · refine PWc.region ?_
    refine PWl.step (LR.fieldRef Try.underlying40 rfl Try.sizeOf34 (by decide) rfl rfl) rfl ?_
    refine PWl.step (LR.loadRef Try.isAgg34 rfl rfl rfl) rfl ?_
    refine PWl.step (LR.geq rfl rfl) rfl ?_
    refine PWl.step (LR.move rfl) rfl ?_
    refine PWl.split (d := 6) rfl (fun hg3 => ?_) (fun hg3 => ?_)
    · replace h := iT hg3 h
      refine PWl.guardT (LR.fieldRef Try.underlying40 rfl Try.sizeOf34 (by decide) rfl rfl) rfl rfl rfl ?_
      refine PWl.guardT (LR.loadRef Try.isAgg34 rfl rfl rfl) rfl rfl rfl ?_
      refine PWl.guardT (LR.fieldRef Try.underlying40 rfl Try.sizeOf34 (by decide) rfl rfl) rfl rfl rfl ?_
      refine PWl.guardT (LR.loadRef Try.isAgg34 rfl rfl rfl) rfl rfl rfl ?_
      refine PWl.guardT (LR.leq rfl rfl) rfl rfl rfl ?_
      refine PWl.step (LR.pickT rfl rfl) rfl ?_
      refine PWl.step (LR.move rfl) rfl ?_
      refine PWl.split (d := 13) rfl (fun hg4 => ?_) (fun hg4 => ?_)
      · replace h := iT hg4 h
        refine PWl.guardT (LR.fieldRef Try.underlying40 rfl Try.sizeOf34 (by decide) rfl rfl) rfl rfl rfl ?_
        refine PWl.guardT (LR.loadRef Try.isAgg34 rfl rfl rfl) rfl rfl rfl ?_
        refine PWl.guardT (LR.leq rfl rfl) rfl rfl rfl ?_
        refine PWl.step (LR.pickT rfl rfl) rfl ?_
        refine PWl.step (LR.assign rfl) rfl ?_
        refine PWl.nil ?_
        exact ⟨(decide (x1.hi ≤ 281474976710655)), (), h, Sub.of rfl (.cons rfl rfl <| .nil) (.nil)⟩
      · replace h := iF hg4 h
        refine PWl.guardF rfl rfl rfl (by decide) ?_
        refine PWl.guardF rfl rfl rfl (by decide) ?_
        refine PWl.guardF rfl rfl rfl (by decide) ?_
        refine PWl.step (LR.pickF rfl rfl) rfl ?_
        refine PWl.step (LR.assign rfl) rfl ?_
        refine PWl.nil ?_
        exact ⟨false, (), h, Sub.of rfl (.cons rfl rfl <| .nil) (.nil)⟩
    · replace h := iF hg3 h
      refine PWl.guardF rfl rfl rfl (by decide) ?_
      refine PWl.guardF rfl rfl rfl (by decide) ?_
      refine PWl.guardF rfl rfl rfl (by decide) ?_
      refine PWl.guardF rfl rfl rfl (by decide) ?_
      refine PWl.guardF rfl rfl rfl (by decide) ?_
      refine PWl.step (LR.pickF rfl rfl) rfl ?_
      refine PWl.step (LR.move rfl) rfl ?_
      refine PWl.guardF rfl rfl rfl (by decide) ?_
      refine PWl.guardF rfl rfl rfl (by decide) ?_
      refine PWl.guardF rfl rfl rfl (by decide) ?_
      refine PWl.step (LR.pickF rfl rfl) rfl ?_
      refine PWl.step (LR.assign rfl) rfl ?_
      refine PWl.nil ?_
      exact ⟨false, (), h, Sub.of rfl (.cons rfl rfl <| .nil) (.nil)⟩
  · rintro v2 _ h
    refine PWc.ret ?_
    replace h : _ = r0 := h
    subst h
    exact ⟨.inr rfl, _, .cons (.tmp rfl rfl) <| .nil, rfl⟩

theorem r06_Has_ok (l1 : List TRun) (n2 : Int) (r0 : Bool) (h : (r06_Has l1 n2).wp (· = r0)) : PFun Try.prog 26 [.d (.sl (List.map TRun.e l1)), .d (.v (.int .u64 n2))] (.d (.v (.bool r0))) := by
  refine PFun.intro (sl := [(0, _), (1, _)]) Try.func26 rfl Try.ntmps26 rfl rfl ?_
  intro ctx hK
  refine PWc.seq ?_
  refine PWc.region ?_
  refine PWl.step (LR.assign rfl) rfl ?_
  refine PWl.nil ?_
  refine PWc.seq ?_
  refine PWc.seq ?_
  refine PWc.region ?_
  refine PWl.step (LR.assign rfl) rfl ?_
  refine PWl.nil ?_
  refine PWc.jnX (iBind h) (fun (_ : Unit) (_ : Unit) => ⟨35, [], []⟩) (fun h => ?_) ?_
  · refine PWc.block ?_
    refine PWc.loopM (fun (i30 : Int) (_ : Unit) => ⟨35, [(0, .d (.sl (List.map TRun.e l1))), (1, .d (.v (.int .u64 n2))), (5, .d (.v (.int .i64 i30)))], []⟩) () h (Sub.of rfl (.cons rfl rfl <| .cons rfl rfl <| .cons rfl rfl <| .nil) (.nil)) ?_
    rintro N i30 _ h
    refine PWc.seq ?_
    refine PWc.seq ?_
    refine PWc.region ?_
    refine PWl.step (LR.move rfl) rfl ?_
    refine PWl.step (LR.move rfl) rfl ?_
    refine PWl.step (LR.lenMap (enc := TRun.e) (L := l1) Try.underlying29 rfl) rfl ?_
    refine PWl.step (LR.lss rfl rfl) rfl ?_
    refine PWl.nil ?_
    refine PWc.cond rfl (fun hc31 => ?_) (fun hc31 => ?_)
    · replace h := iT hc31 h
      refine PWc.skip ?_
      refine PWc.seq ?_
      refine PWc.block ?_
      refine PWc.seq ?_
      refine PWc.jn (iBind h) (fun (v32 : Bool) (_ : Unit) => ⟨35, [(0, .d (.sl (List.map TRun.e l1))), (1, .d (.v (.int .u64 n2))), (5, .d (.v (.int .i64 i30))), (34, .d (.v (.bool v32)))], []⟩) (fun h => ?_) ?_
      · refine PWc.region ?_
        refine PWl.step (LR.move rfl) rfl ?_
        refine PWl.step (LR.move rfl) rfl ?_
        replace h := iIdx h
        obtain ⟨x33, hy34, h⟩ := h
        refine PWl.step (LR.idxT (enc := TRun.e) (L := l1) (y := x33) Try.underlying29 Try.sizeOf40 rfl rfl hy34 (fun _ => rfl)) rfl ?_
        refine PWl.step (LR.loadEpAgg (ys := [_, _]) Try.isAgg40 Try.sizeOf40 rfl rfl rfl) rfl ?_
        replace h := iDet h
        obtain ⟨v35, hy36, h⟩ := h
        refine PWl.step (LR.callN (r06_may_ok x33 v35 hy36) rfl Try.call90 rfl rfl rfl rfl) rfl ?_
        refine PWl.step (LR.move rfl) rfl ?_
        refine PWl.split (d := 17) rfl (fun hg37 => ?_) (fun hg37 => ?_)
        · replace h := iT hg37 h
          refine PWl.guardT (LR.move rfl) rfl rfl rfl ?_
          refine PWl.guardT (LR.move rfl) rfl rfl rfl ?_
          replace h := iIdx h
          obtain ⟨x38, hy39, h⟩ := h
          refine PWl.guardT (LR.idxT (enc := TRun.e) (L := l1) (y := x38) Try.underlying29 Try.sizeOf40 rfl rfl hy39 (fun _ => rfl)) rfl rfl rfl ?_
          refine PWl.guardT (LR.fieldEp Try.underlying40 rfl Try.sizeOf34 (by decide) rfl rfl) rfl rfl rfl ?_
          refine PWl.guardT (LR.loadEp Try.isAgg34 rfl rfl) rfl rfl rfl ?_
          refine PWl.guardT (LR.move rfl) rfl rfl rfl ?_
          refine PWl.guardT (LR.leq rfl rfl) rfl rfl rfl ?_
          refine PWl.re (tl := [(0, _), (1, _), (5, _), (17, _), (18, _), (19, _), (20, _), (21, _), (22, _), (23, _), (24, _)]) (to := []) rfl (.cons rfl rfl <| .cons rfl rfl <| .cons rfl rfl <| .cons rfl rfl <| .cons rfl rfl <| .cons rfl rfl <| .cons rfl rfl <| .cons rfl rfl <| .cons rfl rfl <| .cons rfl rfl <| .cons rfl rfl <| .nil) (.nil) ?_
          refine PWl.step (LR.pickT rfl rfl) rfl ?_
          refine PWl.step (LR.move rfl) rfl ?_
          refine PWl.split (d := 26) rfl (fun hg40 => ?_) (fun hg40 => ?_)
          · replace h := iT hg40 h
            refine PWl.guardT (LR.move rfl) rfl rfl rfl ?_
            refine PWl.guardT (LR.move rfl) rfl rfl rfl ?_
            refine PWl.guardT (LR.move rfl) rfl rfl rfl ?_
            replace h := iIdx h
            obtain ⟨x41, hy42, h⟩ := h
            refine PWl.guardT (LR.idxT (enc := TRun.e) (L := l1) (y := x41) Try.underlying29 Try.sizeOf40 rfl rfl hy42 (fun _ => rfl)) rfl rfl rfl ?_
            refine PWl.guardT (LR.fieldEp Try.underlying40 rfl Try.sizeOf34 (by decide) rfl rfl) rfl rfl rfl ?_
            refine PWl.guardT (LR.loadEp Try.isAgg34 rfl rfl) rfl rfl rfl ?_
            refine PWl.guardT (LR.leq rfl rfl) rfl rfl rfl ?_
            refine PWl.step (LR.pickT rfl rfl) rfl ?_
            refine PWl.nil ?_
            exact ⟨(decide (n2 ≤ x41.hi)), (), h, Sub.of rfl (.cons rfl rfl <| .cons rfl rfl <| .cons rfl rfl <| .cons rfl rfl <| .nil) (.nil)⟩
          · replace h := iF hg40 h
            refine PWl.guardF rfl rfl rfl (by decide) ?_
            refine PWl.guardF rfl rfl rfl (by decide) ?_
            refine PWl.guardF rfl rfl rfl (by decide) ?_
            refine PWl.guardF rfl rfl rfl (by decide) ?_
            refine PWl.guardF rfl rfl rfl (by decide) ?_
            refine PWl.guardF rfl rfl rfl (by decide) ?_
            refine PWl.guardF rfl rfl rfl (by decide) ?_
            refine PWl.step (LR.pickF rfl rfl) rfl ?_
            refine PWl.nil ?_
            exact ⟨false, (), h, Sub.of rfl (.cons rfl rfl <| .cons rfl rfl <| .cons rfl rfl <| .cons rfl rfl <| .nil) (.nil)⟩
        · replace h := iF hg37 h
          refine PWl.guardF rfl rfl rfl (by decide) ?_
          refine PWl.guardF rfl rfl rfl (by decide) ?_
          refine PWl.guardF rfl rfl rfl (by decide) ?_
          refine PWl.guardF rfl rfl rfl (by decide) ?_
          refine PWl.guardF rfl rfl rfl (by decide) ?_
          refine PWl.guardF rfl rfl rfl (by decide) ?_
          refine PWl.guardF rfl rfl rfl (by decide) ?_
          refine PWl.re (tl := [(0, _), (1, _), (5, _), (17, _), (18, _), (19, _), (20, _), (21, _), (22, _), (23, _), (24, _)]) (to := []) rfl (.cons rfl rfl <| .cons rfl rfl <| .cons rfl rfl <| .cons rfl rfl <| .cons rfl rfl <| .cons rfl rfl <| .cons rfl rfl <| .cons rfl rfl <| .cons rfl rfl <| .cons rfl rfl <| .cons rfl rfl <| .nil) (.nil) ?_
          refine PWl.step (LR.pickF rfl rfl) rfl ?_
          refine PWl.step (LR.move rfl) rfl ?_
          refine PWl.guardF rfl rfl rfl (by decide) ?_
          refine PWl.guardF rfl rfl rfl (by decide) ?_
          refine PWl.guardF rfl rfl rfl (by decide) ?_
          refine PWl.guardF rfl rfl rfl (by decide) ?_
          refine PWl.guardF rfl rfl rfl (by decide) ?_
          refine PWl.guardF rfl rfl rfl (by decide) ?_
          refine PWl.guardF rfl rfl rfl (by decide) ?_
          refine PWl.step (LR.pickF rfl rfl) rfl ?_
          refine PWl.nil ?_
          exact ⟨false, (), h, Sub.of rfl (.cons rfl rfl <| .cons rfl rfl <| .cons rfl rfl <| .cons rfl rfl <| .nil) (.nil)⟩
      · rintro v32 _ h
        refine PWc.cond rfl (fun hc43 => ?_) (fun hc43 => ?_)
        · replace h := iT hc43 h
          refine PWc.seq ?_
          refine PWc.region ?_
          refine PWl.step (LR.assign rfl) rfl ?_
          refine PWl.nil ?_
          refine PWc.ret ?_
          replace h : _ = r0 := h
          subst h
          exact ⟨.inr rfl, _, .cons (.tmp rfl rfl) <| .nil, rfl⟩
        · replace h := iF hc43 h
          refine PWc.skip ?_
          refine PWc.region ?_
          refine PWl.step (LR.move rfl) rfl ?_
          refine PWl.step (LR.addW rfl rfl) rfl ?_
          refine PWl.step (LR.assign rfl) rfl ?_
          refine PWl.nil ?_
          exact ⟨(IntKind.i64.wrap (i30 + 1)), (), h, Sub.of rfl (.cons rfl rfl <| .cons rfl rfl <| .cons rfl rfl <| .nil) (.nil)⟩
    · replace h := iF hc31 h
      refine PWc.exit ?_
      exact ⟨(), (), h, Sub.of rfl (.nil) (.nil)⟩
  · rintro _ _ h
    refine PWc.seq ?_
    refine PWc.region ?_
    refine PWl.step (LR.assign rfl) rfl ?_
    refine PWl.nil ?_
    refine PWc.ret ?_
    replace h : _ = r0 := h
    subst h
    exact ⟨.inr rfl, _, .cons (.tmp rfl rfl) <| .nil, rfl⟩
end Go.Proofs

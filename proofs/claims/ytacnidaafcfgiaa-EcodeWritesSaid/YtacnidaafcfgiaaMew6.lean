/- Texts that the walks and laws lean on, side by side. -/
import Derived.Test.YtacnidaafcfgiaaMew2
import Derived.Test.YtacnidaafcfgiaaMew3
import Derived.Test.YtacnidaafcfgiaaMew4
import Derived.Test.YtacnidaafcfgiaaMew5
set_option linter.unusedVariables false
set_option linter.unusedSimpArgs false
namespace Go.Proofs
open Go.Ep
set_option maxHeartbeats 1000000
set_option maxRecDepth 100000
set_option linter.unusedVariables false
set_option linter.unusedSimpArgs false


theorem dcode_PutDot_o_ok (d1 : TDot) (row2 : List Int) (r0 : List Int) (h : (dcode_PutDot_o d1 row2).wp (· = r0)) : PObj Try.prog 26 [.ref 100 0, .agg (List.map .d (TDot.e d1))] [(100, .cells 47 [.row 101 (List.length row2)]), (101, .row 5 1 (List.map (eK .u8) row2))] [100] (.tup []) (fun _ : Unit => [(100, .cells 47 [.row 101 (List.length r0)]), (101, .row 5 1 (List.map (eK .u8) r0))]) := by
  refine PObj.intro (sl := [(0, _), (1, _)]) Try.func26 rfl Try.ntmps26 rfl rfl rfl ?_
  intro ctx hK pv
  refine PWc.seq ?_
  refine PWc.region ?_
  refine PWl.step (LR.box rfl rfl rfl rfl) rfl ?_
  refine PWl.nil ?_
  refine PWc.seq ?_
  refine PWc.region ?_
  refine PWl.step (LR.move rfl) rfl ?_
  refine PWl.step (LR.fieldRef Try.underlying38 rfl Try.sizeOf28 (by decide) rfl rfl) rfl ?_
  refine PWl.step (LR.loadRef Try.isAgg28 rfl rfl rfl) rfl ?_
  refine PWl.step (LR.convInt Try.underlying36 (by rw [Try.underlying28]; rfl) rfl rfl) rfl ?_
  replace h := iDet h
  obtain ⟨y3, hy4, h⟩ := h
  refine PWl.step (LR.callObj [(100, 100), (101, 101)] [] [100, 101] (pack_Writer_Num_o_ok (IntKind.u64.wrap d1.dev) row2 y3 hy4) hK rfl Try.call81 rfl (by first | rfl | (simp; done) | (simp [PV.nilD, PV.ren, rn]; omega)) (.cons (by first | rfl | (congr 1; first | (simp; done) | (simp; omega))) <| .cons (by first | rfl | (congr 1; first | (simp; done) | (simp; omega))) <| .nil) rfl rfl rfl rfl) rfl ?_
  refine PWl.nil ?_
  refine PWc.re (tl := [(0, _), (3, _)]) (to := [(3, _), (100, _), (101, _), (1100, _)]) rfl (.cons rfl rfl <| .cons rfl rfl <| .nil) (.cons rfl rfl <| .cons rfl rfl <| .cons rfl rfl <| .cons rfl rfl <| .nil) ?_
  refine PWc.region ?_
  refine PWl.step (LR.move rfl) rfl ?_
  refine PWl.step (LR.fieldRef Try.underlying38 rfl Try.sizeOf36 (by decide) rfl rfl) rfl ?_
  refine PWl.step (LR.loadRef Try.isAgg36 rfl rfl rfl) rfl ?_
  replace h := iDet h
  obtain ⟨y5, hy6, h⟩ := h
  refine PWl.step (LR.callObj [(100, 100), (101, 101)] [] [100, 101] (pack_Writer_Num_o_ok d1.n y3 y5 hy6) hK rfl Try.call81 rfl (by first | rfl | (simp; done) | (simp [PV.nilD, PV.ren, rn]; omega)) (.cons (by first | rfl | (congr 1; first | (simp; done) | (simp; omega))) <| .cons (by first | rfl | (congr 1; first | (simp; done) | (simp; omega))) <| .nil) rfl rfl rfl rfl) rfl ?_
  refine PWl.nil ?_
  replace h : _ = r0 := h
  subst h
  exact EndsO.mk () (.inl rfl) (Sub.of (tl := []) (to := [(100, _), (101, _), (1100, _)]) rfl (.nil) (.cons rfl (by first | rfl | (congr 1; congr 2; first | (simp; done) | (simp; omega))) <| .cons rfl rfl <| .cons rfl rfl <| .nil)) (.nil) rfl rfl

theorem dcode_PutDots_o_ok (l1 : List TDot) (row2 : List Int) (r0 : List Int) (h : (dcode_PutDots_o l1 row2).wp (· = r0)) : PObj Try.prog 27 [.ref 100 0, .d (.sl (List.map TDot.e l1))] [(100, .cells 47 [.row 101 (List.length row2)]), (101, .row 5 1 (List.map (eK .u8) row2))] [100] (.tup []) (fun _ : Unit => [(100, .cells 47 [.row 101 (List.length r0)]), (101, .row 5 1 (List.map (eK .u8) r0))]) := by
  refine PObj.intro (sl := [(0, _), (1, _)]) Try.func27 rfl Try.ntmps27 rfl rfl rfl ?_
  intro ctx hK pv
  refine PWc.seq ?_
  refine PWc.region ?_
  refine PWl.step (LR.assignNilRow 38 2 rfl) rfl ?_
  refine PWl.nil ?_
  refine PWc.seq ?_
  refine PWc.seq ?_
  refine PWc.region ?_
  refine PWl.step (LR.move rfl) rfl ?_
  refine PWl.step (LR.lenMap (enc := TDot.e) (L := l1) Try.underlying39 rfl) rfl ?_
  refine PWl.step (LR.move rfl) rfl ?_
  refine PWl.nil ?_
  refine PWc.jn (iBind h) (fun (some3 : List TDot) (_ : Unit) => ⟨39, [(0, .ref 100 0), (4, .row 4 (List.length some3))], [(4, .row 38 2 (List.map TDot.e some3)), (100, .cells 47 [.row 101 (List.length row2)]), (101, .row 5 1 (List.map (eK .u8) row2)), (1100, .pin 100 (pv 100).1 (pv 100).2)]⟩) (fun h => ?_) ?_
  · refine PWc.block ?_
    refine PWc.loopM (fun (⟨v22, some23⟩ : Int × List TDot) (_ : Unit) => ⟨39, [(0, .ref 100 0), (4, .row 4 (List.length some23)), (9, .d (.sl (List.map TDot.e l1))), (10, .d (.v (.int .i64 (List.length l1 : Int)))), (11, .d (.v (.int .i64 v22)))], [(4, .row 38 2 (List.map TDot.e some23)), (100, .cells 47 [.row 101 (List.length row2)]), (101, .row 5 1 (List.map (eK .u8) row2)), (1100, .pin 100 (pv 100).1 (pv 100).2)]⟩) () h (Sub.of rfl (.cons rfl rfl <| .cons rfl rfl <| .cons rfl rfl <| .cons rfl rfl <| .cons rfl rfl <| .nil) (.cons rfl rfl <| .cons rfl rfl <| .cons rfl rfl <| .cons rfl rfl <| .nil)) ?_
    rintro N ⟨v22, some23⟩ _ h
    refine PWc.seq ?_
    refine PWc.region ?_
    refine PWl.step (LR.lss rfl rfl) rfl ?_
    refine PWl.nil ?_
    refine PWc.seq ?_
    refine PWc.cond rfl (fun hc24 => ?_) (fun hc24 => ?_)
    · replace h := iT hc24 h
      refine PWc.skip ?_
      refine PWc.seq ?_
      refine PWc.jn (iBind h) (fun (some25 : List TDot) (_ : Unit) => ⟨39, [(0, .ref 100 0), (4, .row 4 (List.length some25)), (9, .d (.sl (List.map TDot.e l1))), (10, .d (.v (.int .i64 (List.length l1 : Int)))), (11, .d (.v (.int .i64 v22)))], [(4, .row 38 2 (List.map TDot.e some25)), (100, .cells 47 [.row 101 (List.length row2)]), (101, .row 5 1 (List.map (eK .u8) row2)), (1100, .pin 100 (pv 100).1 (pv 100).2)]⟩) (fun h => ?_) ?_
      · refine PWc.block ?_
        refine PWc.seq ?_
        refine PWc.region ?_
        replace h := iIdx h
        obtain ⟨x26, hy27, h⟩ := h
        refine PWl.step (LR.idxT (enc := TDot.e) (L := l1) (y := x26) Try.underlying39 Try.sizeOf38 rfl rfl hy27 (fun _ => rfl)) rfl ?_
        refine PWl.step (LR.loadEpAgg (ys := [_, _]) Try.isAgg38 Try.sizeOf38 rfl rfl rfl) rfl ?_
        refine PWl.step (LR.allocZ (cs := [_, _]) Try.zeroValue38 rfl rfl rfl rfl) rfl ?_
        refine PWl.step (LR.storeB (ns := [_, _]) Try.sizeOf38 rfl rfl rfl rfl rfl rfl rfl) rfl ?_
        refine PWl.nil ?_
        refine PWc.seq ?_
        refine PWc.region ?_
        refine PWl.step (LR.loadRefAgg (ps := [_, _]) Try.isAgg38 Try.sizeOf38 rfl rfl rfl rfl) rfl ?_
        replace h := iDet h
        obtain ⟨v28, hy29, h⟩ := h
        refine PWl.step (LR.callN (dot_Good_ok x26 v28 hy29) rfl Try.call82 rfl rfl rfl rfl) rfl ?_
        refine PWl.nil ?_
        refine PWc.cond rfl (fun hc30 => ?_) (fun hc30 => ?_)
        · replace h := iT hc30 h
          refine PWc.region ?_
          refine PWl.step (LR.move rfl) rfl ?_
          refine PWl.step (LR.loadRefAgg (ps := [_, _]) Try.isAgg38 Try.sizeOf38 rfl rfl rfl rfl) rfl ?_
          refine PWl.step (LR.buildSliceD [.tmp 18] elem39 rfl rfl (.cons rfl rfl rfl <| .nil) (by decide) (by decide)) rfl ?_
          replace h := iNeed h
          obtain ⟨hy31, h⟩ := h
          refine PWl.step (LR.appT (enc := TDot.e) (L := some23) (R := [x26]) [4, 17] elem39 Try.underlying39 rfl rfl rfl (Src.slT (enc := TDot.e) (R := [x26]) rfl (fun _ => rfl)) (fun _ => rfl) hy31 rfl rfl) rfl ?_
          refine PWl.step (LR.assign rfl) rfl ?_
          refine PWl.nil ?_
          exact ⟨(some23 ++ [x26]), (), h, Sub.of rfl (.cons rfl rfl <| .cons rfl rfl <| .cons rfl rfl <| .cons rfl rfl <| .cons rfl rfl <| .nil) (.cons rfl rfl <| .cons rfl rfl <| .cons rfl rfl <| .cons rfl rfl <| .nil)⟩
        · replace h := iF hc30 h
          refine PWc.skip ?_
          exact ⟨some23, (), h, Sub.of rfl (.cons rfl rfl <| .cons rfl rfl <| .cons rfl rfl <| .cons rfl rfl <| .cons rfl rfl <| .nil) (.cons rfl rfl <| .cons rfl rfl <| .cons rfl rfl <| .cons rfl rfl <| .nil)⟩
      · rintro some25 _ h
        refine PWc.region ?_
        refine PWl.step (LR.addW rfl rfl) rfl ?_
        refine PWl.step (LR.move rfl) rfl ?_
        refine PWl.nil ?_
        exact ⟨((IntKind.i64.wrap (v22 + 1)), some25), (), h, Sub.of rfl (.cons rfl rfl <| .cons rfl rfl <| .cons rfl rfl <| .cons rfl rfl <| .cons rfl rfl <| .nil) (.cons rfl rfl <| .cons rfl rfl <| .cons rfl rfl <| .cons rfl rfl <| .nil)⟩
    · replace h := iF hc24 h
      refine PWc.exit ?_
      exact ⟨some23, (), h, Sub.of rfl (.cons rfl rfl <| .cons rfl rfl <| .nil) (.cons rfl rfl <| .cons rfl rfl <| .cons rfl rfl <| .cons rfl rfl <| .nil)⟩
  · rintro some3 _ h
    refine PWc.seq ?_
    refine PWc.region ?_
    refine PWl.step (LR.move rfl) rfl ?_
    replace h := iDet h
    obtain ⟨v32, hy33, h⟩ := h
    refine PWl.frz [4, 22] hK (.cons rfl <| .cons rfl <| .nil) rfl (by simp) ?_
    refine PWl.step (LR.rowN (dot_Sort_ok some3 v32 hy33) rfl Try.call83 rfl rfl rfl rfl) rfl ?_
    refine PWl.step (LR.assign rfl) rfl ?_
    refine PWl.nil ?_
    refine PWc.seq ?_
    refine PWc.region ?_
    refine PWl.step (LR.move rfl) rfl ?_
    refine PWl.step (LR.move rfl) rfl ?_
    refine PWl.step (LR.lenRow Try.underlying39 rfl) rfl ?_
    refine PWl.step (LR.convInt Try.underlying36 (by rw [Try.underlying3]; rfl) rfl rfl) rfl ?_
    replace h := iDet h
    obtain ⟨y34, hy35, h⟩ := h
    refine PWl.step (LR.callObj [(100, 100), (101, 101)] [] [100, 101] (pack_Writer_Num_o_ok ((IntKind.u64.wrap ((List.length v32) : Int))) row2 y34 hy35) hK rfl Try.call81 rfl (by first | rfl | (simp; done) | (simp [PV.nilD, PV.ren, rn]; omega)) (.cons (by first | rfl | (congr 1; first | (simp; done) | (simp; omega))) <| .cons (by first | rfl | (congr 1; first | (simp; done) | (simp; omega))) <| .nil) rfl rfl rfl rfl) rfl ?_
    refine PWl.nil ?_
    refine PWc.seq ?_
    refine PWc.re (tl := [(0, _), (4, _)]) (to := [(23, _), (100, _), (101, _), (1100, _)]) rfl (.cons rfl rfl <| .cons rfl rfl <| .nil) (.cons rfl rfl <| .cons rfl rfl <| .cons rfl rfl <| .cons rfl rfl <| .nil) ?_
    refine PWc.region ?_
    refine PWl.step (LR.move rfl) rfl ?_
    refine PWl.step (LR.lenRow Try.underlying39 rfl) rfl ?_
    refine PWl.step (LR.move rfl) rfl ?_
    refine PWl.nil ?_
    refine PWc.block ?_
    refine PWc.loopM (fun (⟨v48, v49⟩ : Int × List Int) (_ : Unit) => ⟨39, [(0, .ref 100 0), (29, .row 23 (List.length v32)), (30, .d (.v (.int .i64 ((List.length v32) : Int)))), (31, .d (.v (.int .i64 v48)))], [(23, .row 38 2 (List.map TDot.e v32)), (100, .cells 47 [.row 101 (List.length v49)]), (101, .row 5 1 (List.map (eK .u8) v49)), (1100, .pin 100 (pv 100).1 (pv 100).2)]⟩) () h (Sub.of rfl (.cons rfl rfl <| .cons rfl rfl <| .cons rfl rfl <| .cons rfl rfl <| .nil) (.cons rfl rfl <| .cons rfl rfl <| .cons rfl rfl <| .cons rfl rfl <| .nil)) ?_
    rintro N ⟨v48, v49⟩ _ h
    refine PWc.seq ?_
    refine PWc.region ?_
    refine PWl.step (LR.lss rfl rfl) rfl ?_
    refine PWl.nil ?_
    refine PWc.seq ?_
    refine PWc.cond rfl (fun hc50 => ?_) (fun hc50 => ?_)
    · replace h := iT hc50 h
      refine PWc.skip ?_
      refine PWc.seq ?_
      refine PWc.block ?_
      refine PWc.seq ?_
      refine PWc.region ?_
      replace h := iIdx h
      obtain ⟨x51, hy52, h⟩ := h
      refine PWl.step (LR.idxRowT (L := v32) (y := x51) Try.underlying39 Try.sizeOf38 rfl rfl rfl hy52) rfl ?_
      refine PWl.step (LR.loadRpT (enc := TDot.e) (L := v32) (y := x51) Try.isAgg38 Try.sizeOf38 rfl rfl hy52.2) rfl ?_
      refine PWl.step (LR.allocZ (cs := [_, _]) Try.zeroValue38 rfl rfl rfl rfl) rfl ?_
      refine PWl.step (LR.storeB (ns := [_, _]) Try.sizeOf38 rfl rfl rfl rfl rfl rfl rfl) rfl ?_
      refine PWl.nil ?_
      refine PWc.region ?_
      refine PWl.step (LR.move rfl) rfl ?_
      refine PWl.step (LR.loadRefAgg (ps := [_, _]) Try.isAgg38 Try.sizeOf38 rfl rfl rfl rfl) rfl ?_
      replace h := iDet h
      obtain ⟨y53, hy54, h⟩ := h
      refine PWl.step (LR.callObj [(100, 100), (101, 101)] [] [100, 101] (dcode_PutDot_o_ok x51 v49 y53 hy54) hK rfl Try.call26 rfl (by first | rfl | (simp; done) | (simp [PV.nilD, PV.ren, rn]; omega)) (.cons (by first | rfl | (congr 1; first | (simp; done) | (simp; omega))) <| .cons (by first | rfl | (congr 1; first | (simp; done) | (simp; omega))) <| .nil) rfl rfl rfl rfl) rfl ?_
      refine PWl.nil ?_
      refine PWc.re (tl := [(0, _), (29, _), (30, _), (31, _)]) (to := [(23, _), (100, _), (101, _), (1100, _)]) rfl (.cons rfl rfl <| .cons rfl rfl <| .cons rfl rfl <| .cons rfl rfl <| .nil) (.cons rfl rfl <| .cons rfl rfl <| .cons rfl rfl <| .cons rfl rfl <| .nil) ?_
      refine PWc.region ?_
      refine PWl.step (LR.addW rfl rfl) rfl ?_
      refine PWl.step (LR.move rfl) rfl ?_
      refine PWl.nil ?_
      exact ⟨((IntKind.i64.wrap (v48 + 1)), y53), (), h, Sub.of rfl (.cons rfl rfl <| .cons rfl rfl <| .cons rfl rfl <| .cons rfl rfl <| .nil) (.cons rfl rfl <| .cons rfl rfl <| .cons rfl rfl <| .cons rfl rfl <| .nil)⟩
    · replace h := iF hc50 h
      refine PWc.exit ?_
      replace h : _ = r0 := h
      subst h
      exact EndsO.mk () (.inl rfl) (Sub.of (tl := []) (to := [(100, _), (101, _), (1100, _)]) rfl (.nil) (.cons rfl (by first | rfl | (congr 1; congr 2; first | (simp; done) | (simp; omega))) <| .cons rfl rfl <| .cons rfl rfl <| .nil)) (.nil) rfl rfl

end Go.Proofs

namespace Go.Proofs
open Go.Ep
set_option maxHeartbeats 1000000
set_option maxRecDepth 100000
set_option linter.unusedVariables false
set_option linter.unusedSimpArgs false


theorem dot_Rising_ok (l1 : List TDot) (r0 : Bool) (h : (dot_Rising l1).wp (· = r0)) : PFun Try.prog 137 [.d (.sl (List.map TDot.e l1))] (.d (.v (.bool r0))) := by
  refine PFun.intro (sl := [(0, _)]) Try.func137 rfl Try.ntmps137 rfl rfl ?_
  intro ctx hK
  refine PWc.seq ?_
  refine PWc.region ?_
  refine PWl.step (LR.assign rfl) rfl ?_
  refine PWl.nil ?_
  refine PWc.seq ?_
  refine PWc.seq ?_
  refine PWc.region ?_
  refine PWl.step (LR.move rfl) rfl ?_
  refine PWl.step (LR.lenMap (enc := TDot.e) (L := l1) Try.underlying39 rfl) rfl ?_
  refine PWl.step (LR.move rfl) rfl ?_
  refine PWl.nil ?_
  refine PWc.jnX (iBind h) (fun (_ : Unit) (_ : Unit) => ⟨25, [], []⟩) (fun h => ?_) ?_
  · refine PWc.block ?_
    refine PWc.loopM (fun (v23 : Int) (_ : Unit) => ⟨25, [(0, .d (.sl (List.map TDot.e l1))), (5, .d (.v (.int .i64 (List.length l1 : Int)))), (6, .d (.v (.int .i64 v23)))], []⟩) () h (Sub.of rfl (.cons rfl rfl <| .cons rfl rfl <| .cons rfl rfl <| .nil) (.nil)) ?_
    rintro N v23 _ h
    refine PWc.seq ?_
    refine PWc.region ?_
    refine PWl.step (LR.lss rfl rfl) rfl ?_
    refine PWl.nil ?_
    refine PWc.seq ?_
    refine PWc.cond rfl (fun hc24 => ?_) (fun hc24 => ?_)
    · replace h := iT hc24 h
      refine PWc.skip ?_
      refine PWc.seq ?_
      refine PWc.block ?_
      refine PWc.seq ?_
      refine PWc.region ?_
      refine PWl.step (LR.move rfl) rfl ?_
      refine PWl.step (LR.assign rfl) rfl ?_
      refine PWl.nil ?_
      refine PWc.seq ?_
      refine PWc.jn (iBind h) (fun (v25 : Bool) (_ : Unit) => ⟨25, [(0, .d (.sl (List.map TDot.e l1))), (5, .d (.v (.int .i64 (List.length l1 : Int)))), (6, .d (.v (.int .i64 v23))), (23, .d (.v (.bool v25)))], []⟩) (fun h => ?_) ?_
      · refine PWc.regionD (by kernel_rfl) (by kernel_rfl) ?_
        refine PQl.step (fun _ he ho => LR.move (he rfl rfl)) rfl ?_
        refine PQl.step (fun _ he ho => LR.gtr (he rfl rfl) (he rfl rfl)) rfl ?_
        refine PQl.step (fun _ he ho => LR.move (he rfl rfl)) rfl ?_
        refine PQl.split (d := 11) rfl (fun hg26 => ?_) (fun hg26 => ?_)
        · replace h := iT hg26 h
          refine PQl.guardT (fun _ he ho => LR.move (he rfl rfl)) rfl rfl rfl ?_
          refine PQl.guardT (fun _ he ho => LR.move (he rfl rfl)) rfl rfl rfl ?_
          refine PQl.guardT (fun _ he ho => LR.subW (he rfl rfl) (he rfl rfl)) rfl rfl rfl ?_
          replace h := iIdx h
          obtain ⟨x27, hy28, h⟩ := h
          refine PQl.guardT (fun _ he ho => LR.idxT (enc := TDot.e) (L := l1) (y := x27) Try.underlying39 Try.sizeOf38 (he rfl rfl) (he rfl rfl) hy28 (fun _ => rfl)) rfl rfl rfl ?_
          refine PQl.guardT (fun _ he ho => LR.loadEpAgg (ys := [_, _]) Try.isAgg38 Try.sizeOf38 (he rfl rfl) rfl rfl) rfl rfl rfl ?_
          refine PQl.guardT (fun _ he ho => LR.move (he rfl rfl)) rfl rfl rfl ?_
          refine PQl.guardT (fun _ he ho => LR.move (he rfl rfl)) rfl rfl rfl ?_
          replace h := iIdx h
          obtain ⟨x29, hy30, h⟩ := h
          refine PQl.guardT (fun _ he ho => LR.idxT (enc := TDot.e) (L := l1) (y := x29) Try.underlying39 Try.sizeOf38 (he rfl rfl) (he rfl rfl) hy30 (fun _ => rfl)) rfl rfl rfl ?_
          refine PQl.guardT (fun _ he ho => LR.loadEpAgg (ys := [_, _]) Try.isAgg38 Try.sizeOf38 (he rfl rfl) rfl rfl) rfl rfl rfl ?_
          replace h := iDet h
          obtain ⟨v31, hy32, h⟩ := h
          refine PQl.guardT (fun _ he ho => LR.callN (dot_Cmp_ok x27 x29 v31 hy32) (he rfl rfl) Try.call107 (evsE he rfl rfl) rfl rfl rfl) rfl rfl rfl ?_
          refine PQl.guardT (fun _ he ho => LR.geq (he rfl rfl) (he rfl rfl)) rfl rfl rfl ?_
          refine PQl.step (fun _ he ho => LR.pickT (he rfl rfl) (he rfl rfl)) rfl ?_
          refine PQl.nil ?_
          exact ⟨(decide (0 ≤ v31)), (), h, Sub.of rfl (.cons rfl rfl <| .cons rfl rfl <| .cons rfl rfl <| .cons rfl rfl <| .nil) (.nil)⟩
        · replace h := iF hg26 h
          refine PQl.guardF rfl rfl rfl (by decide) ?_
          refine PQl.guardF rfl rfl rfl (by decide) ?_
          refine PQl.guardF rfl rfl rfl (by decide) ?_
          refine PQl.guardF rfl rfl rfl (by decide) ?_
          refine PQl.guardF rfl rfl rfl (by decide) ?_
          refine PQl.guardF rfl rfl rfl (by decide) ?_
          refine PQl.guardF rfl rfl rfl (by decide) ?_
          refine PQl.guardF rfl rfl rfl (by decide) ?_
          refine PQl.guardF rfl rfl rfl (by decide) ?_
          refine PQl.guardF rfl rfl rfl (by decide) ?_
          refine PQl.guardF rfl rfl rfl (by decide) ?_
          refine PQl.step (fun _ he ho => LR.pickF (he rfl rfl) (he rfl rfl)) rfl ?_
          refine PQl.nil ?_
          exact ⟨false, (), h, Sub.of rfl (.cons rfl rfl <| .cons rfl rfl <| .cons rfl rfl <| .cons rfl rfl <| .nil) (.nil)⟩
      · rintro v25 _ h
        refine PWc.cond rfl (fun hc33 => ?_) (fun hc33 => ?_)
        · replace h := iT hc33 h
          refine PWc.seq ?_
          refine PWc.region ?_
          refine PWl.step (LR.assign rfl) rfl ?_
          refine PWl.nil ?_
          refine PWc.ret ?_
          replace h : _ = r0 := h
          subst h
          exact ⟨.inr rfl, _, .cons (.tmp rfl rfl) <| .nil, rfl⟩
        · replace h := iF hc33 h
          refine PWc.skip ?_
          refine PWc.region ?_
          refine PWl.step (LR.addW rfl rfl) rfl ?_
          refine PWl.step (LR.move rfl) rfl ?_
          refine PWl.nil ?_
          exact ⟨(IntKind.i64.wrap (v23 + 1)), (), h, Sub.of rfl (.cons rfl rfl <| .cons rfl rfl <| .cons rfl rfl <| .nil) (.nil)⟩
    · replace h := iF hc24 h
      refine PWc.exit ?_
      exact ⟨(), (), h, Sub.of rfl (.nil) (.nil)⟩
  · rintro _ _ h
    refine PWc.seq ?_
    refine PWc.region ?_
    refine PWl.step (LR.assign rfl) rfl ?_
    refine PWl.nil ?_
    refine PWc.ret ?_
    replace h : _ = r0 := h
    subst h
    exact ⟨.inr rfl, _, .cons (.tmp rfl rfl) <| .nil, rfl⟩

theorem event_Good_ok (e1 : TEvent) (r0 : Bool) (h : (event_Good e1).wp (· = r0)) : PFun Try.prog 91 [.agg (List.map .d (TEvent.e e1))] (.d (.v (.bool r0))) := by
  refine PFun.intro (sl := [(0, _)]) Try.func91 rfl Try.ntmps91 rfl rfl ?_
  intro ctx hK
  refine PWc.seq ?_
  refine PWc.region ?_
  refine PWl.step (LR.box rfl rfl rfl rfl) rfl ?_
  refine PWl.step (LR.assign rfl) rfl ?_
  refine PWl.nil ?_
  refine PWc.seq ?_
  refine PWc.seq ?_
  refine PWc.region ?_
  refine PWl.step (LR.fieldRef Try.underlying41 rfl Try.sizeOf36 (by decide) rfl rfl) rfl ?_
  refine PWl.step (LR.loadRef Try.isAgg36 rfl rfl rfl) rfl ?_
  replace h := iDet h
  obtain ⟨v2, hy3, h⟩ := h
  refine PWl.step (LR.callN (dot_Unpack_ok e1.cid v2 hy3) rfl Try.call134 rfl rfl rfl rfl) rfl ?_
  refine PWl.step (LR.move rfl) rfl ?_
  refine PWl.step (LR.extract rfl rfl) rfl ?_
  refine PWl.step (LR.extract rfl rfl) rfl ?_
  refine PWl.step (LR.allocZ (cs := [_, _]) Try.zeroValue38 rfl rfl rfl rfl) rfl ?_
  refine PWl.step (LR.storeB (ns := [_, _]) Try.sizeOf38 rfl rfl rfl rfl rfl rfl rfl) rfl ?_
  refine PWl.step (LR.assign rfl) rfl ?_
  refine PWl.nil ?_
  refine PWc.seq ?_
  refine PWc.jn (iBind h) (fun (v4 : Bool) (_ : Unit) => ⟨72, [(1, .ref 1 0), (20, .d (.v (.bool v4)))], [(1, .cells 41 [.d (.v (.int .u16 e1.dot.dev)), .d (.v (.int .u64 e1.dot.n)), .d (.v (.int .u8 e1.kind)), .d (.v (.int .u64 e1.cid)), .d (.v (.int .u8 e1.field)), .d (.v (.string e1.text)), .d (.sl (List.map TDot.e e1.kills))])]⟩) (fun h => ?_) ?_
  · refine PWc.region ?_
    refine PWl.step (LR.move rfl) rfl ?_
    refine PWl.step (LR.not rfl) rfl ?_
    refine PWl.step (LR.move rfl) rfl ?_
    refine PWl.split (d := 15) rfl (fun hg5 => ?_) (fun hg5 => ?_)
    · replace h := iT hg5 h
      refine PWl.guardF rfl rfl rfl (by decide) ?_
      refine PWl.guardF rfl rfl rfl (by decide) ?_
      refine PWl.guardF rfl rfl rfl (by decide) ?_
      refine PWl.guardF rfl rfl rfl (by decide) ?_
      refine PWl.step (LR.pickT rfl rfl) rfl ?_
      refine PWl.nil ?_
      exact ⟨true, (), h, Sub.of rfl (.cons rfl rfl <| .cons rfl rfl <| .nil) (.cons rfl rfl <| .nil)⟩
    · replace h := iF hg5 h
      refine PWl.guardT (LR.fieldRef Try.underlying41 rfl Try.sizeOf38 (by decide) rfl rfl) rfl rfl rfl ?_
      refine PWl.guardT (LR.loadRefAgg (ps := [_, _]) Try.isAgg38 Try.sizeOf38 rfl rfl rfl rfl) rfl rfl rfl ?_
      replace h := iDet h
      obtain ⟨v6, hy7, h⟩ := h
      refine PWl.guardT (LR.callN (dot_Good_ok e1.dot v6 hy7) rfl Try.call82 rfl rfl rfl rfl) rfl rfl rfl ?_
      refine PWl.guardT (LR.not rfl) rfl rfl rfl ?_
      refine PWl.step (LR.pickF rfl rfl) rfl ?_
      refine PWl.nil ?_
      exact ⟨(!v6), (), h, Sub.of rfl (.cons rfl rfl <| .cons rfl rfl <| .nil) (.cons rfl rfl <| .nil)⟩
  · rintro v4 _ h
    refine PWc.cond rfl (fun hc8 => ?_) (fun hc8 => ?_)
    · replace h := iT hc8 h
      refine PWc.seq ?_
      refine PWc.region ?_
      refine PWl.step (LR.assign rfl) rfl ?_
      refine PWl.nil ?_
      refine PWc.ret ?_
      replace h : _ = r0 := h
      subst h
      exact ⟨.inr rfl, _, .cons (.tmp rfl rfl) <| .nil, rfl⟩
    · replace h := iF hc8 h
      refine PWc.skip ?_
      refine PWc.seq ?_
      refine PWc.seq ?_
      refine PWc.region ?_
      refine PWl.step (LR.fieldRef Try.underlying41 rfl Try.sizeOf5 (by decide) rfl rfl) rfl ?_
      refine PWl.step (LR.loadRef Try.isAgg5 rfl rfl rfl) rfl ?_
      refine PWl.nil ?_
      refine PWc.jnX (iBind h) (fun (_ : Unit) (_ : Unit) => ⟨72, [(1, .ref 1 0)], [(1, .cells 41 [.d (.v (.int .u16 e1.dot.dev)), .d (.v (.int .u64 e1.dot.n)), .d (.v (.int .u8 e1.kind)), .d (.v (.int .u64 e1.cid)), .d (.v (.int .u8 e1.field)), .d (.v (.string e1.text)), .d (.sl (List.map TDot.e e1.kills))])]⟩) (fun h => ?_) ?_
      · refine PWc.block ?_
        refine PWc.seq ?_
        refine PWc.region ?_
        refine PWl.step (LR.eql rfl rfl) rfl ?_
        refine PWl.step (LR.assign rfl) rfl ?_
        refine PWl.nil ?_
        refine PWc.cond rfl (fun hc9 => ?_) (fun hc9 => ?_)
        · replace h := iT hc9 h
          refine PWc.seq ?_
          refine PWc.jn (iBind h) (fun (v10 : Bool) (_ : Unit) => ⟨72, [(1, .ref 1 0), (34, .d (.v (.bool v10)))], [(1, .cells 41 [.d (.v (.int .u16 e1.dot.dev)), .d (.v (.int .u64 e1.dot.n)), .d (.v (.int .u8 e1.kind)), .d (.v (.int .u64 e1.cid)), .d (.v (.int .u8 e1.field)), .d (.v (.string e1.text)), .d (.sl (List.map TDot.e e1.kills))])]⟩) (fun h => ?_) ?_
          · refine PWc.region ?_
            refine PWl.step (LR.fieldRef Try.underlying41 rfl Try.sizeOf5 (by decide) rfl rfl) rfl ?_
            refine PWl.step (LR.loadRef Try.isAgg5 rfl rfl rfl) rfl ?_
            replace h := iDet h
            obtain ⟨v11, hy12, h⟩ := h
            refine PWl.step (LR.callN (field_Good_ok e1.field v11 hy12) rfl Try.call135 rfl rfl rfl rfl) rfl ?_
            refine PWl.step (LR.not rfl) rfl ?_
            refine PWl.step (LR.move rfl) rfl ?_
            refine PWl.split (d := 29) rfl (fun hg13 => ?_) (fun hg13 => ?_)
            · replace h := iT hg13 h
              refine PWl.guardF rfl rfl rfl (by decide) ?_
              refine PWl.guardF rfl rfl rfl (by decide) ?_
              refine PWl.guardF rfl rfl rfl (by decide) ?_
              refine PWl.guardF rfl rfl rfl (by decide) ?_
              refine PWl.step (LR.pickT rfl rfl) rfl ?_
              refine PWl.nil ?_
              exact ⟨true, (), h, Sub.of rfl (.cons rfl rfl <| .cons rfl rfl <| .nil) (.cons rfl rfl <| .nil)⟩
            · replace h := iF hg13 h
              refine PWl.guardT (LR.fieldRef Try.underlying41 rfl Try.sizeOf9 (by decide) rfl rfl) rfl rfl rfl ?_
              refine PWl.guardT (LR.loadRef Try.isAgg9 rfl rfl rfl) rfl rfl rfl ?_
              replace h := iDet h
              obtain ⟨v14, hy15, h⟩ := h
              refine PWl.guardT (LR.callN (field_Text_ok e1.text v14 hy15) rfl Try.call136 rfl rfl rfl rfl) rfl rfl rfl ?_
              refine PWl.guardT (LR.not rfl) rfl rfl rfl ?_
              refine PWl.step (LR.pickF rfl rfl) rfl ?_
              refine PWl.nil ?_
              exact ⟨(!v14), (), h, Sub.of rfl (.cons rfl rfl <| .cons rfl rfl <| .nil) (.cons rfl rfl <| .nil)⟩
          · rintro v10 _ h
            refine PWc.cond rfl (fun hc16 => ?_) (fun hc16 => ?_)
            · replace h := iT hc16 h
              refine PWc.seq ?_
              refine PWc.region ?_
              refine PWl.step (LR.assign rfl) rfl ?_
              refine PWl.nil ?_
              refine PWc.ret ?_
              replace h : _ = r0 := h
              subst h
              exact ⟨.inr rfl, _, .cons (.tmp rfl rfl) <| .nil, rfl⟩
            · replace h := iF hc16 h
              refine PWc.skip ?_
              exact ⟨(), (), h, Sub.of rfl (.cons rfl rfl <| .nil) (.cons rfl rfl <| .nil)⟩
        · replace h := iF hc9 h
          refine PWc.seq ?_
          refine PWc.region ?_
          refine PWl.step (LR.eql rfl rfl) rfl ?_
          refine PWl.step (LR.assign rfl) rfl ?_
          refine PWl.nil ?_
          refine PWc.cond rfl (fun hc17 => ?_) (fun hc17 => ?_)
          · replace h := iT hc17 h
            refine PWc.seq ?_
            refine PWc.jn (iBind h) (fun (v18 : Bool) (_ : Unit) => ⟨72, [(1, .ref 1 0), (44, .d (.v (.bool v18)))], [(1, .cells 41 [.d (.v (.int .u16 e1.dot.dev)), .d (.v (.int .u64 e1.dot.n)), .d (.v (.int .u8 e1.kind)), .d (.v (.int .u64 e1.cid)), .d (.v (.int .u8 e1.field)), .d (.v (.string e1.text)), .d (.sl (List.map TDot.e e1.kills))])]⟩) (fun h => ?_) ?_
            · refine PWc.region ?_
              refine PWl.step (LR.fieldRef Try.underlying41 rfl Try.sizeOf5 (by decide) rfl rfl) rfl ?_
              refine PWl.step (LR.loadRef Try.isAgg5 rfl rfl rfl) rfl ?_
              refine PWl.step (LR.neq rfl rfl) rfl ?_
              refine PWl.step (LR.move rfl) rfl ?_
              refine PWl.split (d := 40) rfl (fun hg19 => ?_) (fun hg19 => ?_)
              · replace h := iT hg19 h
                refine PWl.guardF rfl rfl rfl (by decide) ?_
                refine PWl.guardF rfl rfl rfl (by decide) ?_
                refine PWl.guardF rfl rfl rfl (by decide) ?_
                refine PWl.step (LR.pickT rfl rfl) rfl ?_
                refine PWl.nil ?_
                exact ⟨true, (), h, Sub.of rfl (.cons rfl rfl <| .cons rfl rfl <| .nil) (.cons rfl rfl <| .nil)⟩
              · replace h := iF hg19 h
                refine PWl.guardT (LR.fieldRef Try.underlying41 rfl Try.sizeOf9 (by decide) rfl rfl) rfl rfl rfl ?_
                refine PWl.guardT (LR.loadRef Try.isAgg9 rfl rfl rfl) rfl rfl rfl ?_
                refine PWl.guardT (LR.neqStr rfl rfl) rfl rfl rfl ?_
                refine PWl.step (LR.pickF rfl rfl) rfl ?_
                refine PWl.nil ?_
                exact ⟨(!decide (e1.text = (⟨#[]⟩ : ByteArray))), (), h, Sub.of rfl (.cons rfl rfl <| .cons rfl rfl <| .nil) (.cons rfl rfl <| .nil)⟩
            · rintro v18 _ h
              refine PWc.cond rfl (fun hc20 => ?_) (fun hc20 => ?_)
              · replace h := iT hc20 h
                refine PWc.seq ?_
                refine PWc.region ?_
                refine PWl.step (LR.assign rfl) rfl ?_
                refine PWl.nil ?_
                refine PWc.ret ?_
                replace h : _ = r0 := h
                subst h
                exact ⟨.inr rfl, _, .cons (.tmp rfl rfl) <| .nil, rfl⟩
              · replace h := iF hc20 h
                refine PWc.skip ?_
                exact ⟨(), (), h, Sub.of rfl (.cons rfl rfl <| .nil) (.cons rfl rfl <| .nil)⟩
          · replace h := iF hc17 h
            refine PWc.seq ?_
            refine PWc.region ?_
            refine PWl.step (LR.assign rfl) rfl ?_
            refine PWl.nil ?_
            refine PWc.ret ?_
            replace h : _ = r0 := h
            subst h
            exact ⟨.inr rfl, _, .cons (.tmp rfl rfl) <| .nil, rfl⟩
      · rintro _ _ h
        refine PWc.seq ?_
        refine PWc.seq ?_
        refine PWc.jn (iBind h) (fun (v21 : Bool) (_ : Unit) => ⟨72, [(1, .ref 1 0), (54, .d (.v (.bool v21)))], [(1, .cells 41 [.d (.v (.int .u16 e1.dot.dev)), .d (.v (.int .u64 e1.dot.n)), .d (.v (.int .u8 e1.kind)), .d (.v (.int .u64 e1.cid)), .d (.v (.int .u8 e1.field)), .d (.v (.string e1.text)), .d (.sl (List.map TDot.e e1.kills))])]⟩) (fun h => ?_) ?_
        · refine PWc.region ?_
          refine PWl.step (LR.fieldRef Try.underlying41 rfl Try.sizeOf39 (by decide) rfl rfl) rfl ?_
          refine PWl.step (LR.loadRef Try.isAgg39 rfl rfl rfl) rfl ?_
          refine PWl.step (LR.lenMap (enc := TDot.e) (L := e1.kills) Try.underlying39 rfl) rfl ?_
          refine PWl.step (LR.gtr rfl rfl) rfl ?_
          refine PWl.step (LR.move rfl) rfl ?_
          refine PWl.split (d := 49) rfl (fun hg22 => ?_) (fun hg22 => ?_)
          · replace h := iT hg22 h
            refine PWl.guardF rfl rfl rfl (by decide) ?_
            refine PWl.guardF rfl rfl rfl (by decide) ?_
            refine PWl.guardF rfl rfl rfl (by decide) ?_
            refine PWl.guardF rfl rfl rfl (by decide) ?_
            refine PWl.step (LR.pickT rfl rfl) rfl ?_
            refine PWl.nil ?_
            exact ⟨true, (), h, Sub.of rfl (.cons rfl rfl <| .cons rfl rfl <| .nil) (.cons rfl rfl <| .nil)⟩
          · replace h := iF hg22 h
            refine PWl.guardT (LR.fieldRef Try.underlying41 rfl Try.sizeOf39 (by decide) rfl rfl) rfl rfl rfl ?_
            refine PWl.guardT (LR.loadRef Try.isAgg39 rfl rfl rfl) rfl rfl rfl ?_
            replace h := iDet h
            obtain ⟨v23, hy24, h⟩ := h
            refine PWl.guardT (LR.callN (dot_Rising_ok e1.kills v23 hy24) rfl Try.call137 rfl rfl rfl rfl) rfl rfl rfl ?_
            refine PWl.guardT (LR.not rfl) rfl rfl rfl ?_
            refine PWl.step (LR.pickF rfl rfl) rfl ?_
            refine PWl.nil ?_
            exact ⟨(!v23), (), h, Sub.of rfl (.cons rfl rfl <| .cons rfl rfl <| .nil) (.cons rfl rfl <| .nil)⟩
        · rintro v21 _ h
          refine PWc.cond rfl (fun hc25 => ?_) (fun hc25 => ?_)
          · replace h := iT hc25 h
            refine PWc.seq ?_
            refine PWc.region ?_
            refine PWl.step (LR.assign rfl) rfl ?_
            refine PWl.nil ?_
            refine PWc.ret ?_
            replace h : _ = r0 := h
            subst h
            exact ⟨.inr rfl, _, .cons (.tmp rfl rfl) <| .nil, rfl⟩
          · replace h := iF hc25 h
            refine PWc.skip ?_
            refine PWc.seq ?_
            refine PWc.seq ?_
            refine PWc.region ?_
            refine PWl.step (LR.fieldRef Try.underlying41 rfl Try.sizeOf39 (by decide) rfl rfl) rfl ?_
            refine PWl.step (LR.loadRef Try.isAgg39 rfl rfl rfl) rfl ?_
            refine PWl.step (LR.lenMap (enc := TDot.e) (L := e1.kills) Try.underlying39 rfl) rfl ?_
            refine PWl.step (LR.move rfl) rfl ?_
            refine PWl.nil ?_
            refine PWc.jnX (iBind h) (fun (_ : Unit) (_ : Unit) => ⟨72, [], []⟩) (fun h => ?_) ?_
            · refine PWc.block ?_
              refine PWc.loopM (fun (v43 : Int) (_ : Unit) => ⟨72, [(1, .ref 1 0), (56, .d (.sl (List.map TDot.e e1.kills))), (57, .d (.v (.int .i64 (List.length e1.kills : Int)))), (58, .d (.v (.int .i64 v43)))], [(1, .cells 41 [.d (.v (.int .u16 e1.dot.dev)), .d (.v (.int .u64 e1.dot.n)), .d (.v (.int .u8 e1.kind)), .d (.v (.int .u64 e1.cid)), .d (.v (.int .u8 e1.field)), .d (.v (.string e1.text)), .d (.sl (List.map TDot.e e1.kills))])]⟩) () h (Sub.of rfl (.cons rfl rfl <| .cons rfl rfl <| .cons rfl rfl <| .cons rfl rfl <| .nil) (.cons rfl rfl <| .nil)) ?_
              rintro N v43 _ h
              refine PWc.seq ?_
              refine PWc.region ?_
              refine PWl.step (LR.lss rfl rfl) rfl ?_
              refine PWl.nil ?_
              refine PWc.seq ?_
              refine PWc.cond rfl (fun hc44 => ?_) (fun hc44 => ?_)
              · replace h := iT hc44 h
                refine PWc.skip ?_
                refine PWc.seq ?_
                refine PWc.block ?_
                refine PWc.seq ?_
                refine PWc.region ?_
                replace h := iIdx h
                obtain ⟨x45, hy46, h⟩ := h
                refine PWl.step (LR.idxT (enc := TDot.e) (L := e1.kills) (y := x45) Try.underlying39 Try.sizeOf38 rfl rfl hy46 (fun _ => rfl)) rfl ?_
                refine PWl.step (LR.loadEpAgg (ys := [_, _]) Try.isAgg38 Try.sizeOf38 rfl rfl rfl) rfl ?_
                refine PWl.step (LR.allocZ (cs := [_, _]) Try.zeroValue38 rfl rfl rfl rfl) rfl ?_
                refine PWl.step (LR.storeB (ns := [_, _]) Try.sizeOf38 rfl rfl rfl rfl rfl rfl rfl) rfl ?_
                refine PWl.nil ?_
                refine PWc.seq ?_
                refine PWc.jn (iBind h) (fun (v47 : Bool) (_ : Unit) => ⟨72, [(1, .ref 1 0), (56, .d (.sl (List.map TDot.e e1.kills))), (57, .d (.v (.int .i64 (List.length e1.kills : Int)))), (58, .d (.v (.int .i64 v43))), (70, .d (.v (.bool v47)))], [(1, .cells 41 [.d (.v (.int .u16 e1.dot.dev)), .d (.v (.int .u64 e1.dot.n)), .d (.v (.int .u8 e1.kind)), .d (.v (.int .u64 e1.cid)), .d (.v (.int .u8 e1.field)), .d (.v (.string e1.text)), .d (.sl (List.map TDot.e e1.kills))])]⟩) (fun h => ?_) ?_
                · refine PWc.region ?_
                  refine PWl.step (LR.loadRefAgg (ps := [_, _]) Try.isAgg38 Try.sizeOf38 rfl rfl rfl rfl) rfl ?_
                  replace h := iDet h
                  obtain ⟨v48, hy49, h⟩ := h
                  refine PWl.step (LR.callN (dot_Good_ok x45 v48 hy49) rfl Try.call82 rfl rfl rfl rfl) rfl ?_
                  refine PWl.step (LR.not rfl) rfl ?_
                  refine PWl.step (LR.move rfl) rfl ?_
                  refine PWl.split (d := 65) rfl (fun hg50 => ?_) (fun hg50 => ?_)
                  · replace h := iT hg50 h
                    refine PWl.guardF rfl rfl rfl (by decide) ?_
                    refine PWl.guardF rfl rfl rfl (by decide) ?_
                    refine PWl.guardF rfl rfl rfl (by decide) ?_
                    refine PWl.guardF rfl rfl rfl (by decide) ?_
                    refine PWl.step (LR.pickT rfl rfl) rfl ?_
                    refine PWl.nil ?_
                    exact ⟨true, (), h, Sub.of rfl (.cons rfl rfl <| .cons rfl rfl <| .cons rfl rfl <| .cons rfl rfl <| .cons rfl rfl <| .nil) (.cons rfl rfl <| .nil)⟩
                  · replace h := iF hg50 h
                    refine PWl.guardT (LR.loadRefAgg (ps := [_, _]) Try.isAgg38 Try.sizeOf38 rfl rfl rfl rfl) rfl rfl rfl ?_
                    refine PWl.guardT (LR.fieldRef Try.underlying41 rfl Try.sizeOf38 (by decide) rfl rfl) rfl rfl rfl ?_
                    refine PWl.guardT (LR.loadRefAgg (ps := [_, _]) Try.isAgg38 Try.sizeOf38 rfl rfl rfl rfl) rfl rfl rfl ?_
                    refine PWl.guardT (LR.eqlAgg rfl rfl rfl rfl eq38) rfl rfl rfl ?_
                    refine PWl.step (LR.pickF rfl rfl) rfl ?_
                    refine PWl.nil ?_
                    exact ⟨((decide (x45.dev = e1.dot.dev) && decide (x45.n = e1.dot.n))), (), h, Sub.of rfl (.cons rfl rfl <| .cons rfl rfl <| .cons rfl rfl <| .cons rfl rfl <| .cons rfl rfl <| .nil) (.cons rfl rfl <| .nil)⟩
                · rintro v47 _ h
                  refine PWc.cond rfl (fun hc51 => ?_) (fun hc51 => ?_)
                  · replace h := iT hc51 h
                    refine PWc.seq ?_
                    refine PWc.region ?_
                    refine PWl.step (LR.assign rfl) rfl ?_
                    refine PWl.nil ?_
                    refine PWc.ret ?_
                    replace h : _ = r0 := h
                    subst h
                    exact ⟨.inr rfl, _, .cons (.tmp rfl rfl) <| .nil, rfl⟩
                  · replace h := iF hc51 h
                    refine PWc.skip ?_
                    refine PWc.region ?_
                    refine PWl.step (LR.addW rfl rfl) rfl ?_
                    refine PWl.step (LR.move rfl) rfl ?_
                    refine PWl.nil ?_
                    exact ⟨(IntKind.i64.wrap (v43 + 1)), (), h, Sub.of rfl (.cons rfl rfl <| .cons rfl rfl <| .cons rfl rfl <| .cons rfl rfl <| .nil) (.cons rfl rfl <| .nil)⟩
              · replace h := iF hc44 h
                refine PWc.exit ?_
                exact ⟨(), (), h, Sub.of rfl (.nil) (.nil)⟩
            · rintro _ _ h
              refine PWc.seq ?_
              refine PWc.region ?_
              refine PWl.step (LR.assign rfl) rfl ?_
              refine PWl.nil ?_
              refine PWc.ret ?_
              replace h : _ = r0 := h
              subst h
              exact ⟨.inr rfl, _, .cons (.tmp rfl rfl) <| .nil, rfl⟩

theorem pack_Writer_Byte_o_ok (c1 : Int) (row2 : List Int) (r0 : List Int) (h : (pack_Writer_Byte_o c1 row2).wp (· = r0)) : PObj Try.prog 88 [.ref 100 0, .d (.v (.int .u8 c1))] [(100, .cells 47 [.row 101 (List.length row2)]), (101, .row 5 1 (List.map (eK .u8) row2))] [100] (.tup []) (fun _ : Unit => [(100, .cells 47 [.row 101 (List.length r0)]), (101, .row 5 1 (List.map (eK .u8) r0))]) := by
  refine PObj.intro (sl := [(0, _), (1, _)]) Try.func88 rfl Try.ntmps88 rfl rfl rfl ?_
  intro ctx hK pv
  refine PWc.region ?_
  refine PWl.step (LR.move rfl) rfl ?_
  refine PWl.step (LR.move rfl) rfl ?_
  refine PWl.step (LR.buildSliceD [.tmp 5] elem45 rfl rfl (.cons rfl rfl rfl <| .nil) (by decide) (by decide)) rfl ?_
  replace h := iDet h
  obtain ⟨y3, hy4, h⟩ := h
  refine PWl.step (LR.callObj [(100, 100), (101, 101)] [] [100, 101] (pack_Writer_put_o_ok ([c1]) row2 y3 hy4) hK rfl Try.call126 rfl (by first | rfl | (simp; done) | (simp [PV.nilD, PV.ren, rn]; omega)) (.cons (by first | rfl | (congr 1; first | (simp; done) | (simp; omega))) <| .cons (by first | rfl | (congr 1; first | (simp; done) | (simp; omega))) <| .nil) rfl rfl rfl rfl) rfl ?_
  refine PWl.nil ?_
  replace h : _ = r0 := h
  subst h
  exact EndsO.mk () (.inl rfl) (Sub.of (tl := []) (to := [(100, _), (101, _), (1100, _)]) rfl (.nil) (.cons rfl (by first | rfl | (congr 1; congr 2; first | (simp; done) | (simp; omega))) <| .cons rfl rfl <| .cons rfl rfl <| .nil)) (.nil) rfl rfl

theorem pack_Writer_Text_o_ok (s1 : ByteArray) (row2 : List Int) (r0 : List Int) (h : (pack_Writer_Text_o s1 row2).wp (· = r0)) : PObj Try.prog 89 [.ref 100 0, .d (.v (.string s1))] [(100, .cells 47 [.row 101 (List.length row2)]), (101, .row 5 1 (List.map (eK .u8) row2))] [100] (.tup []) (fun _ : Unit => [(100, .cells 47 [.row 101 (List.length r0)]), (101, .row 5 1 (List.map (eK .u8) r0))]) := by
  refine PObj.intro (sl := [(0, _), (1, _)]) Try.func89 rfl Try.ntmps89 rfl rfl rfl ?_
  intro ctx hK pv
  refine PWc.seq ?_
  refine PWc.region ?_
  refine PWl.step (LR.move rfl) rfl ?_
  refine PWl.step (LR.move rfl) rfl ?_
  refine PWl.step (LR.lenStr Try.underlying9 rfl) rfl ?_
  refine PWl.step (LR.convInt Try.underlying36 (by rw [Try.underlying3]; rfl) rfl rfl) rfl ?_
  replace h := iDet h
  obtain ⟨y3, hy4, h⟩ := h
  refine PWl.step (LR.callObj [(100, 100), (101, 101)] [] [100, 101] (pack_Writer_Num_o_ok (IntKind.u64.wrap (ByteArray.size s1 : Int)) row2 y3 hy4) hK rfl Try.call81 rfl (by first | rfl | (simp; done) | (simp [PV.nilD, PV.ren, rn]; omega)) (.cons (by first | rfl | (congr 1; first | (simp; done) | (simp; omega))) <| .cons (by first | rfl | (congr 1; first | (simp; done) | (simp; omega))) <| .nil) rfl rfl rfl rfl) rfl ?_
  refine PWl.nil ?_
  refine PWc.re (tl := [(0, _), (1, _)]) (to := [(100, _), (101, _), (1100, _)]) rfl (.cons rfl rfl <| .cons rfl rfl <| .nil) (.cons rfl rfl <| .cons rfl rfl <| .cons rfl rfl <| .nil) ?_
  refine PWc.region ?_
  refine PWl.step (LR.move rfl) rfl ?_
  refine PWl.step (LR.move rfl) rfl ?_
  replace h := iNeed h
  obtain ⟨hy5, h⟩ := h
  refine PWl.step (LR.strBytes Try.underlying9 Try.underlying45 Try.underlying5 rfl hy5) rfl ?_
  replace h := iDet h
  obtain ⟨y6, hy7, h⟩ := h
  refine PWl.step (LR.callObj [(100, 100), (101, 101)] [] [100, 101] (pack_Writer_put_o_ok (bytesL s1) y3 y6 hy7) hK rfl Try.call126 rfl (by first | rfl | (simp; done) | (simp [PV.nilD, PV.ren, rn]; omega)) (.cons (by first | rfl | (congr 1; first | (simp; done) | (simp; omega))) <| .cons (by first | rfl | (congr 1; first | (simp; done) | (simp; omega))) <| .nil) rfl rfl rfl rfl) rfl ?_
  refine PWl.nil ?_
  replace h : _ = r0 := h
  subst h
  exact EndsO.mk () (.inl rfl) (Sub.of (tl := []) (to := [(100, _), (101, _), (1100, _)]) rfl (.nil) (.cons rfl (by first | rfl | (congr 1; congr 2; first | (simp; done) | (simp; omega))) <| .cons rfl rfl <| .cons rfl rfl <| .nil)) (.nil) rfl rfl

theorem ecode_Put_o_ok (e1 : TEvent) (row2 : List Int) (r0 : List Int) (h : (ecode_Put_o e1 row2).wp (· = r0)) : PObj Try.prog 39 [.ref 100 0, .agg (List.map .d (TEvent.e e1))] [(100, .cells 47 [.row 101 (List.length row2)]), (101, .row 5 1 (List.map (eK .u8) row2))] [100] (.tup []) (fun _ : Unit => [(100, .cells 47 [.row 101 (List.length r0)]), (101, .row 5 1 (List.map (eK .u8) r0))]) := by
  refine PObj.intro (sl := [(0, _), (1, _)]) Try.func39 rfl Try.ntmps39 rfl rfl rfl ?_
  intro ctx hK pv
  refine PWc.seq ?_
  refine PWc.region ?_
  refine PWl.step (LR.box rfl rfl rfl rfl) rfl ?_
  refine PWl.nil ?_
  refine PWc.seq ?_
  refine PWc.region ?_
  refine PWl.step (LR.move rfl) rfl ?_
  refine PWl.step (LR.fieldRef Try.underlying41 rfl Try.sizeOf38 (by decide) rfl rfl) rfl ?_
  refine PWl.step (LR.loadRefAgg (ps := [_, _]) Try.isAgg38 Try.sizeOf38 rfl rfl rfl rfl) rfl ?_
  replace h := iDet h
  obtain ⟨y3, hy4, h⟩ := h
  refine PWl.step (LR.callObj [(100, 100), (101, 101)] [] [100, 101] (dcode_PutDot_o_ok e1.dot row2 y3 hy4) hK rfl Try.call26 rfl (by first | rfl | (simp; done) | (simp [PV.nilD, PV.ren, rn]; omega)) (.cons (by first | rfl | (congr 1; first | (simp; done) | (simp; omega))) <| .cons (by first | rfl | (congr 1; first | (simp; done) | (simp; omega))) <| .nil) rfl rfl rfl rfl) rfl ?_
  refine PWl.nil ?_
  refine PWc.seq ?_
  refine PWc.re (tl := [(0, _), (3, _)]) (to := [(3, _), (100, _), (101, _), (1100, _)]) rfl (.cons rfl rfl <| .cons rfl rfl <| .nil) (.cons rfl rfl <| .cons rfl rfl <| .cons rfl rfl <| .cons rfl rfl <| .nil) ?_
  refine PWc.region ?_
  refine PWl.step (LR.move rfl) rfl ?_
  refine PWl.step (LR.fieldRef Try.underlying41 rfl Try.sizeOf5 (by decide) rfl rfl) rfl ?_
  refine PWl.step (LR.loadRef Try.isAgg5 rfl rfl rfl) rfl ?_
  replace h := iDet h
  obtain ⟨y5, hy6, h⟩ := h
  refine PWl.step (LR.callObj [(100, 100), (101, 101)] [] [100, 101] (pack_Writer_Byte_o_ok e1.kind y3 y5 hy6) hK rfl Try.call88 rfl (by first | rfl | (simp; done) | (simp [PV.nilD, PV.ren, rn]; omega)) (.cons (by first | rfl | (congr 1; first | (simp; done) | (simp; omega))) <| .cons (by first | rfl | (congr 1; first | (simp; done) | (simp; omega))) <| .nil) rfl rfl rfl rfl) rfl ?_
  refine PWl.nil ?_
  refine PWc.seq ?_
  refine PWc.re (tl := [(0, _), (3, _)]) (to := [(3, _), (100, _), (101, _), (1100, _)]) rfl (.cons rfl rfl <| .cons rfl rfl <| .nil) (.cons rfl rfl <| .cons rfl rfl <| .cons rfl rfl <| .cons rfl rfl <| .nil) ?_
  refine PWc.region ?_
  refine PWl.step (LR.move rfl) rfl ?_
  refine PWl.step (LR.fieldRef Try.underlying41 rfl Try.sizeOf36 (by decide) rfl rfl) rfl ?_
  refine PWl.step (LR.loadRef Try.isAgg36 rfl rfl rfl) rfl ?_
  replace h := iDet h
  obtain ⟨y7, hy8, h⟩ := h
  refine PWl.step (LR.callObj [(100, 100), (101, 101)] [] [100, 101] (pack_Writer_Num_o_ok e1.cid y5 y7 hy8) hK rfl Try.call81 rfl (by first | rfl | (simp; done) | (simp [PV.nilD, PV.ren, rn]; omega)) (.cons (by first | rfl | (congr 1; first | (simp; done) | (simp; omega))) <| .cons (by first | rfl | (congr 1; first | (simp; done) | (simp; omega))) <| .nil) rfl rfl rfl rfl) rfl ?_
  refine PWl.nil ?_
  refine PWc.seq ?_
  refine PWc.re (tl := [(0, _), (3, _)]) (to := [(3, _), (100, _), (101, _), (1100, _)]) rfl (.cons rfl rfl <| .cons rfl rfl <| .nil) (.cons rfl rfl <| .cons rfl rfl <| .cons rfl rfl <| .cons rfl rfl <| .nil) ?_
  refine PWc.region ?_
  refine PWl.step (LR.move rfl) rfl ?_
  refine PWl.step (LR.fieldRef Try.underlying41 rfl Try.sizeOf5 (by decide) rfl rfl) rfl ?_
  refine PWl.step (LR.loadRef Try.isAgg5 rfl rfl rfl) rfl ?_
  replace h := iDet h
  obtain ⟨y9, hy10, h⟩ := h
  refine PWl.step (LR.callObj [(100, 100), (101, 101)] [] [100, 101] (pack_Writer_Byte_o_ok e1.field y7 y9 hy10) hK rfl Try.call88 rfl (by first | rfl | (simp; done) | (simp [PV.nilD, PV.ren, rn]; omega)) (.cons (by first | rfl | (congr 1; first | (simp; done) | (simp; omega))) <| .cons (by first | rfl | (congr 1; first | (simp; done) | (simp; omega))) <| .nil) rfl rfl rfl rfl) rfl ?_
  refine PWl.nil ?_
  refine PWc.seq ?_
  refine PWc.re (tl := [(0, _), (3, _)]) (to := [(3, _), (100, _), (101, _), (1100, _)]) rfl (.cons rfl rfl <| .cons rfl rfl <| .nil) (.cons rfl rfl <| .cons rfl rfl <| .cons rfl rfl <| .cons rfl rfl <| .nil) ?_
  refine PWc.region ?_
  refine PWl.step (LR.move rfl) rfl ?_
  refine PWl.step (LR.fieldRef Try.underlying41 rfl Try.sizeOf9 (by decide) rfl rfl) rfl ?_
  refine PWl.step (LR.loadRef Try.isAgg9 rfl rfl rfl) rfl ?_
  replace h := iDet h
  obtain ⟨y11, hy12, h⟩ := h
  refine PWl.step (LR.callObj [(100, 100), (101, 101)] [] [100, 101] (pack_Writer_Text_o_ok e1.text y9 y11 hy12) hK rfl Try.call89 rfl (by first | rfl | (simp; done) | (simp [PV.nilD, PV.ren, rn]; omega)) (.cons (by first | rfl | (congr 1; first | (simp; done) | (simp; omega))) <| .cons (by first | rfl | (congr 1; first | (simp; done) | (simp; omega))) <| .nil) rfl rfl rfl rfl) rfl ?_
  refine PWl.nil ?_
  refine PWc.re (tl := [(0, _), (3, _)]) (to := [(3, _), (100, _), (101, _), (1100, _)]) rfl (.cons rfl rfl <| .cons rfl rfl <| .nil) (.cons rfl rfl <| .cons rfl rfl <| .cons rfl rfl <| .cons rfl rfl <| .nil) ?_
  refine PWc.region ?_
  refine PWl.step (LR.move rfl) rfl ?_
  refine PWl.step (LR.fieldRef Try.underlying41 rfl Try.sizeOf39 (by decide) rfl rfl) rfl ?_
  refine PWl.step (LR.loadRef Try.isAgg39 rfl rfl rfl) rfl ?_
  replace h := iDet h
  obtain ⟨y13, hy14, h⟩ := h
  refine PWl.step (LR.callObj [(100, 100), (101, 101)] [] [100, 101] (dcode_PutDots_o_ok e1.kills y11 y13 hy14) hK rfl Try.call27 rfl (by first | rfl | (simp; done) | (simp [PV.nilD, PV.ren, rn]; omega)) (.cons (by first | rfl | (congr 1; first | (simp; done) | (simp; omega))) <| .cons (by first | rfl | (congr 1; first | (simp; done) | (simp; omega))) <| .nil) rfl rfl rfl rfl) rfl ?_
  refine PWl.nil ?_
  replace h : _ = r0 := h
  subst h
  exact EndsO.mk () (.inl rfl) (Sub.of (tl := []) (to := [(100, _), (101, _), (1100, _)]) rfl (.nil) (.cons rfl (by first | rfl | (congr 1; congr 2; first | (simp; done) | (simp; omega))) <| .cons rfl rfl <| .cons rfl rfl <| .nil)) (.nil) rfl rfl

theorem ecode_Encode_ok (e1 : TEvent) (r0 : List Int × Int) (h : (ecode_Encode e1).wp (· = r0)) : PFun Try.prog 41 [.agg (List.map .d (TEvent.e e1))] (.tup [.d (.sl (List.map (eK .u8) r0.1)), .d (.v (.int .i64 r0.2))]) := by
  refine PFun.intro (sl := [(0, _)]) Try.func41 rfl Try.ntmps41 rfl rfl ?_
  intro ctx hK
  refine PWc.seq ?_
  refine PWc.region ?_
  refine PWl.step (LR.box rfl rfl rfl rfl) rfl ?_
  refine PWl.step (LR.assignNilRow 5 1 rfl) rfl ?_
  refine PWl.step (LR.assign rfl) rfl ?_
  refine PWl.nil ?_
  refine PWc.seq ?_
  refine PWc.seq ?_
  refine PWc.region ?_
  refine PWl.step (LR.loadRefAgg (ps := [_, _, _, _, _, _, _]) Try.isAgg41 Try.sizeOf41 rfl rfl rfl rfl) rfl ?_
  replace h := iDet h
  obtain ⟨v2, hy3, h⟩ := h
  refine PWl.step (LR.callN (event_Good_ok e1 v2 hy3) rfl Try.call91 rfl rfl rfl rfl) rfl ?_
  refine PWl.step (LR.not rfl) rfl ?_
  refine PWl.nil ?_
  refine PWc.cond rfl (fun hc4 => ?_) (fun hc4 => ?_)
  · replace h := iT hc4 h
    refine PWc.seq ?_
    refine PWc.region ?_
    refine PWl.re (tl := [(0, _), (1, _), (3, _), (5, _), (6, _), (7, _)]) (to := [(1, _)]) rfl (.cons rfl rfl <| .cons rfl rfl <| .cons rfl rfl <| .cons rfl rfl <| .cons rfl rfl <| .cons rfl rfl <| .nil) (.cons rfl rfl <| .nil) ?_
    refine PWl.step (LR.assignNilRow 5 1 rfl) rfl ?_
    refine PWl.step (LR.assign rfl) rfl ?_
    refine PWl.nil ?_
    refine PWc.ret ?_
    replace h : _ = r0 := h
    subst h
    exact ⟨.inr rfl, _, .cons (.row rfl rfl (by first | (simp; done) | (simp; omega) | omega)) <| .cons (.tmp rfl rfl) <| .nil, rfl⟩
  · replace h := iF hc4 h
    refine PWc.skip ?_
    refine PWc.seq ?_
    refine PWc.region ?_
    refine PWl.step (LR.allocR (cs := [_]) Try.zeroValue47 rfl rfl rfl rfl) rfl ?_
    refine PWl.sub (Sub.ownNil (id := 4) (j := 0) (id' := 30080) (e := 5) (k := 1) rfl rfl rfl rfl) ?_
    refine PWl.nil ?_
    refine PWc.seq ?_
    refine PWc.re (tl := [(1, _), (4, _)]) (to := [(1, _), (4, _), (30080, _)]) rfl (.cons rfl rfl <| .cons rfl rfl <| .nil) (.cons rfl rfl <| .cons rfl rfl <| .cons rfl rfl <| .nil) ?_
    refine PWc.region ?_
    refine PWl.step (LR.loadRefAgg (ps := [_, _, _, _, _, _, _]) Try.isAgg41 Try.sizeOf41 rfl rfl rfl rfl) rfl ?_
    replace h := iDet h
    obtain ⟨y5, hy6, h⟩ := h
    refine PWl.step (LR.callObj [(100, 4), (101, 30080)] [] [100, 101] (ecode_Put_o_ok e1 ([] : List Int) y5 hy6) hK rfl Try.call39 rfl (by first | rfl | (simp; done) | (simp [PV.nilD, PV.ren, rn]; omega)) (.cons (by first | rfl | (congr 1; first | (simp; done) | (simp; omega))) <| .cons (by first | rfl | (congr 1; first | (simp; done) | (simp; omega))) <| .nil) rfl rfl rfl rfl) rfl ?_
    refine PWl.nil ?_
    refine PWc.seq ?_
    refine PWc.re (tl := [(4, _)]) (to := [(4, _), (30080, _)]) rfl (.cons rfl rfl <| .nil) (.cons rfl rfl <| .cons rfl rfl <| .nil) ?_
    refine PWc.region ?_
    replace h := iDet h
    obtain ⟨y7, hy8, h⟩ := h
    refine PWl.step (LR.callObj [(100, 4), (101, 30080)] [] [100, 101] (pack_Writer_Bytes_o_ok y5 y7 hy8) hK rfl Try.call30 rfl (by first | rfl | (simp; done) | (simp [PV.nilD, PV.ren, rn]; omega)) (.cons (by first | rfl | (congr 1; first | (simp; done) | (simp; omega))) <| .cons (by first | rfl | (congr 1; first | (simp; done) | (simp; omega))) <| .nil) rfl rfl rfl rfl) rfl ?_
    refine PWl.step (LR.assign rfl) rfl ?_
    refine PWl.step (LR.assign rfl) rfl ?_
    refine PWl.nil ?_
    refine PWc.ret ?_
    replace h : _ = r0 := h
    subst h
    exact ⟨.inr rfl, _, .cons (.tmp rfl rfl) <| .cons (.tmp rfl rfl) <| .nil, rfl⟩
end Go.Proofs

namespace Go.Proofs
open Go.Ep
set_option maxHeartbeats 1000000
set_option maxRecDepth 100000
set_option linter.unusedVariables false
set_option linter.unusedSimpArgs false


theorem l16_works_ok  (r0 : Bool) (h : (l16_works ).wp (· = r0)) : PFun Try.prog 35 [] (.d (.v (.bool r0))) := by
  refine PFun.intro (sl := []) Try.func35 rfl Try.ntmps35 rfl rfl ?_
  intro ctx hK
  refine PWc.seq ?_
  refine PWc.region ?_
  refine PWl.step (LR.assign rfl) rfl ?_
  refine PWl.nil ?_
  refine PWc.seq ?_
  refine PWc.region ?_
  refine PWl.step (LR.build (ns := [_, _]) build38 rfl rfl rfl) rfl ?_
  refine PWl.step (LR.allocZ (cs := [_, _]) Try.zeroValue38 rfl rfl rfl rfl) rfl ?_
  refine PWl.step (LR.storeB (ns := [_, _]) Try.sizeOf38 rfl rfl rfl rfl rfl rfl rfl) rfl ?_
  refine PWl.nil ?_
  refine PWc.seq ?_
  refine PWc.region ?_
  refine PWl.step (LR.build (ns := [_, _]) build38 rfl rfl rfl) rfl ?_
  refine PWl.step (LR.loadRefAgg (ps := [_, _]) Try.isAgg38 Try.sizeOf38 rfl rfl rfl rfl) rfl ?_
  refine PWl.step (LR.buildSliceD [.tmp 7] elem39 rfl rfl (.cons rfl rfl rfl <| .nil) (by decide) (by decide)) rfl ?_
  refine PWl.step (LR.build (ns := [_, _, _, _, _, _, _]) build41 rfl rfl rfl) rfl ?_
  replace h := iDet h
  obtain ⟨v1, hy2, h⟩ := h
  refine PWl.step (LR.callN (ecode_Encode_ok (⟨(⟨1, 2⟩ : TDot), 2, 281474976710657, 0, (⟨#[]⟩ : ByteArray), [(⟨1, 1⟩ : TDot)]⟩ : TEvent) v1 hy2) rfl Try.call41 rfl rfl rfl rfl) rfl ?_
  refine PWl.step (LR.move rfl) rfl ?_
  refine PWl.step (LR.extract rfl rfl) rfl ?_
  refine PWl.step (LR.extract rfl rfl) rfl ?_
  refine PWl.step (LR.assign rfl) rfl ?_
  refine PWl.step (LR.assign rfl) rfl ?_
  refine PWl.nil ?_
  refine PWc.seq ?_
  refine PWc.jn (iBind h) (fun (v3 : Bool) (_ : Unit) => ⟨20, [(0, .d (.v (.bool v3)))], []⟩) (fun h => ?_) ?_
  · refine PWc.region ?_
    refine PWl.step (LR.move rfl) rfl ?_
    refine PWl.step (LR.eql rfl rfl) rfl ?_
    refine PWl.step (LR.move rfl) rfl ?_
    refine PWl.split (d := 15) rfl (fun hg4 => ?_) (fun hg4 => ?_)
    · replace h := iT hg4 h
      refine PWl.guardT (LR.move rfl) rfl rfl rfl ?_
      refine PWl.guardT (LR.buildSliceD [.const (.int .u8 1), .const (.int .u8 1), .const (.int .u8 1), .const (.int .u8 2), .const (.int .u8 2), .const (.int .u8 7), .const (.int .u8 1), .const (.int .u8 0), .const (.int .u8 0), .const (.int .u8 0), .const (.int .u8 0), .const (.int .u8 0), .const (.int .u8 1), .const (.int .u8 0), .const (.int .u8 0), .const (.int .u8 1), .const (.int .u8 1), .const (.int .u8 1), .const (.int .u8 1), .const (.int .u8 1), .const (.int .u8 1)] elem45 rfl rfl (.cons rfl rfl rfl <| .cons rfl rfl rfl <| .cons rfl rfl rfl <| .cons rfl rfl rfl <| .cons rfl rfl rfl <| .cons rfl rfl rfl <| .cons rfl rfl rfl <| .cons rfl rfl rfl <| .cons rfl rfl rfl <| .cons rfl rfl rfl <| .cons rfl rfl rfl <| .cons rfl rfl rfl <| .cons rfl rfl rfl <| .cons rfl rfl rfl <| .cons rfl rfl rfl <| .cons rfl rfl rfl <| .cons rfl rfl rfl <| .cons rfl rfl rfl <| .cons rfl rfl rfl <| .cons rfl rfl rfl <| .cons rfl rfl rfl <| .nil) (by decide) (by decide)) rfl rfl rfl ?_
      replace h := iDet h
      obtain ⟨v5, hy6, h⟩ := h
      refine PWl.guardT (LR.callN (l16_equal_ok v1.1 ([1, 1, 1, 2, 2, 7, 1, 0, 0, 0, 0, 0, 1, 0, 0, 1, 1, 1, 1, 1, 1]) v5 hy6) rfl Try.call37 rfl rfl rfl rfl) rfl rfl rfl ?_
      refine PWl.step (LR.pickT rfl rfl) rfl ?_
      refine PWl.re (tl := [(0, _), (19, _)]) (to := []) rfl (.cons rfl rfl <| .cons rfl rfl <| .nil) (.nil) ?_
      refine PWl.step (LR.assign rfl) rfl ?_
      refine PWl.nil ?_
      exact ⟨v5, (), h, Sub.of rfl (.cons rfl rfl <| .nil) (.nil)⟩
    · replace h := iF hg4 h
      refine PWl.guardF rfl rfl rfl (by decide) ?_
      refine PWl.guardF rfl rfl rfl (by decide) ?_
      refine PWl.guardF rfl rfl rfl (by decide) ?_
      refine PWl.step (LR.pickF rfl rfl) rfl ?_
      refine PWl.re (tl := [(0, _), (19, _)]) (to := []) rfl (.cons rfl rfl <| .cons rfl rfl <| .nil) (.nil) ?_
      refine PWl.step (LR.assign rfl) rfl ?_
      refine PWl.nil ?_
      exact ⟨false, (), h, Sub.of rfl (.cons rfl rfl <| .nil) (.nil)⟩
  · rintro v3 _ h
    refine PWc.ret ?_
    replace h : _ = r0 := h
    subst h
    exact ⟨.inr rfl, _, .cons (.tmp rfl rfl) <| .nil, rfl⟩

theorem r04_Text_ok (b1 : List Int) (s2 : ByteArray) (r0 : List Int) (h : (r04_Text b1 s2).wp (· = r0)) : PRow Try.prog 90 [.d (.sl (List.map (eK .u8) b1)), .d (.v (.string s2))] 5 1 (List.map (eK .u8) r0) := by
  refine PRow.intro (sl := [(0, _), (1, _)]) Try.func90 rfl Try.ntmps90 rfl rfl ?_
  intro ctx hK
  refine PWc.seq ?_
  refine PWc.region ?_
  refine PWl.step (LR.assignNilRow 5 1 rfl) rfl ?_
  refine PWl.nil ?_
  refine PWc.seq ?_
  refine PWc.region ?_
  refine PWl.step (LR.move rfl) rfl ?_
  refine PWl.step (LR.move rfl) rfl ?_
  refine PWl.step (LR.lenStr Try.underlying9 rfl) rfl ?_
  refine PWl.step (LR.convInt Try.underlying36 (by rw [Try.underlying3]; rfl) rfl rfl) rfl ?_
  replace h := iDet h
  obtain ⟨v3, hy4, h⟩ := h
  refine PWl.step (LR.rowN (r03_Append_ok b1 (IntKind.u64.wrap (ByteArray.size s2 : Int)) v3 hy4) rfl Try.call85 rfl rfl rfl rfl) rfl ?_
  refine PWl.step (LR.assign rfl) rfl ?_
  refine PWl.nil ?_
  refine PWc.seq ?_
  refine PWc.seq ?_
  refine PWc.region ?_
  refine PWl.step (LR.assign rfl) rfl ?_
  refine PWl.nil ?_
  refine PWc.jn (iBind h) (fun (v5 : List Int) (_ : Unit) => ⟨25, [(5, .row 11 (List.length v5))], [(11, .row 5 1 (List.map (eK .u8) v5))]⟩) (fun h => ?_) ?_
  · refine PWc.block ?_
    refine PWc.loopM (fun (⟨i16, v17⟩ : Int × List Int) (_ : Unit) => ⟨25, [(1, .d (.v (.string s2))), (5, .row 11 (List.length v17)), (6, .d (.v (.int .i64 i16)))], [(11, .row 5 1 (List.map (eK .u8) v17))]⟩) () h (Sub.of rfl (.cons rfl rfl <| .cons rfl rfl <| .cons rfl rfl <| .nil) (.cons rfl rfl <| .nil)) ?_
    rintro N ⟨i16, v17⟩ _ h
    refine PWc.seq ?_
    refine PWc.seq ?_
    refine PWc.region ?_
    refine PWl.step (LR.move rfl) rfl ?_
    refine PWl.step (LR.move rfl) rfl ?_
    refine PWl.step (LR.lenStr Try.underlying9 rfl) rfl ?_
    refine PWl.step (LR.lss rfl rfl) rfl ?_
    refine PWl.nil ?_
    refine PWc.cond rfl (fun hc18 => ?_) (fun hc18 => ?_)
    · replace h := iT hc18 h
      refine PWc.skip ?_
      refine PWc.seq ?_
      refine PWc.block ?_
      refine PWc.region ?_
      refine PWl.step (LR.move rfl) rfl ?_
      refine PWl.step (LR.move rfl) rfl ?_
      refine PWl.step (LR.move rfl) rfl ?_
      replace h := iIdx h
      obtain ⟨b19, hy20, h⟩ := h
      refine PWl.step (LR.strIdx Try.underlying9 rfl rfl hy20) rfl ?_
      refine PWl.step (LR.buildSliceD [.tmp 21] elem45 rfl rfl (.cons rfl rfl rfl <| .nil) (by decide) (by decide)) rfl ?_
      replace h := iNeed h
      obtain ⟨hy21, h⟩ := h
      refine PWl.step (LR.appT (enc := (eK .u8)) (L := v17) (R := [b19]) [5, 18] elem45 Try.underlying45 rfl rfl rfl (Src.slT (enc := (eK .u8)) (R := [b19]) rfl (fun _ => rfl)) (fun _ => rfl) hy21 rfl rfl) rfl ?_
      refine PWl.step (LR.assign rfl) rfl ?_
      refine PWl.nil ?_
      refine PWc.region ?_
      refine PWl.step (LR.move rfl) rfl ?_
      refine PWl.step (LR.addW rfl rfl) rfl ?_
      refine PWl.step (LR.assign rfl) rfl ?_
      refine PWl.nil ?_
      exact ⟨((IntKind.i64.wrap (i16 + 1)), (v17 ++ [b19])), (), h, Sub.of rfl (.cons rfl rfl <| .cons rfl rfl <| .cons rfl rfl <| .nil) (.cons rfl rfl <| .nil)⟩
    · replace h := iF hc18 h
      refine PWc.exit ?_
      exact ⟨v17, (), h, Sub.of rfl (.cons rfl rfl <| .nil) (.cons rfl rfl <| .nil)⟩
  · rintro v5 _ h
    refine PWc.seq ?_
    refine PWc.region ?_
    refine PWl.step (LR.move rfl) rfl ?_
    refine PWl.step (LR.assign rfl) rfl ?_
    refine PWl.nil ?_
    refine PWc.ret ?_
    replace h : _ = r0 := h
    subst h
    exact ⟨.inr rfl, 4, rfl, .inr ⟨11, _, rfl, (by simp), rfl⟩⟩

theorem r16_Put_ok (b1 : List Int) (e2 : TEvent) (r0 : List Int) (h : (r16_Put b1 e2).wp (· = r0)) : PFun Try.prog 40 [.d (.sl (List.map (eK .u8) b1)), .agg (List.map .d (TEvent.e e2))] (.d (.sl (List.map (eK .u8) r0))) := by
  refine PFun.intro (sl := [(0, _), (1, _)]) Try.func40 rfl Try.ntmps40 rfl rfl ?_
  intro ctx hK
  refine PWc.seq ?_
  refine PWc.region ?_
  refine PWl.step (LR.box rfl rfl rfl rfl) rfl ?_
  refine PWl.step (LR.assignNilRow 5 1 rfl) rfl ?_
  refine PWl.nil ?_
  refine PWc.seq ?_
  refine PWc.re (tl := [(0, _), (3, _)]) (to := [(3, _)]) rfl (.cons rfl rfl <| .cons rfl rfl <| .nil) (.cons rfl rfl <| .nil) ?_
  refine PWc.regionE [⟨[6], [], [], [], [], [], [], []⟩, ⟨[7], [], [], [], [], [3], [], []⟩, ⟨[8], [], [3], [], [], [], [], []⟩, ⟨[9], [9], [], [9], [], [9], [], []⟩, ⟨[10], [], [], [], [], [3], [], []⟩, ⟨[11], [], [3], [], [], [], [], []⟩, ⟨[12], [], [], [], [], [], [], []⟩, ⟨[9, 13], [9], [9], [], [(9, [9])], [9], [], []⟩, ⟨[5], [], [], [], [], [9], [], []⟩] (by kernel_rfl) (by kernel_rfl) rfl ?_
  refine PQe.stepP (fun _ he ho => LR.move (he rfl rfl)) (.inl rfl) rfl ?_
  refine PQe.stepP (fun _ he ho => LR.fieldRef Try.underlying41 rfl Try.sizeOf38 (by decide) rfl (he rfl rfl)) (.inl rfl) rfl ?_
  refine PQe.stepP (fun _ he ho => LR.loadRefAgg (ps := [_, _]) Try.isAgg38 Try.sizeOf38 (he rfl rfl) (ho rfl rfl) rfl rfl) (.inl rfl) rfl ?_
  replace h := iDet h
  obtain ⟨v3, hy4, h⟩ := h
  refine PQe.stepN (fun _ he ho hf => LR.rowN (r15_PutDot_ok b1 e2.dot v3 hy4) (he rfl rfl) Try.call31 (evsE he rfl rfl) rfl rfl hf) rfl (.inl rfl) rfl ?_
  refine PQe.stepP (fun _ he ho => LR.fieldRef Try.underlying41 rfl Try.sizeOf5 (by decide) rfl (he rfl rfl)) (.inl rfl) rfl ?_
  refine PQe.stepP (fun _ he ho => LR.loadRef Try.isAgg5 (he rfl rfl) (ho rfl rfl) rfl) (.inl rfl) rfl ?_
  refine PQe.stepP (fun _ he ho => LR.buildSliceD [.tmp 11] elem45 rfl rfl (.cons (he rfl rfl) rfl rfl <| .nil) (by decide) (by decide)) (.inl rfl) rfl ?_
  replace h := iNeed h
  obtain ⟨hy5, h⟩ := h
  refine PQe.stepA [9] (fun _ he ho ha => LR.appT (enc := (eK .u8)) (L := v3) (R := [e2.kind]) [9] elem45 Try.underlying45 (he rfl rfl) rfl (ho rfl rfl) (Src.slT (enc := (eK .u8)) (R := [e2.kind]) (he rfl rfl) (fun _ => rfl)) (fun _ => rfl) hy5 rfl ha) rfl (.inl rfl) rfl ?_
  refine PQe.stepP (fun _ he ho => LR.assign (he rfl rfl)) (.inl rfl) rfl ?_
  refine PQe.nil ?_
  refine PWc.seq ?_
  refine PWc.region ?_
  refine PWl.step (LR.move rfl) rfl ?_
  refine PWl.step (LR.fieldRef Try.underlying41 rfl Try.sizeOf36 (by decide) rfl rfl) rfl ?_
  refine PWl.step (LR.loadRef Try.isAgg36 rfl rfl rfl) rfl ?_
  replace h := iDet h
  obtain ⟨v6, hy7, h⟩ := h
  refine PWl.frz [5, 13, 14] hK (.cons rfl <| .cons rfl <| .cons rfl <| .nil) rfl (by simp) ?_
  refine PWl.step (LR.rowN (r03_Append_ok (v3 ++ [e2.kind]) e2.cid v6 hy7) rfl Try.call85 rfl rfl rfl rfl) rfl ?_
  refine PWl.step (LR.assign rfl) rfl ?_
  refine PWl.nil ?_
  refine PWc.seq ?_
  refine PWc.region ?_
  refine PWl.step (LR.move rfl) rfl ?_
  refine PWl.step (LR.fieldRef Try.underlying41 rfl Try.sizeOf5 (by decide) rfl rfl) rfl ?_
  refine PWl.step (LR.loadRef Try.isAgg5 rfl rfl rfl) rfl ?_
  refine PWl.step (LR.buildSliceD [.tmp 20] elem45 rfl rfl (.cons rfl rfl rfl <| .nil) (by decide) (by decide)) rfl ?_
  replace h := iNeed h
  obtain ⟨hy8, h⟩ := h
  refine PWl.step (LR.appT (enc := (eK .u8)) (L := v6) (R := [e2.field]) [5, 17, 18] elem45 Try.underlying45 rfl rfl rfl (Src.slT (enc := (eK .u8)) (R := [e2.field]) rfl (fun _ => rfl)) (fun _ => rfl) hy8 rfl rfl) rfl ?_
  refine PWl.re (tl := [(3, _), (22, _)]) (to := [(3, _), (17, _)]) rfl (.cons rfl rfl <| .cons rfl rfl <| .nil) (.cons rfl rfl <| .cons rfl rfl <| .nil) ?_
  refine PWl.step (LR.assign rfl) rfl ?_
  refine PWl.nil ?_
  refine PWc.seq ?_
  refine PWc.region ?_
  refine PWl.step (LR.move rfl) rfl ?_
  refine PWl.step (LR.fieldRef Try.underlying41 rfl Try.sizeOf9 (by decide) rfl rfl) rfl ?_
  refine PWl.step (LR.loadRef Try.isAgg9 rfl rfl rfl) rfl ?_
  replace h := iDet h
  obtain ⟨v9, hy10, h⟩ := h
  refine PWl.frz [5, 22, 23] hK (.cons rfl <| .cons rfl <| .cons rfl <| .nil) rfl (by simp) ?_
  refine PWl.step (LR.rowN (r04_Text_ok (v6 ++ [e2.field]) e2.text v9 hy10) rfl Try.call90 rfl rfl rfl rfl) rfl ?_
  refine PWl.step (LR.assign rfl) rfl ?_
  refine PWl.nil ?_
  refine PWc.seq ?_
  refine PWc.region ?_
  refine PWl.step (LR.move rfl) rfl ?_
  refine PWl.step (LR.fieldRef Try.underlying41 rfl Try.sizeOf39 (by decide) rfl rfl) rfl ?_
  refine PWl.step (LR.loadRef Try.isAgg39 rfl rfl rfl) rfl ?_
  replace h := iDet h
  obtain ⟨v11, hy12, h⟩ := h
  refine PWl.frz [5, 26, 27] hK (.cons rfl <| .cons rfl <| .cons rfl <| .nil) rfl (by simp) ?_
  refine PWl.step (LR.callN (r15_PutDots_ok v9 e2.kills v11 hy12) rfl Try.call32 rfl rfl rfl rfl) rfl ?_
  refine PWl.step (LR.assign rfl) rfl ?_
  refine PWl.nil ?_
  refine PWc.ret ?_
  replace h : _ = r0 := h
  subst h
  exact ⟨.inr rfl, _, .cons (.tmp rfl rfl) <| .nil, rfl⟩

theorem r16_PutAll_ok (b1 : List Int) (l2 : List TEvent) (r0 : List Int) (h : (r16_PutAll b1 l2).wp (· = r0)) : PFun Try.prog 38 [.d (.sl (List.map (eK .u8) b1)), .d (.sl (List.map TEvent.e l2))] (.d (.sl (List.map (eK .u8) r0))) := by
  refine PFun.intro (sl := [(0, _), (1, _)]) Try.func38 rfl Try.ntmps38 rfl rfl ?_
  intro ctx hK
  refine PWc.seq ?_
  refine PWc.region ?_
  refine PWl.step (LR.assignNilRow 5 1 rfl) rfl ?_
  refine PWl.nil ?_
  refine PWc.seq ?_
  refine PWc.region ?_
  refine PWl.step (LR.move rfl) rfl ?_
  refine PWl.step (LR.move rfl) rfl ?_
  refine PWl.step (LR.lenMap (enc := TEvent.e) (L := l2) Try.underlying22 rfl) rfl ?_
  refine PWl.step (LR.convInt Try.underlying36 (by rw [Try.underlying3]; rfl) rfl rfl) rfl ?_
  replace h := iDet h
  obtain ⟨v3, hy4, h⟩ := h
  refine PWl.step (LR.rowN (r03_Append_ok b1 (IntKind.u64.wrap (List.length l2 : Int)) v3 hy4) rfl Try.call85 rfl rfl rfl rfl) rfl ?_
  refine PWl.step (LR.assign rfl) rfl ?_
  refine PWl.nil ?_
  refine PWc.seq ?_
  refine PWc.seq ?_
  refine PWc.region ?_
  refine PWl.step (LR.assign rfl) rfl ?_
  refine PWl.nil ?_
  refine PWc.jn (iBind h) (fun (out5 : List Int) (_ : Unit) => ⟨25, [(5, .d (.sl (List.map (eK .u8) out5)))], []⟩) (fun h => ?_) ?_
  · refine PWc.block ?_
    refine PWc.loopM (fun (⟨out18, i19⟩ : List Int × Int) (_ : Unit) => ⟨25, [(1, .d (.sl (List.map TEvent.e l2))), (5, .d (.sl (List.map (eK .u8) out18))), (6, .d (.v (.int .i64 i19)))], []⟩) () h (Sub.trans (Sub.frz [5, 11] hK rfl (by simp) (AllRow.get (.cons rfl <| .cons rfl <| .nil))) <| Sub.of rfl (.cons rfl rfl <| .cons rfl rfl <| .cons rfl rfl <| .nil) (.nil)) ?_
    rintro N ⟨out18, i19⟩ _ h
    refine PWc.seq ?_
    refine PWc.seq ?_
    refine PWc.region ?_
    refine PWl.step (LR.move rfl) rfl ?_
    refine PWl.step (LR.move rfl) rfl ?_
    refine PWl.step (LR.lenMap (enc := TEvent.e) (L := l2) Try.underlying22 rfl) rfl ?_
    refine PWl.step (LR.lss rfl rfl) rfl ?_
    refine PWl.nil ?_
    refine PWc.cond rfl (fun hc20 => ?_) (fun hc20 => ?_)
    · replace h := iT hc20 h
      refine PWc.skip ?_
      refine PWc.seq ?_
      refine PWc.block ?_
      refine PWc.region ?_
      refine PWl.step (LR.move rfl) rfl ?_
      refine PWl.step (LR.move rfl) rfl ?_
      refine PWl.step (LR.move rfl) rfl ?_
      replace h := iIdx h
      obtain ⟨x21, hy22, h⟩ := h
      refine PWl.step (LR.idxT (enc := TEvent.e) (L := l2) (y := x21) Try.underlying22 Try.sizeOf41 rfl rfl hy22 (fun _ => rfl)) rfl ?_
      refine PWl.step (LR.loadEpAgg (ys := [_, _, _, _, _, _, _]) Try.isAgg41 Try.sizeOf41 rfl rfl rfl) rfl ?_
      replace h := iDet h
      obtain ⟨v23, hy24, h⟩ := h
      refine PWl.step (LR.callN (r16_Put_ok out18 x21 v23 hy24) rfl Try.call40 rfl rfl rfl rfl) rfl ?_
      refine PWl.step (LR.assign rfl) rfl ?_
      refine PWl.nil ?_
      refine PWc.region ?_
      refine PWl.step (LR.move rfl) rfl ?_
      refine PWl.step (LR.addW rfl rfl) rfl ?_
      refine PWl.step (LR.assign rfl) rfl ?_
      refine PWl.nil ?_
      exact ⟨(v23, (IntKind.i64.wrap (i19 + 1))), (), h, Sub.of rfl (.cons rfl rfl <| .cons rfl rfl <| .cons rfl rfl <| .nil) (.nil)⟩
    · replace h := iF hc20 h
      refine PWc.exit ?_
      exact ⟨out18, (), h, Sub.of rfl (.cons rfl rfl <| .nil) (.nil)⟩
  · rintro out5 _ h
    refine PWc.seq ?_
    refine PWc.region ?_
    refine PWl.step (LR.move rfl) rfl ?_
    refine PWl.step (LR.assign rfl) rfl ?_
    refine PWl.nil ?_
    refine PWc.ret ?_
    replace h : _ = r0 := h
    subst h
    exact ⟨.inr rfl, _, .cons (.tmp rfl rfl) <| .nil, rfl⟩

theorem ecode_PutAll_o_ok (l1 : List TEvent) (row2 : List Int) (r0 : List Int) (h : (ecode_PutAll_o l1 row2).wp (· = r0)) : PObj Try.prog 36 [.ref 100 0, .d (.sl (List.map TEvent.e l1))] [(100, .cells 47 [.row 101 (List.length row2)]), (101, .row 5 1 (List.map (eK .u8) row2))] [100] (.tup []) (fun _ : Unit => [(100, .cells 47 [.row 101 (List.length r0)]), (101, .row 5 1 (List.map (eK .u8) r0))]) := by
  refine PObj.intro (sl := [(0, _), (1, _)]) Try.func36 rfl Try.ntmps36 rfl rfl rfl ?_
  intro ctx hK pv
  refine PWc.seq ?_
  refine PWc.region ?_
  refine PWl.step (LR.move rfl) rfl ?_
  refine PWl.step (LR.move rfl) rfl ?_
  refine PWl.step (LR.lenMap (enc := TEvent.e) (L := l1) Try.underlying22 rfl) rfl ?_
  refine PWl.step (LR.convInt Try.underlying36 (by rw [Try.underlying3]; rfl) rfl rfl) rfl ?_
  replace h := iDet h
  obtain ⟨y3, hy4, h⟩ := h
  refine PWl.step (LR.callObj [(100, 100), (101, 101)] [] [100, 101] (pack_Writer_Num_o_ok (IntKind.u64.wrap (List.length l1 : Int)) row2 y3 hy4) hK rfl Try.call81 rfl (by first | rfl | (simp; done) | (simp [PV.nilD, PV.ren, rn]; omega)) (.cons (by first | rfl | (congr 1; first | (simp; done) | (simp; omega))) <| .cons (by first | rfl | (congr 1; first | (simp; done) | (simp; omega))) <| .nil) rfl rfl rfl rfl) rfl ?_
  refine PWl.nil ?_
  refine PWc.seq ?_
  refine PWc.re (tl := [(0, _), (1, _)]) (to := [(100, _), (101, _), (1100, _)]) rfl (.cons rfl rfl <| .cons rfl rfl <| .nil) (.cons rfl rfl <| .cons rfl rfl <| .cons rfl rfl <| .nil) ?_
  refine PWc.region ?_
  refine PWl.step (LR.move rfl) rfl ?_
  refine PWl.step (LR.lenMap (enc := TEvent.e) (L := l1) Try.underlying22 rfl) rfl ?_
  refine PWl.step (LR.move rfl) rfl ?_
  refine PWl.nil ?_
  refine PWc.block ?_
  refine PWc.loopM (fun (⟨v17, v18⟩ : Int × List Int) (_ : Unit) => ⟨21, [(0, .ref 100 0), (11, .d (.sl (List.map TEvent.e l1))), (12, .d (.v (.int .i64 (List.length l1 : Int)))), (13, .d (.v (.int .i64 v17)))], [(100, .cells 47 [.row 101 (List.length v18)]), (101, .row 5 1 (List.map (eK .u8) v18)), (1100, .pin 100 (pv 100).1 (pv 100).2)]⟩) () h (Sub.of rfl (.cons rfl rfl <| .cons rfl rfl <| .cons rfl rfl <| .cons rfl rfl <| .nil) (.cons rfl rfl <| .cons rfl rfl <| .cons rfl rfl <| .nil)) ?_
  rintro N ⟨v17, v18⟩ _ h
  refine PWc.seq ?_
  refine PWc.region ?_
  refine PWl.step (LR.lss rfl rfl) rfl ?_
  refine PWl.nil ?_
  refine PWc.seq ?_
  refine PWc.cond rfl (fun hc19 => ?_) (fun hc19 => ?_)
  · replace h := iT hc19 h
    refine PWc.skip ?_
    refine PWc.seq ?_
    refine PWc.block ?_
    refine PWc.seq ?_
    refine PWc.region ?_
    replace h := iIdx h
    obtain ⟨x20, hy21, h⟩ := h
    refine PWl.step (LR.idxT (enc := TEvent.e) (L := l1) (y := x20) Try.underlying22 Try.sizeOf41 rfl rfl hy21 (fun _ => rfl)) rfl ?_
    refine PWl.step (LR.loadEpAgg (ys := [_, _, _, _, _, _, _]) Try.isAgg41 Try.sizeOf41 rfl rfl rfl) rfl ?_
    refine PWl.step (LR.allocZ (cs := [_, _, _, _, _, _, _]) Try.zeroValue41 rfl rfl rfl rfl) rfl ?_
    refine PWl.step (LR.storeB (ns := [_, _, _, _, _, _, _]) Try.sizeOf41 rfl rfl rfl rfl rfl rfl rfl) rfl ?_
    refine PWl.nil ?_
    refine PWc.region ?_
    refine PWl.step (LR.move rfl) rfl ?_
    refine PWl.step (LR.loadRefAgg (ps := [_, _, _, _, _, _, _]) Try.isAgg41 Try.sizeOf41 rfl rfl rfl rfl) rfl ?_
    replace h := iDet h
    obtain ⟨y22, hy23, h⟩ := h
    refine PWl.step (LR.callObj [(100, 100), (101, 101)] [] [100, 101] (ecode_Put_o_ok x20 v18 y22 hy23) hK rfl Try.call39 rfl (by first | rfl | (simp; done) | (simp [PV.nilD, PV.ren, rn]; omega)) (.cons (by first | rfl | (congr 1; first | (simp; done) | (simp; omega))) <| .cons (by first | rfl | (congr 1; first | (simp; done) | (simp; omega))) <| .nil) rfl rfl rfl rfl) rfl ?_
    refine PWl.nil ?_
    refine PWc.re (tl := [(0, _), (11, _), (12, _), (13, _)]) (to := [(100, _), (101, _), (1100, _)]) rfl (.cons rfl rfl <| .cons rfl rfl <| .cons rfl rfl <| .cons rfl rfl <| .nil) (.cons rfl rfl <| .cons rfl rfl <| .cons rfl rfl <| .nil) ?_
    refine PWc.region ?_
    refine PWl.step (LR.addW rfl rfl) rfl ?_
    refine PWl.step (LR.move rfl) rfl ?_
    refine PWl.nil ?_
    exact ⟨((IntKind.i64.wrap (v17 + 1)), y22), (), h, Sub.of rfl (.cons rfl rfl <| .cons rfl rfl <| .cons rfl rfl <| .cons rfl rfl <| .nil) (.cons rfl rfl <| .cons rfl rfl <| .cons rfl rfl <| .nil)⟩
  · replace h := iF hc19 h
    refine PWc.exit ?_
    replace h : _ = r0 := h
    subst h
    exact EndsO.mk () (.inl rfl) (Sub.of (tl := []) (to := [(100, _), (101, _), (1100, _)]) rfl (.nil) (.cons rfl (by first | rfl | (congr 1; congr 2; first | (simp; done) | (simp; omega))) <| .cons rfl rfl <| .cons rfl rfl <| .nil)) (.nil) rfl rfl

theorem l16_EcodeWrites_ok (l1 : List TEvent) (r0 : Bool) (h : (l16_EcodeWrites l1).wp (· = r0)) : PFun Try.prog 6 [.d (.sl (List.map TEvent.e l1))] (.d (.v (.bool r0))) := by
  refine PFun.intro (sl := [(0, _)]) Try.func6 rfl Try.ntmps6 rfl rfl ?_
  intro ctx hK
  refine PWc.seq ?_
  refine PWc.region ?_
  refine PWl.step (LR.assign rfl) rfl ?_
  refine PWl.nil ?_
  refine PWc.seq ?_
  refine PWc.seq ?_
  refine PWc.region ?_
  refine PWl.step (LR.move rfl) rfl ?_
  replace h := iDet h
  obtain ⟨v2, hy3, h⟩ := h
  refine PWl.step (LR.callN (r13_Few_ok l1 12 v2 hy3) rfl Try.call12 rfl rfl rfl rfl) rfl ?_
  refine PWl.step (LR.not rfl) rfl ?_
  refine PWl.nil ?_
  refine PWc.cond rfl (fun hc4 => ?_) (fun hc4 => ?_)
  · replace h := iT hc4 h
    refine PWc.seq ?_
    refine PWc.region ?_
    replace h := iDet h
    obtain ⟨v5, hy6, h⟩ := h
    refine PWl.step (LR.callN (l16_works_ok v5 hy6) rfl Try.call35 rfl rfl rfl rfl) rfl ?_
    refine PWl.step (LR.assign rfl) rfl ?_
    refine PWl.nil ?_
    refine PWc.ret ?_
    replace h : _ = r0 := h
    subst h
    exact ⟨.inr rfl, _, .cons (.tmp rfl rfl) <| .nil, rfl⟩
  · replace h := iF hc4 h
    refine PWc.skip ?_
    refine PWc.seq ?_
    refine PWc.region ?_
    refine PWl.step (LR.allocR (cs := [_]) Try.zeroValue47 rfl rfl rfl rfl) rfl ?_
    refine PWl.sub (Sub.ownNil (id := 3) (j := 0) (id' := 30060) (e := 5) (k := 1) rfl rfl rfl rfl) ?_
    refine PWl.nil ?_
    refine PWc.seq ?_
    refine PWc.re (tl := [(0, _), (3, _)]) (to := [(3, _), (30060, _)]) rfl (.cons rfl rfl <| .cons rfl rfl <| .nil) (.cons rfl rfl <| .cons rfl rfl <| .nil) ?_
    refine PWc.region ?_
    refine PWl.step (LR.move rfl) rfl ?_
    replace h := iDet h
    obtain ⟨y7, hy8, h⟩ := h
    refine PWl.step (LR.callObj [(100, 3), (101, 30060)] [] [100, 101] (ecode_PutAll_o_ok l1 ([] : List Int) y7 hy8) hK rfl Try.call36 rfl (by first | rfl | (simp; done) | (simp [PV.nilD, PV.ren, rn]; omega)) (.cons (by first | rfl | (congr 1; first | (simp; done) | (simp; omega))) <| .cons (by first | rfl | (congr 1; first | (simp; done) | (simp; omega))) <| .nil) rfl rfl rfl rfl) rfl ?_
    refine PWl.nil ?_
    refine PWc.seq ?_
    refine PWc.seq ?_
    refine PWc.re (tl := [(0, _), (3, _)]) (to := [(3, _), (30060, _)]) rfl (.cons rfl rfl <| .cons rfl rfl <| .nil) (.cons rfl rfl <| .cons rfl rfl <| .nil) ?_
    refine PWc.region ?_
    replace h := iDet h
    obtain ⟨y9, hy10, h⟩ := h
    refine PWl.step (LR.callObj [(100, 3), (101, 30060)] [] [100, 101] (pack_Writer_Bytes_o_ok y7 y9 hy10) hK rfl Try.call30 rfl (by first | rfl | (simp; done) | (simp [PV.nilD, PV.ren, rn]; omega)) (.cons (by first | rfl | (congr 1; first | (simp; done) | (simp; omega))) <| .cons (by first | rfl | (congr 1; first | (simp; done) | (simp; omega))) <| .nil) rfl rfl rfl rfl) rfl ?_
    refine PWl.step (LR.move rfl) rfl ?_
    replace h := iDet h
    obtain ⟨v11, hy12, h⟩ := h
    refine PWl.step (LR.callN (r16_PutAll_ok ([] : List Int) l1 v11 hy12) rfl Try.call38 rfl rfl rfl rfl) rfl ?_
    replace h := iDet h
    obtain ⟨v13, hy14, h⟩ := h
    refine PWl.step (LR.callN (l16_equal_ok y9.1 v11 v13 hy14) rfl Try.call37 rfl rfl rfl rfl) rfl ?_
    refine PWl.step (LR.not rfl) rfl ?_
    refine PWl.nil ?_
    refine PWc.cond rfl (fun hc15 => ?_) (fun hc15 => ?_)
    · replace h := iT hc15 h
      refine PWc.seq ?_
      refine PWc.re (tl := []) (to := []) rfl (.nil) (.nil) ?_
      refine PWc.region ?_
      refine PWl.step (LR.assign rfl) rfl ?_
      refine PWl.nil ?_
      refine PWc.ret ?_
      replace h : _ = r0 := h
      subst h
      exact ⟨.inr rfl, _, .cons (.tmp rfl rfl) <| .nil, rfl⟩
    · replace h := iF hc15 h
      refine PWc.skip ?_
      refine PWc.seq ?_
      refine PWc.seq ?_
      refine PWc.re (tl := [(0, _)]) (to := []) rfl (.cons rfl rfl <| .nil) (.nil) ?_
      refine PWc.region ?_
      refine PWl.step (LR.assign rfl) rfl ?_
      refine PWl.nil ?_
      refine PWc.jnX (iBind h) (fun (_ : Unit) (_ : Unit) => ⟨82, [], []⟩) (fun h => ?_) ?_
      · refine PWc.block ?_
        refine PWc.loopM (fun (i91 : Int) (_ : Unit) => ⟨82, [(0, .d (.sl (List.map TEvent.e l1))), (4, .d (.v (.int .i64 i91)))], []⟩) () h (Sub.of rfl (.cons rfl rfl <| .cons rfl rfl <| .nil) (.nil)) ?_
        rintro N i91 _ h
        refine PWc.seq ?_
        refine PWc.seq ?_
        refine PWc.region ?_
        refine PWl.step (LR.move rfl) rfl ?_
        refine PWl.step (LR.move rfl) rfl ?_
        refine PWl.step (LR.lenMap (enc := TEvent.e) (L := l1) Try.underlying22 rfl) rfl ?_
        refine PWl.step (LR.lss rfl rfl) rfl ?_
        refine PWl.nil ?_
        refine PWc.cond rfl (fun hc92 => ?_) (fun hc92 => ?_)
        · replace h := iT hc92 h
          refine PWc.skip ?_
          refine PWc.seq ?_
          refine PWc.block ?_
          refine PWc.seq ?_
          refine PWc.region ?_
          refine PWl.step (LR.allocR (cs := [_]) Try.zeroValue47 rfl rfl rfl rfl) rfl ?_
          refine PWl.sub (Sub.ownNil (id := 5) (j := 0) (id' := 30100) (e := 5) (k := 1) rfl rfl rfl rfl) ?_
          refine PWl.nil ?_
          refine PWc.seq ?_
          refine PWc.re (tl := [(0, _), (4, _), (5, _)]) (to := [(5, _), (30100, _)]) rfl (.cons rfl rfl <| .cons rfl rfl <| .cons rfl rfl <| .nil) (.cons rfl rfl <| .cons rfl rfl <| .nil) ?_
          refine PWc.region ?_
          refine PWl.step (LR.move rfl) rfl ?_
          refine PWl.step (LR.move rfl) rfl ?_
          replace h := iIdx h
          obtain ⟨x93, hy94, h⟩ := h
          refine PWl.step (LR.idxT (enc := TEvent.e) (L := l1) (y := x93) Try.underlying22 Try.sizeOf41 rfl rfl hy94 (fun _ => rfl)) rfl ?_
          refine PWl.step (LR.loadEpAgg (ys := [_, _, _, _, _, _, _]) Try.isAgg41 Try.sizeOf41 rfl rfl rfl) rfl ?_
          replace h := iDet h
          obtain ⟨y95, hy96, h⟩ := h
          refine PWl.step (LR.callObj [(100, 5), (101, 30100)] [] [100, 101] (ecode_Put_o_ok x93 ([] : List Int) y95 hy96) hK rfl Try.call39 rfl (by first | rfl | (simp; done) | (simp [PV.nilD, PV.ren, rn]; omega)) (.cons (by first | rfl | (congr 1; first | (simp; done) | (simp; omega))) <| .cons (by first | rfl | (congr 1; first | (simp; done) | (simp; omega))) <| .nil) rfl rfl rfl rfl) rfl ?_
          refine PWl.nil ?_
          refine PWc.seq ?_
          refine PWc.seq ?_
          refine PWc.re (tl := [(0, _), (4, _), (5, _)]) (to := [(5, _), (30100, _)]) rfl (.cons rfl rfl <| .cons rfl rfl <| .cons rfl rfl <| .nil) (.cons rfl rfl <| .cons rfl rfl <| .nil) ?_
          refine PWc.regionE [⟨[30], [5, 30100], [5, 30100], [], [(30100, [])], [], [30100], [5, 30100]⟩, ⟨[31], [], [], [], [], [], [], []⟩, ⟨[32], [], [], [], [], [], [], []⟩, ⟨[33], [], [], [], [], [], [], []⟩, ⟨[34], [], [], [], [], [], [], []⟩, ⟨[35], [], [], [], [], [], [], []⟩, ⟨[36], [], [], [], [], [], [], []⟩, ⟨[37], [], [], [], [], [], [], []⟩] (by kernel_rfl) (by kernel_rfl) rfl ?_
          replace h := iDet h
          obtain ⟨y97, hy98, h⟩ := h
          refine PQe.callObj [(100, 5), (101, 30100)] [] [100, 101] (pack_Writer_Bytes_o_ok y95 y97 hy98) hK (fun _ he => ⟨he rfl rfl, evsE he rfl rfl⟩) Try.call30 (by first | rfl | (simp; done) | (simp [PV.nilD, PV.ren, rn]; omega)) (.cons (by first | rfl | (congr 1; first | (simp; done) | (simp; omega))) <| .cons (by first | rfl | (congr 1; first | (simp; done) | (simp; omega))) <| .nil) rfl rfl rfl rfl (.inl rfl) rfl ?_
          refine PQe.stepP (fun _ he ho => LR.move (he rfl rfl)) (.inl rfl) rfl ?_
          refine PQe.stepP (fun _ he ho => LR.move (he rfl rfl)) (.inl rfl) rfl ?_
          replace h := iIdx h
          obtain ⟨x99, hy100, h⟩ := h
          refine PQe.stepP (fun _ he ho => LR.idxT (enc := TEvent.e) (L := l1) (y := x99) Try.underlying22 Try.sizeOf41 (he rfl rfl) (he rfl rfl) hy100 (fun _ => rfl)) (.inl rfl) rfl ?_
          refine PQe.stepP (fun _ he ho => LR.loadEpAgg (ys := [_, _, _, _, _, _, _]) Try.isAgg41 Try.sizeOf41 (he rfl rfl) rfl rfl) (.inl rfl) rfl ?_
          replace h := iDet h
          obtain ⟨v101, hy102, h⟩ := h
          refine PQe.stepP (fun _ he ho => LR.callN (r16_Put_ok ([] : List Int) x99 v101 hy102) (he rfl rfl) Try.call40 (evsE he rfl rfl) rfl rfl rfl) (.inl rfl) rfl ?_
          replace h := iDet h
          obtain ⟨v103, hy104, h⟩ := h
          refine PQe.stepP (fun _ he ho => LR.callN (l16_equal_ok y97.1 v101 v103 hy104) (he rfl rfl) Try.call37 (evsE he rfl rfl) rfl rfl rfl) (.inl rfl) rfl ?_
          refine PQe.stepP (fun _ he ho => LR.not (he rfl rfl)) (.inl rfl) rfl ?_
          refine PQe.nil ?_
          refine PWc.cond rfl (fun hc105 => ?_) (fun hc105 => ?_)
          · replace h := iT hc105 h
            refine PWc.seq ?_
            refine PWc.re (tl := []) (to := []) rfl (.nil) (.nil) ?_
            refine PWc.region ?_
            refine PWl.step (LR.assign rfl) rfl ?_
            refine PWl.nil ?_
            refine PWc.ret ?_
            replace h : _ = r0 := h
            subst h
            exact ⟨.inr rfl, _, .cons (.tmp rfl rfl) <| .nil, rfl⟩
          · replace h := iF hc105 h
            refine PWc.skip ?_
            refine PWc.seq ?_
            refine PWc.re (tl := [(0, _), (4, _)]) (to := []) rfl (.cons rfl rfl <| .cons rfl rfl <| .nil) (.nil) ?_
            refine PWc.region ?_
            refine PWl.step (LR.move rfl) rfl ?_
            refine PWl.step (LR.move rfl) rfl ?_
            replace h := iIdx h
            obtain ⟨x106, hy107, h⟩ := h
            refine PWl.step (LR.idxT (enc := TEvent.e) (L := l1) (y := x106) Try.underlying22 Try.sizeOf41 rfl rfl hy107 (fun _ => rfl)) rfl ?_
            refine PWl.step (LR.loadEpAgg (ys := [_, _, _, _, _, _, _]) Try.isAgg41 Try.sizeOf41 rfl rfl rfl) rfl ?_
            replace h := iDet h
            obtain ⟨v108, hy109, h⟩ := h
            refine PWl.step (LR.callN (ecode_Encode_ok x106 v108 hy109) rfl Try.call41 rfl rfl rfl rfl) rfl ?_
            refine PWl.step (LR.move rfl) rfl ?_
            refine PWl.step (LR.extract rfl rfl) rfl ?_
            refine PWl.step (LR.extract rfl rfl) rfl ?_
            refine PWl.step (LR.assign rfl) rfl ?_
            refine PWl.step (LR.assign rfl) rfl ?_
            refine PWl.nil ?_
            refine PWc.seq ?_
            refine PWc.jn (iBind h) (fun (v110 : Bool) (_ : Unit) => ⟨82, [(0, .d (.sl (List.map TEvent.e l1))), (4, .d (.v (.int .i64 i91))), (80, .d (.v (.bool v110)))], []⟩) (fun h => ?_) ?_
            · refine PWc.region ?_
              refine PWl.step (LR.move rfl) rfl ?_
              refine PWl.step (LR.move rfl) rfl ?_
              replace h := iIdx h
              obtain ⟨x111, hy112, h⟩ := h
              refine PWl.step (LR.idxT (enc := TEvent.e) (L := l1) (y := x111) Try.underlying22 Try.sizeOf41 rfl rfl hy112 (fun _ => rfl)) rfl ?_
              refine PWl.step (LR.loadEpAgg (ys := [_, _, _, _, _, _, _]) Try.isAgg41 Try.sizeOf41 rfl rfl rfl) rfl ?_
              replace h := iDet h
              obtain ⟨v113, hy114, h⟩ := h
              refine PWl.step (LR.callN (r13_Good_ok x111 v113 hy114) rfl Try.call23 rfl rfl rfl rfl) rfl ?_
              refine PWl.step (LR.move rfl) rfl ?_
              refine PWl.step (LR.eql rfl rfl) rfl ?_
              refine PWl.step (LR.neqBool Try.underlying4 rfl rfl) rfl ?_
              refine PWl.step (LR.move rfl) rfl ?_
              refine PWl.re (tl := [(0, _), (4, _), (6, _), (7, _), (54, _)]) (to := []) rfl (.cons rfl rfl <| .cons rfl rfl <| .cons rfl rfl <| .cons rfl rfl <| .cons rfl rfl <| .nil) (.nil) ?_
              refine PWl.split (d := 54) rfl (fun hg115 => ?_) (fun hg115 => ?_)
              · replace h := iT hg115 h
                refine PWl.guardF rfl rfl rfl (by decide) ?_
                refine PWl.guardF rfl rfl rfl (by decide) ?_
                refine PWl.guardF rfl rfl rfl (by decide) ?_
                refine PWl.guardU rfl rfl rfl ?_
                refine PWl.guardU rfl rfl rfl ?_
                refine PWl.guardU rfl rfl rfl ?_
                refine PWl.guardU rfl rfl rfl ?_
                refine PWl.guardU rfl rfl rfl ?_
                refine PWl.guardU rfl rfl rfl ?_
                refine PWl.guardU rfl rfl rfl ?_
                refine PWl.guardU rfl rfl rfl ?_
                refine PWl.guardF rfl rfl rfl (by decide) ?_
                refine PWl.step (LR.pickT rfl rfl) rfl ?_
                refine PWl.step (LR.move rfl) rfl ?_
                refine PWl.guardF rfl rfl rfl (by decide) ?_
                refine PWl.guardF rfl rfl rfl (by decide) ?_
                refine PWl.guardF rfl rfl rfl (by decide) ?_
                refine PWl.guardU rfl rfl rfl ?_
                refine PWl.guardU rfl rfl rfl ?_
                refine PWl.guardU rfl rfl rfl ?_
                refine PWl.guardU rfl rfl rfl ?_
                refine PWl.guardU rfl rfl rfl ?_
                refine PWl.guardU rfl rfl rfl ?_
                refine PWl.guardU rfl rfl rfl ?_
                refine PWl.guardF rfl rfl rfl (by decide) ?_
                refine PWl.step (LR.pickT rfl rfl) rfl ?_
                refine PWl.nil ?_
                exact ⟨true, (), h, Sub.of rfl (.cons rfl rfl <| .cons rfl rfl <| .cons rfl rfl <| .nil) (.nil)⟩
              · replace h := iF hg115 h
                refine PWl.guardT (LR.move rfl) rfl rfl rfl ?_
                refine PWl.guardT (LR.eql rfl rfl) rfl rfl rfl ?_
                refine PWl.guardT (LR.move rfl) rfl rfl rfl ?_
                refine PWl.split (d := 57) rfl (fun hg116 => ?_) (fun hg116 => ?_)
                · replace h := iT hg116 h
                  refine PWl.guardT (LR.move rfl) rfl rfl rfl ?_
                  refine PWl.guardT (LR.move rfl) rfl rfl rfl ?_
                  refine PWl.guardT (LR.move rfl) rfl rfl rfl ?_
                  replace h := iIdx h
                  obtain ⟨x117, hy118, h⟩ := h
                  refine PWl.guardT (LR.idxT (enc := TEvent.e) (L := l1) (y := x117) Try.underlying22 Try.sizeOf41 rfl rfl hy118 (fun _ => rfl)) rfl rfl rfl ?_
                  refine PWl.guardT (LR.loadEpAgg (ys := [_, _, _, _, _, _, _]) Try.isAgg41 Try.sizeOf41 rfl rfl rfl) rfl rfl rfl ?_
                  replace h := iDet h
                  obtain ⟨v119, hy120, h⟩ := h
                  refine PWl.guardT (LR.callN (r16_Put_ok ([] : List Int) x117 v119 hy120) rfl Try.call40 rfl rfl rfl rfl) rfl rfl rfl ?_
                  replace h := iDet h
                  obtain ⟨v121, hy122, h⟩ := h
                  refine PWl.guardT (LR.callN (l16_equal_ok v108.1 v119 v121 hy122) rfl Try.call37 rfl rfl rfl rfl) rfl rfl rfl ?_
                  refine PWl.guardT (LR.not rfl) rfl rfl rfl ?_
                  refine PWl.guardT (LR.pickT rfl rfl) rfl rfl rfl ?_
                  refine PWl.step (LR.pickF rfl rfl) rfl ?_
                  refine PWl.step (LR.move rfl) rfl ?_
                  refine PWl.split (d := 68) rfl (fun hg123 => ?_) (fun hg123 => ?_)
                  · replace h := iT hg123 h
                    refine PWl.guardF rfl rfl rfl (by decide) ?_
                    refine PWl.guardF rfl rfl rfl (by decide) ?_
                    refine PWl.guardF rfl rfl rfl (by decide) ?_
                    refine PWl.guardU rfl rfl rfl ?_
                    refine PWl.guardU rfl rfl rfl ?_
                    refine PWl.guardU rfl rfl rfl ?_
                    refine PWl.guardU rfl rfl rfl ?_
                    refine PWl.guardU rfl rfl rfl ?_
                    refine PWl.guardU rfl rfl rfl ?_
                    refine PWl.guardU rfl rfl rfl ?_
                    refine PWl.guardF rfl rfl rfl (by decide) ?_
                    refine PWl.step (LR.pickT rfl rfl) rfl ?_
                    refine PWl.nil ?_
                    exact ⟨true, (), h, Sub.of rfl (.cons rfl rfl <| .cons rfl rfl <| .cons rfl rfl <| .nil) (.nil)⟩
                  · replace h := iF hg123 h
                    refine PWl.guardT (LR.move rfl) rfl rfl rfl ?_
                    refine PWl.guardT (LR.neq rfl rfl) rfl rfl rfl ?_
                    refine PWl.guardT (LR.move rfl) rfl rfl rfl ?_
                    refine PWl.split (d := 71) rfl (fun hg124 => ?_) (fun hg124 => ?_)
                    · replace h := iT hg124 h
                      refine PWl.guardT (LR.move rfl) rfl rfl rfl ?_
                      refine PWl.guardT (LR.neq rfl rfl) rfl rfl rfl ?_
                      refine PWl.guardT (LR.move rfl) rfl rfl rfl ?_
                      refine PWl.split (d := 74) rfl (fun hg125 => ?_) (fun hg125 => ?_)
                      · replace h := iT hg125 h
                        refine PWl.guardF rfl rfl rfl (by decide) ?_
                        refine PWl.re (tl := [(0, _), (4, _), (55, _), (56, _), (57, _), (58, _), (59, _), (60, _), (61, _), (62, _), (63, _), (64, _), (65, _), (66, _), (68, _), (69, _), (70, _), (71, _), (72, _), (73, _), (74, _), (75, _)]) (to := []) rfl (.cons rfl rfl <| .cons rfl rfl <| .cons rfl rfl <| .cons rfl rfl <| .cons rfl rfl <| .cons rfl rfl <| .cons rfl rfl <| .cons rfl rfl <| .cons rfl rfl <| .cons rfl rfl <| .cons rfl rfl <| .cons rfl rfl <| .cons rfl rfl <| .cons rfl rfl <| .cons rfl rfl <| .cons rfl rfl <| .cons rfl rfl <| .cons rfl rfl <| .cons rfl rfl <| .cons rfl rfl <| .cons rfl rfl <| .cons rfl rfl <| .nil) (.nil) ?_
                        refine PWl.guardF rfl rfl rfl (by decide) ?_
                        refine PWl.guardF rfl rfl rfl (by decide) ?_
                        refine PWl.guardT (LR.pickT rfl rfl) rfl rfl rfl ?_
                        refine PWl.guardT (LR.pickT rfl rfl) rfl rfl rfl ?_
                        refine PWl.step (LR.pickF rfl rfl) rfl ?_
                        refine PWl.nil ?_
                        exact ⟨true, (), h, Sub.of rfl (.cons rfl rfl <| .cons rfl rfl <| .cons rfl rfl <| .nil) (.nil)⟩
                      · replace h := iF hg125 h
                        refine PWl.guardT (LR.move rfl) rfl rfl rfl ?_
                        refine PWl.re (tl := [(0, _), (4, _), (55, _), (56, _), (57, _), (58, _), (59, _), (60, _), (61, _), (62, _), (63, _), (64, _), (65, _), (66, _), (68, _), (69, _), (70, _), (71, _), (72, _), (73, _), (74, _), (75, _)]) (to := []) rfl (.cons rfl rfl <| .cons rfl rfl <| .cons rfl rfl <| .cons rfl rfl <| .cons rfl rfl <| .cons rfl rfl <| .cons rfl rfl <| .cons rfl rfl <| .cons rfl rfl <| .cons rfl rfl <| .cons rfl rfl <| .cons rfl rfl <| .cons rfl rfl <| .cons rfl rfl <| .cons rfl rfl <| .cons rfl rfl <| .cons rfl rfl <| .cons rfl rfl <| .cons rfl rfl <| .cons rfl rfl <| .cons rfl rfl <| .cons rfl rfl <| .nil) (.nil) ?_
                        refine PWl.guardT (LR.lenMap (enc := (eK .u8)) (L := v108.1) Try.underlying45 rfl) rfl rfl rfl ?_
                        refine PWl.guardT (LR.neq rfl rfl) rfl rfl rfl ?_
                        refine PWl.guardT (LR.pickF rfl rfl) rfl rfl rfl ?_
                        refine PWl.guardT (LR.pickT rfl rfl) rfl rfl rfl ?_
                        refine PWl.step (LR.pickF rfl rfl) rfl ?_
                        refine PWl.nil ?_
                        exact ⟨(!decide ((List.length v108.1 : Int) = 0)), (), h, Sub.of rfl (.cons rfl rfl <| .cons rfl rfl <| .cons rfl rfl <| .nil) (.nil)⟩
                    · replace h := iF hg124 h
                      refine PWl.guardF rfl rfl rfl (by decide) ?_
                      refine PWl.guardF rfl rfl rfl (by decide) ?_
                      refine PWl.guardF rfl rfl rfl (by decide) ?_
                      refine PWl.guardU rfl rfl rfl ?_
                      refine PWl.guardU rfl rfl rfl ?_
                      refine PWl.guardU rfl rfl rfl ?_
                      refine PWl.guardF rfl rfl rfl (by decide) ?_
                      refine PWl.guardT (LR.pickF rfl rfl) rfl rfl rfl ?_
                      refine PWl.step (LR.pickF rfl rfl) rfl ?_
                      refine PWl.nil ?_
                      exact ⟨false, (), h, Sub.of rfl (.cons rfl rfl <| .cons rfl rfl <| .cons rfl rfl <| .nil) (.nil)⟩
                · replace h := iF hg116 h
                  refine PWl.guardF rfl rfl rfl (by decide) ?_
                  refine PWl.guardF rfl rfl rfl (by decide) ?_
                  refine PWl.guardF rfl rfl rfl (by decide) ?_
                  refine PWl.guardF rfl rfl rfl (by decide) ?_
                  refine PWl.guardF rfl rfl rfl (by decide) ?_
                  refine PWl.guardF rfl rfl rfl (by decide) ?_
                  refine PWl.guardF rfl rfl rfl (by decide) ?_
                  refine PWl.guardF rfl rfl rfl (by decide) ?_
                  refine PWl.guardT (LR.pickF rfl rfl) rfl rfl rfl ?_
                  refine PWl.step (LR.pickF rfl rfl) rfl ?_
                  refine PWl.step (LR.move rfl) rfl ?_
                  refine PWl.guardT (LR.move rfl) rfl rfl rfl ?_
                  refine PWl.guardT (LR.neq rfl rfl) rfl rfl rfl ?_
                  refine PWl.guardT (LR.move rfl) rfl rfl rfl ?_
                  refine PWl.split (d := 71) rfl (fun hg126 => ?_) (fun hg126 => ?_)
                  · replace h := iT hg126 h
                    refine PWl.guardT (LR.move rfl) rfl rfl rfl ?_
                    refine PWl.guardT (LR.neq rfl rfl) rfl rfl rfl ?_
                    refine PWl.guardT (LR.move rfl) rfl rfl rfl ?_
                    refine PWl.split (d := 74) rfl (fun hg127 => ?_) (fun hg127 => ?_)
                    · replace h := iT hg127 h
                      refine PWl.guardF rfl rfl rfl (by decide) ?_
                      refine PWl.guardF rfl rfl rfl (by decide) ?_
                      refine PWl.guardF rfl rfl rfl (by decide) ?_
                      refine PWl.guardT (LR.pickT rfl rfl) rfl rfl rfl ?_
                      refine PWl.guardT (LR.pickT rfl rfl) rfl rfl rfl ?_
                      refine PWl.step (LR.pickF rfl rfl) rfl ?_
                      refine PWl.nil ?_
                      exact ⟨true, (), h, Sub.of rfl (.cons rfl rfl <| .cons rfl rfl <| .cons rfl rfl <| .nil) (.nil)⟩
                    · replace h := iF hg127 h
                      refine PWl.guardT (LR.move rfl) rfl rfl rfl ?_
                      refine PWl.guardT (LR.lenMap (enc := (eK .u8)) (L := v108.1) Try.underlying45 rfl) rfl rfl rfl ?_
                      refine PWl.guardT (LR.neq rfl rfl) rfl rfl rfl ?_
                      refine PWl.guardT (LR.pickF rfl rfl) rfl rfl rfl ?_
                      refine PWl.guardT (LR.pickT rfl rfl) rfl rfl rfl ?_
                      refine PWl.step (LR.pickF rfl rfl) rfl ?_
                      refine PWl.nil ?_
                      exact ⟨(!decide ((List.length v108.1 : Int) = 0)), (), h, Sub.of rfl (.cons rfl rfl <| .cons rfl rfl <| .cons rfl rfl <| .nil) (.nil)⟩
                  · replace h := iF hg126 h
                    refine PWl.guardF rfl rfl rfl (by decide) ?_
                    refine PWl.guardF rfl rfl rfl (by decide) ?_
                    refine PWl.guardF rfl rfl rfl (by decide) ?_
                    refine PWl.guardU rfl rfl rfl ?_
                    refine PWl.guardU rfl rfl rfl ?_
                    refine PWl.guardU rfl rfl rfl ?_
                    refine PWl.guardF rfl rfl rfl (by decide) ?_
                    refine PWl.guardT (LR.pickF rfl rfl) rfl rfl rfl ?_
                    refine PWl.step (LR.pickF rfl rfl) rfl ?_
                    refine PWl.nil ?_
                    exact ⟨false, (), h, Sub.of rfl (.cons rfl rfl <| .cons rfl rfl <| .cons rfl rfl <| .nil) (.nil)⟩
            · rintro v110 _ h
              refine PWc.cond rfl (fun hc128 => ?_) (fun hc128 => ?_)
              · replace h := iT hc128 h
                refine PWc.seq ?_
                refine PWc.region ?_
                refine PWl.step (LR.assign rfl) rfl ?_
                refine PWl.nil ?_
                refine PWc.ret ?_
                replace h : _ = r0 := h
                subst h
                exact ⟨.inr rfl, _, .cons (.tmp rfl rfl) <| .nil, rfl⟩
              · replace h := iF hc128 h
                refine PWc.skip ?_
                refine PWc.region ?_
                refine PWl.step (LR.move rfl) rfl ?_
                refine PWl.step (LR.addW rfl rfl) rfl ?_
                refine PWl.step (LR.assign rfl) rfl ?_
                refine PWl.nil ?_
                exact ⟨(IntKind.i64.wrap (i91 + 1)), (), h, Sub.of rfl (.cons rfl rfl <| .cons rfl rfl <| .nil) (.nil)⟩
        · replace h := iF hc92 h
          refine PWc.exit ?_
          exact ⟨(), (), h, Sub.of rfl (.nil) (.nil)⟩
      · rintro _ _ h
        refine PWc.seq ?_
        refine PWc.region ?_
        replace h := iDet h
        obtain ⟨v129, hy130, h⟩ := h
        refine PWl.step (LR.callN (l16_works_ok v129 hy130) rfl Try.call35 rfl rfl rfl rfl) rfl ?_
        refine PWl.step (LR.assign rfl) rfl ?_
        refine PWl.nil ?_
        refine PWc.ret ?_
        replace h : _ = r0 := h
        subst h
        exact ⟨.inr rfl, _, .cons (.tmp rfl rfl) <| .nil, rfl⟩
end Go.Proofs

namespace Go.Ep
open Go

theorem wI64 {n : Int} (h : -9223372036854775808 ≤ n) (h' : n ≤ 9223372036854775807) : IntKind.i64.wrap n = n := by simp [IntKind.wrap, IntKind.bits, IntKind.signed]; omega
theorem wU64 {n : Int} (h : 0 ≤ n) (h' : n ≤ 18446744073709551615) : IntKind.u64.wrap n = n := by simp [IntKind.wrap, IntKind.bits, IntKind.signed]; omega
theorem wU16 {n : Int} (h : 0 ≤ n) (h' : n ≤ 65535) : IntKind.u16.wrap n = n := by simp [IntKind.wrap, IntKind.bits, IntKind.signed]; omega
theorem wU8 {n : Int} (h : 0 ≤ n) (h' : n ≤ 255) : IntKind.u8.wrap n = n := by simp [IntKind.wrap, IntKind.bits, IntKind.signed]; omega
theorem wSucc {i : Nat} (h : i < 9223372036854775807) : IntKind.i64.wrap ((i : Int) + 1) = ((i + 1 : Nat) : Int) := by rw [wI64 (by omega) (by omega)]; rfl
namespace M
variable {α β σ ρ τ ε : Type}
theorem cond_dec (p : Prop) [Decidable p] (x y : M α) : cond (decide p) x y = if p then x else y := by by_cases h : p <;> simp [h]
/-- A loop over a list's places; mk: the state at a place. -/
theorem loopL {body : σ → M (Step σ ρ)} (l : List ε) (mk : Nat → τ → σ) (f : τ → ε → τ) (g : τ → M ρ)
    (I : Nat → τ → Prop) (h1 : ∀ (i : Nat) (x : ε) (t : τ), l[i]? = some x → i < l.length → I i t → body (mk i t) = pure (.next (mk (i + 1) (f t x))) ∧ I (i + 1) (f t x))
    (h2 : ∀ t, I l.length t → body (mk l.length t) = (g t).bind fun r => pure (.done r)) (t0 : τ) (h0 : I 0 t0) : loop body (mk 0 t0) = g (l.foldl f t0) := by
  have key : ∀ k i t, i + k = l.length → I i t → loop body (mk i t) = g ((l.drop i).foldl f t) := by
    intro k
    induction k with
    | zero =>
      intro i t hi hI
      have : i = l.length := by omega
      subst this
      rw [loop_eq, h2 t hI, List.drop_length]
      rfl
    | succ k ih =>
      intro i t hi hI
      have hlt : i < l.length := by omega
      obtain ⟨h3, h4⟩ := h1 i l[i] t (List.getElem?_eq_getElem hlt) hlt hI
      rw [loop_next h3, ih (i + 1) _ (by omega) h4, List.drop_eq_getElem_cons hlt]
      rfl
  simpa using key l.length 0 t0 (by omega) h0
/-- Does each element pass? -/
theorem loopAll {body : σ → M (Step σ ρ)} (l : List ε) (mk : Nat → σ) (p : Nat → ε → Bool) (r1 r2 : ρ)
    (h1 : ∀ (i : Nat) (x : ε), l[i]? = some x → i < l.length → body (mk i) = if p i x then pure (.next (mk (i + 1))) else pure (.done r2))
    (h2 : body (mk l.length) = pure (.done r1)) : loop body (mk 0) = pure (if l.zipIdx.all (fun y => p y.2 y.1) then r1 else r2) := by
  have key : ∀ k i, i + k = l.length → loop body (mk i) = pure (if ((l.drop i).zipIdx i).all (fun y => p y.2 y.1) then r1 else r2) := by
    intro k
    induction k with
    | zero =>
      intro i hi
      have : i = l.length := by omega
      subst this
      rw [loop_done h2, List.drop_length]
      rfl
    | succ k ih =>
      intro i hi
      have hlt : i < l.length := by omega
      have h3 := h1 i l[i] (List.getElem?_eq_getElem hlt) hlt
      rw [List.drop_eq_getElem_cons hlt, List.zipIdx_cons, List.all_cons]
      by_cases hp : p i l[i] = true
      · rw [if_pos hp] at h3
        rw [loop_next h3, ih (i + 1) (by omega), hp, Bool.true_and]
      · rw [if_neg hp] at h3
        rw [loop_done h3]
        simp [hp]
  have := key l.length 0 (by omega)
  rw [List.drop_zero] at this
  exact this

/-- What came, as a list. -/
def came {ε : Type} (m : List ε) (L : List Nat) : List ε := L.filterMap fun i => m[i]?
theorem came_snoc {m : List ε} {L : List Nat} {i : Nat} {y : ε} (h : m[i]? = some y) : came m (L ++ [i]) = came m L ++ [y] := by simp [came, h]
theorem all_perm {n : Nat} {L : List Nat} (hn : L.Nodup) (hb : ∀ i ∈ L, i < n) (ha : ∀ i, i < n → i ∈ L) : L.Perm (List.range n) := by
  refine (List.perm_ext_iff_of_nodup hn List.nodup_range).2 fun i => ?_
  rw [List.mem_range]
  exact ⟨hb i, ha i⟩
theorem came_perm {m : List ε} {L : List Nat} (hn : L.Nodup) (hb : ∀ i ∈ L, i < m.length) (ha : ∀ i, i < m.length → i ∈ L) : (came m L).Perm m := by
  have h1 := (all_perm hn hb ha).filterMap fun i => m[i]?
  have h2 : (List.range m.length).filterMap (fun i => m[i]?) = m := by
    apply List.ext_getElem?
    intro i
    clear h1 hn hb ha
    have : (List.range m.length).filterMap (fun i => m[i]?) = m := by
      induction m with
      | nil => rfl
      | cons x r ih =>
        rw [List.length_cons, List.range_succ_eq_map, List.filterMap_cons]
        simp only [List.getElem?_cons_zero, List.filterMap_map]
        congr 1
    rw [this]
  rw [h2] at h1
  exact h1
theorem nodup_len {n : Nat} {L : List Nat} (hn : L.Nodup) (hb : ∀ i ∈ L, i < n) : L.length ≤ n := by
  have := List.Nodup.length_le_of_subset hn (l₂ := List.range n) (fun i hi => List.mem_range.2 (hb i hi))
  simpa using this

theorem full {n : Nat} {L : List Nat} (hn : L.Nodup) (hb : ∀ i ∈ L, i < n) (hl : n ≤ L.length) : ∀ i, i < n → i ∈ L := by
  intro i hi
  refine Classical.byContradiction fun hni => ?_
  have := nodup_len (n := n) (L := i :: L) (List.nodup_cons.2 ⟨hni, hn⟩) (fun j hj => by
    rcases List.mem_cons.1 hj with rfl | hj
    · exact hi
    · exact hb j hj)
  simp at this
  omega
/-- A map is gone over; mk: the state when the places L came. -/
theorem loopM {body : σ → M (Step σ ρ)} (m : List ε) (mk : List Nat → τ → σ) (f : τ → ε → M τ) (g : τ → M ρ) (I : List ε → τ → Prop) (Q : ρ → Prop)
    (hb : ∀ L t, (∀ i ∈ L, i < m.length) → body (mk L t) = need (∀ i ∈ L, i < m.length) ((nxt m.length L).bind fun o => match o with
      | none => (g t).bind fun r => pure (.done r)
      | some i => (idx m (Int.ofNat i)).bind fun y => (f t y).bind fun t' => pure (.next (mk (L ++ [i]) t'))))
    (hs : ∀ l t y, I l t → l.length < m.length → y ∈ m → ∃ t', f t y = pure t' ∧ I (l ++ [y]) t') (he : ∀ l t, l.Perm m → I l t → (g t).wp Q) (t0 : τ) (h0 : I [] t0) : (loop body (mk [] t0)).wp Q := by
  have key : ∀ k L t, L.length + k = m.length → L.Nodup → (∀ i ∈ L, i < m.length) → I (came m L) t → loopP body Q (mk L t) := by
    intro k
    induction k with
    | zero =>
      intro L t hk hn hlt hI
      refine loopP_in ?_
      rw [hb L t hlt]
      have hall : ∀ i, i < m.length → i ∈ L := fun i hi => full hn hlt (by omega) i hi
      refine ⟨hlt, ⟨⟨none, hall⟩, fun o ho => ?_⟩⟩
      cases o with
      | none =>
        have := he _ t (came_perm hn hlt hall) hI
        exact this
      | some i => exact absurd (hall i ho.1) ho.2
    | succ k ih =>
      intro L t hk hn hlt hI
      refine loopP_in ?_
      rw [hb L t hlt]
      have hex : ∃ i, i < m.length ∧ i ∉ L := by
        refine Classical.byContradiction fun hno => ?_
        have hall : ∀ i, i < m.length → i ∈ L := fun i hi => Classical.byContradiction fun h => hno ⟨i, hi, h⟩
        have := (all_perm hn hlt hall).length_eq
        simp at this
        omega
      obtain ⟨i0, hi0⟩ := hex
      refine ⟨hlt, ⟨⟨some i0, hi0⟩, fun o ho => ?_⟩⟩
      cases o with
      | none => exact absurd (ho i0 hi0.1) hi0.2
      | some i =>
        have hi := List.getElem?_eq_getElem ho.1
        obtain ⟨t', h1, h2⟩ := hs (came m L) t m[i] hI (by have := List.length_filterMap_le (fun i => m[i]?) L; unfold came; omega) (List.getElem_mem ho.1)
        show ((idx m (Int.ofNat i)).bind _).wp _
        rw [show (Int.ofNat i) = (i : Int) from rfl, idx_nat hi, pure_bind, h1, pure_bind]
        refine ih (L ++ [i]) t' (by simp; omega) ?_ ?_ (by rw [came_snoc hi]; exact h2)
        · rw [List.nodup_append]
          refine ⟨hn, by simp, fun a ha b hb' => ?_⟩
          rw [List.mem_singleton.1 hb']
          intro e
          exact ho.2 (e ▸ ha)
        · intro j hj
          rcases List.mem_append.1 hj with hj | hj
          · exact hlt j hj
          · rw [List.mem_singleton.1 hj]; exact ho.1
  exact key m.length [] t0 (by simp) List.nodup_nil (by simp) h0

end M

namespace AL
variable {κ ν : Type} [DecidableEq κ]
theorem get_set (m : List (κ × ν)) (k q : κ) (v : ν) : get (set m k v) q = if k = q then some v else get m q := by
  induction m with
  | nil => simp [set, get]
  | cons x r ih =>
    obtain ⟨a, u⟩ := x
    by_cases h : a = k
    · subst h; simp only [set, if_true, get]; split <;> rfl
    · simp only [set, h, if_false, get, ih]
      by_cases h2 : a = q
      · subst h2; simp [Ne.symm h]
      · simp [h2]
theorem getZ_set (m : List (κ × ν)) (k q : κ) (v z : ν) : getZ (set m k v) q z = if k = q then v else getZ m q z := by
  unfold getZ; rw [get_set]; split <;> rfl
theorem keys_set (m : List (κ × ν)) (k : κ) (v : ν) : (set m k v).map (·.1) = if k ∈ m.map (·.1) then m.map (·.1) else m.map (·.1) ++ [k] := by
  induction m with
  | nil => simp [set]
  | cons x r ih =>
    obtain ⟨a, u⟩ := x
    by_cases h : a = k
    · subst h; simp [set]
    · simp only [set, h, if_false, List.map_cons, ih, List.mem_cons, Ne.symm h, false_or]
      split <;> simp
theorem nodup_set {m : List (κ × ν)} (h : (m.map (·.1)).Nodup) (k : κ) (v : ν) : ((set m k v).map (·.1)).Nodup := by
  rw [keys_set]
  split
  · exact h
  · rename_i hk
    rw [List.nodup_append]
    refine ⟨h, by simp, fun a ha b hb => ?_⟩
    rw [List.mem_singleton.1 hb]
    intro e; exact hk (e ▸ ha)
theorem get_mem {m : List (κ × ν)} {k : κ} {v : ν} (h : get m k = some v) : (k, v) ∈ m := by
  induction m with
  | nil => simp [get] at h
  | cons x r ih =>
    obtain ⟨a, u⟩ := x
    by_cases e : a = k
    · subst e; simp [get] at h; subst h; simp
    · simp only [get, e, if_false] at h; exact List.mem_cons_of_mem _ (ih h)
theorem mem_get {m : List (κ × ν)} (hn : (m.map (·.1)).Nodup) {k : κ} {v : ν} (h : (k, v) ∈ m) : get m k = some v := by
  induction m with
  | nil => simp at h
  | cons x r ih =>
    obtain ⟨a, u⟩ := x
    simp only [List.map_cons, List.nodup_cons] at hn
    rcases List.mem_cons.1 h with e | h
    · cases e; simp [get]
    · have : a ≠ k := fun e => hn.1 (e ▸ List.mem_map.2 ⟨(k, v), h, rfl⟩)
      simp only [get, this, if_false]; exact ih hn.2 h
theorem len_set (m : List (κ × ν)) (k : κ) (v : ν) : (set m k v).length ≤ m.length + 1 := by
  induction m with
  | nil => simp [set]
  | cons x r ih =>
    obtain ⟨a, u⟩ := x
    unfold set
    split
    · simp
    · simpa using ih
end AL
end Go.Ep


/- Walks: written by program. -/
import Derived.Test.YtacnidaafcfgiaaGreatDFc
import Derived.Test.YtacnidaafcfgiaaGreatDSh
import Derived.Test.YtacnidaafcfgiaaGreatDSx
import Derived.Test.YtacnidaafcfgiaaGreatTl
import Derived.Test.YtacnidaafcfgiaaGreatSr
import Derived.Test.YtacnidaafcfgiaaGreatDr
import Derived.Test.YtacnidaafcfgiaaGreatOb
import Derived.Test.YtacnidaafcfgiaaGreatOe
import Derived.Test.YtacnidaafcfgiaaGreatLs
import Derived.Test.YtacnidaafcfgiaaGreatTl
import Derived.Test.YtacnidaafcfgiaaGreatStr
import Derived.Test.YtacnidaafcfgiaaGreatPc
import Derived.Test.YtacnidaafcfgiaaGreatDW4
import Derived.Test.YtacnidaafcfgiaaGreatDW7
namespace Go.Proofs
open Go.Ep
set_option maxHeartbeats 1000000
set_option maxRecDepth 100000
set_option linter.unusedVariables false
set_option linter.unusedSimpArgs false


theorem epitaphref04_Reader_Fail_o_ok (e1 : Int) (b_2 : List Int) (at_3 : Int) (bad_4 : Int) (r0 : List Int × Int × Int) (h : (epitaphref04_Reader_Fail_o e1 b_2 at_3 bad_4).wp (· = r0)) : PObj Tryz.prog 86 [.ref 100 0, .d (.v (.int .i64 e1))] [(100, .cells 53 [.d (.sl (List.map (eK .u8) b_2)), .d (.v (.int .i64 at_3)), .d (.v (.int .i64 bad_4))])] [100] (.tup []) (fun _ : Unit => [(100, .cells 53 [.d (.sl (List.map (eK .u8) r0.1)), .d (.v (.int .i64 r0.2.1)), .d (.v (.int .i64 r0.2.2))])]) := by
  refine PObj.intro (sl := [(0, _), (1, _)]) Tryz.func86 rfl Tryz.ntmps86 rfl rfl rfl ?_
  intro ctx hK pv
  refine PWc.seq ?_
  refine PWc.region ?_
  refine PWl.step (LR.move rfl) rfl ?_
  refine PWl.step (LR.nilCheckRef rfl) rfl ?_
  refine PWl.step (LR.fieldRef Tryz.underlying53 rfl Tryz.sizeOf3 (by decide) rfl rfl) rfl ?_
  refine PWl.step (LR.loadRef Tryz.isAgg3 rfl rfl rfl) rfl ?_
  refine PWl.step (LR.eql rfl rfl) rfl ?_
  refine PWl.nil ?_
  refine PWc.cond rfl (fun hc5 => ?_) (fun hc5 => ?_)
  · replace h := iT hc5 h
    refine PWc.region ?_
    refine PWl.step (LR.move rfl) rfl ?_
    refine PWl.step (LR.move rfl) rfl ?_
    refine PWl.step (LR.nilCheckRef rfl) rfl ?_
    refine PWl.step (LR.fieldRef Tryz.underlying53 rfl Tryz.sizeOf3 (by decide) rfl rfl) rfl ?_
    refine PWl.step (LR.storeB (ns := [_, _, _]) Tryz.sizeOf3 rfl rfl rfl rfl rfl rfl rfl) rfl ?_
    refine PWl.nil ?_
    replace h : _ = r0 := h
    subst h
    exact EndsO.mk () (.inl rfl) (Sub.of (tl := []) (to := [(100, _), (1100, _)]) rfl (.nil) (.cons rfl rfl <| .cons rfl rfl <| .nil)) (.nil) rfl rfl
  · replace h := iF hc5 h
    refine PWc.skip ?_
    replace h : _ = r0 := h
    subst h
    exact EndsO.mk () (.inl rfl) (Sub.of (tl := []) (to := [(100, _), (1100, _)]) rfl (.nil) (.cons rfl rfl <| .cons rfl rfl <| .nil)) (.nil) rfl rfl

theorem epitaphref04_Reader_Num_o_ok (b_1 : List Int) (at_2 : Int) (bad_3 : Int) (r0 : Int × List Int × Int × Int) (h : (epitaphref04_Reader_Num_o b_1 at_2 bad_3).wp (· = r0)) : PObj Tryz.prog 85 [.ref 100 0] [(100, .cells 53 [.d (.sl (List.map (eK .u8) b_1)), .d (.v (.int .i64 at_2)), .d (.v (.int .i64 bad_3))])] [100] (.d (.v (.int .u64 r0.1))) (fun _ : Unit => [(100, .cells 53 [.d (.sl (List.map (eK .u8) r0.2.1)), .d (.v (.int .i64 r0.2.2.1)), .d (.v (.int .i64 r0.2.2.2))])]) := by
  refine PObj.intro (sl := [(0, _)]) Tryz.func85 rfl Tryz.ntmps85 rfl rfl rfl ?_
  intro ctx hK pv
  refine PWc.seq ?_
  refine PWc.region ?_
  refine PWl.step (LR.assign rfl) rfl ?_
  refine PWl.nil ?_
  refine PWc.seq ?_
  refine PWc.seq ?_
  refine PWc.region ?_
  refine PWl.step (LR.move rfl) rfl ?_
  refine PWl.step (LR.nilCheckRef rfl) rfl ?_
  refine PWl.step (LR.fieldRef Tryz.underlying53 rfl Tryz.sizeOf3 (by decide) rfl rfl) rfl ?_
  refine PWl.step (LR.loadRef Tryz.isAgg3 rfl rfl rfl) rfl ?_
  refine PWl.step (LR.neq rfl rfl) rfl ?_
  refine PWl.nil ?_
  refine PWc.cond rfl (fun hc4 => ?_) (fun hc4 => ?_)
  · replace h := iT hc4 h
    refine PWc.seq ?_
    refine PWc.region ?_
    refine PWl.step (LR.assign rfl) rfl ?_
    refine PWl.nil ?_
    refine PWc.ret ?_
    replace h : _ = r0 := h
    subst h
    exact EndsO.mk () (.inr rfl) (Sub.of (tl := [(2, _)]) (to := [(100, _), (1100, _)]) rfl (.cons rfl rfl <| .nil) (.cons rfl rfl <| .cons rfl rfl <| .nil)) (.cons (.tmp rfl) <| .nil) rfl rfl
  · replace h := iF hc4 h
    refine PWc.skip ?_
    refine PWc.seq ?_
    refine PWc.regionD (by kernel_rfl) (by kernel_rfl) ?_
    refine PQl.step (fun _ he ho => LR.move (he rfl rfl)) rfl ?_
    refine PQl.step (fun _ he ho => LR.nilCheckRef (he rfl rfl)) rfl ?_
    refine PQl.step (fun _ he ho => LR.fieldRef Tryz.underlying53 rfl Tryz.sizeOf48 (by decide) rfl (he rfl rfl)) rfl ?_
    refine PQl.step (fun _ he ho => LR.loadRef Tryz.isAgg48 (he rfl rfl) (ho rfl) rfl) rfl ?_
    refine PQl.step (fun _ he ho => LR.move (he rfl rfl)) rfl ?_
    refine PQl.step (fun _ he ho => LR.nilCheckRef (he rfl rfl)) rfl ?_
    refine PQl.step (fun _ he ho => LR.fieldRef Tryz.underlying53 rfl Tryz.sizeOf3 (by decide) rfl (he rfl rfl)) rfl ?_
    refine PQl.step (fun _ he ho => LR.loadRef Tryz.isAgg3 (he rfl rfl) (ho rfl) rfl) rfl ?_
    replace h := iDet h
    obtain ⟨v5, hy6, h⟩ := h
    refine PQl.step (fun _ he ho => LR.callN (r03_Read_ok b_1 at_2 v5 hy6) (he rfl rfl) Tryz.call119 (evsE he rfl rfl) rfl rfl rfl) rfl ?_
    refine PQl.step (fun _ he ho => LR.move (he rfl rfl)) rfl ?_
    refine PQl.step (fun _ he ho => LR.extract (he rfl rfl) rfl) rfl ?_
    refine PQl.step (fun _ he ho => LR.extract (he rfl rfl) rfl) rfl ?_
    refine PQl.step (fun _ he ho => LR.extract (he rfl rfl) rfl) rfl ?_
    refine PQl.step (fun _ he ho => LR.assign (he rfl rfl)) rfl ?_
    refine PQl.step (fun _ he ho => LR.assign (he rfl rfl)) rfl ?_
    refine PQl.step (fun _ he ho => LR.assign (he rfl rfl)) rfl ?_
    refine PQl.nil ?_
    refine PWc.seq ?_
    refine PWc.seq ?_
    refine PWc.region ?_
    refine PWl.re (tl := [(0, _), (3, _), (4, _), (5, _)]) (to := [(100, _), (1100, _)]) rfl (.cons rfl rfl <| .cons rfl rfl <| .cons rfl rfl <| .cons rfl rfl <| .nil) (.cons rfl rfl <| .cons rfl rfl <| .nil) ?_
    refine PWl.step (LR.move rfl) rfl ?_
    refine PWl.step (LR.neq rfl rfl) rfl ?_
    refine PWl.nil ?_
    refine PWc.cond rfl (fun hc7 => ?_) (fun hc7 => ?_)
    · replace h := iT hc7 h
      refine PWc.seq ?_
      refine PWc.region ?_
      refine PWl.step (LR.move rfl) rfl ?_
      refine PWl.step (LR.move rfl) rfl ?_
      replace h := iDet h
      obtain ⟨y8, hy9, h⟩ := h
      refine PWl.step (LR.callObj [(100, 100)] [] [100] (epitaphref04_Reader_Fail_o_ok v5.2.2 b_1 at_2 bad_3 y8 hy9) hK rfl Tryz.call86 rfl (by first | rfl | (simp; done) | (simp [PV.nilD, PV.ren, rn]; omega)) (.cons (by first | rfl | (congr 1; first | (simp; done) | (simp; omega))) <| .nil) rfl rfl rfl rfl) rfl ?_
      refine PWl.nil ?_
      refine PWc.seq ?_
      refine PWc.re (tl := []) (to := [(100, _), (1100, _)]) rfl (.nil) (.cons rfl rfl <| .cons rfl rfl <| .nil) ?_
      refine PWc.region ?_
      refine PWl.step (LR.assign rfl) rfl ?_
      refine PWl.nil ?_
      refine PWc.ret ?_
      replace h : _ = r0 := h
      subst h
      exact EndsO.mk () (.inr rfl) (Sub.of (tl := [(2, _)]) (to := [(100, _), (1100, _)]) rfl (.cons rfl rfl <| .nil) (.cons rfl rfl <| .cons rfl rfl <| .nil)) (.cons (.tmp rfl) <| .nil) rfl rfl
    · replace h := iF hc7 h
      refine PWc.skip ?_
      refine PWc.seq ?_
      refine PWc.region ?_
      refine PWl.step (LR.move rfl) rfl ?_
      refine PWl.step (LR.move rfl) rfl ?_
      refine PWl.step (LR.nilCheckRef rfl) rfl ?_
      refine PWl.step (LR.fieldRef Tryz.underlying53 rfl Tryz.sizeOf3 (by decide) rfl rfl) rfl ?_
      refine PWl.step (LR.storeB (ns := [_, _, _]) Tryz.sizeOf3 rfl rfl rfl rfl rfl rfl rfl) rfl ?_
      refine PWl.nil ?_
      refine PWc.seq ?_
      refine PWc.region ?_
      refine PWl.step (LR.move rfl) rfl ?_
      refine PWl.step (LR.assign rfl) rfl ?_
      refine PWl.nil ?_
      refine PWc.ret ?_
      replace h : _ = r0 := h
      subst h
      exact EndsO.mk () (.inr rfl) (Sub.of (tl := [(2, _)]) (to := [(100, _), (1100, _)]) rfl (.cons rfl rfl <| .nil) (.cons rfl rfl <| .cons rfl rfl <| .nil)) (.cons (.tmp rfl) <| .nil) rfl rfl

theorem epitaphref04_Reader_Upto_o_ok (most1 : Int) (b_2 : List Int) (at_3 : Int) (bad_4 : Int) (r0 : Int × List Int × Int × Int) (h : (epitaphref04_Reader_Upto_o most1 b_2 at_3 bad_4).wp (· = r0)) : PObj Tryz.prog 84 [.ref 100 0, .d (.v (.int .u64 most1))] [(100, .cells 53 [.d (.sl (List.map (eK .u8) b_2)), .d (.v (.int .i64 at_3)), .d (.v (.int .i64 bad_4))])] [100] (.d (.v (.int .u64 r0.1))) (fun _ : Unit => [(100, .cells 53 [.d (.sl (List.map (eK .u8) r0.2.1)), .d (.v (.int .i64 r0.2.2.1)), .d (.v (.int .i64 r0.2.2.2))])]) := by
  refine PObj.intro (sl := [(0, _), (1, _)]) Tryz.func84 rfl Tryz.ntmps84 rfl rfl rfl ?_
  intro ctx hK pv
  refine PWc.seq ?_
  refine PWc.region ?_
  refine PWl.step (LR.assign rfl) rfl ?_
  refine PWl.nil ?_
  refine PWc.seq ?_
  refine PWc.region ?_
  refine PWl.step (LR.move rfl) rfl ?_
  replace h := iDet h
  obtain ⟨y5, hy6, h⟩ := h
  refine PWl.step (LR.callObj [(100, 100)] [] [100] (epitaphref04_Reader_Num_o_ok b_2 at_3 bad_4 y5 hy6) hK rfl Tryz.call85 rfl (by first | rfl | (simp; done) | (simp [PV.nilD, PV.ren, rn]; omega)) (.cons (by first | rfl | (congr 1; first | (simp; done) | (simp; omega))) <| .nil) rfl rfl rfl rfl) rfl ?_
  refine PWl.step (LR.assign rfl) rfl ?_
  refine PWl.nil ?_
  refine PWc.seq ?_
  refine PWc.seq ?_
  refine PWc.re (tl := [(0, _), (1, _), (5, _)]) (to := [(100, _), (1100, _)]) rfl (.cons rfl rfl <| .cons rfl rfl <| .cons rfl rfl <| .nil) (.cons rfl rfl <| .cons rfl rfl <| .nil) ?_
  refine PWc.region ?_
  refine PWl.step (LR.move rfl) rfl ?_
  refine PWl.step (LR.move rfl) rfl ?_
  refine PWl.step (LR.gtr rfl rfl) rfl ?_
  refine PWl.nil ?_
  refine PWc.cond rfl (fun hc7 => ?_) (fun hc7 => ?_)
  · replace h := iT hc7 h
    refine PWc.seq ?_
    refine PWc.region ?_
    refine PWl.step (LR.move rfl) rfl ?_
    replace h := iDet h
    obtain ⟨y8, hy9, h⟩ := h
    refine PWl.step (LR.callObj [(100, 100)] [] [100] (epitaphref04_Reader_Fail_o_ok 4 y5.2.1 y5.2.2.1 y5.2.2.2 y8 hy9) hK rfl Tryz.call86 rfl (by first | rfl | (simp; done) | (simp [PV.nilD, PV.ren, rn]; omega)) (.cons (by first | rfl | (congr 1; first | (simp; done) | (simp; omega))) <| .nil) rfl rfl rfl rfl) rfl ?_
    refine PWl.nil ?_
    refine PWc.seq ?_
    refine PWc.re (tl := []) (to := [(100, _), (1100, _)]) rfl (.nil) (.cons rfl rfl <| .cons rfl rfl <| .nil) ?_
    refine PWc.region ?_
    refine PWl.step (LR.assign rfl) rfl ?_
    refine PWl.nil ?_
    refine PWc.ret ?_
    replace h : _ = r0 := h
    subst h
    exact EndsO.mk () (.inr rfl) (Sub.of (tl := [(4, _)]) (to := [(100, _), (1100, _)]) rfl (.cons rfl rfl <| .nil) (.cons rfl rfl <| .cons rfl rfl <| .nil)) (.cons (.tmp rfl) <| .nil) rfl rfl
  · replace h := iF hc7 h
    refine PWc.skip ?_
    refine PWc.seq ?_
    refine PWc.region ?_
    refine PWl.step (LR.move rfl) rfl ?_
    refine PWl.step (LR.assign rfl) rfl ?_
    refine PWl.nil ?_
    refine PWc.ret ?_
    replace h : _ = r0 := h
    subst h
    exact EndsO.mk () (.inr rfl) (Sub.of (tl := [(4, _)]) (to := [(100, _), (1100, _)]) rfl (.cons rfl rfl <| .nil) (.cons rfl rfl <| .cons rfl rfl <| .nil)) (.cons (.tmp rfl) <| .nil) rfl rfl

theorem r15_Ctx_o_ok (b_1 : List Int) (at_2 : Int) (bad_3 : Int) (r0 : List TPart × List Int × Int × Int) (h : (r15_Ctx_o b_1 at_2 bad_3).wp (· = r0)) : PObj Tryz.prog 48 [.ref 100 0] [(100, .cells 53 [.d (.sl (List.map (eK .u8) b_1)), .d (.v (.int .i64 at_2)), .d (.v (.int .i64 bad_3))])] [100] (.d (.sl (List.map TPart.e r0.1))) (fun _ : Unit => [(100, .cells 53 [.d (.sl (List.map (eK .u8) r0.2.1)), .d (.v (.int .i64 r0.2.2.1)), .d (.v (.int .i64 r0.2.2.2))])]) := by
  refine PObj.intro (sl := [(0, _)]) Tryz.func48 rfl Tryz.ntmps48 rfl rfl rfl ?_
  intro ctx hK pv
  refine PWc.seq ?_
  refine PWc.region ?_
  refine PWl.step (LR.assignNilRow 80 2 rfl) rfl ?_
  refine PWl.nil ?_
  refine PWc.seq ?_
  refine PWc.region ?_
  refine PWl.step (LR.assignNilRow 80 2 rfl) rfl ?_
  refine PWl.nil ?_
  refine PWc.seq ?_
  refine PWc.region ?_
  refine PWl.step (LR.move rfl) rfl ?_
  replace h := iDet h
  obtain ⟨y4, hy5, h⟩ := h
  refine PWl.step (LR.callObj [(100, 100)] [] [100] (epitaphref04_Reader_Num_o_ok b_1 at_2 bad_3 y4 hy5) hK rfl Tryz.call85 rfl (by first | rfl | (simp; done) | (simp [PV.nilD, PV.ren, rn]; omega)) (.cons (by first | rfl | (congr 1; first | (simp; done) | (simp; omega))) <| .nil) rfl rfl rfl rfl) rfl ?_
  refine PWl.step (LR.assign rfl) rfl ?_
  refine PWl.nil ?_
  refine PWc.seq ?_
  refine PWc.seq ?_
  refine PWc.re (tl := [(0, _), (3, _), (4, _)]) (to := [(3, _), (100, _), (1100, _)]) rfl (.cons rfl rfl <| .cons rfl rfl <| .cons rfl rfl <| .nil) (.cons rfl rfl <| .cons rfl rfl <| .cons rfl rfl <| .nil) ?_
  refine PWc.region ?_
  refine PWl.step (LR.assign rfl) rfl ?_
  refine PWl.nil ?_
  refine PWc.jn (iBind h) (fun (⟨out6, v7, v8, v9⟩ : List TPart × List Int × Int × Int) (_ : Unit) => ⟨77, [(0, .ref 100 0), (3, .row 3 (List.length out6))], [(3, .row 80 2 (List.map TPart.e out6)), (100, .cells 53 [.d (.sl (List.map (eK .u8) v7)), .d (.v (.int .i64 v8)), .d (.v (.int .i64 v9))]), (1100, .pin 100 (pv 100).1 (pv 100).2)]⟩) (fun h => ?_) ?_
  · refine PWc.block ?_
    refine PWc.loopM (fun (⟨i121, out122, v123, v124, v125⟩ : Int × List TPart × List Int × Int × Int) (_ : Unit) => ⟨77, [(0, .ref 100 0), (3, .row 3 (List.length out122)), (4, .d (.v (.int .u64 y4.1))), (5, .d (.v (.int .u64 i121)))], [(3, .row 80 2 (List.map TPart.e out122)), (100, .cells 53 [.d (.sl (List.map (eK .u8) v123)), .d (.v (.int .i64 v124)), .d (.v (.int .i64 v125))]), (1100, .pin 100 (pv 100).1 (pv 100).2)]⟩) () h (Sub.of rfl (.cons rfl rfl <| .cons rfl rfl <| .cons rfl rfl <| .cons rfl rfl <| .nil) (.cons rfl rfl <| .cons rfl rfl <| .cons rfl rfl <| .nil)) ?_
    rintro N ⟨i121, out122, v123, v124, v125⟩ _ h
    refine PWc.seq ?_
    refine PWc.seq ?_
    refine PWc.jn (iBind h) (fun (v126 : Bool) (_ : Unit) => ⟨77, [(0, .ref 100 0), (3, .row 3 (List.length out122)), (4, .d (.v (.int .u64 y4.1))), (5, .d (.v (.int .u64 i121))), (21, .d (.v (.bool v126)))], [(3, .row 80 2 (List.map TPart.e out122)), (100, .cells 53 [.d (.sl (List.map (eK .u8) v123)), .d (.v (.int .i64 v124)), .d (.v (.int .i64 v125))]), (1100, .pin 100 (pv 100).1 (pv 100).2)]⟩) (fun h => ?_) ?_
    · refine PWc.region ?_
      refine PWl.step (LR.move rfl) rfl ?_
      refine PWl.step (LR.move rfl) rfl ?_
      refine PWl.step (LR.lss rfl rfl) rfl ?_
      refine PWl.step (LR.move rfl) rfl ?_
      refine PWl.split (d := 15) rfl (fun hg127 => ?_) (fun hg127 => ?_)
      · replace h := iT hg127 h
        refine PWl.guardT (LR.move rfl) rfl rfl rfl ?_
        refine PWl.guardT (LR.nilCheckRef rfl) rfl rfl rfl ?_
        refine PWl.guardT (LR.fieldRef Tryz.underlying53 rfl Tryz.sizeOf3 (by decide) rfl rfl) rfl rfl rfl ?_
        refine PWl.guardT (LR.loadRef Tryz.isAgg3 rfl rfl rfl) rfl rfl rfl ?_
        refine PWl.guardT (LR.eql rfl rfl) rfl rfl rfl ?_
        refine PWl.step (LR.pickT rfl rfl) rfl ?_
        refine PWl.nil ?_
        exact ⟨(decide (v125 = 0)), (), h, Sub.of rfl (.cons rfl rfl <| .cons rfl rfl <| .cons rfl rfl <| .cons rfl rfl <| .cons rfl rfl <| .nil) (.cons rfl rfl <| .cons rfl rfl <| .cons rfl rfl <| .nil)⟩
      · replace h := iF hg127 h
        refine PWl.guardF rfl rfl rfl (by decide) ?_
        refine PWl.guardF rfl rfl rfl (by decide) ?_
        refine PWl.guardF rfl rfl rfl (by decide) ?_
        refine PWl.guardF rfl rfl rfl (by decide) ?_
        refine PWl.guardF rfl rfl rfl (by decide) ?_
        refine PWl.step (LR.pickF rfl rfl) rfl ?_
        refine PWl.nil ?_
        exact ⟨false, (), h, Sub.of rfl (.cons rfl rfl <| .cons rfl rfl <| .cons rfl rfl <| .cons rfl rfl <| .cons rfl rfl <| .nil) (.cons rfl rfl <| .cons rfl rfl <| .cons rfl rfl <| .nil)⟩
    · rintro v126 _ h
      refine PWc.cond rfl (fun hc128 => ?_) (fun hc128 => ?_)
      · replace h := iT hc128 h
        refine PWc.skip ?_
        refine PWc.seq ?_
        refine PWc.jn (iBind h) (fun (⟨out129, v130, v131, v132⟩ : List TPart × List Int × Int × Int) (_ : Unit) => ⟨77, [(0, .ref 100 0), (3, .row 3 (List.length out129)), (4, .d (.v (.int .u64 y4.1))), (5, .d (.v (.int .u64 i121)))], [(3, .row 80 2 (List.map TPart.e out129)), (100, .cells 53 [.d (.sl (List.map (eK .u8) v130)), .d (.v (.int .i64 v131)), .d (.v (.int .i64 v132))]), (1100, .pin 100 (pv 100).1 (pv 100).2)]⟩) (fun h => ?_) ?_
        · refine PWc.block ?_
          refine PWc.seq ?_
          refine PWc.region ?_
          refine PWl.step (LR.move rfl) rfl ?_
          replace h := iDet h
          obtain ⟨y133, hy134, h⟩ := h
          refine PWl.step (LR.callObj [(100, 100)] [] [100] (epitaphref04_Reader_Upto_o_ok 65535 v123 v124 v125 y133 hy134) hK rfl Tryz.call84 rfl (by first | rfl | (simp; done) | (simp [PV.nilD, PV.ren, rn]; omega)) (.cons (by first | rfl | (congr 1; first | (simp; done) | (simp; omega))) <| .nil) rfl rfl rfl rfl) rfl ?_
          refine PWl.step (LR.convInt Tryz.underlying29 (by rw [Tryz.underlying30]; rfl) rfl rfl) rfl ?_
          refine PWl.step (LR.build (ns := [_, _]) build80 rfl rfl rfl) rfl ?_
          refine PWl.step (LR.allocZ (cs := [_, _]) Tryz.zeroValue80 rfl rfl rfl rfl) rfl ?_
          refine PWl.step (LR.storeB (ns := [_, _]) Tryz.sizeOf80 rfl rfl rfl rfl rfl rfl rfl) rfl ?_
          refine PWl.nil ?_
          refine PWc.seq ?_
          refine PWc.re (tl := [(0, _), (3, _), (4, _), (5, _), (6, _)]) (to := [(3, _), (6, _), (100, _), (1100, _)]) rfl (.cons rfl rfl <| .cons rfl rfl <| .cons rfl rfl <| .cons rfl rfl <| .cons rfl rfl <| .nil) (.cons rfl rfl <| .cons rfl rfl <| .cons rfl rfl <| .cons rfl rfl <| .nil) ?_
          refine PWc.region ?_
          refine PWl.step (LR.move rfl) rfl ?_
          replace h := iDet h
          obtain ⟨y135, hy136, h⟩ := h
          refine PWl.step (LR.callObj [(100, 100)] [] [100] (epitaphref04_Reader_Num_o_ok y133.2.1 y133.2.2.1 y133.2.2.2 y135 hy136) hK rfl Tryz.call85 rfl (by first | rfl | (simp; done) | (simp [PV.nilD, PV.ren, rn]; omega)) (.cons (by first | rfl | (congr 1; first | (simp; done) | (simp; omega))) <| .nil) rfl rfl rfl rfl) rfl ?_
          refine PWl.step (LR.assign rfl) rfl ?_
          refine PWl.nil ?_
          refine PWc.seq ?_
          refine PWc.seq ?_
          refine PWc.re (tl := [(0, _), (3, _), (4, _), (5, _), (6, _), (7, _)]) (to := [(3, _), (6, _), (100, _), (1100, _)]) rfl (.cons rfl rfl <| .cons rfl rfl <| .cons rfl rfl <| .cons rfl rfl <| .cons rfl rfl <| .cons rfl rfl <| .nil) (.cons rfl rfl <| .cons rfl rfl <| .cons rfl rfl <| .cons rfl rfl <| .nil) ?_
          refine PWc.region ?_
          refine PWl.step (LR.assign rfl) rfl ?_
          refine PWl.nil ?_
          refine PWc.jn (iBind h) (fun (⟨p137, v138, v139, v140⟩ : List TRun × List Int × Int × Int) (_ : Unit) => ⟨77, [(0, .ref 100 0), (3, .row 3 (List.length out122)), (4, .d (.v (.int .u64 y4.1))), (5, .d (.v (.int .u64 i121))), (6, .ref 6 0)], [(3, .row 80 2 (List.map TPart.e out122)), (6, .cells 80 [.d (.v (.int .u16 (IntKind.u16.wrap y133.1))), .d (.sl (List.map TRun.e p137))]), (100, .cells 53 [.d (.sl (List.map (eK .u8) v138)), .d (.v (.int .i64 v139)), .d (.v (.int .i64 v140))]), (1100, .pin 100 (pv 100).1 (pv 100).2)]⟩) (fun h => ?_) ?_
          · refine PWc.block ?_
            refine PWc.loopM (fun (⟨k164, p165, v166, v167, v168⟩ : Int × List TRun × List Int × Int × Int) (_ : Unit) => ⟨77, [(0, .ref 100 0), (3, .row 3 (List.length out122)), (4, .d (.v (.int .u64 y4.1))), (5, .d (.v (.int .u64 i121))), (6, .ref 6 0), (7, .d (.v (.int .u64 y135.1))), (8, .d (.v (.int .u64 k164)))], [(3, .row 80 2 (List.map TPart.e out122)), (6, .cells 80 [.d (.v (.int .u16 (IntKind.u16.wrap y133.1))), .d (.sl (List.map TRun.e p165))]), (100, .cells 53 [.d (.sl (List.map (eK .u8) v166)), .d (.v (.int .i64 v167)), .d (.v (.int .i64 v168))]), (1100, .pin 100 (pv 100).1 (pv 100).2)]⟩) () h (Sub.of rfl (.cons rfl rfl <| .cons rfl rfl <| .cons rfl rfl <| .cons rfl rfl <| .cons rfl rfl <| .cons rfl rfl <| .cons rfl rfl <| .nil) (.cons rfl rfl <| .cons rfl rfl <| .cons rfl rfl <| .cons rfl rfl <| .nil)) ?_
            rintro N ⟨k164, p165, v166, v167, v168⟩ _ h
            refine PWc.seq ?_
            refine PWc.seq ?_
            refine PWc.jn (iBind h) (fun (v169 : Bool) (_ : Unit) => ⟨77, [(0, .ref 100 0), (3, .row 3 (List.length out122)), (4, .d (.v (.int .u64 y4.1))), (5, .d (.v (.int .u64 i121))), (6, .ref 6 0), (7, .d (.v (.int .u64 y135.1))), (8, .d (.v (.int .u64 k164))), (39, .d (.v (.bool v169)))], [(3, .row 80 2 (List.map TPart.e out122)), (6, .cells 80 [.d (.v (.int .u16 (IntKind.u16.wrap y133.1))), .d (.sl (List.map TRun.e p165))]), (100, .cells 53 [.d (.sl (List.map (eK .u8) v166)), .d (.v (.int .i64 v167)), .d (.v (.int .i64 v168))]), (1100, .pin 100 (pv 100).1 (pv 100).2)]⟩) (fun h => ?_) ?_
            · refine PWc.region ?_
              refine PWl.step (LR.move rfl) rfl ?_
              refine PWl.step (LR.move rfl) rfl ?_
              refine PWl.step (LR.lss rfl rfl) rfl ?_
              refine PWl.step (LR.move rfl) rfl ?_
              refine PWl.split (d := 33) rfl (fun hg170 => ?_) (fun hg170 => ?_)
              · replace h := iT hg170 h
                refine PWl.guardT (LR.move rfl) rfl rfl rfl ?_
                refine PWl.guardT (LR.nilCheckRef rfl) rfl rfl rfl ?_
                refine PWl.guardT (LR.fieldRef Tryz.underlying53 rfl Tryz.sizeOf3 (by decide) rfl rfl) rfl rfl rfl ?_
                refine PWl.guardT (LR.loadRef Tryz.isAgg3 rfl rfl rfl) rfl rfl rfl ?_
                refine PWl.guardT (LR.eql rfl rfl) rfl rfl rfl ?_
                refine PWl.step (LR.pickT rfl rfl) rfl ?_
                refine PWl.nil ?_
                exact ⟨(decide (v168 = 0)), (), h, Sub.of rfl (.cons rfl rfl <| .cons rfl rfl <| .cons rfl rfl <| .cons rfl rfl <| .cons rfl rfl <| .cons rfl rfl <| .cons rfl rfl <| .cons rfl rfl <| .nil) (.cons rfl rfl <| .cons rfl rfl <| .cons rfl rfl <| .cons rfl rfl <| .nil)⟩
              · replace h := iF hg170 h
                refine PWl.guardF rfl rfl rfl (by decide) ?_
                refine PWl.guardF rfl rfl rfl (by decide) ?_
                refine PWl.guardF rfl rfl rfl (by decide) ?_
                refine PWl.guardF rfl rfl rfl (by decide) ?_
                refine PWl.guardF rfl rfl rfl (by decide) ?_
                refine PWl.step (LR.pickF rfl rfl) rfl ?_
                refine PWl.nil ?_
                exact ⟨false, (), h, Sub.of rfl (.cons rfl rfl <| .cons rfl rfl <| .cons rfl rfl <| .cons rfl rfl <| .cons rfl rfl <| .cons rfl rfl <| .cons rfl rfl <| .cons rfl rfl <| .nil) (.cons rfl rfl <| .cons rfl rfl <| .cons rfl rfl <| .cons rfl rfl <| .nil)⟩
            · rintro v169 _ h
              refine PWc.cond rfl (fun hc171 => ?_) (fun hc171 => ?_)
              · replace h := iT hc171 h
                refine PWc.skip ?_
                refine PWc.seq ?_
                refine PWc.block ?_
                refine PWc.seq ?_
                refine PWc.region ?_
                refine PWl.step (LR.move rfl) rfl ?_
                replace h := iDet h
                obtain ⟨y172, hy173, h⟩ := h
                refine PWl.step (LR.callObj [(100, 100)] [] [100] (epitaphref04_Reader_Num_o_ok v166 v167 v168 y172 hy173) hK rfl Tryz.call85 rfl (by first | rfl | (simp; done) | (simp [PV.nilD, PV.ren, rn]; omega)) (.cons (by first | rfl | (congr 1; first | (simp; done) | (simp; omega))) <| .nil) rfl rfl rfl rfl) rfl ?_
                refine PWl.step (LR.assign rfl) rfl ?_
                refine PWl.nil ?_
                refine PWc.re (tl := [(0, _), (3, _), (4, _), (5, _), (6, _), (7, _), (8, _), (9, _)]) (to := [(3, _), (6, _), (100, _), (1100, _)]) rfl (.cons rfl rfl <| .cons rfl rfl <| .cons rfl rfl <| .cons rfl rfl <| .cons rfl rfl <| .cons rfl rfl <| .cons rfl rfl <| .cons rfl rfl <| .nil) (.cons rfl rfl <| .cons rfl rfl <| .cons rfl rfl <| .cons rfl rfl <| .nil) ?_
                refine PWc.region ?_
                refine PWl.step (LR.buildSlice [] elem37 rfl rfl (.nil) (by decide) (by decide) rfl) rfl ?_
                refine PWl.step (LR.fieldRef Tryz.underlying80 rfl Tryz.sizeOf37 (by decide) rfl rfl) rfl ?_
                refine PWl.step (LR.loadRef Tryz.isAgg37 rfl rfl rfl) rfl ?_
                replace h := iNeed h
                obtain ⟨hy174, h⟩ := h
                refine PWl.step (LR.appT (enc := TRun.e) (L := ([] : List TRun)) (R := p165) [44] elem37 Tryz.underlying37 rfl (by first | (simp; done) | (simp; omega) | omega) rfl (Src.slT (enc := TRun.e) (R := p165) rfl (fun _ => rfl)) (fun _ => rfl) hy174 rfl rfl) rfl ?_
                refine PWl.step (LR.move rfl) rfl ?_
                refine PWl.step (LR.move rfl) rfl ?_
                replace h := iDet h
                obtain ⟨y175, hy176, h⟩ := h
                refine PWl.step (LR.callObj [(100, 100)] [] [100] (epitaphref04_Reader_Num_o_ok y172.2.1 y172.2.2.1 y172.2.2.2 y175 hy176) hK rfl Tryz.call85 rfl (by first | rfl | (simp; done) | (simp [PV.nilD, PV.ren, rn]; omega)) (.cons (by first | rfl | (congr 1; first | (simp; done) | (simp; omega))) <| .nil) rfl rfl rfl rfl) rfl ?_
                refine PWl.step (LR.build (ns := [_, _]) build89 rfl rfl rfl) rfl ?_
                refine PWl.step (LR.buildSliceD [.tmp 51] elem37 rfl rfl (.cons rfl rfl rfl <| .nil) (by decide) (by decide)) rfl ?_
                replace h := iNeed h
                obtain ⟨hy177, h⟩ := h
                refine PWl.step (LR.appT (enc := TRun.e) (L := (([] : List TRun) ++ p165)) (R := [(⟨y172.1, y175.1⟩ : TRun)]) [47] elem37 Tryz.underlying37 rfl rfl rfl (Src.slT (enc := TRun.e) (R := [(⟨y172.1, y175.1⟩ : TRun)]) rfl (fun _ => rfl)) (fun _ => rfl) hy177 rfl rfl) rfl ?_
                refine PWl.step (LR.fieldRef Tryz.underlying80 rfl Tryz.sizeOf37 (by decide) rfl rfl) rfl ?_
                refine PWl.frz [53] hK (.cons rfl <| .nil) rfl (by first | (simp; done) | (simp; omega) | omega) ?_
                refine PWl.step (LR.storeB (ns := [_, _]) Tryz.sizeOf37 rfl rfl rfl rfl rfl rfl rfl) rfl ?_
                refine PWl.nil ?_
                refine PWc.re (tl := [(0, _), (3, _), (4, _), (5, _), (6, _), (7, _), (8, _)]) (to := [(3, _), (6, _), (100, _), (1100, _)]) rfl (.cons rfl rfl <| .cons rfl rfl <| .cons rfl rfl <| .cons rfl rfl <| .cons rfl rfl <| .cons rfl rfl <| .cons rfl rfl <| .nil) (.cons rfl rfl <| .cons rfl rfl <| .cons rfl rfl <| .cons rfl rfl <| .nil) ?_
                refine PWc.region ?_
                refine PWl.step (LR.move rfl) rfl ?_
                refine PWl.step (LR.addW rfl rfl) rfl ?_
                refine PWl.step (LR.assign rfl) rfl ?_
                refine PWl.nil ?_
                exact ⟨((IntKind.u64.wrap (k164 + 1)), ((([] : List TRun) ++ p165) ++ [(⟨y172.1, y175.1⟩ : TRun)]), y175.2.1, y175.2.2.1, y175.2.2.2), (), h, Sub.of rfl (.cons rfl rfl <| .cons rfl rfl <| .cons rfl rfl <| .cons rfl rfl <| .cons rfl rfl <| .cons rfl rfl <| .cons rfl rfl <| .nil) (.cons rfl rfl <| .cons rfl rfl <| .cons rfl rfl <| .cons rfl rfl <| .nil)⟩
              · replace h := iF hc171 h
                refine PWc.exit ?_
                exact ⟨(p165, v166, v167, v168), (), h, Sub.of rfl (.cons rfl rfl <| .cons rfl rfl <| .cons rfl rfl <| .cons rfl rfl <| .cons rfl rfl <| .nil) (.cons rfl rfl <| .cons rfl rfl <| .cons rfl rfl <| .cons rfl rfl <| .nil)⟩
          · rintro ⟨p137, v138, v139, v140⟩ _ h
            refine PWc.region ?_
            refine PWl.step (LR.move rfl) rfl ?_
            refine PWl.step (LR.loadRefAgg (ps := [_, _]) Tryz.isAgg80 Tryz.sizeOf80 rfl rfl rfl rfl) rfl ?_
            refine PWl.step (LR.buildSliceD [.tmp 56] elem23 rfl rfl (.cons rfl rfl rfl <| .nil) (by decide) (by decide)) rfl ?_
            replace h := iNeed h
            obtain ⟨hy178, h⟩ := h
            refine PWl.step (LR.appT (enc := TPart.e) (L := out122) (R := [(⟨(IntKind.u16.wrap y133.1), p137⟩ : TPart)]) [3, 55] elem23 Tryz.underlying23 rfl rfl rfl (Src.slT (enc := TPart.e) (R := [(⟨(IntKind.u16.wrap y133.1), p137⟩ : TPart)]) rfl (fun _ => rfl)) (fun _ => rfl) hy178 rfl rfl) rfl ?_
            refine PWl.step (LR.assign rfl) rfl ?_
            refine PWl.nil ?_
            exact ⟨((out122 ++ [(⟨(IntKind.u16.wrap y133.1), p137⟩ : TPart)]), v138, v139, v140), (), h, Sub.of rfl (.cons rfl rfl <| .cons rfl (by first | rfl | (simp; done) | (congr 1; first | (simp; done) | (simp; omega))) <| .cons rfl rfl <| .cons rfl rfl <| .nil) (.cons rfl rfl <| .cons rfl rfl <| .cons rfl rfl <| .nil)⟩
        · rintro ⟨out129, v130, v131, v132⟩ _ h
          refine PWc.region ?_
          refine PWl.step (LR.move rfl) rfl ?_
          refine PWl.step (LR.addW rfl rfl) rfl ?_
          refine PWl.step (LR.assign rfl) rfl ?_
          refine PWl.nil ?_
          exact ⟨((IntKind.u64.wrap (i121 + 1)), out129, v130, v131, v132), (), h, Sub.of rfl (.cons rfl rfl <| .cons rfl rfl <| .cons rfl rfl <| .cons rfl rfl <| .nil) (.cons rfl rfl <| .cons rfl rfl <| .cons rfl rfl <| .nil)⟩
      · replace h := iF hc128 h
        refine PWc.exit ?_
        exact ⟨(out122, v123, v124, v125), (), h, Sub.of rfl (.cons rfl rfl <| .cons rfl rfl <| .nil) (.cons rfl rfl <| .cons rfl rfl <| .cons rfl rfl <| .nil)⟩
  · rintro ⟨out6, v7, v8, v9⟩ _ h
    refine PWc.seq ?_
    refine PWc.seq ?_
    refine PWc.jn (iBind h) (fun (⟨out179, v180⟩ : List TPart × Bool) (_ : Unit) => ⟨77, [(0, .ref 100 0), (3, .d (.sl (List.map TPart.e out179))), (68, .d (.v (.bool v180)))], [(100, .cells 53 [.d (.sl (List.map (eK .u8) v7)), .d (.v (.int .i64 v8)), .d (.v (.int .i64 v9))]), (1100, .pin 100 (pv 100).1 (pv 100).2)]⟩) (fun h => ?_) ?_
    · refine PWc.region ?_
      refine PWl.step (LR.move rfl) rfl ?_
      refine PWl.step (LR.nilCheckRef rfl) rfl ?_
      refine PWl.step (LR.fieldRef Tryz.underlying53 rfl Tryz.sizeOf3 (by decide) rfl rfl) rfl ?_
      refine PWl.step (LR.loadRef Tryz.isAgg3 rfl rfl rfl) rfl ?_
      refine PWl.step (LR.eql rfl rfl) rfl ?_
      refine PWl.step (LR.move rfl) rfl ?_
      refine PWl.split (d := 64) rfl (fun hg181 => ?_) (fun hg181 => ?_)
      · replace h := iT hg181 h
        refine PWl.guardT (LR.move rfl) rfl rfl rfl ?_
        replace h := iDet h
        obtain ⟨v182, hy183, h⟩ := h
        refine PWl.frz [3, 65] hK (.cons rfl <| .cons rfl <| .nil) rfl (by simp) ?_
        refine PWl.guardT (LR.callN (r09_Good_ok out6 v182 hy183) rfl Tryz.call23 rfl rfl rfl rfl) rfl rfl rfl ?_
        refine PWl.guardT (LR.not rfl) rfl rfl rfl ?_
        refine PWl.step (LR.pickT rfl rfl) rfl ?_
        refine PWl.nil ?_
        exact ⟨(out6, (!v182)), (), h, Sub.of rfl (.cons rfl rfl <| .cons rfl rfl <| .cons rfl rfl <| .nil) (.cons rfl rfl <| .cons rfl rfl <| .nil)⟩
      · replace h := iF hg181 h
        refine PWl.guardF rfl rfl rfl (by decide) ?_
        refine PWl.guardF rfl rfl rfl (by decide) ?_
        refine PWl.guardF rfl rfl rfl (by decide) ?_
        refine PWl.step (LR.pickF rfl rfl) rfl ?_
        refine PWl.nil ?_
        exact ⟨(out6, false), (), h, Sub.trans (Sub.frz [3] hK rfl (by simp) (AllRow.get (.cons rfl <| .nil))) <| Sub.of rfl (.cons rfl rfl <| .cons rfl rfl <| .cons rfl rfl <| .nil) (.cons rfl rfl <| .cons rfl rfl <| .nil)⟩
    · rintro ⟨out179, v180⟩ _ h
      refine PWc.jn (iBind h) (fun (⟨v184, v185, v186⟩ : List Int × Int × Int) (_ : Unit) => ⟨77, [(0, .ref 100 0), (3, .d (.sl (List.map TPart.e out179)))], [(100, .cells 53 [.d (.sl (List.map (eK .u8) v184)), .d (.v (.int .i64 v185)), .d (.v (.int .i64 v186))]), (1100, .pin 100 (pv 100).1 (pv 100).2)]⟩) (fun h => ?_) ?_
      · refine PWc.cond rfl (fun hc187 => ?_) (fun hc187 => ?_)
        · replace h := iT hc187 h
          refine PWc.region ?_
          refine PWl.step (LR.move rfl) rfl ?_
          replace h := iDet h
          obtain ⟨y188, hy189, h⟩ := h
          refine PWl.step (LR.callObj [(100, 100)] [] [100] (epitaphref04_Reader_Fail_o_ok 4 v7 v8 v9 y188 hy189) hK rfl Tryz.call86 rfl (by first | rfl | (simp; done) | (simp [PV.nilD, PV.ren, rn]; omega)) (.cons (by first | rfl | (congr 1; first | (simp; done) | (simp; omega))) <| .nil) rfl rfl rfl rfl) rfl ?_
          refine PWl.nil ?_
          exact ⟨(y188.1, y188.2.1, y188.2.2), (), h, Sub.of rfl (.cons rfl rfl <| .cons rfl rfl <| .nil) (.cons rfl rfl <| .cons rfl rfl <| .nil)⟩
        · replace h := iF hc187 h
          refine PWc.skip ?_
          exact ⟨(v7, v8, v9), (), h, Sub.of rfl (.cons rfl rfl <| .cons rfl rfl <| .nil) (.cons rfl rfl <| .cons rfl rfl <| .nil)⟩
      · rintro ⟨v184, v185, v186⟩ _ h
        refine PWc.seq ?_
        refine PWc.seq ?_
        refine PWc.region ?_
        refine PWl.step (LR.move rfl) rfl ?_
        refine PWl.step (LR.nilCheckRef rfl) rfl ?_
        refine PWl.step (LR.fieldRef Tryz.underlying53 rfl Tryz.sizeOf3 (by decide) rfl rfl) rfl ?_
        refine PWl.step (LR.loadRef Tryz.isAgg3 rfl rfl rfl) rfl ?_
        refine PWl.step (LR.neq rfl rfl) rfl ?_
        refine PWl.nil ?_
        refine PWc.cond rfl (fun hc190 => ?_) (fun hc190 => ?_)
        · replace h := iT hc190 h
          refine PWc.seq ?_
          refine PWc.region ?_
          refine PWl.step (LR.assignNilRow 80 2 rfl) rfl ?_
          refine PWl.nil ?_
          refine PWc.ret ?_
          replace h : _ = r0 := h
          subst h
          exact EndsO.mk () (.inr rfl) (Sub.trans (Sub.frz [2] hK rfl (by first | (simp; done) | (simp; omega) | omega) (AllRow.get (.cons rfl <| .nil))) <| Sub.of (tl := [(2, _)]) (to := [(100, _), (1100, _)]) rfl (.cons rfl rfl <| .nil) (.cons rfl rfl <| .cons rfl rfl <| .nil)) (.cons (.tmp rfl) <| .nil) rfl rfl
        · replace h := iF hc190 h
          refine PWc.skip ?_
          refine PWc.seq ?_
          refine PWc.region ?_
          refine PWl.step (LR.move rfl) rfl ?_
          refine PWl.step (LR.assign rfl) rfl ?_
          refine PWl.nil ?_
          refine PWc.ret ?_
          replace h : _ = r0 := h
          subst h
          exact EndsO.mk () (.inr rfl) (Sub.of (tl := [(2, _)]) (to := [(100, _), (1100, _)]) rfl (.cons rfl rfl <| .nil) (.cons rfl rfl <| .cons rfl rfl <| .nil)) (.cons (.tmp rfl) <| .nil) rfl rfl

theorem epitaphref04_Reader_Left_o_ok (b_1 : List Int) (at_2 : Int) (bad_3 : Int) (r0 : Int × List Int × Int × Int) (h : (epitaphref04_Reader_Left_o b_1 at_2 bad_3).wp (· = r0)) : PObj Tryz.prog 91 [.ref 100 0] [(100, .cells 53 [.d (.sl (List.map (eK .u8) b_1)), .d (.v (.int .i64 at_2)), .d (.v (.int .i64 bad_3))])] [100] (.d (.v (.int .i64 r0.1))) (fun _ : Unit => [(100, .cells 53 [.d (.sl (List.map (eK .u8) r0.2.1)), .d (.v (.int .i64 r0.2.2.1)), .d (.v (.int .i64 r0.2.2.2))])]) := by
  refine PObj.intro (sl := [(0, _)]) Tryz.func91 rfl Tryz.ntmps91 rfl rfl rfl ?_
  intro ctx hK pv
  refine PWc.seq ?_
  refine PWc.region ?_
  refine PWl.step (LR.assign rfl) rfl ?_
  refine PWl.nil ?_
  refine PWc.seq ?_
  refine PWc.seq ?_
  refine PWc.region ?_
  refine PWl.step (LR.move rfl) rfl ?_
  refine PWl.step (LR.nilCheckRef rfl) rfl ?_
  refine PWl.step (LR.fieldRef Tryz.underlying53 rfl Tryz.sizeOf3 (by decide) rfl rfl) rfl ?_
  refine PWl.step (LR.loadRef Tryz.isAgg3 rfl rfl rfl) rfl ?_
  refine PWl.step (LR.neq rfl rfl) rfl ?_
  refine PWl.nil ?_
  refine PWc.cond rfl (fun hc4 => ?_) (fun hc4 => ?_)
  · replace h := iT hc4 h
    refine PWc.seq ?_
    refine PWc.region ?_
    refine PWl.step (LR.assign rfl) rfl ?_
    refine PWl.nil ?_
    refine PWc.ret ?_
    replace h : _ = r0 := h
    subst h
    exact EndsO.mk () (.inr rfl) (Sub.of (tl := [(2, _)]) (to := [(100, _), (1100, _)]) rfl (.cons rfl rfl <| .nil) (.cons rfl rfl <| .cons rfl rfl <| .nil)) (.cons (.tmp rfl) <| .nil) rfl rfl
  · replace h := iF hc4 h
    refine PWc.skip ?_
    refine PWc.seq ?_
    refine PWc.regionD (by kernel_rfl) (by kernel_rfl) ?_
    refine PQl.step (fun _ he ho => LR.move (he rfl rfl)) rfl ?_
    refine PQl.step (fun _ he ho => LR.nilCheckRef (he rfl rfl)) rfl ?_
    refine PQl.step (fun _ he ho => LR.fieldRef Tryz.underlying53 rfl Tryz.sizeOf48 (by decide) rfl (he rfl rfl)) rfl ?_
    refine PQl.step (fun _ he ho => LR.loadRef Tryz.isAgg48 (he rfl rfl) (ho rfl) rfl) rfl ?_
    refine PQl.step (fun _ he ho => LR.lenMap (enc := (eK .u8)) (L := b_1) Tryz.underlying48 (he rfl rfl)) rfl ?_
    refine PQl.step (fun _ he ho => LR.move (he rfl rfl)) rfl ?_
    refine PQl.step (fun _ he ho => LR.nilCheckRef (he rfl rfl)) rfl ?_
    refine PQl.step (fun _ he ho => LR.fieldRef Tryz.underlying53 rfl Tryz.sizeOf3 (by decide) rfl (he rfl rfl)) rfl ?_
    refine PQl.step (fun _ he ho => LR.loadRef Tryz.isAgg3 (he rfl rfl) (ho rfl) rfl) rfl ?_
    refine PQl.step (fun _ he ho => LR.subW (he rfl rfl) (he rfl rfl)) rfl ?_
    refine PQl.step (fun _ he ho => LR.assign (he rfl rfl)) rfl ?_
    refine PQl.nil ?_
    refine PWc.ret ?_
    replace h : _ = r0 := h
    subst h
    exact EndsO.mk () (.inr rfl) (Sub.of (tl := [(2, _)]) (to := [(100, _), (1100, _)]) rfl (.cons rfl rfl <| .nil) (.cons rfl rfl <| .cons rfl rfl <| .nil)) (.cons (.tmp rfl) <| .nil) rfl rfl

theorem epitaphref04_Reader_End_o_ok (b_1 : List Int) (at_2 : Int) (bad_3 : Int) (r0 : Int × List Int × Int × Int) (h : (epitaphref04_Reader_End_o b_1 at_2 bad_3).wp (· = r0)) : PObj Tryz.prog 50 [.ref 100 0] [(100, .cells 53 [.d (.sl (List.map (eK .u8) b_1)), .d (.v (.int .i64 at_2)), .d (.v (.int .i64 bad_3))])] [100] (.d (.v (.int .i64 r0.1))) (fun _ : Unit => [(100, .cells 53 [.d (.sl (List.map (eK .u8) r0.2.1)), .d (.v (.int .i64 r0.2.2.1)), .d (.v (.int .i64 r0.2.2.2))])]) := by
  refine PObj.intro (sl := [(0, _)]) Tryz.func50 rfl Tryz.ntmps50 rfl rfl rfl ?_
  intro ctx hK pv
  refine PWc.seq ?_
  refine PWc.region ?_
  refine PWl.step (LR.assign rfl) rfl ?_
  refine PWl.nil ?_
  refine PWc.seq ?_
  refine PWc.seq ?_
  refine PWc.region ?_
  refine PWl.step (LR.move rfl) rfl ?_
  replace h := iDet h
  obtain ⟨y4, hy5, h⟩ := h
  refine PWl.step (LR.callObj [(100, 100)] [] [100] (epitaphref04_Reader_Left_o_ok b_1 at_2 bad_3 y4 hy5) hK rfl Tryz.call91 rfl (by first | rfl | (simp; done) | (simp [PV.nilD, PV.ren, rn]; omega)) (.cons (by first | rfl | (congr 1; first | (simp; done) | (simp; omega))) <| .nil) rfl rfl rfl rfl) rfl ?_
  refine PWl.step (LR.gtr rfl rfl) rfl ?_
  refine PWl.nil ?_
  refine PWc.jn (iBind h) (fun (⟨v6, v7, v8⟩ : List Int × Int × Int) (_ : Unit) => ⟨12, [(0, .ref 100 0)], [(100, .cells 53 [.d (.sl (List.map (eK .u8) v6)), .d (.v (.int .i64 v7)), .d (.v (.int .i64 v8))]), (1100, .pin 100 (pv 100).1 (pv 100).2)]⟩) (fun h => ?_) ?_
  · refine PWc.cond rfl (fun hc9 => ?_) (fun hc9 => ?_)
    · replace h := iT hc9 h
      refine PWc.re (tl := [(0, _)]) (to := [(100, _), (1100, _)]) rfl (.cons rfl rfl <| .nil) (.cons rfl rfl <| .cons rfl rfl <| .nil) ?_
      refine PWc.region ?_
      refine PWl.step (LR.move rfl) rfl ?_
      replace h := iDet h
      obtain ⟨y10, hy11, h⟩ := h
      refine PWl.step (LR.callObj [(100, 100)] [] [100] (epitaphref04_Reader_Fail_o_ok 4 y4.2.1 y4.2.2.1 y4.2.2.2 y10 hy11) hK rfl Tryz.call86 rfl (by first | rfl | (simp; done) | (simp [PV.nilD, PV.ren, rn]; omega)) (.cons (by first | rfl | (congr 1; first | (simp; done) | (simp; omega))) <| .nil) rfl rfl rfl rfl) rfl ?_
      refine PWl.nil ?_
      exact ⟨(y10.1, y10.2.1, y10.2.2), (), h, Sub.of rfl (.cons rfl rfl <| .nil) (.cons rfl rfl <| .cons rfl rfl <| .nil)⟩
    · replace h := iF hc9 h
      refine PWc.skip ?_
      exact ⟨(y4.2.1, y4.2.2.1, y4.2.2.2), (), h, Sub.of rfl (.cons rfl rfl <| .nil) (.cons rfl rfl <| .cons rfl rfl <| .nil)⟩
  · rintro ⟨v6, v7, v8⟩ _ h
    refine PWc.seq ?_
    refine PWc.region ?_
    refine PWl.step (LR.move rfl) rfl ?_
    refine PWl.step (LR.nilCheckRef rfl) rfl ?_
    refine PWl.step (LR.fieldRef Tryz.underlying53 rfl Tryz.sizeOf3 (by decide) rfl rfl) rfl ?_
    refine PWl.step (LR.loadRef Tryz.isAgg3 rfl rfl rfl) rfl ?_
    refine PWl.step (LR.assign rfl) rfl ?_
    refine PWl.nil ?_
    refine PWc.ret ?_
    replace h : _ = r0 := h
    subst h
    exact EndsO.mk () (.inr rfl) (Sub.of (tl := [(2, _)]) (to := [(100, _), (1100, _)]) rfl (.cons rfl rfl <| .nil) (.cons rfl rfl <| .cons rfl rfl <| .nil)) (.cons (.tmp rfl) <| .nil) rfl rfl
end Go.Proofs

/- Walks: written by program. -/
import Derived.Test.YtacnidaafcfgiaaGreatDFc
import Derived.Test.YtacnidaafcfgiaaGreatDSh
import Derived.Test.YtacnidaafcfgiaaGreatDSx
import Derived.Test.YtacnidaafcfgiaaGreatTl
import Derived.Test.YtacnidaafcfgiaaGreatSr
import Derived.Test.YtacnidaafcfgiaaGreatDr
import Derived.Test.YtacnidaafcfgiaaGreatOb
import Derived.Test.YtacnidaafcfgiaaGreatOe
import Derived.Test.YtacnidaafcfgiaaGreatLs
import Derived.Test.YtacnidaafcfgiaaGreatTl
import Derived.Test.YtacnidaafcfgiaaGreatStr
import Derived.Test.YtacnidaafcfgiaaGreatPc
import Derived.Test.YtacnidaafcfgiaaGreatDW0
import Derived.Test.YtacnidaafcfgiaaGreatDW3
import Derived.Test.YtacnidaafcfgiaaGreatDW4
import Derived.Test.YtacnidaafcfgiaaGreatDW8
import Derived.Test.YtacnidaafcfgiaaGreatDW9
import Derived.Test.YtacnidaafcfgiaaGreatDW10
namespace Go.Proofs
open Go.Ep
set_option maxHeartbeats 1000000
set_option maxRecDepth 100000
set_option linter.unusedVariables false
set_option linter.unusedSimpArgs false


theorem r15_Decode_ok (b1 : List Int) (r0 : List TPart × Int) (h : (r15_Decode b1).wp (· = r0)) : PFun Tryz.prog 52 [.d (.sl (List.map (eK .u8) b1))] (.tup [.d (.sl (List.map TPart.e r0.1)), .d (.v (.int .i64 r0.2))]) := by
  refine PFun.intro (sl := [(0, _)]) Tryz.func52 rfl Tryz.ntmps52 rfl rfl ?_
  intro ctx hK
  refine PWc.seq ?_
  refine PWc.region ?_
  refine PWl.step (LR.assignNilRow 80 2 rfl) rfl ?_
  refine PWl.step (LR.assign rfl) rfl ?_
  refine PWl.nil ?_
  refine PWc.seq ?_
  refine PWc.region ?_
  refine PWl.step (LR.move rfl) rfl ?_
  refine PWl.step (LR.build (ns := [_, _, _]) build53 rfl rfl rfl) rfl ?_
  refine PWl.step (LR.box rfl rfl rfl rfl) rfl ?_
  refine PWl.step (LR.assign rfl) rfl ?_
  refine PWl.nil ?_
  refine PWc.seq ?_
  refine PWc.region ?_
  refine PWl.step (LR.move rfl) rfl ?_
  replace h := iDet h
  obtain ⟨y2, hy3, h⟩ := h
  refine PWl.step (LR.callObj [(100, 9)] [] [100] (r15_Ctx_o_ok b1 0 0 y2 hy3) hK rfl Tryz.call48 rfl (by first | rfl | (simp; done) | (simp [PV.nilD, PV.ren, rn]; omega)) (.cons (by first | rfl | (congr 1; first | (simp; done) | (simp; omega))) <| .nil) rfl rfl rfl rfl) rfl ?_
  refine PWl.step (LR.assign rfl) rfl ?_
  refine PWl.nil ?_
  refine PWc.seq ?_
  refine PWc.re (tl := [(4, _), (5, _)]) (to := [(9, _)]) rfl (.cons rfl rfl <| .cons rfl rfl <| .nil) (.cons rfl rfl <| .nil) ?_
  refine PWc.region ?_
  refine PWl.step (LR.move rfl) rfl ?_
  replace h := iDet h
  obtain ⟨y4, hy5, h⟩ := h
  refine PWl.step (LR.callObj [(100, 9)] [] [100] (epitaphref04_Reader_End_o_ok y2.2.1 y2.2.2.1 y2.2.2.2 y4 hy5) hK rfl Tryz.call50 rfl (by first | rfl | (simp; done) | (simp [PV.nilD, PV.ren, rn]; omega)) (.cons (by first | rfl | (congr 1; first | (simp; done) | (simp; omega))) <| .nil) rfl rfl rfl rfl) rfl ?_
  refine PWl.step (LR.assign rfl) rfl ?_
  refine PWl.nil ?_
  refine PWc.seq ?_
  refine PWc.seq ?_
  refine PWc.re (tl := [(5, _), (6, _)]) (to := []) rfl (.cons rfl rfl <| .cons rfl rfl <| .nil) (.nil) ?_
  refine PWc.region ?_
  refine PWl.step (LR.move rfl) rfl ?_
  refine PWl.step (LR.neq rfl rfl) rfl ?_
  refine PWl.nil ?_
  refine PWc.cond rfl (fun hc6 => ?_) (fun hc6 => ?_)
  · replace h := iT hc6 h
    refine PWc.seq ?_
    refine PWc.region ?_
    refine PWl.step (LR.move rfl) rfl ?_
    refine PWl.step (LR.assignNilRow 80 2 rfl) rfl ?_
    refine PWl.step (LR.assign rfl) rfl ?_
    refine PWl.nil ?_
    refine PWc.ret ?_
    replace h : _ = r0 := h
    subst h
    exact ⟨.inr rfl, _, .cons (.row rfl rfl (by first | (simp; done) | (simp; omega) | omega)) <| .cons (.tmp rfl rfl) <| .nil, rfl⟩
  · replace h := iF hc6 h
    refine PWc.skip ?_
    refine PWc.seq ?_
    refine PWc.region ?_
    refine PWl.step (LR.move rfl) rfl ?_
    refine PWl.step (LR.assign rfl) rfl ?_
    refine PWl.step (LR.assign rfl) rfl ?_
    refine PWl.nil ?_
    refine PWc.ret ?_
    replace h : _ = r0 := h
    subst h
    exact ⟨.inr rfl, _, .cons (.tmp rfl rfl) <| .cons (.tmp rfl rfl) <| .nil, rfl⟩

theorem dcode_Dot_o_ok (b_1 : List Int) (bad_2 : Int) (r0 : TDot × List Int × Int) (h : (dcode_Dot_o b_1 bad_2).wp (· = r0)) : PObj Tryz.prog 43 [.ref 100 0] [(100, .cells 97 [.d (.sl (List.map (eK .u8) b_1)), .d (.v (.int .i64 bad_2))])] [100] (.agg (List.map .d (TDot.e r0.1))) (fun _ : Unit => [(100, .cells 97 [.d (.sl (List.map (eK .u8) r0.2.1)), .d (.v (.int .i64 r0.2.2))])]) := by
  refine PObj.intro (sl := [(0, _)]) Tryz.func43 rfl Tryz.ntmps43 rfl rfl rfl ?_
  intro ctx hK pv
  refine PWc.seq ?_
  refine PWc.region ?_
  refine PWl.step (LR.allocZ (cs := [_, _]) Tryz.zeroValue32 rfl rfl rfl rfl) rfl ?_
  refine PWl.nil ?_
  refine PWc.seq ?_
  refine PWc.region ?_
  refine PWl.step (LR.move rfl) rfl ?_
  replace h := iDet h
  obtain ⟨y3, hy4, h⟩ := h
  refine PWl.step (LR.callObj [(100, 100)] [] [100] (pack_Reader_Upto_o_ok 65535 b_1 bad_2 y3 hy4) hK rfl Tryz.call80 rfl (by first | rfl | (simp; done) | (simp [PV.nilD, PV.ren, rn]; omega)) (.cons (by first | rfl | (congr 1; first | (simp; done) | (simp; omega))) <| .nil) rfl rfl rfl rfl) rfl ?_
  refine PWl.step (LR.assign rfl) rfl ?_
  refine PWl.nil ?_
  refine PWc.seq ?_
  refine PWc.re (tl := [(0, _), (2, _), (3, _)]) (to := [(2, _), (100, _), (1100, _)]) rfl (.cons rfl rfl <| .cons rfl rfl <| .cons rfl rfl <| .nil) (.cons rfl rfl <| .cons rfl rfl <| .cons rfl rfl <| .nil) ?_
  refine PWc.region ?_
  refine PWl.step (LR.move rfl) rfl ?_
  refine PWl.step (LR.convInt Tryz.underlying29 (by rw [Tryz.underlying30]; rfl) rfl rfl) rfl ?_
  refine PWl.step (LR.move rfl) rfl ?_
  replace h := iDet h
  obtain ⟨y5, hy6, h⟩ := h
  refine PWl.step (LR.callObj [(100, 100)] [] [100] (pack_Reader_Num_o_ok y3.2.1 y3.2.2 y5 hy6) hK rfl Tryz.call81 rfl (by first | rfl | (simp; done) | (simp [PV.nilD, PV.ren, rn]; omega)) (.cons (by first | rfl | (congr 1; first | (simp; done) | (simp; omega))) <| .nil) rfl rfl rfl rfl) rfl ?_
  refine PWl.step (LR.build (ns := [_, _]) build32 rfl rfl rfl) rfl ?_
  refine PWl.step (LR.allocZ (cs := [_, _]) Tryz.zeroValue32 rfl rfl rfl rfl) rfl ?_
  refine PWl.step (LR.storeB (ns := [_, _]) Tryz.sizeOf32 rfl rfl rfl rfl rfl rfl rfl) rfl ?_
  refine PWl.nil ?_
  refine PWc.seq ?_
  refine PWc.seq ?_
  refine PWc.re (tl := [(0, _), (2, _), (4, _)]) (to := [(2, _), (4, _), (100, _), (1100, _)]) rfl (.cons rfl rfl <| .cons rfl rfl <| .cons rfl rfl <| .nil) (.cons rfl rfl <| .cons rfl rfl <| .cons rfl rfl <| .cons rfl rfl <| .nil) ?_
  refine PWc.region ?_
  refine PWl.step (LR.loadRefAgg (ps := [_, _]) Tryz.isAgg32 Tryz.sizeOf32 rfl rfl rfl rfl) rfl ?_
  replace h := iDet h
  obtain ⟨v7, hy8, h⟩ := h
  refine PWl.step (LR.callN (dot_Good_ok (⟨(IntKind.u16.wrap y3.1), y5.1⟩ : TDot) v7 hy8) rfl Tryz.call68 rfl rfl rfl rfl) rfl ?_
  refine PWl.step (LR.not rfl) rfl ?_
  refine PWl.nil ?_
  refine PWc.jn (iBind h) (fun (⟨v9, v10⟩ : List Int × Int) (_ : Unit) => ⟨22, [(0, .ref 100 0), (2, .ref 2 0), (4, .ref 4 0)], [(2, .cells 32 [.d (.v (.int .u16 0)), .d (.v (.int .u64 0))]), (4, .cells 32 [.d (.v (.int .u16 (IntKind.u16.wrap y3.1))), .d (.v (.int .u64 y5.1))]), (100, .cells 97 [.d (.sl (List.map (eK .u8) v9)), .d (.v (.int .i64 v10))]), (1100, .pin 100 (pv 100).1 (pv 100).2)]⟩) (fun h => ?_) ?_
  · refine PWc.cond rfl (fun hc11 => ?_) (fun hc11 => ?_)
    · replace h := iT hc11 h
      refine PWc.region ?_
      refine PWl.step (LR.move rfl) rfl ?_
      replace h := iDet h
      obtain ⟨y12, hy13, h⟩ := h
      refine PWl.step (LR.callObj [(100, 100)] [] [100] (pack_Reader_Fail_o_ok 4 y5.2.1 y5.2.2 y12 hy13) hK rfl Tryz.call82 rfl (by first | rfl | (simp; done) | (simp [PV.nilD, PV.ren, rn]; omega)) (.cons (by first | rfl | (congr 1; first | (simp; done) | (simp; omega))) <| .nil) rfl rfl rfl rfl) rfl ?_
      refine PWl.nil ?_
      exact ⟨(y12.1, y12.2), (), h, Sub.of rfl (.cons rfl rfl <| .cons rfl rfl <| .cons rfl rfl <| .nil) (.cons rfl rfl <| .cons rfl rfl <| .cons rfl rfl <| .cons rfl rfl <| .nil)⟩
    · replace h := iF hc11 h
      refine PWc.skip ?_
      exact ⟨(y5.2.1, y5.2.2), (), h, Sub.of rfl (.cons rfl rfl <| .cons rfl rfl <| .cons rfl rfl <| .nil) (.cons rfl rfl <| .cons rfl rfl <| .cons rfl rfl <| .cons rfl rfl <| .nil)⟩
  · rintro ⟨v9, v10⟩ _ h
    refine PWc.seq ?_
    refine PWc.seq ?_
    refine PWc.region ?_
    refine PWl.step (LR.move rfl) rfl ?_
    replace h := iDet h
    obtain ⟨y14, hy15, h⟩ := h
    refine PWl.step (LR.callObj [(100, 100)] [] [100] (pack_Reader_Err_o_ok v9 v10 y14 hy15) hK rfl Tryz.call83 rfl (by first | rfl | (simp; done) | (simp [PV.nilD, PV.ren, rn]; omega)) (.cons (by first | rfl | (congr 1; first | (simp; done) | (simp; omega))) <| .nil) rfl rfl rfl rfl) rfl ?_
    refine PWl.step (LR.neq rfl rfl) rfl ?_
    refine PWl.nil ?_
    refine PWc.cond rfl (fun hc16 => ?_) (fun hc16 => ?_)
    · replace h := iT hc16 h
      refine PWc.seq ?_
      refine PWc.re (tl := [(2, _)]) (to := [(2, _), (100, _), (1100, _)]) rfl (.cons rfl rfl <| .nil) (.cons rfl rfl <| .cons rfl rfl <| .cons rfl rfl <| .nil) ?_
      refine PWc.region ?_
      refine PWl.step (LR.build (ns := [_, _]) build32 rfl rfl rfl) rfl ?_
      refine PWl.step (LR.storeB (ns := [_, _]) Tryz.sizeOf32 rfl rfl rfl rfl rfl rfl rfl) rfl ?_
      refine PWl.nil ?_
      refine PWc.ret ?_
      replace h : _ = r0 := h
      subst h
      exact EndsO.mkX (ex := [(2, _)]) () (.inr rfl) (Sub.of (tl := [(2, _)]) (to := [(100, _), (1100, _), (2, _)]) rfl (.cons rfl rfl <| .nil) (.cons rfl rfl <| .cons rfl rfl <| .cons rfl rfl <| .nil)) (.cons (.agg Tryz.isAgg32 Tryz.sizeOf32 rfl rfl rfl) <| .nil) rfl rfl
    · replace h := iF hc16 h
      refine PWc.skip ?_
      refine PWc.seq ?_
      refine PWc.re (tl := [(2, _), (4, _)]) (to := [(2, _), (4, _), (100, _), (1100, _)]) rfl (.cons rfl rfl <| .cons rfl rfl <| .nil) (.cons rfl rfl <| .cons rfl rfl <| .cons rfl rfl <| .cons rfl rfl <| .nil) ?_
      refine PWc.region ?_
      refine PWl.step (LR.loadRefAgg (ps := [_, _]) Tryz.isAgg32 Tryz.sizeOf32 rfl rfl rfl rfl) rfl ?_
      refine PWl.step (LR.storeB (ns := [_, _]) Tryz.sizeOf32 rfl rfl rfl rfl rfl rfl rfl) rfl ?_
      refine PWl.nil ?_
      refine PWc.ret ?_
      replace h : _ = r0 := h
      subst h
      exact EndsO.mkX (ex := [(2, _)]) () (.inr rfl) (Sub.of (tl := [(2, _)]) (to := [(100, _), (1100, _), (2, _)]) rfl (.cons rfl rfl <| .nil) (.cons rfl rfl <| .cons rfl rfl <| .cons rfl rfl <| .nil)) (.cons (.agg Tryz.isAgg32 Tryz.sizeOf32 rfl rfl rfl) <| .nil) rfl rfl

theorem r15_Dot_o_ok (b_1 : List Int) (at_2 : Int) (bad_3 : Int) (r0 : TDot × List Int × Int × Int) (h : (r15_Dot_o b_1 at_2 bad_3).wp (· = r0)) : PObj Tryz.prog 44 [.ref 100 0] [(100, .cells 53 [.d (.sl (List.map (eK .u8) b_1)), .d (.v (.int .i64 at_2)), .d (.v (.int .i64 bad_3))])] [100] (.agg (List.map .d (TDot.e r0.1))) (fun _ : Unit => [(100, .cells 53 [.d (.sl (List.map (eK .u8) r0.2.1)), .d (.v (.int .i64 r0.2.2.1)), .d (.v (.int .i64 r0.2.2.2))])]) := by
  refine PObj.intro (sl := [(0, _)]) Tryz.func44 rfl Tryz.ntmps44 rfl rfl rfl ?_
  intro ctx hK pv
  refine PWc.seq ?_
  refine PWc.region ?_
  refine PWl.step (LR.allocZ (cs := [_, _]) Tryz.zeroValue32 rfl rfl rfl rfl) rfl ?_
  refine PWl.nil ?_
  refine PWc.seq ?_
  refine PWc.region ?_
  refine PWl.step (LR.move rfl) rfl ?_
  replace h := iDet h
  obtain ⟨y4, hy5, h⟩ := h
  refine PWl.step (LR.callObj [(100, 100)] [] [100] (epitaphref04_Reader_Upto_o_ok 65535 b_1 at_2 bad_3 y4 hy5) hK rfl Tryz.call84 rfl (by first | rfl | (simp; done) | (simp [PV.nilD, PV.ren, rn]; omega)) (.cons (by first | rfl | (congr 1; first | (simp; done) | (simp; omega))) <| .nil) rfl rfl rfl rfl) rfl ?_
  refine PWl.step (LR.assign rfl) rfl ?_
  refine PWl.nil ?_
  refine PWc.seq ?_
  refine PWc.re (tl := [(0, _), (2, _), (3, _)]) (to := [(2, _), (100, _), (1100, _)]) rfl (.cons rfl rfl <| .cons rfl rfl <| .cons rfl rfl <| .nil) (.cons rfl rfl <| .cons rfl rfl <| .cons rfl rfl <| .nil) ?_
  refine PWc.region ?_
  refine PWl.step (LR.move rfl) rfl ?_
  refine PWl.step (LR.convInt Tryz.underlying29 (by rw [Tryz.underlying30]; rfl) rfl rfl) rfl ?_
  refine PWl.step (LR.move rfl) rfl ?_
  replace h := iDet h
  obtain ⟨y6, hy7, h⟩ := h
  refine PWl.step (LR.callObj [(100, 100)] [] [100] (epitaphref04_Reader_Num_o_ok y4.2.1 y4.2.2.1 y4.2.2.2 y6 hy7) hK rfl Tryz.call85 rfl (by first | rfl | (simp; done) | (simp [PV.nilD, PV.ren, rn]; omega)) (.cons (by first | rfl | (congr 1; first | (simp; done) | (simp; omega))) <| .nil) rfl rfl rfl rfl) rfl ?_
  refine PWl.step (LR.build (ns := [_, _]) build32 rfl rfl rfl) rfl ?_
  refine PWl.step (LR.allocZ (cs := [_, _]) Tryz.zeroValue32 rfl rfl rfl rfl) rfl ?_
  refine PWl.step (LR.storeB (ns := [_, _]) Tryz.sizeOf32 rfl rfl rfl rfl rfl rfl rfl) rfl ?_
  refine PWl.nil ?_
  refine PWc.seq ?_
  refine PWc.seq ?_
  refine PWc.re (tl := [(0, _), (2, _), (4, _)]) (to := [(2, _), (4, _), (100, _), (1100, _)]) rfl (.cons rfl rfl <| .cons rfl rfl <| .cons rfl rfl <| .nil) (.cons rfl rfl <| .cons rfl rfl <| .cons rfl rfl <| .cons rfl rfl <| .nil) ?_
  refine PWc.jn (iBind h) (fun (v8 : Bool) (_ : Unit) => ⟨31, [(0, .ref 100 0), (2, .ref 2 0), (4, .ref 4 0), (21, .d (.v (.bool v8)))], [(2, .cells 32 [.d (.v (.int .u16 0)), .d (.v (.int .u64 0))]), (4, .cells 32 [.d (.v (.int .u16 (IntKind.u16.wrap y4.1))), .d (.v (.int .u64 y6.1))]), (100, .cells 53 [.d (.sl (List.map (eK .u8) y6.2.1)), .d (.v (.int .i64 y6.2.2.1)), .d (.v (.int .i64 y6.2.2.2))]), (1100, .pin 100 (pv 100).1 (pv 100).2)]⟩) (fun h => ?_) ?_
  · refine PWc.region ?_
    refine PWl.step (LR.move rfl) rfl ?_
    refine PWl.step (LR.nilCheckRef rfl) rfl ?_
    refine PWl.step (LR.fieldRef Tryz.underlying53 rfl Tryz.sizeOf3 (by decide) rfl rfl) rfl ?_
    refine PWl.step (LR.loadRef Tryz.isAgg3 rfl rfl rfl) rfl ?_
    refine PWl.step (LR.eql rfl rfl) rfl ?_
    refine PWl.step (LR.move rfl) rfl ?_
    refine PWl.split (d := 17) rfl (fun hg9 => ?_) (fun hg9 => ?_)
    · replace h := iT hg9 h
      refine PWl.guardT (LR.loadRefAgg (ps := [_, _]) Tryz.isAgg32 Tryz.sizeOf32 rfl rfl rfl rfl) rfl rfl rfl ?_
      replace h := iDet h
      obtain ⟨v10, hy11, h⟩ := h
      refine PWl.guardT (LR.callN (r07_Good_ok (⟨(IntKind.u16.wrap y4.1), y6.1⟩ : TDot) v10 hy11) rfl Tryz.call53 rfl rfl rfl rfl) rfl rfl rfl ?_
      refine PWl.guardT (LR.not rfl) rfl rfl rfl ?_
      refine PWl.step (LR.pickT rfl rfl) rfl ?_
      refine PWl.nil ?_
      exact ⟨(!v10), (), h, Sub.of rfl (.cons rfl rfl <| .cons rfl rfl <| .cons rfl rfl <| .cons rfl rfl <| .nil) (.cons rfl rfl <| .cons rfl rfl <| .cons rfl rfl <| .cons rfl rfl <| .nil)⟩
    · replace h := iF hg9 h
      refine PWl.guardF rfl rfl rfl (by decide) ?_
      refine PWl.guardF rfl rfl rfl (by decide) ?_
      refine PWl.guardF rfl rfl rfl (by decide) ?_
      refine PWl.step (LR.pickF rfl rfl) rfl ?_
      refine PWl.nil ?_
      exact ⟨false, (), h, Sub.of rfl (.cons rfl rfl <| .cons rfl rfl <| .cons rfl rfl <| .cons rfl rfl <| .nil) (.cons rfl rfl <| .cons rfl rfl <| .cons rfl rfl <| .cons rfl rfl <| .nil)⟩
  · rintro v8 _ h
    refine PWc.jn (iBind h) (fun (⟨v12, v13, v14⟩ : List Int × Int × Int) (_ : Unit) => ⟨31, [(0, .ref 100 0), (2, .ref 2 0), (4, .ref 4 0)], [(2, .cells 32 [.d (.v (.int .u16 0)), .d (.v (.int .u64 0))]), (4, .cells 32 [.d (.v (.int .u16 (IntKind.u16.wrap y4.1))), .d (.v (.int .u64 y6.1))]), (100, .cells 53 [.d (.sl (List.map (eK .u8) v12)), .d (.v (.int .i64 v13)), .d (.v (.int .i64 v14))]), (1100, .pin 100 (pv 100).1 (pv 100).2)]⟩) (fun h => ?_) ?_
    · refine PWc.cond rfl (fun hc15 => ?_) (fun hc15 => ?_)
      · replace h := iT hc15 h
        refine PWc.region ?_
        refine PWl.step (LR.move rfl) rfl ?_
        replace h := iDet h
        obtain ⟨y16, hy17, h⟩ := h
        refine PWl.step (LR.callObj [(100, 100)] [] [100] (epitaphref04_Reader_Fail_o_ok 4 y6.2.1 y6.2.2.1 y6.2.2.2 y16 hy17) hK rfl Tryz.call86 rfl (by first | rfl | (simp; done) | (simp [PV.nilD, PV.ren, rn]; omega)) (.cons (by first | rfl | (congr 1; first | (simp; done) | (simp; omega))) <| .nil) rfl rfl rfl rfl) rfl ?_
        refine PWl.nil ?_
        exact ⟨(y16.1, y16.2.1, y16.2.2), (), h, Sub.of rfl (.cons rfl rfl <| .cons rfl rfl <| .cons rfl rfl <| .nil) (.cons rfl rfl <| .cons rfl rfl <| .cons rfl rfl <| .cons rfl rfl <| .nil)⟩
      · replace h := iF hc15 h
        refine PWc.skip ?_
        exact ⟨(y6.2.1, y6.2.2.1, y6.2.2.2), (), h, Sub.of rfl (.cons rfl rfl <| .cons rfl rfl <| .cons rfl rfl <| .nil) (.cons rfl rfl <| .cons rfl rfl <| .cons rfl rfl <| .cons rfl rfl <| .nil)⟩
    · rintro ⟨v12, v13, v14⟩ _ h
      refine PWc.seq ?_
      refine PWc.seq ?_
      refine PWc.region ?_
      refine PWl.step (LR.move rfl) rfl ?_
      refine PWl.step (LR.nilCheckRef rfl) rfl ?_
      refine PWl.step (LR.fieldRef Tryz.underlying53 rfl Tryz.sizeOf3 (by decide) rfl rfl) rfl ?_
      refine PWl.step (LR.loadRef Tryz.isAgg3 rfl rfl rfl) rfl ?_
      refine PWl.step (LR.neq rfl rfl) rfl ?_
      refine PWl.nil ?_
      refine PWc.cond rfl (fun hc18 => ?_) (fun hc18 => ?_)
      · replace h := iT hc18 h
        refine PWc.seq ?_
        refine PWc.region ?_
        refine PWl.step (LR.build (ns := [_, _]) build32 rfl rfl rfl) rfl ?_
        refine PWl.step (LR.storeB (ns := [_, _]) Tryz.sizeOf32 rfl rfl rfl rfl rfl rfl rfl) rfl ?_
        refine PWl.nil ?_
        refine PWc.ret ?_
        replace h : _ = r0 := h
        subst h
        exact EndsO.mkX (ex := [(2, _)]) () (.inr rfl) (Sub.of (tl := [(2, _)]) (to := [(100, _), (1100, _), (2, _)]) rfl (.cons rfl rfl <| .nil) (.cons rfl rfl <| .cons rfl rfl <| .cons rfl rfl <| .nil)) (.cons (.agg Tryz.isAgg32 Tryz.sizeOf32 rfl rfl rfl) <| .nil) rfl rfl
      · replace h := iF hc18 h
        refine PWc.skip ?_
        refine PWc.seq ?_
        refine PWc.region ?_
        refine PWl.step (LR.loadRefAgg (ps := [_, _]) Tryz.isAgg32 Tryz.sizeOf32 rfl rfl rfl rfl) rfl ?_
        refine PWl.step (LR.storeB (ns := [_, _]) Tryz.sizeOf32 rfl rfl rfl rfl rfl rfl rfl) rfl ?_
        refine PWl.nil ?_
        refine PWc.ret ?_
        replace h : _ = r0 := h
        subst h
        exact EndsO.mkX (ex := [(2, _)]) () (.inr rfl) (Sub.of (tl := [(2, _)]) (to := [(100, _), (1100, _), (2, _)]) rfl (.cons rfl rfl <| .nil) (.cons rfl rfl <| .cons rfl rfl <| .cons rfl rfl <| .nil)) (.cons (.agg Tryz.isAgg32 Tryz.sizeOf32 rfl rfl rfl) <| .nil) rfl rfl

theorem dcode_Dots_o_ok (most1 : Int) (b_2 : List Int) (bad_3 : Int) (r0 : List TDot × List Int × Int) (h : (dcode_Dots_o most1 b_2 bad_3).wp (· = r0)) : PObj Tryz.prog 45 [.ref 100 0, .d (.v (.int .i64 most1))] [(100, .cells 97 [.d (.sl (List.map (eK .u8) b_2)), .d (.v (.int .i64 bad_3))])] [100] (.d (.sl (List.map TDot.e r0.1))) (fun _ : Unit => [(100, .cells 97 [.d (.sl (List.map (eK .u8) r0.2.1)), .d (.v (.int .i64 r0.2.2))])]) := by
  refine PObj.intro (sl := [(0, _), (1, _)]) Tryz.func45 rfl Tryz.ntmps45 rfl rfl rfl ?_
  intro ctx hK pv
  refine PWc.seq ?_
  refine PWc.region ?_
  refine PWl.step (LR.assignNilRow 32 2 rfl) rfl ?_
  refine PWl.nil ?_
  refine PWc.seq ?_
  refine PWc.region ?_
  refine PWl.step (LR.move rfl) rfl ?_
  replace h := iDet h
  obtain ⟨y4, hy5, h⟩ := h
  refine PWl.step (LR.callObj [(100, 100)] [] [100] (pack_Reader_Num_o_ok b_2 bad_3 y4 hy5) hK rfl Tryz.call81 rfl (by first | rfl | (simp; done) | (simp [PV.nilD, PV.ren, rn]; omega)) (.cons (by first | rfl | (congr 1; first | (simp; done) | (simp; omega))) <| .nil) rfl rfl rfl rfl) rfl ?_
  refine PWl.step (LR.assign rfl) rfl ?_
  refine PWl.nil ?_
  refine PWc.seq ?_
  refine PWc.seq ?_
  refine PWc.re (tl := [(0, _), (1, _), (5, _)]) (to := [(100, _), (1100, _)]) rfl (.cons rfl rfl <| .cons rfl rfl <| .cons rfl rfl <| .nil) (.cons rfl rfl <| .cons rfl rfl <| .nil) ?_
  refine PWc.region ?_
  refine PWl.step (LR.move rfl) rfl ?_
  refine PWl.step (LR.move rfl) rfl ?_
  refine PWl.step (LR.maxI rfl rfl) rfl ?_
  refine PWl.step (LR.convInt Tryz.underlying30 (by rw [Tryz.underlying3]; rfl) rfl rfl) rfl ?_
  refine PWl.step (LR.gtr rfl rfl) rfl ?_
  refine PWl.nil ?_
  refine PWc.cond rfl (fun hc6 => ?_) (fun hc6 => ?_)
  · replace h := iT hc6 h
    refine PWc.seq ?_
    refine PWc.region ?_
    refine PWl.step (LR.move rfl) rfl ?_
    replace h := iDet h
    obtain ⟨y7, hy8, h⟩ := h
    refine PWl.step (LR.callObj [(100, 100)] [] [100] (pack_Reader_Fail_o_ok 3 y4.2.1 y4.2.2 y7 hy8) hK rfl Tryz.call82 rfl (by first | rfl | (simp; done) | (simp [PV.nilD, PV.ren, rn]; omega)) (.cons (by first | rfl | (congr 1; first | (simp; done) | (simp; omega))) <| .nil) rfl rfl rfl rfl) rfl ?_
    refine PWl.nil ?_
    refine PWc.seq ?_
    refine PWc.re (tl := []) (to := [(100, _), (1100, _)]) rfl (.nil) (.cons rfl rfl <| .cons rfl rfl <| .nil) ?_
    refine PWc.region ?_
    refine PWl.step (LR.assignNilRow 32 2 rfl) rfl ?_
    refine PWl.nil ?_
    refine PWc.ret ?_
    replace h : _ = r0 := h
    subst h
    exact EndsO.mk () (.inr rfl) (Sub.trans (Sub.frz [4] hK rfl (by first | (simp; done) | (simp; omega) | omega) (AllRow.get (.cons rfl <| .nil))) <| Sub.of (tl := [(4, _)]) (to := [(100, _), (1100, _)]) rfl (.cons rfl rfl <| .nil) (.cons rfl rfl <| .cons rfl rfl <| .nil)) (.cons (.tmp rfl) <| .nil) rfl rfl
  · replace h := iF hc6 h
    refine PWc.skip ?_
    refine PWc.seq ?_
    refine PWc.region ?_
    refine PWl.step (LR.assignNilRow 32 2 rfl) rfl ?_
    refine PWl.nil ?_
    refine PWc.seq ?_
    refine PWc.seq ?_
    refine PWc.region ?_
    refine PWl.step (LR.move rfl) rfl ?_
    refine PWl.step (LR.move rfl) rfl ?_
    refine PWl.nil ?_
    refine PWc.jnX (iBind h) (fun (⟨out9, v10, v11⟩ : List TDot × List Int × Int) (_ : Unit) => ⟨48, [(6, .row 6 (List.length out9))], [(6, .row 32 2 (List.map TDot.e out9)), (100, .cells 97 [.d (.sl (List.map (eK .u8) v10)), .d (.v (.int .i64 v11))]), (1100, .pin 100 (pv 100).1 (pv 100).2)]⟩) (fun h => ?_) ?_
    · refine PWc.block ?_
      refine PWc.loopM (fun (⟨v52, out53, v54, v55⟩ : Int × List TDot × List Int × Int) (_ : Unit) => ⟨48, [(0, .ref 100 0), (6, .row 6 (List.length out53)), (18, .d (.v (.int .u64 y4.1))), (19, .d (.v (.int .u64 v52)))], [(6, .row 32 2 (List.map TDot.e out53)), (100, .cells 97 [.d (.sl (List.map (eK .u8) v54)), .d (.v (.int .i64 v55))]), (1100, .pin 100 (pv 100).1 (pv 100).2)]⟩) () h (Sub.of rfl (.cons rfl rfl <| .cons rfl rfl <| .cons rfl rfl <| .cons rfl rfl <| .nil) (.cons rfl rfl <| .cons rfl rfl <| .cons rfl rfl <| .nil)) ?_
      rintro N ⟨v52, out53, v54, v55⟩ _ h
      refine PWc.seq ?_
      refine PWc.region ?_
      refine PWl.step (LR.lss rfl rfl) rfl ?_
      refine PWl.nil ?_
      refine PWc.seq ?_
      refine PWc.cond rfl (fun hc56 => ?_) (fun hc56 => ?_)
      · replace h := iT hc56 h
        refine PWc.skip ?_
        refine PWc.seq ?_
        refine PWc.block ?_
        refine PWc.seq ?_
        refine PWc.region ?_
        refine PWl.step (LR.move rfl) rfl ?_
        replace h := iDet h
        obtain ⟨y57, hy58, h⟩ := h
        refine PWl.step (LR.callObj [(100, 100)] [] [100] (dcode_Dot_o_ok v54 v55 y57 hy58) hK rfl Tryz.call43 rfl (by first | rfl | (simp; done) | (simp [PV.nilD, PV.ren, rn]; omega)) (.cons (by first | rfl | (congr 1; first | (simp; done) | (simp; omega))) <| .nil) rfl rfl rfl rfl) rfl ?_
        refine PWl.step (LR.allocZ (cs := [_, _]) Tryz.zeroValue32 rfl rfl rfl rfl) rfl ?_
        refine PWl.step (LR.storeB (ns := [_, _]) Tryz.sizeOf32 rfl rfl rfl rfl rfl rfl rfl) rfl ?_
        refine PWl.nil ?_
        refine PWc.seq ?_
        refine PWc.seq ?_
        refine PWc.re (tl := [(0, _), (6, _), (7, _), (18, _), (19, _)]) (to := [(6, _), (7, _), (100, _), (1100, _)]) rfl (.cons rfl rfl <| .cons rfl rfl <| .cons rfl rfl <| .cons rfl rfl <| .cons rfl rfl <| .nil) (.cons rfl rfl <| .cons rfl rfl <| .cons rfl rfl <| .cons rfl rfl <| .nil) ?_
        refine PWc.region ?_
        refine PWl.step (LR.move rfl) rfl ?_
        refine PWl.step (LR.lenRow Tryz.underlying28 rfl) rfl ?_
        refine PWl.step (LR.subW rfl rfl) rfl ?_
        refine PWl.step (LR.assign rfl) rfl ?_
        refine PWl.nil ?_
        refine PWc.seq ?_
        refine PWc.jn (iBind h) (fun (v59 : Bool) (_ : Unit) => ⟨48, [(0, .ref 100 0), (6, .row 6 (List.length out53)), (7, .ref 7 0), (18, .d (.v (.int .u64 y4.1))), (19, .d (.v (.int .u64 v52))), (36, .d (.v (.bool v59)))], [(6, .row 32 2 (List.map TDot.e out53)), (7, .cells 32 [.d (.v (.int .u16 y57.1.dev)), .d (.v (.int .u64 y57.1.n))]), (100, .cells 97 [.d (.sl (List.map (eK .u8) y57.2.1)), .d (.v (.int .i64 y57.2.2))]), (1100, .pin 100 (pv 100).1 (pv 100).2)]⟩) (fun h => ?_) ?_
        · refine PWc.regionD (by kernel_rfl) (by kernel_rfl) ?_
          refine PQl.step (fun _ he ho => LR.move (he rfl rfl)) rfl ?_
          refine PQl.step (fun _ he ho => LR.geq (he rfl rfl) (he rfl rfl)) rfl ?_
          refine PQl.step (fun _ he ho => LR.move (he rfl rfl)) rfl ?_
          refine PQl.split (d := 28) rfl (fun hg60 => ?_) (fun hg60 => ?_)
          · replace h := iT hg60 h
            refine PQl.guardT (fun _ he ho => LR.move (he rfl rfl)) rfl rfl rfl ?_
            refine PQl.guardT (fun _ he ho => LR.move (he rfl rfl)) rfl rfl rfl ?_
            replace h := iIdx h
            obtain ⟨x61, hy62, h⟩ := h
            refine PQl.guardT (fun _ he ho => LR.idxRowT (L := out53) (y := x61) Tryz.underlying28 Tryz.sizeOf32 (he rfl rfl) rfl (he rfl rfl) hy62) rfl rfl rfl ?_
            refine PQl.guardT (fun _ he ho => LR.loadRpT (enc := TDot.e) (L := out53) (y := x61) Tryz.isAgg32 Tryz.sizeOf32 (he rfl rfl) (ho rfl) hy62.2) rfl rfl rfl ?_
            refine PQl.guardT (fun _ he ho => LR.loadRefAgg (ps := [_, _]) Tryz.isAgg32 Tryz.sizeOf32 (he rfl rfl) (ho rfl) rfl rfl) rfl rfl rfl ?_
            replace h := iDet h
            obtain ⟨v63, hy64, h⟩ := h
            refine PQl.guardT (fun _ he ho => LR.callN (dot_Cmp_ok x61 y57.1 v63 hy64) (he rfl rfl) Tryz.call87 (evsE he rfl rfl) rfl rfl rfl) rfl rfl rfl ?_
            refine PQl.guardT (fun _ he ho => LR.geq (he rfl rfl) (he rfl rfl)) rfl rfl rfl ?_
            refine PQl.step (fun _ he ho => LR.pickT (he rfl rfl) (he rfl rfl)) rfl ?_
            refine PQl.nil ?_
            exact ⟨(decide (0 ≤ v63)), (), h, Sub.of rfl (.cons rfl rfl <| .cons rfl rfl <| .cons rfl rfl <| .cons rfl rfl <| .cons rfl rfl <| .cons rfl rfl <| .nil) (.cons rfl rfl <| .cons rfl rfl <| .cons rfl rfl <| .cons rfl rfl <| .nil)⟩
          · replace h := iF hg60 h
            refine PQl.guardF rfl rfl rfl (by decide) ?_
            refine PQl.guardF rfl rfl rfl (by decide) ?_
            refine PQl.guardF rfl rfl rfl (by decide) ?_
            refine PQl.guardF rfl rfl rfl (by decide) ?_
            refine PQl.guardF rfl rfl rfl (by decide) ?_
            refine PQl.guardF rfl rfl rfl (by decide) ?_
            refine PQl.guardF rfl rfl rfl (by decide) ?_
            refine PQl.step (fun _ he ho => LR.pickF (he rfl rfl) (he rfl rfl)) rfl ?_
            refine PQl.nil ?_
            exact ⟨false, (), h, Sub.of rfl (.cons rfl rfl <| .cons rfl rfl <| .cons rfl rfl <| .cons rfl rfl <| .cons rfl rfl <| .cons rfl rfl <| .nil) (.cons rfl rfl <| .cons rfl rfl <| .cons rfl rfl <| .cons rfl rfl <| .nil)⟩
        · rintro v59 _ h
          refine PWc.jn (iBind h) (fun (⟨v65, v66⟩ : List Int × Int) (_ : Unit) => ⟨48, [(0, .ref 100 0), (6, .row 6 (List.length out53)), (7, .ref 7 0), (18, .d (.v (.int .u64 y4.1))), (19, .d (.v (.int .u64 v52)))], [(6, .row 32 2 (List.map TDot.e out53)), (7, .cells 32 [.d (.v (.int .u16 y57.1.dev)), .d (.v (.int .u64 y57.1.n))]), (100, .cells 97 [.d (.sl (List.map (eK .u8) v65)), .d (.v (.int .i64 v66))]), (1100, .pin 100 (pv 100).1 (pv 100).2)]⟩) (fun h => ?_) ?_
          · refine PWc.cond rfl (fun hc67 => ?_) (fun hc67 => ?_)
            · replace h := iT hc67 h
              refine PWc.region ?_
              refine PWl.step (LR.move rfl) rfl ?_
              replace h := iDet h
              obtain ⟨y68, hy69, h⟩ := h
              refine PWl.step (LR.callObj [(100, 100)] [] [100] (pack_Reader_Fail_o_ok 4 y57.2.1 y57.2.2 y68 hy69) hK rfl Tryz.call82 rfl (by first | rfl | (simp; done) | (simp [PV.nilD, PV.ren, rn]; omega)) (.cons (by first | rfl | (congr 1; first | (simp; done) | (simp; omega))) <| .nil) rfl rfl rfl rfl) rfl ?_
              refine PWl.nil ?_
              exact ⟨(y68.1, y68.2), (), h, Sub.of rfl (.cons rfl rfl <| .cons rfl rfl <| .cons rfl rfl <| .cons rfl rfl <| .cons rfl rfl <| .nil) (.cons rfl rfl <| .cons rfl rfl <| .cons rfl rfl <| .cons rfl rfl <| .nil)⟩
            · replace h := iF hc67 h
              refine PWc.skip ?_
              exact ⟨(y57.2.1, y57.2.2), (), h, Sub.of rfl (.cons rfl rfl <| .cons rfl rfl <| .cons rfl rfl <| .cons rfl rfl <| .cons rfl rfl <| .nil) (.cons rfl rfl <| .cons rfl rfl <| .cons rfl rfl <| .cons rfl rfl <| .nil)⟩
          · rintro ⟨v65, v66⟩ _ h
            refine PWc.seq ?_
            refine PWc.seq ?_
            refine PWc.region ?_
            refine PWl.step (LR.move rfl) rfl ?_
            replace h := iDet h
            obtain ⟨y70, hy71, h⟩ := h
            refine PWl.step (LR.callObj [(100, 100)] [] [100] (pack_Reader_Err_o_ok v65 v66 y70 hy71) hK rfl Tryz.call83 rfl (by first | rfl | (simp; done) | (simp [PV.nilD, PV.ren, rn]; omega)) (.cons (by first | rfl | (congr 1; first | (simp; done) | (simp; omega))) <| .nil) rfl rfl rfl rfl) rfl ?_
            refine PWl.step (LR.neq rfl rfl) rfl ?_
            refine PWl.nil ?_
            refine PWc.cond rfl (fun hc72 => ?_) (fun hc72 => ?_)
            · replace h := iT hc72 h
              refine PWc.seq ?_
              refine PWc.re (tl := []) (to := [(100, _), (1100, _)]) rfl (.nil) (.cons rfl rfl <| .cons rfl rfl <| .nil) ?_
              refine PWc.region ?_
              refine PWl.step (LR.assignNilRow 32 2 rfl) rfl ?_
              refine PWl.nil ?_
              refine PWc.ret ?_
              replace h : _ = r0 := h
              subst h
              exact EndsO.mk () (.inr rfl) (Sub.trans (Sub.frz [4] hK rfl (by first | (simp; done) | (simp; omega) | omega) (AllRow.get (.cons rfl <| .nil))) <| Sub.of (tl := [(4, _)]) (to := [(100, _), (1100, _)]) rfl (.cons rfl rfl <| .nil) (.cons rfl rfl <| .cons rfl rfl <| .nil)) (.cons (.tmp rfl) <| .nil) rfl rfl
            · replace h := iF hc72 h
              refine PWc.skip ?_
              refine PWc.re (tl := [(0, _), (6, _), (7, _), (18, _), (19, _)]) (to := [(6, _), (7, _), (100, _), (1100, _)]) rfl (.cons rfl rfl <| .cons rfl rfl <| .cons rfl rfl <| .cons rfl rfl <| .cons rfl rfl <| .nil) (.cons rfl rfl <| .cons rfl rfl <| .cons rfl rfl <| .cons rfl rfl <| .nil) ?_
              refine PWc.region ?_
              refine PWl.step (LR.move rfl) rfl ?_
              refine PWl.step (LR.loadRefAgg (ps := [_, _]) Tryz.isAgg32 Tryz.sizeOf32 rfl rfl rfl rfl) rfl ?_
              refine PWl.step (LR.buildSliceD [.tmp 43] elem28 rfl rfl (.cons rfl rfl rfl <| .nil) (by decide) (by decide)) rfl ?_
              replace h := iNeed h
              obtain ⟨hy73, h⟩ := h
              refine PWl.step (LR.appT (enc := TDot.e) (L := out53) (R := [y57.1]) [6, 42] elem28 Tryz.underlying28 rfl rfl rfl (Src.slT (enc := TDot.e) (R := [y57.1]) rfl (fun _ => rfl)) (fun _ => rfl) hy73 rfl rfl) rfl ?_
              refine PWl.step (LR.assign rfl) rfl ?_
              refine PWl.nil ?_
              refine PWc.region ?_
              refine PWl.step (LR.addW rfl rfl) rfl ?_
              refine PWl.step (LR.move rfl) rfl ?_
              refine PWl.nil ?_
              exact ⟨((IntKind.u64.wrap (v52 + 1)), (out53 ++ [y57.1]), y70.2.1, y70.2.2), (), h, Sub.of rfl (.cons rfl rfl <| .cons rfl rfl <| .cons rfl rfl <| .cons rfl rfl <| .nil) (.cons rfl rfl <| .cons rfl rfl <| .cons rfl rfl <| .nil)⟩
      · replace h := iF hc56 h
        refine PWc.exit ?_
        exact ⟨(out53, v54, v55), (), h, Sub.of rfl (.cons rfl rfl <| .nil) (.cons rfl rfl <| .cons rfl rfl <| .cons rfl rfl <| .nil)⟩
    · rintro ⟨out9, v10, v11⟩ _ h
      refine PWc.seq ?_
      refine PWc.region ?_
      refine PWl.step (LR.move rfl) rfl ?_
      refine PWl.step (LR.assign rfl) rfl ?_
      refine PWl.nil ?_
      refine PWc.ret ?_
      replace h : _ = r0 := h
      subst h
      exact EndsO.mk () (.inr rfl) (Sub.trans (Sub.frz [4, 6, 47] hK rfl (by simp) (AllRow.get (.cons rfl <| .cons rfl <| .cons rfl <| .nil))) <| Sub.of (tl := [(4, _)]) (to := [(100, _), (1100, _)]) rfl (.cons rfl rfl <| .nil) (.cons rfl rfl <| .cons rfl rfl <| .nil)) (.cons (.tmp rfl) <| .nil) rfl rfl

theorem r15_Dots_o_ok (most1 : Int) (b_2 : List Int) (at_3 : Int) (bad_4 : Int) (r0 : List TDot × List Int × Int × Int) (h : (r15_Dots_o most1 b_2 at_3 bad_4).wp (· = r0)) : PObj Tryz.prog 46 [.ref 100 0, .d (.v (.int .i64 most1))] [(100, .cells 53 [.d (.sl (List.map (eK .u8) b_2)), .d (.v (.int .i64 at_3)), .d (.v (.int .i64 bad_4))])] [100] (.d (.sl (List.map TDot.e r0.1))) (fun _ : Unit => [(100, .cells 53 [.d (.sl (List.map (eK .u8) r0.2.1)), .d (.v (.int .i64 r0.2.2.1)), .d (.v (.int .i64 r0.2.2.2))])]) := by
  refine PObj.intro (sl := [(0, _), (1, _)]) Tryz.func46 rfl Tryz.ntmps46 rfl rfl rfl ?_
  intro ctx hK pv
  refine PWc.seq ?_
  refine PWc.region ?_
  refine PWl.step (LR.assignNilRow 32 2 rfl) rfl ?_
  refine PWl.nil ?_
  refine PWc.seq ?_
  refine PWc.seq ?_
  refine PWc.region ?_
  refine PWl.step (LR.move rfl) rfl ?_
  refine PWl.step (LR.lss rfl rfl) rfl ?_
  refine PWl.nil ?_
  refine PWc.jn (iBind h) (fun (most5 : Int) (_ : Unit) => ⟨67, [(0, .ref 100 0), (1, .d (.v (.int .i64 most5)))], [(100, .cells 53 [.d (.sl (List.map (eK .u8) b_2)), .d (.v (.int .i64 at_3)), .d (.v (.int .i64 bad_4))]), (1100, .pin 100 (pv 100).1 (pv 100).2)]⟩) (fun h => ?_) ?_
  · refine PWc.cond rfl (fun hc6 => ?_) (fun hc6 => ?_)
    · replace h := iT hc6 h
      refine PWc.region ?_
      refine PWl.step (LR.assign rfl) rfl ?_
      refine PWl.nil ?_
      exact ⟨0, (), h, Sub.of rfl (.cons rfl rfl <| .cons rfl rfl <| .nil) (.cons rfl rfl <| .cons rfl rfl <| .nil)⟩
    · replace h := iF hc6 h
      refine PWc.skip ?_
      exact ⟨most1, (), h, Sub.of rfl (.cons rfl rfl <| .cons rfl rfl <| .nil) (.cons rfl rfl <| .cons rfl rfl <| .nil)⟩
  · rintro most5 _ h
    refine PWc.seq ?_
    refine PWc.region ?_
    refine PWl.step (LR.move rfl) rfl ?_
    replace h := iDet h
    obtain ⟨y7, hy8, h⟩ := h
    refine PWl.step (LR.callObj [(100, 100)] [] [100] (epitaphref04_Reader_Num_o_ok b_2 at_3 bad_4 y7 hy8) hK rfl Tryz.call85 rfl (by first | rfl | (simp; done) | (simp [PV.nilD, PV.ren, rn]; omega)) (.cons (by first | rfl | (congr 1; first | (simp; done) | (simp; omega))) <| .nil) rfl rfl rfl rfl) rfl ?_
    refine PWl.step (LR.assign rfl) rfl ?_
    refine PWl.nil ?_
    refine PWc.seq ?_
    refine PWc.seq ?_
    refine PWc.re (tl := [(0, _), (1, _), (5, _)]) (to := [(100, _), (1100, _)]) rfl (.cons rfl rfl <| .cons rfl rfl <| .cons rfl rfl <| .nil) (.cons rfl rfl <| .cons rfl rfl <| .nil) ?_
    refine PWc.region ?_
    refine PWl.step (LR.move rfl) rfl ?_
    refine PWl.step (LR.move rfl) rfl ?_
    refine PWl.step (LR.convInt Tryz.underlying30 (by rw [Tryz.underlying3]; rfl) rfl rfl) rfl ?_
    refine PWl.step (LR.gtr rfl rfl) rfl ?_
    refine PWl.nil ?_
    refine PWc.jn (iBind h) (fun (⟨v9, v10, v11⟩ : List Int × Int × Int) (_ : Unit) => ⟨67, [(0, .ref 100 0), (5, .d (.v (.int .u64 y7.1)))], [(100, .cells 53 [.d (.sl (List.map (eK .u8) v9)), .d (.v (.int .i64 v10)), .d (.v (.int .i64 v11))]), (1100, .pin 100 (pv 100).1 (pv 100).2)]⟩) (fun h => ?_) ?_
    · refine PWc.cond rfl (fun hc12 => ?_) (fun hc12 => ?_)
      · replace h := iT hc12 h
        refine PWc.region ?_
        refine PWl.step (LR.move rfl) rfl ?_
        replace h := iDet h
        obtain ⟨y13, hy14, h⟩ := h
        refine PWl.step (LR.callObj [(100, 100)] [] [100] (epitaphref04_Reader_Fail_o_ok 3 y7.2.1 y7.2.2.1 y7.2.2.2 y13 hy14) hK rfl Tryz.call86 rfl (by first | rfl | (simp; done) | (simp [PV.nilD, PV.ren, rn]; omega)) (.cons (by first | rfl | (congr 1; first | (simp; done) | (simp; omega))) <| .nil) rfl rfl rfl rfl) rfl ?_
        refine PWl.nil ?_
        exact ⟨(y13.1, y13.2.1, y13.2.2), (), h, Sub.of rfl (.cons rfl rfl <| .cons rfl rfl <| .nil) (.cons rfl rfl <| .cons rfl rfl <| .nil)⟩
      · replace h := iF hc12 h
        refine PWc.skip ?_
        exact ⟨(y7.2.1, y7.2.2.1, y7.2.2.2), (), h, Sub.of rfl (.cons rfl rfl <| .cons rfl rfl <| .nil) (.cons rfl rfl <| .cons rfl rfl <| .nil)⟩
    · rintro ⟨v9, v10, v11⟩ _ h
      refine PWc.seq ?_
      refine PWc.region ?_
      refine PWl.step (LR.assignNilRow 32 2 rfl) rfl ?_
      refine PWl.nil ?_
      refine PWc.seq ?_
      refine PWc.seq ?_
      refine PWc.region ?_
      refine PWl.step (LR.assign rfl) rfl ?_
      refine PWl.nil ?_
      refine PWc.jn (iBind h) (fun (⟨out15, v16, v17, v18⟩ : List TDot × List Int × Int × Int) (_ : Unit) => ⟨67, [(0, .ref 100 0), (6, .row 6 (List.length out15))], [(6, .row 32 2 (List.map TDot.e out15)), (100, .cells 53 [.d (.sl (List.map (eK .u8) v16)), .d (.v (.int .i64 v17)), .d (.v (.int .i64 v18))]), (1100, .pin 100 (pv 100).1 (pv 100).2)]⟩) (fun h => ?_) ?_
      · refine PWc.block ?_
        refine PWc.loopM (fun (⟨i62, out63, v64, v65, v66⟩ : Int × List TDot × List Int × Int × Int) (_ : Unit) => ⟨67, [(0, .ref 100 0), (5, .d (.v (.int .u64 y7.1))), (6, .row 6 (List.length out63)), (7, .d (.v (.int .u64 i62)))], [(6, .row 32 2 (List.map TDot.e out63)), (100, .cells 53 [.d (.sl (List.map (eK .u8) v64)), .d (.v (.int .i64 v65)), .d (.v (.int .i64 v66))]), (1100, .pin 100 (pv 100).1 (pv 100).2)]⟩) () h (Sub.of rfl (.cons rfl rfl <| .cons rfl rfl <| .cons rfl rfl <| .cons rfl rfl <| .nil) (.cons rfl rfl <| .cons rfl rfl <| .cons rfl rfl <| .nil)) ?_
        rintro N ⟨i62, out63, v64, v65, v66⟩ _ h
        refine PWc.seq ?_
        refine PWc.seq ?_
        refine PWc.jn (iBind h) (fun (v67 : Bool) (_ : Unit) => ⟨67, [(0, .ref 100 0), (5, .d (.v (.int .u64 y7.1))), (6, .row 6 (List.length out63)), (7, .d (.v (.int .u64 i62))), (29, .d (.v (.bool v67)))], [(6, .row 32 2 (List.map TDot.e out63)), (100, .cells 53 [.d (.sl (List.map (eK .u8) v64)), .d (.v (.int .i64 v65)), .d (.v (.int .i64 v66))]), (1100, .pin 100 (pv 100).1 (pv 100).2)]⟩) (fun h => ?_) ?_
        · refine PWc.region ?_
          refine PWl.step (LR.move rfl) rfl ?_
          refine PWl.step (LR.move rfl) rfl ?_
          refine PWl.step (LR.lss rfl rfl) rfl ?_
          refine PWl.step (LR.move rfl) rfl ?_
          refine PWl.split (d := 23) rfl (fun hg68 => ?_) (fun hg68 => ?_)
          · replace h := iT hg68 h
            refine PWl.guardT (LR.move rfl) rfl rfl rfl ?_
            refine PWl.guardT (LR.nilCheckRef rfl) rfl rfl rfl ?_
            refine PWl.guardT (LR.fieldRef Tryz.underlying53 rfl Tryz.sizeOf3 (by decide) rfl rfl) rfl rfl rfl ?_
            refine PWl.guardT (LR.loadRef Tryz.isAgg3 rfl rfl rfl) rfl rfl rfl ?_
            refine PWl.guardT (LR.eql rfl rfl) rfl rfl rfl ?_
            refine PWl.step (LR.pickT rfl rfl) rfl ?_
            refine PWl.nil ?_
            exact ⟨(decide (v66 = 0)), (), h, Sub.of rfl (.cons rfl rfl <| .cons rfl rfl <| .cons rfl rfl <| .cons rfl rfl <| .cons rfl rfl <| .nil) (.cons rfl rfl <| .cons rfl rfl <| .cons rfl rfl <| .nil)⟩
          · replace h := iF hg68 h
            refine PWl.guardF rfl rfl rfl (by decide) ?_
            refine PWl.guardF rfl rfl rfl (by decide) ?_
            refine PWl.guardF rfl rfl rfl (by decide) ?_
            refine PWl.guardF rfl rfl rfl (by decide) ?_
            refine PWl.guardF rfl rfl rfl (by decide) ?_
            refine PWl.step (LR.pickF rfl rfl) rfl ?_
            refine PWl.nil ?_
            exact ⟨false, (), h, Sub.of rfl (.cons rfl rfl <| .cons rfl rfl <| .cons rfl rfl <| .cons rfl rfl <| .cons rfl rfl <| .nil) (.cons rfl rfl <| .cons rfl rfl <| .cons rfl rfl <| .nil)⟩
        · rintro v67 _ h
          refine PWc.cond rfl (fun hc69 => ?_) (fun hc69 => ?_)
          · replace h := iT hc69 h
            refine PWc.skip ?_
            refine PWc.seq ?_
            refine PWc.block ?_
            refine PWc.seq ?_
            refine PWc.region ?_
            refine PWl.step (LR.move rfl) rfl ?_
            replace h := iDet h
            obtain ⟨y70, hy71, h⟩ := h
            refine PWl.step (LR.callObj [(100, 100)] [] [100] (r15_Dot_o_ok v64 v65 v66 y70 hy71) hK rfl Tryz.call44 rfl (by first | rfl | (simp; done) | (simp [PV.nilD, PV.ren, rn]; omega)) (.cons (by first | rfl | (congr 1; first | (simp; done) | (simp; omega))) <| .nil) rfl rfl rfl rfl) rfl ?_
            refine PWl.step (LR.allocZ (cs := [_, _]) Tryz.zeroValue32 rfl rfl rfl rfl) rfl ?_
            refine PWl.step (LR.storeB (ns := [_, _]) Tryz.sizeOf32 rfl rfl rfl rfl rfl rfl rfl) rfl ?_
            refine PWl.nil ?_
            refine PWc.seq ?_
            refine PWc.re (tl := [(0, _), (5, _), (6, _), (7, _), (8, _)]) (to := [(6, _), (8, _), (100, _), (1100, _)]) rfl (.cons rfl rfl <| .cons rfl rfl <| .cons rfl rfl <| .cons rfl rfl <| .cons rfl rfl <| .nil) (.cons rfl rfl <| .cons rfl rfl <| .cons rfl rfl <| .cons rfl rfl <| .nil) ?_
            refine PWc.region ?_
            refine PWl.step (LR.move rfl) rfl ?_
            refine PWl.step (LR.lenRow Tryz.underlying28 rfl) rfl ?_
            refine PWl.step (LR.subW rfl rfl) rfl ?_
            refine PWl.step (LR.assign rfl) rfl ?_
            refine PWl.nil ?_
            refine PWc.seq ?_
            refine PWc.seq ?_
            refine PWc.jn (iBind h) (fun (v72 : Bool) (_ : Unit) => ⟨67, [(0, .ref 100 0), (5, .d (.v (.int .u64 y7.1))), (6, .row 6 (List.length out63)), (7, .d (.v (.int .u64 i62))), (8, .ref 8 0), (54, .d (.v (.bool v72)))], [(6, .row 32 2 (List.map TDot.e out63)), (8, .cells 32 [.d (.v (.int .u16 y70.1.dev)), .d (.v (.int .u64 y70.1.n))]), (100, .cells 53 [.d (.sl (List.map (eK .u8) y70.2.1)), .d (.v (.int .i64 y70.2.2.1)), .d (.v (.int .i64 y70.2.2.2))]), (1100, .pin 100 (pv 100).1 (pv 100).2)]⟩) (fun h => ?_) ?_
            · refine PWc.regionD (by kernel_rfl) (by kernel_rfl) ?_
              refine PQl.step (fun _ he ho => LR.move (he rfl rfl)) rfl ?_
              refine PQl.step (fun _ he ho => LR.nilCheckRef (he rfl rfl)) rfl ?_
              refine PQl.step (fun _ he ho => LR.fieldRef Tryz.underlying53 rfl Tryz.sizeOf3 (by decide) rfl (he rfl rfl)) rfl ?_
              refine PQl.step (fun _ he ho => LR.loadRef Tryz.isAgg3 (he rfl rfl) (ho rfl) rfl) rfl ?_
              refine PQl.step (fun _ he ho => LR.eql (he rfl rfl) (he rfl rfl)) rfl ?_
              refine PQl.step (fun _ he ho => LR.move (he rfl rfl)) rfl ?_
              refine PQl.split (d := 42) rfl (fun hg73 => ?_) (fun hg73 => ?_)
              · replace h := iT hg73 h
                refine PQl.guardT (fun _ he ho => LR.move (he rfl rfl)) rfl rfl rfl ?_
                refine PQl.guardT (fun _ he ho => LR.geq (he rfl rfl) (he rfl rfl)) rfl rfl rfl ?_
                refine PQl.step (fun _ he ho => LR.pickT (he rfl rfl) (he rfl rfl)) rfl ?_
                refine PQl.step (fun _ he ho => LR.move (he rfl rfl)) rfl ?_
                refine PQl.split (d := 46) rfl (fun hg74 => ?_) (fun hg74 => ?_)
                · replace h := iT hg74 h
                  refine PQl.guardT (fun _ he ho => LR.move (he rfl rfl)) rfl rfl rfl ?_
                  refine PQl.guardT (fun _ he ho => LR.move (he rfl rfl)) rfl rfl rfl ?_
                  replace h := iIdx h
                  obtain ⟨x75, hy76, h⟩ := h
                  refine PQl.guardT (fun _ he ho => LR.idxRowT (L := out63) (y := x75) Tryz.underlying28 Tryz.sizeOf32 (he rfl rfl) rfl (he rfl rfl) hy76) rfl rfl rfl ?_
                  refine PQl.guardT (fun _ he ho => LR.loadRpT (enc := TDot.e) (L := out63) (y := x75) Tryz.isAgg32 Tryz.sizeOf32 (he rfl rfl) (ho rfl) hy76.2) rfl rfl rfl ?_
                  refine PQl.guardT (fun _ he ho => LR.loadRefAgg (ps := [_, _]) Tryz.isAgg32 Tryz.sizeOf32 (he rfl rfl) (ho rfl) rfl rfl) rfl rfl rfl ?_
                  replace h := iDet h
                  obtain ⟨v77, hy78, h⟩ := h
                  refine PQl.guardT (fun _ he ho => LR.callN (r07_Cmp_ok x75 y70.1 v77 hy78) (he rfl rfl) Tryz.call88 (evsE he rfl rfl) rfl rfl rfl) rfl rfl rfl ?_
                  refine PQl.guardT (fun _ he ho => LR.geq (he rfl rfl) (he rfl rfl)) rfl rfl rfl ?_
                  refine PQl.step (fun _ he ho => LR.pickT (he rfl rfl) (he rfl rfl)) rfl ?_
                  refine PQl.nil ?_
                  exact ⟨(decide (0 ≤ v77)), (), h, Sub.of rfl (.cons rfl rfl <| .cons rfl rfl <| .cons rfl rfl <| .cons rfl rfl <| .cons rfl rfl <| .cons rfl rfl <| .nil) (.cons rfl rfl <| .cons rfl rfl <| .cons rfl rfl <| .cons rfl rfl <| .nil)⟩
                · replace h := iF hg74 h
                  refine PQl.guardF rfl rfl rfl (by decide) ?_
                  refine PQl.guardF rfl rfl rfl (by decide) ?_
                  refine PQl.guardF rfl rfl rfl (by decide) ?_
                  refine PQl.guardF rfl rfl rfl (by decide) ?_
                  refine PQl.guardF rfl rfl rfl (by decide) ?_
                  refine PQl.guardF rfl rfl rfl (by decide) ?_
                  refine PQl.guardF rfl rfl rfl (by decide) ?_
                  refine PQl.step (fun _ he ho => LR.pickF (he rfl rfl) (he rfl rfl)) rfl ?_
                  refine PQl.nil ?_
                  exact ⟨false, (), h, Sub.of rfl (.cons rfl rfl <| .cons rfl rfl <| .cons rfl rfl <| .cons rfl rfl <| .cons rfl rfl <| .cons rfl rfl <| .nil) (.cons rfl rfl <| .cons rfl rfl <| .cons rfl rfl <| .cons rfl rfl <| .nil)⟩
              · replace h := iF hg73 h
                refine PQl.guardF rfl rfl rfl (by decide) ?_
                refine PQl.guardF rfl rfl rfl (by decide) ?_
                refine PQl.step (fun _ he ho => LR.pickF (he rfl rfl) (he rfl rfl)) rfl ?_
                refine PQl.step (fun _ he ho => LR.move (he rfl rfl)) rfl ?_
                refine PQl.guardF rfl rfl rfl (by decide) ?_
                refine PQl.guardF rfl rfl rfl (by decide) ?_
                refine PQl.guardF rfl rfl rfl (by decide) ?_
                refine PQl.guardF rfl rfl rfl (by decide) ?_
                refine PQl.guardF rfl rfl rfl (by decide) ?_
                refine PQl.guardF rfl rfl rfl (by decide) ?_
                refine PQl.guardF rfl rfl rfl (by decide) ?_
                refine PQl.step (fun _ he ho => LR.pickF (he rfl rfl) (he rfl rfl)) rfl ?_
                refine PQl.nil ?_
                exact ⟨false, (), h, Sub.of rfl (.cons rfl rfl <| .cons rfl rfl <| .cons rfl rfl <| .cons rfl rfl <| .cons rfl rfl <| .cons rfl rfl <| .nil) (.cons rfl rfl <| .cons rfl rfl <| .cons rfl rfl <| .cons rfl rfl <| .nil)⟩
            · rintro v72 _ h
              refine PWc.jn (iBind h) (fun (⟨v79, v80, v81⟩ : List Int × Int × Int) (_ : Unit) => ⟨67, [(0, .ref 100 0), (5, .d (.v (.int .u64 y7.1))), (6, .row 6 (List.length out63)), (7, .d (.v (.int .u64 i62))), (8, .ref 8 0)], [(6, .row 32 2 (List.map TDot.e out63)), (8, .cells 32 [.d (.v (.int .u16 y70.1.dev)), .d (.v (.int .u64 y70.1.n))]), (100, .cells 53 [.d (.sl (List.map (eK .u8) v79)), .d (.v (.int .i64 v80)), .d (.v (.int .i64 v81))]), (1100, .pin 100 (pv 100).1 (pv 100).2)]⟩) (fun h => ?_) ?_
              · refine PWc.cond rfl (fun hc82 => ?_) (fun hc82 => ?_)
                · replace h := iT hc82 h
                  refine PWc.region ?_
                  refine PWl.step (LR.move rfl) rfl ?_
                  replace h := iDet h
                  obtain ⟨y83, hy84, h⟩ := h
                  refine PWl.step (LR.callObj [(100, 100)] [] [100] (epitaphref04_Reader_Fail_o_ok 4 y70.2.1 y70.2.2.1 y70.2.2.2 y83 hy84) hK rfl Tryz.call86 rfl (by first | rfl | (simp; done) | (simp [PV.nilD, PV.ren, rn]; omega)) (.cons (by first | rfl | (congr 1; first | (simp; done) | (simp; omega))) <| .nil) rfl rfl rfl rfl) rfl ?_
                  refine PWl.nil ?_
                  exact ⟨(y83.1, y83.2.1, y83.2.2), (), h, Sub.of rfl (.cons rfl rfl <| .cons rfl rfl <| .cons rfl rfl <| .cons rfl rfl <| .cons rfl rfl <| .nil) (.cons rfl rfl <| .cons rfl rfl <| .cons rfl rfl <| .cons rfl rfl <| .nil)⟩
                · replace h := iF hc82 h
                  refine PWc.skip ?_
                  exact ⟨(y70.2.1, y70.2.2.1, y70.2.2.2), (), h, Sub.of rfl (.cons rfl rfl <| .cons rfl rfl <| .cons rfl rfl <| .cons rfl rfl <| .cons rfl rfl <| .nil) (.cons rfl rfl <| .cons rfl rfl <| .cons rfl rfl <| .cons rfl rfl <| .nil)⟩
              · rintro ⟨v79, v80, v81⟩ _ h
                refine PWc.region ?_
                refine PWl.step (LR.move rfl) rfl ?_
                refine PWl.step (LR.loadRefAgg (ps := [_, _]) Tryz.isAgg32 Tryz.sizeOf32 rfl rfl rfl rfl) rfl ?_
                refine PWl.step (LR.buildSliceD [.tmp 58] elem28 rfl rfl (.cons rfl rfl rfl <| .nil) (by decide) (by decide)) rfl ?_
                replace h := iNeed h
                obtain ⟨hy85, h⟩ := h
                refine PWl.step (LR.appT (enc := TDot.e) (L := out63) (R := [y70.1]) [6, 57] elem28 Tryz.underlying28 rfl rfl rfl (Src.slT (enc := TDot.e) (R := [y70.1]) rfl (fun _ => rfl)) (fun _ => rfl) hy85 rfl rfl) rfl ?_
                refine PWl.step (LR.assign rfl) rfl ?_
                refine PWl.nil ?_
                refine PWc.region ?_
                refine PWl.step (LR.move rfl) rfl ?_
                refine PWl.step (LR.addW rfl rfl) rfl ?_
                refine PWl.step (LR.assign rfl) rfl ?_
                refine PWl.nil ?_
                exact ⟨((IntKind.u64.wrap (i62 + 1)), (out63 ++ [y70.1]), v79, v80, v81), (), h, Sub.of rfl (.cons rfl rfl <| .cons rfl rfl <| .cons rfl rfl <| .cons rfl rfl <| .nil) (.cons rfl rfl <| .cons rfl rfl <| .cons rfl rfl <| .nil)⟩
          · replace h := iF hc69 h
            refine PWc.exit ?_
            exact ⟨(out63, v64, v65, v66), (), h, Sub.of rfl (.cons rfl rfl <| .cons rfl rfl <| .nil) (.cons rfl rfl <| .cons rfl rfl <| .cons rfl rfl <| .nil)⟩
      · rintro ⟨out15, v16, v17, v18⟩ _ h
        refine PWc.seq ?_
        refine PWc.seq ?_
        refine PWc.region ?_
        refine PWl.step (LR.move rfl) rfl ?_
        refine PWl.step (LR.nilCheckRef rfl) rfl ?_
        refine PWl.step (LR.fieldRef Tryz.underlying53 rfl Tryz.sizeOf3 (by decide) rfl rfl) rfl ?_
        refine PWl.step (LR.loadRef Tryz.isAgg3 rfl rfl rfl) rfl ?_
        refine PWl.step (LR.neq rfl rfl) rfl ?_
        refine PWl.nil ?_
        refine PWc.cond rfl (fun hc86 => ?_) (fun hc86 => ?_)
        · replace h := iT hc86 h
          refine PWc.seq ?_
          refine PWc.region ?_
          refine PWl.step (LR.assignNilRow 32 2 rfl) rfl ?_
          refine PWl.nil ?_
          refine PWc.ret ?_
          replace h : _ = r0 := h
          subst h
          exact EndsO.mk () (.inr rfl) (Sub.trans (Sub.frz [4] hK rfl (by first | (simp; done) | (simp; omega) | omega) (AllRow.get (.cons rfl <| .nil))) <| Sub.of (tl := [(4, _)]) (to := [(100, _), (1100, _)]) rfl (.cons rfl rfl <| .nil) (.cons rfl rfl <| .cons rfl rfl <| .nil)) (.cons (.tmp rfl) <| .nil) rfl rfl
        · replace h := iF hc86 h
          refine PWc.skip ?_
          refine PWc.seq ?_
          refine PWc.region ?_
          refine PWl.step (LR.move rfl) rfl ?_
          refine PWl.step (LR.assign rfl) rfl ?_
          refine PWl.nil ?_
          refine PWc.ret ?_
          replace h : _ = r0 := h
          subst h
          exact EndsO.mk () (.inr rfl) (Sub.trans (Sub.frz [4, 6, 66] hK rfl (by simp) (AllRow.get (.cons rfl <| .cons rfl <| .cons rfl <| .nil))) <| Sub.of (tl := [(4, _)]) (to := [(100, _), (1100, _)]) rfl (.cons rfl rfl <| .nil) (.cons rfl rfl <| .cons rfl rfl <| .nil)) (.cons (.tmp rfl) <| .nil) rfl rfl

theorem l15_DcodeReads_ok (b1 : List Int) (most2 : Int) (r0 : Bool) (h : (l15_DcodeReads b1 most2).wp (· = r0)) : PFun Tryz.prog 5 [.d (.sl (List.map (eK .u8) b1)), .d (.v (.int .i64 most2))] (.d (.v (.bool r0))) := by
  refine PFun.intro (sl := [(0, _), (1, _)]) Tryz.func5 rfl Tryz.ntmps5 rfl rfl ?_
  intro ctx hK
  refine PWc.seq ?_
  refine PWc.region ?_
  refine PWl.step (LR.assign rfl) rfl ?_
  refine PWl.nil ?_
  refine PWc.seq ?_
  refine PWc.seq ?_
  refine PWc.region ?_
  refine PWl.step (LR.move rfl) rfl ?_
  refine PWl.step (LR.lenMap (enc := (eK .u8)) (L := b1) Tryz.underlying48 rfl) rfl ?_
  refine PWl.step (LR.gtr rfl rfl) rfl ?_
  refine PWl.nil ?_
  refine PWc.cond rfl (fun hc3 => ?_) (fun hc3 => ?_)
  · replace h := iT hc3 h
    refine PWc.seq ?_
    refine PWc.region ?_
    replace h := iDet h
    obtain ⟨v4, hy5, h⟩ := h
    refine PWl.step (LR.callN (l15_works_ok v4 hy5) rfl Tryz.call41 rfl rfl rfl rfl) rfl ?_
    refine PWl.step (LR.assign rfl) rfl ?_
    refine PWl.nil ?_
    refine PWc.ret ?_
    replace h : _ = r0 := h
    subst h
    exact ⟨.inr rfl, _, .cons (.tmp rfl rfl) <| .nil, rfl⟩
  · replace h := iF hc3 h
    refine PWc.skip ?_
    refine PWc.seq ?_
    refine PWc.region ?_
    refine PWl.step (LR.move rfl) rfl ?_
    replace h := iDet h
    obtain ⟨y6, hy7, h⟩ := h
    refine PWl.step (LR.callObj [(7, 16)] [] [7] (pack_New_o_ok b1 y6 hy7) hK rfl Tryz.call42 rfl (by first | rfl | (simp; done) | (simp [PV.nilD, PV.ren, rn]; omega)) (.nil) rfl rfl rfl rfl) rfl ?_
    refine PWl.step (LR.move rfl) rfl ?_
    refine PWl.step (LR.build (ns := [_, _, _]) build53 rfl rfl rfl) rfl ?_
    refine PWl.step (LR.box rfl rfl rfl rfl) rfl ?_
    refine PWl.step (LR.assign rfl) rfl ?_
    refine PWl.step (LR.assign rfl) rfl ?_
    refine PWl.nil ?_
    refine PWc.seq ?_
    refine PWc.seq ?_
    refine PWc.re (tl := [(0, _), (1, _), (5, _), (6, _)]) (to := [(16, _), (19, _)]) rfl (.cons rfl rfl <| .cons rfl rfl <| .cons rfl rfl <| .cons rfl rfl <| .nil) (.cons rfl rfl <| .cons rfl rfl <| .nil) ?_
    refine PWc.jn (iBind h) (fun (v8 : Bool) (_ : Unit) => ⟨71, [(0, .d (.sl (List.map (eK .u8) b1))), (49, .d (.v (.bool v8)))], []⟩) (fun h => ?_) ?_
    · refine PWc.region ?_
      refine PWl.step (LR.move rfl) rfl ?_
      replace h := iDet h
      obtain ⟨y9, hy10, h⟩ := h
      refine PWl.step (LR.callObj [(100, 16)] [] [100] (dcode_Dot_o_ok y6.1 y6.2 y9 hy10) hK rfl Tryz.call43 rfl (by first | rfl | (simp; done) | (simp [PV.nilD, PV.ren, rn]; omega)) (.cons (by first | rfl | (congr 1; first | (simp; done) | (simp; omega))) <| .nil) rfl rfl rfl rfl) rfl ?_
      refine PWl.step (LR.move rfl) rfl ?_
      replace h := iDet h
      obtain ⟨y11, hy12, h⟩ := h
      refine PWl.step (LR.callObj [(100, 19)] [] [100] (r15_Dot_o_ok b1 0 0 y11 hy12) hK rfl Tryz.call44 rfl (by first | rfl | (simp; done) | (simp [PV.nilD, PV.ren, rn]; omega)) (.cons (by first | rfl | (congr 1; first | (simp; done) | (simp; omega))) <| .nil) rfl rfl rfl rfl) rfl ?_
      refine PWl.re (tl := [(0, _), (1, _), (5, _), (6, _), (21, _), (23, _)]) (to := [(16, _), (19, _)]) rfl (.cons rfl rfl <| .cons rfl rfl <| .cons rfl rfl <| .cons rfl rfl <| .cons rfl rfl <| .cons rfl rfl <| .nil) (.cons rfl rfl <| .cons rfl rfl <| .nil) ?_
      refine PWl.step (LR.neqAgg rfl rfl rfl rfl eq32) rfl ?_
      refine PWl.step (LR.move rfl) rfl ?_
      refine PWl.split (d := 25) rfl (fun hg13 => ?_) (fun hg13 => ?_)
      · replace h := iT hg13 h
        refine PWl.guardF rfl rfl rfl (by decide) ?_
        refine PWl.guardF rfl rfl rfl (by decide) ?_
        refine PWl.guardF rfl rfl rfl (by decide) ?_
        refine PWl.guardF rfl rfl rfl (by decide) ?_
        refine PWl.guardF rfl rfl rfl (by decide) ?_
        refine PWl.guardF rfl rfl rfl (by decide) ?_
        refine PWl.guardF rfl rfl rfl (by decide) ?_
        refine PWl.guardF rfl rfl rfl (by decide) ?_
        refine PWl.step (LR.pickT rfl rfl) rfl ?_
        refine PWl.step (LR.move rfl) rfl ?_
        refine PWl.guardF rfl rfl rfl (by decide) ?_
        refine PWl.guardF rfl rfl rfl (by decide) ?_
        refine PWl.re (tl := [(0, _), (5, _), (6, _), (35, _), (37, _)]) (to := [(16, _), (19, _)]) rfl (.cons rfl rfl <| .cons rfl rfl <| .cons rfl rfl <| .cons rfl rfl <| .cons rfl rfl <| .nil) (.cons rfl rfl <| .cons rfl rfl <| .nil) ?_
        refine PWl.guardF rfl rfl rfl (by decide) ?_
        refine PWl.guardF rfl rfl rfl (by decide) ?_
        refine PWl.guardF rfl rfl rfl (by decide) ?_
        refine PWl.guardF rfl rfl rfl (by decide) ?_
        refine PWl.step (LR.pickT rfl rfl) rfl ?_
        refine PWl.step (LR.move rfl) rfl ?_
        refine PWl.guardF rfl rfl rfl (by decide) ?_
        refine PWl.guardF rfl rfl rfl (by decide) ?_
        refine PWl.guardF rfl rfl rfl (by decide) ?_
        refine PWl.guardF rfl rfl rfl (by decide) ?_
        refine PWl.guardF rfl rfl rfl (by decide) ?_
        refine PWl.step (LR.pickT rfl rfl) rfl ?_
        refine PWl.nil ?_
        exact ⟨true, (), h, Sub.of rfl (.cons rfl rfl <| .cons rfl rfl <| .nil) (.nil)⟩
      · replace h := iF hg13 h
        refine PWl.guardT (LR.move rfl) rfl rfl rfl ?_
        refine PWl.guardT (LR.move rfl) rfl rfl rfl ?_
        replace h := iDet h
        obtain ⟨y14, hy15, h⟩ := h
        refine PWl.guardT (LR.callObj [(100, 16)] [] [100] (dcode_Dots_o_ok most2 y9.2.1 y9.2.2 y14 hy15) hK rfl Tryz.call45 rfl (by first | rfl | (simp; done) | (simp [PV.nilD, PV.ren, rn]; omega)) (.cons (by first | rfl | (congr 1; first | (simp; done) | (simp; omega))) <| .nil) rfl rfl rfl rfl) rfl rfl rfl ?_
        refine PWl.guardT (LR.move rfl) rfl rfl rfl ?_
        refine PWl.guardT (LR.move rfl) rfl rfl rfl ?_
        replace h := iDet h
        obtain ⟨y16, hy17, h⟩ := h
        refine PWl.guardT (LR.callObj [(100, 19)] [] [100] (r15_Dots_o_ok most2 y11.2.1 y11.2.2.1 y11.2.2.2 y16 hy17) hK rfl Tryz.call46 rfl (by first | rfl | (simp; done) | (simp [PV.nilD, PV.ren, rn]; omega)) (.cons (by first | rfl | (congr 1; first | (simp; done) | (simp; omega))) <| .nil) rfl rfl rfl rfl) rfl rfl rfl ?_
        refine PWl.re (tl := [(0, _), (5, _), (6, _), (25, _), (28, _), (31, _)]) (to := [(16, _), (19, _)]) rfl (.cons rfl rfl <| .cons rfl rfl <| .cons rfl rfl <| .cons rfl rfl <| .cons rfl rfl <| .cons rfl rfl <| .nil) (.cons rfl rfl <| .cons rfl rfl <| .nil) ?_
        replace h := iDet h
        obtain ⟨v18, hy19, h⟩ := h
        refine PWl.guardT (LR.callN (r07_Same_ok y14.1 y16.1 v18 hy19) rfl Tryz.call36 rfl rfl rfl rfl) rfl rfl rfl ?_
        refine PWl.guardT (LR.not rfl) rfl rfl rfl ?_
        refine PWl.step (LR.pickF rfl rfl) rfl ?_
        refine PWl.step (LR.move rfl) rfl ?_
        refine PWl.split (d := 35) rfl (fun hg20 => ?_) (fun hg20 => ?_)
        · replace h := iT hg20 h
          refine PWl.guardF rfl rfl rfl (by decide) ?_
          refine PWl.guardF rfl rfl rfl (by decide) ?_
          refine PWl.guardF rfl rfl rfl (by decide) ?_
          refine PWl.guardF rfl rfl rfl (by decide) ?_
          refine PWl.guardF rfl rfl rfl (by decide) ?_
          refine PWl.guardF rfl rfl rfl (by decide) ?_
          refine PWl.step (LR.pickT rfl rfl) rfl ?_
          refine PWl.step (LR.move rfl) rfl ?_
          refine PWl.guardF rfl rfl rfl (by decide) ?_
          refine PWl.guardF rfl rfl rfl (by decide) ?_
          refine PWl.re (tl := [(0, _), (6, _), (43, _), (45, _)]) (to := [(19, _)]) rfl (.cons rfl rfl <| .cons rfl rfl <| .cons rfl rfl <| .cons rfl rfl <| .nil) (.cons rfl rfl <| .nil) ?_
          refine PWl.guardF rfl rfl rfl (by decide) ?_
          refine PWl.guardF rfl rfl rfl (by decide) ?_
          refine PWl.guardF rfl rfl rfl (by decide) ?_
          refine PWl.step (LR.pickT rfl rfl) rfl ?_
          refine PWl.nil ?_
          exact ⟨true, (), h, Sub.of rfl (.cons rfl rfl <| .cons rfl rfl <| .nil) (.nil)⟩
        · replace h := iF hg20 h
          refine PWl.guardT (LR.move rfl) rfl rfl rfl ?_
          replace h := iDet h
          obtain ⟨y21, hy22, h⟩ := h
          refine PWl.guardT (LR.callObj [(100, 16)] [] [100] (dcode_Ctx_o_ok y14.2.1 y14.2.2 y21 hy22) hK rfl Tryz.call47 rfl (by first | rfl | (simp; done) | (simp [PV.nilD, PV.ren, rn]; omega)) (.cons (by first | rfl | (congr 1; first | (simp; done) | (simp; omega))) <| .nil) rfl rfl rfl rfl) rfl rfl rfl ?_
          refine PWl.guardT (LR.move rfl) rfl rfl rfl ?_
          replace h := iDet h
          obtain ⟨y23, hy24, h⟩ := h
          refine PWl.guardT (LR.callObj [(100, 19)] [] [100] (r15_Ctx_o_ok y16.2.1 y16.2.2.1 y16.2.2.2 y23 hy24) hK rfl Tryz.call48 rfl (by first | rfl | (simp; done) | (simp [PV.nilD, PV.ren, rn]; omega)) (.cons (by first | rfl | (congr 1; first | (simp; done) | (simp; omega))) <| .nil) rfl rfl rfl rfl) rfl rfl rfl ?_
          refine PWl.re (tl := [(0, _), (5, _), (6, _), (35, _), (37, _), (39, _)]) (to := [(16, _), (19, _)]) rfl (.cons rfl rfl <| .cons rfl rfl <| .cons rfl rfl <| .cons rfl rfl <| .cons rfl rfl <| .cons rfl rfl <| .nil) (.cons rfl rfl <| .cons rfl rfl <| .nil) ?_
          replace h := iDet h
          obtain ⟨v25, hy26, h⟩ := h
          refine PWl.guardT (LR.callN (r09_Eq_ok y21.1 y23.1 v25 hy26) rfl Tryz.call9 rfl rfl rfl rfl) rfl rfl rfl ?_
          refine PWl.guardT (LR.not rfl) rfl rfl rfl ?_
          refine PWl.step (LR.pickF rfl rfl) rfl ?_
          refine PWl.step (LR.move rfl) rfl ?_
          refine PWl.split (d := 43) rfl (fun hg27 => ?_) (fun hg27 => ?_)
          · replace h := iT hg27 h
            refine PWl.guardF rfl rfl rfl (by decide) ?_
            refine PWl.guardF rfl rfl rfl (by decide) ?_
            refine PWl.guardF rfl rfl rfl (by decide) ?_
            refine PWl.guardF rfl rfl rfl (by decide) ?_
            refine PWl.guardF rfl rfl rfl (by decide) ?_
            refine PWl.step (LR.pickT rfl rfl) rfl ?_
            refine PWl.nil ?_
            exact ⟨true, (), h, Sub.of rfl (.cons rfl rfl <| .cons rfl rfl <| .nil) (.nil)⟩
          · replace h := iF hg27 h
            refine PWl.guardT (LR.move rfl) rfl rfl rfl ?_
            replace h := iDet h
            obtain ⟨y28, hy29, h⟩ := h
            refine PWl.guardT (LR.callObj [(100, 16)] [] [100] (pack_Reader_End_o_ok y21.2.1 y21.2.2 y28 hy29) hK rfl Tryz.call49 rfl (by first | rfl | (simp; done) | (simp [PV.nilD, PV.ren, rn]; omega)) (.cons (by first | rfl | (congr 1; first | (simp; done) | (simp; omega))) <| .nil) rfl rfl rfl rfl) rfl rfl rfl ?_
            refine PWl.guardT (LR.move rfl) rfl rfl rfl ?_
            replace h := iDet h
            obtain ⟨y30, hy31, h⟩ := h
            refine PWl.guardT (LR.callObj [(100, 19)] [] [100] (epitaphref04_Reader_End_o_ok y23.2.1 y23.2.2.1 y23.2.2.2 y30 hy31) hK rfl Tryz.call50 rfl (by first | rfl | (simp; done) | (simp [PV.nilD, PV.ren, rn]; omega)) (.cons (by first | rfl | (congr 1; first | (simp; done) | (simp; omega))) <| .nil) rfl rfl rfl rfl) rfl rfl rfl ?_
            refine PWl.re (tl := [(0, _), (43, _), (45, _), (47, _)]) (to := []) rfl (.cons rfl rfl <| .cons rfl rfl <| .cons rfl rfl <| .cons rfl rfl <| .nil) (.nil) ?_
            refine PWl.guardT (LR.neq rfl rfl) rfl rfl rfl ?_
            refine PWl.step (LR.pickF rfl rfl) rfl ?_
            refine PWl.nil ?_
            exact ⟨(!decide (y28.1 = y30.1)), (), h, Sub.of rfl (.cons rfl rfl <| .cons rfl rfl <| .nil) (.nil)⟩
    · rintro v8 _ h
      refine PWc.cond rfl (fun hc32 => ?_) (fun hc32 => ?_)
      · replace h := iT hc32 h
        refine PWc.seq ?_
        refine PWc.region ?_
        refine PWl.step (LR.assign rfl) rfl ?_
        refine PWl.nil ?_
        refine PWc.ret ?_
        replace h : _ = r0 := h
        subst h
        exact ⟨.inr rfl, _, .cons (.tmp rfl rfl) <| .nil, rfl⟩
      · replace h := iF hc32 h
        refine PWc.skip ?_
        refine PWc.seq ?_
        refine PWc.region ?_
        refine PWl.step (LR.move rfl) rfl ?_
        replace h := iDet h
        obtain ⟨v33, hy34, h⟩ := h
        refine PWl.step (LR.callN (dcode_Decode_ok b1 v33 hy34) rfl Tryz.call51 rfl rfl rfl rfl) rfl ?_
        refine PWl.step (LR.move rfl) rfl ?_
        refine PWl.step (LR.extract rfl rfl) rfl ?_
        refine PWl.step (LR.extract rfl rfl) rfl ?_
        refine PWl.step (LR.assign rfl) rfl ?_
        refine PWl.step (LR.assign rfl) rfl ?_
        refine PWl.nil ?_
        refine PWc.seq ?_
        refine PWc.region ?_
        refine PWl.step (LR.move rfl) rfl ?_
        replace h := iDet h
        obtain ⟨v35, hy36, h⟩ := h
        refine PWl.step (LR.callN (r15_Decode_ok b1 v35 hy36) rfl Tryz.call52 rfl rfl rfl rfl) rfl ?_
        refine PWl.step (LR.move rfl) rfl ?_
        refine PWl.step (LR.extract rfl rfl) rfl ?_
        refine PWl.step (LR.extract rfl rfl) rfl ?_
        refine PWl.step (LR.assign rfl) rfl ?_
        refine PWl.step (LR.assign rfl) rfl ?_
        refine PWl.nil ?_
        refine PWc.seq ?_
        refine PWc.jn (iBind h) (fun (v37 : Bool) (_ : Unit) => ⟨71, [(4, .d (.v (.bool v37)))], []⟩) (fun h => ?_) ?_
        · refine PWc.region ?_
          refine PWl.step (LR.move rfl) rfl ?_
          refine PWl.step (LR.move rfl) rfl ?_
          replace h := iDet h
          obtain ⟨v38, hy39, h⟩ := h
          refine PWl.step (LR.callN (r09_Eq_ok v33.1 v35.1 v38 hy39) rfl Tryz.call9 rfl rfl rfl rfl) rfl ?_
          refine PWl.step (LR.move rfl) rfl ?_
          refine PWl.split (d := 63) rfl (fun hg40 => ?_) (fun hg40 => ?_)
          · replace h := iT hg40 h
            refine PWl.re (tl := [(8, _), (10, _), (63, _)]) (to := []) rfl (.cons rfl rfl <| .cons rfl rfl <| .cons rfl rfl <| .nil) (.nil) ?_
            refine PWl.guardT (LR.move rfl) rfl rfl rfl ?_
            refine PWl.guardT (LR.move rfl) rfl rfl rfl ?_
            refine PWl.guardT (LR.eql rfl rfl) rfl rfl rfl ?_
            refine PWl.step (LR.pickT rfl rfl) rfl ?_
            refine PWl.step (LR.move rfl) rfl ?_
            refine PWl.split (d := 68) rfl (fun hg41 => ?_) (fun hg41 => ?_)
            · replace h := iT hg41 h
              replace h := iDet h
              obtain ⟨v42, hy43, h⟩ := h
              refine PWl.guardT (LR.callN (l15_works_ok v42 hy43) rfl Tryz.call41 rfl rfl rfl rfl) rfl rfl rfl ?_
              refine PWl.step (LR.pickT rfl rfl) rfl ?_
              refine PWl.step (LR.assign rfl) rfl ?_
              refine PWl.nil ?_
              exact ⟨v42, (), h, Sub.of rfl (.cons rfl rfl <| .nil) (.nil)⟩
            · replace h := iF hg41 h
              refine PWl.guardF rfl rfl rfl (by decide) ?_
              refine PWl.step (LR.pickF rfl rfl) rfl ?_
              refine PWl.step (LR.assign rfl) rfl ?_
              refine PWl.nil ?_
              exact ⟨false, (), h, Sub.of rfl (.cons rfl rfl <| .nil) (.nil)⟩
          · replace h := iF hg40 h
            refine PWl.re (tl := [(8, _), (10, _), (63, _)]) (to := []) rfl (.cons rfl rfl <| .cons rfl rfl <| .cons rfl rfl <| .nil) (.nil) ?_
            refine PWl.guardF rfl rfl rfl (by decide) ?_
            refine PWl.guardF rfl rfl rfl (by decide) ?_
            refine PWl.guardF rfl rfl rfl (by decide) ?_
            refine PWl.step (LR.pickF rfl rfl) rfl ?_
            refine PWl.step (LR.move rfl) rfl ?_
            refine PWl.guardF rfl rfl rfl (by decide) ?_
            refine PWl.step (LR.pickF rfl rfl) rfl ?_
            refine PWl.step (LR.assign rfl) rfl ?_
            refine PWl.nil ?_
            exact ⟨false, (), h, Sub.of rfl (.cons rfl rfl <| .nil) (.nil)⟩
        · rintro v37 _ h
          refine PWc.ret ?_
          replace h : _ = r0 := h
          subst h
          exact ⟨.inr rfl, _, .cons (.tmp rfl rfl) <| .nil, rfl⟩
end Go.Proofs

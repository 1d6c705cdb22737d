/- Walks: written by program. -/
import Derived.Test.YtacnidaafcfgiaaGreatDFc
import Derived.Test.YtacnidaafcfgiaaGreatDSh
import Derived.Test.YtacnidaafcfgiaaGreatDSx
import Derived.Test.YtacnidaafcfgiaaGreatTl
import Derived.Test.YtacnidaafcfgiaaGreatSr
import Derived.Test.YtacnidaafcfgiaaGreatDr
import Derived.Test.YtacnidaafcfgiaaGreatOb
import Derived.Test.YtacnidaafcfgiaaGreatOe
import Derived.Test.YtacnidaafcfgiaaGreatLs
import Derived.Test.YtacnidaafcfgiaaGreatTl
import Derived.Test.YtacnidaafcfgiaaGreatStr
import Derived.Test.YtacnidaafcfgiaaGreatPc
import Derived.Test.YtacnidaafcfgiaaGreatDW4
namespace Go.Proofs
open Go.Ep
set_option maxHeartbeats 1000000
set_option maxRecDepth 100000
set_option linter.unusedVariables false
set_option linter.unusedSimpArgs false


theorem pack_New_o_ok (b1 : List Int) (r0 : List Int × Int) (h : (pack_New_o b1).wp (· = r0)) : PObj Tryz.prog 42 [.d (.sl (List.map (eK .u8) b1))] [] [] (.ref 7 0) (fun _ : Unit => [(7, .cells 97 [.d (.sl (List.map (eK .u8) r0.1)), .d (.v (.int .i64 r0.2))])]) := by
  refine PObj.intro (sl := [(0, _)]) Tryz.func42 rfl Tryz.ntmps42 rfl rfl rfl ?_
  intro ctx hK pv
  refine PWc.seq ?_
  refine PWc.region ?_
  refine PWl.step (LR.assign rfl) rfl ?_
  refine PWl.nil ?_
  refine PWc.seq ?_
  refine PWc.region ?_
  refine PWl.step (LR.move rfl) rfl ?_
  replace h := iNeed h
  obtain ⟨hy2, h⟩ := h
  refine PWl.step (LR.appNilT (enc := (eK .u8)) (R := b1) elem48 Tryz.underlying48 rfl (Src.slT (enc := (eK .u8)) (R := b1) rfl (fun _ => rfl)) (fun _ => rfl) hy2 rfl rfl) rfl ?_
  refine PWl.frz [4] hK (.cons rfl <| .nil) rfl (by simp) ?_
  refine PWl.step (LR.build (ns := [_]) build95 rfl rfl rfl) rfl ?_
  refine PWl.step (LR.build (ns := [_, _]) build97 rfl rfl rfl) rfl ?_
  refine PWl.step (LR.box rfl rfl rfl rfl) rfl ?_
  refine PWl.step (LR.assign rfl) rfl ?_
  refine PWl.nil ?_
  refine PWc.ret ?_
  replace h : _ = r0 := h
  subst h
  exact EndsO.mk () (.inr rfl) (Sub.of (tl := [(2, _)]) (to := [(7, _)]) rfl (.cons rfl rfl <| .nil) (.cons rfl rfl <| .nil)) (.cons (.tmp rfl) <| .nil) rfl rfl

theorem pack_Reader_Err_o_ok (b_1 : List Int) (bad_2 : Int) (r0 : Int × List Int × Int) (h : (pack_Reader_Err_o b_1 bad_2).wp (· = r0)) : PObj Tryz.prog 83 [.ref 100 0] [(100, .cells 97 [.d (.sl (List.map (eK .u8) b_1)), .d (.v (.int .i64 bad_2))])] [100] (.d (.v (.int .i64 r0.1))) (fun _ : Unit => [(100, .cells 97 [.d (.sl (List.map (eK .u8) r0.2.1)), .d (.v (.int .i64 r0.2.2))])]) := by
  refine PObj.intro (sl := [(0, _)]) Tryz.func83 rfl Tryz.ntmps83 rfl rfl rfl ?_
  intro ctx hK pv
  refine PWc.seq ?_
  refine PWc.region ?_
  refine PWl.step (LR.assign rfl) rfl ?_
  refine PWl.nil ?_
  refine PWc.seq ?_
  refine PWc.seq ?_
  refine PWc.region ?_
  refine PWl.step (LR.move rfl) rfl ?_
  refine PWl.step (LR.eqlPtr Tryz.underlying49 rfl) rfl ?_
  refine PWl.nil ?_
  refine PWc.condF rfl ?_
  refine PWc.skip ?_
  refine PWc.seq ?_
  refine PWc.region ?_
  refine PWl.step (LR.move rfl) rfl ?_
  refine PWl.step (LR.nilCheckRef rfl) rfl ?_
  refine PWl.step (LR.fieldRef Tryz.underlying97 rfl Tryz.sizeOf60 (by decide) rfl rfl) rfl ?_
  refine PWl.step (LR.loadRef Tryz.isAgg60 rfl rfl rfl) rfl ?_
  refine PWl.step (LR.assign rfl) rfl ?_
  refine PWl.nil ?_
  refine PWc.ret ?_
  replace h : _ = r0 := h
  subst h
  exact EndsO.mk () (.inr rfl) (Sub.of (tl := [(2, _)]) (to := [(100, _), (1100, _)]) rfl (.cons rfl rfl <| .nil) (.cons rfl rfl <| .cons rfl rfl <| .nil)) (.cons (.tmp rfl) <| .nil) rfl rfl

theorem pack_Reader_Fail_o_ok (e1 : Int) (b_2 : List Int) (bad_3 : Int) (r0 : List Int × Int) (h : (pack_Reader_Fail_o e1 b_2 bad_3).wp (· = r0)) : PObj Tryz.prog 82 [.ref 100 0, .d (.v (.int .i64 e1))] [(100, .cells 97 [.d (.sl (List.map (eK .u8) b_2)), .d (.v (.int .i64 bad_3))])] [100] (.tup []) (fun _ : Unit => [(100, .cells 97 [.d (.sl (List.map (eK .u8) r0.1)), .d (.v (.int .i64 r0.2))])]) := by
  refine PObj.intro (sl := [(0, _), (1, _)]) Tryz.func82 rfl Tryz.ntmps82 rfl rfl rfl ?_
  intro ctx hK pv
  refine PWc.seq ?_
  refine PWc.jn (iBind h) (fun (v4 : Bool) (_ : Unit) => ⟨25, [(0, .ref 100 0), (1, .d (.v (.int .i64 e1))), (16, .d (.v (.bool v4)))], [(100, .cells 97 [.d (.sl (List.map (eK .u8) b_2)), .d (.v (.int .i64 bad_3))]), (1100, .pin 100 (pv 100).1 (pv 100).2)]⟩) (fun h => ?_) ?_
  · refine PWc.region ?_
    refine PWl.step (LR.move rfl) rfl ?_
    refine PWl.step (LR.neqPtr Tryz.underlying49 rfl) rfl ?_
    refine PWl.step (LR.move rfl) rfl ?_
    refine PWl.guardT (LR.move rfl) rfl rfl rfl ?_
    refine PWl.guardT (LR.nilCheckRef rfl) rfl rfl rfl ?_
    refine PWl.guardT (LR.fieldRef Tryz.underlying97 rfl Tryz.sizeOf60 (by decide) rfl rfl) rfl rfl rfl ?_
    refine PWl.guardT (LR.loadRef Tryz.isAgg60 rfl rfl rfl) rfl rfl rfl ?_
    refine PWl.guardT (LR.eql rfl rfl) rfl rfl rfl ?_
    refine PWl.step (LR.pickT rfl rfl) rfl ?_
    refine PWl.step (LR.move rfl) rfl ?_
    refine PWl.split (d := 13) rfl (fun hg5 => ?_) (fun hg5 => ?_)
    · replace h := iT hg5 h
      refine PWl.guardT (LR.move rfl) rfl rfl rfl ?_
      refine PWl.guardT (LR.neq rfl rfl) rfl rfl rfl ?_
      refine PWl.step (LR.pickT rfl rfl) rfl ?_
      refine PWl.nil ?_
      exact ⟨(!decide (e1 = 0)), (), h, Sub.of rfl (.cons rfl rfl <| .cons rfl rfl <| .cons rfl rfl <| .nil) (.cons rfl rfl <| .cons rfl rfl <| .nil)⟩
    · replace h := iF hg5 h
      refine PWl.guardF rfl rfl rfl (by decide) ?_
      refine PWl.guardF rfl rfl rfl (by decide) ?_
      refine PWl.step (LR.pickF rfl rfl) rfl ?_
      refine PWl.nil ?_
      exact ⟨false, (), h, Sub.of rfl (.cons rfl rfl <| .cons rfl rfl <| .cons rfl rfl <| .nil) (.cons rfl rfl <| .cons rfl rfl <| .nil)⟩
  · rintro v4 _ h
    refine PWc.cond rfl (fun hc6 => ?_) (fun hc6 => ?_)
    · replace h := iT hc6 h
      refine PWc.region ?_
      refine PWl.step (LR.move rfl) rfl ?_
      refine PWl.step (LR.move rfl) rfl ?_
      refine PWl.step (LR.move rfl) rfl ?_
      refine PWl.step (LR.nilCheckRef rfl) rfl ?_
      refine PWl.step (LR.fieldRef Tryz.underlying97 rfl Tryz.sizeOf60 (by decide) rfl rfl) rfl ?_
      refine PWl.step (LR.storeB (ns := [_, _]) Tryz.sizeOf60 rfl rfl rfl rfl rfl rfl rfl) rfl ?_
      refine PWl.step (LR.nilCheckRef rfl) rfl ?_
      refine PWl.step (LR.fieldRef Tryz.underlying97 rfl Tryz.sizeOf95 (by decide) rfl rfl) rfl ?_
      refine PWl.step (LR.fieldRef Tryz.underlying95 rfl Tryz.sizeOf48 (by decide) rfl rfl) rfl ?_
      refine PWl.step (LR.storeB (ns := [_, _]) Tryz.sizeOf48 rfl rfl rfl rfl rfl rfl rfl) rfl ?_
      refine PWl.sub (Sub.nilCell (id := 100) (j := 0) rfl rfl) ?_
      refine PWl.nil ?_
      replace h : _ = r0 := h
      subst h
      exact EndsO.mk () (.inl rfl) (Sub.of (tl := []) (to := [(100, _), (1100, _)]) rfl (.nil) (.cons rfl rfl <| .cons rfl rfl <| .nil)) (.nil) rfl rfl
    · replace h := iF hc6 h
      refine PWc.skip ?_
      replace h : _ = r0 := h
      subst h
      exact EndsO.mk () (.inl rfl) (Sub.of (tl := []) (to := [(100, _), (1100, _)]) rfl (.nil) (.cons rfl rfl <| .cons rfl rfl <| .nil)) (.nil) rfl rfl

theorem pack_rest_take_o_ok (n1 : Int) (b_2 : List Int) (bad_3 : Int) (r0 : List Int × List Int × Int) (h : (pack_rest_take_o n1 b_2 bad_3).wp (· = r0)) : PObj Tryz.prog 118 [.ref 100 0, .d (.v (.int .i64 n1))] [(100, .cells 97 [.d (.sl (List.map (eK .u8) b_2)), .d (.v (.int .i64 bad_3))])] [100] (.d (.sl (List.map (eK .u8) r0.1))) (fun _ : Unit => [(100, .cells 97 [.d (.sl (List.map (eK .u8) r0.2.1)), .d (.v (.int .i64 r0.2.2))])]) := by
  refine PObj.intro (sl := [(0, _), (1, _)]) Tryz.func118 rfl Tryz.ntmps118 rfl rfl rfl ?_
  intro ctx hK pv
  refine PWc.seq ?_
  refine PWc.region ?_
  refine PWl.step (LR.assignNilRow 5 1 rfl) rfl ?_
  refine PWl.nil ?_
  refine PWc.seq ?_
  refine PWc.region ?_
  refine PWl.step (LR.move rfl) rfl ?_
  refine PWl.step (LR.nilCheckRef rfl) rfl ?_
  refine PWl.step (LR.fieldRef Tryz.underlying95 rfl Tryz.sizeOf48 (by decide) rfl rfl) rfl ?_
  refine PWl.step (LR.loadRef Tryz.isAgg48 rfl rfl rfl) rfl ?_
  refine PWl.step (LR.move rfl) rfl ?_
  replace h := iNeed h
  obtain ⟨hy4, h⟩ := h
  refine PWl.step (LR.cutHT (enc := (eK .u8)) (L := b_2) Tryz.underlying48 Tryz.sizeOf5 rfl (fun _ => rfl) rfl hy4) rfl ?_
  refine PWl.step (LR.assign rfl) rfl ?_
  refine PWl.nil ?_
  refine PWc.seq ?_
  refine PWc.region ?_
  refine PWl.step (LR.move rfl) rfl ?_
  refine PWl.step (LR.move rfl) rfl ?_
  refine PWl.step (LR.nilCheckRef rfl) rfl ?_
  refine PWl.step (LR.fieldRef Tryz.underlying95 rfl Tryz.sizeOf48 (by decide) rfl rfl) rfl ?_
  refine PWl.step (LR.loadRef Tryz.isAgg48 rfl rfl rfl) rfl ?_
  refine PWl.step (LR.move rfl) rfl ?_
  replace h := iNeed h
  obtain ⟨hy5, h⟩ := h
  refine PWl.step (LR.cutLT (enc := (eK .u8)) (L := b_2) Tryz.underlying48 Tryz.sizeOf5 rfl (fun _ => rfl) rfl hy5) rfl ?_
  refine PWl.step (LR.nilCheckRef rfl) rfl ?_
  refine PWl.step (LR.fieldRef Tryz.underlying95 rfl Tryz.sizeOf48 (by decide) rfl rfl) rfl ?_
  refine PWl.step (LR.storeB (ns := [_, _]) Tryz.sizeOf48 rfl rfl rfl rfl rfl rfl rfl) rfl ?_
  refine PWl.nil ?_
  refine PWc.seq ?_
  refine PWc.region ?_
  refine PWl.step (LR.move rfl) rfl ?_
  refine PWl.re (tl := [(0, _), (1, _), (5, _), (6, _), (7, _), (8, _), (9, _), (10, _), (11, _), (12, _), (13, _), (14, _), (15, _), (16, _), (17, _), (18, _), (19, _), (20, _), (21, _)]) (to := [(100, _), (1100, _)]) rfl (.cons rfl rfl <| .cons rfl rfl <| .cons rfl rfl <| .cons rfl rfl <| .cons rfl rfl <| .cons rfl rfl <| .cons rfl rfl <| .cons rfl rfl <| .cons rfl rfl <| .cons rfl rfl <| .cons rfl rfl <| .cons rfl rfl <| .cons rfl rfl <| .cons rfl rfl <| .cons rfl rfl <| .cons rfl rfl <| .cons rfl rfl <| .cons rfl rfl <| .cons rfl rfl <| .nil) (.cons rfl rfl <| .cons rfl rfl <| .nil) ?_
  refine PWl.step (LR.assign rfl) rfl ?_
  refine PWl.nil ?_
  refine PWc.ret ?_
  replace h : _ = r0 := h
  subst h
  exact EndsO.mk () (.inr rfl) (Sub.of (tl := [(4, _)]) (to := [(100, _), (1100, _)]) rfl (.cons rfl rfl <| .nil) (.cons rfl rfl <| .cons rfl rfl <| .nil)) (.cons (.tmp rfl) <| .nil) rfl rfl

theorem pack_Reader_Num_o_ok (b_1 : List Int) (bad_2 : Int) (r0 : Int × List Int × Int) (h : (pack_Reader_Num_o b_1 bad_2).wp (· = r0)) : PObj Tryz.prog 81 [.ref 100 0] [(100, .cells 97 [.d (.sl (List.map (eK .u8) b_1)), .d (.v (.int .i64 bad_2))])] [100] (.d (.v (.int .u64 r0.1))) (fun _ : Unit => [(100, .cells 97 [.d (.sl (List.map (eK .u8) r0.2.1)), .d (.v (.int .i64 r0.2.2))])]) := by
  refine PObj.intro (sl := [(0, _)]) Tryz.func81 rfl Tryz.ntmps81 rfl rfl rfl ?_
  intro ctx hK pv
  refine PWc.seq ?_
  refine PWc.region ?_
  refine PWl.step (LR.assign rfl) rfl ?_
  refine PWl.nil ?_
  refine PWc.seq ?_
  refine PWc.seq ?_
  refine PWc.region ?_
  refine PWl.step (LR.move rfl) rfl ?_
  replace h := iDet h
  obtain ⟨y3, hy4, h⟩ := h
  refine PWl.step (LR.callObj [(100, 100)] [] [100] (pack_Reader_Err_o_ok b_1 bad_2 y3 hy4) hK rfl Tryz.call83 rfl (by first | rfl | (simp; done) | (simp [PV.nilD, PV.ren, rn]; omega)) (.cons (by first | rfl | (congr 1; first | (simp; done) | (simp; omega))) <| .nil) rfl rfl rfl rfl) rfl ?_
  refine PWl.step (LR.neq rfl rfl) rfl ?_
  refine PWl.nil ?_
  refine PWc.cond rfl (fun hc5 => ?_) (fun hc5 => ?_)
  · replace h := iT hc5 h
    refine PWc.seq ?_
    refine PWc.re (tl := []) (to := [(100, _), (1100, _)]) rfl (.nil) (.cons rfl rfl <| .cons rfl rfl <| .nil) ?_
    refine PWc.region ?_
    refine PWl.step (LR.assign rfl) rfl ?_
    refine PWl.nil ?_
    refine PWc.ret ?_
    replace h : _ = r0 := h
    subst h
    exact EndsO.mk () (.inr rfl) (Sub.of (tl := [(2, _)]) (to := [(100, _), (1100, _)]) rfl (.cons rfl rfl <| .nil) (.cons rfl rfl <| .cons rfl rfl <| .nil)) (.cons (.tmp rfl) <| .nil) rfl rfl
  · replace h := iF hc5 h
    refine PWc.skip ?_
    refine PWc.seq ?_
    refine PWc.re (tl := [(0, _)]) (to := [(100, _), (1100, _)]) rfl (.cons rfl rfl <| .nil) (.cons rfl rfl <| .cons rfl rfl <| .nil) ?_
    refine PWc.region ?_
    refine PWl.step (LR.move rfl) rfl ?_
    refine PWl.step (LR.nilCheckRef rfl) rfl ?_
    refine PWl.step (LR.fieldRef Tryz.underlying97 rfl Tryz.sizeOf95 (by decide) rfl rfl) rfl ?_
    refine PWl.step (LR.fieldRef Tryz.underlying95 rfl Tryz.sizeOf48 (by decide) rfl rfl) rfl ?_
    refine PWl.step (LR.loadRef Tryz.isAgg48 rfl rfl rfl) rfl ?_
    replace h := iDet h
    obtain ⟨v6, hy7, h⟩ := h
    refine PWl.step (LR.callN (num_Read_ok y3.2.1 0 v6 hy7) rfl Tryz.call117 rfl rfl rfl rfl) rfl ?_
    refine PWl.step (LR.move rfl) rfl ?_
    refine PWl.step (LR.extract rfl rfl) rfl ?_
    refine PWl.step (LR.extract rfl rfl) rfl ?_
    refine PWl.step (LR.extract rfl rfl) rfl ?_
    refine PWl.step (LR.assign rfl) rfl ?_
    refine PWl.step (LR.assign rfl) rfl ?_
    refine PWl.step (LR.assign rfl) rfl ?_
    refine PWl.nil ?_
    refine PWc.seq ?_
    refine PWc.seq ?_
    refine PWc.region ?_
    refine PWl.step (LR.move rfl) rfl ?_
    refine PWl.step (LR.neq rfl rfl) rfl ?_
    refine PWl.nil ?_
    refine PWc.cond rfl (fun hc8 => ?_) (fun hc8 => ?_)
    · replace h := iT hc8 h
      refine PWc.seq ?_
      refine PWc.region ?_
      refine PWl.step (LR.move rfl) rfl ?_
      refine PWl.step (LR.move rfl) rfl ?_
      replace h := iDet h
      obtain ⟨y9, hy10, h⟩ := h
      refine PWl.step (LR.callObj [(100, 100)] [] [100] (pack_Reader_Fail_o_ok v6.2.2 y3.2.1 y3.2.2 y9 hy10) hK rfl Tryz.call82 rfl (by first | rfl | (simp; done) | (simp [PV.nilD, PV.ren, rn]; omega)) (.cons (by first | rfl | (congr 1; first | (simp; done) | (simp; omega))) <| .nil) rfl rfl rfl rfl) rfl ?_
      refine PWl.nil ?_
      refine PWc.seq ?_
      refine PWc.re (tl := []) (to := [(100, _), (1100, _)]) rfl (.nil) (.cons rfl rfl <| .cons rfl rfl <| .nil) ?_
      refine PWc.region ?_
      refine PWl.step (LR.assign rfl) rfl ?_
      refine PWl.nil ?_
      refine PWc.ret ?_
      replace h : _ = r0 := h
      subst h
      exact EndsO.mk () (.inr rfl) (Sub.of (tl := [(2, _)]) (to := [(100, _), (1100, _)]) rfl (.cons rfl rfl <| .nil) (.cons rfl rfl <| .cons rfl rfl <| .nil)) (.cons (.tmp rfl) <| .nil) rfl rfl
    · replace h := iF hc8 h
      refine PWc.skip ?_
      refine PWc.seq ?_
      refine PWc.region ?_
      refine PWl.step (LR.move rfl) rfl ?_
      refine PWl.step (LR.nilCheckRef rfl) rfl ?_
      refine PWl.step (LR.fieldRef Tryz.underlying97 rfl Tryz.sizeOf95 (by decide) rfl rfl) rfl ?_
      refine PWl.step (LR.move rfl) rfl ?_
      replace h := iDet h
      obtain ⟨y11, hy12, h⟩ := h
      refine PWl.step (LR.callObj [(100, 100)] [] [100] (pack_rest_take_o_ok v6.2.1 y3.2.1 y3.2.2 y11 hy12) hK rfl Tryz.call118 rfl (by first | rfl | (simp; done) | (simp [PV.nilD, PV.ren, rn]; omega)) (.cons (by first | rfl | (congr 1; first | (simp; done) | (simp; omega))) <| .nil) rfl rfl rfl rfl) rfl ?_
      refine PWl.nil ?_
      refine PWc.seq ?_
      refine PWc.re (tl := [(3, _)]) (to := [(100, _), (1100, _)]) rfl (.cons rfl rfl <| .nil) (.cons rfl rfl <| .cons rfl rfl <| .nil) ?_
      refine PWc.region ?_
      refine PWl.step (LR.move rfl) rfl ?_
      refine PWl.step (LR.assign rfl) rfl ?_
      refine PWl.nil ?_
      refine PWc.ret ?_
      replace h : _ = r0 := h
      subst h
      exact EndsO.mk () (.inr rfl) (Sub.of (tl := [(2, _)]) (to := [(100, _), (1100, _)]) rfl (.cons rfl rfl <| .nil) (.cons rfl rfl <| .cons rfl rfl <| .nil)) (.cons (.tmp rfl) <| .nil) rfl rfl

theorem pack_Reader_Upto_o_ok (most1 : Int) (b_2 : List Int) (bad_3 : Int) (r0 : Int × List Int × Int) (h : (pack_Reader_Upto_o most1 b_2 bad_3).wp (· = r0)) : PObj Tryz.prog 80 [.ref 100 0, .d (.v (.int .u64 most1))] [(100, .cells 97 [.d (.sl (List.map (eK .u8) b_2)), .d (.v (.int .i64 bad_3))])] [100] (.d (.v (.int .u64 r0.1))) (fun _ : Unit => [(100, .cells 97 [.d (.sl (List.map (eK .u8) r0.2.1)), .d (.v (.int .i64 r0.2.2))])]) := by
  refine PObj.intro (sl := [(0, _), (1, _)]) Tryz.func80 rfl Tryz.ntmps80 rfl rfl rfl ?_
  intro ctx hK pv
  refine PWc.seq ?_
  refine PWc.region ?_
  refine PWl.step (LR.assign rfl) rfl ?_
  refine PWl.nil ?_
  refine PWc.seq ?_
  refine PWc.region ?_
  refine PWl.step (LR.move rfl) rfl ?_
  replace h := iDet h
  obtain ⟨y4, hy5, h⟩ := h
  refine PWl.step (LR.callObj [(100, 100)] [] [100] (pack_Reader_Num_o_ok b_2 bad_3 y4 hy5) hK rfl Tryz.call81 rfl (by first | rfl | (simp; done) | (simp [PV.nilD, PV.ren, rn]; omega)) (.cons (by first | rfl | (congr 1; first | (simp; done) | (simp; omega))) <| .nil) rfl rfl rfl rfl) rfl ?_
  refine PWl.step (LR.assign rfl) rfl ?_
  refine PWl.nil ?_
  refine PWc.seq ?_
  refine PWc.seq ?_
  refine PWc.re (tl := [(0, _), (1, _), (5, _)]) (to := [(100, _), (1100, _)]) rfl (.cons rfl rfl <| .cons rfl rfl <| .cons rfl rfl <| .nil) (.cons rfl rfl <| .cons rfl rfl <| .nil) ?_
  refine PWc.region ?_
  refine PWl.step (LR.move rfl) rfl ?_
  refine PWl.step (LR.move rfl) rfl ?_
  refine PWl.step (LR.gtr rfl rfl) rfl ?_
  refine PWl.nil ?_
  refine PWc.cond rfl (fun hc6 => ?_) (fun hc6 => ?_)
  · replace h := iT hc6 h
    refine PWc.seq ?_
    refine PWc.region ?_
    refine PWl.step (LR.move rfl) rfl ?_
    replace h := iDet h
    obtain ⟨y7, hy8, h⟩ := h
    refine PWl.step (LR.callObj [(100, 100)] [] [100] (pack_Reader_Fail_o_ok 4 y4.2.1 y4.2.2 y7 hy8) hK rfl Tryz.call82 rfl (by first | rfl | (simp; done) | (simp [PV.nilD, PV.ren, rn]; omega)) (.cons (by first | rfl | (congr 1; first | (simp; done) | (simp; omega))) <| .nil) rfl rfl rfl rfl) rfl ?_
    refine PWl.nil ?_
    refine PWc.seq ?_
    refine PWc.re (tl := []) (to := [(100, _), (1100, _)]) rfl (.nil) (.cons rfl rfl <| .cons rfl rfl <| .nil) ?_
    refine PWc.region ?_
    refine PWl.step (LR.assign rfl) rfl ?_
    refine PWl.nil ?_
    refine PWc.ret ?_
    replace h : _ = r0 := h
    subst h
    exact EndsO.mk () (.inr rfl) (Sub.of (tl := [(4, _)]) (to := [(100, _), (1100, _)]) rfl (.cons rfl rfl <| .nil) (.cons rfl rfl <| .cons rfl rfl <| .nil)) (.cons (.tmp rfl) <| .nil) rfl rfl
  · replace h := iF hc6 h
    refine PWc.skip ?_
    refine PWc.seq ?_
    refine PWc.region ?_
    refine PWl.step (LR.move rfl) rfl ?_
    refine PWl.step (LR.assign rfl) rfl ?_
    refine PWl.nil ?_
    refine PWc.ret ?_
    replace h : _ = r0 := h
    subst h
    exact EndsO.mk () (.inr rfl) (Sub.of (tl := [(4, _)]) (to := [(100, _), (1100, _)]) rfl (.cons rfl rfl <| .nil) (.cons rfl rfl <| .cons rfl rfl <| .nil)) (.cons (.tmp rfl) <| .nil) rfl rfl
end Go.Proofs

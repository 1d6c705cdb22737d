/- Walks: written by program. -/
import Derived.Test.YtdipflebhoodkaaFc
import Derived.Test.YtdipflebhoodkaaSh
import Derived.Test.YtdipflebhoodkaaSx
import Derived.Test.YtdipflebhoodkaaW0
namespace Go.Proofs
open Go.Ep
set_option maxHeartbeats 1000000
set_option maxRecDepth 100000
set_option linter.unusedVariables false
set_option linter.unusedSimpArgs false


theorem cmp_isNaN_uint64_ok (x1 : Int) (r0 : Bool) (h : (cmp_isNaN_uint64 x1).wp (· = r0)) : PFun Try.prog 127 [.d (.v (.int .u64 x1))] (.d (.v (.bool r0))) := by
  refine PFun.intro (sl := [(0, _)]) Try.func127 rfl Try.ntmps127 rfl rfl ?_
  intro ctx hK
  refine PWc.seq ?_
  refine PWc.region ?_
  refine PWl.step (LR.assign rfl) rfl ?_
  refine PWl.nil ?_
  refine PWc.seq ?_
  refine PWc.region ?_
  refine PWl.step (LR.move rfl) rfl ?_
  refine PWl.step (LR.move rfl) rfl ?_
  refine PWl.step (LR.neq rfl rfl) rfl ?_
  refine PWl.step (LR.assign rfl) rfl ?_
  refine PWl.nil ?_
  refine PWc.ret ?_
  replace h : _ = r0 := h
  subst h
  exact ⟨.inr rfl, _, .cons (.tmp rfl rfl) <| .nil, rfl⟩

theorem cmp_Compare_uint64_ok (x1 : Int) (y2 : Int) (r0 : Int) (h : (cmp_Compare_uint64 x1 y2).wp (· = r0)) : PFun Try.prog 108 [.d (.v (.int .u64 x1)), .d (.v (.int .u64 y2))] (.d (.v (.int .i64 r0))) := by
  refine PFun.intro (sl := [(0, _), (1, _)]) Try.func108 rfl Try.ntmps108 rfl rfl ?_
  intro ctx hK
  refine PWc.seq ?_
  refine PWc.region ?_
  refine PWl.step (LR.assign rfl) rfl ?_
  refine PWl.nil ?_
  refine PWc.seq ?_
  refine PWc.region ?_
  refine PWl.step (LR.move rfl) rfl ?_
  replace h := iDet h
  obtain ⟨v3, hy4, h⟩ := h
  refine PWl.step (LR.callN (cmp_isNaN_uint64_ok x1 v3 hy4) rfl Try.call127 rfl rfl rfl rfl) rfl ?_
  refine PWl.step (LR.assign rfl) rfl ?_
  refine PWl.nil ?_
  refine PWc.seq ?_
  refine PWc.region ?_
  refine PWl.step (LR.move rfl) rfl ?_
  replace h := iDet h
  obtain ⟨v5, hy6, h⟩ := h
  refine PWl.step (LR.callN (cmp_isNaN_uint64_ok y2 v5 hy6) rfl Try.call127 rfl rfl rfl rfl) rfl ?_
  refine PWl.step (LR.assign rfl) rfl ?_
  refine PWl.nil ?_
  refine PWc.seq ?_
  refine PWc.seq ?_
  refine PWc.region ?_
  refine PWl.step (LR.move rfl) rfl ?_
  refine PWl.nil ?_
  refine PWc.cond rfl (fun hc7 => ?_) (fun hc7 => ?_)
  · replace h := iT hc7 h
    refine PWc.seq ?_
    refine PWc.seq ?_
    refine PWc.region ?_
    refine PWl.step (LR.move rfl) rfl ?_
    refine PWl.nil ?_
    refine PWc.cond rfl (fun hc8 => ?_) (fun hc8 => ?_)
    · replace h := iT hc8 h
      refine PWc.seq ?_
      refine PWc.region ?_
      refine PWl.step (LR.assign rfl) rfl ?_
      refine PWl.nil ?_
      refine PWc.ret ?_
      replace h : _ = r0 := h
      subst h
      exact ⟨.inr rfl, _, .cons (.tmp rfl rfl) <| .nil, rfl⟩
    · replace h := iF hc8 h
      refine PWc.skip ?_
      refine PWc.seq ?_
      refine PWc.region ?_
      refine PWl.step (LR.assign rfl) rfl ?_
      refine PWl.nil ?_
      refine PWc.ret ?_
      replace h : _ = r0 := h
      subst h
      exact ⟨.inr rfl, _, .cons (.tmp rfl rfl) <| .nil, rfl⟩
  · replace h := iF hc7 h
    refine PWc.skip ?_
    refine PWc.seq ?_
    refine PWc.seq ?_
    refine PWc.region ?_
    refine PWl.step (LR.move rfl) rfl ?_
    refine PWl.nil ?_
    refine PWc.cond rfl (fun hc9 => ?_) (fun hc9 => ?_)
    · replace h := iT hc9 h
      refine PWc.seq ?_
      refine PWc.region ?_
      refine PWl.step (LR.assign rfl) rfl ?_
      refine PWl.nil ?_
      refine PWc.ret ?_
      replace h : _ = r0 := h
      subst h
      exact ⟨.inr rfl, _, .cons (.tmp rfl rfl) <| .nil, rfl⟩
    · replace h := iF hc9 h
      refine PWc.skip ?_
      refine PWc.seq ?_
      refine PWc.seq ?_
      refine PWc.region ?_
      refine PWl.step (LR.move rfl) rfl ?_
      refine PWl.step (LR.move rfl) rfl ?_
      refine PWl.step (LR.lss rfl rfl) rfl ?_
      refine PWl.nil ?_
      refine PWc.cond rfl (fun hc10 => ?_) (fun hc10 => ?_)
      · replace h := iT hc10 h
        refine PWc.seq ?_
        refine PWc.region ?_
        refine PWl.step (LR.assign rfl) rfl ?_
        refine PWl.nil ?_
        refine PWc.ret ?_
        replace h : _ = r0 := h
        subst h
        exact ⟨.inr rfl, _, .cons (.tmp rfl rfl) <| .nil, rfl⟩
      · replace h := iF hc10 h
        refine PWc.skip ?_
        refine PWc.seq ?_
        refine PWc.seq ?_
        refine PWc.region ?_
        refine PWl.step (LR.move rfl) rfl ?_
        refine PWl.step (LR.move rfl) rfl ?_
        refine PWl.step (LR.gtr rfl rfl) rfl ?_
        refine PWl.nil ?_
        refine PWc.cond rfl (fun hc11 => ?_) (fun hc11 => ?_)
        · replace h := iT hc11 h
          refine PWc.seq ?_
          refine PWc.region ?_
          refine PWl.step (LR.assign rfl) rfl ?_
          refine PWl.nil ?_
          refine PWc.ret ?_
          replace h : _ = r0 := h
          subst h
          exact ⟨.inr rfl, _, .cons (.tmp rfl rfl) <| .nil, rfl⟩
        · replace h := iF hc11 h
          refine PWc.skip ?_
          refine PWc.seq ?_
          refine PWc.region ?_
          refine PWl.step (LR.assign rfl) rfl ?_
          refine PWl.nil ?_
          refine PWc.ret ?_
          replace h : _ = r0 := h
          subst h
          exact ⟨.inr rfl, _, .cons (.tmp rfl rfl) <| .nil, rfl⟩

theorem dot_Cmp_ok (a1 : TDot) (b2 : TDot) (r0 : Int) (h : (dot_Cmp a1 b2).wp (· = r0)) : PFun Try.prog 123 [.agg (List.map .d (TDot.e a1)), .agg (List.map .d (TDot.e b2))] (.d (.v (.int .i64 r0))) := by
  refine PFun.intro (sl := [(0, _), (1, _)]) Try.func123 rfl Try.ntmps123 rfl rfl ?_
  intro ctx hK
  refine PWc.seq ?_
  refine PWc.region ?_
  refine PWl.step (LR.box rfl rfl rfl rfl) rfl ?_
  refine PWl.step (LR.box rfl rfl rfl rfl) rfl ?_
  refine PWl.step (LR.assign rfl) rfl ?_
  refine PWl.nil ?_
  refine PWc.seq ?_
  refine PWc.seq ?_
  refine PWc.region ?_
  refine PWl.step (LR.fieldRef Try.underlying70 rfl Try.sizeOf46 (by decide) rfl rfl) rfl ?_
  refine PWl.step (LR.loadRef Try.isAgg46 rfl rfl rfl) rfl ?_
  refine PWl.step (LR.fieldRef Try.underlying70 rfl Try.sizeOf46 (by decide) rfl rfl) rfl ?_
  refine PWl.step (LR.loadRef Try.isAgg46 rfl rfl rfl) rfl ?_
  replace h := iDet h
  obtain ⟨v3, hy4, h⟩ := h
  refine PWl.step (LR.callN (cmp_Compare_uint16_ok a1.dev b2.dev v3 hy4) rfl Try.call95 rfl rfl rfl rfl) rfl ?_
  refine PWl.step (LR.assign rfl) rfl ?_
  refine PWl.nil ?_
  refine PWc.seq ?_
  refine PWc.region ?_
  refine PWl.step (LR.move rfl) rfl ?_
  refine PWl.step (LR.neq rfl rfl) rfl ?_
  refine PWl.nil ?_
  refine PWc.cond rfl (fun hc5 => ?_) (fun hc5 => ?_)
  · replace h := iT hc5 h
    refine PWc.seq ?_
    refine PWc.region ?_
    refine PWl.step (LR.move rfl) rfl ?_
    refine PWl.step (LR.assign rfl) rfl ?_
    refine PWl.nil ?_
    refine PWc.ret ?_
    replace h : _ = r0 := h
    subst h
    exact ⟨.inr rfl, _, .cons (.tmp rfl rfl) <| .nil, rfl⟩
  · replace h := iF hc5 h
    refine PWc.skip ?_
    refine PWc.seq ?_
    refine PWc.region ?_
    refine PWl.step (LR.fieldRef Try.underlying70 rfl Try.sizeOf34 (by decide) rfl rfl) rfl ?_
    refine PWl.step (LR.loadRef Try.isAgg34 rfl rfl rfl) rfl ?_
    refine PWl.step (LR.fieldRef Try.underlying70 rfl Try.sizeOf34 (by decide) rfl rfl) rfl ?_
    refine PWl.step (LR.loadRef Try.isAgg34 rfl rfl rfl) rfl ?_
    replace h := iDet h
    obtain ⟨v6, hy7, h⟩ := h
    refine PWl.step (LR.callN (cmp_Compare_uint64_ok a1.n b2.n v6 hy7) rfl Try.call108 rfl rfl rfl rfl) rfl ?_
    refine PWl.step (LR.assign rfl) rfl ?_
    refine PWl.nil ?_
    refine PWc.ret ?_
    replace h : _ = r0 := h
    subst h
    exact ⟨.inr rfl, _, .cons (.tmp rfl rfl) <| .nil, rfl⟩

theorem vec_order_ok (m1 : List (Int × Int)) (r0 : List TDot) (h : (vec_order m1).wp (· = r0)) : PRow Try.prog 99 [.md [.u16] false (encM kI (eK .u64) m1)] 70 2 (List.map TDot.e r0) := by
  refine PRow.intro (sl := [(0, _)]) Try.func99 rfl Try.ntmps99 rfl rfl ?_
  intro ctx hK
  refine PWc.seq ?_
  refine PWc.region ?_
  refine PWl.step (LR.assignNilRow 70 2 rfl) rfl ?_
  refine PWl.nil ?_
  refine PWc.seq ?_
  refine PWc.region ?_
  refine PWl.step (LR.assignNilRow 70 2 rfl) rfl ?_
  refine PWl.nil ?_
  refine PWc.seq ?_
  refine PWc.seq ?_
  refine PWc.region ?_
  refine PWl.step (LR.move rfl) rfl ?_
  refine PWl.rangeD Try.underlying124 rfl rfl rfl (fun bs2 ck2 hbl2 hbn2 => ?_)
  refine PWl.nil ?_
  refine PWc.jn (iBind h) (fun (v3 : List TDot) (_ : Unit) => ⟨24, [(3, .row 3 (List.length v3))], [(3, .row 70 2 (List.map TDot.e v3))]⟩) (fun h => ?_) ?_
  · refine PWc.block ?_
    refine PWc.loopM (fun (⟨seen24, v25⟩ : List Nat × List TDot) (_ : Unit) => ⟨24, [(3, .row 3 (List.length v25)), (7, .ref 7 0)], [(3, .row 70 2 (List.map TDot.e v25)), (7, .iterD [.u16] false (encM kI (eK .u64) m1) bs2 ck2 seen24)]⟩) () h (Sub.of rfl (.cons rfl rfl <| .cons rfl rfl <| .nil) (.cons rfl rfl <| .cons rfl rfl <| .nil)) ?_
    rintro N ⟨seen24, v25⟩ _ h
    refine PWc.seq ?_
    refine PWc.region ?_
    replace h := iNeed h
    obtain ⟨hy34, h⟩ := h
    replace h := iNxt h
    refine PWl.nextD rfl rfl (nxtD hy34) rfl (fun hy27 => ?_) (fun j26 hy28 hy29 => ?_)
    · replace h := h.1 (nxtA hy27)
      refine PWl.step (LR.extract rfl rfl) rfl ?_
      refine PWl.nil ?_
      refine PWc.seq ?_
      refine PWc.condF rfl ?_
      refine PWc.exit ?_
      exact ⟨v25, (), h, Sub.of rfl (.cons rfl rfl <| .nil) (.cons rfl rfl <| .nil)⟩
    · replace h := h.2 j26 (nxtB hy28) hy29
      refine PWl.step (LR.extract rfl rfl) rfl ?_
      refine PWl.nil ?_
      refine PWc.seq ?_
      refine PWc.condT rfl ?_
      refine PWc.skip ?_
      refine PWc.block ?_
      refine PWc.seq ?_
      refine PWc.region ?_
      replace h := iIdx h
      obtain ⟨kv30, hy31, h⟩ := h
      refine PWl.step (LR.entryD rfl rfl (entGet hy31) rfl rfl) rfl ?_
      refine PWl.step (LR.extract rfl rfl) rfl ?_
      refine PWl.step (LR.extract rfl rfl) rfl ?_
      refine PWl.step (LR.assign rfl) rfl ?_
      refine PWl.step (LR.assign rfl) rfl ?_
      refine PWl.nil ?_
      refine PWc.seq ?_
      refine PWc.region ?_
      refine PWl.step (LR.move rfl) rfl ?_
      refine PWl.step (LR.gtr rfl rfl) rfl ?_
      refine PWl.nil ?_
      refine PWc.cond rfl (fun hc32 => ?_) (fun hc32 => ?_)
      · replace h := iT hc32 h
        refine PWc.region ?_
        refine PWl.step (LR.move rfl) rfl ?_
        refine PWl.step (LR.move rfl) rfl ?_
        refine PWl.step (LR.move rfl) rfl ?_
        refine PWl.step (LR.build (ns := [_, _]) build70 rfl rfl rfl) rfl ?_
        refine PWl.step (LR.buildSliceD [.tmp 18] elem62 rfl rfl (.cons rfl rfl rfl <| .nil) (by decide) (by decide)) rfl ?_
        replace h := iNeed h
        obtain ⟨hy33, h⟩ := h
        refine PWl.step (LR.appT (enc := TDot.e) (L := v25) (R := [(⟨kv30.1, kv30.2⟩ : TDot)]) [3, 15] elem62 Try.underlying62 rfl rfl rfl (Src.slT (enc := TDot.e) (R := [(⟨kv30.1, kv30.2⟩ : TDot)]) rfl (fun _ => rfl)) (fun _ => rfl) hy33 rfl rfl) rfl ?_
        refine PWl.step (LR.assign rfl) rfl ?_
        refine PWl.nil ?_
        exact ⟨((seen24 ++ [j26]), (v25 ++ [(⟨kv30.1, kv30.2⟩ : TDot)])), (), h, Sub.of rfl (.cons rfl rfl <| .cons rfl rfl <| .nil) (.cons rfl rfl <| .cons rfl rfl <| .nil)⟩
      · replace h := iF hc32 h
        refine PWc.skip ?_
        exact ⟨((seen24 ++ [j26]), v25), (), h, Sub.of rfl (.cons rfl rfl <| .cons rfl rfl <| .nil) (.cons rfl rfl <| .cons rfl rfl <| .nil)⟩
  · rintro v3 _ h
    refine PWc.seq ?_
    refine PWc.region ?_
    refine PWl.step (LR.move rfl) rfl ?_
    replace h := iNeed h
    obtain ⟨hy36, h⟩ := h
    refine PWl.sortFn (encD := TDot.e) (enc := TDot.v) (l := v3) srt122_123 (fun _ => rfl) TDot.v1 (fun _ => rfl) rfl Try.call122 rfl rfl rfl (by simp) hy36 rfl (fun s35 hy37 hy38 => ?_)
    replace h := iSrt h s35 hy37 hy38
    have hy37l := hy37.length_eq
    refine PWl.nil ?_
    refine PWc.seq ?_
    refine PWc.region ?_
    refine PWl.step (LR.move rfl) rfl ?_
    refine PWl.step (LR.assign rfl) rfl ?_
    refine PWl.nil ?_
    refine PWc.ret ?_
    replace h : _ = r0 := h
    subst h
    exact ⟨.inr rfl, 2, rfl, .inr ⟨3, _, rfl, (by first | (simp; done) | (simp; omega)), rfl⟩⟩

theorem vec_Norm_ok (v1 : List TDot) (r0 : List TDot) (h : (vec_Norm v1).wp (· = r0)) : PRow Try.prog 54 [.d (.sl (List.map TDot.e v1))] 70 2 (List.map TDot.e r0) := by
  refine PRow.intro (sl := [(0, _)]) Try.func54 rfl Try.ntmps54 rfl rfl ?_
  intro ctx hK
  refine PWc.seq ?_
  refine PWc.region ?_
  refine PWl.step (LR.assignNilRow 70 2 rfl) rfl ?_
  refine PWl.nil ?_
  refine PWc.seq ?_
  refine PWc.region ?_
  refine PWl.step (LR.move rfl) rfl ?_
  replace h := iDet h
  obtain ⟨v2, hy3, h⟩ := h
  refine PWl.mapN (vec_told_ok v1 v2 hy3) rfl Try.call98 rfl rfl rfl rfl rfl (fun bs4 ck4 _ => ?_)
  replace h := iDet h
  obtain ⟨v5, hy6, h⟩ := h
  refine PWl.frzM [4] hK (.cons rfl <| .nil) rfl ?_
  refine PWl.step (LR.rowN (vec_order_ok v2 v5 hy6) rfl Try.call99 rfl rfl rfl rfl) rfl ?_
  refine PWl.step (LR.assign rfl) rfl ?_
  refine PWl.nil ?_
  refine PWc.ret ?_
  replace h : _ = r0 := h
  subst h
  exact ⟨.inr rfl, 2, rfl, .inr ⟨5, _, rfl, (by simp), rfl⟩⟩

theorem slices_Grow_Vec_Dot_nil_ok (n1 : Int) (r0 : List TDot) (h : (slices_Grow_Vec_Dot_nil n1).wp (· = r0)) : PRow Try.prog 121 [.d (.v (.slice none 0 0)), .d (.v (.int .i64 n1))] 70 2 (List.map TDot.e r0) := by
  refine PRow.intro (sl := [(0, _), (1, _)]) Try.func121 rfl Try.ntmps121 rfl rfl ?_
  intro ctx hK
  refine PWc.seq ?_
  refine PWc.region ?_
  refine PWl.step (LR.assignNilRow 70 2 rfl) rfl ?_
  refine PWl.nil ?_
  refine PWc.seq ?_
  refine PWc.seq ?_
  refine PWc.region ?_
  refine PWl.step (LR.move rfl) rfl ?_
  refine PWl.step (LR.lss rfl rfl) rfl ?_
  refine PWl.nil ?_
  refine PWc.cond rfl (fun hc2 => ?_) (fun hc2 => ?_)
  · replace h := iT hc2 h
    exact h.elim
  · replace h := iF hc2 h
    refine PWc.skip ?_
    refine PWc.seq ?_
    refine PWc.seq ?_
    refine PWc.region ?_
    refine PWl.step (LR.move rfl) rfl ?_
    refine PWl.step (LR.move rfl) rfl ?_
    refine PWl.step (LR.capNil Try.underlying62 rfl) rfl ?_
    refine PWl.step (LR.move rfl) rfl ?_
    refine PWl.step (LR.lenNil Try.underlying62 rfl) rfl ?_
    refine PWl.step (LR.subW rfl rfl) rfl ?_
    refine PWl.step (LR.subW rfl rfl) rfl ?_
    refine PWl.step (LR.assign rfl) rfl ?_
    refine PWl.nil ?_
    refine PWc.seq ?_
    refine PWc.region ?_
    refine PWl.step (LR.move rfl) rfl ?_
    refine PWl.step (LR.gtr rfl rfl) rfl ?_
    refine PWl.nil ?_
    refine PWc.jn (iBind h) (fun (v3 : List TDot) (_ : Unit) => ⟨27, [(0, .row 22 (List.length v3))], [(22, .row 70 2 (List.map TDot.e v3))]⟩) (fun h => ?_) ?_
    · refine PWc.cond rfl (fun hc4 => ?_) (fun hc4 => ?_)
      · replace h := iT hc4 h
        refine PWc.region ?_
        refine PWl.step (LR.move rfl) rfl ?_
        refine PWl.step (LR.move rfl) rfl ?_
        refine PWl.step (LR.capNil Try.underlying62 rfl) rfl ?_
        refine PWl.step (LR.sliceNil Try.underlying62 Try.sizeOf70 rfl rfl) rfl ?_
        refine PWl.step (LR.move rfl) rfl ?_
        replace h := iNeed h
        obtain ⟨hy5, h⟩ := h
        refine PWl.step (LR.appMakeT (enc := TDot.e) (z := (⟨0, 0⟩ : TDot)) hy5 elem62 Try.underlying3 Try.zeroValue70 rfl rfl rfl rfl rfl rfl rfl) rfl ?_
        refine PWl.re (tl := [(0, _), (22, _)]) (to := [(22, _)]) rfl (.cons rfl rfl <| .cons rfl rfl <| .nil) (.cons rfl rfl <| .nil) ?_
        refine PWl.step (LR.move rfl) rfl ?_
        refine PWl.step (LR.lenNil Try.underlying62 rfl) rfl ?_
        replace h := iNeed h
        obtain ⟨hy6, h⟩ := h
        refine PWl.step (LR.cutRowT (enc := TDot.e) (L := (List.replicate (Int.toNat ((IntKind.i64.wrap (n1 - (IntKind.i64.wrap (0 - 0)))))) (⟨0, 0⟩ : TDot))) [22] Try.underlying62 Try.sizeOf70 rfl (by first | (simp; done) | (simp; omega)) rfl rfl hy6 rfl) rfl ?_
        refine PWl.step (LR.assign rfl) rfl ?_
        refine PWl.nil ?_
        exact ⟨(List.take (Int.toNat 0) ((List.replicate (Int.toNat ((IntKind.i64.wrap (n1 - (IntKind.i64.wrap (0 - 0)))))) (⟨0, 0⟩ : TDot)))), (), h, Sub.of rfl (.cons rfl (by first | rfl | (simp; done) | (congr 1; first | (simp; done) | (simp; omega))) <| .nil) (.cons rfl rfl <| .nil)⟩
      · replace h := iF hc4 h
        refine PWc.skip ?_
        exact ⟨[], (), h, Sub.trans (Sub.nilRow 0 22 70 2 rfl rfl) <| Sub.of rfl (.cons rfl rfl <| .nil) (.cons rfl rfl <| .nil)⟩
    · rintro v3 _ h
      refine PWc.seq ?_
      refine PWc.region ?_
      refine PWl.step (LR.move rfl) rfl ?_
      refine PWl.step (LR.assign rfl) rfl ?_
      refine PWl.nil ?_
      refine PWc.ret ?_
      replace h : _ = r0 := h
      subst h
      exact ⟨.inr rfl, 4, rfl, .inr ⟨22, _, rfl, (by simp), rfl⟩⟩
end Go.Proofs

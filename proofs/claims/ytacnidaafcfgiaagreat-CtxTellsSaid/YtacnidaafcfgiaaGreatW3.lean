/- Walks: written by program. -/
import Derived.Test.YtacnidaafcfgiaaGreatFc
import Derived.Test.YtacnidaafcfgiaaGreatSh
import Derived.Test.YtacnidaafcfgiaaGreatSx
import Derived.Test.YtacnidaafcfgiaaGreatTl
import Derived.Test.YtacnidaafcfgiaaGreatSr
import Derived.Test.YtacnidaafcfgiaaGreatDr
import Derived.Test.YtacnidaafcfgiaaGreatW0
import Derived.Test.YtacnidaafcfgiaaGreatW1
namespace Go.Proofs
open Go.Ep
set_option maxHeartbeats 1000000
set_option maxRecDepth 100000
set_option linter.unusedVariables false
set_option linter.unusedSimpArgs false


theorem r07_Same_ok (a1 : List TDot) (b2 : List TDot) (r0 : Bool) (h : (r07_Same a1 b2).wp (· = r0)) : PFun Tryz.prog 36 [.d (.sl (List.map TDot.e a1)), .d (.sl (List.map TDot.e b2))] (.d (.v (.bool r0))) := by
  refine PFun.intro (sl := [(0, _), (1, _)]) Tryz.func36 rfl Tryz.ntmps36 rfl rfl ?_
  intro ctx hK
  refine PWc.seq ?_
  refine PWc.region ?_
  refine PWl.step (LR.assign rfl) rfl ?_
  refine PWl.nil ?_
  refine PWc.seq ?_
  refine PWc.seq ?_
  refine PWc.region ?_
  refine PWl.step (LR.move rfl) rfl ?_
  refine PWl.step (LR.lenMap (enc := TDot.e) (L := a1) Tryz.underlying28 rfl) rfl ?_
  refine PWl.step (LR.move rfl) rfl ?_
  refine PWl.step (LR.lenMap (enc := TDot.e) (L := b2) Tryz.underlying28 rfl) rfl ?_
  refine PWl.step (LR.neq rfl rfl) rfl ?_
  refine PWl.nil ?_
  refine PWc.cond rfl (fun hc3 => ?_) (fun hc3 => ?_)
  · replace h := iT hc3 h
    refine PWc.seq ?_
    refine PWc.region ?_
    refine PWl.step (LR.assign rfl) rfl ?_
    refine PWl.nil ?_
    refine PWc.ret ?_
    replace h : _ = r0 := h
    subst h
    exact ⟨.inr rfl, _, .cons (.tmp rfl rfl) <| .nil, rfl⟩
  · replace h := iF hc3 h
    refine PWc.skip ?_
    refine PWc.seq ?_
    refine PWc.seq ?_
    refine PWc.region ?_
    refine PWl.step (LR.assign rfl) rfl ?_
    refine PWl.nil ?_
    refine PWc.jnX (iBind h) (fun (_ : Unit) (_ : Unit) => ⟨26, [], []⟩) (fun h => ?_) ?_
    · refine PWc.block ?_
      refine PWc.loopM (fun (i17 : Int) (_ : Unit) => ⟨26, [(0, .d (.sl (List.map TDot.e a1))), (1, .d (.sl (List.map TDot.e b2))), (5, .d (.v (.int .i64 i17)))], []⟩) () h (Sub.of rfl (.cons rfl rfl <| .cons rfl rfl <| .cons rfl rfl <| .nil) (.nil)) ?_
      rintro N i17 _ h
      refine PWc.seq ?_
      refine PWc.seq ?_
      refine PWc.region ?_
      refine PWl.step (LR.move rfl) rfl ?_
      refine PWl.step (LR.move rfl) rfl ?_
      refine PWl.step (LR.lenMap (enc := TDot.e) (L := a1) Tryz.underlying28 rfl) rfl ?_
      refine PWl.step (LR.lss rfl rfl) rfl ?_
      refine PWl.nil ?_
      refine PWc.cond rfl (fun hc18 => ?_) (fun hc18 => ?_)
      · replace h := iT hc18 h
        refine PWc.skip ?_
        refine PWc.seq ?_
        refine PWc.block ?_
        refine PWc.seq ?_
        refine PWc.regionD (by kernel_rfl) (by kernel_rfl) ?_
        refine PQl.step (fun _ he ho => LR.move (he rfl rfl)) rfl ?_
        refine PQl.step (fun _ he ho => LR.move (he rfl rfl)) rfl ?_
        replace h := iIdx h
        obtain ⟨x19, hy20, h⟩ := h
        refine PQl.step (fun _ he ho => LR.idxT (enc := TDot.e) (L := a1) (y := x19) Tryz.underlying28 Tryz.sizeOf32 (he rfl rfl) (he rfl rfl) hy20 (fun _ => rfl)) rfl ?_
        refine PQl.step (fun _ he ho => LR.loadEpAgg (ys := [_, _]) Tryz.isAgg32 Tryz.sizeOf32 (he rfl rfl) rfl rfl) rfl ?_
        refine PQl.step (fun _ he ho => LR.move (he rfl rfl)) rfl ?_
        refine PQl.step (fun _ he ho => LR.move (he rfl rfl)) rfl ?_
        replace h := iIdx h
        obtain ⟨x21, hy22, h⟩ := h
        refine PQl.step (fun _ he ho => LR.idxT (enc := TDot.e) (L := b2) (y := x21) Tryz.underlying28 Tryz.sizeOf32 (he rfl rfl) (he rfl rfl) hy22 (fun _ => rfl)) rfl ?_
        refine PQl.step (fun _ he ho => LR.loadEpAgg (ys := [_, _]) Tryz.isAgg32 Tryz.sizeOf32 (he rfl rfl) rfl rfl) rfl ?_
        refine PQl.step (fun _ he ho => LR.neqAgg (he rfl rfl) (he rfl rfl) rfl rfl eq32) rfl ?_
        refine PQl.nil ?_
        refine PWc.cond rfl (fun hc23 => ?_) (fun hc23 => ?_)
        · replace h := iT hc23 h
          refine PWc.seq ?_
          refine PWc.region ?_
          refine PWl.step (LR.assign rfl) rfl ?_
          refine PWl.nil ?_
          refine PWc.ret ?_
          replace h : _ = r0 := h
          subst h
          exact ⟨.inr rfl, _, .cons (.tmp rfl rfl) <| .nil, rfl⟩
        · replace h := iF hc23 h
          refine PWc.skip ?_
          refine PWc.region ?_
          refine PWl.step (LR.move rfl) rfl ?_
          refine PWl.step (LR.addW rfl rfl) rfl ?_
          refine PWl.step (LR.assign rfl) rfl ?_
          refine PWl.nil ?_
          exact ⟨(IntKind.i64.wrap (i17 + 1)), (), h, Sub.of rfl (.cons rfl rfl <| .cons rfl rfl <| .cons rfl rfl <| .nil) (.nil)⟩
      · replace h := iF hc18 h
        refine PWc.exit ?_
        exact ⟨(), (), h, Sub.of rfl (.nil) (.nil)⟩
    · rintro _ _ h
      refine PWc.seq ?_
      refine PWc.region ?_
      refine PWl.step (LR.assign rfl) rfl ?_
      refine PWl.nil ?_
      refine PWc.ret ?_
      replace h : _ = r0 := h
      subst h
      exact ⟨.inr rfl, _, .cons (.tmp rfl rfl) <| .nil, rfl⟩

theorem runs_First_ok (l1 : List TRun) (r0 : Int) (h : (runs_First l1).wp (· = r0)) : PFun Tryz.prog 75 [.d (.sl (List.map TRun.e l1))] (.d (.v (.int .u64 r0))) := by
  refine PFun.intro (sl := [(0, _)]) Tryz.func75 rfl Tryz.ntmps75 rfl rfl ?_
  intro ctx hK
  refine PWc.seq ?_
  refine PWc.region ?_
  refine PWl.step (LR.assign rfl) rfl ?_
  refine PWl.nil ?_
  refine PWc.seq ?_
  refine PWc.seq ?_
  refine PWc.region ?_
  refine PWl.step (LR.move rfl) rfl ?_
  replace h := iDet h
  obtain ⟨v2, hy3, h⟩ := h
  refine PWl.step (LR.rowN (runs_Norm_ok l1 v2 hy3) rfl Tryz.call69 rfl rfl rfl rfl) rfl ?_
  refine PWl.step (LR.assign rfl) rfl ?_
  refine PWl.nil ?_
  refine PWc.seq ?_
  refine PWc.jn (iBind h) (fun (v4 : Bool) (_ : Unit) => ⟨20, [(0, .row 4 (List.length v2)), (14, .d (.v (.bool v4)))], [(4, .row 89 2 (List.map TRun.e v2))]⟩) (fun h => ?_) ?_
  · refine PWc.region ?_
    refine PWl.step (LR.move rfl) rfl ?_
    refine PWl.step (LR.lenRow Tryz.underlying37 rfl) rfl ?_
    refine PWl.step (LR.gtr rfl rfl) rfl ?_
    refine PWl.step (LR.move rfl) rfl ?_
    refine PWl.split (d := 8) rfl (fun hg5 => ?_) (fun hg5 => ?_)
    · replace h := iT hg5 h
      refine PWl.guardT (LR.move rfl) rfl rfl rfl ?_
      replace h := iIdx h
      obtain ⟨x6, hy7, h⟩ := h
      refine PWl.guardT (LR.idxRowT (L := v2) (y := x6) Tryz.underlying37 Tryz.sizeOf89 rfl rfl rfl hy7) rfl rfl rfl ?_
      refine PWl.guardT (LR.fieldRp Tryz.underlying89 rfl Tryz.sizeOf30 (by decide) rfl rfl) rfl rfl rfl ?_
      refine PWl.guardT (LR.loadRpF (enc := TRun.e) (L := v2) (y := x6) Tryz.isAgg30 rfl rfl hy7.2 rfl) rfl rfl rfl ?_
      refine PWl.guardT (LR.eql rfl rfl) rfl rfl rfl ?_
      refine PWl.step (LR.pickT rfl rfl) rfl ?_
      refine PWl.nil ?_
      exact ⟨(decide (x6.lo = 1)), (), h, Sub.of rfl (.cons rfl rfl <| .cons rfl rfl <| .nil) (.cons rfl rfl <| .nil)⟩
    · replace h := iF hg5 h
      refine PWl.guardF rfl rfl rfl (by decide) ?_
      refine PWl.guardF rfl rfl rfl (by decide) ?_
      refine PWl.guardF rfl rfl rfl (by decide) ?_
      refine PWl.guardF rfl rfl rfl (by decide) ?_
      refine PWl.guardF rfl rfl rfl (by decide) ?_
      refine PWl.step (LR.pickF rfl rfl) rfl ?_
      refine PWl.nil ?_
      exact ⟨false, (), h, Sub.of rfl (.cons rfl rfl <| .cons rfl rfl <| .nil) (.cons rfl rfl <| .nil)⟩
  · rintro v4 _ h
    refine PWc.cond rfl (fun hc8 => ?_) (fun hc8 => ?_)
    · replace h := iT hc8 h
      refine PWc.seq ?_
      refine PWc.region ?_
      refine PWl.step (LR.move rfl) rfl ?_
      replace h := iIdx h
      obtain ⟨x9, hy10, h⟩ := h
      refine PWl.step (LR.idxRowT (L := v2) (y := x9) Tryz.underlying37 Tryz.sizeOf89 rfl rfl rfl hy10) rfl ?_
      refine PWl.step (LR.fieldRp Tryz.underlying89 rfl Tryz.sizeOf30 (by decide) rfl rfl) rfl ?_
      refine PWl.step (LR.loadRpF (enc := TRun.e) (L := v2) (y := x9) Tryz.isAgg30 rfl rfl hy10.2 rfl) rfl ?_
      refine PWl.step (LR.addW rfl rfl) rfl ?_
      refine PWl.step (LR.assign rfl) rfl ?_
      refine PWl.nil ?_
      refine PWc.ret ?_
      replace h : _ = r0 := h
      subst h
      exact ⟨.inr rfl, _, .cons (.tmp rfl rfl) <| .nil, rfl⟩
    · replace h := iF hc8 h
      refine PWc.skip ?_
      refine PWc.seq ?_
      refine PWc.region ?_
      refine PWl.step (LR.assign rfl) rfl ?_
      refine PWl.nil ?_
      refine PWc.ret ?_
      replace h : _ = r0 := h
      subst h
      exact ⟨.inr rfl, _, .cons (.tmp rfl rfl) <| .nil, rfl⟩

theorem dot_Cmp_ok (a1 : TDot) (b2 : TDot) (r0 : Int) (h : (dot_Cmp a1 b2).wp (· = r0)) : PFun Tryz.prog 87 [.agg (List.map .d (TDot.e a1)), .agg (List.map .d (TDot.e b2))] (.d (.v (.int .i64 r0))) := by
  refine PFun.intro (sl := [(0, _), (1, _)]) Tryz.func87 rfl Tryz.ntmps87 rfl rfl ?_
  intro ctx hK
  refine PWc.seq ?_
  refine PWc.region ?_
  refine PWl.step (LR.box rfl rfl rfl rfl) rfl ?_
  refine PWl.step (LR.box rfl rfl rfl rfl) rfl ?_
  refine PWl.step (LR.assign rfl) rfl ?_
  refine PWl.nil ?_
  refine PWc.seq ?_
  refine PWc.seq ?_
  refine PWc.region ?_
  refine PWl.step (LR.fieldRef Tryz.underlying32 rfl Tryz.sizeOf29 (by decide) rfl rfl) rfl ?_
  refine PWl.step (LR.loadRef Tryz.isAgg29 rfl rfl rfl) rfl ?_
  refine PWl.step (LR.fieldRef Tryz.underlying32 rfl Tryz.sizeOf29 (by decide) rfl rfl) rfl ?_
  refine PWl.step (LR.loadRef Tryz.isAgg29 rfl rfl rfl) rfl ?_
  replace h := iDet h
  obtain ⟨v3, hy4, h⟩ := h
  refine PWl.step (LR.callN (cmp_Compare_uint16_ok a1.dev b2.dev v3 hy4) rfl Tryz.call104 rfl rfl rfl rfl) rfl ?_
  refine PWl.step (LR.assign rfl) rfl ?_
  refine PWl.nil ?_
  refine PWc.seq ?_
  refine PWc.region ?_
  refine PWl.step (LR.move rfl) rfl ?_
  refine PWl.step (LR.neq rfl rfl) rfl ?_
  refine PWl.nil ?_
  refine PWc.cond rfl (fun hc5 => ?_) (fun hc5 => ?_)
  · replace h := iT hc5 h
    refine PWc.seq ?_
    refine PWc.region ?_
    refine PWl.step (LR.move rfl) rfl ?_
    refine PWl.step (LR.assign rfl) rfl ?_
    refine PWl.nil ?_
    refine PWc.ret ?_
    replace h : _ = r0 := h
    subst h
    exact ⟨.inr rfl, _, .cons (.tmp rfl rfl) <| .nil, rfl⟩
  · replace h := iF hc5 h
    refine PWc.skip ?_
    refine PWc.seq ?_
    refine PWc.region ?_
    refine PWl.step (LR.fieldRef Tryz.underlying32 rfl Tryz.sizeOf30 (by decide) rfl rfl) rfl ?_
    refine PWl.step (LR.loadRef Tryz.isAgg30 rfl rfl rfl) rfl ?_
    refine PWl.step (LR.fieldRef Tryz.underlying32 rfl Tryz.sizeOf30 (by decide) rfl rfl) rfl ?_
    refine PWl.step (LR.loadRef Tryz.isAgg30 rfl rfl rfl) rfl ?_
    replace h := iDet h
    obtain ⟨v6, hy7, h⟩ := h
    refine PWl.step (LR.callN (cmp_Compare_uint64_ok a1.n b2.n v6 hy7) rfl Tryz.call107 rfl rfl rfl rfl) rfl ?_
    refine PWl.step (LR.assign rfl) rfl ?_
    refine PWl.nil ?_
    refine PWc.ret ?_
    replace h : _ = r0 := h
    subst h
    exact ⟨.inr rfl, _, .cons (.tmp rfl rfl) <| .nil, rfl⟩

theorem vec_order_ok (m1 : List (Int × Int)) (r0 : List TDot) (h : (vec_order m1).wp (· = r0)) : PRow Tryz.prog 114 [.md [.u16] false (encM kI (eK .u64) m1)] 32 2 (List.map TDot.e r0) := by
  refine PRow.intro (sl := [(0, _)]) Tryz.func114 rfl Tryz.ntmps114 rfl rfl ?_
  intro ctx hK
  refine PWc.seq ?_
  refine PWc.region ?_
  refine PWl.step (LR.assignNilRow 32 2 rfl) rfl ?_
  refine PWl.nil ?_
  refine PWc.seq ?_
  refine PWc.region ?_
  refine PWl.step (LR.assignNilRow 32 2 rfl) rfl ?_
  refine PWl.nil ?_
  refine PWc.seq ?_
  refine PWc.seq ?_
  refine PWc.region ?_
  refine PWl.step (LR.move rfl) rfl ?_
  refine PWl.rangeD Tryz.underlying126 rfl rfl rfl (fun bs2 ck2 hbl2 hbn2 => ?_)
  refine PWl.nil ?_
  refine PWc.jn (iBind h) (fun (v3 : List TDot) (_ : Unit) => ⟨24, [(3, .row 3 (List.length v3))], [(3, .row 32 2 (List.map TDot.e v3))]⟩) (fun h => ?_) ?_
  · refine PWc.block ?_
    refine PWc.loopM (fun (⟨seen24, v25⟩ : List Nat × List TDot) (_ : Unit) => ⟨24, [(3, .row 3 (List.length v25)), (7, .ref 7 0)], [(3, .row 32 2 (List.map TDot.e v25)), (7, .iterD [.u16] false (encM kI (eK .u64) m1) bs2 ck2 seen24)]⟩) () h (Sub.of rfl (.cons rfl rfl <| .cons rfl rfl <| .nil) (.cons rfl rfl <| .cons rfl rfl <| .nil)) ?_
    rintro N ⟨seen24, v25⟩ _ h
    refine PWc.seq ?_
    refine PWc.region ?_
    replace h := iNeed h
    obtain ⟨hy34, h⟩ := h
    replace h := iNxt h
    refine PWl.nextD rfl rfl (nxtD hy34) rfl (fun hy27 => ?_) (fun j26 hy28 hy29 => ?_)
    · replace h := h.1 (nxtA hy27)
      refine PWl.step (LR.extract rfl rfl) rfl ?_
      refine PWl.nil ?_
      refine PWc.seq ?_
      refine PWc.condF rfl ?_
      refine PWc.exit ?_
      exact ⟨v25, (), h, Sub.of rfl (.cons rfl rfl <| .nil) (.cons rfl rfl <| .nil)⟩
    · replace h := h.2 j26 (nxtB hy28) hy29
      refine PWl.step (LR.extract rfl rfl) rfl ?_
      refine PWl.nil ?_
      refine PWc.seq ?_
      refine PWc.condT rfl ?_
      refine PWc.skip ?_
      refine PWc.block ?_
      refine PWc.seq ?_
      refine PWc.region ?_
      replace h := iIdx h
      obtain ⟨kv30, hy31, h⟩ := h
      refine PWl.step (LR.entryD rfl rfl (entGet hy31) rfl rfl) rfl ?_
      refine PWl.step (LR.extract rfl rfl) rfl ?_
      refine PWl.step (LR.extract rfl rfl) rfl ?_
      refine PWl.step (LR.assign rfl) rfl ?_
      refine PWl.step (LR.assign rfl) rfl ?_
      refine PWl.nil ?_
      refine PWc.seq ?_
      refine PWc.region ?_
      refine PWl.step (LR.move rfl) rfl ?_
      refine PWl.step (LR.gtr rfl rfl) rfl ?_
      refine PWl.nil ?_
      refine PWc.cond rfl (fun hc32 => ?_) (fun hc32 => ?_)
      · replace h := iT hc32 h
        refine PWc.region ?_
        refine PWl.step (LR.move rfl) rfl ?_
        refine PWl.step (LR.move rfl) rfl ?_
        refine PWl.step (LR.move rfl) rfl ?_
        refine PWl.step (LR.build (ns := [_, _]) build32 rfl rfl rfl) rfl ?_
        refine PWl.step (LR.buildSliceD [.tmp 18] elem44 rfl rfl (.cons rfl rfl rfl <| .nil) (by decide) (by decide)) rfl ?_
        replace h := iNeed h
        obtain ⟨hy33, h⟩ := h
        refine PWl.step (LR.appT (enc := TDot.e) (L := v25) (R := [(⟨kv30.1, kv30.2⟩ : TDot)]) [3, 15] elem44 Tryz.underlying44 rfl rfl rfl (Src.slT (enc := TDot.e) (R := [(⟨kv30.1, kv30.2⟩ : TDot)]) rfl (fun _ => rfl)) (fun _ => rfl) hy33 rfl rfl) rfl ?_
        refine PWl.step (LR.assign rfl) rfl ?_
        refine PWl.nil ?_
        exact ⟨((seen24 ++ [j26]), (v25 ++ [(⟨kv30.1, kv30.2⟩ : TDot)])), (), h, Sub.of rfl (.cons rfl rfl <| .cons rfl rfl <| .nil) (.cons rfl rfl <| .cons rfl rfl <| .nil)⟩
      · replace h := iF hc32 h
        refine PWc.skip ?_
        exact ⟨((seen24 ++ [j26]), v25), (), h, Sub.of rfl (.cons rfl rfl <| .cons rfl rfl <| .nil) (.cons rfl rfl <| .cons rfl rfl <| .nil)⟩
  · rintro v3 _ h
    refine PWc.seq ?_
    refine PWc.region ?_
    refine PWl.step (LR.move rfl) rfl ?_
    replace h := iNeed h
    obtain ⟨hy36, h⟩ := h
    refine PWl.sortFn (encD := TDot.e) (enc := TDot.v) (l := v3) srt134_87 (fun _ => rfl) TDot.v1 (fun _ => rfl) rfl Tryz.call134 rfl rfl rfl (by simp) hy36 rfl (fun s35 hy37 hy38 => ?_)
    replace h := iSrt h s35 hy37 hy38
    have hy37l := hy37.length_eq
    refine PWl.nil ?_
    refine PWc.seq ?_
    refine PWc.region ?_
    refine PWl.step (LR.move rfl) rfl ?_
    refine PWl.step (LR.assign rfl) rfl ?_
    refine PWl.nil ?_
    refine PWc.ret ?_
    replace h : _ = r0 := h
    subst h
    exact ⟨.inr rfl, 2, rfl, .inr ⟨3, _, rfl, (by first | (simp; done) | (simp; omega) | omega), rfl⟩⟩

theorem vec_told_ok (v1 : List TDot) (r0 : List (Int × Int)) (h : (vec_told v1).wp (· = r0)) : PMap Tryz.prog 115 [.d (.sl (List.map TDot.e v1))] [.u16] false (encM kI (eK .u64) r0) := by
  refine PMap.intro (sl := [(0, _)]) Tryz.func115 rfl Tryz.ntmps115 rfl rfl ?_
  intro ctx hK
  refine PWc.seq ?_
  refine PWc.region ?_
  refine PWl.step (LR.assign rfl) rfl ?_
  refine PWl.nil ?_
  refine PWc.seq ?_
  refine PWc.region ?_
  refine PWl.step (LR.makeMap [.u16] false rfl) rfl ?_
  refine PWl.step (LR.assign rfl) rfl ?_
  refine PWl.nil ?_
  refine PWc.seq ?_
  refine PWc.seq ?_
  refine PWc.region ?_
  refine PWl.step (LR.move rfl) rfl ?_
  refine PWl.step (LR.lenMap (enc := TDot.e) (L := v1) Tryz.underlying44 rfl) rfl ?_
  refine PWl.step (LR.move rfl) rfl ?_
  refine PWl.nil ?_
  refine PWc.jn (iBind h) (fun (v2 : List (Int × Int)) (⟨bs3, ck4⟩ : List Nat × Nat) => ⟨27, [(3, .mp 6)], [(6, .map [.u16] false (encM kI (eK .u64) v2) bs3 ck4)]⟩) (fun h => ?_) ?_
  · refine PWc.block ?_
    refine PWc.loopM (fun (⟨v27, v28⟩ : Int × (List (Int × Int))) (⟨bs29, ck30⟩ : List Nat × Nat) => ⟨27, [(3, .mp 6), (7, .d (.sl (List.map TDot.e v1))), (8, .d (.v (.int .i64 (List.length v1 : Int)))), (9, .d (.v (.int .i64 v27)))], [(6, .map [.u16] false (encM kI (eK .u64) v28) bs29 ck30)]⟩) ([], 0) h (Sub.of rfl (.cons rfl rfl <| .cons rfl rfl <| .cons rfl rfl <| .cons rfl rfl <| .nil) (.cons rfl rfl <| .nil)) ?_
    rintro N ⟨v27, v28⟩ ⟨bs29, ck30⟩ h
    refine PWc.seq ?_
    refine PWc.region ?_
    refine PWl.step (LR.lss rfl rfl) rfl ?_
    refine PWl.nil ?_
    refine PWc.seq ?_
    refine PWc.cond rfl (fun hc31 => ?_) (fun hc31 => ?_)
    · replace h := iT hc31 h
      refine PWc.skip ?_
      refine PWc.seq ?_
      refine PWc.jn (iBind h) (fun (v32 : List (Int × Int)) (⟨bs33, ck34⟩ : List Nat × Nat) => ⟨27, [(3, .mp 6), (7, .d (.sl (List.map TDot.e v1))), (8, .d (.v (.int .i64 (List.length v1 : Int)))), (9, .d (.v (.int .i64 v27)))], [(6, .map [.u16] false (encM kI (eK .u64) v32) bs33 ck34)]⟩) (fun h => ?_) ?_
      · refine PWc.block ?_
        refine PWc.seq ?_
        refine PWc.region ?_
        replace h := iIdx h
        obtain ⟨x35, hy36, h⟩ := h
        refine PWl.step (LR.idxT (enc := TDot.e) (L := v1) (y := x35) Tryz.underlying44 Tryz.sizeOf32 rfl rfl hy36 (fun _ => rfl)) rfl ?_
        refine PWl.step (LR.loadEpAgg (ys := [_, _]) Tryz.isAgg32 Tryz.sizeOf32 rfl rfl rfl) rfl ?_
        refine PWl.step (LR.allocZ (cs := [_, _]) Tryz.zeroValue32 rfl rfl rfl rfl) rfl ?_
        refine PWl.step (LR.storeB (ns := [_, _]) Tryz.sizeOf32 rfl rfl rfl rfl rfl rfl rfl) rfl ?_
        refine PWl.nil ?_
        refine PWc.seq ?_
        refine PWc.region ?_
        refine PWl.step (LR.loadRefAgg (ps := [_, _]) Tryz.isAgg32 Tryz.sizeOf32 rfl rfl rfl rfl) rfl ?_
        replace h := iDet h
        obtain ⟨v37, hy38, h⟩ := h
        refine PWl.step (LR.callN (dot_Good_ok x35 v37 hy38) rfl Tryz.call68 rfl rfl rfl rfl) rfl ?_
        refine PWl.nil ?_
        refine PWc.cond rfl (fun hc39 => ?_) (fun hc39 => ?_)
        · replace h := iT hc39 h
          refine PWc.region ?_
          refine PWl.step (LR.move rfl) rfl ?_
          refine PWl.step (LR.fieldRef Tryz.underlying32 rfl Tryz.sizeOf29 (by decide) rfl rfl) rfl ?_
          refine PWl.step (LR.loadRef Tryz.isAgg29 rfl rfl rfl) rfl ?_
          refine PWl.step (LR.move rfl) rfl ?_
          refine PWl.step (LR.fieldRef Tryz.underlying32 rfl Tryz.sizeOf29 (by decide) rfl rfl) rfl ?_
          refine PWl.step (LR.loadRef Tryz.isAgg29 rfl rfl rfl) rfl ?_
          refine PWl.step (LR.getO (eV := (eK .u64)) (zv := 0) (q := x35.dev) (m := v28) kI_inj Tryz.underlying126 key126 Tryz.zeroValue30 (zRd1 (.int .u64 0) rfl) rfl rfl rfl rfl rfl rfl) rfl ?_
          refine PWl.step (LR.fieldRef Tryz.underlying32 rfl Tryz.sizeOf30 (by decide) rfl rfl) rfl ?_
          refine PWl.step (LR.loadRef Tryz.isAgg30 rfl rfl rfl) rfl ?_
          refine PWl.step (LR.maxI rfl rfl) rfl ?_
          refine PWl.step (LR.setM (eV := (eK .u64)) (q := x35.dev) (v := (max (AL.getZ v28 x35.dev 0) x35.n)) (m := v28) kI_inj Tryz.underlying126 key126 rfl rfl rfl rfl rfl rfl rfl (fun _ => rfl)) rfl ?_
          refine PWl.nil ?_
          exact ⟨(AL.set v28 x35.dev (max (AL.getZ v28 x35.dev 0) x35.n)), ((bset (encM kI (eK .u64) v28) (kI x35.dev) bs29 ck30), (cset (encM kI (eK .u64) v28) (kI x35.dev) ck30)), h, Sub.of rfl (.cons rfl rfl <| .cons rfl rfl <| .cons rfl rfl <| .cons rfl rfl <| .nil) (.cons rfl rfl <| .nil)⟩
        · replace h := iF hc39 h
          refine PWc.skip ?_
          exact ⟨v28, (bs29, ck30), h, Sub.of rfl (.cons rfl rfl <| .cons rfl rfl <| .cons rfl rfl <| .cons rfl rfl <| .nil) (.cons rfl rfl <| .nil)⟩
      · rintro v32 ⟨bs33, ck34⟩ h
        refine PWc.region ?_
        refine PWl.step (LR.addW rfl rfl) rfl ?_
        refine PWl.step (LR.move rfl) rfl ?_
        refine PWl.nil ?_
        exact ⟨((IntKind.i64.wrap (v27 + 1)), v32), (bs33, ck34), h, Sub.of rfl (.cons rfl rfl <| .cons rfl rfl <| .cons rfl rfl <| .cons rfl rfl <| .nil) (.cons rfl rfl <| .nil)⟩
    · replace h := iF hc31 h
      refine PWc.exit ?_
      exact ⟨v28, (bs29, ck30), h, Sub.of rfl (.cons rfl rfl <| .nil) (.cons rfl rfl <| .nil)⟩
  · rintro v2 ⟨bs3, ck4⟩ h
    refine PWc.seq ?_
    refine PWc.region ?_
    refine PWl.step (LR.move rfl) rfl ?_
    refine PWl.step (LR.assign rfl) rfl ?_
    refine PWl.nil ?_
    refine PWc.ret ?_
    replace h : _ = r0 := h
    subst h
    exact ⟨.inr rfl, 2, 6, _, _, rfl, rfl, rfl⟩

theorem vec_Norm_ok (v1 : List TDot) (r0 : List TDot) (h : (vec_Norm v1).wp (· = r0)) : PRow Tryz.prog 76 [.d (.sl (List.map TDot.e v1))] 32 2 (List.map TDot.e r0) := by
  refine PRow.intro (sl := [(0, _)]) Tryz.func76 rfl Tryz.ntmps76 rfl rfl ?_
  intro ctx hK
  refine PWc.seq ?_
  refine PWc.region ?_
  refine PWl.step (LR.assignNilRow 32 2 rfl) rfl ?_
  refine PWl.nil ?_
  refine PWc.seq ?_
  refine PWc.region ?_
  refine PWl.step (LR.move rfl) rfl ?_
  replace h := iDet h
  obtain ⟨v2, hy3, h⟩ := h
  refine PWl.mapN (vec_told_ok v1 v2 hy3) rfl Tryz.call115 rfl rfl rfl rfl rfl (fun bs4 ck4 _ => ?_)
  replace h := iDet h
  obtain ⟨v5, hy6, h⟩ := h
  refine PWl.frzM [4] hK (.cons rfl <| .nil) rfl ?_
  refine PWl.step (LR.rowN (vec_order_ok v2 v5 hy6) rfl Tryz.call114 rfl rfl rfl rfl) rfl ?_
  refine PWl.re (tl := [(0, _), (3, _), (4, _), (5, _)]) (to := [(5, _)]) rfl (.cons rfl rfl <| .cons rfl rfl <| .cons rfl rfl <| .cons rfl rfl <| .nil) (.cons rfl rfl <| .nil) ?_
  refine PWl.step (LR.assign rfl) rfl ?_
  refine PWl.nil ?_
  refine PWc.ret ?_
  replace h : _ = r0 := h
  subst h
  exact ⟨.inr rfl, 2, rfl, .inr ⟨5, _, rfl, (by simp), rfl⟩⟩
end Go.Proofs

/- Walks: written by program. -/
import Derived.Test.YtacnidaafcfgiaaDFc
import Derived.Test.YtacnidaafcfgiaaDSh
import Derived.Test.YtacnidaafcfgiaaDSx
import Derived.Test.YtacnidaafcfgiaaTl
import Derived.Test.YtacnidaafcfgiaaSr
import Derived.Test.YtacnidaafcfgiaaDr
import Derived.Test.YtacnidaafcfgiaaOb
import Derived.Test.YtacnidaafcfgiaaOe
import Derived.Test.YtacnidaafcfgiaaLs
import Derived.Test.YtacnidaafcfgiaaTl
import Derived.Test.YtacnidaafcfgiaaStr
import Derived.Test.YtacnidaafcfgiaaPc
import Derived.Test.YtacnidaafcfgiaaDW2
import Derived.Test.YtacnidaafcfgiaaDW3
import Derived.Test.YtacnidaafcfgiaaDW7
namespace Go.Proofs
open Go.Ep
set_option maxHeartbeats 1000000
set_option maxRecDepth 100000
set_option linter.unusedVariables false
set_option linter.unusedSimpArgs false


theorem ctx_order_c1_ok (a1 : TPart) (b2 : TPart) (r0 : Int) (h : (ctx_order_c1 a1 b2).wp (· = r0)) : PFun Try.prog 145 [.agg (List.map .d (TPart.e a1)), .agg (List.map .d (TPart.e b2))] (.d (.v (.int .i64 r0))) := by
  refine PFun.intro (sl := [(0, _), (1, _)]) Try.func145 rfl Try.ntmps145 rfl rfl ?_
  intro ctx hK
  refine PWc.seq ?_
  refine PWc.region ?_
  refine PWl.step (LR.box rfl rfl rfl rfl) rfl ?_
  refine PWl.step (LR.box rfl rfl rfl rfl) rfl ?_
  refine PWl.step (LR.assign rfl) rfl ?_
  refine PWl.nil ?_
  refine PWc.seq ?_
  refine PWc.region ?_
  refine PWl.step (LR.fieldRef Try.underlying101 rfl Try.sizeOf28 (by decide) rfl rfl) rfl ?_
  refine PWl.step (LR.loadRef Try.isAgg28 rfl rfl rfl) rfl ?_
  refine PWl.step (LR.fieldRef Try.underlying101 rfl Try.sizeOf28 (by decide) rfl rfl) rfl ?_
  refine PWl.step (LR.loadRef Try.isAgg28 rfl rfl rfl) rfl ?_
  replace h := iDet h
  obtain ⟨v3, hy4, h⟩ := h
  refine PWl.step (LR.callN (cmp_Compare_uint16_ok a1.dev b2.dev v3 hy4) rfl Try.call146 rfl rfl rfl rfl) rfl ?_
  refine PWl.step (LR.assign rfl) rfl ?_
  refine PWl.nil ?_
  refine PWc.ret ?_
  replace h : _ = r0 := h
  subst h
  exact ⟨.inr rfl, _, .cons (.tmp rfl rfl) <| .nil, rfl⟩

theorem ctx_order_ok (m1 : List (Int × List TRun)) (r0 : List TPart) (h : (ctx_order m1).wp (· = r0)) : PRow Try.prog 97 [.md [.u16] false (encM kI (eL TRun.e) m1)] 101 2 (List.map TPart.e r0) := by
  refine PRow.intro (sl := [(0, _)]) Try.func97 rfl Try.ntmps97 rfl rfl ?_
  intro ctx hK
  refine PWc.seq ?_
  refine PWc.region ?_
  refine PWl.step (LR.assignNilRow 101 2 rfl) rfl ?_
  refine PWl.nil ?_
  refine PWc.seq ?_
  refine PWc.region ?_
  refine PWl.step (LR.assignNilRow 101 2 rfl) rfl ?_
  refine PWl.nil ?_
  refine PWc.seq ?_
  refine PWc.seq ?_
  refine PWc.region ?_
  refine PWl.step (LR.move rfl) rfl ?_
  refine PWl.rangeD Try.underlying126 rfl rfl rfl (fun bs2 ck2 hbl2 hbn2 => ?_)
  refine PWl.nil ?_
  refine PWc.jn (iBind h) (fun (c3 : List TPart) (_ : Unit) => ⟨27, [(3, .row 3 (List.length c3))], [(3, .row 101 2 (List.map TPart.e c3))]⟩) (fun h => ?_) ?_
  · refine PWc.block ?_
    refine PWc.loopM (fun (⟨seen28, c29⟩ : List Nat × List TPart) (_ : Unit) => ⟨27, [(3, .row 3 (List.length c29)), (7, .ref 7 0)], [(3, .row 101 2 (List.map TPart.e c29)), (7, .iterD [.u16] false (encM kI (eL TRun.e) m1) bs2 ck2 seen28)]⟩) () h (Sub.of rfl (.cons rfl rfl <| .cons rfl rfl <| .nil) (.cons rfl rfl <| .cons rfl rfl <| .nil)) ?_
    rintro N ⟨seen28, c29⟩ _ h
    refine PWc.seq ?_
    refine PWc.region ?_
    replace h := iNeed h
    obtain ⟨hy40, h⟩ := h
    replace h := iNxt h
    refine PWl.nextD rfl rfl (nxtD hy40) rfl (fun hy31 => ?_) (fun j30 hy32 hy33 => ?_)
    · replace h := h.1 (nxtA hy31)
      refine PWl.step (LR.extract rfl rfl) rfl ?_
      refine PWl.nil ?_
      refine PWc.seq ?_
      refine PWc.condF rfl ?_
      refine PWc.exit ?_
      exact ⟨c29, (), h, Sub.of rfl (.cons rfl rfl <| .nil) (.cons rfl rfl <| .nil)⟩
    · replace h := h.2 j30 (nxtB hy32) hy33
      refine PWl.step (LR.extract rfl rfl) rfl ?_
      refine PWl.nil ?_
      refine PWc.seq ?_
      refine PWc.condT rfl ?_
      refine PWc.skip ?_
      refine PWc.block ?_
      refine PWc.seq ?_
      refine PWc.region ?_
      replace h := iIdx h
      obtain ⟨kv34, hy35, h⟩ := h
      refine PWl.step (LR.entryD rfl rfl (entGet hy35) rfl rfl) rfl ?_
      refine PWl.step (LR.extract rfl rfl) rfl ?_
      refine PWl.step (LR.extract rfl rfl) rfl ?_
      refine PWl.step (LR.assign rfl) rfl ?_
      refine PWl.step (LR.assign rfl) rfl ?_
      refine PWl.nil ?_
      refine PWc.seq ?_
      refine PWc.region ?_
      refine PWl.step (LR.move rfl) rfl ?_
      replace h := iDet h
      obtain ⟨v36, hy37, h⟩ := h
      refine PWl.step (LR.rowN (runs_Norm_ok kv34.2 v36 hy37) rfl Try.call138 rfl rfl rfl rfl) rfl ?_
      refine PWl.step (LR.assign rfl) rfl ?_
      refine PWl.nil ?_
      refine PWc.seq ?_
      refine PWc.region ?_
      refine PWl.step (LR.move rfl) rfl ?_
      refine PWl.step (LR.lenRow Try.underlying34 rfl) rfl ?_
      refine PWl.step (LR.gtr rfl rfl) rfl ?_
      refine PWl.nil ?_
      refine PWc.cond rfl (fun hc38 => ?_) (fun hc38 => ?_)
      · replace h := iT hc38 h
        refine PWc.region ?_
        refine PWl.step (LR.move rfl) rfl ?_
        refine PWl.step (LR.move rfl) rfl ?_
        refine PWl.step (LR.move rfl) rfl ?_
        refine PWl.frz [5, 14, 15, 20] hK (.cons rfl <| .cons rfl <| .cons rfl <| .cons rfl <| .nil) rfl (by simp) ?_
        refine PWl.step (LR.build (ns := [_, _]) build101 rfl rfl rfl) rfl ?_
        refine PWl.step (LR.buildSliceD [.tmp 21] elem24 rfl rfl (.cons rfl rfl rfl <| .nil) (by decide) (by decide)) rfl ?_
        replace h := iNeed h
        obtain ⟨hy39, h⟩ := h
        refine PWl.step (LR.appT (enc := TPart.e) (L := c29) (R := [(⟨kv34.1, v36⟩ : TPart)]) [3, 18] elem24 Try.underlying24 rfl rfl rfl (Src.slT (enc := TPart.e) (R := [(⟨kv34.1, v36⟩ : TPart)]) rfl (fun _ => rfl)) (fun _ => rfl) hy39 rfl rfl) rfl ?_
        refine PWl.re (tl := [(7, _), (23, _)]) (to := [(3, _), (7, _)]) rfl (.cons rfl rfl <| .cons rfl rfl <| .nil) (.cons rfl rfl <| .cons rfl rfl <| .nil) ?_
        refine PWl.step (LR.assign rfl) rfl ?_
        refine PWl.nil ?_
        exact ⟨((seen28 ++ [j30]), (c29 ++ [(⟨kv34.1, v36⟩ : TPart)])), (), h, Sub.of rfl (.cons rfl rfl <| .cons rfl rfl <| .nil) (.cons rfl rfl <| .cons rfl rfl <| .nil)⟩
      · replace h := iF hc38 h
        refine PWc.skip ?_
        exact ⟨((seen28 ++ [j30]), c29), (), h, Sub.of rfl (.cons rfl rfl <| .cons rfl rfl <| .nil) (.cons rfl rfl <| .cons rfl rfl <| .nil)⟩
  · rintro c3 _ h
    refine PWc.seq ?_
    refine PWc.region ?_
    refine PWl.step (LR.move rfl) rfl ?_
    replace h := iNeed h
    obtain ⟨hy42, h⟩ := h
    refine PWl.sortFnR (encD := TPart.e) (enc := RawTPart.v) (lt := ltPart) (R := RawTPart.R) (l := c3) srt144_145 RawTPart.raw rlt144 (fun _ => rfl) (fun _ => rfl) rfl Try.call144 rfl rfl rfl (by simp) hy42 rfl (fun s41 hy43 hy44 => ?_)
    replace h := iSrt h s41 hy43 hy44
    have hy43l := hy43.length_eq
    refine PWl.nil ?_
    refine PWc.seq ?_
    refine PWc.region ?_
    refine PWl.step (LR.move rfl) rfl ?_
    refine PWl.step (LR.assign rfl) rfl ?_
    refine PWl.nil ?_
    refine PWc.ret ?_
    replace h : _ = r0 := h
    subst h
    exact ⟨.inr rfl, 2, rfl, .inr ⟨3, _, rfl, (by first | (simp; done) | (simp; omega) | omega), rfl⟩⟩

theorem ctx_Norm_ok (c1 : List TPart) (r0 : List TPart) (h : (ctx_Norm c1).wp (· = r0)) : PRow Try.prog 84 [.d (.sl (List.map TPart.e c1))] 101 2 (List.map TPart.e r0) := by
  refine PRow.intro (sl := [(0, _)]) Try.func84 rfl Try.ntmps84 rfl rfl ?_
  intro ctx hK
  refine PWc.seq ?_
  refine PWc.region ?_
  refine PWl.step (LR.assignNilRow 101 2 rfl) rfl ?_
  refine PWl.nil ?_
  refine PWc.seq ?_
  refine PWc.region ?_
  refine PWl.step (LR.move rfl) rfl ?_
  replace h := iDet h
  obtain ⟨v2, hy3, h⟩ := h
  refine PWl.mapN (ctx_told_ok c1 v2 hy3) rfl Try.call130 rfl rfl rfl rfl rfl (fun bs4 ck4 _ => ?_)
  replace h := iDet h
  obtain ⟨v5, hy6, h⟩ := h
  refine PWl.frzM [4] hK (.cons rfl <| .nil) rfl ?_
  refine PWl.step (LR.rowN (ctx_order_ok v2 v5 hy6) rfl Try.call97 rfl rfl rfl rfl) rfl ?_
  refine PWl.re (tl := [(0, _), (3, _), (4, _), (5, _)]) (to := [(5, _)]) rfl (.cons rfl rfl <| .cons rfl rfl <| .cons rfl rfl <| .cons rfl rfl <| .nil) (.cons rfl rfl <| .nil) ?_
  refine PWl.step (LR.assign rfl) rfl ?_
  refine PWl.nil ?_
  refine PWc.ret ?_
  replace h : _ = r0 := h
  subst h
  exact ⟨.inr rfl, 2, rfl, .inr ⟨5, _, rfl, (by simp), rfl⟩⟩

theorem pack_Writer_put_o_ok (b1 : List Int) (row2 : List Int) (r0 : List Int) (h : (pack_Writer_put_o b1 row2).wp (· = r0)) : PObj Try.prog 126 [.ref 100 0, .d (.sl (List.map (eK .u8) b1))] [(100, .cells 47 [.row 101 (List.length row2)]), (101, .row 5 1 (List.map (eK .u8) row2))] [100] (.tup []) (fun _ : Unit => [(100, .cells 47 [.row 101 (List.length r0)]), (101, .row 5 1 (List.map (eK .u8) r0))]) := by
  refine PObj.intro (sl := [(0, _), (1, _)]) Try.func126 rfl Try.ntmps126 rfl rfl rfl ?_
  intro ctx hK pv
  refine PWc.seq ?_
  refine PWc.region ?_
  refine PWl.step (LR.move rfl) rfl ?_
  refine PWl.step (LR.neqPtr Try.underlying49 rfl) rfl ?_
  refine PWl.nil ?_
  refine PWc.condT rfl ?_
  refine PWc.region ?_
  refine PWl.step (LR.move rfl) rfl ?_
  refine PWl.step (LR.move rfl) rfl ?_
  refine PWl.step (LR.nilCheckRef rfl) rfl ?_
  refine PWl.step (LR.fieldRef Try.underlying47 rfl Try.sizeOf45 (by decide) rfl rfl) rfl ?_
  refine PWl.step (LR.loadRef Try.isAgg45 rfl rfl rfl) rfl ?_
  refine PWl.step (LR.move rfl) rfl ?_
  replace h := iNeed h
  obtain ⟨hy3, h⟩ := h
  refine PWl.sub (Sub.junkCell (id := 100) (j := 0) rfl) ?_
  refine PWl.step (LR.appT (enc := (eK .u8)) (L := row2) (R := b1) [10] elem45 Try.underlying45 rfl rfl rfl (Src.slT (enc := (eK .u8)) (R := b1) rfl (fun _ => rfl)) (fun _ => rfl) hy3 rfl rfl) rfl ?_
  refine PWl.step (LR.nilCheckRef rfl) rfl ?_
  refine PWl.step (LR.fieldRef Try.underlying47 rfl Try.sizeOf45 (by decide) rfl rfl) rfl ?_
  refine PWl.step (LR.storeB (ns := [_]) Try.sizeOf45 rfl rfl rfl rfl rfl rfl rfl) rfl ?_
  refine PWl.nil ?_
  replace h : _ = r0 := h
  subst h
  exact EndsO.mk () (.inl rfl) (Sub.of (tl := []) (to := [(100, _), (101, _), (1100, _)]) rfl (.nil) (.cons rfl (by first | rfl | (congr 1; congr 2; first | (simp; done) | (simp; omega))) <| .cons rfl rfl <| .cons rfl rfl <| .nil)) (.nil) rfl rfl

theorem pack_Writer_Num_o_ok (v1 : Int) (row2 : List Int) (r0 : List Int) (h : (pack_Writer_Num_o v1 row2).wp (· = r0)) : PObj Try.prog 81 [.ref 100 0, .d (.v (.int .u64 v1))] [(100, .cells 47 [.row 101 (List.length row2)]), (101, .row 5 1 (List.map (eK .u8) row2))] [100] (.tup []) (fun _ : Unit => [(100, .cells 47 [.row 101 (List.length r0)]), (101, .row 5 1 (List.map (eK .u8) r0))]) := by
  refine PObj.intro (sl := [(0, _), (1, _)]) Try.func81 rfl Try.ntmps81 rfl rfl rfl ?_
  intro ctx hK pv
  refine PWc.region ?_
  refine PWl.step (LR.move rfl) rfl ?_
  refine PWl.step (LR.move rfl) rfl ?_
  replace h := iDet h
  obtain ⟨v3, hy4, h⟩ := h
  refine PWl.step (LR.rowN (num_Append_ok ([] : List Int) v1 v3 hy4) rfl Try.call127 rfl rfl rfl rfl) rfl ?_
  replace h := iDet h
  obtain ⟨y5, hy6, h⟩ := h
  refine PWl.frz [6] hK (.cons rfl <| .nil) rfl (by simp) ?_
  refine PWl.step (LR.callObj [(100, 100), (101, 101)] [] [100, 101] (pack_Writer_put_o_ok v3 row2 y5 hy6) hK rfl Try.call126 rfl (by first | rfl | (simp; done) | (simp [PV.nilD, PV.ren, rn]; omega)) (.cons (by first | rfl | (congr 1; first | (simp; done) | (simp; omega))) <| .cons (by first | rfl | (congr 1; first | (simp; done) | (simp; omega))) <| .nil) rfl rfl rfl rfl) rfl ?_
  refine PWl.nil ?_
  replace h : _ = r0 := h
  subst h
  exact EndsO.mk () (.inl rfl) (Sub.of (tl := []) (to := [(100, _), (101, _), (1100, _)]) rfl (.nil) (.cons rfl (by first | rfl | (congr 1; congr 2; first | (simp; done) | (simp; omega))) <| .cons rfl rfl <| .cons rfl rfl <| .nil)) (.nil) rfl rfl

theorem dcode_PutCtx_o_ok (c1 : List TPart) (row2 : List Int) (r0 : List Int) (h : (dcode_PutCtx_o c1 row2).wp (· = r0)) : PObj Try.prog 28 [.ref 100 0, .d (.sl (List.map TPart.e c1))] [(100, .cells 47 [.row 101 (List.length row2)]), (101, .row 5 1 (List.map (eK .u8) row2))] [100] (.tup []) (fun _ : Unit => [(100, .cells 47 [.row 101 (List.length r0)]), (101, .row 5 1 (List.map (eK .u8) r0))]) := by
  refine PObj.intro (sl := [(0, _), (1, _)]) Try.func28 rfl Try.ntmps28 rfl rfl rfl ?_
  intro ctx hK pv
  refine PWc.seq ?_
  refine PWc.region ?_
  refine PWl.step (LR.move rfl) rfl ?_
  replace h := iDet h
  obtain ⟨v3, hy4, h⟩ := h
  refine PWl.step (LR.rowN (ctx_Norm_ok c1 v3 hy4) rfl Try.call84 rfl rfl rfl rfl) rfl ?_
  refine PWl.step (LR.assign rfl) rfl ?_
  refine PWl.nil ?_
  refine PWc.seq ?_
  refine PWc.region ?_
  refine PWl.step (LR.move rfl) rfl ?_
  refine PWl.step (LR.move rfl) rfl ?_
  refine PWl.step (LR.lenRow Try.underlying24 rfl) rfl ?_
  refine PWl.step (LR.convInt Try.underlying36 (by rw [Try.underlying3]; rfl) rfl rfl) rfl ?_
  replace h := iDet h
  obtain ⟨y5, hy6, h⟩ := h
  refine PWl.step (LR.callObj [(100, 100), (101, 101)] [] [100, 101] (pack_Writer_Num_o_ok ((IntKind.u64.wrap ((List.length v3) : Int))) row2 y5 hy6) hK rfl Try.call81 rfl (by first | rfl | (simp; done) | (simp [PV.nilD, PV.ren, rn]; omega)) (.cons (by first | rfl | (congr 1; first | (simp; done) | (simp; omega))) <| .cons (by first | rfl | (congr 1; first | (simp; done) | (simp; omega))) <| .nil) rfl rfl rfl rfl) rfl ?_
  refine PWl.nil ?_
  refine PWc.seq ?_
  refine PWc.re (tl := [(0, _), (1, _)]) (to := [(9, _), (100, _), (101, _), (1100, _)]) rfl (.cons rfl rfl <| .cons rfl rfl <| .nil) (.cons rfl rfl <| .cons rfl rfl <| .cons rfl rfl <| .cons rfl rfl <| .nil) ?_
  refine PWc.region ?_
  refine PWl.step (LR.move rfl) rfl ?_
  refine PWl.step (LR.lenRow Try.underlying24 rfl) rfl ?_
  refine PWl.step (LR.move rfl) rfl ?_
  refine PWl.nil ?_
  refine PWc.block ?_
  refine PWc.loopM (fun (⟨v75, v76⟩ : Int × List Int) (_ : Unit) => ⟨49, [(0, .ref 100 0), (15, .row 9 (List.length v3)), (16, .d (.v (.int .i64 ((List.length v3) : Int)))), (17, .d (.v (.int .i64 v75)))], [(9, .row 101 2 (List.map TPart.e v3)), (100, .cells 47 [.row 101 (List.length v76)]), (101, .row 5 1 (List.map (eK .u8) v76)), (1100, .pin 100 (pv 100).1 (pv 100).2)]⟩) () h (Sub.of rfl (.cons rfl rfl <| .cons rfl rfl <| .cons rfl rfl <| .cons rfl rfl <| .nil) (.cons rfl rfl <| .cons rfl rfl <| .cons rfl rfl <| .cons rfl rfl <| .nil)) ?_
  rintro N ⟨v75, v76⟩ _ h
  refine PWc.seq ?_
  refine PWc.region ?_
  refine PWl.step (LR.lss rfl rfl) rfl ?_
  refine PWl.nil ?_
  refine PWc.seq ?_
  refine PWc.cond rfl (fun hc77 => ?_) (fun hc77 => ?_)
  · replace h := iT hc77 h
    refine PWc.skip ?_
    refine PWc.seq ?_
    refine PWc.jn (iBind h) (fun (v78 : List Int) (_ : Unit) => ⟨49, [(0, .ref 100 0), (15, .row 9 (List.length v3)), (16, .d (.v (.int .i64 ((List.length v3) : Int)))), (17, .d (.v (.int .i64 v75)))], [(9, .row 101 2 (List.map TPart.e v3)), (100, .cells 47 [.row 101 (List.length v78)]), (101, .row 5 1 (List.map (eK .u8) v78)), (1100, .pin 100 (pv 100).1 (pv 100).2)]⟩) (fun h => ?_) ?_
    · refine PWc.block ?_
      refine PWc.seq ?_
      refine PWc.region ?_
      replace h := iIdx h
      obtain ⟨x79, hy80, h⟩ := h
      refine PWl.step (LR.idxRowT (L := v3) (y := x79) Try.underlying24 Try.sizeOf101 rfl rfl rfl hy80) rfl ?_
      refine PWl.step (LR.loadRpT (enc := TPart.e) (L := v3) (y := x79) Try.isAgg101 Try.sizeOf101 rfl rfl hy80.2) rfl ?_
      refine PWl.step (LR.allocZ (cs := [_, _]) Try.zeroValue101 rfl rfl rfl rfl) rfl ?_
      refine PWl.step (LR.storeB (ns := [_, _]) Try.sizeOf101 rfl rfl rfl rfl rfl rfl rfl) rfl ?_
      refine PWl.nil ?_
      refine PWc.seq ?_
      refine PWc.region ?_
      refine PWl.step (LR.move rfl) rfl ?_
      refine PWl.step (LR.fieldRef Try.underlying101 rfl Try.sizeOf28 (by decide) rfl rfl) rfl ?_
      refine PWl.step (LR.loadRef Try.isAgg28 rfl rfl rfl) rfl ?_
      refine PWl.step (LR.convInt Try.underlying36 (by rw [Try.underlying28]; rfl) rfl rfl) rfl ?_
      replace h := iDet h
      obtain ⟨y81, hy82, h⟩ := h
      refine PWl.step (LR.callObj [(100, 100), (101, 101)] [] [100, 101] (pack_Writer_Num_o_ok (IntKind.u64.wrap x79.dev) v76 y81 hy82) hK rfl Try.call81 rfl (by first | rfl | (simp; done) | (simp [PV.nilD, PV.ren, rn]; omega)) (.cons (by first | rfl | (congr 1; first | (simp; done) | (simp; omega))) <| .cons (by first | rfl | (congr 1; first | (simp; done) | (simp; omega))) <| .nil) rfl rfl rfl rfl) rfl ?_
      refine PWl.nil ?_
      refine PWc.seq ?_
      refine PWc.re (tl := [(0, _), (5, _), (15, _), (16, _), (17, _)]) (to := [(5, _), (9, _), (100, _), (101, _), (1100, _)]) rfl (.cons rfl rfl <| .cons rfl rfl <| .cons rfl rfl <| .cons rfl rfl <| .cons rfl rfl <| .nil) (.cons rfl rfl <| .cons rfl rfl <| .cons rfl rfl <| .cons rfl rfl <| .cons rfl rfl <| .nil) ?_
      refine PWc.region ?_
      refine PWl.step (LR.move rfl) rfl ?_
      refine PWl.step (LR.fieldRef Try.underlying101 rfl Try.sizeOf34 (by decide) rfl rfl) rfl ?_
      refine PWl.step (LR.loadRef Try.isAgg34 rfl rfl rfl) rfl ?_
      refine PWl.step (LR.lenMap (enc := TRun.e) (L := x79.runs) Try.underlying34 rfl) rfl ?_
      refine PWl.step (LR.convInt Try.underlying36 (by rw [Try.underlying3]; rfl) rfl rfl) rfl ?_
      replace h := iDet h
      obtain ⟨y83, hy84, h⟩ := h
      refine PWl.step (LR.callObj [(100, 100), (101, 101)] [] [100, 101] (pack_Writer_Num_o_ok (IntKind.u64.wrap (List.length x79.runs : Int)) y81 y83 hy84) hK rfl Try.call81 rfl (by first | rfl | (simp; done) | (simp [PV.nilD, PV.ren, rn]; omega)) (.cons (by first | rfl | (congr 1; first | (simp; done) | (simp; omega))) <| .cons (by first | rfl | (congr 1; first | (simp; done) | (simp; omega))) <| .nil) rfl rfl rfl rfl) rfl ?_
      refine PWl.nil ?_
      refine PWc.seq ?_
      refine PWc.re (tl := [(0, _), (5, _), (15, _), (16, _), (17, _)]) (to := [(5, _), (9, _), (100, _), (101, _), (1100, _)]) rfl (.cons rfl rfl <| .cons rfl rfl <| .cons rfl rfl <| .cons rfl rfl <| .cons rfl rfl <| .nil) (.cons rfl rfl <| .cons rfl rfl <| .cons rfl rfl <| .cons rfl rfl <| .cons rfl rfl <| .nil) ?_
      refine PWc.region ?_
      refine PWl.step (LR.fieldRef Try.underlying101 rfl Try.sizeOf34 (by decide) rfl rfl) rfl ?_
      refine PWl.step (LR.loadRef Try.isAgg34 rfl rfl rfl) rfl ?_
      refine PWl.step (LR.lenMap (enc := TRun.e) (L := x79.runs) Try.underlying34 rfl) rfl ?_
      refine PWl.step (LR.move rfl) rfl ?_
      refine PWl.nil ?_
      refine PWc.block ?_
      refine PWc.loopM (fun (⟨v101, v102⟩ : Int × List Int) (_ : Unit) => ⟨49, [(0, .ref 100 0), (15, .row 9 (List.length v3)), (16, .d (.v (.int .i64 ((List.length v3) : Int)))), (17, .d (.v (.int .i64 v75))), (33, .d (.sl (List.map TRun.e x79.runs))), (34, .d (.v (.int .i64 (List.length x79.runs : Int)))), (35, .d (.v (.int .i64 v101)))], [(9, .row 101 2 (List.map TPart.e v3)), (100, .cells 47 [.row 101 (List.length v102)]), (101, .row 5 1 (List.map (eK .u8) v102)), (1100, .pin 100 (pv 100).1 (pv 100).2)]⟩) () h (Sub.of rfl (.cons rfl rfl <| .cons rfl rfl <| .cons rfl rfl <| .cons rfl rfl <| .cons rfl rfl <| .cons rfl rfl <| .cons rfl rfl <| .nil) (.cons rfl rfl <| .cons rfl rfl <| .cons rfl rfl <| .cons rfl rfl <| .nil)) ?_
      rintro N ⟨v101, v102⟩ _ h
      refine PWc.seq ?_
      refine PWc.region ?_
      refine PWl.step (LR.lss rfl rfl) rfl ?_
      refine PWl.nil ?_
      refine PWc.seq ?_
      refine PWc.cond rfl (fun hc103 => ?_) (fun hc103 => ?_)
      · replace h := iT hc103 h
        refine PWc.skip ?_
        refine PWc.seq ?_
        refine PWc.block ?_
        refine PWc.seq ?_
        refine PWc.region ?_
        replace h := iIdx h
        obtain ⟨x104, hy105, h⟩ := h
        refine PWl.step (LR.idxT (enc := TRun.e) (L := x79.runs) (y := x104) Try.underlying34 Try.sizeOf114 rfl rfl hy105 (fun _ => rfl)) rfl ?_
        refine PWl.step (LR.loadEpAgg (ys := [_, _]) Try.isAgg114 Try.sizeOf114 rfl rfl rfl) rfl ?_
        refine PWl.step (LR.allocZ (cs := [_, _]) Try.zeroValue114 rfl rfl rfl rfl) rfl ?_
        refine PWl.step (LR.storeB (ns := [_, _]) Try.sizeOf114 rfl rfl rfl rfl rfl rfl rfl) rfl ?_
        refine PWl.nil ?_
        refine PWc.seq ?_
        refine PWc.region ?_
        refine PWl.step (LR.move rfl) rfl ?_
        refine PWl.step (LR.fieldRef Try.underlying114 rfl Try.sizeOf36 (by decide) rfl rfl) rfl ?_
        refine PWl.step (LR.loadRef Try.isAgg36 rfl rfl rfl) rfl ?_
        replace h := iDet h
        obtain ⟨y106, hy107, h⟩ := h
        refine PWl.step (LR.callObj [(100, 100), (101, 101)] [] [100, 101] (pack_Writer_Num_o_ok x104.lo v102 y106 hy107) hK rfl Try.call81 rfl (by first | rfl | (simp; done) | (simp [PV.nilD, PV.ren, rn]; omega)) (.cons (by first | rfl | (congr 1; first | (simp; done) | (simp; omega))) <| .cons (by first | rfl | (congr 1; first | (simp; done) | (simp; omega))) <| .nil) rfl rfl rfl rfl) rfl ?_
        refine PWl.nil ?_
        refine PWc.re (tl := [(0, _), (7, _), (15, _), (16, _), (17, _), (33, _), (34, _), (35, _)]) (to := [(7, _), (9, _), (100, _), (101, _), (1100, _)]) rfl (.cons rfl rfl <| .cons rfl rfl <| .cons rfl rfl <| .cons rfl rfl <| .cons rfl rfl <| .cons rfl rfl <| .cons rfl rfl <| .cons rfl rfl <| .nil) (.cons rfl rfl <| .cons rfl rfl <| .cons rfl rfl <| .cons rfl rfl <| .cons rfl rfl <| .nil) ?_
        refine PWc.region ?_
        refine PWl.step (LR.move rfl) rfl ?_
        refine PWl.step (LR.fieldRef Try.underlying114 rfl Try.sizeOf36 (by decide) rfl rfl) rfl ?_
        refine PWl.step (LR.loadRef Try.isAgg36 rfl rfl rfl) rfl ?_
        replace h := iDet h
        obtain ⟨y108, hy109, h⟩ := h
        refine PWl.step (LR.callObj [(100, 100), (101, 101)] [] [100, 101] (pack_Writer_Num_o_ok x104.hi y106 y108 hy109) hK rfl Try.call81 rfl (by first | rfl | (simp; done) | (simp [PV.nilD, PV.ren, rn]; omega)) (.cons (by first | rfl | (congr 1; first | (simp; done) | (simp; omega))) <| .cons (by first | rfl | (congr 1; first | (simp; done) | (simp; omega))) <| .nil) rfl rfl rfl rfl) rfl ?_
        refine PWl.nil ?_
        refine PWc.re (tl := [(0, _), (15, _), (16, _), (17, _), (33, _), (34, _), (35, _)]) (to := [(9, _), (100, _), (101, _), (1100, _)]) rfl (.cons rfl rfl <| .cons rfl rfl <| .cons rfl rfl <| .cons rfl rfl <| .cons rfl rfl <| .cons rfl rfl <| .cons rfl rfl <| .nil) (.cons rfl rfl <| .cons rfl rfl <| .cons rfl rfl <| .cons rfl rfl <| .nil) ?_
        refine PWc.region ?_
        refine PWl.step (LR.addW rfl rfl) rfl ?_
        refine PWl.step (LR.move rfl) rfl ?_
        refine PWl.nil ?_
        exact ⟨((IntKind.i64.wrap (v101 + 1)), y108), (), h, Sub.of rfl (.cons rfl rfl <| .cons rfl rfl <| .cons rfl rfl <| .cons rfl rfl <| .cons rfl rfl <| .cons rfl rfl <| .cons rfl rfl <| .nil) (.cons rfl rfl <| .cons rfl rfl <| .cons rfl rfl <| .cons rfl rfl <| .nil)⟩
      · replace h := iF hc103 h
        refine PWc.exit ?_
        exact ⟨v102, (), h, Sub.of rfl (.cons rfl rfl <| .cons rfl rfl <| .cons rfl rfl <| .cons rfl rfl <| .nil) (.cons rfl rfl <| .cons rfl rfl <| .cons rfl rfl <| .cons rfl rfl <| .nil)⟩
    · rintro v78 _ h
      refine PWc.region ?_
      refine PWl.step (LR.addW rfl rfl) rfl ?_
      refine PWl.step (LR.move rfl) rfl ?_
      refine PWl.nil ?_
      exact ⟨((IntKind.i64.wrap (v75 + 1)), v78), (), h, Sub.of rfl (.cons rfl rfl <| .cons rfl rfl <| .cons rfl rfl <| .cons rfl rfl <| .nil) (.cons rfl rfl <| .cons rfl rfl <| .cons rfl rfl <| .cons rfl rfl <| .nil)⟩
  · replace h := iF hc77 h
    refine PWc.exit ?_
    replace h : _ = r0 := h
    subst h
    exact EndsO.mk () (.inl rfl) (Sub.of (tl := []) (to := [(100, _), (101, _), (1100, _)]) rfl (.nil) (.cons rfl (by first | rfl | (congr 1; congr 2; first | (simp; done) | (simp; omega))) <| .cons rfl rfl <| .cons rfl rfl <| .nil)) (.nil) rfl rfl
end Go.Proofs

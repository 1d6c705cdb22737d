/- Walks: written by program. -/
import Derived.Test.YtacnidaafcfgiaaGreatDFc
import Derived.Test.YtacnidaafcfgiaaGreatDSh
import Derived.Test.YtacnidaafcfgiaaGreatDSx
import Derived.Test.YtacnidaafcfgiaaGreatTl
import Derived.Test.YtacnidaafcfgiaaGreatSr
import Derived.Test.YtacnidaafcfgiaaGreatDr
import Derived.Test.YtacnidaafcfgiaaGreatOb
import Derived.Test.YtacnidaafcfgiaaGreatOe
import Derived.Test.YtacnidaafcfgiaaGreatLs
import Derived.Test.YtacnidaafcfgiaaGreatTl
import Derived.Test.YtacnidaafcfgiaaGreatStr
import Derived.Test.YtacnidaafcfgiaaGreatPc
import Derived.Test.YtacnidaafcfgiaaGreatDW2
namespace Go.Proofs
open Go.Ep
set_option maxHeartbeats 1000000
set_option maxRecDepth 100000
set_option linter.unusedVariables false
set_option linter.unusedSimpArgs false


theorem dcode_PutCtx_o_ok (c1 : List TPart) (row2 : List Int) (r0 : List Int) (h : (dcode_PutCtx_o c1 row2).wp (· = r0)) : PObj Tryz.prog 55 [.ref 100 0, .d (.sl (List.map TPart.e c1))] [(100, .cells 71 [.row 101 (List.length row2)]), (101, .row 5 1 (List.map (eK .u8) row2))] [100] (.tup []) (fun _ : Unit => [(100, .cells 71 [.row 101 (List.length r0)]), (101, .row 5 1 (List.map (eK .u8) r0))]) := by
  refine PObj.intro (sl := [(0, _), (1, _)]) Tryz.func55 rfl Tryz.ntmps55 rfl rfl rfl ?_
  intro ctx hK pv
  refine PWc.seq ?_
  refine PWc.region ?_
  refine PWl.step (LR.move rfl) rfl ?_
  replace h := iDet h
  obtain ⟨v3, hy4, h⟩ := h
  refine PWl.step (LR.rowN (ctx_Norm_ok c1 v3 hy4) rfl Tryz.call20 rfl rfl rfl rfl) rfl ?_
  refine PWl.step (LR.assign rfl) rfl ?_
  refine PWl.nil ?_
  refine PWc.seq ?_
  refine PWc.region ?_
  refine PWl.step (LR.move rfl) rfl ?_
  refine PWl.step (LR.move rfl) rfl ?_
  refine PWl.step (LR.lenRow Tryz.underlying23 rfl) rfl ?_
  refine PWl.step (LR.convInt Tryz.underlying30 (by rw [Tryz.underlying3]; rfl) rfl rfl) rfl ?_
  replace h := iDet h
  obtain ⟨y5, hy6, h⟩ := h
  refine PWl.step (LR.callObj [(100, 100), (101, 101)] [] [100, 101] (pack_Writer_Num_o_ok ((IntKind.u64.wrap ((List.length v3) : Int))) row2 y5 hy6) hK rfl Tryz.call92 rfl (by first | rfl | (simp; done) | (simp [PV.nilD, PV.ren, rn]; omega)) (.cons (by first | rfl | (congr 1; first | (simp; done) | (simp; omega))) <| .cons (by first | rfl | (congr 1; first | (simp; done) | (simp; omega))) <| .nil) rfl rfl rfl rfl) rfl ?_
  refine PWl.nil ?_
  refine PWc.seq ?_
  refine PWc.re (tl := [(0, _), (1, _)]) (to := [(9, _), (100, _), (101, _), (1100, _)]) rfl (.cons rfl rfl <| .cons rfl rfl <| .nil) (.cons rfl rfl <| .cons rfl rfl <| .cons rfl rfl <| .cons rfl rfl <| .nil) ?_
  refine PWc.region ?_
  refine PWl.step (LR.move rfl) rfl ?_
  refine PWl.step (LR.lenRow Tryz.underlying23 rfl) rfl ?_
  refine PWl.step (LR.move rfl) rfl ?_
  refine PWl.nil ?_
  refine PWc.block ?_
  refine PWc.loopM (fun (⟨v75, v76⟩ : Int × List Int) (_ : Unit) => ⟨49, [(0, .ref 100 0), (15, .row 9 (List.length v3)), (16, .d (.v (.int .i64 ((List.length v3) : Int)))), (17, .d (.v (.int .i64 v75)))], [(9, .row 80 2 (List.map TPart.e v3)), (100, .cells 71 [.row 101 (List.length v76)]), (101, .row 5 1 (List.map (eK .u8) v76)), (1100, .pin 100 (pv 100).1 (pv 100).2)]⟩) () h (Sub.of rfl (.cons rfl rfl <| .cons rfl rfl <| .cons rfl rfl <| .cons rfl rfl <| .nil) (.cons rfl rfl <| .cons rfl rfl <| .cons rfl rfl <| .cons rfl rfl <| .nil)) ?_
  rintro N ⟨v75, v76⟩ _ h
  refine PWc.seq ?_
  refine PWc.region ?_
  refine PWl.step (LR.lss rfl rfl) rfl ?_
  refine PWl.nil ?_
  refine PWc.seq ?_
  refine PWc.cond rfl (fun hc77 => ?_) (fun hc77 => ?_)
  · replace h := iT hc77 h
    refine PWc.skip ?_
    refine PWc.seq ?_
    refine PWc.jn (iBind h) (fun (v78 : List Int) (_ : Unit) => ⟨49, [(0, .ref 100 0), (15, .row 9 (List.length v3)), (16, .d (.v (.int .i64 ((List.length v3) : Int)))), (17, .d (.v (.int .i64 v75)))], [(9, .row 80 2 (List.map TPart.e v3)), (100, .cells 71 [.row 101 (List.length v78)]), (101, .row 5 1 (List.map (eK .u8) v78)), (1100, .pin 100 (pv 100).1 (pv 100).2)]⟩) (fun h => ?_) ?_
    · refine PWc.block ?_
      refine PWc.seq ?_
      refine PWc.region ?_
      replace h := iIdx h
      obtain ⟨x79, hy80, h⟩ := h
      refine PWl.step (LR.idxRowT (L := v3) (y := x79) Tryz.underlying23 Tryz.sizeOf80 rfl rfl rfl hy80) rfl ?_
      refine PWl.step (LR.loadRpT (enc := TPart.e) (L := v3) (y := x79) Tryz.isAgg80 Tryz.sizeOf80 rfl rfl hy80.2) rfl ?_
      refine PWl.step (LR.allocZ (cs := [_, _]) Tryz.zeroValue80 rfl rfl rfl rfl) rfl ?_
      refine PWl.step (LR.storeB (ns := [_, _]) Tryz.sizeOf80 rfl rfl rfl rfl rfl rfl rfl) rfl ?_
      refine PWl.nil ?_
      refine PWc.seq ?_
      refine PWc.region ?_
      refine PWl.step (LR.move rfl) rfl ?_
      refine PWl.step (LR.fieldRef Tryz.underlying80 rfl Tryz.sizeOf29 (by decide) rfl rfl) rfl ?_
      refine PWl.step (LR.loadRef Tryz.isAgg29 rfl rfl rfl) rfl ?_
      refine PWl.step (LR.convInt Tryz.underlying30 (by rw [Tryz.underlying29]; rfl) rfl rfl) rfl ?_
      replace h := iDet h
      obtain ⟨y81, hy82, h⟩ := h
      refine PWl.step (LR.callObj [(100, 100), (101, 101)] [] [100, 101] (pack_Writer_Num_o_ok (IntKind.u64.wrap x79.dev) v76 y81 hy82) hK rfl Tryz.call92 rfl (by first | rfl | (simp; done) | (simp [PV.nilD, PV.ren, rn]; omega)) (.cons (by first | rfl | (congr 1; first | (simp; done) | (simp; omega))) <| .cons (by first | rfl | (congr 1; first | (simp; done) | (simp; omega))) <| .nil) rfl rfl rfl rfl) rfl ?_
      refine PWl.nil ?_
      refine PWc.seq ?_
      refine PWc.re (tl := [(0, _), (5, _), (15, _), (16, _), (17, _)]) (to := [(5, _), (9, _), (100, _), (101, _), (1100, _)]) rfl (.cons rfl rfl <| .cons rfl rfl <| .cons rfl rfl <| .cons rfl rfl <| .cons rfl rfl <| .nil) (.cons rfl rfl <| .cons rfl rfl <| .cons rfl rfl <| .cons rfl rfl <| .cons rfl rfl <| .nil) ?_
      refine PWc.region ?_
      refine PWl.step (LR.move rfl) rfl ?_
      refine PWl.step (LR.fieldRef Tryz.underlying80 rfl Tryz.sizeOf37 (by decide) rfl rfl) rfl ?_
      refine PWl.step (LR.loadRef Tryz.isAgg37 rfl rfl rfl) rfl ?_
      refine PWl.step (LR.lenMap (enc := TRun.e) (L := x79.runs) Tryz.underlying37 rfl) rfl ?_
      refine PWl.step (LR.convInt Tryz.underlying30 (by rw [Tryz.underlying3]; rfl) rfl rfl) rfl ?_
      replace h := iDet h
      obtain ⟨y83, hy84, h⟩ := h
      refine PWl.step (LR.callObj [(100, 100), (101, 101)] [] [100, 101] (pack_Writer_Num_o_ok (IntKind.u64.wrap (List.length x79.runs : Int)) y81 y83 hy84) hK rfl Tryz.call92 rfl (by first | rfl | (simp; done) | (simp [PV.nilD, PV.ren, rn]; omega)) (.cons (by first | rfl | (congr 1; first | (simp; done) | (simp; omega))) <| .cons (by first | rfl | (congr 1; first | (simp; done) | (simp; omega))) <| .nil) rfl rfl rfl rfl) rfl ?_
      refine PWl.nil ?_
      refine PWc.seq ?_
      refine PWc.re (tl := [(0, _), (5, _), (15, _), (16, _), (17, _)]) (to := [(5, _), (9, _), (100, _), (101, _), (1100, _)]) rfl (.cons rfl rfl <| .cons rfl rfl <| .cons rfl rfl <| .cons rfl rfl <| .cons rfl rfl <| .nil) (.cons rfl rfl <| .cons rfl rfl <| .cons rfl rfl <| .cons rfl rfl <| .cons rfl rfl <| .nil) ?_
      refine PWc.region ?_
      refine PWl.step (LR.fieldRef Tryz.underlying80 rfl Tryz.sizeOf37 (by decide) rfl rfl) rfl ?_
      refine PWl.step (LR.loadRef Tryz.isAgg37 rfl rfl rfl) rfl ?_
      refine PWl.step (LR.lenMap (enc := TRun.e) (L := x79.runs) Tryz.underlying37 rfl) rfl ?_
      refine PWl.step (LR.move rfl) rfl ?_
      refine PWl.nil ?_
      refine PWc.block ?_
      refine PWc.loopM (fun (⟨v101, v102⟩ : Int × List Int) (_ : Unit) => ⟨49, [(0, .ref 100 0), (15, .row 9 (List.length v3)), (16, .d (.v (.int .i64 ((List.length v3) : Int)))), (17, .d (.v (.int .i64 v75))), (33, .d (.sl (List.map TRun.e x79.runs))), (34, .d (.v (.int .i64 (List.length x79.runs : Int)))), (35, .d (.v (.int .i64 v101)))], [(9, .row 80 2 (List.map TPart.e v3)), (100, .cells 71 [.row 101 (List.length v102)]), (101, .row 5 1 (List.map (eK .u8) v102)), (1100, .pin 100 (pv 100).1 (pv 100).2)]⟩) () h (Sub.of rfl (.cons rfl rfl <| .cons rfl rfl <| .cons rfl rfl <| .cons rfl rfl <| .cons rfl rfl <| .cons rfl rfl <| .cons rfl rfl <| .nil) (.cons rfl rfl <| .cons rfl rfl <| .cons rfl rfl <| .cons rfl rfl <| .nil)) ?_
      rintro N ⟨v101, v102⟩ _ h
      refine PWc.seq ?_
      refine PWc.region ?_
      refine PWl.step (LR.lss rfl rfl) rfl ?_
      refine PWl.nil ?_
      refine PWc.seq ?_
      refine PWc.cond rfl (fun hc103 => ?_) (fun hc103 => ?_)
      · replace h := iT hc103 h
        refine PWc.skip ?_
        refine PWc.seq ?_
        refine PWc.block ?_
        refine PWc.seq ?_
        refine PWc.region ?_
        replace h := iIdx h
        obtain ⟨x104, hy105, h⟩ := h
        refine PWl.step (LR.idxT (enc := TRun.e) (L := x79.runs) (y := x104) Tryz.underlying37 Tryz.sizeOf89 rfl rfl hy105 (fun _ => rfl)) rfl ?_
        refine PWl.step (LR.loadEpAgg (ys := [_, _]) Tryz.isAgg89 Tryz.sizeOf89 rfl rfl rfl) rfl ?_
        refine PWl.step (LR.allocZ (cs := [_, _]) Tryz.zeroValue89 rfl rfl rfl rfl) rfl ?_
        refine PWl.step (LR.storeB (ns := [_, _]) Tryz.sizeOf89 rfl rfl rfl rfl rfl rfl rfl) rfl ?_
        refine PWl.nil ?_
        refine PWc.seq ?_
        refine PWc.region ?_
        refine PWl.step (LR.move rfl) rfl ?_
        refine PWl.step (LR.fieldRef Tryz.underlying89 rfl Tryz.sizeOf30 (by decide) rfl rfl) rfl ?_
        refine PWl.step (LR.loadRef Tryz.isAgg30 rfl rfl rfl) rfl ?_
        replace h := iDet h
        obtain ⟨y106, hy107, h⟩ := h
        refine PWl.step (LR.callObj [(100, 100), (101, 101)] [] [100, 101] (pack_Writer_Num_o_ok x104.lo v102 y106 hy107) hK rfl Tryz.call92 rfl (by first | rfl | (simp; done) | (simp [PV.nilD, PV.ren, rn]; omega)) (.cons (by first | rfl | (congr 1; first | (simp; done) | (simp; omega))) <| .cons (by first | rfl | (congr 1; first | (simp; done) | (simp; omega))) <| .nil) rfl rfl rfl rfl) rfl ?_
        refine PWl.nil ?_
        refine PWc.re (tl := [(0, _), (7, _), (15, _), (16, _), (17, _), (33, _), (34, _), (35, _)]) (to := [(7, _), (9, _), (100, _), (101, _), (1100, _)]) rfl (.cons rfl rfl <| .cons rfl rfl <| .cons rfl rfl <| .cons rfl rfl <| .cons rfl rfl <| .cons rfl rfl <| .cons rfl rfl <| .cons rfl rfl <| .nil) (.cons rfl rfl <| .cons rfl rfl <| .cons rfl rfl <| .cons rfl rfl <| .cons rfl rfl <| .nil) ?_
        refine PWc.region ?_
        refine PWl.step (LR.move rfl) rfl ?_
        refine PWl.step (LR.fieldRef Tryz.underlying89 rfl Tryz.sizeOf30 (by decide) rfl rfl) rfl ?_
        refine PWl.step (LR.loadRef Tryz.isAgg30 rfl rfl rfl) rfl ?_
        replace h := iDet h
        obtain ⟨y108, hy109, h⟩ := h
        refine PWl.step (LR.callObj [(100, 100), (101, 101)] [] [100, 101] (pack_Writer_Num_o_ok x104.hi y106 y108 hy109) hK rfl Tryz.call92 rfl (by first | rfl | (simp; done) | (simp [PV.nilD, PV.ren, rn]; omega)) (.cons (by first | rfl | (congr 1; first | (simp; done) | (simp; omega))) <| .cons (by first | rfl | (congr 1; first | (simp; done) | (simp; omega))) <| .nil) rfl rfl rfl rfl) rfl ?_
        refine PWl.nil ?_
        refine PWc.re (tl := [(0, _), (15, _), (16, _), (17, _), (33, _), (34, _), (35, _)]) (to := [(9, _), (100, _), (101, _), (1100, _)]) rfl (.cons rfl rfl <| .cons rfl rfl <| .cons rfl rfl <| .cons rfl rfl <| .cons rfl rfl <| .cons rfl rfl <| .cons rfl rfl <| .nil) (.cons rfl rfl <| .cons rfl rfl <| .cons rfl rfl <| .cons rfl rfl <| .nil) ?_
        refine PWc.region ?_
        refine PWl.step (LR.addW rfl rfl) rfl ?_
        refine PWl.step (LR.move rfl) rfl ?_
        refine PWl.nil ?_
        exact ⟨((IntKind.i64.wrap (v101 + 1)), y108), (), h, Sub.of rfl (.cons rfl rfl <| .cons rfl rfl <| .cons rfl rfl <| .cons rfl rfl <| .cons rfl rfl <| .cons rfl rfl <| .cons rfl rfl <| .nil) (.cons rfl rfl <| .cons rfl rfl <| .cons rfl rfl <| .cons rfl rfl <| .nil)⟩
      · replace h := iF hc103 h
        refine PWc.exit ?_
        exact ⟨v102, (), h, Sub.of rfl (.cons rfl rfl <| .cons rfl rfl <| .cons rfl rfl <| .cons rfl rfl <| .nil) (.cons rfl rfl <| .cons rfl rfl <| .cons rfl rfl <| .cons rfl rfl <| .nil)⟩
    · rintro v78 _ h
      refine PWc.region ?_
      refine PWl.step (LR.addW rfl rfl) rfl ?_
      refine PWl.step (LR.move rfl) rfl ?_
      refine PWl.nil ?_
      exact ⟨((IntKind.i64.wrap (v75 + 1)), v78), (), h, Sub.of rfl (.cons rfl rfl <| .cons rfl rfl <| .cons rfl rfl <| .cons rfl rfl <| .nil) (.cons rfl rfl <| .cons rfl rfl <| .cons rfl rfl <| .cons rfl rfl <| .nil)⟩
  · replace h := iF hc77 h
    refine PWc.exit ?_
    replace h : _ = r0 := h
    subst h
    exact EndsO.mk () (.inl rfl) (Sub.of (tl := []) (to := [(100, _), (101, _), (1100, _)]) rfl (.nil) (.cons rfl (by first | rfl | (congr 1; congr 2; first | (simp; done) | (simp; omega))) <| .cons rfl rfl <| .cons rfl rfl <| .nil)) (.nil) rfl rfl

theorem pack_Writer_Bytes_o_ok (row1 : List Int) (r0 : List Int × List Int) (h : (pack_Writer_Bytes_o row1).wp (· = r0)) : PObj Tryz.prog 58 [.ref 100 0] [(100, .cells 71 [.row 101 (List.length row1)]), (101, .row 5 1 (List.map (eK .u8) row1))] [100] (.d (.sl (List.map (eK .u8) r0.1))) (fun _ : Unit => [(100, .cells 71 [.row 101 (List.length r0.2)]), (101, .row 5 1 (List.map (eK .u8) r0.2))]) := by
  refine PObj.intro (sl := [(0, _)]) Tryz.func58 rfl Tryz.ntmps58 rfl rfl rfl ?_
  intro ctx hK pv
  refine PWc.seq ?_
  refine PWc.region ?_
  refine PWl.step (LR.assignNilRow 5 1 rfl) rfl ?_
  refine PWl.nil ?_
  refine PWc.seq ?_
  refine PWc.seq ?_
  refine PWc.region ?_
  refine PWl.step (LR.move rfl) rfl ?_
  refine PWl.step (LR.eqlPtr Tryz.underlying73 rfl) rfl ?_
  refine PWl.nil ?_
  refine PWc.condF rfl ?_
  refine PWc.skip ?_
  refine PWc.seq ?_
  refine PWc.region ?_
  refine PWl.step (LR.move rfl) rfl ?_
  refine PWl.step (LR.nilCheckRef rfl) rfl ?_
  refine PWl.step (LR.fieldRef Tryz.underlying71 rfl Tryz.sizeOf48 (by decide) rfl rfl) rfl ?_
  refine PWl.step (LR.loadRef Tryz.isAgg48 rfl rfl rfl) rfl ?_
  replace h := iNeed h
  obtain ⟨hy2, h⟩ := h
  refine PWl.step (LR.appNilT (enc := (eK .u8)) (R := row1) elem48 Tryz.underlying48 rfl (Src.rowT (enc := (eK .u8)) (R := row1) rfl rfl rfl) (fun _ => rfl) hy2 rfl rfl) rfl ?_
  refine PWl.re (tl := [(0, _), (3, _), (4, _), (5, _), (6, _), (7, _), (8, _), (9, _)]) (to := [(9, _), (100, _), (101, _), (1100, _)]) rfl (.cons rfl rfl <| .cons rfl rfl <| .cons rfl rfl <| .cons rfl rfl <| .cons rfl rfl <| .cons rfl rfl <| .cons rfl rfl <| .cons rfl rfl <| .nil) (.cons rfl rfl <| .cons rfl rfl <| .cons rfl rfl <| .cons rfl rfl <| .nil) ?_
  refine PWl.step (LR.assign rfl) rfl ?_
  refine PWl.nil ?_
  refine PWc.ret ?_
  replace h : _ = r0 := h
  subst h
  exact EndsO.mk () (.inr rfl) (Sub.trans (Sub.frz [2, 9] hK rfl (by simp) (AllRow.get (.cons rfl <| .cons rfl <| .nil))) <| Sub.of (tl := [(2, _)]) (to := [(100, _), (101, _), (1100, _)]) rfl (.cons rfl rfl <| .nil) (.cons rfl (by first | rfl | (congr 1; congr 2; first | (simp; done) | (simp; omega))) <| .cons rfl rfl <| .cons rfl rfl <| .nil)) (.cons (.tmp rfl) <| .nil) rfl rfl

theorem dcode_Encode_ok (c1 : List TPart) (r0 : List Int) (h : (dcode_Encode c1).wp (· = r0)) : PFun Tryz.prog 59 [.d (.sl (List.map TPart.e c1))] (.d (.sl (List.map (eK .u8) r0))) := by
  refine PFun.intro (sl := [(0, _)]) Tryz.func59 rfl Tryz.ntmps59 rfl rfl ?_
  intro ctx hK
  refine PWc.seq ?_
  refine PWc.region ?_
  refine PWl.step (LR.assignNilRow 5 1 rfl) rfl ?_
  refine PWl.nil ?_
  refine PWc.seq ?_
  refine PWc.region ?_
  refine PWl.step (LR.allocR (cs := [_]) Tryz.zeroValue71 rfl rfl rfl rfl) rfl ?_
  refine PWl.sub (Sub.ownNil (id := 3) (j := 0) (id' := 30060) (e := 5) (k := 1) rfl rfl rfl rfl) ?_
  refine PWl.nil ?_
  refine PWc.seq ?_
  refine PWc.re (tl := [(0, _), (3, _)]) (to := [(3, _), (30060, _)]) rfl (.cons rfl rfl <| .cons rfl rfl <| .nil) (.cons rfl rfl <| .cons rfl rfl <| .nil) ?_
  refine PWc.region ?_
  refine PWl.step (LR.move rfl) rfl ?_
  replace h := iDet h
  obtain ⟨y2, hy3, h⟩ := h
  refine PWl.step (LR.callObj [(100, 3), (101, 30060)] [] [100, 101] (dcode_PutCtx_o_ok c1 ([] : List Int) y2 hy3) hK rfl Tryz.call55 rfl (by first | rfl | (simp; done) | (simp [PV.nilD, PV.ren, rn]; omega)) (.cons (by first | rfl | (congr 1; first | (simp; done) | (simp; omega))) <| .cons (by first | rfl | (congr 1; first | (simp; done) | (simp; omega))) <| .nil) rfl rfl rfl rfl) rfl ?_
  refine PWl.nil ?_
  refine PWc.seq ?_
  refine PWc.re (tl := [(3, _)]) (to := [(3, _), (30060, _)]) rfl (.cons rfl rfl <| .nil) (.cons rfl rfl <| .cons rfl rfl <| .nil) ?_
  refine PWc.region ?_
  replace h := iDet h
  obtain ⟨y4, hy5, h⟩ := h
  refine PWl.step (LR.callObj [(100, 3), (101, 30060)] [] [100, 101] (pack_Writer_Bytes_o_ok y2 y4 hy5) hK rfl Tryz.call58 rfl (by first | rfl | (simp; done) | (simp [PV.nilD, PV.ren, rn]; omega)) (.cons (by first | rfl | (congr 1; first | (simp; done) | (simp; omega))) <| .cons (by first | rfl | (congr 1; first | (simp; done) | (simp; omega))) <| .nil) rfl rfl rfl rfl) rfl ?_
  refine PWl.step (LR.assign rfl) rfl ?_
  refine PWl.nil ?_
  refine PWc.ret ?_
  replace h : _ = r0 := h
  subst h
  exact ⟨.inr rfl, _, .cons (.tmp rfl rfl) <| .nil, rfl⟩

theorem l15_equal_ok (a1 : List Int) (b2 : List Int) (r0 : Bool) (h : (l15_equal a1 b2).wp (· = r0)) : PFun Tryz.prog 79 [.d (.sl (List.map (eK .u8) a1)), .d (.sl (List.map (eK .u8) b2))] (.d (.v (.bool r0))) := by
  refine PFun.intro (sl := [(0, _), (1, _)]) Tryz.func79 rfl Tryz.ntmps79 rfl rfl ?_
  intro ctx hK
  refine PWc.seq ?_
  refine PWc.region ?_
  refine PWl.step (LR.assign rfl) rfl ?_
  refine PWl.nil ?_
  refine PWc.seq ?_
  refine PWc.region ?_
  refine PWl.step (LR.move rfl) rfl ?_
  refine PWl.step (LR.bytesStr Tryz.underlying48 Tryz.underlying5 Tryz.underlying9 rfl) rfl ?_
  refine PWl.step (LR.move rfl) rfl ?_
  refine PWl.step (LR.bytesStr Tryz.underlying48 Tryz.underlying5 Tryz.underlying9 rfl) rfl ?_
  refine PWl.step (LR.eqlStr rfl rfl) rfl ?_
  refine PWl.step (LR.assign rfl) rfl ?_
  refine PWl.nil ?_
  refine PWc.ret ?_
  replace h : _ = r0 := h
  subst h
  exact ⟨.inr rfl, _, .cons (.tmp rfl rfl) <| .nil, rfl⟩

theorem l15_works_ok  (r0 : Bool) (h : (l15_works ).wp (· = r0)) : PFun Tryz.prog 41 [] (.d (.v (.bool r0))) := by
  refine PFun.intro (sl := []) Tryz.func41 rfl Tryz.ntmps41 rfl rfl ?_
  intro ctx hK
  refine PWc.seq ?_
  refine PWc.region ?_
  refine PWl.step (LR.assign rfl) rfl ?_
  refine PWl.nil ?_
  refine PWc.seq ?_
  refine PWc.region ?_
  refine PWl.step (LR.build (ns := [_, _]) build89 rfl rfl rfl) rfl ?_
  refine PWl.step (LR.buildSliceD [.tmp 1] elem37 rfl rfl (.cons rfl rfl rfl <| .nil) (by decide) (by decide)) rfl ?_
  refine PWl.step (LR.build (ns := [_, _]) build80 rfl rfl rfl) rfl ?_
  refine PWl.step (LR.buildSliceD [.tmp 3] elem23 rfl rfl (.cons rfl rfl rfl <| .nil) (by decide) (by decide)) rfl ?_
  replace h := iDet h
  obtain ⟨v1, hy2, h⟩ := h
  refine PWl.step (LR.callN (dcode_Encode_ok ([(⟨1, [(⟨1, 2⟩ : TRun)]⟩ : TPart)]) v1 hy2) rfl Tryz.call59 rfl rfl rfl rfl) rfl ?_
  refine PWl.step (LR.buildSliceD [.const (.int .u8 1), .const (.int .u8 1), .const (.int .u8 1), .const (.int .u8 1), .const (.int .u8 1), .const (.int .u8 1), .const (.int .u8 1), .const (.int .u8 1), .const (.int .u8 1), .const (.int .u8 2)] elem48 rfl rfl (.cons rfl rfl rfl <| .cons rfl rfl rfl <| .cons rfl rfl rfl <| .cons rfl rfl rfl <| .cons rfl rfl rfl <| .cons rfl rfl rfl <| .cons rfl rfl rfl <| .cons rfl rfl rfl <| .cons rfl rfl rfl <| .cons rfl rfl rfl <| .nil) (by decide) (by decide)) rfl ?_
  replace h := iDet h
  obtain ⟨v3, hy4, h⟩ := h
  refine PWl.step (LR.callN (l15_equal_ok v1 ([1, 1, 1, 1, 1, 1, 1, 1, 1, 2]) v3 hy4) rfl Tryz.call79 rfl rfl rfl rfl) rfl ?_
  refine PWl.step (LR.assign rfl) rfl ?_
  refine PWl.nil ?_
  refine PWc.ret ?_
  replace h : _ = r0 := h
  subst h
  exact ⟨.inr rfl, _, .cons (.tmp rfl rfl) <| .nil, rfl⟩

theorem dot_Good_ok (d1 : TDot) (r0 : Bool) (h : (dot_Good d1).wp (· = r0)) : PFun Tryz.prog 68 [.agg (List.map .d (TDot.e d1))] (.d (.v (.bool r0))) := by
  refine PFun.intro (sl := [(0, _)]) Tryz.func68 rfl Tryz.ntmps68 rfl rfl ?_
  intro ctx hK
  refine PWc.seq ?_
  refine PWc.region ?_
  refine PWl.step (LR.box rfl rfl rfl rfl) rfl ?_
  refine PWl.step (LR.assign rfl) rfl ?_
  refine PWl.nil ?_
  refine PWc.seq ?_
  refine PWc.jn (iBind h) (fun (v2 : Bool) (_ : Unit) => ⟨16, [(2, .d (.v (.bool v2)))], []⟩) (fun h => ?_) ?_
  · refine PWc.region ?_
    refine PWl.step (LR.fieldRef Tryz.underlying32 rfl Tryz.sizeOf29 (by decide) rfl rfl) rfl ?_
    refine PWl.step (LR.loadRef Tryz.isAgg29 rfl rfl rfl) rfl ?_
    refine PWl.step (LR.gtr rfl rfl) rfl ?_
    refine PWl.step (LR.move rfl) rfl ?_
    refine PWl.split (d := 6) rfl (fun hg3 => ?_) (fun hg3 => ?_)
    · replace h := iT hg3 h
      refine PWl.guardT (LR.fieldRef Tryz.underlying32 rfl Tryz.sizeOf30 (by decide) rfl rfl) rfl rfl rfl ?_
      refine PWl.guardT (LR.loadRef Tryz.isAgg30 rfl rfl rfl) rfl rfl rfl ?_
      refine PWl.guardT (LR.gtr rfl rfl) rfl rfl rfl ?_
      refine PWl.step (LR.pickT rfl rfl) rfl ?_
      refine PWl.step (LR.move rfl) rfl ?_
      refine PWl.split (d := 11) rfl (fun hg4 => ?_) (fun hg4 => ?_)
      · replace h := iT hg4 h
        refine PWl.guardT (LR.fieldRef Tryz.underlying32 rfl Tryz.sizeOf30 (by decide) rfl rfl) rfl rfl rfl ?_
        refine PWl.guardT (LR.loadRef Tryz.isAgg30 rfl rfl rfl) rfl rfl rfl ?_
        refine PWl.guardT (LR.leq rfl rfl) rfl rfl rfl ?_
        refine PWl.step (LR.pickT rfl rfl) rfl ?_
        refine PWl.step (LR.assign rfl) rfl ?_
        refine PWl.nil ?_
        exact ⟨(decide (d1.n ≤ 281474976710655)), (), h, Sub.of rfl (.cons rfl rfl <| .nil) (.nil)⟩
      · replace h := iF hg4 h
        refine PWl.guardF rfl rfl rfl (by decide) ?_
        refine PWl.guardF rfl rfl rfl (by decide) ?_
        refine PWl.guardF rfl rfl rfl (by decide) ?_
        refine PWl.step (LR.pickF rfl rfl) rfl ?_
        refine PWl.step (LR.assign rfl) rfl ?_
        refine PWl.nil ?_
        exact ⟨false, (), h, Sub.of rfl (.cons rfl rfl <| .nil) (.nil)⟩
    · replace h := iF hg3 h
      refine PWl.guardF rfl rfl rfl (by decide) ?_
      refine PWl.guardF rfl rfl rfl (by decide) ?_
      refine PWl.guardF rfl rfl rfl (by decide) ?_
      refine PWl.step (LR.pickF rfl rfl) rfl ?_
      refine PWl.step (LR.move rfl) rfl ?_
      refine PWl.guardF rfl rfl rfl (by decide) ?_
      refine PWl.guardF rfl rfl rfl (by decide) ?_
      refine PWl.guardF rfl rfl rfl (by decide) ?_
      refine PWl.step (LR.pickF rfl rfl) rfl ?_
      refine PWl.step (LR.assign rfl) rfl ?_
      refine PWl.nil ?_
      exact ⟨false, (), h, Sub.of rfl (.cons rfl rfl <| .nil) (.nil)⟩
  · rintro v2 _ h
    refine PWc.ret ?_
    replace h : _ = r0 := h
    subst h
    exact ⟨.inr rfl, _, .cons (.tmp rfl rfl) <| .nil, rfl⟩
end Go.Proofs

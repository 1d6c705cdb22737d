/- Texts that the walks and laws lean on, side by side. -/
import Derived.Test.YtacnidaafcfgiaaMeb2
import Derived.Test.YtacnidaafcfgiaaMeb3
import Derived.Test.YtacnidaafcfgiaaMeb4
import Derived.Test.YtacnidaafcfgiaaMeb5
import Derived.Test.YtacnidaafcfgiaaMeb6
set_option linter.unusedVariables false
set_option linter.unusedSimpArgs false
namespace Go.Proofs
open Go.Ep
set_option maxHeartbeats 1000000
set_option maxRecDepth 100000
set_option linter.unusedVariables false
set_option linter.unusedSimpArgs false


theorem ecode_GetAll_o_ok (most1 : Int) (b_2 : List Int) (bad_3 : Int) (r0 : List TEvent × List Int × Int) (h : (ecode_GetAll_o most1 b_2 bad_3).wp (· = r0)) : PObj Try.prog 59 [.ref 100 0, .d (.v (.int .i64 most1))] [(100, .cells 133 [.d (.sl (List.map (eK .u8) b_2)), .d (.v (.int .i64 bad_3))])] [100] (.d (.sl (List.map TEvent.e r0.1))) (fun _ : Unit => [(100, .cells 133 [.d (.sl (List.map (eK .u8) r0.2.1)), .d (.v (.int .i64 r0.2.2))])]) := by
  refine PObj.intro (sl := [(0, _), (1, _)]) Try.func59 rfl Try.ntmps59 rfl rfl rfl ?_
  intro ctx hK pv
  refine PWc.seq ?_
  refine PWc.region ?_
  refine PWl.step (LR.assignNilRow 41 7 rfl) rfl ?_
  refine PWl.nil ?_
  refine PWc.seq ?_
  refine PWc.region ?_
  refine PWl.step (LR.move rfl) rfl ?_
  replace h := iDet h
  obtain ⟨y4, hy5, h⟩ := h
  refine PWl.step (LR.callObj [(100, 100)] [] [100] (pack_Reader_Num_o_ok b_2 bad_3 y4 hy5) hK rfl Try.call105 rfl (by first | rfl | (simp; done) | (simp [PV.nilD, PV.ren, rn]; omega)) (.cons (by first | rfl | (congr 1; first | (simp; done) | (simp; omega))) <| .nil) rfl rfl rfl rfl) rfl ?_
  refine PWl.step (LR.assign rfl) rfl ?_
  refine PWl.nil ?_
  refine PWc.seq ?_
  refine PWc.seq ?_
  refine PWc.re (tl := [(0, _), (1, _), (5, _)]) (to := [(100, _), (1100, _)]) rfl (.cons rfl rfl <| .cons rfl rfl <| .cons rfl rfl <| .nil) (.cons rfl rfl <| .cons rfl rfl <| .nil) ?_
  refine PWc.region ?_
  refine PWl.step (LR.move rfl) rfl ?_
  refine PWl.step (LR.move rfl) rfl ?_
  refine PWl.step (LR.maxI rfl rfl) rfl ?_
  refine PWl.step (LR.convInt Try.underlying36 (by rw [Try.underlying3]; rfl) rfl rfl) rfl ?_
  refine PWl.step (LR.gtr rfl rfl) rfl ?_
  refine PWl.nil ?_
  refine PWc.cond rfl (fun hc6 => ?_) (fun hc6 => ?_)
  · replace h := iT hc6 h
    refine PWc.seq ?_
    refine PWc.region ?_
    refine PWl.step (LR.move rfl) rfl ?_
    replace h := iDet h
    obtain ⟨y7, hy8, h⟩ := h
    refine PWl.step (LR.callObj [(100, 100)] [] [100] (pack_Reader_Fail_o_ok 3 y4.2.1 y4.2.2 y7 hy8) hK rfl Try.call106 rfl (by first | rfl | (simp; done) | (simp [PV.nilD, PV.ren, rn]; omega)) (.cons (by first | rfl | (congr 1; first | (simp; done) | (simp; omega))) <| .nil) rfl rfl rfl rfl) rfl ?_
    refine PWl.nil ?_
    refine PWc.seq ?_
    refine PWc.re (tl := []) (to := [(100, _), (1100, _)]) rfl (.nil) (.cons rfl rfl <| .cons rfl rfl <| .nil) ?_
    refine PWc.region ?_
    refine PWl.step (LR.assignNilRow 41 7 rfl) rfl ?_
    refine PWl.nil ?_
    refine PWc.ret ?_
    replace h : _ = r0 := h
    subst h
    exact EndsO.mk () (.inr rfl) (Sub.trans (Sub.frz [4] hK rfl (by first | (simp; done) | (simp; omega) | omega) (AllRow.get (.cons rfl <| .nil))) <| Sub.of (tl := [(4, _)]) (to := [(100, _), (1100, _)]) rfl (.cons rfl rfl <| .nil) (.cons rfl rfl <| .cons rfl rfl <| .nil)) (.cons (.tmp rfl) <| .nil) rfl rfl
  · replace h := iF hc6 h
    refine PWc.skip ?_
    refine PWc.seq ?_
    refine PWc.region ?_
    refine PWl.step (LR.assignNilRow 41 7 rfl) rfl ?_
    refine PWl.nil ?_
    refine PWc.seq ?_
    refine PWc.seq ?_
    refine PWc.region ?_
    refine PWl.step (LR.move rfl) rfl ?_
    refine PWl.step (LR.move rfl) rfl ?_
    refine PWl.nil ?_
    refine PWc.jnX (iBind h) (fun (⟨out9, v10, v11⟩ : List TEvent × List Int × Int) (_ : Unit) => ⟨50, [(6, .row 6 (List.length out9))], [(6, .row 41 7 (List.map TEvent.e out9)), (100, .cells 133 [.d (.sl (List.map (eK .u8) v10)), .d (.v (.int .i64 v11))]), (1100, .pin 100 (pv 100).1 (pv 100).2)]⟩) (fun h => ?_) ?_
    · refine PWc.block ?_
      refine PWc.loopM (fun (⟨v52, out53, v54, v55⟩ : Int × List TEvent × List Int × Int) (_ : Unit) => ⟨50, [(0, .ref 100 0), (6, .row 6 (List.length out53)), (18, .d (.v (.int .u64 y4.1))), (19, .d (.v (.int .u64 v52)))], [(6, .row 41 7 (List.map TEvent.e out53)), (100, .cells 133 [.d (.sl (List.map (eK .u8) v54)), .d (.v (.int .i64 v55))]), (1100, .pin 100 (pv 100).1 (pv 100).2)]⟩) () h (Sub.of rfl (.cons rfl rfl <| .cons rfl rfl <| .cons rfl rfl <| .cons rfl rfl <| .nil) (.cons rfl rfl <| .cons rfl rfl <| .cons rfl rfl <| .nil)) ?_
      rintro N ⟨v52, out53, v54, v55⟩ _ h
      refine PWc.seq ?_
      refine PWc.region ?_
      refine PWl.step (LR.lss rfl rfl) rfl ?_
      refine PWl.nil ?_
      refine PWc.seq ?_
      refine PWc.cond rfl (fun hc56 => ?_) (fun hc56 => ?_)
      · replace h := iT hc56 h
        refine PWc.skip ?_
        refine PWc.seq ?_
        refine PWc.block ?_
        refine PWc.seq ?_
        refine PWc.region ?_
        refine PWl.step (LR.move rfl) rfl ?_
        replace h := iDet h
        obtain ⟨y57, hy58, h⟩ := h
        refine PWl.step (LR.callObj [(100, 100)] [] [100] (ecode_Get_o_ok v54 v55 y57 hy58) hK rfl Try.call66 rfl (by first | rfl | (simp; done) | (simp [PV.nilD, PV.ren, rn]; omega)) (.cons (by first | rfl | (congr 1; first | (simp; done) | (simp; omega))) <| .nil) rfl rfl rfl rfl) rfl ?_
        refine PWl.step (LR.allocZ (cs := [_, _, _, _, _, _, _]) Try.zeroValue41 rfl rfl rfl rfl) rfl ?_
        refine PWl.step (LR.storeB (ns := [_, _, _, _, _, _, _]) Try.sizeOf41 rfl rfl rfl rfl rfl rfl rfl) rfl ?_
        refine PWl.nil ?_
        refine PWc.seq ?_
        refine PWc.seq ?_
        refine PWc.re (tl := [(0, _), (6, _), (7, _), (18, _), (19, _)]) (to := [(6, _), (7, _), (100, _), (1100, _)]) rfl (.cons rfl rfl <| .cons rfl rfl <| .cons rfl rfl <| .cons rfl rfl <| .cons rfl rfl <| .nil) (.cons rfl rfl <| .cons rfl rfl <| .cons rfl rfl <| .cons rfl rfl <| .nil) ?_
        refine PWc.region ?_
        refine PWl.step (LR.move rfl) rfl ?_
        refine PWl.step (LR.lenRow Try.underlying22 rfl) rfl ?_
        refine PWl.step (LR.subW rfl rfl) rfl ?_
        refine PWl.step (LR.assign rfl) rfl ?_
        refine PWl.nil ?_
        refine PWc.seq ?_
        refine PWc.jn (iBind h) (fun (v59 : Bool) (_ : Unit) => ⟨50, [(0, .ref 100 0), (6, .row 6 (List.length out53)), (7, .ref 7 0), (18, .d (.v (.int .u64 y4.1))), (19, .d (.v (.int .u64 v52))), (38, .d (.v (.bool v59)))], [(6, .row 41 7 (List.map TEvent.e out53)), (7, .cells 41 [.d (.v (.int .u16 y57.1.dot.dev)), .d (.v (.int .u64 y57.1.dot.n)), .d (.v (.int .u8 y57.1.kind)), .d (.v (.int .u64 y57.1.cid)), .d (.v (.int .u8 y57.1.field)), .d (.v (.string y57.1.text)), .d (.sl (List.map TDot.e y57.1.kills))]), (100, .cells 133 [.d (.sl (List.map (eK .u8) y57.2.1)), .d (.v (.int .i64 y57.2.2))]), (1100, .pin 100 (pv 100).1 (pv 100).2)]⟩) (fun h => ?_) ?_
        · refine PWc.regionD (by kernel_rfl) (by kernel_rfl) ?_
          refine PQl.step (fun _ he ho => LR.move (he rfl rfl)) rfl ?_
          refine PQl.step (fun _ he ho => LR.geq (he rfl rfl) (he rfl rfl)) rfl ?_
          refine PQl.step (fun _ he ho => LR.move (he rfl rfl)) rfl ?_
          refine PQl.split (d := 28) rfl (fun hg60 => ?_) (fun hg60 => ?_)
          · replace h := iT hg60 h
            refine PQl.guardT (fun _ he ho => LR.move (he rfl rfl)) rfl rfl rfl ?_
            refine PQl.guardT (fun _ he ho => LR.move (he rfl rfl)) rfl rfl rfl ?_
            replace h := iIdx h
            obtain ⟨x61, hy62, h⟩ := h
            refine PQl.guardT (fun _ he ho => LR.idxRowT (L := out53) (y := x61) Try.underlying22 Try.sizeOf41 (he rfl rfl) rfl (he rfl rfl) hy62) rfl rfl rfl ?_
            refine PQl.guardT (fun _ he ho => LR.fieldRp Try.underlying41 rfl Try.sizeOf38 (by decide) rfl (he rfl rfl)) rfl rfl rfl ?_
            refine PQl.guardT (fun _ he ho => LR.loadRpPartT (enc := TEvent.e) (L := out53) (y := x61) Try.isAgg38 Try.sizeOf38 (he rfl rfl) (ho rfl) hy62.2 rfl rfl) rfl rfl rfl ?_
            refine PQl.guardT (fun _ he ho => LR.fieldRef Try.underlying41 rfl Try.sizeOf38 (by decide) rfl (he rfl rfl)) rfl rfl rfl ?_
            refine PQl.guardT (fun _ he ho => LR.loadRefAgg (ps := [_, _]) Try.isAgg38 Try.sizeOf38 (he rfl rfl) (ho rfl) rfl rfl) rfl rfl rfl ?_
            replace h := iDet h
            obtain ⟨v63, hy64, h⟩ := h
            refine PQl.guardT (fun _ he ho => LR.callN (dot_Cmp_ok x61.dot y57.1.dot v63 hy64) (he rfl rfl) Try.call107 (evsE he rfl rfl) rfl rfl rfl) rfl rfl rfl ?_
            refine PQl.guardT (fun _ he ho => LR.geq (he rfl rfl) (he rfl rfl)) rfl rfl rfl ?_
            refine PQl.step (fun _ he ho => LR.pickT (he rfl rfl) (he rfl rfl)) rfl ?_
            refine PQl.nil ?_
            exact ⟨(decide (0 ≤ v63)), (), h, Sub.of rfl (.cons rfl rfl <| .cons rfl rfl <| .cons rfl rfl <| .cons rfl rfl <| .cons rfl rfl <| .cons rfl rfl <| .nil) (.cons rfl rfl <| .cons rfl rfl <| .cons rfl rfl <| .cons rfl rfl <| .nil)⟩
          · replace h := iF hg60 h
            refine PQl.guardF rfl rfl rfl (by decide) ?_
            refine PQl.guardF rfl rfl rfl (by decide) ?_
            refine PQl.guardF rfl rfl rfl (by decide) ?_
            refine PQl.guardF rfl rfl rfl (by decide) ?_
            refine PQl.guardF rfl rfl rfl (by decide) ?_
            refine PQl.guardF rfl rfl rfl (by decide) ?_
            refine PQl.guardF rfl rfl rfl (by decide) ?_
            refine PQl.guardF rfl rfl rfl (by decide) ?_
            refine PQl.guardF rfl rfl rfl (by decide) ?_
            refine PQl.step (fun _ he ho => LR.pickF (he rfl rfl) (he rfl rfl)) rfl ?_
            refine PQl.nil ?_
            exact ⟨false, (), h, Sub.of rfl (.cons rfl rfl <| .cons rfl rfl <| .cons rfl rfl <| .cons rfl rfl <| .cons rfl rfl <| .cons rfl rfl <| .nil) (.cons rfl rfl <| .cons rfl rfl <| .cons rfl rfl <| .cons rfl rfl <| .nil)⟩
        · rintro v59 _ h
          refine PWc.jn (iBind h) (fun (⟨v65, v66⟩ : List Int × Int) (_ : Unit) => ⟨50, [(0, .ref 100 0), (6, .row 6 (List.length out53)), (7, .ref 7 0), (18, .d (.v (.int .u64 y4.1))), (19, .d (.v (.int .u64 v52)))], [(6, .row 41 7 (List.map TEvent.e out53)), (7, .cells 41 [.d (.v (.int .u16 y57.1.dot.dev)), .d (.v (.int .u64 y57.1.dot.n)), .d (.v (.int .u8 y57.1.kind)), .d (.v (.int .u64 y57.1.cid)), .d (.v (.int .u8 y57.1.field)), .d (.v (.string y57.1.text)), .d (.sl (List.map TDot.e y57.1.kills))]), (100, .cells 133 [.d (.sl (List.map (eK .u8) v65)), .d (.v (.int .i64 v66))]), (1100, .pin 100 (pv 100).1 (pv 100).2)]⟩) (fun h => ?_) ?_
          · refine PWc.cond rfl (fun hc67 => ?_) (fun hc67 => ?_)
            · replace h := iT hc67 h
              refine PWc.region ?_
              refine PWl.step (LR.move rfl) rfl ?_
              replace h := iDet h
              obtain ⟨y68, hy69, h⟩ := h
              refine PWl.step (LR.callObj [(100, 100)] [] [100] (pack_Reader_Fail_o_ok 4 y57.2.1 y57.2.2 y68 hy69) hK rfl Try.call106 rfl (by first | rfl | (simp; done) | (simp [PV.nilD, PV.ren, rn]; omega)) (.cons (by first | rfl | (congr 1; first | (simp; done) | (simp; omega))) <| .nil) rfl rfl rfl rfl) rfl ?_
              refine PWl.nil ?_
              exact ⟨(y68.1, y68.2), (), h, Sub.of rfl (.cons rfl rfl <| .cons rfl rfl <| .cons rfl rfl <| .cons rfl rfl <| .cons rfl rfl <| .nil) (.cons rfl rfl <| .cons rfl rfl <| .cons rfl rfl <| .cons rfl rfl <| .nil)⟩
            · replace h := iF hc67 h
              refine PWc.skip ?_
              exact ⟨(y57.2.1, y57.2.2), (), h, Sub.of rfl (.cons rfl rfl <| .cons rfl rfl <| .cons rfl rfl <| .cons rfl rfl <| .cons rfl rfl <| .nil) (.cons rfl rfl <| .cons rfl rfl <| .cons rfl rfl <| .cons rfl rfl <| .nil)⟩
          · rintro ⟨v65, v66⟩ _ h
            refine PWc.seq ?_
            refine PWc.seq ?_
            refine PWc.region ?_
            refine PWl.step (LR.move rfl) rfl ?_
            replace h := iDet h
            obtain ⟨y70, hy71, h⟩ := h
            refine PWl.step (LR.callObj [(100, 100)] [] [100] (pack_Reader_Err_o_ok v65 v66 y70 hy71) hK rfl Try.call68 rfl (by first | rfl | (simp; done) | (simp [PV.nilD, PV.ren, rn]; omega)) (.cons (by first | rfl | (congr 1; first | (simp; done) | (simp; omega))) <| .nil) rfl rfl rfl rfl) rfl ?_
            refine PWl.step (LR.neq rfl rfl) rfl ?_
            refine PWl.nil ?_
            refine PWc.cond rfl (fun hc72 => ?_) (fun hc72 => ?_)
            · replace h := iT hc72 h
              refine PWc.seq ?_
              refine PWc.re (tl := []) (to := [(100, _), (1100, _)]) rfl (.nil) (.cons rfl rfl <| .cons rfl rfl <| .nil) ?_
              refine PWc.region ?_
              refine PWl.step (LR.assignNilRow 41 7 rfl) rfl ?_
              refine PWl.nil ?_
              refine PWc.ret ?_
              replace h : _ = r0 := h
              subst h
              exact EndsO.mk () (.inr rfl) (Sub.trans (Sub.frz [4] hK rfl (by first | (simp; done) | (simp; omega) | omega) (AllRow.get (.cons rfl <| .nil))) <| Sub.of (tl := [(4, _)]) (to := [(100, _), (1100, _)]) rfl (.cons rfl rfl <| .nil) (.cons rfl rfl <| .cons rfl rfl <| .nil)) (.cons (.tmp rfl) <| .nil) rfl rfl
            · replace h := iF hc72 h
              refine PWc.skip ?_
              refine PWc.re (tl := [(0, _), (6, _), (7, _), (18, _), (19, _)]) (to := [(6, _), (7, _), (100, _), (1100, _)]) rfl (.cons rfl rfl <| .cons rfl rfl <| .cons rfl rfl <| .cons rfl rfl <| .cons rfl rfl <| .nil) (.cons rfl rfl <| .cons rfl rfl <| .cons rfl rfl <| .cons rfl rfl <| .nil) ?_
              refine PWc.region ?_
              refine PWl.step (LR.move rfl) rfl ?_
              refine PWl.step (LR.loadRefAgg (ps := [_, _, _, _, _, _, _]) Try.isAgg41 Try.sizeOf41 rfl rfl rfl rfl) rfl ?_
              refine PWl.step (LR.buildSliceD [.tmp 45] elem22 rfl rfl (.cons rfl rfl rfl <| .nil) (by decide) (by decide)) rfl ?_
              replace h := iNeed h
              obtain ⟨hy73, h⟩ := h
              refine PWl.step (LR.appT (enc := TEvent.e) (L := out53) (R := [y57.1]) [6, 44] elem22 Try.underlying22 rfl rfl rfl (Src.slT (enc := TEvent.e) (R := [y57.1]) rfl (fun _ => rfl)) (fun _ => rfl) hy73 rfl rfl) rfl ?_
              refine PWl.step (LR.assign rfl) rfl ?_
              refine PWl.nil ?_
              refine PWc.region ?_
              refine PWl.step (LR.addW rfl rfl) rfl ?_
              refine PWl.step (LR.move rfl) rfl ?_
              refine PWl.nil ?_
              exact ⟨((IntKind.u64.wrap (v52 + 1)), (out53 ++ [y57.1]), y70.2.1, y70.2.2), (), h, Sub.of rfl (.cons rfl rfl <| .cons rfl rfl <| .cons rfl rfl <| .cons rfl rfl <| .nil) (.cons rfl rfl <| .cons rfl rfl <| .cons rfl rfl <| .nil)⟩
      · replace h := iF hc56 h
        refine PWc.exit ?_
        exact ⟨(out53, v54, v55), (), h, Sub.of rfl (.cons rfl rfl <| .nil) (.cons rfl rfl <| .cons rfl rfl <| .cons rfl rfl <| .nil)⟩
    · rintro ⟨out9, v10, v11⟩ _ h
      refine PWc.seq ?_
      refine PWc.region ?_
      refine PWl.step (LR.move rfl) rfl ?_
      refine PWl.step (LR.assign rfl) rfl ?_
      refine PWl.nil ?_
      refine PWc.ret ?_
      replace h : _ = r0 := h
      subst h
      exact EndsO.mk () (.inr rfl) (Sub.trans (Sub.frz [4, 6, 49] hK rfl (by simp) (AllRow.get (.cons rfl <| .cons rfl <| .cons rfl <| .nil))) <| Sub.of (tl := [(4, _)]) (to := [(100, _), (1100, _)]) rfl (.cons rfl rfl <| .nil) (.cons rfl rfl <| .cons rfl rfl <| .nil)) (.cons (.tmp rfl) <| .nil) rfl rfl

theorem r13_Put_ok (l1 : List TEvent) (e2 : TEvent) (r0 : List TEvent) (h : (r13_Put l1 e2).wp (· = r0)) : PFun Try.prog 69 [.d (.sl (List.map TEvent.e l1)), .agg (List.map .d (TEvent.e e2))] (.d (.sl (List.map TEvent.e r0))) := by
  refine PFun.intro (sl := [(0, _), (1, _)]) Try.func69 rfl Try.ntmps69 rfl rfl ?_
  intro ctx hK
  refine PWc.seq ?_
  refine PWc.region ?_
  refine PWl.step (LR.box rfl rfl rfl rfl) rfl ?_
  refine PWl.step (LR.assignNilRow 41 7 rfl) rfl ?_
  refine PWl.nil ?_
  refine PWc.seq ?_
  refine PWc.region ?_
  refine PWl.step (LR.assignNilRow 41 7 rfl) rfl ?_
  refine PWl.nil ?_
  refine PWc.seq ?_
  refine PWc.region ?_
  refine PWl.step (LR.assign rfl) rfl ?_
  refine PWl.nil ?_
  refine PWc.seq ?_
  refine PWc.seq ?_
  refine PWc.region ?_
  refine PWl.step (LR.assign rfl) rfl ?_
  refine PWl.nil ?_
  refine PWc.jnX (iBind h) (fun (⟨done3, out4⟩ : Bool × List TEvent) (_ : Unit) => ⟨50, [(3, .ref 3 0), (5, .row 5 (List.length out4)), (6, .d (.v (.bool done3)))], [(3, .cells 41 [.d (.v (.int .u16 e2.dot.dev)), .d (.v (.int .u64 e2.dot.n)), .d (.v (.int .u8 e2.kind)), .d (.v (.int .u64 e2.cid)), .d (.v (.int .u8 e2.field)), .d (.v (.string e2.text)), .d (.sl (List.map TDot.e e2.kills))]), (5, .row 41 7 (List.map TEvent.e out4))]⟩) (fun h => ?_) ?_
  · refine PWc.block ?_
    refine PWc.loopM (fun (⟨done38, i39, out40⟩ : Bool × Int × List TEvent) (_ : Unit) => ⟨50, [(0, .d (.sl (List.map TEvent.e l1))), (3, .ref 3 0), (5, .row 5 (List.length out40)), (6, .d (.v (.bool done38))), (7, .d (.v (.int .i64 i39)))], [(3, .cells 41 [.d (.v (.int .u16 e2.dot.dev)), .d (.v (.int .u64 e2.dot.n)), .d (.v (.int .u8 e2.kind)), .d (.v (.int .u64 e2.cid)), .d (.v (.int .u8 e2.field)), .d (.v (.string e2.text)), .d (.sl (List.map TDot.e e2.kills))]), (5, .row 41 7 (List.map TEvent.e out40))]⟩) () h (Sub.of rfl (.cons rfl rfl <| .cons rfl rfl <| .cons rfl rfl <| .cons rfl rfl <| .cons rfl rfl <| .nil) (.cons rfl rfl <| .cons rfl rfl <| .nil)) ?_
    rintro N ⟨done38, i39, out40⟩ _ h
    refine PWc.seq ?_
    refine PWc.seq ?_
    refine PWc.region ?_
    refine PWl.step (LR.move rfl) rfl ?_
    refine PWl.step (LR.move rfl) rfl ?_
    refine PWl.step (LR.lenMap (enc := TEvent.e) (L := l1) Try.underlying22 rfl) rfl ?_
    refine PWl.step (LR.lss rfl rfl) rfl ?_
    refine PWl.nil ?_
    refine PWc.cond rfl (fun hc41 => ?_) (fun hc41 => ?_)
    · replace h := iT hc41 h
      refine PWc.skip ?_
      refine PWc.seq ?_
      refine PWc.block ?_
      refine PWc.seq ?_
      refine PWc.regionD (by kernel_rfl) (by kernel_rfl) ?_
      refine PQl.step (fun _ he ho => LR.move (he rfl rfl)) rfl ?_
      refine PQl.step (fun _ he ho => LR.move (he rfl rfl)) rfl ?_
      replace h := iIdx h
      obtain ⟨x42, hy43, h⟩ := h
      refine PQl.step (fun _ he ho => LR.idxT (enc := TEvent.e) (L := l1) (y := x42) Try.underlying22 Try.sizeOf41 (he rfl rfl) (he rfl rfl) hy43 (fun _ => rfl)) rfl ?_
      refine PQl.step (fun _ he ho => LR.fieldEp Try.underlying41 rfl Try.sizeOf38 (by decide) rfl (he rfl rfl)) rfl ?_
      refine PQl.step (fun _ he ho => LR.loadEpAgg (ys := [_, _]) Try.isAgg38 Try.sizeOf38 (he rfl rfl) rfl rfl) rfl ?_
      refine PQl.step (fun _ he ho => LR.fieldRef Try.underlying41 rfl Try.sizeOf38 (by decide) rfl (he rfl rfl)) rfl ?_
      refine PQl.step (fun _ he ho => LR.loadRefAgg (ps := [_, _]) Try.isAgg38 Try.sizeOf38 (he rfl rfl) (ho rfl) rfl rfl) rfl ?_
      replace h := iDet h
      obtain ⟨v44, hy45, h⟩ := h
      refine PQl.step (fun _ he ho => LR.callN (r07_Cmp_ok x42.dot e2.dot v44 hy45) (he rfl rfl) Try.call110 (evsE he rfl rfl) rfl rfl rfl) rfl ?_
      refine PQl.step (fun _ he ho => LR.assign (he rfl rfl)) rfl ?_
      refine PQl.nil ?_
      refine PWc.seq ?_
      refine PWc.seq ?_
      refine PWc.region ?_
      refine PWl.step (LR.move rfl) rfl ?_
      refine PWl.step (LR.eql rfl rfl) rfl ?_
      refine PWl.nil ?_
      refine PWc.cond rfl (fun hc46 => ?_) (fun hc46 => ?_)
      · replace h := iT hc46 h
        refine PWc.seq ?_
        refine PWc.region ?_
        refine PWl.step (LR.move rfl) rfl ?_
        refine PWl.re (tl := [(25, _)]) (to := []) rfl (.cons rfl rfl <| .nil) (.nil) ?_
        refine PWl.step (LR.assign rfl) rfl ?_
        refine PWl.nil ?_
        refine PWc.ret ?_
        replace h : _ = r0 := h
        subst h
        exact ⟨.inr rfl, _, .cons (.tmp rfl rfl) <| .nil, rfl⟩
      · replace h := iF hc46 h
        refine PWc.skip ?_
        refine PWc.seq ?_
        refine PWc.seq ?_
        refine PWc.jn (iBind h) (fun (v47 : Bool) (_ : Unit) => ⟨50, [(0, .d (.sl (List.map TEvent.e l1))), (3, .ref 3 0), (5, .row 5 (List.length out40)), (6, .d (.v (.bool done38))), (7, .d (.v (.int .i64 i39))), (31, .d (.v (.bool v47)))], [(3, .cells 41 [.d (.v (.int .u16 e2.dot.dev)), .d (.v (.int .u64 e2.dot.n)), .d (.v (.int .u8 e2.kind)), .d (.v (.int .u64 e2.cid)), .d (.v (.int .u8 e2.field)), .d (.v (.string e2.text)), .d (.sl (List.map TDot.e e2.kills))]), (5, .row 41 7 (List.map TEvent.e out40))]⟩) (fun h => ?_) ?_
        · refine PWc.region ?_
          refine PWl.step (LR.move rfl) rfl ?_
          refine PWl.re (tl := [(0, _), (3, _), (5, _), (6, _), (7, _), (26, _)]) (to := [(3, _), (5, _)]) rfl (.cons rfl rfl <| .cons rfl rfl <| .cons rfl rfl <| .cons rfl rfl <| .cons rfl rfl <| .cons rfl rfl <| .nil) (.cons rfl rfl <| .cons rfl rfl <| .nil) ?_
          refine PWl.step (LR.gtr rfl rfl) rfl ?_
          refine PWl.step (LR.move rfl) rfl ?_
          refine PWl.split (d := 28) rfl (fun hg48 => ?_) (fun hg48 => ?_)
          · replace h := iT hg48 h
            refine PWl.guardT (LR.move rfl) rfl rfl rfl ?_
            refine PWl.guardT (LR.not rfl) rfl rfl rfl ?_
            refine PWl.step (LR.pickT rfl rfl) rfl ?_
            refine PWl.nil ?_
            exact ⟨(!done38), (), h, Sub.of rfl (.cons rfl rfl <| .cons rfl rfl <| .cons rfl rfl <| .cons rfl rfl <| .cons rfl rfl <| .cons rfl rfl <| .nil) (.cons rfl rfl <| .cons rfl rfl <| .nil)⟩
          · replace h := iF hg48 h
            refine PWl.guardF rfl rfl rfl (by decide) ?_
            refine PWl.guardF rfl rfl rfl (by decide) ?_
            refine PWl.step (LR.pickF rfl rfl) rfl ?_
            refine PWl.nil ?_
            exact ⟨false, (), h, Sub.of rfl (.cons rfl rfl <| .cons rfl rfl <| .cons rfl rfl <| .cons rfl rfl <| .cons rfl rfl <| .cons rfl rfl <| .nil) (.cons rfl rfl <| .cons rfl rfl <| .nil)⟩
        · rintro v47 _ h
          refine PWc.jn (iBind h) (fun (⟨done49, out50⟩ : Bool × List TEvent) (_ : Unit) => ⟨50, [(0, .d (.sl (List.map TEvent.e l1))), (3, .ref 3 0), (5, .row 5 (List.length out50)), (6, .d (.v (.bool done49))), (7, .d (.v (.int .i64 i39)))], [(3, .cells 41 [.d (.v (.int .u16 e2.dot.dev)), .d (.v (.int .u64 e2.dot.n)), .d (.v (.int .u8 e2.kind)), .d (.v (.int .u64 e2.cid)), .d (.v (.int .u8 e2.field)), .d (.v (.string e2.text)), .d (.sl (List.map TDot.e e2.kills))]), (5, .row 41 7 (List.map TEvent.e out50))]⟩) (fun h => ?_) ?_
          · refine PWc.cond rfl (fun hc51 => ?_) (fun hc51 => ?_)
            · replace h := iT hc51 h
              refine PWc.seq ?_
              refine PWc.region ?_
              refine PWl.step (LR.move rfl) rfl ?_
              refine PWl.step (LR.loadRefAgg (ps := [_, _, _, _, _, _, _]) Try.isAgg41 Try.sizeOf41 rfl rfl rfl rfl) rfl ?_
              refine PWl.step (LR.buildSliceD [.tmp 33] elem22 rfl rfl (.cons rfl rfl rfl <| .nil) (by decide) (by decide)) rfl ?_
              replace h := iNeed h
              obtain ⟨hy52, h⟩ := h
              refine PWl.step (LR.appT (enc := TEvent.e) (L := out40) (R := [e2]) [5, 32] elem22 Try.underlying22 rfl rfl rfl (Src.slT (enc := TEvent.e) (R := [e2]) rfl (fun _ => rfl)) (fun _ => rfl) hy52 rfl rfl) rfl ?_
              refine PWl.step (LR.assign rfl) rfl ?_
              refine PWl.nil ?_
              refine PWc.region ?_
              refine PWl.step (LR.assign rfl) rfl ?_
              refine PWl.nil ?_
              exact ⟨(true, (out40 ++ [e2])), (), h, Sub.of rfl (.cons rfl rfl <| .cons rfl rfl <| .cons rfl rfl <| .cons rfl rfl <| .cons rfl rfl <| .nil) (.cons rfl rfl <| .cons rfl rfl <| .nil)⟩
            · replace h := iF hc51 h
              refine PWc.skip ?_
              exact ⟨(done38, out40), (), h, Sub.of rfl (.cons rfl rfl <| .cons rfl rfl <| .cons rfl rfl <| .cons rfl rfl <| .cons rfl rfl <| .nil) (.cons rfl rfl <| .cons rfl rfl <| .nil)⟩
          · rintro ⟨done49, out50⟩ _ h
            refine PWc.region ?_
            refine PWl.step (LR.move rfl) rfl ?_
            refine PWl.step (LR.move rfl) rfl ?_
            refine PWl.step (LR.move rfl) rfl ?_
            replace h := iIdx h
            obtain ⟨x53, hy54, h⟩ := h
            refine PWl.step (LR.idxT (enc := TEvent.e) (L := l1) (y := x53) Try.underlying22 Try.sizeOf41 rfl rfl hy54 (fun _ => rfl)) rfl ?_
            refine PWl.step (LR.loadEpAgg (ys := [_, _, _, _, _, _, _]) Try.isAgg41 Try.sizeOf41 rfl rfl rfl) rfl ?_
            refine PWl.step (LR.buildSliceD [.tmp 40] elem22 rfl rfl (.cons rfl rfl rfl <| .nil) (by decide) (by decide)) rfl ?_
            replace h := iNeed h
            obtain ⟨hy55, h⟩ := h
            refine PWl.step (LR.appT (enc := TEvent.e) (L := out50) (R := [x53]) [5, 36] elem22 Try.underlying22 rfl rfl rfl (Src.slT (enc := TEvent.e) (R := [x53]) rfl (fun _ => rfl)) (fun _ => rfl) hy55 rfl rfl) rfl ?_
            refine PWl.step (LR.assign rfl) rfl ?_
            refine PWl.nil ?_
            refine PWc.region ?_
            refine PWl.step (LR.move rfl) rfl ?_
            refine PWl.step (LR.addW rfl rfl) rfl ?_
            refine PWl.step (LR.assign rfl) rfl ?_
            refine PWl.nil ?_
            exact ⟨(done49, (IntKind.i64.wrap (i39 + 1)), (out50 ++ [x53])), (), h, Sub.of rfl (.cons rfl rfl <| .cons rfl rfl <| .cons rfl rfl <| .cons rfl rfl <| .cons rfl rfl <| .nil) (.cons rfl rfl <| .cons rfl rfl <| .nil)⟩
    · replace h := iF hc41 h
      refine PWc.exit ?_
      exact ⟨(done38, out40), (), h, Sub.of rfl (.cons rfl rfl <| .cons rfl rfl <| .cons rfl rfl <| .nil) (.cons rfl rfl <| .cons rfl rfl <| .nil)⟩
  · rintro ⟨done3, out4⟩ _ h
    refine PWc.seq ?_
    refine PWc.seq ?_
    refine PWc.region ?_
    refine PWl.step (LR.move rfl) rfl ?_
    refine PWl.step (LR.not rfl) rfl ?_
    refine PWl.nil ?_
    refine PWc.jn (iBind h) (fun (out56 : List TEvent) (_ : Unit) => ⟨50, [(5, .row 5 (List.length out56))], [(5, .row 41 7 (List.map TEvent.e out56))]⟩) (fun h => ?_) ?_
    · refine PWc.cond rfl (fun hc57 => ?_) (fun hc57 => ?_)
      · replace h := iT hc57 h
        refine PWc.region ?_
        refine PWl.step (LR.move rfl) rfl ?_
        refine PWl.step (LR.loadRefAgg (ps := [_, _, _, _, _, _, _]) Try.isAgg41 Try.sizeOf41 rfl rfl rfl rfl) rfl ?_
        refine PWl.step (LR.buildSliceD [.tmp 46] elem22 rfl rfl (.cons rfl rfl rfl <| .nil) (by decide) (by decide)) rfl ?_
        replace h := iNeed h
        obtain ⟨hy58, h⟩ := h
        refine PWl.step (LR.appT (enc := TEvent.e) (L := out4) (R := [e2]) [5, 45] elem22 Try.underlying22 rfl rfl rfl (Src.slT (enc := TEvent.e) (R := [e2]) rfl (fun _ => rfl)) (fun _ => rfl) hy58 rfl rfl) rfl ?_
        refine PWl.step (LR.assign rfl) rfl ?_
        refine PWl.nil ?_
        exact ⟨(out4 ++ [e2]), (), h, Sub.of rfl (.cons rfl rfl <| .nil) (.cons rfl rfl <| .nil)⟩
      · replace h := iF hc57 h
        refine PWc.skip ?_
        exact ⟨out4, (), h, Sub.of rfl (.cons rfl rfl <| .nil) (.cons rfl rfl <| .nil)⟩
    · rintro out56 _ h
      refine PWc.seq ?_
      refine PWc.region ?_
      refine PWl.step (LR.move rfl) rfl ?_
      refine PWl.step (LR.assign rfl) rfl ?_
      refine PWl.nil ?_
      refine PWc.ret ?_
      replace h : _ = r0 := h
      subst h
      exact ⟨.inr rfl, _, .cons (.row rfl rfl (by simp)) <| .nil, rfl⟩

theorem l16_EcodeBack_ok (l1 : List TEvent) (b2 : List Int) (r0 : Bool) (h : (l16_EcodeBack l1 b2).wp (· = r0)) : PFun Try.prog 11 [.d (.sl (List.map TEvent.e l1)), .d (.sl (List.map (eK .u8) b2))] (.d (.v (.bool r0))) := by
  refine PFun.intro (sl := [(0, _), (1, _)]) Try.func11 rfl Try.ntmps11 rfl rfl ?_
  intro ctx hK
  refine PWc.seq ?_
  refine PWc.region ?_
  refine PWl.step (LR.assign rfl) rfl ?_
  refine PWl.nil ?_
  refine PWc.seq ?_
  refine PWc.seq ?_
  refine PWc.jn (iBind h) (fun (v3 : Bool) (_ : Unit) => ⟨79, [(0, .d (.sl (List.map TEvent.e l1))), (1, .d (.sl (List.map (eK .u8) b2))), (21, .d (.v (.bool v3)))], []⟩) (fun h => ?_) ?_
  · refine PWc.region ?_
    refine PWl.step (LR.move rfl) rfl ?_
    replace h := iDet h
    obtain ⟨v4, hy5, h⟩ := h
    refine PWl.step (LR.callN (r13_Few_ok l1 12 v4 hy5) rfl Try.call12 rfl rfl rfl rfl) rfl ?_
    refine PWl.step (LR.not rfl) rfl ?_
    refine PWl.step (LR.move rfl) rfl ?_
    refine PWl.split (d := 17) rfl (fun hg6 => ?_) (fun hg6 => ?_)
    · replace h := iT hg6 h
      refine PWl.guardF rfl rfl rfl (by decide) ?_
      refine PWl.guardF rfl rfl rfl (by decide) ?_
      refine PWl.guardF rfl rfl rfl (by decide) ?_
      refine PWl.step (LR.pickT rfl rfl) rfl ?_
      refine PWl.nil ?_
      exact ⟨true, (), h, Sub.of rfl (.cons rfl rfl <| .cons rfl rfl <| .cons rfl rfl <| .nil) (.nil)⟩
    · replace h := iF hg6 h
      refine PWl.guardT (LR.move rfl) rfl rfl rfl ?_
      refine PWl.guardT (LR.lenMap (enc := (eK .u8)) (L := b2) Try.underlying45 rfl) rfl rfl rfl ?_
      refine PWl.guardT (LR.gtr rfl rfl) rfl rfl rfl ?_
      refine PWl.step (LR.pickF rfl rfl) rfl ?_
      refine PWl.nil ?_
      exact ⟨(decide (1000 < (List.length b2 : Int))), (), h, Sub.of rfl (.cons rfl rfl <| .cons rfl rfl <| .cons rfl rfl <| .nil) (.nil)⟩
  · rintro v3 _ h
    refine PWc.cond rfl (fun hc7 => ?_) (fun hc7 => ?_)
    · replace h := iT hc7 h
      refine PWc.seq ?_
      refine PWc.region ?_
      replace h := iDet h
      obtain ⟨v8, hy9, h⟩ := h
      refine PWl.step (LR.callN (l16_works_ok v8 hy9) rfl Try.call35 rfl rfl rfl rfl) rfl ?_
      refine PWl.step (LR.assign rfl) rfl ?_
      refine PWl.nil ?_
      refine PWc.ret ?_
      replace h : _ = r0 := h
      subst h
      exact ⟨.inr rfl, _, .cons (.tmp rfl rfl) <| .nil, rfl⟩
    · replace h := iF hc7 h
      refine PWc.skip ?_
      refine PWc.seq ?_
      refine PWc.region ?_
      refine PWl.step (LR.move rfl) rfl ?_
      replace h := iDet h
      obtain ⟨v10, hy11, h⟩ := h
      refine PWl.step (LR.callN (ecode_Decode_ok b2 v10 hy11) rfl Try.call63 rfl rfl rfl rfl) rfl ?_
      refine PWl.step (LR.move rfl) rfl ?_
      refine PWl.step (LR.extract rfl rfl) rfl ?_
      refine PWl.step (LR.extract rfl rfl) rfl ?_
      refine PWl.step (LR.allocZ (cs := [_, _, _, _, _, _, _]) Try.zeroValue41 rfl rfl rfl rfl) rfl ?_
      refine PWl.step (LR.storeB (ns := [_, _, _, _, _, _, _]) Try.sizeOf41 rfl rfl rfl rfl rfl rfl rfl) rfl ?_
      refine PWl.step (LR.assign rfl) rfl ?_
      refine PWl.nil ?_
      refine PWc.seq ?_
      refine PWc.seq ?_
      refine PWc.region ?_
      refine PWl.step (LR.move rfl) rfl ?_
      refine PWl.step (LR.eql rfl rfl) rfl ?_
      refine PWl.nil ?_
      refine PWc.jnX (iBind h) (fun (_ : Unit) (_ : Unit) => ⟨79, [(0, .d (.sl (List.map TEvent.e l1)))], []⟩) (fun h => ?_) ?_
      · refine PWc.cond rfl (fun hc12 => ?_) (fun hc12 => ?_)
        · replace h := iT hc12 h
          refine PWc.seq ?_
          refine PWc.region ?_
          refine PWl.step (LR.loadRefAgg (ps := [_, _, _, _, _, _, _]) Try.isAgg41 Try.sizeOf41 rfl rfl rfl rfl) rfl ?_
          replace h := iDet h
          obtain ⟨v13, hy14, h⟩ := h
          refine PWl.step (LR.callN (ecode_Encode_ok v10.1 v13 hy14) rfl Try.call41 rfl rfl rfl rfl) rfl ?_
          refine PWl.step (LR.move rfl) rfl ?_
          refine PWl.step (LR.extract rfl rfl) rfl ?_
          refine PWl.step (LR.extract rfl rfl) rfl ?_
          refine PWl.step (LR.assign rfl) rfl ?_
          refine PWl.step (LR.assign rfl) rfl ?_
          refine PWl.nil ?_
          refine PWc.seq ?_
          refine PWc.jn (iBind h) (fun (v15 : Bool) (_ : Unit) => ⟨79, [(0, .d (.sl (List.map TEvent.e l1))), (42, .d (.v (.bool v15)))], []⟩) (fun h => ?_) ?_
          · refine PWc.region ?_
            refine PWl.step (LR.move rfl) rfl ?_
            refine PWl.step (LR.neq rfl rfl) rfl ?_
            refine PWl.re (tl := [(0, _), (1, _), (7, _), (36, _)]) (to := []) rfl (.cons rfl rfl <| .cons rfl rfl <| .cons rfl rfl <| .cons rfl rfl <| .nil) (.nil) ?_
            refine PWl.step (LR.move rfl) rfl ?_
            refine PWl.split (d := 37) rfl (fun hg16 => ?_) (fun hg16 => ?_)
            · replace h := iT hg16 h
              refine PWl.guardF rfl rfl rfl (by decide) ?_
              refine PWl.guardF rfl rfl rfl (by decide) ?_
              refine PWl.guardF rfl rfl rfl (by decide) ?_
              refine PWl.guardF rfl rfl rfl (by decide) ?_
              refine PWl.step (LR.pickT rfl rfl) rfl ?_
              refine PWl.nil ?_
              exact ⟨true, (), h, Sub.of rfl (.cons rfl rfl <| .cons rfl rfl <| .nil) (.nil)⟩
            · replace h := iF hg16 h
              refine PWl.guardT (LR.move rfl) rfl rfl rfl ?_
              refine PWl.guardT (LR.move rfl) rfl rfl rfl ?_
              replace h := iDet h
              obtain ⟨v17, hy18, h⟩ := h
              refine PWl.guardT (LR.callN (l16_equal_ok b2 v13.1 v17 hy18) rfl Try.call37 rfl rfl rfl rfl) rfl rfl rfl ?_
              refine PWl.guardT (LR.not rfl) rfl rfl rfl ?_
              refine PWl.step (LR.pickF rfl rfl) rfl ?_
              refine PWl.nil ?_
              exact ⟨(!v17), (), h, Sub.of rfl (.cons rfl rfl <| .cons rfl rfl <| .nil) (.nil)⟩
          · rintro v15 _ h
            refine PWc.cond rfl (fun hc19 => ?_) (fun hc19 => ?_)
            · replace h := iT hc19 h
              refine PWc.seq ?_
              refine PWc.region ?_
              refine PWl.step (LR.assign rfl) rfl ?_
              refine PWl.nil ?_
              refine PWc.ret ?_
              replace h : _ = r0 := h
              subst h
              exact ⟨.inr rfl, _, .cons (.tmp rfl rfl) <| .nil, rfl⟩
            · replace h := iF hc19 h
              refine PWc.skip ?_
              exact ⟨(), (), h, Sub.of rfl (.cons rfl rfl <| .nil) (.nil)⟩
        · replace h := iF hc12 h
          refine PWc.skip ?_
          exact ⟨(), (), h, Sub.of rfl (.cons rfl rfl <| .nil) (.nil)⟩
      · rintro _ _ h
        refine PWc.seq ?_
        refine PWc.region ?_
        refine PWl.step (LR.assignNilRow 41 7 rfl) rfl ?_
        refine PWl.nil ?_
        refine PWc.seq ?_
        refine PWc.seq ?_
        refine PWc.region ?_
        refine PWl.step (LR.assign rfl) rfl ?_
        refine PWl.nil ?_
        refine PWc.jn (iBind h) (fun (some20 : List TEvent) (_ : Unit) => ⟨79, [(9, .d (.sl (List.map TEvent.e some20)))], []⟩) (fun h => ?_) ?_
        · refine PWc.block ?_
          refine PWc.loopM (fun (⟨some45, i46⟩ : List TEvent × Int) (_ : Unit) => ⟨79, [(0, .d (.sl (List.map TEvent.e l1))), (9, .d (.sl (List.map TEvent.e some45))), (10, .d (.v (.int .i64 i46)))], []⟩) () h (Sub.trans (Sub.frz [9] hK rfl (by first | (simp; done) | (simp; omega) | omega) (AllRow.get (.cons rfl <| .nil))) <| Sub.of rfl (.cons rfl rfl <| .cons rfl rfl <| .cons rfl rfl <| .nil) (.nil)) ?_
          rintro N ⟨some45, i46⟩ _ h
          refine PWc.seq ?_
          refine PWc.seq ?_
          refine PWc.region ?_
          refine PWl.step (LR.move rfl) rfl ?_
          refine PWl.step (LR.move rfl) rfl ?_
          refine PWl.step (LR.lenMap (enc := TEvent.e) (L := l1) Try.underlying22 rfl) rfl ?_
          refine PWl.step (LR.lss rfl rfl) rfl ?_
          refine PWl.nil ?_
          refine PWc.cond rfl (fun hc47 => ?_) (fun hc47 => ?_)
          · replace h := iT hc47 h
            refine PWc.skip ?_
            refine PWc.seq ?_
            refine PWc.jn (iBind h) (fun (some48 : List TEvent) (_ : Unit) => ⟨79, [(0, .d (.sl (List.map TEvent.e l1))), (9, .d (.sl (List.map TEvent.e some48))), (10, .d (.v (.int .i64 i46)))], []⟩) (fun h => ?_) ?_
            · refine PWc.block ?_
              refine PWc.seq ?_
              refine PWc.region ?_
              refine PWl.step (LR.move rfl) rfl ?_
              refine PWl.step (LR.move rfl) rfl ?_
              replace h := iIdx h
              obtain ⟨x49, hy50, h⟩ := h
              refine PWl.step (LR.idxT (enc := TEvent.e) (L := l1) (y := x49) Try.underlying22 Try.sizeOf41 rfl rfl hy50 (fun _ => rfl)) rfl ?_
              refine PWl.step (LR.loadEpAgg (ys := [_, _, _, _, _, _, _]) Try.isAgg41 Try.sizeOf41 rfl rfl rfl) rfl ?_
              replace h := iDet h
              obtain ⟨v51, hy52, h⟩ := h
              refine PWl.step (LR.callN (r13_Good_ok x49 v51 hy52) rfl Try.call23 rfl rfl rfl rfl) rfl ?_
              refine PWl.nil ?_
              refine PWc.cond rfl (fun hc53 => ?_) (fun hc53 => ?_)
              · replace h := iT hc53 h
                refine PWc.region ?_
                refine PWl.step (LR.move rfl) rfl ?_
                refine PWl.step (LR.move rfl) rfl ?_
                refine PWl.step (LR.move rfl) rfl ?_
                replace h := iIdx h
                obtain ⟨x54, hy55, h⟩ := h
                refine PWl.step (LR.idxT (enc := TEvent.e) (L := l1) (y := x54) Try.underlying22 Try.sizeOf41 rfl rfl hy55 (fun _ => rfl)) rfl ?_
                refine PWl.step (LR.loadEpAgg (ys := [_, _, _, _, _, _, _]) Try.isAgg41 Try.sizeOf41 rfl rfl rfl) rfl ?_
                replace h := iDet h
                obtain ⟨v56, hy57, h⟩ := h
                refine PWl.step (LR.callN (r13_Put_ok some45 x54 v56 hy57) rfl Try.call69 rfl rfl rfl rfl) rfl ?_
                refine PWl.step (LR.assign rfl) rfl ?_
                refine PWl.nil ?_
                exact ⟨v56, (), h, Sub.of rfl (.cons rfl rfl <| .cons rfl rfl <| .cons rfl rfl <| .nil) (.nil)⟩
              · replace h := iF hc53 h
                refine PWc.skip ?_
                exact ⟨some45, (), h, Sub.of rfl (.cons rfl rfl <| .cons rfl rfl <| .cons rfl rfl <| .nil) (.nil)⟩
            · rintro some48 _ h
              refine PWc.region ?_
              refine PWl.step (LR.move rfl) rfl ?_
              refine PWl.step (LR.addW rfl rfl) rfl ?_
              refine PWl.step (LR.assign rfl) rfl ?_
              refine PWl.nil ?_
              exact ⟨(some48, (IntKind.i64.wrap (i46 + 1))), (), h, Sub.of rfl (.cons rfl rfl <| .cons rfl rfl <| .cons rfl rfl <| .nil) (.nil)⟩
          · replace h := iF hc47 h
            refine PWc.exit ?_
            exact ⟨some45, (), h, Sub.of rfl (.cons rfl rfl <| .nil) (.nil)⟩
        · rintro some20 _ h
          refine PWc.seq ?_
          refine PWc.region ?_
          refine PWl.step (LR.allocR (cs := [_]) Try.zeroValue47 rfl rfl rfl rfl) rfl ?_
          refine PWl.sub (Sub.ownNil (id := 11) (j := 0) (id' := 30220) (e := 5) (k := 1) rfl rfl rfl rfl) ?_
          refine PWl.nil ?_
          refine PWc.seq ?_
          refine PWc.re (tl := [(9, _), (11, _)]) (to := [(11, _), (30220, _)]) rfl (.cons rfl rfl <| .cons rfl rfl <| .nil) (.cons rfl rfl <| .cons rfl rfl <| .nil) ?_
          refine PWc.region ?_
          refine PWl.step (LR.move rfl) rfl ?_
          replace h := iDet h
          obtain ⟨y58, hy59, h⟩ := h
          refine PWl.step (LR.callObj [(100, 11), (101, 30220)] [] [100, 101] (ecode_PutAll_o_ok some20 ([] : List Int) y58 hy59) hK rfl Try.call36 rfl (by first | rfl | (simp; done) | (simp [PV.nilD, PV.ren, rn]; omega)) (.cons (by first | rfl | (congr 1; first | (simp; done) | (simp; omega))) <| .cons (by first | rfl | (congr 1; first | (simp; done) | (simp; omega))) <| .nil) rfl rfl rfl rfl) rfl ?_
          refine PWl.nil ?_
          refine PWc.seq ?_
          refine PWc.re (tl := [(9, _), (11, _)]) (to := [(11, _), (30220, _)]) rfl (.cons rfl rfl <| .cons rfl rfl <| .nil) (.cons rfl rfl <| .cons rfl rfl <| .nil) ?_
          refine PWc.region ?_
          replace h := iDet h
          obtain ⟨y60, hy61, h⟩ := h
          refine PWl.step (LR.callObj [(100, 11), (101, 30220)] [] [100, 101] (pack_Writer_Bytes_o_ok y58 y60 hy61) hK rfl Try.call30 rfl (by first | rfl | (simp; done) | (simp [PV.nilD, PV.ren, rn]; omega)) (.cons (by first | rfl | (congr 1; first | (simp; done) | (simp; omega))) <| .cons (by first | rfl | (congr 1; first | (simp; done) | (simp; omega))) <| .nil) rfl rfl rfl rfl) rfl ?_
          replace h := iDet h
          obtain ⟨y62, hy63, h⟩ := h
          refine PWl.step (LR.callObj [(7, 63)] [] [7] (pack_New_o_ok y60.1 y62 hy63) hK rfl Try.call58 rfl (by first | rfl | (simp; done) | (simp [PV.nilD, PV.ren, rn]; omega)) (.nil) rfl rfl rfl rfl) rfl ?_
          refine PWl.re (tl := [(9, _), (63, _)]) (to := [(63, _)]) rfl (.cons rfl rfl <| .cons rfl rfl <| .nil) (.cons rfl rfl <| .nil) ?_
          refine PWl.step (LR.assign rfl) rfl ?_
          refine PWl.nil ?_
          refine PWc.seq ?_
          refine PWc.region ?_
          refine PWl.step (LR.move rfl) rfl ?_
          refine PWl.step (LR.move rfl) rfl ?_
          refine PWl.step (LR.lenMap (enc := TEvent.e) (L := some20) Try.underlying22 rfl) rfl ?_
          replace h := iDet h
          obtain ⟨y64, hy65, h⟩ := h
          refine PWl.step (LR.callObj [(100, 63)] [] [100] (ecode_GetAll_o_ok (List.length some20 : Int) y62.1 y62.2 y64 hy65) hK rfl Try.call59 rfl (by first | rfl | (simp; done) | (simp [PV.nilD, PV.ren, rn]; omega)) (.cons (by first | rfl | (congr 1; first | (simp; done) | (simp; omega))) <| .nil) rfl rfl rfl rfl) rfl ?_
          refine PWl.step (LR.assign rfl) rfl ?_
          refine PWl.nil ?_
          refine PWc.seq ?_
          refine PWc.re (tl := [(9, _), (12, _), (13, _)]) (to := [(63, _)]) rfl (.cons rfl rfl <| .cons rfl rfl <| .cons rfl rfl <| .nil) (.cons rfl rfl <| .nil) ?_
          refine PWc.jn (iBind h) (fun (v66 : Bool) (_ : Unit) => ⟨79, [(4, .d (.v (.bool v66)))], []⟩) (fun h => ?_) ?_
          · refine PWc.region ?_
            refine PWl.step (LR.move rfl) rfl ?_
            refine PWl.step (LR.move rfl) rfl ?_
            replace h := iDet h
            obtain ⟨v67, hy68, h⟩ := h
            refine PWl.step (LR.callN (r13_All_ok y64.1 some20 v67 hy68) rfl Try.call17 rfl rfl rfl rfl) rfl ?_
            refine PWl.step (LR.move rfl) rfl ?_
            refine PWl.split (d := 71) rfl (fun hg69 => ?_) (fun hg69 => ?_)
            · replace h := iT hg69 h
              refine PWl.guardT (LR.move rfl) rfl rfl rfl ?_
              replace h := iDet h
              obtain ⟨y70, hy71, h⟩ := h
              refine PWl.guardT (LR.callObj [(100, 63)] [] [100] (pack_Reader_End_o_ok y64.2.1 y64.2.2 y70 hy71) hK rfl Try.call61 rfl (by first | rfl | (simp; done) | (simp [PV.nilD, PV.ren, rn]; omega)) (.cons (by first | rfl | (congr 1; first | (simp; done) | (simp; omega))) <| .nil) rfl rfl rfl rfl) rfl rfl rfl ?_
              refine PWl.guardT (LR.eql rfl rfl) rfl rfl rfl ?_
              refine PWl.step (LR.pickT rfl rfl) rfl ?_
              refine PWl.step (LR.move rfl) rfl ?_
              refine PWl.split (d := 76) rfl (fun hg72 => ?_) (fun hg72 => ?_)
              · replace h := iT hg72 h
                replace h := iDet h
                obtain ⟨v73, hy74, h⟩ := h
                refine PWl.guardT (LR.callN (l16_works_ok v73 hy74) rfl Try.call35 rfl rfl rfl rfl) rfl rfl rfl ?_
                refine PWl.step (LR.pickT rfl rfl) rfl ?_
                refine PWl.step (LR.assign rfl) rfl ?_
                refine PWl.nil ?_
                exact ⟨v73, (), h, Sub.of rfl (.cons rfl rfl <| .nil) (.nil)⟩
              · replace h := iF hg72 h
                refine PWl.guardF rfl rfl rfl (by decide) ?_
                refine PWl.step (LR.pickF rfl rfl) rfl ?_
                refine PWl.step (LR.assign rfl) rfl ?_
                refine PWl.nil ?_
                exact ⟨false, (), h, Sub.of rfl (.cons rfl rfl <| .nil) (.nil)⟩
            · replace h := iF hg69 h
              refine PWl.guardF rfl rfl rfl (by decide) ?_
              refine PWl.guardF rfl rfl rfl (by decide) ?_
              refine PWl.guardF rfl rfl rfl (by decide) ?_
              refine PWl.step (LR.pickF rfl rfl) rfl ?_
              refine PWl.step (LR.move rfl) rfl ?_
              refine PWl.guardF rfl rfl rfl (by decide) ?_
              refine PWl.step (LR.pickF rfl rfl) rfl ?_
              refine PWl.step (LR.assign rfl) rfl ?_
              refine PWl.nil ?_
              exact ⟨false, (), h, Sub.of rfl (.cons rfl rfl <| .nil) (.nil)⟩
          · rintro v66 _ h
            refine PWc.ret ?_
            replace h : _ = r0 := h
            subst h
            exact ⟨.inr rfl, _, .cons (.tmp rfl rfl) <| .nil, rfl⟩
end Go.Proofs

namespace Go.Ep
open Go

theorem wI64 {n : Int} (h : -9223372036854775808 ≤ n) (h' : n ≤ 9223372036854775807) : IntKind.i64.wrap n = n := by simp [IntKind.wrap, IntKind.bits, IntKind.signed]; omega
theorem wU64 {n : Int} (h : 0 ≤ n) (h' : n ≤ 18446744073709551615) : IntKind.u64.wrap n = n := by simp [IntKind.wrap, IntKind.bits, IntKind.signed]; omega
theorem wU16 {n : Int} (h : 0 ≤ n) (h' : n ≤ 65535) : IntKind.u16.wrap n = n := by simp [IntKind.wrap, IntKind.bits, IntKind.signed]; omega
theorem wU8 {n : Int} (h : 0 ≤ n) (h' : n ≤ 255) : IntKind.u8.wrap n = n := by simp [IntKind.wrap, IntKind.bits, IntKind.signed]; omega
theorem wSucc {i : Nat} (h : i < 9223372036854775807) : IntKind.i64.wrap ((i : Int) + 1) = ((i + 1 : Nat) : Int) := by rw [wI64 (by omega) (by omega)]; rfl
namespace M
variable {α β σ ρ τ ε : Type}
theorem cond_dec (p : Prop) [Decidable p] (x y : M α) : cond (decide p) x y = if p then x else y := by by_cases h : p <;> simp [h]
/-- A loop over a list's places; mk: the state at a place. -/
theorem loopL {body : σ → M (Step σ ρ)} (l : List ε) (mk : Nat → τ → σ) (f : τ → ε → τ) (g : τ → M ρ)
    (I : Nat → τ → Prop) (h1 : ∀ (i : Nat) (x : ε) (t : τ), l[i]? = some x → i < l.length → I i t → body (mk i t) = pure (.next (mk (i + 1) (f t x))) ∧ I (i + 1) (f t x))
    (h2 : ∀ t, I l.length t → body (mk l.length t) = (g t).bind fun r => pure (.done r)) (t0 : τ) (h0 : I 0 t0) : loop body (mk 0 t0) = g (l.foldl f t0) := by
  have key : ∀ k i t, i + k = l.length → I i t → loop body (mk i t) = g ((l.drop i).foldl f t) := by
    intro k
    induction k with
    | zero =>
      intro i t hi hI
      have : i = l.length := by omega
      subst this
      rw [loop_eq, h2 t hI, List.drop_length]
      rfl
    | succ k ih =>
      intro i t hi hI
      have hlt : i < l.length := by omega
      obtain ⟨h3, h4⟩ := h1 i l[i] t (List.getElem?_eq_getElem hlt) hlt hI
      rw [loop_next h3, ih (i + 1) _ (by omega) h4, List.drop_eq_getElem_cons hlt]
      rfl
  simpa using key l.length 0 t0 (by omega) h0
/-- Does each element pass? -/
theorem loopAll {body : σ → M (Step σ ρ)} (l : List ε) (mk : Nat → σ) (p : Nat → ε → Bool) (r1 r2 : ρ)
    (h1 : ∀ (i : Nat) (x : ε), l[i]? = some x → i < l.length → body (mk i) = if p i x then pure (.next (mk (i + 1))) else pure (.done r2))
    (h2 : body (mk l.length) = pure (.done r1)) : loop body (mk 0) = pure (if l.zipIdx.all (fun y => p y.2 y.1) then r1 else r2) := by
  have key : ∀ k i, i + k = l.length → loop body (mk i) = pure (if ((l.drop i).zipIdx i).all (fun y => p y.2 y.1) then r1 else r2) := by
    intro k
    induction k with
    | zero =>
      intro i hi
      have : i = l.length := by omega
      subst this
      rw [loop_done h2, List.drop_length]
      rfl
    | succ k ih =>
      intro i hi
      have hlt : i < l.length := by omega
      have h3 := h1 i l[i] (List.getElem?_eq_getElem hlt) hlt
      rw [List.drop_eq_getElem_cons hlt, List.zipIdx_cons, List.all_cons]
      by_cases hp : p i l[i] = true
      · rw [if_pos hp] at h3
        rw [loop_next h3, ih (i + 1) (by omega), hp, Bool.true_and]
      · rw [if_neg hp] at h3
        rw [loop_done h3]
        simp [hp]
  have := key l.length 0 (by omega)
  rw [List.drop_zero] at this
  exact this

/-- What came, as a list. -/
def came {ε : Type} (m : List ε) (L : List Nat) : List ε := L.filterMap fun i => m[i]?
theorem came_snoc {m : List ε} {L : List Nat} {i : Nat} {y : ε} (h : m[i]? = some y) : came m (L ++ [i]) = came m L ++ [y] := by simp [came, h]
theorem all_perm {n : Nat} {L : List Nat} (hn : L.Nodup) (hb : ∀ i ∈ L, i < n) (ha : ∀ i, i < n → i ∈ L) : L.Perm (List.range n) := by
  refine (List.perm_ext_iff_of_nodup hn List.nodup_range).2 fun i => ?_
  rw [List.mem_range]
  exact ⟨hb i, ha i⟩
theorem came_perm {m : List ε} {L : List Nat} (hn : L.Nodup) (hb : ∀ i ∈ L, i < m.length) (ha : ∀ i, i < m.length → i ∈ L) : (came m L).Perm m := by
  have h1 := (all_perm hn hb ha).filterMap fun i => m[i]?
  have h2 : (List.range m.length).filterMap (fun i => m[i]?) = m := by
    apply List.ext_getElem?
    intro i
    clear h1 hn hb ha
    have : (List.range m.length).filterMap (fun i => m[i]?) = m := by
      induction m with
      | nil => rfl
      | cons x r ih =>
        rw [List.length_cons, List.range_succ_eq_map, List.filterMap_cons]
        simp only [List.getElem?_cons_zero, List.filterMap_map]
        congr 1
    rw [this]
  rw [h2] at h1
  exact h1
theorem nodup_len {n : Nat} {L : List Nat} (hn : L.Nodup) (hb : ∀ i ∈ L, i < n) : L.length ≤ n := by
  have := List.Nodup.length_le_of_subset hn (l₂ := List.range n) (fun i hi => List.mem_range.2 (hb i hi))
  simpa using this

theorem full {n : Nat} {L : List Nat} (hn : L.Nodup) (hb : ∀ i ∈ L, i < n) (hl : n ≤ L.length) : ∀ i, i < n → i ∈ L := by
  intro i hi
  refine Classical.byContradiction fun hni => ?_
  have := nodup_len (n := n) (L := i :: L) (List.nodup_cons.2 ⟨hni, hn⟩) (fun j hj => by
    rcases List.mem_cons.1 hj with rfl | hj
    · exact hi
    · exact hb j hj)
  simp at this
  omega
/-- A map is gone over; mk: the state when the places L came. -/
theorem loopM {body : σ → M (Step σ ρ)} (m : List ε) (mk : List Nat → τ → σ) (f : τ → ε → M τ) (g : τ → M ρ) (I : List ε → τ → Prop) (Q : ρ → Prop)
    (hb : ∀ L t, (∀ i ∈ L, i < m.length) → body (mk L t) = need (∀ i ∈ L, i < m.length) ((nxt m.length L).bind fun o => match o with
      | none => (g t).bind fun r => pure (.done r)
      | some i => (idx m (Int.ofNat i)).bind fun y => (f t y).bind fun t' => pure (.next (mk (L ++ [i]) t'))))
    (hs : ∀ l t y, I l t → l.length < m.length → y ∈ m → ∃ t', f t y = pure t' ∧ I (l ++ [y]) t') (he : ∀ l t, l.Perm m → I l t → (g t).wp Q) (t0 : τ) (h0 : I [] t0) : (loop body (mk [] t0)).wp Q := by
  have key : ∀ k L t, L.length + k = m.length → L.Nodup → (∀ i ∈ L, i < m.length) → I (came m L) t → loopP body Q (mk L t) := by
    intro k
    induction k with
    | zero =>
      intro L t hk hn hlt hI
      refine loopP_in ?_
      rw [hb L t hlt]
      have hall : ∀ i, i < m.length → i ∈ L := fun i hi => full hn hlt (by omega) i hi
      refine ⟨hlt, ⟨⟨none, hall⟩, fun o ho => ?_⟩⟩
      cases o with
      | none =>
        have := he _ t (came_perm hn hlt hall) hI
        exact this
      | some i => exact absurd (hall i ho.1) ho.2
    | succ k ih =>
      intro L t hk hn hlt hI
      refine loopP_in ?_
      rw [hb L t hlt]
      have hex : ∃ i, i < m.length ∧ i ∉ L := by
        refine Classical.byContradiction fun hno => ?_
        have hall : ∀ i, i < m.length → i ∈ L := fun i hi => Classical.byContradiction fun h => hno ⟨i, hi, h⟩
        have := (all_perm hn hlt hall).length_eq
        simp at this
        omega
      obtain ⟨i0, hi0⟩ := hex
      refine ⟨hlt, ⟨⟨some i0, hi0⟩, fun o ho => ?_⟩⟩
      cases o with
      | none => exact absurd (ho i0 hi0.1) hi0.2
      | some i =>
        have hi := List.getElem?_eq_getElem ho.1
        obtain ⟨t', h1, h2⟩ := hs (came m L) t m[i] hI (by have := List.length_filterMap_le (fun i => m[i]?) L; unfold came; omega) (List.getElem_mem ho.1)
        show ((idx m (Int.ofNat i)).bind _).wp _
        rw [show (Int.ofNat i) = (i : Int) from rfl, idx_nat hi, pure_bind, h1, pure_bind]
        refine ih (L ++ [i]) t' (by simp; omega) ?_ ?_ (by rw [came_snoc hi]; exact h2)
        · rw [List.nodup_append]
          refine ⟨hn, by simp, fun a ha b hb' => ?_⟩
          rw [List.mem_singleton.1 hb']
          intro e
          exact ho.2 (e ▸ ha)
        · intro j hj
          rcases List.mem_append.1 hj with hj | hj
          · exact hlt j hj
          · rw [List.mem_singleton.1 hj]; exact ho.1
  exact key m.length [] t0 (by simp) List.nodup_nil (by simp) h0

end M

namespace AL
variable {κ ν : Type} [DecidableEq κ]
theorem get_set (m : List (κ × ν)) (k q : κ) (v : ν) : get (set m k v) q = if k = q then some v else get m q := by
  induction m with
  | nil => simp [set, get]
  | cons x r ih =>
    obtain ⟨a, u⟩ := x
    by_cases h : a = k
    · subst h; simp only [set, if_true, get]; split <;> rfl
    · simp only [set, h, if_false, get, ih]
      by_cases h2 : a = q
      · subst h2; simp [Ne.symm h]
      · simp [h2]
theorem getZ_set (m : List (κ × ν)) (k q : κ) (v z : ν) : getZ (set m k v) q z = if k = q then v else getZ m q z := by
  unfold getZ; rw [get_set]; split <;> rfl
theorem keys_set (m : List (κ × ν)) (k : κ) (v : ν) : (set m k v).map (·.1) = if k ∈ m.map (·.1) then m.map (·.1) else m.map (·.1) ++ [k] := by
  induction m with
  | nil => simp [set]
  | cons x r ih =>
    obtain ⟨a, u⟩ := x
    by_cases h : a = k
    · subst h; simp [set]
    · simp only [set, h, if_false, List.map_cons, ih, List.mem_cons, Ne.symm h, false_or]
      split <;> simp
theorem nodup_set {m : List (κ × ν)} (h : (m.map (·.1)).Nodup) (k : κ) (v : ν) : ((set m k v).map (·.1)).Nodup := by
  rw [keys_set]
  split
  · exact h
  · rename_i hk
    rw [List.nodup_append]
    refine ⟨h, by simp, fun a ha b hb => ?_⟩
    rw [List.mem_singleton.1 hb]
    intro e; exact hk (e ▸ ha)
theorem get_mem {m : List (κ × ν)} {k : κ} {v : ν} (h : get m k = some v) : (k, v) ∈ m := by
  induction m with
  | nil => simp [get] at h
  | cons x r ih =>
    obtain ⟨a, u⟩ := x
    by_cases e : a = k
    · subst e; simp [get] at h; subst h; simp
    · simp only [get, e, if_false] at h; exact List.mem_cons_of_mem _ (ih h)
theorem mem_get {m : List (κ × ν)} (hn : (m.map (·.1)).Nodup) {k : κ} {v : ν} (h : (k, v) ∈ m) : get m k = some v := by
  induction m with
  | nil => simp at h
  | cons x r ih =>
    obtain ⟨a, u⟩ := x
    simp only [List.map_cons, List.nodup_cons] at hn
    rcases List.mem_cons.1 h with e | h
    · cases e; simp [get]
    · have : a ≠ k := fun e => hn.1 (e ▸ List.mem_map.2 ⟨(k, v), h, rfl⟩)
      simp only [get, this, if_false]; exact ih hn.2 h
theorem len_set (m : List (κ × ν)) (k : κ) (v : ν) : (set m k v).length ≤ m.length + 1 := by
  induction m with
  | nil => simp [set]
  | cons x r ih =>
    obtain ⟨a, u⟩ := x
    unfold set
    split
    · simp
    · simpa using ih
end AL
end Go.Ep

namespace Go.Ep.M.V
open Go

def goodD (d : TDot) : Bool := decide (1 ≤ d.dev) && (decide (1 ≤ d.n) && decide (d.n ≤ 281474976710655))
theorem goodD_iff {d : TDot} : goodD d = true ↔ 1 ≤ d.dev ∧ 1 ≤ d.n ∧ d.n ≤ 281474976710655 := by simp [goodD]
theorem dot_Good_eq (d : TDot) : dot_Good d = pure (goodD d) := by
  unfold dot_Good
  rw [cond_pure_and, cond_pure_and, pure_bind]
  refine congrArg pure ?_
  rw [Bool.eq_iff_iff, goodD_iff]
  simp only [Bool.and_eq_true, decide_eq_true_eq]
  omega
theorem r07_Good_eq (d : TDot) : r07_Good d = pure (goodD d) := by
  unfold r07_Good
  rw [cond_pure_and, cond_pure_and, pure_bind]
  refine congrArg pure ?_
  rw [Bool.eq_iff_iff, goodD_iff]
  simp only [Bool.and_eq_true, decide_eq_true_eq]
  omega
theorem r07_Same_eq (a b : List TDot) (h : a.length ≤ 1000000000000) : r07_Same a b = pure (decide (a = b)) := by
  unfold r07_Same
  by_cases hl : (a.length : Int) = b.length
  · simp only [hl, decide_true, Bool.not_true, cond_false]
    have := loopAll (body := r07_Same_l0 a b) a (fun i => (i : Int)) (fun i x => decide (b[i]? = some x)) (.brk ()) (.ret false) (fun i x hx hi => by
      have hb : i < b.length := by omega
      unfold r07_Same_l0
      rw [idx_nat hx, idx_nat (List.getElem?_eq_getElem hb), wSucc (by omega)]
      simp only [pure_bind, List.getElem?_eq_getElem hb, Option.some.injEq]
      have : decide ((i : Int) < (a.length : Int)) = true := by simpa using hi
      rw [this, cond_true]
      by_cases he : b[i] = x
      · subst he; simp
      · rw [if_neg (by simpa using he)]
        have : (decide (x.dev = b[i].dev) && decide (x.n = b[i].n)) = false := by
          rw [Bool.eq_false_iff]
          intro hc
          simp at hc
          apply he
          cases x; cases hh : b[i]; simp_all
        rw [this]; rfl) (by
      unfold r07_Same_l0
      simp)
    rw [show (0 : Int) = ((0 : Nat) : Int) from rfl, this]
    by_cases he : a = b
    · subst he
      rw [if_pos]
      · simp [pure_bind, exk_brk]
      · rw [List.all_eq_true]
        intro ⟨x, i⟩ hx
        rw [List.mk_mem_zipIdx_iff_getElem?] at hx
        simpa using hx
    · rw [if_neg]
      · simp [he, pure_bind, exk_ret]
      · intro hall
        rw [List.all_eq_true] at hall
        apply he
        apply List.ext_getElem (by omega)
        intro i h1 h2
        have := hall (a[i], i) (by rw [List.mk_mem_zipIdx_iff_getElem?]; exact List.getElem?_eq_getElem h1)
        simp [h2] at this
        exact this.symm
  · have hne : a ≠ b := fun e => hl (by rw [e])
    simp [hl, hne]

def ofV : List TDot → Int → Int
  | [], _ => 0
  | d :: r, dev => if d.dev = dev ∧ goodD d = true then max d.n (ofV r dev) else ofV r dev
theorem ofV_range (v : List TDot) (dev : Int) : 0 ≤ ofV v dev ∧ ofV v dev ≤ 281474976710655 := by
  induction v with
  | nil => simp [ofV]
  | cons d r ih =>
    simp only [ofV]
    split
    · rename_i h; have := goodD_iff.1 h.2; omega
    · exact ih
theorem ofV_pos {v : List TDot} {dev : Int} : 0 < ofV v dev ↔ ∃ d ∈ v, d.dev = dev ∧ goodD d = true := by
  induction v with
  | nil => simp [ofV]
  | cons d r ih =>
    simp only [ofV, List.mem_cons, exists_eq_or_imp]
    split
    · rename_i h
      have := goodD_iff.1 h.2
      constructor
      · intro _; exact .inl h
      · intro _; omega
    · rename_i h
      rw [ih]
      constructor
      · exact .inr
      · rintro (hh | hh)
        · exact absurd hh h
        · exact hh
/-- Numbers, rising, each once. -/
def insI : List Int → Int → List Int
  | [], k => [k]
  | a :: r, k => if k < a then k :: a :: r else if k = a then a :: r else a :: insI r k
theorem mem_insI {l : List Int} {k q : Int} : q ∈ insI l k ↔ q = k ∨ q ∈ l := by
  induction l with
  | nil => simp [insI]
  | cons a r ih =>
    unfold insI
    split
    · simp
    · split
      · rename_i h; subst h; simp
      · simp only [List.mem_cons, ih]; constructor
        · rintro (h | h | h) <;> simp [h]
        · rintro (h | h | h) <;> simp [h]
theorem insI_sorted {l : List Int} (h : l.Pairwise (· < ·)) (k : Int) : (insI l k).Pairwise (· < ·) := by
  induction l with
  | nil => simp [insI]
  | cons a r ih =>
    obtain ⟨h1, h2⟩ := List.pairwise_cons.1 h
    unfold insI
    split
    · rename_i hk
      refine List.pairwise_cons.2 ⟨fun x hx => ?_, h⟩
      rcases List.mem_cons.1 hx with rfl | hx
      · exact hk
      · have := h1 x hx; omega
    · split
      · exact h
      · refine List.pairwise_cons.2 ⟨fun x hx => ?_, ih h2⟩
        rcases mem_insI.1 hx with rfl | hx
        · omega
        · exact h1 x hx
theorem len_insI (l : List Int) (k : Int) : (insI l k).length ≤ l.length + 1 := by
  induction l with
  | nil => simp [insI]
  | cons a r ih => unfold insI; split <;> try split
                   all_goals simp_all
def devStep (l : List Int) (d : TDot) : List Int := if goodD d then insI l d.dev else l
/-- The devices that a vector tells of. -/
def devsL (v : List TDot) : List Int := v.foldl devStep []
theorem devs_gen (v : List TDot) : ∀ l : List Int, l.Pairwise (· < ·) → (v.foldl devStep l).Pairwise (· < ·) ∧ (∀ k, k ∈ v.foldl devStep l ↔ k ∈ l ∨ ∃ d ∈ v, d.dev = k ∧ goodD d = true) ∧ (v.foldl devStep l).length ≤ l.length + v.length := by
  induction v with
  | nil => intro l h; simp [h]
  | cons d r ih =>
    intro l h
    simp only [List.foldl_cons]
    unfold devStep
    split
    · rename_i hg
      obtain ⟨h1, h2, h3⟩ := ih _ (insI_sorted h d.dev)
      refine ⟨h1, fun k => ?_, ?_⟩
      · have := h2 k
        unfold devStep at this
        rw [this, mem_insI]
        constructor
        · rintro ((rfl | h) | ⟨e, he, h⟩)
          · exact .inr ⟨d, by simp, rfl, hg⟩
          · exact .inl h
          · exact .inr ⟨e, by simp [he], h⟩
        · rintro (h | ⟨e, he, h⟩)
          · exact .inl (.inr h)
          · rcases List.mem_cons.1 he with rfl | he
            · exact .inl (.inl h.1.symm)
            · exact .inr ⟨e, he, h⟩
      · have := len_insI l d.dev; simp only [List.length_cons]; unfold devStep at h3; omega
    · rename_i hg
      obtain ⟨h1, h2, h3⟩ := ih _ h
      refine ⟨h1, fun k => ?_, ?_⟩
      · have := h2 k
        unfold devStep at this
        rw [this]
        constructor
        · rintro (h | ⟨e, he, h⟩)
          · exact .inl h
          · exact .inr ⟨e, by simp [he], h⟩
        · rintro (h | ⟨e, he, h⟩)
          · exact .inl h
          · rcases List.mem_cons.1 he with rfl | he
            · exact absurd h.2 hg
            · exact .inr ⟨e, he, h⟩
      · simp only [List.length_cons]; unfold devStep at h3; omega
theorem devs_sorted (v : List TDot) : (devsL v).Pairwise (· < ·) := (devs_gen v [] List.Pairwise.nil).1
theorem mem_devs {v : List TDot} {k : Int} : k ∈ devsL v ↔ 0 < ofV v k := by rw [ofV_pos]; simpa [devsL] using (devs_gen v [] List.Pairwise.nil).2.1 k
theorem len_devs (v : List TDot) : (devsL v).length ≤ v.length := by simpa [devsL] using (devs_gen v [] List.Pairwise.nil).2.2
def toldStep (m : List (Int × Int)) (d : TDot) : List (Int × Int) := if goodD d then AL.set m d.dev (max (AL.getZ m d.dev 0) d.n) else m
def toldM (v : List TDot) : List (Int × Int) := v.foldl toldStep []
theorem told_gen (v : List TDot) : ∀ m : List (Int × Int), (m.map (·.1)).Nodup → ((v.foldl toldStep m).map (·.1)).Nodup ∧ ((∀ k, 0 ≤ AL.getZ m k 0) → ∀ k, AL.getZ (v.foldl toldStep m) k 0 = max (AL.getZ m k 0) (ofV v k)) ∧ (v.foldl toldStep m).length ≤ m.length + v.length ∧ (∀ k, k ∈ (v.foldl toldStep m).map (·.1) → k ∈ m.map (·.1) ∨ 0 < ofV v k) := by
  induction v with
  | nil =>
    intro m h
    refine ⟨h, fun h0 k => ?_, by simp, fun k hk => .inl hk⟩
    have := h0 k
    simp only [List.foldl_nil, ofV]
    omega
  | cons d r ih =>
    intro m h
    simp only [List.foldl_cons]
    by_cases hg : goodD d = true
    · have hd := goodD_iff.1 hg
      have e : toldStep m d = AL.set m d.dev (max (AL.getZ m d.dev 0) d.n) := by simp [toldStep, hg]
      rw [e]
      obtain ⟨h1, h2, h3, h4⟩ := ih _ (AL.nodup_set h d.dev (max (AL.getZ m d.dev 0) d.n))
      refine ⟨h1, fun h0 k => ?_, ?_, fun k hk => ?_⟩
      · rw [h2 (fun q => by rw [AL.getZ_set]; have := h0 q; have := h0 d.dev; split <;> omega), AL.getZ_set]
        simp only [ofV]
        by_cases hk : d.dev = k
        · subst hk
          simp only [if_true, hg, and_self]
          omega
        · simp [hk]
      · have := AL.len_set m d.dev (max (AL.getZ m d.dev 0) d.n)
        simp only [List.length_cons]; omega
      · simp only [ofV]
        rcases h4 k hk with h5 | h5
        · rw [AL.keys_set] at h5
          split at h5
          · exact .inl h5
          · rcases List.mem_append.1 h5 with h5 | h5
            · exact .inl h5
            · right
              rw [List.mem_singleton.1 h5, if_pos ⟨rfl, hg⟩]
              omega
        · right; split <;> omega
    · have e : toldStep m d = m := by simp [toldStep, hg]
      rw [e]
      obtain ⟨h1, h2, h3, h4⟩ := ih m h
      have e2 : ∀ k, ofV (d :: r) k = ofV r k := fun k => by simp only [ofV]; rw [if_neg (fun hh => hg hh.2)]
      exact ⟨h1, fun h0 k => by rw [h2 h0, e2], by simp only [List.length_cons]; omega, fun k hk => by rw [e2]; exact h4 k hk⟩
theorem told_nodup (v : List TDot) : ((toldM v).map (·.1)).Nodup := (told_gen v [] (by simp)).1
theorem told_get (v : List TDot) (k : Int) : AL.getZ (toldM v) k 0 = ofV v k := by
  have := (told_gen v [] (by simp)).2.1 (fun _ => Int.le_refl _) k
  have h2 := ofV_range v k
  rw [toldM, this]
  show max 0 (ofV v k) = _
  omega
theorem told_len (v : List TDot) : (toldM v).length ≤ v.length := by simpa [toldM] using (told_gen v [] (by simp)).2.2.1
theorem told_mem {v : List TDot} {k n : Int} (h : (k, n) ∈ toldM v) : n = ofV v k ∧ 0 < n := by
  have h1 := AL.mem_get (told_nodup v) h
  have h2 : AL.getZ (toldM v) k 0 = n := by simp [AL.getZ, h1]
  rw [told_get] at h2
  have h3 := (told_gen v [] (by simp)).2.2.2 k (List.mem_map.2 ⟨_, h, rfl⟩)
  simp at h3
  omega
theorem told_at {v : List TDot} {k : Int} (h : 0 < ofV v k) : (k, ofV v k) ∈ toldM v := by
  have h1 : AL.getZ (toldM v) k 0 = ofV v k := told_get v k
  unfold AL.getZ at h1
  cases hg : AL.get (toldM v) k with
  | none => rw [hg] at h1; simp at h1; omega
  | some n => rw [hg] at h1; simp at h1; subst h1; exact AL.get_mem hg

def cmpD (a b : TDot) : Int := if a = b then 0 else if ltDot a b then -1 else 1
theorem r07_Cmp_eq (a b : TDot) : r07_Cmp a b = pure (cmpD a b) := by
  unfold r07_Cmp cmpD
  have h1 : (decide (a.dev = b.dev) && decide (a.n = b.n)) = decide (a = b) := by
    rw [Bool.eq_iff_iff]; cases a; cases b; simp
  have h2 : (cond (decide (a.dev < b.dev)) (pure true) (cond (decide (a.dev = b.dev)) (pure (decide (a.n < b.n))) (pure false)) : M Bool) = pure (ltDot a b) := by
    rw [cond_pure_and, cond_pure_or]; rfl
  rw [h1, h2, cond_dec, pure_bind]
  split
  · rfl
  · cases ltDot a b <;> rfl
theorem cmpD_neg {a b : TDot} : cmpD a b < 0 ↔ ltDot a b = true := by
  unfold cmpD
  split
  · rename_i h; subst h; simp [ltDot]
  · split <;> simp_all
theorem cmpD_pos {a b : TDot} : 0 < cmpD a b ↔ ltDot b a = true := by
  unfold cmpD
  by_cases h : a = b
  · subst h; simp [ltDot]
  · rw [if_neg h]
    cases a; cases b
    simp only [TDot.mk.injEq] at h
    simp only [ltDot, Bool.or_eq_true, Bool.and_eq_true, decide_eq_true_eq]
    split <;> omega
theorem r07_Put_eq (l : List TDot) (d : TDot) (h : l.length ≤ 1000000000000) : r07_Put l d = pure ((l.filter fun x => ltDot x d) ++ [d] ++ (l.filter fun x => ltDot d x)) := by
  unfold r07_Put
  have c0 : ∀ o : List TDot, o.length ≤ 1000000000000 → True := fun _ _ => trivial
  have h1 := loopL (body := r07_Put_l0 l d) l (fun i (o : List TDot) => ((i : Int), o)) (fun o x => if ltDot x d then o ++ [x] else o) (fun o => pure o) (fun i o => o.length ≤ i) (fun i x o hx hi ho => by
    have h1 : decide ((i : Int) < (l.length : Int)) = true := by simpa using hi
    unfold r07_Put_l0
    simp only [h1, cond_true, idx_nat hx, pure_bind, r07_Cmp_eq, det_pure, wSucc (show i < 9223372036854775807 by omega), cond_dec, cmpD_neg]
    split
    · rw [need_true (by simp; omega)]; exact ⟨rfl, by simp; omega⟩
    · exact ⟨rfl, by omega⟩) (fun o _ => by unfold r07_Put_l0; simp [pure_bind]) [] (by simp)
  have h2 : ∀ o0 : List TDot, o0.length ≤ 1000000000001 → loop (r07_Put_l1 l d) (0, o0) = pure (l.foldl (fun o x => if ltDot d x then o ++ [x] else o) o0) := fun o0 ho0 => by
    have := loopL (body := r07_Put_l1 l d) l (fun i (o : List TDot) => ((i : Int), o)) (fun o x => if ltDot d x then o ++ [x] else o) (fun o => pure o) (fun i o => o.length ≤ o0.length + i) (fun i x o hx hi ho => by
      have h1 : decide ((i : Int) < (l.length : Int)) = true := by simpa using hi
      unfold r07_Put_l1
      simp only [h1, cond_true, idx_nat hx, pure_bind, r07_Cmp_eq, det_pure, wSucc (show i < 9223372036854775807 by omega), cond_dec, cmpD_pos]
      split
      · rw [need_true (by simp; omega)]; exact ⟨rfl, by simp; omega⟩
      · exact ⟨rfl, by omega⟩) (fun o _ => by unfold r07_Put_l1; simp [pure_bind]) o0 (by simp)
    exact this
  have hf : ∀ (p : TDot → Bool) (l o : List TDot), l.foldl (fun o x => if p x then o ++ [x] else o) o = o ++ l.filter p := by
    intro p l
    induction l with
    | nil => simp
    | cons x r ih =>
      intro o
      rw [List.foldl_cons, ih, List.filter_cons]
      split <;> simp
  rw [show ((0 : Int), ([] : List TDot)) = (((0 : Nat) : Int), []) from rfl, h1, hf, pure_bind, need_true, h2, hf, pure_bind]
  · rfl
  · have := List.length_filter_le (fun x => ltDot x d) l; simp; omega
  · have := List.length_filter_le (fun x => ltDot x d) l; simp; omega
/-- Dots with the number 1. -/
def ones (l : List Int) : List TDot := l.map fun k => ⟨k, 1⟩
theorem put_ones {l : List Int} (h : l.Pairwise (· < ·)) (k : Int) : ((ones l).filter fun x => ltDot x ⟨k, 1⟩) ++ [⟨k, 1⟩] ++ ((ones l).filter fun x => ltDot ⟨k, 1⟩ x) = ones (insI l k) := by
  induction l with
  | nil => rfl
  | cons a r ih =>
    obtain ⟨h1, h2⟩ := List.pairwise_cons.1 h
    have i2 := ih h2
    unfold insI
    by_cases c1 : k < a
    · rw [if_pos c1]
      have e1 : (ones (a :: r)).filter (fun x => ltDot x ⟨k, 1⟩) = [] := by
        rw [List.filter_eq_nil_iff]
        intro x hx
        simp only [ones, List.map_cons, List.mem_cons, List.mem_map] at hx
        rcases hx with rfl | ⟨b, hb, rfl⟩
        · simp [ltDot]; omega
        · have := h1 b hb; simp [ltDot]; omega
      have e2 : (ones (a :: r)).filter (fun x => ltDot ⟨k, 1⟩ x) = ones (a :: r) := by
        rw [List.filter_eq_self]
        intro x hx
        simp only [ones, List.map_cons, List.mem_cons, List.mem_map] at hx
        rcases hx with rfl | ⟨b, hb, rfl⟩
        · simp [ltDot]; omega
        · have := h1 b hb; simp [ltDot]; omega
      rw [e1, e2]; rfl
    · rw [if_neg c1]
      by_cases c2 : k = a
      · subst c2
        rw [if_pos rfl]
        have e1 : (ones (k :: r)).filter (fun x => ltDot x ⟨k, 1⟩) = [] := by
          rw [List.filter_eq_nil_iff]
          intro x hx
          simp only [ones, List.map_cons, List.mem_cons, List.mem_map] at hx
          rcases hx with rfl | ⟨b, hb, rfl⟩
          · simp [ltDot]
          · have := h1 b hb; simp [ltDot]; omega
        have e2 : (ones (k :: r)).filter (fun x => ltDot ⟨k, 1⟩ x) = ones r := by
          show List.filter _ (⟨k, 1⟩ :: ones r) = _
          rw [List.filter_cons, if_neg (by simp [ltDot]), List.filter_eq_self]
          intro x hx
          simp only [ones, List.mem_map] at hx
          obtain ⟨b, hb, rfl⟩ := hx
          have := h1 b hb; simp [ltDot]; omega
        rw [e1, e2]; rfl
      · rw [if_neg c2]
        show (List.filter _ (⟨a, 1⟩ :: ones r)) ++ _ ++ (List.filter _ (⟨a, 1⟩ :: ones r)) = ⟨a, 1⟩ :: ones (insI r k)
        rw [List.filter_cons, if_pos (by simp [ltDot]; omega), List.filter_cons, if_neg (by simp [ltDot]; omega), ← i2]
        rfl
end Go.Ep.M.V


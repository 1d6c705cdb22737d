/- Walks: written by program. -/
import Derived.Test.YtacnidaafcfgiaaGreatDFc
import Derived.Test.YtacnidaafcfgiaaGreatDSh
import Derived.Test.YtacnidaafcfgiaaGreatDSx
import Derived.Test.YtacnidaafcfgiaaGreatTl
import Derived.Test.YtacnidaafcfgiaaGreatSr
import Derived.Test.YtacnidaafcfgiaaGreatDr
import Derived.Test.YtacnidaafcfgiaaGreatOb
import Derived.Test.YtacnidaafcfgiaaGreatOe
import Derived.Test.YtacnidaafcfgiaaGreatLs
import Derived.Test.YtacnidaafcfgiaaGreatTl
import Derived.Test.YtacnidaafcfgiaaGreatStr
import Derived.Test.YtacnidaafcfgiaaGreatPc
import Derived.Test.YtacnidaafcfgiaaGreatDW5
import Derived.Test.YtacnidaafcfgiaaGreatDW8
namespace Go.Proofs
open Go.Ep
set_option maxHeartbeats 1000000
set_option maxRecDepth 100000
set_option linter.unusedVariables false
set_option linter.unusedSimpArgs false


theorem dcode_part_o_ok (b_1 : List Int) (bad_2 : Int) (r0 : TPart × List Int × Int) (h : (dcode_part_o b_1 bad_2).wp (· = r0)) : PObj Tryz.prog 89 [.ref 100 0] [(100, .cells 97 [.d (.sl (List.map (eK .u8) b_1)), .d (.v (.int .i64 bad_2))])] [100] (.agg (List.map .d (TPart.e r0.1))) (fun _ : Unit => [(100, .cells 97 [.d (.sl (List.map (eK .u8) r0.2.1)), .d (.v (.int .i64 r0.2.2))])]) := by
  refine PObj.intro (sl := [(0, _)]) Tryz.func89 rfl Tryz.ntmps89 rfl rfl rfl ?_
  intro ctx hK pv
  refine PWc.seq ?_
  refine PWc.region ?_
  refine PWl.step (LR.allocZ (cs := [_, _]) Tryz.zeroValue80 rfl rfl rfl rfl) rfl ?_
  refine PWl.nil ?_
  refine PWc.seq ?_
  refine PWc.region ?_
  refine PWl.step (LR.move rfl) rfl ?_
  replace h := iDet h
  obtain ⟨y3, hy4, h⟩ := h
  refine PWl.step (LR.callObj [(100, 100)] [] [100] (pack_Reader_Upto_o_ok 65535 b_1 bad_2 y3 hy4) hK rfl Tryz.call80 rfl (by first | rfl | (simp; done) | (simp [PV.nilD, PV.ren, rn]; omega)) (.cons (by first | rfl | (congr 1; first | (simp; done) | (simp; omega))) <| .nil) rfl rfl rfl rfl) rfl ?_
  refine PWl.step (LR.convInt Tryz.underlying29 (by rw [Tryz.underlying30]; rfl) rfl rfl) rfl ?_
  refine PWl.step (LR.buildR (ns := [_, _]) build80 rfl rfl rfl) rfl ?_
  refine PWl.step (LR.allocZ (cs := [_, _]) Tryz.zeroValue80 rfl rfl rfl rfl) rfl ?_
  refine PWl.step (LR.storeB (ns := [_, _]) Tryz.sizeOf80 rfl rfl rfl rfl rfl rfl rfl) rfl ?_
  refine PWl.sub (Sub.ownNil (id := 3) (j := 1) (id' := 30061) (e := 89) (k := 2) rfl rfl rfl rfl) ?_
  refine PWl.nil ?_
  refine PWc.seq ?_
  refine PWc.seq ?_
  refine PWc.re (tl := [(0, _), (2, _), (3, _)]) (to := [(2, _), (3, _), (100, _), (1100, _), (30061, _)]) rfl (.cons rfl rfl <| .cons rfl rfl <| .cons rfl rfl <| .nil) (.cons rfl rfl <| .cons rfl rfl <| .cons rfl rfl <| .cons rfl rfl <| .cons rfl rfl <| .nil) ?_
  refine PWc.region ?_
  refine PWl.step (LR.move rfl) rfl ?_
  replace h := iDet h
  obtain ⟨y5, hy6, h⟩ := h
  refine PWl.step (LR.callObj [(100, 100)] [] [100] (pack_Reader_Num_o_ok y3.2.1 y3.2.2 y5 hy6) hK rfl Tryz.call81 rfl (by first | rfl | (simp; done) | (simp [PV.nilD, PV.ren, rn]; omega)) (.cons (by first | rfl | (congr 1; first | (simp; done) | (simp; omega))) <| .nil) rfl rfl rfl rfl) rfl ?_
  refine PWl.step (LR.move rfl) rfl ?_
  refine PWl.nil ?_
  refine PWc.jn (iBind h) (fun (⟨v7, v8, v9⟩ : List TRun × List Int × Int) (_ : Unit) => ⟨29, [(2, .ref 2 0), (3, .ref 3 0)], [(2, .cells 80 [.d (.v (.int .u16 0)), .d (.sl (List.map TRun.e ([] : List TRun)))]), (3, .cells 80 [.d (.v (.int .u16 (IntKind.u16.wrap y3.1))), .row 30061 (List.length v7)]), (100, .cells 97 [.d (.sl (List.map (eK .u8) v8)), .d (.v (.int .i64 v9))]), (1100, .pin 100 (pv 100).1 (pv 100).2), (30061, .row 89 2 (List.map TRun.e v7))]⟩) (fun h => ?_) ?_
  · refine PWc.block ?_
    refine PWc.loopM (fun (⟨v32, v33, v34, v35⟩ : Int × List TRun × List Int × Int) (_ : Unit) => ⟨29, [(0, .ref 100 0), (2, .ref 2 0), (3, .ref 3 0), (10, .d (.v (.int .u64 y5.1))), (11, .d (.v (.int .u64 v32)))], [(2, .cells 80 [.d (.v (.int .u16 0)), .d (.sl (List.map TRun.e ([] : List TRun)))]), (3, .cells 80 [.d (.v (.int .u16 (IntKind.u16.wrap y3.1))), .row 30061 (List.length v33)]), (100, .cells 97 [.d (.sl (List.map (eK .u8) v34)), .d (.v (.int .i64 v35))]), (1100, .pin 100 (pv 100).1 (pv 100).2), (30061, .row 89 2 (List.map TRun.e v33))]⟩) () h (Sub.of rfl (.cons rfl rfl <| .cons rfl rfl <| .cons rfl rfl <| .cons rfl rfl <| .cons rfl rfl <| .nil) (.cons rfl rfl <| .cons rfl rfl <| .cons rfl rfl <| .cons rfl rfl <| .cons rfl rfl <| .nil)) ?_
    rintro N ⟨v32, v33, v34, v35⟩ _ h
    refine PWc.seq ?_
    refine PWc.region ?_
    refine PWl.step (LR.lss rfl rfl) rfl ?_
    refine PWl.nil ?_
    refine PWc.seq ?_
    refine PWc.cond rfl (fun hc36 => ?_) (fun hc36 => ?_)
    · replace h := iT hc36 h
      refine PWc.skip ?_
      refine PWc.seq ?_
      refine PWc.block ?_
      refine PWc.seq ?_
      refine PWc.region ?_
      refine PWl.step (LR.move rfl) rfl ?_
      replace h := iDet h
      obtain ⟨y37, hy38, h⟩ := h
      refine PWl.step (LR.callObj [(100, 100)] [] [100] (pack_Reader_Num_o_ok v34 v35 y37 hy38) hK rfl Tryz.call81 rfl (by first | rfl | (simp; done) | (simp [PV.nilD, PV.ren, rn]; omega)) (.cons (by first | rfl | (congr 1; first | (simp; done) | (simp; omega))) <| .nil) rfl rfl rfl rfl) rfl ?_
      refine PWl.step (LR.assign rfl) rfl ?_
      refine PWl.nil ?_
      refine PWc.seq ?_
      refine PWc.re (tl := [(0, _), (2, _), (3, _), (4, _), (10, _), (11, _)]) (to := [(2, _), (3, _), (100, _), (1100, _), (30061, _)]) rfl (.cons rfl rfl <| .cons rfl rfl <| .cons rfl rfl <| .cons rfl rfl <| .cons rfl rfl <| .cons rfl rfl <| .nil) (.cons rfl rfl <| .cons rfl rfl <| .cons rfl rfl <| .cons rfl rfl <| .cons rfl rfl <| .nil) ?_
      refine PWc.regionE [⟨[15], [], [], [], [], [3], [], []⟩, ⟨[16], [], [3], [], [], [30061], [], []⟩, ⟨[17], [], [], [], [], [], [], []⟩, ⟨[18], [], [], [], [], [100], [], []⟩, ⟨[19], [100], [100], [], [], [], [], []⟩, ⟨[20], [], [], [], [], [], [], []⟩, ⟨[21], [], [], [], [], [], [], []⟩, ⟨[16, 22], [3, 30061], [3, 30061], [], [(30061, [16])], [30061], [], [3]⟩, ⟨[23], [], [], [], [], [3], [], []⟩, ⟨[], [3], [3, 30061], [], [], [], [30061], []⟩] (by kernel_rfl) (by kernel_rfl) rfl ?_
      refine PQe.stepP (fun _ he ho => LR.fieldRef Tryz.underlying80 rfl Tryz.sizeOf37 (by decide) rfl (he rfl rfl)) (.inl rfl) rfl ?_
      refine PQe.stepP (fun _ he ho => LR.loadRef Tryz.isAgg37 (he rfl rfl) (ho rfl rfl) rfl) (.inl rfl) rfl ?_
      refine PQe.stepP (fun _ he ho => LR.move (he rfl rfl)) (.inl rfl) rfl ?_
      refine PQe.stepP (fun _ he ho => LR.move (he rfl rfl)) (.inl rfl) rfl ?_
      replace h := iDet h
      obtain ⟨y39, hy40, h⟩ := h
      refine PQe.callObj [(100, 100)] [] [100] (pack_Reader_Num_o_ok y37.2.1 y37.2.2 y39 hy40) hK (fun _ he => ⟨he rfl rfl, evsE he rfl rfl⟩) Tryz.call81 (by first | rfl | (simp; done) | (simp [PV.nilD, PV.ren, rn]; omega)) (.cons (by first | rfl | (congr 1; first | (simp; done) | (simp; omega))) <| .nil) rfl rfl rfl rfl (.inl rfl) rfl ?_
      refine PQe.stepP (fun _ he ho => LR.build (ns := [_, _]) build89 rfl (evpE he rfl rfl) rfl) (.inl rfl) rfl ?_
      refine PQe.stepP (fun _ he ho => LR.buildSliceD [.tmp 20] elem37 rfl rfl (.cons (he rfl rfl) rfl rfl <| .nil) (by decide) (by decide)) (.inl rfl) rfl ?_
      replace h := iNeed h
      obtain ⟨hy41, h⟩ := h
      refine PQe.stepX [16] (fun _ he ho ha => LR.appC (enc := TRun.e) (L := v33) (R := [(⟨y37.1, y39.1⟩ : TRun)]) (j := 1) [16] elem37 Tryz.underlying37 (he rfl rfl) rfl (ho rfl rfl) (ho rfl rfl) rfl rfl (fun _ h1 h2 => Src.slT (enc := TRun.e) (R := [(⟨y37.1, y39.1⟩ : TRun)]) (evSame h1 h2 (he rfl rfl)) (fun _ => rfl)) (fun _ => rfl) hy41 rfl ha) rfl rfl (.inl rfl) rfl ?_
      refine PQe.stepP (fun _ he ho => LR.fieldRef Tryz.underlying80 rfl Tryz.sizeOf37 (by decide) rfl (he rfl rfl)) (.inl rfl) rfl ?_
      refine PQe.stepS (fun _ he ho => LR.storeB (ns := [_, _]) Tryz.sizeOf37 (he rfl rfl) (he rfl rfl) rfl rfl (ho rfl rfl) rfl rfl) (.inl rfl) rfl ?_
      refine PQe.nil ?_
      refine PWc.seq ?_
      refine PWc.re (tl := [(0, _), (2, _), (3, _), (10, _), (11, _)]) (to := [(2, _), (3, _), (100, _), (1100, _), (30061, _)]) rfl (.cons rfl rfl <| .cons rfl rfl <| .cons rfl rfl <| .cons rfl rfl <| .cons rfl rfl <| .nil) (.cons rfl rfl <| .cons rfl rfl <| .cons rfl rfl <| .cons rfl rfl <| .cons rfl rfl <| .nil) ?_
      refine PWc.region ?_
      refine PWl.step (LR.move rfl) rfl ?_
      replace h := iDet h
      obtain ⟨y42, hy43, h⟩ := h
      refine PWl.step (LR.callObj [(100, 100)] [] [100] (pack_Reader_Err_o_ok y39.2.1 y39.2.2 y42 hy43) hK rfl Tryz.call83 rfl (by first | rfl | (simp; done) | (simp [PV.nilD, PV.ren, rn]; omega)) (.cons (by first | rfl | (congr 1; first | (simp; done) | (simp; omega))) <| .nil) rfl rfl rfl rfl) rfl ?_
      refine PWl.step (LR.neq rfl rfl) rfl ?_
      refine PWl.nil ?_
      refine PWc.cond rfl (fun hc44 => ?_) (fun hc44 => ?_)
      · replace h := iT hc44 h
        refine PWc.exit ?_
        exact ⟨((v33 ++ [(⟨y37.1, y39.1⟩ : TRun)]), y42.2.1, y42.2.2), (), h, Sub.of rfl (.cons rfl rfl <| .cons rfl rfl <| .nil) (.cons rfl rfl <| .cons rfl rfl <| .cons rfl rfl <| .cons rfl rfl <| .cons rfl rfl <| .nil)⟩
      · replace h := iF hc44 h
        refine PWc.skip ?_
        refine PWc.re (tl := [(0, _), (2, _), (3, _), (10, _), (11, _)]) (to := [(2, _), (3, _), (100, _), (1100, _), (30061, _)]) rfl (.cons rfl rfl <| .cons rfl rfl <| .cons rfl rfl <| .cons rfl rfl <| .cons rfl rfl <| .nil) (.cons rfl rfl <| .cons rfl rfl <| .cons rfl rfl <| .cons rfl rfl <| .cons rfl rfl <| .nil) ?_
        refine PWc.region ?_
        refine PWl.step (LR.addW rfl rfl) rfl ?_
        refine PWl.step (LR.move rfl) rfl ?_
        refine PWl.nil ?_
        exact ⟨((IntKind.u64.wrap (v32 + 1)), (v33 ++ [(⟨y37.1, y39.1⟩ : TRun)]), y42.2.1, y42.2.2), (), h, Sub.of rfl (.cons rfl rfl <| .cons rfl rfl <| .cons rfl rfl <| .cons rfl rfl <| .cons rfl rfl <| .nil) (.cons rfl rfl <| .cons rfl rfl <| .cons rfl rfl <| .cons rfl rfl <| .cons rfl rfl <| .nil)⟩
    · replace h := iF hc36 h
      refine PWc.exit ?_
      exact ⟨(v33, v34, v35), (), h, Sub.of rfl (.cons rfl rfl <| .cons rfl rfl <| .nil) (.cons rfl rfl <| .cons rfl rfl <| .cons rfl rfl <| .cons rfl rfl <| .cons rfl rfl <| .nil)⟩
  · rintro ⟨v7, v8, v9⟩ _ h
    refine PWc.seq ?_
    refine PWc.region ?_
    refine PWl.frzC (id := 30061) (oid := 3) (j := 1) (n := (List.length v7)) [] hK (.nil) rfl (by simp) rfl (by first | rfl | (congr 2; first | (simp; done) | (simp; omega))) rfl ?_
    refine PWl.step (LR.loadRefAgg (ps := [_, _]) Tryz.isAgg80 Tryz.sizeOf80 rfl rfl rfl rfl) rfl ?_
    refine PWl.step (LR.storeB (ns := [_, _]) Tryz.sizeOf80 rfl rfl rfl rfl rfl rfl rfl) rfl ?_
    refine PWl.nil ?_
    refine PWc.ret ?_
    replace h : _ = r0 := h
    subst h
    exact EndsO.mkX (ex := [(2, _)]) () (.inr rfl) (Sub.of (tl := [(2, _)]) (to := [(100, _), (1100, _), (2, _)]) rfl (.cons rfl rfl <| .nil) (.cons rfl rfl <| .cons rfl rfl <| .cons rfl rfl <| .nil)) (.cons (.agg Tryz.isAgg80 Tryz.sizeOf80 rfl rfl rfl) <| .nil) rfl rfl

theorem dcode_Ctx_o_ok (b_1 : List Int) (bad_2 : Int) (r0 : List TPart × List Int × Int) (h : (dcode_Ctx_o b_1 bad_2).wp (· = r0)) : PObj Tryz.prog 47 [.ref 100 0] [(100, .cells 97 [.d (.sl (List.map (eK .u8) b_1)), .d (.v (.int .i64 bad_2))])] [100] (.d (.sl (List.map TPart.e r0.1))) (fun _ : Unit => [(100, .cells 97 [.d (.sl (List.map (eK .u8) r0.2.1)), .d (.v (.int .i64 r0.2.2))])]) := by
  refine PObj.intro (sl := [(0, _)]) Tryz.func47 rfl Tryz.ntmps47 rfl rfl rfl ?_
  intro ctx hK pv
  refine PWc.seq ?_
  refine PWc.region ?_
  refine PWl.step (LR.assignNilRow 80 2 rfl) rfl ?_
  refine PWl.nil ?_
  refine PWc.seq ?_
  refine PWc.region ?_
  refine PWl.step (LR.assignNilRow 80 2 rfl) rfl ?_
  refine PWl.nil ?_
  refine PWc.seq ?_
  refine PWc.seq ?_
  refine PWc.region ?_
  refine PWl.step (LR.move rfl) rfl ?_
  replace h := iDet h
  obtain ⟨y3, hy4, h⟩ := h
  refine PWl.step (LR.callObj [(100, 100)] [] [100] (pack_Reader_Num_o_ok b_1 bad_2 y3 hy4) hK rfl Tryz.call81 rfl (by first | rfl | (simp; done) | (simp [PV.nilD, PV.ren, rn]; omega)) (.cons (by first | rfl | (congr 1; first | (simp; done) | (simp; omega))) <| .nil) rfl rfl rfl rfl) rfl ?_
  refine PWl.step (LR.move rfl) rfl ?_
  refine PWl.nil ?_
  refine PWc.jnX (iBind h) (fun (⟨c5, v6, v7⟩ : List TPart × List Int × Int) (_ : Unit) => ⟨23, [(0, .ref 100 0), (3, .row 3 (List.length c5))], [(3, .row 80 2 (List.map TPart.e c5)), (100, .cells 97 [.d (.sl (List.map (eK .u8) v6)), .d (.v (.int .i64 v7))]), (1100, .pin 100 (pv 100).1 (pv 100).2)]⟩) (fun h => ?_) ?_
  · refine PWc.block ?_
    refine PWc.loopM (fun (⟨v26, c27, v28, v29⟩ : Int × List TPart × List Int × Int) (_ : Unit) => ⟨23, [(0, .ref 100 0), (3, .row 3 (List.length c27)), (5, .d (.v (.int .u64 y3.1))), (6, .d (.v (.int .u64 v26)))], [(3, .row 80 2 (List.map TPart.e c27)), (100, .cells 97 [.d (.sl (List.map (eK .u8) v28)), .d (.v (.int .i64 v29))]), (1100, .pin 100 (pv 100).1 (pv 100).2)]⟩) () h (Sub.of rfl (.cons rfl rfl <| .cons rfl rfl <| .cons rfl rfl <| .cons rfl rfl <| .nil) (.cons rfl rfl <| .cons rfl rfl <| .cons rfl rfl <| .nil)) ?_
    rintro N ⟨v26, c27, v28, v29⟩ _ h
    refine PWc.seq ?_
    refine PWc.region ?_
    refine PWl.step (LR.lss rfl rfl) rfl ?_
    refine PWl.nil ?_
    refine PWc.seq ?_
    refine PWc.cond rfl (fun hc30 => ?_) (fun hc30 => ?_)
    · replace h := iT hc30 h
      refine PWc.skip ?_
      refine PWc.seq ?_
      refine PWc.block ?_
      refine PWc.seq ?_
      refine PWc.region ?_
      refine PWl.step (LR.move rfl) rfl ?_
      refine PWl.step (LR.move rfl) rfl ?_
      replace h := iDet h
      obtain ⟨y31, hy32, h⟩ := h
      refine PWl.step (LR.callObj [(100, 100)] [] [100] (dcode_part_o_ok v28 v29 y31 hy32) hK rfl Tryz.call89 rfl (by first | rfl | (simp; done) | (simp [PV.nilD, PV.ren, rn]; omega)) (.cons (by first | rfl | (congr 1; first | (simp; done) | (simp; omega))) <| .nil) rfl rfl rfl rfl) rfl ?_
      refine PWl.step (LR.buildSliceD [.tmp 10] elem23 rfl rfl (.cons rfl rfl rfl <| .nil) (by decide) (by decide)) rfl ?_
      replace h := iNeed h
      obtain ⟨hy33, h⟩ := h
      refine PWl.step (LR.appT (enc := TPart.e) (L := c27) (R := [y31.1]) [3, 8] elem23 Tryz.underlying23 rfl rfl rfl (Src.slT (enc := TPart.e) (R := [y31.1]) rfl (fun _ => rfl)) (fun _ => rfl) hy33 rfl rfl) rfl ?_
      refine PWl.step (LR.assign rfl) rfl ?_
      refine PWl.nil ?_
      refine PWc.seq ?_
      refine PWc.re (tl := [(0, _), (3, _), (5, _), (6, _)]) (to := [(3, _), (100, _), (1100, _)]) rfl (.cons rfl rfl <| .cons rfl rfl <| .cons rfl rfl <| .cons rfl rfl <| .nil) (.cons rfl rfl <| .cons rfl rfl <| .cons rfl rfl <| .nil) ?_
      refine PWc.region ?_
      refine PWl.step (LR.move rfl) rfl ?_
      replace h := iDet h
      obtain ⟨y34, hy35, h⟩ := h
      refine PWl.step (LR.callObj [(100, 100)] [] [100] (pack_Reader_Err_o_ok y31.2.1 y31.2.2 y34 hy35) hK rfl Tryz.call83 rfl (by first | rfl | (simp; done) | (simp [PV.nilD, PV.ren, rn]; omega)) (.cons (by first | rfl | (congr 1; first | (simp; done) | (simp; omega))) <| .nil) rfl rfl rfl rfl) rfl ?_
      refine PWl.step (LR.neq rfl rfl) rfl ?_
      refine PWl.nil ?_
      refine PWc.cond rfl (fun hc36 => ?_) (fun hc36 => ?_)
      · replace h := iT hc36 h
        refine PWc.seq ?_
        refine PWc.re (tl := []) (to := [(100, _), (1100, _)]) rfl (.nil) (.cons rfl rfl <| .cons rfl rfl <| .nil) ?_
        refine PWc.region ?_
        refine PWl.step (LR.assignNilRow 80 2 rfl) rfl ?_
        refine PWl.nil ?_
        refine PWc.ret ?_
        replace h : _ = r0 := h
        subst h
        exact EndsO.mk () (.inr rfl) (Sub.trans (Sub.frz [2] hK rfl (by first | (simp; done) | (simp; omega) | omega) (AllRow.get (.cons rfl <| .nil))) <| Sub.of (tl := [(2, _)]) (to := [(100, _), (1100, _)]) rfl (.cons rfl rfl <| .nil) (.cons rfl rfl <| .cons rfl rfl <| .nil)) (.cons (.tmp rfl) <| .nil) rfl rfl
      · replace h := iF hc36 h
        refine PWc.skip ?_
        refine PWc.re (tl := [(0, _), (3, _), (5, _), (6, _)]) (to := [(3, _), (100, _), (1100, _)]) rfl (.cons rfl rfl <| .cons rfl rfl <| .cons rfl rfl <| .cons rfl rfl <| .nil) (.cons rfl rfl <| .cons rfl rfl <| .cons rfl rfl <| .nil) ?_
        refine PWc.region ?_
        refine PWl.step (LR.addW rfl rfl) rfl ?_
        refine PWl.step (LR.move rfl) rfl ?_
        refine PWl.nil ?_
        exact ⟨((IntKind.u64.wrap (v26 + 1)), (c27 ++ [y31.1]), y34.2.1, y34.2.2), (), h, Sub.of rfl (.cons rfl rfl <| .cons rfl rfl <| .cons rfl rfl <| .cons rfl rfl <| .nil) (.cons rfl rfl <| .cons rfl rfl <| .cons rfl rfl <| .nil)⟩
    · replace h := iF hc30 h
      refine PWc.exit ?_
      exact ⟨(c27, v28, v29), (), h, Sub.of rfl (.cons rfl rfl <| .cons rfl rfl <| .nil) (.cons rfl rfl <| .cons rfl rfl <| .cons rfl rfl <| .nil)⟩
  · rintro ⟨c5, v6, v7⟩ _ h
    refine PWc.seq ?_
    refine PWc.seq ?_
    refine PWc.region ?_
    refine PWl.step (LR.move rfl) rfl ?_
    replace h := iDet h
    obtain ⟨v37, hy38, h⟩ := h
    refine PWl.frz [3, 17] hK (.cons rfl <| .cons rfl <| .nil) rfl (by simp) ?_
    refine PWl.step (LR.callN (ctx_Good_ok c5 v37 hy38) rfl Tryz.call22 rfl rfl rfl rfl) rfl ?_
    refine PWl.step (LR.not rfl) rfl ?_
    refine PWl.nil ?_
    refine PWc.cond rfl (fun hc39 => ?_) (fun hc39 => ?_)
    · replace h := iT hc39 h
      refine PWc.seq ?_
      refine PWc.region ?_
      refine PWl.step (LR.move rfl) rfl ?_
      replace h := iDet h
      obtain ⟨y40, hy41, h⟩ := h
      refine PWl.step (LR.callObj [(100, 100)] [] [100] (pack_Reader_Fail_o_ok 4 v6 v7 y40 hy41) hK rfl Tryz.call82 rfl (by first | rfl | (simp; done) | (simp [PV.nilD, PV.ren, rn]; omega)) (.cons (by first | rfl | (congr 1; first | (simp; done) | (simp; omega))) <| .nil) rfl rfl rfl rfl) rfl ?_
      refine PWl.nil ?_
      refine PWc.seq ?_
      refine PWc.re (tl := []) (to := [(100, _), (1100, _)]) rfl (.nil) (.cons rfl rfl <| .cons rfl rfl <| .nil) ?_
      refine PWc.region ?_
      refine PWl.step (LR.assignNilRow 80 2 rfl) rfl ?_
      refine PWl.nil ?_
      refine PWc.ret ?_
      replace h : _ = r0 := h
      subst h
      exact EndsO.mk () (.inr rfl) (Sub.trans (Sub.frz [2] hK rfl (by first | (simp; done) | (simp; omega) | omega) (AllRow.get (.cons rfl <| .nil))) <| Sub.of (tl := [(2, _)]) (to := [(100, _), (1100, _)]) rfl (.cons rfl rfl <| .nil) (.cons rfl rfl <| .cons rfl rfl <| .nil)) (.cons (.tmp rfl) <| .nil) rfl rfl
    · replace h := iF hc39 h
      refine PWc.skip ?_
      refine PWc.seq ?_
      refine PWc.region ?_
      refine PWl.step (LR.move rfl) rfl ?_
      refine PWl.step (LR.assign rfl) rfl ?_
      refine PWl.nil ?_
      refine PWc.ret ?_
      replace h : _ = r0 := h
      subst h
      exact EndsO.mk () (.inr rfl) (Sub.of (tl := [(2, _)]) (to := [(100, _), (1100, _)]) rfl (.cons rfl rfl <| .nil) (.cons rfl rfl <| .cons rfl rfl <| .nil)) (.cons (.tmp rfl) <| .nil) rfl rfl

theorem pack_rest_Left_o_ok (b_1 : List Int) (bad_2 : Int) (r0 : Int × List Int × Int) (h : (pack_rest_Left_o b_1 bad_2).wp (· = r0)) : PObj Tryz.prog 120 [.ref 100 0] [(100, .cells 97 [.d (.sl (List.map (eK .u8) b_1)), .d (.v (.int .i64 bad_2))])] [100] (.d (.v (.int .i64 r0.1))) (fun _ : Unit => [(100, .cells 97 [.d (.sl (List.map (eK .u8) r0.2.1)), .d (.v (.int .i64 r0.2.2))])]) := by
  refine PObj.intro (sl := [(0, _)]) Tryz.func120 rfl Tryz.ntmps120 rfl rfl rfl ?_
  intro ctx hK pv
  refine PWc.seq ?_
  refine PWc.region ?_
  refine PWl.step (LR.assign rfl) rfl ?_
  refine PWl.nil ?_
  refine PWc.seq ?_
  refine PWc.seq ?_
  refine PWc.region ?_
  refine PWl.step (LR.move rfl) rfl ?_
  refine PWl.step (LR.eqlPtr Tryz.underlying149 rfl) rfl ?_
  refine PWl.nil ?_
  refine PWc.condF rfl ?_
  refine PWc.skip ?_
  refine PWc.seq ?_
  refine PWc.region ?_
  refine PWl.step (LR.move rfl) rfl ?_
  refine PWl.step (LR.nilCheckRef rfl) rfl ?_
  refine PWl.step (LR.fieldRef Tryz.underlying95 rfl Tryz.sizeOf48 (by decide) rfl rfl) rfl ?_
  refine PWl.step (LR.loadRef Tryz.isAgg48 rfl rfl rfl) rfl ?_
  refine PWl.step (LR.lenMap (enc := (eK .u8)) (L := b_1) Tryz.underlying48 rfl) rfl ?_
  refine PWl.step (LR.assign rfl) rfl ?_
  refine PWl.nil ?_
  refine PWc.ret ?_
  replace h : _ = r0 := h
  subst h
  exact EndsO.mk () (.inr rfl) (Sub.of (tl := [(2, _)]) (to := [(100, _), (1100, _)]) rfl (.cons rfl rfl <| .nil) (.cons rfl rfl <| .cons rfl rfl <| .nil)) (.cons (.tmp rfl) <| .nil) rfl rfl

theorem pack_Reader_Left_o_ok (b_1 : List Int) (bad_2 : Int) (r0 : Int × List Int × Int) (h : (pack_Reader_Left_o b_1 bad_2).wp (· = r0)) : PObj Tryz.prog 90 [.ref 100 0] [(100, .cells 97 [.d (.sl (List.map (eK .u8) b_1)), .d (.v (.int .i64 bad_2))])] [100] (.d (.v (.int .i64 r0.1))) (fun _ : Unit => [(100, .cells 97 [.d (.sl (List.map (eK .u8) r0.2.1)), .d (.v (.int .i64 r0.2.2))])]) := by
  refine PObj.intro (sl := [(0, _)]) Tryz.func90 rfl Tryz.ntmps90 rfl rfl rfl ?_
  intro ctx hK pv
  refine PWc.seq ?_
  refine PWc.region ?_
  refine PWl.step (LR.assign rfl) rfl ?_
  refine PWl.nil ?_
  refine PWc.seq ?_
  refine PWc.seq ?_
  refine PWc.region ?_
  refine PWl.step (LR.move rfl) rfl ?_
  refine PWl.step (LR.eqlPtr Tryz.underlying49 rfl) rfl ?_
  refine PWl.nil ?_
  refine PWc.condF rfl ?_
  refine PWc.skip ?_
  refine PWc.seq ?_
  refine PWc.region ?_
  refine PWl.step (LR.move rfl) rfl ?_
  refine PWl.step (LR.nilCheckRef rfl) rfl ?_
  refine PWl.step (LR.fieldRef Tryz.underlying97 rfl Tryz.sizeOf95 (by decide) rfl rfl) rfl ?_
  replace h := iDet h
  obtain ⟨y3, hy4, h⟩ := h
  refine PWl.step (LR.callObj [(100, 100)] [] [100] (pack_rest_Left_o_ok b_1 bad_2 y3 hy4) hK rfl Tryz.call120 rfl (by first | rfl | (simp; done) | (simp [PV.nilD, PV.ren, rn]; omega)) (.cons (by first | rfl | (congr 1; first | (simp; done) | (simp; omega))) <| .nil) rfl rfl rfl rfl) rfl ?_
  refine PWl.step (LR.assign rfl) rfl ?_
  refine PWl.nil ?_
  refine PWc.ret ?_
  replace h : _ = r0 := h
  subst h
  exact EndsO.mk () (.inr rfl) (Sub.of (tl := [(2, _)]) (to := [(100, _), (1100, _)]) rfl (.cons rfl rfl <| .nil) (.cons rfl rfl <| .cons rfl rfl <| .nil)) (.cons (.tmp rfl) <| .nil) rfl rfl

theorem pack_Reader_End_o_ok (b_1 : List Int) (bad_2 : Int) (r0 : Int × List Int × Int) (h : (pack_Reader_End_o b_1 bad_2).wp (· = r0)) : PObj Tryz.prog 49 [.ref 100 0] [(100, .cells 97 [.d (.sl (List.map (eK .u8) b_1)), .d (.v (.int .i64 bad_2))])] [100] (.d (.v (.int .i64 r0.1))) (fun _ : Unit => [(100, .cells 97 [.d (.sl (List.map (eK .u8) r0.2.1)), .d (.v (.int .i64 r0.2.2))])]) := by
  refine PObj.intro (sl := [(0, _)]) Tryz.func49 rfl Tryz.ntmps49 rfl rfl rfl ?_
  intro ctx hK pv
  refine PWc.seq ?_
  refine PWc.region ?_
  refine PWl.step (LR.assign rfl) rfl ?_
  refine PWl.nil ?_
  refine PWc.seq ?_
  refine PWc.seq ?_
  refine PWc.region ?_
  refine PWl.step (LR.move rfl) rfl ?_
  replace h := iDet h
  obtain ⟨y3, hy4, h⟩ := h
  refine PWl.step (LR.callObj [(100, 100)] [] [100] (pack_Reader_Left_o_ok b_1 bad_2 y3 hy4) hK rfl Tryz.call90 rfl (by first | rfl | (simp; done) | (simp [PV.nilD, PV.ren, rn]; omega)) (.cons (by first | rfl | (congr 1; first | (simp; done) | (simp; omega))) <| .nil) rfl rfl rfl rfl) rfl ?_
  refine PWl.step (LR.gtr rfl rfl) rfl ?_
  refine PWl.nil ?_
  refine PWc.jn (iBind h) (fun (⟨v5, v6⟩ : List Int × Int) (_ : Unit) => ⟨10, [(0, .ref 100 0)], [(100, .cells 97 [.d (.sl (List.map (eK .u8) v5)), .d (.v (.int .i64 v6))]), (1100, .pin 100 (pv 100).1 (pv 100).2)]⟩) (fun h => ?_) ?_
  · refine PWc.cond rfl (fun hc7 => ?_) (fun hc7 => ?_)
    · replace h := iT hc7 h
      refine PWc.re (tl := [(0, _)]) (to := [(100, _), (1100, _)]) rfl (.cons rfl rfl <| .nil) (.cons rfl rfl <| .cons rfl rfl <| .nil) ?_
      refine PWc.region ?_
      refine PWl.step (LR.move rfl) rfl ?_
      replace h := iDet h
      obtain ⟨y8, hy9, h⟩ := h
      refine PWl.step (LR.callObj [(100, 100)] [] [100] (pack_Reader_Fail_o_ok 4 y3.2.1 y3.2.2 y8 hy9) hK rfl Tryz.call82 rfl (by first | rfl | (simp; done) | (simp [PV.nilD, PV.ren, rn]; omega)) (.cons (by first | rfl | (congr 1; first | (simp; done) | (simp; omega))) <| .nil) rfl rfl rfl rfl) rfl ?_
      refine PWl.nil ?_
      exact ⟨(y8.1, y8.2), (), h, Sub.of rfl (.cons rfl rfl <| .nil) (.cons rfl rfl <| .cons rfl rfl <| .nil)⟩
    · replace h := iF hc7 h
      refine PWc.skip ?_
      exact ⟨(y3.2.1, y3.2.2), (), h, Sub.of rfl (.cons rfl rfl <| .nil) (.cons rfl rfl <| .cons rfl rfl <| .nil)⟩
  · rintro ⟨v5, v6⟩ _ h
    refine PWc.seq ?_
    refine PWc.region ?_
    refine PWl.step (LR.move rfl) rfl ?_
    replace h := iDet h
    obtain ⟨y10, hy11, h⟩ := h
    refine PWl.step (LR.callObj [(100, 100)] [] [100] (pack_Reader_Err_o_ok v5 v6 y10 hy11) hK rfl Tryz.call83 rfl (by first | rfl | (simp; done) | (simp [PV.nilD, PV.ren, rn]; omega)) (.cons (by first | rfl | (congr 1; first | (simp; done) | (simp; omega))) <| .nil) rfl rfl rfl rfl) rfl ?_
    refine PWl.step (LR.assign rfl) rfl ?_
    refine PWl.nil ?_
    refine PWc.ret ?_
    replace h : _ = r0 := h
    subst h
    exact EndsO.mk () (.inr rfl) (Sub.of (tl := [(2, _)]) (to := [(100, _), (1100, _)]) rfl (.cons rfl rfl <| .nil) (.cons rfl rfl <| .cons rfl rfl <| .nil)) (.cons (.tmp rfl) <| .nil) rfl rfl

theorem dcode_Decode_ok (b1 : List Int) (r0 : List TPart × Int) (h : (dcode_Decode b1).wp (· = r0)) : PFun Tryz.prog 51 [.d (.sl (List.map (eK .u8) b1))] (.tup [.d (.sl (List.map TPart.e r0.1)), .d (.v (.int .i64 r0.2))]) := by
  refine PFun.intro (sl := [(0, _)]) Tryz.func51 rfl Tryz.ntmps51 rfl rfl ?_
  intro ctx hK
  refine PWc.seq ?_
  refine PWc.region ?_
  refine PWl.step (LR.assignNilRow 80 2 rfl) rfl ?_
  refine PWl.step (LR.assign rfl) rfl ?_
  refine PWl.nil ?_
  refine PWc.seq ?_
  refine PWc.region ?_
  refine PWl.step (LR.move rfl) rfl ?_
  replace h := iDet h
  obtain ⟨y2, hy3, h⟩ := h
  refine PWl.step (LR.callObj [(7, 8)] [] [7] (pack_New_o_ok b1 y2 hy3) hK rfl Tryz.call42 rfl (by first | rfl | (simp; done) | (simp [PV.nilD, PV.ren, rn]; omega)) (.nil) rfl rfl rfl rfl) rfl ?_
  refine PWl.step (LR.assign rfl) rfl ?_
  refine PWl.nil ?_
  refine PWc.seq ?_
  refine PWc.re (tl := [(4, _)]) (to := [(8, _)]) rfl (.cons rfl rfl <| .nil) (.cons rfl rfl <| .nil) ?_
  refine PWc.region ?_
  refine PWl.step (LR.move rfl) rfl ?_
  replace h := iDet h
  obtain ⟨y4, hy5, h⟩ := h
  refine PWl.step (LR.callObj [(100, 8)] [] [100] (dcode_Ctx_o_ok y2.1 y2.2 y4 hy5) hK rfl Tryz.call47 rfl (by first | rfl | (simp; done) | (simp [PV.nilD, PV.ren, rn]; omega)) (.cons (by first | rfl | (congr 1; first | (simp; done) | (simp; omega))) <| .nil) rfl rfl rfl rfl) rfl ?_
  refine PWl.step (LR.assign rfl) rfl ?_
  refine PWl.nil ?_
  refine PWc.seq ?_
  refine PWc.seq ?_
  refine PWc.re (tl := [(4, _), (5, _)]) (to := [(8, _)]) rfl (.cons rfl rfl <| .cons rfl rfl <| .nil) (.cons rfl rfl <| .nil) ?_
  refine PWc.region ?_
  refine PWl.step (LR.move rfl) rfl ?_
  replace h := iDet h
  obtain ⟨y6, hy7, h⟩ := h
  refine PWl.step (LR.callObj [(100, 8)] [] [100] (pack_Reader_End_o_ok y4.2.1 y4.2.2 y6 hy7) hK rfl Tryz.call49 rfl (by first | rfl | (simp; done) | (simp [PV.nilD, PV.ren, rn]; omega)) (.cons (by first | rfl | (congr 1; first | (simp; done) | (simp; omega))) <| .nil) rfl rfl rfl rfl) rfl ?_
  refine PWl.step (LR.assign rfl) rfl ?_
  refine PWl.nil ?_
  refine PWc.seq ?_
  refine PWc.re (tl := [(5, _), (6, _)]) (to := []) rfl (.cons rfl rfl <| .cons rfl rfl <| .nil) (.nil) ?_
  refine PWc.region ?_
  refine PWl.step (LR.move rfl) rfl ?_
  refine PWl.step (LR.neq rfl rfl) rfl ?_
  refine PWl.nil ?_
  refine PWc.cond rfl (fun hc8 => ?_) (fun hc8 => ?_)
  · replace h := iT hc8 h
    refine PWc.seq ?_
    refine PWc.region ?_
    refine PWl.step (LR.move rfl) rfl ?_
    refine PWl.step (LR.assignNilRow 80 2 rfl) rfl ?_
    refine PWl.step (LR.assign rfl) rfl ?_
    refine PWl.nil ?_
    refine PWc.ret ?_
    replace h : _ = r0 := h
    subst h
    exact ⟨.inr rfl, _, .cons (.row rfl rfl (by first | (simp; done) | (simp; omega) | omega)) <| .cons (.tmp rfl rfl) <| .nil, rfl⟩
  · replace h := iF hc8 h
    refine PWc.skip ?_
    refine PWc.seq ?_
    refine PWc.region ?_
    refine PWl.step (LR.move rfl) rfl ?_
    refine PWl.step (LR.assign rfl) rfl ?_
    refine PWl.step (LR.assign rfl) rfl ?_
    refine PWl.nil ?_
    refine PWc.ret ?_
    replace h : _ = r0 := h
    subst h
    exact ⟨.inr rfl, _, .cons (.tmp rfl rfl) <| .cons (.tmp rfl rfl) <| .nil, rfl⟩
end Go.Proofs

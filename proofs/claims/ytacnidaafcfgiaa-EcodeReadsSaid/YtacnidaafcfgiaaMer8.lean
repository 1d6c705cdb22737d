/- Texts that the walks and laws lean on, side by side. -/
import Derived.Test.YtacnidaafcfgiaaMer2
import Derived.Test.YtacnidaafcfgiaaMer3
import Derived.Test.YtacnidaafcfgiaaMer4
import Derived.Test.YtacnidaafcfgiaaMer5
import Derived.Test.YtacnidaafcfgiaaMer6
import Derived.Test.YtacnidaafcfgiaaMer7
set_option linter.unusedVariables false
set_option linter.unusedSimpArgs false
namespace Go.Proofs
open Go.Ep
set_option maxHeartbeats 1000000
set_option maxRecDepth 100000
set_option linter.unusedVariables false
set_option linter.unusedSimpArgs false


theorem epitaphref04_Reader_Byte_o_ok (b_1 : List Int) (at_2 : Int) (bad_3 : Int) (r0 : Int × List Int × Int × Int) (h : (epitaphref04_Reader_Byte_o b_1 at_2 bad_3).wp (· = r0)) : PObj Try.prog 118 [.ref 100 0] [(100, .cells 85 [.d (.sl (List.map (eK .u8) b_1)), .d (.v (.int .i64 at_2)), .d (.v (.int .i64 bad_3))])] [100] (.d (.v (.int .u8 r0.1))) (fun _ : Unit => [(100, .cells 85 [.d (.sl (List.map (eK .u8) r0.2.1)), .d (.v (.int .i64 r0.2.2.1)), .d (.v (.int .i64 r0.2.2.2))])]) := by
  refine PObj.intro (sl := [(0, _)]) Try.func118 rfl Try.ntmps118 rfl rfl rfl ?_
  intro ctx hK pv
  refine PWc.seq ?_
  refine PWc.region ?_
  refine PWl.step (LR.assign rfl) rfl ?_
  refine PWl.nil ?_
  refine PWc.seq ?_
  refine PWc.seq ?_
  refine PWc.region ?_
  refine PWl.step (LR.move rfl) rfl ?_
  refine PWl.step (LR.nilCheckRef rfl) rfl ?_
  refine PWl.step (LR.fieldRef Try.underlying85 rfl Try.sizeOf3 (by decide) rfl rfl) rfl ?_
  refine PWl.step (LR.loadRef Try.isAgg3 rfl rfl rfl) rfl ?_
  refine PWl.step (LR.neq rfl rfl) rfl ?_
  refine PWl.nil ?_
  refine PWc.cond rfl (fun hc4 => ?_) (fun hc4 => ?_)
  · replace h := iT hc4 h
    refine PWc.seq ?_
    refine PWc.region ?_
    refine PWl.step (LR.assign rfl) rfl ?_
    refine PWl.nil ?_
    refine PWc.ret ?_
    replace h : _ = r0 := h
    subst h
    exact EndsO.mk () (.inr rfl) (Sub.of (tl := [(2, _)]) (to := [(100, _), (1100, _)]) rfl (.cons rfl rfl <| .nil) (.cons rfl rfl <| .cons rfl rfl <| .nil)) (.cons (.tmp rfl) <| .nil) rfl rfl
  · replace h := iF hc4 h
    refine PWc.skip ?_
    refine PWc.seq ?_
    refine PWc.seq ?_
    refine PWc.regionD (by kernel_rfl) (by kernel_rfl) ?_
    refine PQl.step (fun _ he ho => LR.move (he rfl rfl)) rfl ?_
    refine PQl.step (fun _ he ho => LR.nilCheckRef (he rfl rfl)) rfl ?_
    refine PQl.step (fun _ he ho => LR.fieldRef Try.underlying85 rfl Try.sizeOf3 (by decide) rfl (he rfl rfl)) rfl ?_
    refine PQl.step (fun _ he ho => LR.loadRef Try.isAgg3 (he rfl rfl) (ho rfl) rfl) rfl ?_
    refine PQl.step (fun _ he ho => LR.move (he rfl rfl)) rfl ?_
    refine PQl.step (fun _ he ho => LR.nilCheckRef (he rfl rfl)) rfl ?_
    refine PQl.step (fun _ he ho => LR.fieldRef Try.underlying85 rfl Try.sizeOf45 (by decide) rfl (he rfl rfl)) rfl ?_
    refine PQl.step (fun _ he ho => LR.loadRef Try.isAgg45 (he rfl rfl) (ho rfl) rfl) rfl ?_
    refine PQl.step (fun _ he ho => LR.lenMap (enc := (eK .u8)) (L := b_1) Try.underlying45 (he rfl rfl)) rfl ?_
    refine PQl.step (fun _ he ho => LR.geq (he rfl rfl) (he rfl rfl)) rfl ?_
    refine PQl.nil ?_
    refine PWc.cond rfl (fun hc5 => ?_) (fun hc5 => ?_)
    · replace h := iT hc5 h
      refine PWc.seq ?_
      refine PWc.region ?_
      refine PWl.step (LR.move rfl) rfl ?_
      replace h := iDet h
      obtain ⟨y6, hy7, h⟩ := h
      refine PWl.step (LR.callObj [(100, 100)] [] [100] (epitaphref04_Reader_Fail_o_ok 2 b_1 at_2 bad_3 y6 hy7) hK rfl Try.call109 rfl (by first | rfl | (simp; done) | (simp [PV.nilD, PV.ren, rn]; omega)) (.cons (by first | rfl | (congr 1; first | (simp; done) | (simp; omega))) <| .nil) rfl rfl rfl rfl) rfl ?_
      refine PWl.nil ?_
      refine PWc.seq ?_
      refine PWc.re (tl := []) (to := [(100, _), (1100, _)]) rfl (.nil) (.cons rfl rfl <| .cons rfl rfl <| .nil) ?_
      refine PWc.region ?_
      refine PWl.step (LR.assign rfl) rfl ?_
      refine PWl.nil ?_
      refine PWc.ret ?_
      replace h : _ = r0 := h
      subst h
      exact EndsO.mk () (.inr rfl) (Sub.of (tl := [(2, _)]) (to := [(100, _), (1100, _)]) rfl (.cons rfl rfl <| .nil) (.cons rfl rfl <| .cons rfl rfl <| .nil)) (.cons (.tmp rfl) <| .nil) rfl rfl
    · replace h := iF hc5 h
      refine PWc.skip ?_
      refine PWc.seq ?_
      refine PWc.region ?_
      refine PWl.step (LR.move rfl) rfl ?_
      refine PWl.step (LR.move rfl) rfl ?_
      refine PWl.step (LR.nilCheckRef rfl) rfl ?_
      refine PWl.step (LR.fieldRef Try.underlying85 rfl Try.sizeOf3 (by decide) rfl rfl) rfl ?_
      refine PWl.re (tl := [(0, _), (20, _), (23, _)]) (to := [(100, _), (1100, _)]) rfl (.cons rfl rfl <| .cons rfl rfl <| .cons rfl rfl <| .nil) (.cons rfl rfl <| .cons rfl rfl <| .nil) ?_
      refine PWl.step (LR.loadRef Try.isAgg3 rfl rfl rfl) rfl ?_
      refine PWl.step (LR.addW rfl rfl) rfl ?_
      refine PWl.step (LR.nilCheckRef rfl) rfl ?_
      refine PWl.step (LR.fieldRef Try.underlying85 rfl Try.sizeOf3 (by decide) rfl rfl) rfl ?_
      refine PWl.step (LR.storeB (ns := [_, _, _]) Try.sizeOf3 rfl rfl rfl rfl rfl rfl rfl) rfl ?_
      refine PWl.nil ?_
      refine PWc.seq ?_
      refine PWc.regionD (by kernel_rfl) (by kernel_rfl) ?_
      refine PQl.step (fun _ he ho => LR.move (he rfl rfl)) rfl ?_
      refine PQl.step (fun _ he ho => LR.nilCheckRef (he rfl rfl)) rfl ?_
      refine PQl.step (fun _ he ho => LR.fieldRef Try.underlying85 rfl Try.sizeOf45 (by decide) rfl (he rfl rfl)) rfl ?_
      refine PQl.step (fun _ he ho => LR.loadRef Try.isAgg45 (he rfl rfl) (ho rfl) rfl) rfl ?_
      refine PQl.step (fun _ he ho => LR.move (he rfl rfl)) rfl ?_
      refine PQl.step (fun _ he ho => LR.nilCheckRef (he rfl rfl)) rfl ?_
      refine PQl.step (fun _ he ho => LR.fieldRef Try.underlying85 rfl Try.sizeOf3 (by decide) rfl (he rfl rfl)) rfl ?_
      refine PQl.step (fun _ he ho => LR.loadRef Try.isAgg3 (he rfl rfl) (ho rfl) rfl) rfl ?_
      refine PQl.step (fun _ he ho => LR.subW (he rfl rfl) (he rfl rfl)) rfl ?_
      replace h := iIdx h
      obtain ⟨x8, hy9, h⟩ := h
      refine PQl.step (fun _ he ho => LR.idxT (enc := (eK .u8)) (L := b_1) (y := x8) Try.underlying45 Try.sizeOf5 (he rfl rfl) (he rfl rfl) hy9 (fun _ => rfl)) rfl ?_
      refine PQl.step (fun _ he ho => LR.loadEp Try.isAgg5 (he rfl rfl) rfl) rfl ?_
      refine PQl.step (fun _ he ho => LR.assign (he rfl rfl)) rfl ?_
      refine PQl.nil ?_
      refine PWc.ret ?_
      replace h : _ = r0 := h
      subst h
      exact EndsO.mk () (.inr rfl) (Sub.of (tl := [(2, _)]) (to := [(100, _), (1100, _)]) rfl (.cons rfl rfl <| .nil) (.cons rfl rfl <| .cons rfl rfl <| .nil)) (.cons (.tmp rfl) <| .nil) rfl rfl

theorem epitaphref04_Reader_Text_o_ok (most1 : Int) (b_2 : List Int) (at_3 : Int) (bad_4 : Int) (r0 : ByteArray × List Int × Int × Int) (h : (epitaphref04_Reader_Text_o most1 b_2 at_3 bad_4).wp (· = r0)) : PObj Try.prog 119 [.ref 100 0, .d (.v (.int .i64 most1))] [(100, .cells 85 [.d (.sl (List.map (eK .u8) b_2)), .d (.v (.int .i64 at_3)), .d (.v (.int .i64 bad_4))])] [100] (.d (.v (.string r0.1))) (fun _ : Unit => [(100, .cells 85 [.d (.sl (List.map (eK .u8) r0.2.1)), .d (.v (.int .i64 r0.2.2.1)), .d (.v (.int .i64 r0.2.2.2))])]) := by
  refine PObj.intro (sl := [(0, _), (1, _)]) Try.func119 rfl Try.ntmps119 rfl rfl rfl ?_
  intro ctx hK pv
  refine PWc.seq ?_
  refine PWc.region ?_
  refine PWl.step (LR.assign rfl) rfl ?_
  refine PWl.nil ?_
  refine PWc.seq ?_
  refine PWc.region ?_
  refine PWl.step (LR.move rfl) rfl ?_
  replace h := iDet h
  obtain ⟨y5, hy6, h⟩ := h
  refine PWl.step (LR.callObj [(100, 100)] [] [100] (epitaphref04_Reader_Num_o_ok b_2 at_3 bad_4 y5 hy6) hK rfl Try.call108 rfl (by first | rfl | (simp; done) | (simp [PV.nilD, PV.ren, rn]; omega)) (.cons (by first | rfl | (congr 1; first | (simp; done) | (simp; omega))) <| .nil) rfl rfl rfl rfl) rfl ?_
  refine PWl.step (LR.assign rfl) rfl ?_
  refine PWl.nil ?_
  refine PWc.seq ?_
  refine PWc.seq ?_
  refine PWc.re (tl := [(0, _), (1, _), (5, _)]) (to := [(100, _), (1100, _)]) rfl (.cons rfl rfl <| .cons rfl rfl <| .cons rfl rfl <| .nil) (.cons rfl rfl <| .cons rfl rfl <| .nil) ?_
  refine PWc.region ?_
  refine PWl.step (LR.move rfl) rfl ?_
  refine PWl.step (LR.lss rfl rfl) rfl ?_
  refine PWl.nil ?_
  refine PWc.jn (iBind h) (fun (most7 : Int) (_ : Unit) => ⟨66, [(0, .ref 100 0), (1, .d (.v (.int .i64 most7))), (5, .d (.v (.int .u64 y5.1)))], [(100, .cells 85 [.d (.sl (List.map (eK .u8) y5.2.1)), .d (.v (.int .i64 y5.2.2.1)), .d (.v (.int .i64 y5.2.2.2))]), (1100, .pin 100 (pv 100).1 (pv 100).2)]⟩) (fun h => ?_) ?_
  · refine PWc.cond rfl (fun hc8 => ?_) (fun hc8 => ?_)
    · replace h := iT hc8 h
      refine PWc.region ?_
      refine PWl.step (LR.assign rfl) rfl ?_
      refine PWl.nil ?_
      exact ⟨0, (), h, Sub.of rfl (.cons rfl rfl <| .cons rfl rfl <| .cons rfl rfl <| .nil) (.cons rfl rfl <| .cons rfl rfl <| .nil)⟩
    · replace h := iF hc8 h
      refine PWc.skip ?_
      exact ⟨most1, (), h, Sub.of rfl (.cons rfl rfl <| .cons rfl rfl <| .cons rfl rfl <| .nil) (.cons rfl rfl <| .cons rfl rfl <| .nil)⟩
  · rintro most7 _ h
    refine PWc.seq ?_
    refine PWc.seq ?_
    refine PWc.region ?_
    refine PWl.step (LR.move rfl) rfl ?_
    refine PWl.step (LR.move rfl) rfl ?_
    refine PWl.step (LR.convInt Try.underlying36 (by rw [Try.underlying3]; rfl) rfl rfl) rfl ?_
    refine PWl.step (LR.gtr rfl rfl) rfl ?_
    refine PWl.nil ?_
    refine PWc.jn (iBind h) (fun (⟨v9, v10, v11⟩ : List Int × Int × Int) (_ : Unit) => ⟨66, [(0, .ref 100 0), (5, .d (.v (.int .u64 y5.1)))], [(100, .cells 85 [.d (.sl (List.map (eK .u8) v9)), .d (.v (.int .i64 v10)), .d (.v (.int .i64 v11))]), (1100, .pin 100 (pv 100).1 (pv 100).2)]⟩) (fun h => ?_) ?_
    · refine PWc.cond rfl (fun hc12 => ?_) (fun hc12 => ?_)
      · replace h := iT hc12 h
        refine PWc.region ?_
        refine PWl.step (LR.move rfl) rfl ?_
        replace h := iDet h
        obtain ⟨y13, hy14, h⟩ := h
        refine PWl.step (LR.callObj [(100, 100)] [] [100] (epitaphref04_Reader_Fail_o_ok 3 y5.2.1 y5.2.2.1 y5.2.2.2 y13 hy14) hK rfl Try.call109 rfl (by first | rfl | (simp; done) | (simp [PV.nilD, PV.ren, rn]; omega)) (.cons (by first | rfl | (congr 1; first | (simp; done) | (simp; omega))) <| .nil) rfl rfl rfl rfl) rfl ?_
        refine PWl.nil ?_
        exact ⟨(y13.1, y13.2.1, y13.2.2), (), h, Sub.of rfl (.cons rfl rfl <| .cons rfl rfl <| .nil) (.cons rfl rfl <| .cons rfl rfl <| .nil)⟩
      · replace h := iF hc12 h
        refine PWc.skip ?_
        exact ⟨(y5.2.1, y5.2.2.1, y5.2.2.2), (), h, Sub.of rfl (.cons rfl rfl <| .cons rfl rfl <| .nil) (.cons rfl rfl <| .cons rfl rfl <| .nil)⟩
    · rintro ⟨v9, v10, v11⟩ _ h
      refine PWc.seq ?_
      refine PWc.seq ?_
      refine PWc.jn (iBind h) (fun (v15 : Bool) (_ : Unit) => ⟨66, [(0, .ref 100 0), (5, .d (.v (.int .u64 y5.1))), (36, .d (.v (.bool v15)))], [(100, .cells 85 [.d (.sl (List.map (eK .u8) v9)), .d (.v (.int .i64 v10)), .d (.v (.int .i64 v11))]), (1100, .pin 100 (pv 100).1 (pv 100).2)]⟩) (fun h => ?_) ?_
      · refine PWc.regionD (by kernel_rfl) (by kernel_rfl) ?_
        refine PQl.step (fun _ he ho => LR.move (he rfl rfl)) rfl ?_
        refine PQl.step (fun _ he ho => LR.nilCheckRef (he rfl rfl)) rfl ?_
        refine PQl.step (fun _ he ho => LR.fieldRef Try.underlying85 rfl Try.sizeOf3 (by decide) rfl (he rfl rfl)) rfl ?_
        refine PQl.step (fun _ he ho => LR.loadRef Try.isAgg3 (he rfl rfl) (ho rfl) rfl) rfl ?_
        refine PQl.step (fun _ he ho => LR.eql (he rfl rfl) (he rfl rfl)) rfl ?_
        refine PQl.step (fun _ he ho => LR.move (he rfl rfl)) rfl ?_
        refine PQl.split (d := 22) rfl (fun hg16 => ?_) (fun hg16 => ?_)
        · replace h := iT hg16 h
          refine PQl.guardT (fun _ he ho => LR.move (he rfl rfl)) rfl rfl rfl ?_
          refine PQl.guardT (fun _ he ho => LR.move (he rfl rfl)) rfl rfl rfl ?_
          refine PQl.guardT (fun _ he ho => LR.nilCheckRef (he rfl rfl)) rfl rfl rfl ?_
          refine PQl.guardT (fun _ he ho => LR.fieldRef Try.underlying85 rfl Try.sizeOf45 (by decide) rfl (he rfl rfl)) rfl rfl rfl ?_
          refine PQl.guardT (fun _ he ho => LR.loadRef Try.isAgg45 (he rfl rfl) (ho rfl) rfl) rfl rfl rfl ?_
          refine PQl.guardT (fun _ he ho => LR.lenMap (enc := (eK .u8)) (L := v9) Try.underlying45 (he rfl rfl)) rfl rfl rfl ?_
          refine PQl.guardT (fun _ he ho => LR.move (he rfl rfl)) rfl rfl rfl ?_
          refine PQl.guardT (fun _ he ho => LR.nilCheckRef (he rfl rfl)) rfl rfl rfl ?_
          refine PQl.guardT (fun _ he ho => LR.fieldRef Try.underlying85 rfl Try.sizeOf3 (by decide) rfl (he rfl rfl)) rfl rfl rfl ?_
          refine PQl.guardT (fun _ he ho => LR.loadRef Try.isAgg3 (he rfl rfl) (ho rfl) rfl) rfl rfl rfl ?_
          refine PQl.guardT (fun _ he ho => LR.subW (he rfl rfl) (he rfl rfl)) rfl rfl rfl ?_
          refine PQl.guardT (fun _ he ho => LR.convInt Try.underlying36 (by rw [Try.underlying3]; rfl) (he rfl rfl) rfl) rfl rfl rfl ?_
          refine PQl.guardT (fun _ he ho => LR.gtr (he rfl rfl) (he rfl rfl)) rfl rfl rfl ?_
          refine PQl.step (fun _ he ho => LR.pickT (he rfl rfl) (he rfl rfl)) rfl ?_
          refine PQl.nil ?_
          exact ⟨(decide (((IntKind.u64.wrap ((IntKind.i64.wrap ((List.length v9 : Int) - v10))))) < y5.1)), (), h, Sub.of rfl (.cons rfl rfl <| .cons rfl rfl <| .cons rfl rfl <| .nil) (.cons rfl rfl <| .cons rfl rfl <| .nil)⟩
        · replace h := iF hg16 h
          refine PQl.guardF rfl rfl rfl (by decide) ?_
          refine PQl.guardF rfl rfl rfl (by decide) ?_
          refine PQl.guardF rfl rfl rfl (by decide) ?_
          refine PQl.guardF rfl rfl rfl (by decide) ?_
          refine PQl.guardF rfl rfl rfl (by decide) ?_
          refine PQl.guardF rfl rfl rfl (by decide) ?_
          refine PQl.guardF rfl rfl rfl (by decide) ?_
          refine PQl.guardF rfl rfl rfl (by decide) ?_
          refine PQl.guardF rfl rfl rfl (by decide) ?_
          refine PQl.guardF rfl rfl rfl (by decide) ?_
          refine PQl.guardF rfl rfl rfl (by decide) ?_
          refine PQl.guardF rfl rfl rfl (by decide) ?_
          refine PQl.guardF rfl rfl rfl (by decide) ?_
          refine PQl.step (fun _ he ho => LR.pickF (he rfl rfl) (he rfl rfl)) rfl ?_
          refine PQl.nil ?_
          exact ⟨false, (), h, Sub.of rfl (.cons rfl rfl <| .cons rfl rfl <| .cons rfl rfl <| .nil) (.cons rfl rfl <| .cons rfl rfl <| .nil)⟩
      · rintro v15 _ h
        refine PWc.jn (iBind h) (fun (⟨v17, v18, v19⟩ : List Int × Int × Int) (_ : Unit) => ⟨66, [(0, .ref 100 0), (5, .d (.v (.int .u64 y5.1)))], [(100, .cells 85 [.d (.sl (List.map (eK .u8) v17)), .d (.v (.int .i64 v18)), .d (.v (.int .i64 v19))]), (1100, .pin 100 (pv 100).1 (pv 100).2)]⟩) (fun h => ?_) ?_
        · refine PWc.cond rfl (fun hc20 => ?_) (fun hc20 => ?_)
          · replace h := iT hc20 h
            refine PWc.region ?_
            refine PWl.step (LR.move rfl) rfl ?_
            replace h := iDet h
            obtain ⟨y21, hy22, h⟩ := h
            refine PWl.step (LR.callObj [(100, 100)] [] [100] (epitaphref04_Reader_Fail_o_ok 2 v9 v10 v11 y21 hy22) hK rfl Try.call109 rfl (by first | rfl | (simp; done) | (simp [PV.nilD, PV.ren, rn]; omega)) (.cons (by first | rfl | (congr 1; first | (simp; done) | (simp; omega))) <| .nil) rfl rfl rfl rfl) rfl ?_
            refine PWl.nil ?_
            exact ⟨(y21.1, y21.2.1, y21.2.2), (), h, Sub.of rfl (.cons rfl rfl <| .cons rfl rfl <| .nil) (.cons rfl rfl <| .cons rfl rfl <| .nil)⟩
          · replace h := iF hc20 h
            refine PWc.skip ?_
            exact ⟨(v9, v10, v11), (), h, Sub.of rfl (.cons rfl rfl <| .cons rfl rfl <| .nil) (.cons rfl rfl <| .cons rfl rfl <| .nil)⟩
        · rintro ⟨v17, v18, v19⟩ _ h
          refine PWc.seq ?_
          refine PWc.seq ?_
          refine PWc.region ?_
          refine PWl.step (LR.move rfl) rfl ?_
          refine PWl.step (LR.nilCheckRef rfl) rfl ?_
          refine PWl.step (LR.fieldRef Try.underlying85 rfl Try.sizeOf3 (by decide) rfl rfl) rfl ?_
          refine PWl.step (LR.loadRef Try.isAgg3 rfl rfl rfl) rfl ?_
          refine PWl.step (LR.neq rfl rfl) rfl ?_
          refine PWl.nil ?_
          refine PWc.cond rfl (fun hc23 => ?_) (fun hc23 => ?_)
          · replace h := iT hc23 h
            refine PWc.seq ?_
            refine PWc.region ?_
            refine PWl.step (LR.assign rfl) rfl ?_
            refine PWl.nil ?_
            refine PWc.ret ?_
            replace h : _ = r0 := h
            subst h
            exact EndsO.mk () (.inr rfl) (Sub.of (tl := [(4, _)]) (to := [(100, _), (1100, _)]) rfl (.cons rfl rfl <| .nil) (.cons rfl rfl <| .cons rfl rfl <| .nil)) (.cons (.tmp rfl) <| .nil) rfl rfl
          · replace h := iF hc23 h
            refine PWc.skip ?_
            refine PWc.seq ?_
            refine PWc.region ?_
            refine PWl.step (LR.move rfl) rfl ?_
            refine PWl.step (LR.nilCheckRef rfl) rfl ?_
            refine PWl.step (LR.fieldRef Try.underlying85 rfl Try.sizeOf3 (by decide) rfl rfl) rfl ?_
            refine PWl.step (LR.loadRef Try.isAgg3 rfl rfl rfl) rfl ?_
            refine PWl.step (LR.assign rfl) rfl ?_
            refine PWl.nil ?_
            refine PWc.seq ?_
            refine PWc.region ?_
            refine PWl.step (LR.move rfl) rfl ?_
            refine PWl.step (LR.move rfl) rfl ?_
            refine PWl.step (LR.move rfl) rfl ?_
            refine PWl.step (LR.convInt Try.underlying3 (by rw [Try.underlying36]; rfl) rfl rfl) rfl ?_
            refine PWl.step (LR.addW rfl rfl) rfl ?_
            refine PWl.step (LR.nilCheckRef rfl) rfl ?_
            refine PWl.step (LR.fieldRef Try.underlying85 rfl Try.sizeOf3 (by decide) rfl rfl) rfl ?_
            refine PWl.step (LR.storeB (ns := [_, _, _]) Try.sizeOf3 rfl rfl rfl rfl rfl rfl rfl) rfl ?_
            refine PWl.nil ?_
            refine PWc.seq ?_
            refine PWc.regionD (by kernel_rfl) (by kernel_rfl) ?_
            refine PQl.step (fun _ he ho => LR.move (he rfl rfl)) rfl ?_
            refine PQl.step (fun _ he ho => LR.nilCheckRef (he rfl rfl)) rfl ?_
            refine PQl.step (fun _ he ho => LR.fieldRef Try.underlying85 rfl Try.sizeOf45 (by decide) rfl (he rfl rfl)) rfl ?_
            refine PQl.step (fun _ he ho => LR.loadRef Try.isAgg45 (he rfl rfl) (ho rfl) rfl) rfl ?_
            refine PQl.step (fun _ he ho => LR.move (he rfl rfl)) rfl ?_
            refine PQl.step (fun _ he ho => LR.move (he rfl rfl)) rfl ?_
            refine PQl.step (fun _ he ho => LR.nilCheckRef (he rfl rfl)) rfl ?_
            refine PQl.step (fun _ he ho => LR.fieldRef Try.underlying85 rfl Try.sizeOf3 (by decide) rfl (he rfl rfl)) rfl ?_
            refine PQl.step (fun _ he ho => LR.loadRef Try.isAgg3 (he rfl rfl) (ho rfl) rfl) rfl ?_
            replace h := iNeed h
            obtain ⟨hy24, h⟩ := h
            refine PQl.step (fun _ he ho => LR.cutT (enc := (eK .u8)) (L := v17) Try.underlying45 Try.sizeOf5 (he rfl rfl) (fun _ => rfl) (he rfl rfl) (he rfl rfl) hy24) rfl ?_
            refine PQl.step (fun _ he ho => LR.bytesStr Try.underlying45 Try.underlying5 Try.underlying9 (he rfl rfl)) rfl ?_
            refine PQl.step (fun _ he ho => LR.assign (he rfl rfl)) rfl ?_
            refine PQl.nil ?_
            refine PWc.ret ?_
            replace h : _ = r0 := h
            subst h
            exact EndsO.mk () (.inr rfl) (Sub.of (tl := [(4, _)]) (to := [(100, _), (1100, _)]) rfl (.cons rfl rfl <| .nil) (.cons rfl rfl <| .cons rfl rfl <| .nil)) (.cons (.tmp rfl) <| .nil) rfl rfl

theorem r15_Dots_o_ok (most1 : Int) (b_2 : List Int) (at_3 : Int) (bad_4 : Int) (r0 : List TDot × List Int × Int × Int) (h : (r15_Dots_o most1 b_2 at_3 bad_4).wp (· = r0)) : PObj Try.prog 120 [.ref 100 0, .d (.v (.int .i64 most1))] [(100, .cells 85 [.d (.sl (List.map (eK .u8) b_2)), .d (.v (.int .i64 at_3)), .d (.v (.int .i64 bad_4))])] [100] (.d (.sl (List.map TDot.e r0.1))) (fun _ : Unit => [(100, .cells 85 [.d (.sl (List.map (eK .u8) r0.2.1)), .d (.v (.int .i64 r0.2.2.1)), .d (.v (.int .i64 r0.2.2.2))])]) := by
  refine PObj.intro (sl := [(0, _), (1, _)]) Try.func120 rfl Try.ntmps120 rfl rfl rfl ?_
  intro ctx hK pv
  refine PWc.seq ?_
  refine PWc.region ?_
  refine PWl.step (LR.assignNilRow 38 2 rfl) rfl ?_
  refine PWl.nil ?_
  refine PWc.seq ?_
  refine PWc.seq ?_
  refine PWc.region ?_
  refine PWl.step (LR.move rfl) rfl ?_
  refine PWl.step (LR.lss rfl rfl) rfl ?_
  refine PWl.nil ?_
  refine PWc.jn (iBind h) (fun (most5 : Int) (_ : Unit) => ⟨67, [(0, .ref 100 0), (1, .d (.v (.int .i64 most5)))], [(100, .cells 85 [.d (.sl (List.map (eK .u8) b_2)), .d (.v (.int .i64 at_3)), .d (.v (.int .i64 bad_4))]), (1100, .pin 100 (pv 100).1 (pv 100).2)]⟩) (fun h => ?_) ?_
  · refine PWc.cond rfl (fun hc6 => ?_) (fun hc6 => ?_)
    · replace h := iT hc6 h
      refine PWc.region ?_
      refine PWl.step (LR.assign rfl) rfl ?_
      refine PWl.nil ?_
      exact ⟨0, (), h, Sub.of rfl (.cons rfl rfl <| .cons rfl rfl <| .nil) (.cons rfl rfl <| .cons rfl rfl <| .nil)⟩
    · replace h := iF hc6 h
      refine PWc.skip ?_
      exact ⟨most1, (), h, Sub.of rfl (.cons rfl rfl <| .cons rfl rfl <| .nil) (.cons rfl rfl <| .cons rfl rfl <| .nil)⟩
  · rintro most5 _ h
    refine PWc.seq ?_
    refine PWc.region ?_
    refine PWl.step (LR.move rfl) rfl ?_
    replace h := iDet h
    obtain ⟨y7, hy8, h⟩ := h
    refine PWl.step (LR.callObj [(100, 100)] [] [100] (epitaphref04_Reader_Num_o_ok b_2 at_3 bad_4 y7 hy8) hK rfl Try.call108 rfl (by first | rfl | (simp; done) | (simp [PV.nilD, PV.ren, rn]; omega)) (.cons (by first | rfl | (congr 1; first | (simp; done) | (simp; omega))) <| .nil) rfl rfl rfl rfl) rfl ?_
    refine PWl.step (LR.assign rfl) rfl ?_
    refine PWl.nil ?_
    refine PWc.seq ?_
    refine PWc.seq ?_
    refine PWc.re (tl := [(0, _), (1, _), (5, _)]) (to := [(100, _), (1100, _)]) rfl (.cons rfl rfl <| .cons rfl rfl <| .cons rfl rfl <| .nil) (.cons rfl rfl <| .cons rfl rfl <| .nil) ?_
    refine PWc.region ?_
    refine PWl.step (LR.move rfl) rfl ?_
    refine PWl.step (LR.move rfl) rfl ?_
    refine PWl.step (LR.convInt Try.underlying36 (by rw [Try.underlying3]; rfl) rfl rfl) rfl ?_
    refine PWl.step (LR.gtr rfl rfl) rfl ?_
    refine PWl.nil ?_
    refine PWc.jn (iBind h) (fun (⟨v9, v10, v11⟩ : List Int × Int × Int) (_ : Unit) => ⟨67, [(0, .ref 100 0), (5, .d (.v (.int .u64 y7.1)))], [(100, .cells 85 [.d (.sl (List.map (eK .u8) v9)), .d (.v (.int .i64 v10)), .d (.v (.int .i64 v11))]), (1100, .pin 100 (pv 100).1 (pv 100).2)]⟩) (fun h => ?_) ?_
    · refine PWc.cond rfl (fun hc12 => ?_) (fun hc12 => ?_)
      · replace h := iT hc12 h
        refine PWc.region ?_
        refine PWl.step (LR.move rfl) rfl ?_
        replace h := iDet h
        obtain ⟨y13, hy14, h⟩ := h
        refine PWl.step (LR.callObj [(100, 100)] [] [100] (epitaphref04_Reader_Fail_o_ok 3 y7.2.1 y7.2.2.1 y7.2.2.2 y13 hy14) hK rfl Try.call109 rfl (by first | rfl | (simp; done) | (simp [PV.nilD, PV.ren, rn]; omega)) (.cons (by first | rfl | (congr 1; first | (simp; done) | (simp; omega))) <| .nil) rfl rfl rfl rfl) rfl ?_
        refine PWl.nil ?_
        exact ⟨(y13.1, y13.2.1, y13.2.2), (), h, Sub.of rfl (.cons rfl rfl <| .cons rfl rfl <| .nil) (.cons rfl rfl <| .cons rfl rfl <| .nil)⟩
      · replace h := iF hc12 h
        refine PWc.skip ?_
        exact ⟨(y7.2.1, y7.2.2.1, y7.2.2.2), (), h, Sub.of rfl (.cons rfl rfl <| .cons rfl rfl <| .nil) (.cons rfl rfl <| .cons rfl rfl <| .nil)⟩
    · rintro ⟨v9, v10, v11⟩ _ h
      refine PWc.seq ?_
      refine PWc.region ?_
      refine PWl.step (LR.assignNilRow 38 2 rfl) rfl ?_
      refine PWl.nil ?_
      refine PWc.seq ?_
      refine PWc.seq ?_
      refine PWc.region ?_
      refine PWl.step (LR.assign rfl) rfl ?_
      refine PWl.nil ?_
      refine PWc.jn (iBind h) (fun (⟨out15, v16, v17, v18⟩ : List TDot × List Int × Int × Int) (_ : Unit) => ⟨67, [(0, .ref 100 0), (6, .row 6 (List.length out15))], [(6, .row 38 2 (List.map TDot.e out15)), (100, .cells 85 [.d (.sl (List.map (eK .u8) v16)), .d (.v (.int .i64 v17)), .d (.v (.int .i64 v18))]), (1100, .pin 100 (pv 100).1 (pv 100).2)]⟩) (fun h => ?_) ?_
      · refine PWc.block ?_
        refine PWc.loopM (fun (⟨i62, out63, v64, v65, v66⟩ : Int × List TDot × List Int × Int × Int) (_ : Unit) => ⟨67, [(0, .ref 100 0), (5, .d (.v (.int .u64 y7.1))), (6, .row 6 (List.length out63)), (7, .d (.v (.int .u64 i62)))], [(6, .row 38 2 (List.map TDot.e out63)), (100, .cells 85 [.d (.sl (List.map (eK .u8) v64)), .d (.v (.int .i64 v65)), .d (.v (.int .i64 v66))]), (1100, .pin 100 (pv 100).1 (pv 100).2)]⟩) () h (Sub.of rfl (.cons rfl rfl <| .cons rfl rfl <| .cons rfl rfl <| .cons rfl rfl <| .nil) (.cons rfl rfl <| .cons rfl rfl <| .cons rfl rfl <| .nil)) ?_
        rintro N ⟨i62, out63, v64, v65, v66⟩ _ h
        refine PWc.seq ?_
        refine PWc.seq ?_
        refine PWc.jn (iBind h) (fun (v67 : Bool) (_ : Unit) => ⟨67, [(0, .ref 100 0), (5, .d (.v (.int .u64 y7.1))), (6, .row 6 (List.length out63)), (7, .d (.v (.int .u64 i62))), (29, .d (.v (.bool v67)))], [(6, .row 38 2 (List.map TDot.e out63)), (100, .cells 85 [.d (.sl (List.map (eK .u8) v64)), .d (.v (.int .i64 v65)), .d (.v (.int .i64 v66))]), (1100, .pin 100 (pv 100).1 (pv 100).2)]⟩) (fun h => ?_) ?_
        · refine PWc.region ?_
          refine PWl.step (LR.move rfl) rfl ?_
          refine PWl.step (LR.move rfl) rfl ?_
          refine PWl.step (LR.lss rfl rfl) rfl ?_
          refine PWl.step (LR.move rfl) rfl ?_
          refine PWl.split (d := 23) rfl (fun hg68 => ?_) (fun hg68 => ?_)
          · replace h := iT hg68 h
            refine PWl.guardT (LR.move rfl) rfl rfl rfl ?_
            refine PWl.guardT (LR.nilCheckRef rfl) rfl rfl rfl ?_
            refine PWl.guardT (LR.fieldRef Try.underlying85 rfl Try.sizeOf3 (by decide) rfl rfl) rfl rfl rfl ?_
            refine PWl.guardT (LR.loadRef Try.isAgg3 rfl rfl rfl) rfl rfl rfl ?_
            refine PWl.guardT (LR.eql rfl rfl) rfl rfl rfl ?_
            refine PWl.step (LR.pickT rfl rfl) rfl ?_
            refine PWl.nil ?_
            exact ⟨(decide (v66 = 0)), (), h, Sub.of rfl (.cons rfl rfl <| .cons rfl rfl <| .cons rfl rfl <| .cons rfl rfl <| .cons rfl rfl <| .nil) (.cons rfl rfl <| .cons rfl rfl <| .cons rfl rfl <| .nil)⟩
          · replace h := iF hg68 h
            refine PWl.guardF rfl rfl rfl (by decide) ?_
            refine PWl.guardF rfl rfl rfl (by decide) ?_
            refine PWl.guardF rfl rfl rfl (by decide) ?_
            refine PWl.guardF rfl rfl rfl (by decide) ?_
            refine PWl.guardF rfl rfl rfl (by decide) ?_
            refine PWl.step (LR.pickF rfl rfl) rfl ?_
            refine PWl.nil ?_
            exact ⟨false, (), h, Sub.of rfl (.cons rfl rfl <| .cons rfl rfl <| .cons rfl rfl <| .cons rfl rfl <| .cons rfl rfl <| .nil) (.cons rfl rfl <| .cons rfl rfl <| .cons rfl rfl <| .nil)⟩
        · rintro v67 _ h
          refine PWc.cond rfl (fun hc69 => ?_) (fun hc69 => ?_)
          · replace h := iT hc69 h
            refine PWc.skip ?_
            refine PWc.seq ?_
            refine PWc.block ?_
            refine PWc.seq ?_
            refine PWc.region ?_
            refine PWl.step (LR.move rfl) rfl ?_
            replace h := iDet h
            obtain ⟨y70, hy71, h⟩ := h
            refine PWl.step (LR.callObj [(100, 100)] [] [100] (r15_Dot_o_ok v64 v65 v66 y70 hy71) hK rfl Try.call117 rfl (by first | rfl | (simp; done) | (simp [PV.nilD, PV.ren, rn]; omega)) (.cons (by first | rfl | (congr 1; first | (simp; done) | (simp; omega))) <| .nil) rfl rfl rfl rfl) rfl ?_
            refine PWl.step (LR.allocZ (cs := [_, _]) Try.zeroValue38 rfl rfl rfl rfl) rfl ?_
            refine PWl.step (LR.storeB (ns := [_, _]) Try.sizeOf38 rfl rfl rfl rfl rfl rfl rfl) rfl ?_
            refine PWl.nil ?_
            refine PWc.seq ?_
            refine PWc.re (tl := [(0, _), (5, _), (6, _), (7, _), (8, _)]) (to := [(6, _), (8, _), (100, _), (1100, _)]) rfl (.cons rfl rfl <| .cons rfl rfl <| .cons rfl rfl <| .cons rfl rfl <| .cons rfl rfl <| .nil) (.cons rfl rfl <| .cons rfl rfl <| .cons rfl rfl <| .cons rfl rfl <| .nil) ?_
            refine PWc.region ?_
            refine PWl.step (LR.move rfl) rfl ?_
            refine PWl.step (LR.lenRow Try.underlying39 rfl) rfl ?_
            refine PWl.step (LR.subW rfl rfl) rfl ?_
            refine PWl.step (LR.assign rfl) rfl ?_
            refine PWl.nil ?_
            refine PWc.seq ?_
            refine PWc.seq ?_
            refine PWc.jn (iBind h) (fun (v72 : Bool) (_ : Unit) => ⟨67, [(0, .ref 100 0), (5, .d (.v (.int .u64 y7.1))), (6, .row 6 (List.length out63)), (7, .d (.v (.int .u64 i62))), (8, .ref 8 0), (54, .d (.v (.bool v72)))], [(6, .row 38 2 (List.map TDot.e out63)), (8, .cells 38 [.d (.v (.int .u16 y70.1.dev)), .d (.v (.int .u64 y70.1.n))]), (100, .cells 85 [.d (.sl (List.map (eK .u8) y70.2.1)), .d (.v (.int .i64 y70.2.2.1)), .d (.v (.int .i64 y70.2.2.2))]), (1100, .pin 100 (pv 100).1 (pv 100).2)]⟩) (fun h => ?_) ?_
            · refine PWc.regionD (by kernel_rfl) (by kernel_rfl) ?_
              refine PQl.step (fun _ he ho => LR.move (he rfl rfl)) rfl ?_
              refine PQl.step (fun _ he ho => LR.nilCheckRef (he rfl rfl)) rfl ?_
              refine PQl.step (fun _ he ho => LR.fieldRef Try.underlying85 rfl Try.sizeOf3 (by decide) rfl (he rfl rfl)) rfl ?_
              refine PQl.step (fun _ he ho => LR.loadRef Try.isAgg3 (he rfl rfl) (ho rfl) rfl) rfl ?_
              refine PQl.step (fun _ he ho => LR.eql (he rfl rfl) (he rfl rfl)) rfl ?_
              refine PQl.step (fun _ he ho => LR.move (he rfl rfl)) rfl ?_
              refine PQl.split (d := 42) rfl (fun hg73 => ?_) (fun hg73 => ?_)
              · replace h := iT hg73 h
                refine PQl.guardT (fun _ he ho => LR.move (he rfl rfl)) rfl rfl rfl ?_
                refine PQl.guardT (fun _ he ho => LR.geq (he rfl rfl) (he rfl rfl)) rfl rfl rfl ?_
                refine PQl.step (fun _ he ho => LR.pickT (he rfl rfl) (he rfl rfl)) rfl ?_
                refine PQl.step (fun _ he ho => LR.move (he rfl rfl)) rfl ?_
                refine PQl.split (d := 46) rfl (fun hg74 => ?_) (fun hg74 => ?_)
                · replace h := iT hg74 h
                  refine PQl.guardT (fun _ he ho => LR.move (he rfl rfl)) rfl rfl rfl ?_
                  refine PQl.guardT (fun _ he ho => LR.move (he rfl rfl)) rfl rfl rfl ?_
                  replace h := iIdx h
                  obtain ⟨x75, hy76, h⟩ := h
                  refine PQl.guardT (fun _ he ho => LR.idxRowT (L := out63) (y := x75) Try.underlying39 Try.sizeOf38 (he rfl rfl) rfl (he rfl rfl) hy76) rfl rfl rfl ?_
                  refine PQl.guardT (fun _ he ho => LR.loadRpT (enc := TDot.e) (L := out63) (y := x75) Try.isAgg38 Try.sizeOf38 (he rfl rfl) (ho rfl) hy76.2) rfl rfl rfl ?_
                  refine PQl.guardT (fun _ he ho => LR.loadRefAgg (ps := [_, _]) Try.isAgg38 Try.sizeOf38 (he rfl rfl) (ho rfl) rfl rfl) rfl rfl rfl ?_
                  replace h := iDet h
                  obtain ⟨v77, hy78, h⟩ := h
                  refine PQl.guardT (fun _ he ho => LR.callN (r07_Cmp_ok x75 y70.1 v77 hy78) (he rfl rfl) Try.call110 (evsE he rfl rfl) rfl rfl rfl) rfl rfl rfl ?_
                  refine PQl.guardT (fun _ he ho => LR.geq (he rfl rfl) (he rfl rfl)) rfl rfl rfl ?_
                  refine PQl.step (fun _ he ho => LR.pickT (he rfl rfl) (he rfl rfl)) rfl ?_
                  refine PQl.nil ?_
                  exact ⟨(decide (0 ≤ v77)), (), h, Sub.of rfl (.cons rfl rfl <| .cons rfl rfl <| .cons rfl rfl <| .cons rfl rfl <| .cons rfl rfl <| .cons rfl rfl <| .nil) (.cons rfl rfl <| .cons rfl rfl <| .cons rfl rfl <| .cons rfl rfl <| .nil)⟩
                · replace h := iF hg74 h
                  refine PQl.guardF rfl rfl rfl (by decide) ?_
                  refine PQl.guardF rfl rfl rfl (by decide) ?_
                  refine PQl.guardF rfl rfl rfl (by decide) ?_
                  refine PQl.guardF rfl rfl rfl (by decide) ?_
                  refine PQl.guardF rfl rfl rfl (by decide) ?_
                  refine PQl.guardF rfl rfl rfl (by decide) ?_
                  refine PQl.guardF rfl rfl rfl (by decide) ?_
                  refine PQl.step (fun _ he ho => LR.pickF (he rfl rfl) (he rfl rfl)) rfl ?_
                  refine PQl.nil ?_
                  exact ⟨false, (), h, Sub.of rfl (.cons rfl rfl <| .cons rfl rfl <| .cons rfl rfl <| .cons rfl rfl <| .cons rfl rfl <| .cons rfl rfl <| .nil) (.cons rfl rfl <| .cons rfl rfl <| .cons rfl rfl <| .cons rfl rfl <| .nil)⟩
              · replace h := iF hg73 h
                refine PQl.guardF rfl rfl rfl (by decide) ?_
                refine PQl.guardF rfl rfl rfl (by decide) ?_
                refine PQl.step (fun _ he ho => LR.pickF (he rfl rfl) (he rfl rfl)) rfl ?_
                refine PQl.step (fun _ he ho => LR.move (he rfl rfl)) rfl ?_
                refine PQl.guardF rfl rfl rfl (by decide) ?_
                refine PQl.guardF rfl rfl rfl (by decide) ?_
                refine PQl.guardF rfl rfl rfl (by decide) ?_
                refine PQl.guardF rfl rfl rfl (by decide) ?_
                refine PQl.guardF rfl rfl rfl (by decide) ?_
                refine PQl.guardF rfl rfl rfl (by decide) ?_
                refine PQl.guardF rfl rfl rfl (by decide) ?_
                refine PQl.step (fun _ he ho => LR.pickF (he rfl rfl) (he rfl rfl)) rfl ?_
                refine PQl.nil ?_
                exact ⟨false, (), h, Sub.of rfl (.cons rfl rfl <| .cons rfl rfl <| .cons rfl rfl <| .cons rfl rfl <| .cons rfl rfl <| .cons rfl rfl <| .nil) (.cons rfl rfl <| .cons rfl rfl <| .cons rfl rfl <| .cons rfl rfl <| .nil)⟩
            · rintro v72 _ h
              refine PWc.jn (iBind h) (fun (⟨v79, v80, v81⟩ : List Int × Int × Int) (_ : Unit) => ⟨67, [(0, .ref 100 0), (5, .d (.v (.int .u64 y7.1))), (6, .row 6 (List.length out63)), (7, .d (.v (.int .u64 i62))), (8, .ref 8 0)], [(6, .row 38 2 (List.map TDot.e out63)), (8, .cells 38 [.d (.v (.int .u16 y70.1.dev)), .d (.v (.int .u64 y70.1.n))]), (100, .cells 85 [.d (.sl (List.map (eK .u8) v79)), .d (.v (.int .i64 v80)), .d (.v (.int .i64 v81))]), (1100, .pin 100 (pv 100).1 (pv 100).2)]⟩) (fun h => ?_) ?_
              · refine PWc.cond rfl (fun hc82 => ?_) (fun hc82 => ?_)
                · replace h := iT hc82 h
                  refine PWc.region ?_
                  refine PWl.step (LR.move rfl) rfl ?_
                  replace h := iDet h
                  obtain ⟨y83, hy84, h⟩ := h
                  refine PWl.step (LR.callObj [(100, 100)] [] [100] (epitaphref04_Reader_Fail_o_ok 4 y70.2.1 y70.2.2.1 y70.2.2.2 y83 hy84) hK rfl Try.call109 rfl (by first | rfl | (simp; done) | (simp [PV.nilD, PV.ren, rn]; omega)) (.cons (by first | rfl | (congr 1; first | (simp; done) | (simp; omega))) <| .nil) rfl rfl rfl rfl) rfl ?_
                  refine PWl.nil ?_
                  exact ⟨(y83.1, y83.2.1, y83.2.2), (), h, Sub.of rfl (.cons rfl rfl <| .cons rfl rfl <| .cons rfl rfl <| .cons rfl rfl <| .cons rfl rfl <| .nil) (.cons rfl rfl <| .cons rfl rfl <| .cons rfl rfl <| .cons rfl rfl <| .nil)⟩
                · replace h := iF hc82 h
                  refine PWc.skip ?_
                  exact ⟨(y70.2.1, y70.2.2.1, y70.2.2.2), (), h, Sub.of rfl (.cons rfl rfl <| .cons rfl rfl <| .cons rfl rfl <| .cons rfl rfl <| .cons rfl rfl <| .nil) (.cons rfl rfl <| .cons rfl rfl <| .cons rfl rfl <| .cons rfl rfl <| .nil)⟩
              · rintro ⟨v79, v80, v81⟩ _ h
                refine PWc.region ?_
                refine PWl.step (LR.move rfl) rfl ?_
                refine PWl.step (LR.loadRefAgg (ps := [_, _]) Try.isAgg38 Try.sizeOf38 rfl rfl rfl rfl) rfl ?_
                refine PWl.step (LR.buildSliceD [.tmp 58] elem39 rfl rfl (.cons rfl rfl rfl <| .nil) (by decide) (by decide)) rfl ?_
                replace h := iNeed h
                obtain ⟨hy85, h⟩ := h
                refine PWl.step (LR.appT (enc := TDot.e) (L := out63) (R := [y70.1]) [6, 57] elem39 Try.underlying39 rfl rfl rfl (Src.slT (enc := TDot.e) (R := [y70.1]) rfl (fun _ => rfl)) (fun _ => rfl) hy85 rfl rfl) rfl ?_
                refine PWl.step (LR.assign rfl) rfl ?_
                refine PWl.nil ?_
                refine PWc.region ?_
                refine PWl.step (LR.move rfl) rfl ?_
                refine PWl.step (LR.addW rfl rfl) rfl ?_
                refine PWl.step (LR.assign rfl) rfl ?_
                refine PWl.nil ?_
                exact ⟨((IntKind.u64.wrap (i62 + 1)), (out63 ++ [y70.1]), v79, v80, v81), (), h, Sub.of rfl (.cons rfl rfl <| .cons rfl rfl <| .cons rfl rfl <| .cons rfl rfl <| .nil) (.cons rfl rfl <| .cons rfl rfl <| .cons rfl rfl <| .nil)⟩
          · replace h := iF hc69 h
            refine PWc.exit ?_
            exact ⟨(out63, v64, v65, v66), (), h, Sub.of rfl (.cons rfl rfl <| .cons rfl rfl <| .nil) (.cons rfl rfl <| .cons rfl rfl <| .cons rfl rfl <| .nil)⟩
      · rintro ⟨out15, v16, v17, v18⟩ _ h
        refine PWc.seq ?_
        refine PWc.seq ?_
        refine PWc.region ?_
        refine PWl.step (LR.move rfl) rfl ?_
        refine PWl.step (LR.nilCheckRef rfl) rfl ?_
        refine PWl.step (LR.fieldRef Try.underlying85 rfl Try.sizeOf3 (by decide) rfl rfl) rfl ?_
        refine PWl.step (LR.loadRef Try.isAgg3 rfl rfl rfl) rfl ?_
        refine PWl.step (LR.neq rfl rfl) rfl ?_
        refine PWl.nil ?_
        refine PWc.cond rfl (fun hc86 => ?_) (fun hc86 => ?_)
        · replace h := iT hc86 h
          refine PWc.seq ?_
          refine PWc.region ?_
          refine PWl.step (LR.assignNilRow 38 2 rfl) rfl ?_
          refine PWl.nil ?_
          refine PWc.ret ?_
          replace h : _ = r0 := h
          subst h
          exact EndsO.mk () (.inr rfl) (Sub.trans (Sub.frz [4] hK rfl (by first | (simp; done) | (simp; omega) | omega) (AllRow.get (.cons rfl <| .nil))) <| Sub.of (tl := [(4, _)]) (to := [(100, _), (1100, _)]) rfl (.cons rfl rfl <| .nil) (.cons rfl rfl <| .cons rfl rfl <| .nil)) (.cons (.tmp rfl) <| .nil) rfl rfl
        · replace h := iF hc86 h
          refine PWc.skip ?_
          refine PWc.seq ?_
          refine PWc.region ?_
          refine PWl.step (LR.move rfl) rfl ?_
          refine PWl.step (LR.assign rfl) rfl ?_
          refine PWl.nil ?_
          refine PWc.ret ?_
          replace h : _ = r0 := h
          subst h
          exact EndsO.mk () (.inr rfl) (Sub.trans (Sub.frz [4, 6, 66] hK rfl (by simp) (AllRow.get (.cons rfl <| .cons rfl <| .cons rfl <| .nil))) <| Sub.of (tl := [(4, _)]) (to := [(100, _), (1100, _)]) rfl (.cons rfl rfl <| .nil) (.cons rfl rfl <| .cons rfl rfl <| .nil)) (.cons (.tmp rfl) <| .nil) rfl rfl

theorem r16_Get_o_ok (b_1 : List Int) (at_2 : Int) (bad_3 : Int) (r0 : TEvent × List Int × Int × Int) (h : (r16_Get_o b_1 at_2 bad_3).wp (· = r0)) : PObj Try.prog 67 [.ref 100 0] [(100, .cells 85 [.d (.sl (List.map (eK .u8) b_1)), .d (.v (.int .i64 at_2)), .d (.v (.int .i64 bad_3))])] [100] (.agg (List.map .d (TEvent.e r0.1))) (fun _ : Unit => [(100, .cells 85 [.d (.sl (List.map (eK .u8) r0.2.1)), .d (.v (.int .i64 r0.2.2.1)), .d (.v (.int .i64 r0.2.2.2))])]) := by
  refine PObj.intro (sl := [(0, _)]) Try.func67 rfl Try.ntmps67 rfl rfl rfl ?_
  intro ctx hK pv
  refine PWc.seq ?_
  refine PWc.region ?_
  refine PWl.step (LR.allocZ (cs := [_, _, _, _, _, _, _]) Try.zeroValue41 rfl rfl rfl rfl) rfl ?_
  refine PWl.nil ?_
  refine PWc.seq ?_
  refine PWc.region ?_
  refine PWl.step (LR.move rfl) rfl ?_
  replace h := iDet h
  obtain ⟨y4, hy5, h⟩ := h
  refine PWl.step (LR.callObj [(100, 100)] [] [100] (r15_Dot_o_ok b_1 at_2 bad_3 y4 hy5) hK rfl Try.call117 rfl (by first | rfl | (simp; done) | (simp [PV.nilD, PV.ren, rn]; omega)) (.cons (by first | rfl | (congr 1; first | (simp; done) | (simp; omega))) <| .nil) rfl rfl rfl rfl) rfl ?_
  refine PWl.step (LR.build (ns := [_, _, _, _, _, _, _]) build41 rfl rfl rfl) rfl ?_
  refine PWl.step (LR.allocZ (cs := [_, _, _, _, _, _, _]) Try.zeroValue41 rfl rfl rfl rfl) rfl ?_
  refine PWl.step (LR.storeB (ns := [_, _, _, _, _, _, _]) Try.sizeOf41 rfl rfl rfl rfl rfl rfl rfl) rfl ?_
  refine PWl.nil ?_
  refine PWc.seq ?_
  refine PWc.re (tl := [(0, _), (2, _), (3, _)]) (to := [(2, _), (3, _), (100, _), (1100, _)]) rfl (.cons rfl rfl <| .cons rfl rfl <| .cons rfl rfl <| .nil) (.cons rfl rfl <| .cons rfl rfl <| .cons rfl rfl <| .cons rfl rfl <| .nil) ?_
  refine PWc.region ?_
  refine PWl.step (LR.move rfl) rfl ?_
  replace h := iDet h
  obtain ⟨y6, hy7, h⟩ := h
  refine PWl.step (LR.callObj [(100, 100)] [] [100] (epitaphref04_Reader_Byte_o_ok y4.2.1 y4.2.2.1 y4.2.2.2 y6 hy7) hK rfl Try.call118 rfl (by first | rfl | (simp; done) | (simp [PV.nilD, PV.ren, rn]; omega)) (.cons (by first | rfl | (congr 1; first | (simp; done) | (simp; omega))) <| .nil) rfl rfl rfl rfl) rfl ?_
  refine PWl.step (LR.fieldRef Try.underlying41 rfl Try.sizeOf5 (by decide) rfl rfl) rfl ?_
  refine PWl.step (LR.storeB (ns := [_, _, _, _, _, _, _]) Try.sizeOf5 rfl rfl rfl rfl rfl rfl rfl) rfl ?_
  refine PWl.nil ?_
  refine PWc.seq ?_
  refine PWc.re (tl := [(0, _), (2, _), (3, _)]) (to := [(2, _), (3, _), (100, _), (1100, _)]) rfl (.cons rfl rfl <| .cons rfl rfl <| .cons rfl rfl <| .nil) (.cons rfl rfl <| .cons rfl rfl <| .cons rfl rfl <| .cons rfl rfl <| .nil) ?_
  refine PWc.region ?_
  refine PWl.step (LR.move rfl) rfl ?_
  replace h := iDet h
  obtain ⟨y8, hy9, h⟩ := h
  refine PWl.step (LR.callObj [(100, 100)] [] [100] (epitaphref04_Reader_Num_o_ok y6.2.1 y6.2.2.1 y6.2.2.2 y8 hy9) hK rfl Try.call108 rfl (by first | rfl | (simp; done) | (simp [PV.nilD, PV.ren, rn]; omega)) (.cons (by first | rfl | (congr 1; first | (simp; done) | (simp; omega))) <| .nil) rfl rfl rfl rfl) rfl ?_
  refine PWl.step (LR.fieldRef Try.underlying41 rfl Try.sizeOf36 (by decide) rfl rfl) rfl ?_
  refine PWl.step (LR.storeB (ns := [_, _, _, _, _, _, _]) Try.sizeOf36 rfl rfl rfl rfl rfl rfl rfl) rfl ?_
  refine PWl.nil ?_
  refine PWc.seq ?_
  refine PWc.re (tl := [(0, _), (2, _), (3, _)]) (to := [(2, _), (3, _), (100, _), (1100, _)]) rfl (.cons rfl rfl <| .cons rfl rfl <| .cons rfl rfl <| .nil) (.cons rfl rfl <| .cons rfl rfl <| .cons rfl rfl <| .cons rfl rfl <| .nil) ?_
  refine PWc.region ?_
  refine PWl.step (LR.move rfl) rfl ?_
  replace h := iDet h
  obtain ⟨y10, hy11, h⟩ := h
  refine PWl.step (LR.callObj [(100, 100)] [] [100] (epitaphref04_Reader_Byte_o_ok y8.2.1 y8.2.2.1 y8.2.2.2 y10 hy11) hK rfl Try.call118 rfl (by first | rfl | (simp; done) | (simp [PV.nilD, PV.ren, rn]; omega)) (.cons (by first | rfl | (congr 1; first | (simp; done) | (simp; omega))) <| .nil) rfl rfl rfl rfl) rfl ?_
  refine PWl.step (LR.fieldRef Try.underlying41 rfl Try.sizeOf5 (by decide) rfl rfl) rfl ?_
  refine PWl.step (LR.storeB (ns := [_, _, _, _, _, _, _]) Try.sizeOf5 rfl rfl rfl rfl rfl rfl rfl) rfl ?_
  refine PWl.nil ?_
  refine PWc.seq ?_
  refine PWc.re (tl := [(0, _), (2, _), (3, _)]) (to := [(2, _), (3, _), (100, _), (1100, _)]) rfl (.cons rfl rfl <| .cons rfl rfl <| .cons rfl rfl <| .nil) (.cons rfl rfl <| .cons rfl rfl <| .cons rfl rfl <| .cons rfl rfl <| .nil) ?_
  refine PWc.region ?_
  refine PWl.step (LR.move rfl) rfl ?_
  replace h := iDet h
  obtain ⟨y12, hy13, h⟩ := h
  refine PWl.step (LR.callObj [(100, 100)] [] [100] (epitaphref04_Reader_Text_o_ok 60 y10.2.1 y10.2.2.1 y10.2.2.2 y12 hy13) hK rfl Try.call119 rfl (by first | rfl | (simp; done) | (simp [PV.nilD, PV.ren, rn]; omega)) (.cons (by first | rfl | (congr 1; first | (simp; done) | (simp; omega))) <| .nil) rfl rfl rfl rfl) rfl ?_
  refine PWl.step (LR.fieldRef Try.underlying41 rfl Try.sizeOf9 (by decide) rfl rfl) rfl ?_
  refine PWl.step (LR.storeB (ns := [_, _, _, _, _, _, _]) Try.sizeOf9 rfl rfl rfl rfl rfl rfl rfl) rfl ?_
  refine PWl.nil ?_
  refine PWc.seq ?_
  refine PWc.re (tl := [(0, _), (2, _), (3, _)]) (to := [(2, _), (3, _), (100, _), (1100, _)]) rfl (.cons rfl rfl <| .cons rfl rfl <| .cons rfl rfl <| .nil) (.cons rfl rfl <| .cons rfl rfl <| .cons rfl rfl <| .cons rfl rfl <| .nil) ?_
  refine PWc.region ?_
  refine PWl.step (LR.move rfl) rfl ?_
  replace h := iDet h
  obtain ⟨y14, hy15, h⟩ := h
  refine PWl.step (LR.callObj [(100, 100)] [] [100] (r15_Dots_o_ok 256 y12.2.1 y12.2.2.1 y12.2.2.2 y14 hy15) hK rfl Try.call120 rfl (by first | rfl | (simp; done) | (simp [PV.nilD, PV.ren, rn]; omega)) (.cons (by first | rfl | (congr 1; first | (simp; done) | (simp; omega))) <| .nil) rfl rfl rfl rfl) rfl ?_
  refine PWl.step (LR.fieldRef Try.underlying41 rfl Try.sizeOf39 (by decide) rfl rfl) rfl ?_
  refine PWl.step (LR.storeB (ns := [_, _, _, _, _, _, _]) Try.sizeOf39 rfl rfl rfl rfl rfl rfl rfl) rfl ?_
  refine PWl.nil ?_
  refine PWc.seq ?_
  refine PWc.seq ?_
  refine PWc.re (tl := [(0, _), (2, _), (3, _)]) (to := [(2, _), (3, _), (100, _), (1100, _)]) rfl (.cons rfl rfl <| .cons rfl rfl <| .cons rfl rfl <| .nil) (.cons rfl rfl <| .cons rfl rfl <| .cons rfl rfl <| .cons rfl rfl <| .nil) ?_
  refine PWc.jn (iBind h) (fun (v16 : Bool) (_ : Unit) => ⟨41, [(0, .ref 100 0), (2, .ref 2 0), (3, .ref 3 0), (31, .d (.v (.bool v16)))], [(2, .cells 41 [.d (.v (.int .u16 0)), .d (.v (.int .u64 0)), .d (.v (.int .u8 0)), .d (.v (.int .u64 0)), .d (.v (.int .u8 0)), .d (.v (.string (⟨#[]⟩ : ByteArray))), .d (.sl (List.map TDot.e ([] : List TDot)))]), (3, .cells 41 [.d (.v (.int .u16 y4.1.dev)), .d (.v (.int .u64 y4.1.n)), .d (.v (.int .u8 y6.1)), .d (.v (.int .u64 y8.1)), .d (.v (.int .u8 y10.1)), .d (.v (.string y12.1)), .d (.sl (List.map TDot.e y14.1))]), (100, .cells 85 [.d (.sl (List.map (eK .u8) y14.2.1)), .d (.v (.int .i64 y14.2.2.1)), .d (.v (.int .i64 y14.2.2.2))]), (1100, .pin 100 (pv 100).1 (pv 100).2)]⟩) (fun h => ?_) ?_
  · refine PWc.region ?_
    refine PWl.step (LR.move rfl) rfl ?_
    refine PWl.step (LR.nilCheckRef rfl) rfl ?_
    refine PWl.step (LR.fieldRef Try.underlying85 rfl Try.sizeOf3 (by decide) rfl rfl) rfl ?_
    refine PWl.step (LR.loadRef Try.isAgg3 rfl rfl rfl) rfl ?_
    refine PWl.step (LR.eql rfl rfl) rfl ?_
    refine PWl.step (LR.move rfl) rfl ?_
    refine PWl.split (d := 27) rfl (fun hg17 => ?_) (fun hg17 => ?_)
    · replace h := iT hg17 h
      refine PWl.guardT (LR.loadRefAgg (ps := [_, _, _, _, _, _, _]) Try.isAgg41 Try.sizeOf41 rfl rfl rfl rfl) rfl rfl rfl ?_
      replace h := iDet h
      obtain ⟨v18, hy19, h⟩ := h
      refine PWl.guardT (LR.callN (r13_Good_ok (⟨y4.1, y6.1, y8.1, y10.1, y12.1, y14.1⟩ : TEvent) v18 hy19) rfl Try.call23 rfl rfl rfl rfl) rfl rfl rfl ?_
      refine PWl.guardT (LR.not rfl) rfl rfl rfl ?_
      refine PWl.step (LR.pickT rfl rfl) rfl ?_
      refine PWl.nil ?_
      exact ⟨(!v18), (), h, Sub.of rfl (.cons rfl rfl <| .cons rfl rfl <| .cons rfl rfl <| .cons rfl rfl <| .nil) (.cons rfl rfl <| .cons rfl rfl <| .cons rfl rfl <| .cons rfl rfl <| .nil)⟩
    · replace h := iF hg17 h
      refine PWl.guardF rfl rfl rfl (by decide) ?_
      refine PWl.guardF rfl rfl rfl (by decide) ?_
      refine PWl.guardF rfl rfl rfl (by decide) ?_
      refine PWl.step (LR.pickF rfl rfl) rfl ?_
      refine PWl.nil ?_
      exact ⟨false, (), h, Sub.of rfl (.cons rfl rfl <| .cons rfl rfl <| .cons rfl rfl <| .cons rfl rfl <| .nil) (.cons rfl rfl <| .cons rfl rfl <| .cons rfl rfl <| .cons rfl rfl <| .nil)⟩
  · rintro v16 _ h
    refine PWc.jn (iBind h) (fun (⟨v20, v21, v22⟩ : List Int × Int × Int) (_ : Unit) => ⟨41, [(0, .ref 100 0), (2, .ref 2 0), (3, .ref 3 0)], [(2, .cells 41 [.d (.v (.int .u16 0)), .d (.v (.int .u64 0)), .d (.v (.int .u8 0)), .d (.v (.int .u64 0)), .d (.v (.int .u8 0)), .d (.v (.string (⟨#[]⟩ : ByteArray))), .d (.sl (List.map TDot.e ([] : List TDot)))]), (3, .cells 41 [.d (.v (.int .u16 y4.1.dev)), .d (.v (.int .u64 y4.1.n)), .d (.v (.int .u8 y6.1)), .d (.v (.int .u64 y8.1)), .d (.v (.int .u8 y10.1)), .d (.v (.string y12.1)), .d (.sl (List.map TDot.e y14.1))]), (100, .cells 85 [.d (.sl (List.map (eK .u8) v20)), .d (.v (.int .i64 v21)), .d (.v (.int .i64 v22))]), (1100, .pin 100 (pv 100).1 (pv 100).2)]⟩) (fun h => ?_) ?_
    · refine PWc.cond rfl (fun hc23 => ?_) (fun hc23 => ?_)
      · replace h := iT hc23 h
        refine PWc.region ?_
        refine PWl.step (LR.move rfl) rfl ?_
        replace h := iDet h
        obtain ⟨y24, hy25, h⟩ := h
        refine PWl.step (LR.callObj [(100, 100)] [] [100] (epitaphref04_Reader_Fail_o_ok 4 y14.2.1 y14.2.2.1 y14.2.2.2 y24 hy25) hK rfl Try.call109 rfl (by first | rfl | (simp; done) | (simp [PV.nilD, PV.ren, rn]; omega)) (.cons (by first | rfl | (congr 1; first | (simp; done) | (simp; omega))) <| .nil) rfl rfl rfl rfl) rfl ?_
        refine PWl.nil ?_
        exact ⟨(y24.1, y24.2.1, y24.2.2), (), h, Sub.of rfl (.cons rfl rfl <| .cons rfl rfl <| .cons rfl rfl <| .nil) (.cons rfl rfl <| .cons rfl rfl <| .cons rfl rfl <| .cons rfl rfl <| .nil)⟩
      · replace h := iF hc23 h
        refine PWc.skip ?_
        exact ⟨(y14.2.1, y14.2.2.1, y14.2.2.2), (), h, Sub.of rfl (.cons rfl rfl <| .cons rfl rfl <| .cons rfl rfl <| .nil) (.cons rfl rfl <| .cons rfl rfl <| .cons rfl rfl <| .cons rfl rfl <| .nil)⟩
    · rintro ⟨v20, v21, v22⟩ _ h
      refine PWc.seq ?_
      refine PWc.seq ?_
      refine PWc.region ?_
      refine PWl.step (LR.move rfl) rfl ?_
      refine PWl.step (LR.nilCheckRef rfl) rfl ?_
      refine PWl.step (LR.fieldRef Try.underlying85 rfl Try.sizeOf3 (by decide) rfl rfl) rfl ?_
      refine PWl.step (LR.loadRef Try.isAgg3 rfl rfl rfl) rfl ?_
      refine PWl.step (LR.neq rfl rfl) rfl ?_
      refine PWl.nil ?_
      refine PWc.cond rfl (fun hc26 => ?_) (fun hc26 => ?_)
      · replace h := iT hc26 h
        refine PWc.seq ?_
        refine PWc.region ?_
        refine PWl.step (LR.build (ns := [_, _, _, _, _, _, _]) build41 rfl rfl rfl) rfl ?_
        refine PWl.step (LR.storeB (ns := [_, _, _, _, _, _, _]) Try.sizeOf41 rfl rfl rfl rfl rfl rfl rfl) rfl ?_
        refine PWl.nil ?_
        refine PWc.ret ?_
        replace h : _ = r0 := h
        subst h
        exact EndsO.mkX (ex := [(2, _)]) () (.inr rfl) (Sub.of (tl := [(2, _)]) (to := [(100, _), (1100, _), (2, _)]) rfl (.cons rfl rfl <| .nil) (.cons rfl rfl <| .cons rfl rfl <| .cons rfl rfl <| .nil)) (.cons (.agg Try.isAgg41 Try.sizeOf41 rfl rfl rfl) <| .nil) rfl rfl
      · replace h := iF hc26 h
        refine PWc.skip ?_
        refine PWc.seq ?_
        refine PWc.region ?_
        refine PWl.step (LR.loadRefAgg (ps := [_, _, _, _, _, _, _]) Try.isAgg41 Try.sizeOf41 rfl rfl rfl rfl) rfl ?_
        refine PWl.step (LR.storeB (ns := [_, _, _, _, _, _, _]) Try.sizeOf41 rfl rfl rfl rfl rfl rfl rfl) rfl ?_
        refine PWl.nil ?_
        refine PWc.ret ?_
        replace h : _ = r0 := h
        subst h
        exact EndsO.mkX (ex := [(2, _)]) () (.inr rfl) (Sub.of (tl := [(2, _)]) (to := [(100, _), (1100, _), (2, _)]) rfl (.cons rfl rfl <| .nil) (.cons rfl rfl <| .cons rfl rfl <| .cons rfl rfl <| .nil)) (.cons (.agg Try.isAgg41 Try.sizeOf41 rfl rfl rfl) <| .nil) rfl rfl

theorem epitaphref04_Reader_Left_o_ok (b_1 : List Int) (at_2 : Int) (bad_3 : Int) (r0 : Int × List Int × Int × Int) (h : (epitaphref04_Reader_Left_o b_1 at_2 bad_3).wp (· = r0)) : PObj Try.prog 112 [.ref 100 0] [(100, .cells 85 [.d (.sl (List.map (eK .u8) b_1)), .d (.v (.int .i64 at_2)), .d (.v (.int .i64 bad_3))])] [100] (.d (.v (.int .i64 r0.1))) (fun _ : Unit => [(100, .cells 85 [.d (.sl (List.map (eK .u8) r0.2.1)), .d (.v (.int .i64 r0.2.2.1)), .d (.v (.int .i64 r0.2.2.2))])]) := by
  refine PObj.intro (sl := [(0, _)]) Try.func112 rfl Try.ntmps112 rfl rfl rfl ?_
  intro ctx hK pv
  refine PWc.seq ?_
  refine PWc.region ?_
  refine PWl.step (LR.assign rfl) rfl ?_
  refine PWl.nil ?_
  refine PWc.seq ?_
  refine PWc.seq ?_
  refine PWc.region ?_
  refine PWl.step (LR.move rfl) rfl ?_
  refine PWl.step (LR.nilCheckRef rfl) rfl ?_
  refine PWl.step (LR.fieldRef Try.underlying85 rfl Try.sizeOf3 (by decide) rfl rfl) rfl ?_
  refine PWl.step (LR.loadRef Try.isAgg3 rfl rfl rfl) rfl ?_
  refine PWl.step (LR.neq rfl rfl) rfl ?_
  refine PWl.nil ?_
  refine PWc.cond rfl (fun hc4 => ?_) (fun hc4 => ?_)
  · replace h := iT hc4 h
    refine PWc.seq ?_
    refine PWc.region ?_
    refine PWl.step (LR.assign rfl) rfl ?_
    refine PWl.nil ?_
    refine PWc.ret ?_
    replace h : _ = r0 := h
    subst h
    exact EndsO.mk () (.inr rfl) (Sub.of (tl := [(2, _)]) (to := [(100, _), (1100, _)]) rfl (.cons rfl rfl <| .nil) (.cons rfl rfl <| .cons rfl rfl <| .nil)) (.cons (.tmp rfl) <| .nil) rfl rfl
  · replace h := iF hc4 h
    refine PWc.skip ?_
    refine PWc.seq ?_
    refine PWc.regionD (by kernel_rfl) (by kernel_rfl) ?_
    refine PQl.step (fun _ he ho => LR.move (he rfl rfl)) rfl ?_
    refine PQl.step (fun _ he ho => LR.nilCheckRef (he rfl rfl)) rfl ?_
    refine PQl.step (fun _ he ho => LR.fieldRef Try.underlying85 rfl Try.sizeOf45 (by decide) rfl (he rfl rfl)) rfl ?_
    refine PQl.step (fun _ he ho => LR.loadRef Try.isAgg45 (he rfl rfl) (ho rfl) rfl) rfl ?_
    refine PQl.step (fun _ he ho => LR.lenMap (enc := (eK .u8)) (L := b_1) Try.underlying45 (he rfl rfl)) rfl ?_
    refine PQl.step (fun _ he ho => LR.move (he rfl rfl)) rfl ?_
    refine PQl.step (fun _ he ho => LR.nilCheckRef (he rfl rfl)) rfl ?_
    refine PQl.step (fun _ he ho => LR.fieldRef Try.underlying85 rfl Try.sizeOf3 (by decide) rfl (he rfl rfl)) rfl ?_
    refine PQl.step (fun _ he ho => LR.loadRef Try.isAgg3 (he rfl rfl) (ho rfl) rfl) rfl ?_
    refine PQl.step (fun _ he ho => LR.subW (he rfl rfl) (he rfl rfl)) rfl ?_
    refine PQl.step (fun _ he ho => LR.assign (he rfl rfl)) rfl ?_
    refine PQl.nil ?_
    refine PWc.ret ?_
    replace h : _ = r0 := h
    subst h
    exact EndsO.mk () (.inr rfl) (Sub.of (tl := [(2, _)]) (to := [(100, _), (1100, _)]) rfl (.cons rfl rfl <| .nil) (.cons rfl rfl <| .cons rfl rfl <| .nil)) (.cons (.tmp rfl) <| .nil) rfl rfl

theorem epitaphref04_Reader_End_o_ok (b_1 : List Int) (at_2 : Int) (bad_3 : Int) (r0 : Int × List Int × Int × Int) (h : (epitaphref04_Reader_End_o b_1 at_2 bad_3).wp (· = r0)) : PObj Try.prog 62 [.ref 100 0] [(100, .cells 85 [.d (.sl (List.map (eK .u8) b_1)), .d (.v (.int .i64 at_2)), .d (.v (.int .i64 bad_3))])] [100] (.d (.v (.int .i64 r0.1))) (fun _ : Unit => [(100, .cells 85 [.d (.sl (List.map (eK .u8) r0.2.1)), .d (.v (.int .i64 r0.2.2.1)), .d (.v (.int .i64 r0.2.2.2))])]) := by
  refine PObj.intro (sl := [(0, _)]) Try.func62 rfl Try.ntmps62 rfl rfl rfl ?_
  intro ctx hK pv
  refine PWc.seq ?_
  refine PWc.region ?_
  refine PWl.step (LR.assign rfl) rfl ?_
  refine PWl.nil ?_
  refine PWc.seq ?_
  refine PWc.seq ?_
  refine PWc.region ?_
  refine PWl.step (LR.move rfl) rfl ?_
  replace h := iDet h
  obtain ⟨y4, hy5, h⟩ := h
  refine PWl.step (LR.callObj [(100, 100)] [] [100] (epitaphref04_Reader_Left_o_ok b_1 at_2 bad_3 y4 hy5) hK rfl Try.call112 rfl (by first | rfl | (simp; done) | (simp [PV.nilD, PV.ren, rn]; omega)) (.cons (by first | rfl | (congr 1; first | (simp; done) | (simp; omega))) <| .nil) rfl rfl rfl rfl) rfl ?_
  refine PWl.step (LR.gtr rfl rfl) rfl ?_
  refine PWl.nil ?_
  refine PWc.jn (iBind h) (fun (⟨v6, v7, v8⟩ : List Int × Int × Int) (_ : Unit) => ⟨12, [(0, .ref 100 0)], [(100, .cells 85 [.d (.sl (List.map (eK .u8) v6)), .d (.v (.int .i64 v7)), .d (.v (.int .i64 v8))]), (1100, .pin 100 (pv 100).1 (pv 100).2)]⟩) (fun h => ?_) ?_
  · refine PWc.cond rfl (fun hc9 => ?_) (fun hc9 => ?_)
    · replace h := iT hc9 h
      refine PWc.re (tl := [(0, _)]) (to := [(100, _), (1100, _)]) rfl (.cons rfl rfl <| .nil) (.cons rfl rfl <| .cons rfl rfl <| .nil) ?_
      refine PWc.region ?_
      refine PWl.step (LR.move rfl) rfl ?_
      replace h := iDet h
      obtain ⟨y10, hy11, h⟩ := h
      refine PWl.step (LR.callObj [(100, 100)] [] [100] (epitaphref04_Reader_Fail_o_ok 4 y4.2.1 y4.2.2.1 y4.2.2.2 y10 hy11) hK rfl Try.call109 rfl (by first | rfl | (simp; done) | (simp [PV.nilD, PV.ren, rn]; omega)) (.cons (by first | rfl | (congr 1; first | (simp; done) | (simp; omega))) <| .nil) rfl rfl rfl rfl) rfl ?_
      refine PWl.nil ?_
      exact ⟨(y10.1, y10.2.1, y10.2.2), (), h, Sub.of rfl (.cons rfl rfl <| .nil) (.cons rfl rfl <| .cons rfl rfl <| .nil)⟩
    · replace h := iF hc9 h
      refine PWc.skip ?_
      exact ⟨(y4.2.1, y4.2.2.1, y4.2.2.2), (), h, Sub.of rfl (.cons rfl rfl <| .nil) (.cons rfl rfl <| .cons rfl rfl <| .nil)⟩
  · rintro ⟨v6, v7, v8⟩ _ h
    refine PWc.seq ?_
    refine PWc.region ?_
    refine PWl.step (LR.move rfl) rfl ?_
    refine PWl.step (LR.nilCheckRef rfl) rfl ?_
    refine PWl.step (LR.fieldRef Try.underlying85 rfl Try.sizeOf3 (by decide) rfl rfl) rfl ?_
    refine PWl.step (LR.loadRef Try.isAgg3 rfl rfl rfl) rfl ?_
    refine PWl.step (LR.assign rfl) rfl ?_
    refine PWl.nil ?_
    refine PWc.ret ?_
    replace h : _ = r0 := h
    subst h
    exact EndsO.mk () (.inr rfl) (Sub.of (tl := [(2, _)]) (to := [(100, _), (1100, _)]) rfl (.cons rfl rfl <| .nil) (.cons rfl rfl <| .cons rfl rfl <| .nil)) (.cons (.tmp rfl) <| .nil) rfl rfl
end Go.Proofs

namespace Go.Proofs
open Go.Ep
set_option maxHeartbeats 1000000
set_option maxRecDepth 100000
set_option linter.unusedVariables false
set_option linter.unusedSimpArgs false


theorem r16_Decode_ok (b1 : List Int) (r0 : TEvent × Int) (h : (r16_Decode b1).wp (· = r0)) : PFun Try.prog 64 [.d (.sl (List.map (eK .u8) b1))] (.tup [.agg (List.map .d (TEvent.e r0.1)), .d (.v (.int .i64 r0.2))]) := by
  refine PFun.intro (sl := [(0, _)]) Try.func64 rfl Try.ntmps64 rfl rfl ?_
  intro ctx hK
  refine PWc.seq ?_
  refine PWc.region ?_
  refine PWl.step (LR.allocZ (cs := [_, _, _, _, _, _, _]) Try.zeroValue41 rfl rfl rfl rfl) rfl ?_
  refine PWl.step (LR.assign rfl) rfl ?_
  refine PWl.nil ?_
  refine PWc.seq ?_
  refine PWc.region ?_
  refine PWl.step (LR.move rfl) rfl ?_
  refine PWl.step (LR.build (ns := [_, _, _]) build85 rfl rfl rfl) rfl ?_
  refine PWl.step (LR.box rfl rfl rfl rfl) rfl ?_
  refine PWl.step (LR.assign rfl) rfl ?_
  refine PWl.nil ?_
  refine PWc.seq ?_
  refine PWc.region ?_
  refine PWl.step (LR.move rfl) rfl ?_
  replace h := iDet h
  obtain ⟨y2, hy3, h⟩ := h
  refine PWl.step (LR.callObj [(100, 9)] [] [100] (r16_Get_o_ok b1 0 0 y2 hy3) hK rfl Try.call67 rfl (by first | rfl | (simp; done) | (simp [PV.nilD, PV.ren, rn]; omega)) (.cons (by first | rfl | (congr 1; first | (simp; done) | (simp; omega))) <| .nil) rfl rfl rfl rfl) rfl ?_
  refine PWl.step (LR.allocZ (cs := [_, _, _, _, _, _, _]) Try.zeroValue41 rfl rfl rfl rfl) rfl ?_
  refine PWl.step (LR.storeB (ns := [_, _, _, _, _, _, _]) Try.sizeOf41 rfl rfl rfl rfl rfl rfl rfl) rfl ?_
  refine PWl.nil ?_
  refine PWc.seq ?_
  refine PWc.re (tl := [(2, _), (4, _), (5, _)]) (to := [(2, _), (5, _), (9, _)]) rfl (.cons rfl rfl <| .cons rfl rfl <| .cons rfl rfl <| .nil) (.cons rfl rfl <| .cons rfl rfl <| .cons rfl rfl <| .nil) ?_
  refine PWc.region ?_
  refine PWl.step (LR.move rfl) rfl ?_
  replace h := iDet h
  obtain ⟨y4, hy5, h⟩ := h
  refine PWl.step (LR.callObj [(100, 9)] [] [100] (epitaphref04_Reader_End_o_ok y2.2.1 y2.2.2.1 y2.2.2.2 y4 hy5) hK rfl Try.call62 rfl (by first | rfl | (simp; done) | (simp [PV.nilD, PV.ren, rn]; omega)) (.cons (by first | rfl | (congr 1; first | (simp; done) | (simp; omega))) <| .nil) rfl rfl rfl rfl) rfl ?_
  refine PWl.step (LR.assign rfl) rfl ?_
  refine PWl.nil ?_
  refine PWc.seq ?_
  refine PWc.seq ?_
  refine PWc.re (tl := [(2, _), (5, _), (6, _)]) (to := [(2, _), (5, _)]) rfl (.cons rfl rfl <| .cons rfl rfl <| .cons rfl rfl <| .nil) (.cons rfl rfl <| .cons rfl rfl <| .nil) ?_
  refine PWc.region ?_
  refine PWl.step (LR.move rfl) rfl ?_
  refine PWl.step (LR.neq rfl rfl) rfl ?_
  refine PWl.nil ?_
  refine PWc.cond rfl (fun hc6 => ?_) (fun hc6 => ?_)
  · replace h := iT hc6 h
    refine PWc.seq ?_
    refine PWc.region ?_
    refine PWl.step (LR.build (ns := [_, _, _, _, _, _, _]) build41 rfl rfl rfl) rfl ?_
    refine PWl.step (LR.move rfl) rfl ?_
    refine PWl.step (LR.storeB (ns := [_, _, _, _, _, _, _]) Try.sizeOf41 rfl rfl rfl rfl rfl rfl rfl) rfl ?_
    refine PWl.step (LR.assign rfl) rfl ?_
    refine PWl.nil ?_
    refine PWc.ret ?_
    replace h : _ = r0 := h
    subst h
    exact ⟨.inr rfl, _, .cons (.agg Try.isAgg41 Try.sizeOf41 rfl rfl rfl rfl) <| .cons (.tmp rfl rfl) <| .nil, rfl⟩
  · replace h := iF hc6 h
    refine PWc.skip ?_
    refine PWc.seq ?_
    refine PWc.region ?_
    refine PWl.step (LR.loadRefAgg (ps := [_, _, _, _, _, _, _]) Try.isAgg41 Try.sizeOf41 rfl rfl rfl rfl) rfl ?_
    refine PWl.step (LR.storeB (ns := [_, _, _, _, _, _, _]) Try.sizeOf41 rfl rfl rfl rfl rfl rfl rfl) rfl ?_
    refine PWl.step (LR.assign rfl) rfl ?_
    refine PWl.nil ?_
    refine PWc.ret ?_
    replace h : _ = r0 := h
    subst h
    exact ⟨.inr rfl, _, .cons (.agg Try.isAgg41 Try.sizeOf41 rfl rfl rfl rfl) <| .cons (.tmp rfl rfl) <| .nil, rfl⟩

theorem ecode_GetAll_o_ok (most1 : Int) (b_2 : List Int) (bad_3 : Int) (r0 : List TEvent × List Int × Int) (h : (ecode_GetAll_o most1 b_2 bad_3).wp (· = r0)) : PObj Try.prog 59 [.ref 100 0, .d (.v (.int .i64 most1))] [(100, .cells 133 [.d (.sl (List.map (eK .u8) b_2)), .d (.v (.int .i64 bad_3))])] [100] (.d (.sl (List.map TEvent.e r0.1))) (fun _ : Unit => [(100, .cells 133 [.d (.sl (List.map (eK .u8) r0.2.1)), .d (.v (.int .i64 r0.2.2))])]) := by
  refine PObj.intro (sl := [(0, _), (1, _)]) Try.func59 rfl Try.ntmps59 rfl rfl rfl ?_
  intro ctx hK pv
  refine PWc.seq ?_
  refine PWc.region ?_
  refine PWl.step (LR.assignNilRow 41 7 rfl) rfl ?_
  refine PWl.nil ?_
  refine PWc.seq ?_
  refine PWc.region ?_
  refine PWl.step (LR.move rfl) rfl ?_
  replace h := iDet h
  obtain ⟨y4, hy5, h⟩ := h
  refine PWl.step (LR.callObj [(100, 100)] [] [100] (pack_Reader_Num_o_ok b_2 bad_3 y4 hy5) hK rfl Try.call105 rfl (by first | rfl | (simp; done) | (simp [PV.nilD, PV.ren, rn]; omega)) (.cons (by first | rfl | (congr 1; first | (simp; done) | (simp; omega))) <| .nil) rfl rfl rfl rfl) rfl ?_
  refine PWl.step (LR.assign rfl) rfl ?_
  refine PWl.nil ?_
  refine PWc.seq ?_
  refine PWc.seq ?_
  refine PWc.re (tl := [(0, _), (1, _), (5, _)]) (to := [(100, _), (1100, _)]) rfl (.cons rfl rfl <| .cons rfl rfl <| .cons rfl rfl <| .nil) (.cons rfl rfl <| .cons rfl rfl <| .nil) ?_
  refine PWc.region ?_
  refine PWl.step (LR.move rfl) rfl ?_
  refine PWl.step (LR.move rfl) rfl ?_
  refine PWl.step (LR.maxI rfl rfl) rfl ?_
  refine PWl.step (LR.convInt Try.underlying36 (by rw [Try.underlying3]; rfl) rfl rfl) rfl ?_
  refine PWl.step (LR.gtr rfl rfl) rfl ?_
  refine PWl.nil ?_
  refine PWc.cond rfl (fun hc6 => ?_) (fun hc6 => ?_)
  · replace h := iT hc6 h
    refine PWc.seq ?_
    refine PWc.region ?_
    refine PWl.step (LR.move rfl) rfl ?_
    replace h := iDet h
    obtain ⟨y7, hy8, h⟩ := h
    refine PWl.step (LR.callObj [(100, 100)] [] [100] (pack_Reader_Fail_o_ok 3 y4.2.1 y4.2.2 y7 hy8) hK rfl Try.call106 rfl (by first | rfl | (simp; done) | (simp [PV.nilD, PV.ren, rn]; omega)) (.cons (by first | rfl | (congr 1; first | (simp; done) | (simp; omega))) <| .nil) rfl rfl rfl rfl) rfl ?_
    refine PWl.nil ?_
    refine PWc.seq ?_
    refine PWc.re (tl := []) (to := [(100, _), (1100, _)]) rfl (.nil) (.cons rfl rfl <| .cons rfl rfl <| .nil) ?_
    refine PWc.region ?_
    refine PWl.step (LR.assignNilRow 41 7 rfl) rfl ?_
    refine PWl.nil ?_
    refine PWc.ret ?_
    replace h : _ = r0 := h
    subst h
    exact EndsO.mk () (.inr rfl) (Sub.trans (Sub.frz [4] hK rfl (by first | (simp; done) | (simp; omega) | omega) (AllRow.get (.cons rfl <| .nil))) <| Sub.of (tl := [(4, _)]) (to := [(100, _), (1100, _)]) rfl (.cons rfl rfl <| .nil) (.cons rfl rfl <| .cons rfl rfl <| .nil)) (.cons (.tmp rfl) <| .nil) rfl rfl
  · replace h := iF hc6 h
    refine PWc.skip ?_
    refine PWc.seq ?_
    refine PWc.region ?_
    refine PWl.step (LR.assignNilRow 41 7 rfl) rfl ?_
    refine PWl.nil ?_
    refine PWc.seq ?_
    refine PWc.seq ?_
    refine PWc.region ?_
    refine PWl.step (LR.move rfl) rfl ?_
    refine PWl.step (LR.move rfl) rfl ?_
    refine PWl.nil ?_
    refine PWc.jnX (iBind h) (fun (⟨out9, v10, v11⟩ : List TEvent × List Int × Int) (_ : Unit) => ⟨50, [(6, .row 6 (List.length out9))], [(6, .row 41 7 (List.map TEvent.e out9)), (100, .cells 133 [.d (.sl (List.map (eK .u8) v10)), .d (.v (.int .i64 v11))]), (1100, .pin 100 (pv 100).1 (pv 100).2)]⟩) (fun h => ?_) ?_
    · refine PWc.block ?_
      refine PWc.loopM (fun (⟨v52, out53, v54, v55⟩ : Int × List TEvent × List Int × Int) (_ : Unit) => ⟨50, [(0, .ref 100 0), (6, .row 6 (List.length out53)), (18, .d (.v (.int .u64 y4.1))), (19, .d (.v (.int .u64 v52)))], [(6, .row 41 7 (List.map TEvent.e out53)), (100, .cells 133 [.d (.sl (List.map (eK .u8) v54)), .d (.v (.int .i64 v55))]), (1100, .pin 100 (pv 100).1 (pv 100).2)]⟩) () h (Sub.of rfl (.cons rfl rfl <| .cons rfl rfl <| .cons rfl rfl <| .cons rfl rfl <| .nil) (.cons rfl rfl <| .cons rfl rfl <| .cons rfl rfl <| .nil)) ?_
      rintro N ⟨v52, out53, v54, v55⟩ _ h
      refine PWc.seq ?_
      refine PWc.region ?_
      refine PWl.step (LR.lss rfl rfl) rfl ?_
      refine PWl.nil ?_
      refine PWc.seq ?_
      refine PWc.cond rfl (fun hc56 => ?_) (fun hc56 => ?_)
      · replace h := iT hc56 h
        refine PWc.skip ?_
        refine PWc.seq ?_
        refine PWc.block ?_
        refine PWc.seq ?_
        refine PWc.region ?_
        refine PWl.step (LR.move rfl) rfl ?_
        replace h := iDet h
        obtain ⟨y57, hy58, h⟩ := h
        refine PWl.step (LR.callObj [(100, 100)] [] [100] (ecode_Get_o_ok v54 v55 y57 hy58) hK rfl Try.call66 rfl (by first | rfl | (simp; done) | (simp [PV.nilD, PV.ren, rn]; omega)) (.cons (by first | rfl | (congr 1; first | (simp; done) | (simp; omega))) <| .nil) rfl rfl rfl rfl) rfl ?_
        refine PWl.step (LR.allocZ (cs := [_, _, _, _, _, _, _]) Try.zeroValue41 rfl rfl rfl rfl) rfl ?_
        refine PWl.step (LR.storeB (ns := [_, _, _, _, _, _, _]) Try.sizeOf41 rfl rfl rfl rfl rfl rfl rfl) rfl ?_
        refine PWl.nil ?_
        refine PWc.seq ?_
        refine PWc.seq ?_
        refine PWc.re (tl := [(0, _), (6, _), (7, _), (18, _), (19, _)]) (to := [(6, _), (7, _), (100, _), (1100, _)]) rfl (.cons rfl rfl <| .cons rfl rfl <| .cons rfl rfl <| .cons rfl rfl <| .cons rfl rfl <| .nil) (.cons rfl rfl <| .cons rfl rfl <| .cons rfl rfl <| .cons rfl rfl <| .nil) ?_
        refine PWc.region ?_
        refine PWl.step (LR.move rfl) rfl ?_
        refine PWl.step (LR.lenRow Try.underlying22 rfl) rfl ?_
        refine PWl.step (LR.subW rfl rfl) rfl ?_
        refine PWl.step (LR.assign rfl) rfl ?_
        refine PWl.nil ?_
        refine PWc.seq ?_
        refine PWc.jn (iBind h) (fun (v59 : Bool) (_ : Unit) => ⟨50, [(0, .ref 100 0), (6, .row 6 (List.length out53)), (7, .ref 7 0), (18, .d (.v (.int .u64 y4.1))), (19, .d (.v (.int .u64 v52))), (38, .d (.v (.bool v59)))], [(6, .row 41 7 (List.map TEvent.e out53)), (7, .cells 41 [.d (.v (.int .u16 y57.1.dot.dev)), .d (.v (.int .u64 y57.1.dot.n)), .d (.v (.int .u8 y57.1.kind)), .d (.v (.int .u64 y57.1.cid)), .d (.v (.int .u8 y57.1.field)), .d (.v (.string y57.1.text)), .d (.sl (List.map TDot.e y57.1.kills))]), (100, .cells 133 [.d (.sl (List.map (eK .u8) y57.2.1)), .d (.v (.int .i64 y57.2.2))]), (1100, .pin 100 (pv 100).1 (pv 100).2)]⟩) (fun h => ?_) ?_
        · refine PWc.regionD (by kernel_rfl) (by kernel_rfl) ?_
          refine PQl.step (fun _ he ho => LR.move (he rfl rfl)) rfl ?_
          refine PQl.step (fun _ he ho => LR.geq (he rfl rfl) (he rfl rfl)) rfl ?_
          refine PQl.step (fun _ he ho => LR.move (he rfl rfl)) rfl ?_
          refine PQl.split (d := 28) rfl (fun hg60 => ?_) (fun hg60 => ?_)
          · replace h := iT hg60 h
            refine PQl.guardT (fun _ he ho => LR.move (he rfl rfl)) rfl rfl rfl ?_
            refine PQl.guardT (fun _ he ho => LR.move (he rfl rfl)) rfl rfl rfl ?_
            replace h := iIdx h
            obtain ⟨x61, hy62, h⟩ := h
            refine PQl.guardT (fun _ he ho => LR.idxRowT (L := out53) (y := x61) Try.underlying22 Try.sizeOf41 (he rfl rfl) rfl (he rfl rfl) hy62) rfl rfl rfl ?_
            refine PQl.guardT (fun _ he ho => LR.fieldRp Try.underlying41 rfl Try.sizeOf38 (by decide) rfl (he rfl rfl)) rfl rfl rfl ?_
            refine PQl.guardT (fun _ he ho => LR.loadRpPartT (enc := TEvent.e) (L := out53) (y := x61) Try.isAgg38 Try.sizeOf38 (he rfl rfl) (ho rfl) hy62.2 rfl rfl) rfl rfl rfl ?_
            refine PQl.guardT (fun _ he ho => LR.fieldRef Try.underlying41 rfl Try.sizeOf38 (by decide) rfl (he rfl rfl)) rfl rfl rfl ?_
            refine PQl.guardT (fun _ he ho => LR.loadRefAgg (ps := [_, _]) Try.isAgg38 Try.sizeOf38 (he rfl rfl) (ho rfl) rfl rfl) rfl rfl rfl ?_
            replace h := iDet h
            obtain ⟨v63, hy64, h⟩ := h
            refine PQl.guardT (fun _ he ho => LR.callN (dot_Cmp_ok x61.dot y57.1.dot v63 hy64) (he rfl rfl) Try.call107 (evsE he rfl rfl) rfl rfl rfl) rfl rfl rfl ?_
            refine PQl.guardT (fun _ he ho => LR.geq (he rfl rfl) (he rfl rfl)) rfl rfl rfl ?_
            refine PQl.step (fun _ he ho => LR.pickT (he rfl rfl) (he rfl rfl)) rfl ?_
            refine PQl.nil ?_
            exact ⟨(decide (0 ≤ v63)), (), h, Sub.of rfl (.cons rfl rfl <| .cons rfl rfl <| .cons rfl rfl <| .cons rfl rfl <| .cons rfl rfl <| .cons rfl rfl <| .nil) (.cons rfl rfl <| .cons rfl rfl <| .cons rfl rfl <| .cons rfl rfl <| .nil)⟩
          · replace h := iF hg60 h
            refine PQl.guardF rfl rfl rfl (by decide) ?_
            refine PQl.guardF rfl rfl rfl (by decide) ?_
            refine PQl.guardF rfl rfl rfl (by decide) ?_
            refine PQl.guardF rfl rfl rfl (by decide) ?_
            refine PQl.guardF rfl rfl rfl (by decide) ?_
            refine PQl.guardF rfl rfl rfl (by decide) ?_
            refine PQl.guardF rfl rfl rfl (by decide) ?_
            refine PQl.guardF rfl rfl rfl (by decide) ?_
            refine PQl.guardF rfl rfl rfl (by decide) ?_
            refine PQl.step (fun _ he ho => LR.pickF (he rfl rfl) (he rfl rfl)) rfl ?_
            refine PQl.nil ?_
            exact ⟨false, (), h, Sub.of rfl (.cons rfl rfl <| .cons rfl rfl <| .cons rfl rfl <| .cons rfl rfl <| .cons rfl rfl <| .cons rfl rfl <| .nil) (.cons rfl rfl <| .cons rfl rfl <| .cons rfl rfl <| .cons rfl rfl <| .nil)⟩
        · rintro v59 _ h
          refine PWc.jn (iBind h) (fun (⟨v65, v66⟩ : List Int × Int) (_ : Unit) => ⟨50, [(0, .ref 100 0), (6, .row 6 (List.length out53)), (7, .ref 7 0), (18, .d (.v (.int .u64 y4.1))), (19, .d (.v (.int .u64 v52)))], [(6, .row 41 7 (List.map TEvent.e out53)), (7, .cells 41 [.d (.v (.int .u16 y57.1.dot.dev)), .d (.v (.int .u64 y57.1.dot.n)), .d (.v (.int .u8 y57.1.kind)), .d (.v (.int .u64 y57.1.cid)), .d (.v (.int .u8 y57.1.field)), .d (.v (.string y57.1.text)), .d (.sl (List.map TDot.e y57.1.kills))]), (100, .cells 133 [.d (.sl (List.map (eK .u8) v65)), .d (.v (.int .i64 v66))]), (1100, .pin 100 (pv 100).1 (pv 100).2)]⟩) (fun h => ?_) ?_
          · refine PWc.cond rfl (fun hc67 => ?_) (fun hc67 => ?_)
            · replace h := iT hc67 h
              refine PWc.region ?_
              refine PWl.step (LR.move rfl) rfl ?_
              replace h := iDet h
              obtain ⟨y68, hy69, h⟩ := h
              refine PWl.step (LR.callObj [(100, 100)] [] [100] (pack_Reader_Fail_o_ok 4 y57.2.1 y57.2.2 y68 hy69) hK rfl Try.call106 rfl (by first | rfl | (simp; done) | (simp [PV.nilD, PV.ren, rn]; omega)) (.cons (by first | rfl | (congr 1; first | (simp; done) | (simp; omega))) <| .nil) rfl rfl rfl rfl) rfl ?_
              refine PWl.nil ?_
              exact ⟨(y68.1, y68.2), (), h, Sub.of rfl (.cons rfl rfl <| .cons rfl rfl <| .cons rfl rfl <| .cons rfl rfl <| .cons rfl rfl <| .nil) (.cons rfl rfl <| .cons rfl rfl <| .cons rfl rfl <| .cons rfl rfl <| .nil)⟩
            · replace h := iF hc67 h
              refine PWc.skip ?_
              exact ⟨(y57.2.1, y57.2.2), (), h, Sub.of rfl (.cons rfl rfl <| .cons rfl rfl <| .cons rfl rfl <| .cons rfl rfl <| .cons rfl rfl <| .nil) (.cons rfl rfl <| .cons rfl rfl <| .cons rfl rfl <| .cons rfl rfl <| .nil)⟩
          · rintro ⟨v65, v66⟩ _ h
            refine PWc.seq ?_
            refine PWc.seq ?_
            refine PWc.region ?_
            refine PWl.step (LR.move rfl) rfl ?_
            replace h := iDet h
            obtain ⟨y70, hy71, h⟩ := h
            refine PWl.step (LR.callObj [(100, 100)] [] [100] (pack_Reader_Err_o_ok v65 v66 y70 hy71) hK rfl Try.call68 rfl (by first | rfl | (simp; done) | (simp [PV.nilD, PV.ren, rn]; omega)) (.cons (by first | rfl | (congr 1; first | (simp; done) | (simp; omega))) <| .nil) rfl rfl rfl rfl) rfl ?_
            refine PWl.step (LR.neq rfl rfl) rfl ?_
            refine PWl.nil ?_
            refine PWc.cond rfl (fun hc72 => ?_) (fun hc72 => ?_)
            · replace h := iT hc72 h
              refine PWc.seq ?_
              refine PWc.re (tl := []) (to := [(100, _), (1100, _)]) rfl (.nil) (.cons rfl rfl <| .cons rfl rfl <| .nil) ?_
              refine PWc.region ?_
              refine PWl.step (LR.assignNilRow 41 7 rfl) rfl ?_
              refine PWl.nil ?_
              refine PWc.ret ?_
              replace h : _ = r0 := h
              subst h
              exact EndsO.mk () (.inr rfl) (Sub.trans (Sub.frz [4] hK rfl (by first | (simp; done) | (simp; omega) | omega) (AllRow.get (.cons rfl <| .nil))) <| Sub.of (tl := [(4, _)]) (to := [(100, _), (1100, _)]) rfl (.cons rfl rfl <| .nil) (.cons rfl rfl <| .cons rfl rfl <| .nil)) (.cons (.tmp rfl) <| .nil) rfl rfl
            · replace h := iF hc72 h
              refine PWc.skip ?_
              refine PWc.re (tl := [(0, _), (6, _), (7, _), (18, _), (19, _)]) (to := [(6, _), (7, _), (100, _), (1100, _)]) rfl (.cons rfl rfl <| .cons rfl rfl <| .cons rfl rfl <| .cons rfl rfl <| .cons rfl rfl <| .nil) (.cons rfl rfl <| .cons rfl rfl <| .cons rfl rfl <| .cons rfl rfl <| .nil) ?_
              refine PWc.region ?_
              refine PWl.step (LR.move rfl) rfl ?_
              refine PWl.step (LR.loadRefAgg (ps := [_, _, _, _, _, _, _]) Try.isAgg41 Try.sizeOf41 rfl rfl rfl rfl) rfl ?_
              refine PWl.step (LR.buildSliceD [.tmp 45] elem22 rfl rfl (.cons rfl rfl rfl <| .nil) (by decide) (by decide)) rfl ?_
              replace h := iNeed h
              obtain ⟨hy73, h⟩ := h
              refine PWl.step (LR.appT (enc := TEvent.e) (L := out53) (R := [y57.1]) [6, 44] elem22 Try.underlying22 rfl rfl rfl (Src.slT (enc := TEvent.e) (R := [y57.1]) rfl (fun _ => rfl)) (fun _ => rfl) hy73 rfl rfl) rfl ?_
              refine PWl.step (LR.assign rfl) rfl ?_
              refine PWl.nil ?_
              refine PWc.region ?_
              refine PWl.step (LR.addW rfl rfl) rfl ?_
              refine PWl.step (LR.move rfl) rfl ?_
              refine PWl.nil ?_
              exact ⟨((IntKind.u64.wrap (v52 + 1)), (out53 ++ [y57.1]), y70.2.1, y70.2.2), (), h, Sub.of rfl (.cons rfl rfl <| .cons rfl rfl <| .cons rfl rfl <| .cons rfl rfl <| .nil) (.cons rfl rfl <| .cons rfl rfl <| .cons rfl rfl <| .nil)⟩
      · replace h := iF hc56 h
        refine PWc.exit ?_
        exact ⟨(out53, v54, v55), (), h, Sub.of rfl (.cons rfl rfl <| .nil) (.cons rfl rfl <| .cons rfl rfl <| .cons rfl rfl <| .nil)⟩
    · rintro ⟨out9, v10, v11⟩ _ h
      refine PWc.seq ?_
      refine PWc.region ?_
      refine PWl.step (LR.move rfl) rfl ?_
      refine PWl.step (LR.assign rfl) rfl ?_
      refine PWl.nil ?_
      refine PWc.ret ?_
      replace h : _ = r0 := h
      subst h
      exact EndsO.mk () (.inr rfl) (Sub.trans (Sub.frz [4, 6, 49] hK rfl (by simp) (AllRow.get (.cons rfl <| .cons rfl <| .cons rfl <| .nil))) <| Sub.of (tl := [(4, _)]) (to := [(100, _), (1100, _)]) rfl (.cons rfl rfl <| .nil) (.cons rfl rfl <| .cons rfl rfl <| .nil)) (.cons (.tmp rfl) <| .nil) rfl rfl

theorem r16_GetAll_o_ok (most1 : Int) (b_2 : List Int) (at_3 : Int) (bad_4 : Int) (r0 : List TEvent × List Int × Int × Int) (h : (r16_GetAll_o most1 b_2 at_3 bad_4).wp (· = r0)) : PObj Try.prog 60 [.ref 100 0, .d (.v (.int .i64 most1))] [(100, .cells 85 [.d (.sl (List.map (eK .u8) b_2)), .d (.v (.int .i64 at_3)), .d (.v (.int .i64 bad_4))])] [100] (.d (.sl (List.map TEvent.e r0.1))) (fun _ : Unit => [(100, .cells 85 [.d (.sl (List.map (eK .u8) r0.2.1)), .d (.v (.int .i64 r0.2.2.1)), .d (.v (.int .i64 r0.2.2.2))])]) := by
  refine PObj.intro (sl := [(0, _), (1, _)]) Try.func60 rfl Try.ntmps60 rfl rfl rfl ?_
  intro ctx hK pv
  refine PWc.seq ?_
  refine PWc.region ?_
  refine PWl.step (LR.assignNilRow 41 7 rfl) rfl ?_
  refine PWl.nil ?_
  refine PWc.seq ?_
  refine PWc.seq ?_
  refine PWc.region ?_
  refine PWl.step (LR.move rfl) rfl ?_
  refine PWl.step (LR.lss rfl rfl) rfl ?_
  refine PWl.nil ?_
  refine PWc.jn (iBind h) (fun (most5 : Int) (_ : Unit) => ⟨69, [(0, .ref 100 0), (1, .d (.v (.int .i64 most5)))], [(100, .cells 85 [.d (.sl (List.map (eK .u8) b_2)), .d (.v (.int .i64 at_3)), .d (.v (.int .i64 bad_4))]), (1100, .pin 100 (pv 100).1 (pv 100).2)]⟩) (fun h => ?_) ?_
  · refine PWc.cond rfl (fun hc6 => ?_) (fun hc6 => ?_)
    · replace h := iT hc6 h
      refine PWc.region ?_
      refine PWl.step (LR.assign rfl) rfl ?_
      refine PWl.nil ?_
      exact ⟨0, (), h, Sub.of rfl (.cons rfl rfl <| .cons rfl rfl <| .nil) (.cons rfl rfl <| .cons rfl rfl <| .nil)⟩
    · replace h := iF hc6 h
      refine PWc.skip ?_
      exact ⟨most1, (), h, Sub.of rfl (.cons rfl rfl <| .cons rfl rfl <| .nil) (.cons rfl rfl <| .cons rfl rfl <| .nil)⟩
  · rintro most5 _ h
    refine PWc.seq ?_
    refine PWc.region ?_
    refine PWl.step (LR.move rfl) rfl ?_
    replace h := iDet h
    obtain ⟨y7, hy8, h⟩ := h
    refine PWl.step (LR.callObj [(100, 100)] [] [100] (epitaphref04_Reader_Num_o_ok b_2 at_3 bad_4 y7 hy8) hK rfl Try.call108 rfl (by first | rfl | (simp; done) | (simp [PV.nilD, PV.ren, rn]; omega)) (.cons (by first | rfl | (congr 1; first | (simp; done) | (simp; omega))) <| .nil) rfl rfl rfl rfl) rfl ?_
    refine PWl.step (LR.assign rfl) rfl ?_
    refine PWl.nil ?_
    refine PWc.seq ?_
    refine PWc.seq ?_
    refine PWc.re (tl := [(0, _), (1, _), (5, _)]) (to := [(100, _), (1100, _)]) rfl (.cons rfl rfl <| .cons rfl rfl <| .cons rfl rfl <| .nil) (.cons rfl rfl <| .cons rfl rfl <| .nil) ?_
    refine PWc.region ?_
    refine PWl.step (LR.move rfl) rfl ?_
    refine PWl.step (LR.move rfl) rfl ?_
    refine PWl.step (LR.convInt Try.underlying36 (by rw [Try.underlying3]; rfl) rfl rfl) rfl ?_
    refine PWl.step (LR.gtr rfl rfl) rfl ?_
    refine PWl.nil ?_
    refine PWc.jn (iBind h) (fun (⟨v9, v10, v11⟩ : List Int × Int × Int) (_ : Unit) => ⟨69, [(0, .ref 100 0), (5, .d (.v (.int .u64 y7.1)))], [(100, .cells 85 [.d (.sl (List.map (eK .u8) v9)), .d (.v (.int .i64 v10)), .d (.v (.int .i64 v11))]), (1100, .pin 100 (pv 100).1 (pv 100).2)]⟩) (fun h => ?_) ?_
    · refine PWc.cond rfl (fun hc12 => ?_) (fun hc12 => ?_)
      · replace h := iT hc12 h
        refine PWc.region ?_
        refine PWl.step (LR.move rfl) rfl ?_
        replace h := iDet h
        obtain ⟨y13, hy14, h⟩ := h
        refine PWl.step (LR.callObj [(100, 100)] [] [100] (epitaphref04_Reader_Fail_o_ok 3 y7.2.1 y7.2.2.1 y7.2.2.2 y13 hy14) hK rfl Try.call109 rfl (by first | rfl | (simp; done) | (simp [PV.nilD, PV.ren, rn]; omega)) (.cons (by first | rfl | (congr 1; first | (simp; done) | (simp; omega))) <| .nil) rfl rfl rfl rfl) rfl ?_
        refine PWl.nil ?_
        exact ⟨(y13.1, y13.2.1, y13.2.2), (), h, Sub.of rfl (.cons rfl rfl <| .cons rfl rfl <| .nil) (.cons rfl rfl <| .cons rfl rfl <| .nil)⟩
      · replace h := iF hc12 h
        refine PWc.skip ?_
        exact ⟨(y7.2.1, y7.2.2.1, y7.2.2.2), (), h, Sub.of rfl (.cons rfl rfl <| .cons rfl rfl <| .nil) (.cons rfl rfl <| .cons rfl rfl <| .nil)⟩
    · rintro ⟨v9, v10, v11⟩ _ h
      refine PWc.seq ?_
      refine PWc.region ?_
      refine PWl.step (LR.assignNilRow 41 7 rfl) rfl ?_
      refine PWl.nil ?_
      refine PWc.seq ?_
      refine PWc.seq ?_
      refine PWc.region ?_
      refine PWl.step (LR.assign rfl) rfl ?_
      refine PWl.nil ?_
      refine PWc.jn (iBind h) (fun (⟨out15, v16, v17, v18⟩ : List TEvent × List Int × Int × Int) (_ : Unit) => ⟨69, [(0, .ref 100 0), (6, .row 6 (List.length out15))], [(6, .row 41 7 (List.map TEvent.e out15)), (100, .cells 85 [.d (.sl (List.map (eK .u8) v16)), .d (.v (.int .i64 v17)), .d (.v (.int .i64 v18))]), (1100, .pin 100 (pv 100).1 (pv 100).2)]⟩) (fun h => ?_) ?_
      · refine PWc.block ?_
        refine PWc.loopM (fun (⟨i62, out63, v64, v65, v66⟩ : Int × List TEvent × List Int × Int × Int) (_ : Unit) => ⟨69, [(0, .ref 100 0), (5, .d (.v (.int .u64 y7.1))), (6, .row 6 (List.length out63)), (7, .d (.v (.int .u64 i62)))], [(6, .row 41 7 (List.map TEvent.e out63)), (100, .cells 85 [.d (.sl (List.map (eK .u8) v64)), .d (.v (.int .i64 v65)), .d (.v (.int .i64 v66))]), (1100, .pin 100 (pv 100).1 (pv 100).2)]⟩) () h (Sub.of rfl (.cons rfl rfl <| .cons rfl rfl <| .cons rfl rfl <| .cons rfl rfl <| .nil) (.cons rfl rfl <| .cons rfl rfl <| .cons rfl rfl <| .nil)) ?_
        rintro N ⟨i62, out63, v64, v65, v66⟩ _ h
        refine PWc.seq ?_
        refine PWc.seq ?_
        refine PWc.jn (iBind h) (fun (v67 : Bool) (_ : Unit) => ⟨69, [(0, .ref 100 0), (5, .d (.v (.int .u64 y7.1))), (6, .row 6 (List.length out63)), (7, .d (.v (.int .u64 i62))), (29, .d (.v (.bool v67)))], [(6, .row 41 7 (List.map TEvent.e out63)), (100, .cells 85 [.d (.sl (List.map (eK .u8) v64)), .d (.v (.int .i64 v65)), .d (.v (.int .i64 v66))]), (1100, .pin 100 (pv 100).1 (pv 100).2)]⟩) (fun h => ?_) ?_
        · refine PWc.region ?_
          refine PWl.step (LR.move rfl) rfl ?_
          refine PWl.step (LR.move rfl) rfl ?_
          refine PWl.step (LR.lss rfl rfl) rfl ?_
          refine PWl.step (LR.move rfl) rfl ?_
          refine PWl.split (d := 23) rfl (fun hg68 => ?_) (fun hg68 => ?_)
          · replace h := iT hg68 h
            refine PWl.guardT (LR.move rfl) rfl rfl rfl ?_
            refine PWl.guardT (LR.nilCheckRef rfl) rfl rfl rfl ?_
            refine PWl.guardT (LR.fieldRef Try.underlying85 rfl Try.sizeOf3 (by decide) rfl rfl) rfl rfl rfl ?_
            refine PWl.guardT (LR.loadRef Try.isAgg3 rfl rfl rfl) rfl rfl rfl ?_
            refine PWl.guardT (LR.eql rfl rfl) rfl rfl rfl ?_
            refine PWl.step (LR.pickT rfl rfl) rfl ?_
            refine PWl.nil ?_
            exact ⟨(decide (v66 = 0)), (), h, Sub.of rfl (.cons rfl rfl <| .cons rfl rfl <| .cons rfl rfl <| .cons rfl rfl <| .cons rfl rfl <| .nil) (.cons rfl rfl <| .cons rfl rfl <| .cons rfl rfl <| .nil)⟩
          · replace h := iF hg68 h
            refine PWl.guardF rfl rfl rfl (by decide) ?_
            refine PWl.guardF rfl rfl rfl (by decide) ?_
            refine PWl.guardF rfl rfl rfl (by decide) ?_
            refine PWl.guardF rfl rfl rfl (by decide) ?_
            refine PWl.guardF rfl rfl rfl (by decide) ?_
            refine PWl.step (LR.pickF rfl rfl) rfl ?_
            refine PWl.nil ?_
            exact ⟨false, (), h, Sub.of rfl (.cons rfl rfl <| .cons rfl rfl <| .cons rfl rfl <| .cons rfl rfl <| .cons rfl rfl <| .nil) (.cons rfl rfl <| .cons rfl rfl <| .cons rfl rfl <| .nil)⟩
        · rintro v67 _ h
          refine PWc.cond rfl (fun hc69 => ?_) (fun hc69 => ?_)
          · replace h := iT hc69 h
            refine PWc.skip ?_
            refine PWc.seq ?_
            refine PWc.block ?_
            refine PWc.seq ?_
            refine PWc.region ?_
            refine PWl.step (LR.move rfl) rfl ?_
            replace h := iDet h
            obtain ⟨y70, hy71, h⟩ := h
            refine PWl.step (LR.callObj [(100, 100)] [] [100] (r16_Get_o_ok v64 v65 v66 y70 hy71) hK rfl Try.call67 rfl (by first | rfl | (simp; done) | (simp [PV.nilD, PV.ren, rn]; omega)) (.cons (by first | rfl | (congr 1; first | (simp; done) | (simp; omega))) <| .nil) rfl rfl rfl rfl) rfl ?_
            refine PWl.step (LR.allocZ (cs := [_, _, _, _, _, _, _]) Try.zeroValue41 rfl rfl rfl rfl) rfl ?_
            refine PWl.step (LR.storeB (ns := [_, _, _, _, _, _, _]) Try.sizeOf41 rfl rfl rfl rfl rfl rfl rfl) rfl ?_
            refine PWl.nil ?_
            refine PWc.seq ?_
            refine PWc.re (tl := [(0, _), (5, _), (6, _), (7, _), (8, _)]) (to := [(6, _), (8, _), (100, _), (1100, _)]) rfl (.cons rfl rfl <| .cons rfl rfl <| .cons rfl rfl <| .cons rfl rfl <| .cons rfl rfl <| .nil) (.cons rfl rfl <| .cons rfl rfl <| .cons rfl rfl <| .cons rfl rfl <| .nil) ?_
            refine PWc.region ?_
            refine PWl.step (LR.move rfl) rfl ?_
            refine PWl.step (LR.lenRow Try.underlying22 rfl) rfl ?_
            refine PWl.step (LR.subW rfl rfl) rfl ?_
            refine PWl.step (LR.assign rfl) rfl ?_
            refine PWl.nil ?_
            refine PWc.seq ?_
            refine PWc.seq ?_
            refine PWc.jn (iBind h) (fun (v72 : Bool) (_ : Unit) => ⟨69, [(0, .ref 100 0), (5, .d (.v (.int .u64 y7.1))), (6, .row 6 (List.length out63)), (7, .d (.v (.int .u64 i62))), (8, .ref 8 0), (56, .d (.v (.bool v72)))], [(6, .row 41 7 (List.map TEvent.e out63)), (8, .cells 41 [.d (.v (.int .u16 y70.1.dot.dev)), .d (.v (.int .u64 y70.1.dot.n)), .d (.v (.int .u8 y70.1.kind)), .d (.v (.int .u64 y70.1.cid)), .d (.v (.int .u8 y70.1.field)), .d (.v (.string y70.1.text)), .d (.sl (List.map TDot.e y70.1.kills))]), (100, .cells 85 [.d (.sl (List.map (eK .u8) y70.2.1)), .d (.v (.int .i64 y70.2.2.1)), .d (.v (.int .i64 y70.2.2.2))]), (1100, .pin 100 (pv 100).1 (pv 100).2)]⟩) (fun h => ?_) ?_
            · refine PWc.regionD (by kernel_rfl) (by kernel_rfl) ?_
              refine PQl.step (fun _ he ho => LR.move (he rfl rfl)) rfl ?_
              refine PQl.step (fun _ he ho => LR.nilCheckRef (he rfl rfl)) rfl ?_
              refine PQl.step (fun _ he ho => LR.fieldRef Try.underlying85 rfl Try.sizeOf3 (by decide) rfl (he rfl rfl)) rfl ?_
              refine PQl.step (fun _ he ho => LR.loadRef Try.isAgg3 (he rfl rfl) (ho rfl) rfl) rfl ?_
              refine PQl.step (fun _ he ho => LR.eql (he rfl rfl) (he rfl rfl)) rfl ?_
              refine PQl.step (fun _ he ho => LR.move (he rfl rfl)) rfl ?_
              refine PQl.split (d := 42) rfl (fun hg73 => ?_) (fun hg73 => ?_)
              · replace h := iT hg73 h
                refine PQl.guardT (fun _ he ho => LR.move (he rfl rfl)) rfl rfl rfl ?_
                refine PQl.guardT (fun _ he ho => LR.geq (he rfl rfl) (he rfl rfl)) rfl rfl rfl ?_
                refine PQl.step (fun _ he ho => LR.pickT (he rfl rfl) (he rfl rfl)) rfl ?_
                refine PQl.step (fun _ he ho => LR.move (he rfl rfl)) rfl ?_
                refine PQl.split (d := 46) rfl (fun hg74 => ?_) (fun hg74 => ?_)
                · replace h := iT hg74 h
                  refine PQl.guardT (fun _ he ho => LR.move (he rfl rfl)) rfl rfl rfl ?_
                  refine PQl.guardT (fun _ he ho => LR.move (he rfl rfl)) rfl rfl rfl ?_
                  replace h := iIdx h
                  obtain ⟨x75, hy76, h⟩ := h
                  refine PQl.guardT (fun _ he ho => LR.idxRowT (L := out63) (y := x75) Try.underlying22 Try.sizeOf41 (he rfl rfl) rfl (he rfl rfl) hy76) rfl rfl rfl ?_
                  refine PQl.guardT (fun _ he ho => LR.fieldRp Try.underlying41 rfl Try.sizeOf38 (by decide) rfl (he rfl rfl)) rfl rfl rfl ?_
                  refine PQl.guardT (fun _ he ho => LR.loadRpPartT (enc := TEvent.e) (L := out63) (y := x75) Try.isAgg38 Try.sizeOf38 (he rfl rfl) (ho rfl) hy76.2 rfl rfl) rfl rfl rfl ?_
                  refine PQl.guardT (fun _ he ho => LR.fieldRef Try.underlying41 rfl Try.sizeOf38 (by decide) rfl (he rfl rfl)) rfl rfl rfl ?_
                  refine PQl.guardT (fun _ he ho => LR.loadRefAgg (ps := [_, _]) Try.isAgg38 Try.sizeOf38 (he rfl rfl) (ho rfl) rfl rfl) rfl rfl rfl ?_
                  replace h := iDet h
                  obtain ⟨v77, hy78, h⟩ := h
                  refine PQl.guardT (fun _ he ho => LR.callN (r07_Cmp_ok x75.dot y70.1.dot v77 hy78) (he rfl rfl) Try.call110 (evsE he rfl rfl) rfl rfl rfl) rfl rfl rfl ?_
                  refine PQl.guardT (fun _ he ho => LR.geq (he rfl rfl) (he rfl rfl)) rfl rfl rfl ?_
                  refine PQl.step (fun _ he ho => LR.pickT (he rfl rfl) (he rfl rfl)) rfl ?_
                  refine PQl.nil ?_
                  exact ⟨(decide (0 ≤ v77)), (), h, Sub.of rfl (.cons rfl rfl <| .cons rfl rfl <| .cons rfl rfl <| .cons rfl rfl <| .cons rfl rfl <| .cons rfl rfl <| .nil) (.cons rfl rfl <| .cons rfl rfl <| .cons rfl rfl <| .cons rfl rfl <| .nil)⟩
                · replace h := iF hg74 h
                  refine PQl.guardF rfl rfl rfl (by decide) ?_
                  refine PQl.guardF rfl rfl rfl (by decide) ?_
                  refine PQl.guardF rfl rfl rfl (by decide) ?_
                  refine PQl.guardF rfl rfl rfl (by decide) ?_
                  refine PQl.guardF rfl rfl rfl (by decide) ?_
                  refine PQl.guardF rfl rfl rfl (by decide) ?_
                  refine PQl.guardF rfl rfl rfl (by decide) ?_
                  refine PQl.guardF rfl rfl rfl (by decide) ?_
                  refine PQl.guardF rfl rfl rfl (by decide) ?_
                  refine PQl.step (fun _ he ho => LR.pickF (he rfl rfl) (he rfl rfl)) rfl ?_
                  refine PQl.nil ?_
                  exact ⟨false, (), h, Sub.of rfl (.cons rfl rfl <| .cons rfl rfl <| .cons rfl rfl <| .cons rfl rfl <| .cons rfl rfl <| .cons rfl rfl <| .nil) (.cons rfl rfl <| .cons rfl rfl <| .cons rfl rfl <| .cons rfl rfl <| .nil)⟩
              · replace h := iF hg73 h
                refine PQl.guardF rfl rfl rfl (by decide) ?_
                refine PQl.guardF rfl rfl rfl (by decide) ?_
                refine PQl.step (fun _ he ho => LR.pickF (he rfl rfl) (he rfl rfl)) rfl ?_
                refine PQl.step (fun _ he ho => LR.move (he rfl rfl)) rfl ?_
                refine PQl.guardF rfl rfl rfl (by decide) ?_
                refine PQl.guardF rfl rfl rfl (by decide) ?_
                refine PQl.guardF rfl rfl rfl (by decide) ?_
                refine PQl.guardF rfl rfl rfl (by decide) ?_
                refine PQl.guardF rfl rfl rfl (by decide) ?_
                refine PQl.guardF rfl rfl rfl (by decide) ?_
                refine PQl.guardF rfl rfl rfl (by decide) ?_
                refine PQl.guardF rfl rfl rfl (by decide) ?_
                refine PQl.guardF rfl rfl rfl (by decide) ?_
                refine PQl.step (fun _ he ho => LR.pickF (he rfl rfl) (he rfl rfl)) rfl ?_
                refine PQl.nil ?_
                exact ⟨false, (), h, Sub.of rfl (.cons rfl rfl <| .cons rfl rfl <| .cons rfl rfl <| .cons rfl rfl <| .cons rfl rfl <| .cons rfl rfl <| .nil) (.cons rfl rfl <| .cons rfl rfl <| .cons rfl rfl <| .cons rfl rfl <| .nil)⟩
            · rintro v72 _ h
              refine PWc.jn (iBind h) (fun (⟨v79, v80, v81⟩ : List Int × Int × Int) (_ : Unit) => ⟨69, [(0, .ref 100 0), (5, .d (.v (.int .u64 y7.1))), (6, .row 6 (List.length out63)), (7, .d (.v (.int .u64 i62))), (8, .ref 8 0)], [(6, .row 41 7 (List.map TEvent.e out63)), (8, .cells 41 [.d (.v (.int .u16 y70.1.dot.dev)), .d (.v (.int .u64 y70.1.dot.n)), .d (.v (.int .u8 y70.1.kind)), .d (.v (.int .u64 y70.1.cid)), .d (.v (.int .u8 y70.1.field)), .d (.v (.string y70.1.text)), .d (.sl (List.map TDot.e y70.1.kills))]), (100, .cells 85 [.d (.sl (List.map (eK .u8) v79)), .d (.v (.int .i64 v80)), .d (.v (.int .i64 v81))]), (1100, .pin 100 (pv 100).1 (pv 100).2)]⟩) (fun h => ?_) ?_
              · refine PWc.cond rfl (fun hc82 => ?_) (fun hc82 => ?_)
                · replace h := iT hc82 h
                  refine PWc.region ?_
                  refine PWl.step (LR.move rfl) rfl ?_
                  replace h := iDet h
                  obtain ⟨y83, hy84, h⟩ := h
                  refine PWl.step (LR.callObj [(100, 100)] [] [100] (epitaphref04_Reader_Fail_o_ok 4 y70.2.1 y70.2.2.1 y70.2.2.2 y83 hy84) hK rfl Try.call109 rfl (by first | rfl | (simp; done) | (simp [PV.nilD, PV.ren, rn]; omega)) (.cons (by first | rfl | (congr 1; first | (simp; done) | (simp; omega))) <| .nil) rfl rfl rfl rfl) rfl ?_
                  refine PWl.nil ?_
                  exact ⟨(y83.1, y83.2.1, y83.2.2), (), h, Sub.of rfl (.cons rfl rfl <| .cons rfl rfl <| .cons rfl rfl <| .cons rfl rfl <| .cons rfl rfl <| .nil) (.cons rfl rfl <| .cons rfl rfl <| .cons rfl rfl <| .cons rfl rfl <| .nil)⟩
                · replace h := iF hc82 h
                  refine PWc.skip ?_
                  exact ⟨(y70.2.1, y70.2.2.1, y70.2.2.2), (), h, Sub.of rfl (.cons rfl rfl <| .cons rfl rfl <| .cons rfl rfl <| .cons rfl rfl <| .cons rfl rfl <| .nil) (.cons rfl rfl <| .cons rfl rfl <| .cons rfl rfl <| .cons rfl rfl <| .nil)⟩
              · rintro ⟨v79, v80, v81⟩ _ h
                refine PWc.region ?_
                refine PWl.step (LR.move rfl) rfl ?_
                refine PWl.step (LR.loadRefAgg (ps := [_, _, _, _, _, _, _]) Try.isAgg41 Try.sizeOf41 rfl rfl rfl rfl) rfl ?_
                refine PWl.step (LR.buildSliceD [.tmp 60] elem22 rfl rfl (.cons rfl rfl rfl <| .nil) (by decide) (by decide)) rfl ?_
                replace h := iNeed h
                obtain ⟨hy85, h⟩ := h
                refine PWl.step (LR.appT (enc := TEvent.e) (L := out63) (R := [y70.1]) [6, 59] elem22 Try.underlying22 rfl rfl rfl (Src.slT (enc := TEvent.e) (R := [y70.1]) rfl (fun _ => rfl)) (fun _ => rfl) hy85 rfl rfl) rfl ?_
                refine PWl.step (LR.assign rfl) rfl ?_
                refine PWl.nil ?_
                refine PWc.region ?_
                refine PWl.step (LR.move rfl) rfl ?_
                refine PWl.step (LR.addW rfl rfl) rfl ?_
                refine PWl.step (LR.assign rfl) rfl ?_
                refine PWl.nil ?_
                exact ⟨((IntKind.u64.wrap (i62 + 1)), (out63 ++ [y70.1]), v79, v80, v81), (), h, Sub.of rfl (.cons rfl rfl <| .cons rfl rfl <| .cons rfl rfl <| .cons rfl rfl <| .nil) (.cons rfl rfl <| .cons rfl rfl <| .cons rfl rfl <| .nil)⟩
          · replace h := iF hc69 h
            refine PWc.exit ?_
            exact ⟨(out63, v64, v65, v66), (), h, Sub.of rfl (.cons rfl rfl <| .cons rfl rfl <| .nil) (.cons rfl rfl <| .cons rfl rfl <| .cons rfl rfl <| .nil)⟩
      · rintro ⟨out15, v16, v17, v18⟩ _ h
        refine PWc.seq ?_
        refine PWc.seq ?_
        refine PWc.region ?_
        refine PWl.step (LR.move rfl) rfl ?_
        refine PWl.step (LR.nilCheckRef rfl) rfl ?_
        refine PWl.step (LR.fieldRef Try.underlying85 rfl Try.sizeOf3 (by decide) rfl rfl) rfl ?_
        refine PWl.step (LR.loadRef Try.isAgg3 rfl rfl rfl) rfl ?_
        refine PWl.step (LR.neq rfl rfl) rfl ?_
        refine PWl.nil ?_
        refine PWc.cond rfl (fun hc86 => ?_) (fun hc86 => ?_)
        · replace h := iT hc86 h
          refine PWc.seq ?_
          refine PWc.region ?_
          refine PWl.step (LR.assignNilRow 41 7 rfl) rfl ?_
          refine PWl.nil ?_
          refine PWc.ret ?_
          replace h : _ = r0 := h
          subst h
          exact EndsO.mk () (.inr rfl) (Sub.trans (Sub.frz [4] hK rfl (by first | (simp; done) | (simp; omega) | omega) (AllRow.get (.cons rfl <| .nil))) <| Sub.of (tl := [(4, _)]) (to := [(100, _), (1100, _)]) rfl (.cons rfl rfl <| .nil) (.cons rfl rfl <| .cons rfl rfl <| .nil)) (.cons (.tmp rfl) <| .nil) rfl rfl
        · replace h := iF hc86 h
          refine PWc.skip ?_
          refine PWc.seq ?_
          refine PWc.region ?_
          refine PWl.step (LR.move rfl) rfl ?_
          refine PWl.step (LR.assign rfl) rfl ?_
          refine PWl.nil ?_
          refine PWc.ret ?_
          replace h : _ = r0 := h
          subst h
          exact EndsO.mk () (.inr rfl) (Sub.trans (Sub.frz [4, 6, 68] hK rfl (by simp) (AllRow.get (.cons rfl <| .cons rfl <| .cons rfl <| .nil))) <| Sub.of (tl := [(4, _)]) (to := [(100, _), (1100, _)]) rfl (.cons rfl rfl <| .nil) (.cons rfl rfl <| .cons rfl rfl <| .nil)) (.cons (.tmp rfl) <| .nil) rfl rfl

theorem l16_EcodeReads_ok (b1 : List Int) (most2 : Int) (r0 : Bool) (h : (l16_EcodeReads b1 most2).wp (· = r0)) : PFun Try.prog 10 [.d (.sl (List.map (eK .u8) b1)), .d (.v (.int .i64 most2))] (.d (.v (.bool r0))) := by
  refine PFun.intro (sl := [(0, _), (1, _)]) Try.func10 rfl Try.ntmps10 rfl rfl ?_
  intro ctx hK
  refine PWc.seq ?_
  refine PWc.region ?_
  refine PWl.step (LR.assign rfl) rfl ?_
  refine PWl.nil ?_
  refine PWc.seq ?_
  refine PWc.seq ?_
  refine PWc.region ?_
  refine PWl.step (LR.move rfl) rfl ?_
  refine PWl.step (LR.lenMap (enc := (eK .u8)) (L := b1) Try.underlying45 rfl) rfl ?_
  refine PWl.step (LR.gtr rfl rfl) rfl ?_
  refine PWl.nil ?_
  refine PWc.cond rfl (fun hc3 => ?_) (fun hc3 => ?_)
  · replace h := iT hc3 h
    refine PWc.seq ?_
    refine PWc.region ?_
    replace h := iDet h
    obtain ⟨v4, hy5, h⟩ := h
    refine PWl.step (LR.callN (l16_works_ok v4 hy5) rfl Try.call35 rfl rfl rfl rfl) rfl ?_
    refine PWl.step (LR.assign rfl) rfl ?_
    refine PWl.nil ?_
    refine PWc.ret ?_
    replace h : _ = r0 := h
    subst h
    exact ⟨.inr rfl, _, .cons (.tmp rfl rfl) <| .nil, rfl⟩
  · replace h := iF hc3 h
    refine PWc.skip ?_
    refine PWc.seq ?_
    refine PWc.region ?_
    refine PWl.step (LR.move rfl) rfl ?_
    replace h := iDet h
    obtain ⟨y6, hy7, h⟩ := h
    refine PWl.step (LR.callObj [(7, 18)] [] [7] (pack_New_o_ok b1 y6 hy7) hK rfl Try.call58 rfl (by first | rfl | (simp; done) | (simp [PV.nilD, PV.ren, rn]; omega)) (.nil) rfl rfl rfl rfl) rfl ?_
    refine PWl.step (LR.move rfl) rfl ?_
    refine PWl.step (LR.build (ns := [_, _, _]) build85 rfl rfl rfl) rfl ?_
    refine PWl.step (LR.box rfl rfl rfl rfl) rfl ?_
    refine PWl.step (LR.assign rfl) rfl ?_
    refine PWl.step (LR.assign rfl) rfl ?_
    refine PWl.nil ?_
    refine PWc.seq ?_
    refine PWc.seq ?_
    refine PWc.re (tl := [(0, _), (1, _), (5, _), (6, _)]) (to := [(18, _), (21, _)]) rfl (.cons rfl rfl <| .cons rfl rfl <| .cons rfl rfl <| .cons rfl rfl <| .nil) (.cons rfl rfl <| .cons rfl rfl <| .nil) ?_
    refine PWc.jn (iBind h) (fun (v8 : Bool) (_ : Unit) => ⟨79, [(0, .d (.sl (List.map (eK .u8) b1))), (36, .d (.v (.bool v8)))], []⟩) (fun h => ?_) ?_
    · refine PWc.region ?_
      refine PWl.step (LR.move rfl) rfl ?_
      refine PWl.step (LR.move rfl) rfl ?_
      replace h := iDet h
      obtain ⟨y9, hy10, h⟩ := h
      refine PWl.step (LR.callObj [(100, 18)] [] [100] (ecode_GetAll_o_ok most2 y6.1 y6.2 y9 hy10) hK rfl Try.call59 rfl (by first | rfl | (simp; done) | (simp [PV.nilD, PV.ren, rn]; omega)) (.cons (by first | rfl | (congr 1; first | (simp; done) | (simp; omega))) <| .nil) rfl rfl rfl rfl) rfl ?_
      refine PWl.step (LR.move rfl) rfl ?_
      refine PWl.step (LR.move rfl) rfl ?_
      replace h := iDet h
      obtain ⟨y11, hy12, h⟩ := h
      refine PWl.step (LR.callObj [(100, 21)] [] [100] (r16_GetAll_o_ok most2 b1 0 0 y11 hy12) hK rfl Try.call60 rfl (by first | rfl | (simp; done) | (simp [PV.nilD, PV.ren, rn]; omega)) (.cons (by first | rfl | (congr 1; first | (simp; done) | (simp; omega))) <| .nil) rfl rfl rfl rfl) rfl ?_
      refine PWl.re (tl := [(0, _), (5, _), (6, _), (24, _), (27, _)]) (to := [(18, _), (21, _)]) rfl (.cons rfl rfl <| .cons rfl rfl <| .cons rfl rfl <| .cons rfl rfl <| .cons rfl rfl <| .nil) (.cons rfl rfl <| .cons rfl rfl <| .nil) ?_
      replace h := iDet h
      obtain ⟨v13, hy14, h⟩ := h
      refine PWl.step (LR.callN (r13_All_ok y9.1 y11.1 v13 hy14) rfl Try.call17 rfl rfl rfl rfl) rfl ?_
      refine PWl.step (LR.not rfl) rfl ?_
      refine PWl.step (LR.move rfl) rfl ?_
      refine PWl.split (d := 30) rfl (fun hg15 => ?_) (fun hg15 => ?_)
      · replace h := iT hg15 h
        refine PWl.guardF rfl rfl rfl (by decide) ?_
        refine PWl.guardF rfl rfl rfl (by decide) ?_
        refine PWl.guardF rfl rfl rfl (by decide) ?_
        refine PWl.guardF rfl rfl rfl (by decide) ?_
        refine PWl.guardF rfl rfl rfl (by decide) ?_
        refine PWl.step (LR.pickT rfl rfl) rfl ?_
        refine PWl.nil ?_
        exact ⟨true, (), h, Sub.of rfl (.cons rfl rfl <| .cons rfl rfl <| .nil) (.nil)⟩
      · replace h := iF hg15 h
        refine PWl.guardT (LR.move rfl) rfl rfl rfl ?_
        replace h := iDet h
        obtain ⟨y16, hy17, h⟩ := h
        refine PWl.guardT (LR.callObj [(100, 18)] [] [100] (pack_Reader_End_o_ok y9.2.1 y9.2.2 y16 hy17) hK rfl Try.call61 rfl (by first | rfl | (simp; done) | (simp [PV.nilD, PV.ren, rn]; omega)) (.cons (by first | rfl | (congr 1; first | (simp; done) | (simp; omega))) <| .nil) rfl rfl rfl rfl) rfl rfl rfl ?_
        refine PWl.guardT (LR.move rfl) rfl rfl rfl ?_
        replace h := iDet h
        obtain ⟨y18, hy19, h⟩ := h
        refine PWl.guardT (LR.callObj [(100, 21)] [] [100] (epitaphref04_Reader_End_o_ok y11.2.1 y11.2.2.1 y11.2.2.2 y18 hy19) hK rfl Try.call62 rfl (by first | rfl | (simp; done) | (simp [PV.nilD, PV.ren, rn]; omega)) (.cons (by first | rfl | (congr 1; first | (simp; done) | (simp; omega))) <| .nil) rfl rfl rfl rfl) rfl rfl rfl ?_
        refine PWl.re (tl := [(0, _), (30, _), (32, _), (34, _)]) (to := []) rfl (.cons rfl rfl <| .cons rfl rfl <| .cons rfl rfl <| .cons rfl rfl <| .nil) (.nil) ?_
        refine PWl.guardT (LR.neq rfl rfl) rfl rfl rfl ?_
        refine PWl.step (LR.pickF rfl rfl) rfl ?_
        refine PWl.nil ?_
        exact ⟨(!decide (y16.1 = y18.1)), (), h, Sub.of rfl (.cons rfl rfl <| .cons rfl rfl <| .nil) (.nil)⟩
    · rintro v8 _ h
      refine PWc.cond rfl (fun hc20 => ?_) (fun hc20 => ?_)
      · replace h := iT hc20 h
        refine PWc.seq ?_
        refine PWc.region ?_
        refine PWl.step (LR.assign rfl) rfl ?_
        refine PWl.nil ?_
        refine PWc.ret ?_
        replace h : _ = r0 := h
        subst h
        exact ⟨.inr rfl, _, .cons (.tmp rfl rfl) <| .nil, rfl⟩
      · replace h := iF hc20 h
        refine PWc.skip ?_
        refine PWc.seq ?_
        refine PWc.region ?_
        refine PWl.step (LR.move rfl) rfl ?_
        replace h := iDet h
        obtain ⟨v21, hy22, h⟩ := h
        refine PWl.step (LR.callN (ecode_Decode_ok b1 v21 hy22) rfl Try.call63 rfl rfl rfl rfl) rfl ?_
        refine PWl.step (LR.move rfl) rfl ?_
        refine PWl.step (LR.extract rfl rfl) rfl ?_
        refine PWl.step (LR.extract rfl rfl) rfl ?_
        refine PWl.step (LR.allocZ (cs := [_, _, _, _, _, _, _]) Try.zeroValue41 rfl rfl rfl rfl) rfl ?_
        refine PWl.step (LR.storeB (ns := [_, _, _, _, _, _, _]) Try.sizeOf41 rfl rfl rfl rfl rfl rfl rfl) rfl ?_
        refine PWl.step (LR.assign rfl) rfl ?_
        refine PWl.nil ?_
        refine PWc.seq ?_
        refine PWc.region ?_
        refine PWl.step (LR.move rfl) rfl ?_
        replace h := iDet h
        obtain ⟨v23, hy24, h⟩ := h
        refine PWl.step (LR.callN (r16_Decode_ok b1 v23 hy24) rfl Try.call64 rfl rfl rfl rfl) rfl ?_
        refine PWl.step (LR.move rfl) rfl ?_
        refine PWl.step (LR.extract rfl rfl) rfl ?_
        refine PWl.step (LR.extract rfl rfl) rfl ?_
        refine PWl.step (LR.allocZ (cs := [_, _, _, _, _, _, _]) Try.zeroValue41 rfl rfl rfl rfl) rfl ?_
        refine PWl.step (LR.storeB (ns := [_, _, _, _, _, _, _]) Try.sizeOf41 rfl rfl rfl rfl rfl rfl rfl) rfl ?_
        refine PWl.step (LR.assign rfl) rfl ?_
        refine PWl.nil ?_
        refine PWc.seq ?_
        refine PWc.region ?_
        refine PWl.step (LR.move rfl) rfl ?_
        replace h := iDet h
        obtain ⟨y25, hy26, h⟩ := h
        refine PWl.step (LR.callObj [(7, 48)] [] [7] (pack_New_o_ok b1 y25 hy26) hK rfl Try.call58 rfl (by first | rfl | (simp; done) | (simp [PV.nilD, PV.ren, rn]; omega)) (.nil) rfl rfl rfl rfl) rfl ?_
        refine PWl.step (LR.move rfl) rfl ?_
        refine PWl.step (LR.build (ns := [_, _, _]) build85 rfl rfl rfl) rfl ?_
        refine PWl.step (LR.box rfl rfl rfl rfl) rfl ?_
        refine PWl.re (tl := [(7, _), (8, _), (9, _), (10, _), (48, _), (51, _)]) (to := [(7, _), (9, _), (48, _), (51, _)]) rfl (.cons rfl rfl <| .cons rfl rfl <| .cons rfl rfl <| .cons rfl rfl <| .cons rfl rfl <| .cons rfl rfl <| .nil) (.cons rfl rfl <| .cons rfl rfl <| .cons rfl rfl <| .cons rfl rfl <| .nil) ?_
        refine PWl.step (LR.assign rfl) rfl ?_
        refine PWl.step (LR.assign rfl) rfl ?_
        refine PWl.nil ?_
        refine PWc.seq ?_
        refine PWc.re (tl := [(7, _), (8, _), (9, _), (10, _), (11, _), (12, _)]) (to := [(7, _), (9, _), (48, _), (51, _)]) rfl (.cons rfl rfl <| .cons rfl rfl <| .cons rfl rfl <| .cons rfl rfl <| .cons rfl rfl <| .cons rfl rfl <| .nil) (.cons rfl rfl <| .cons rfl rfl <| .cons rfl rfl <| .cons rfl rfl <| .nil) ?_
        refine PWc.jn (iBind h) (fun (v27 : Bool) (_ : Unit) => ⟨79, [(4, .d (.v (.bool v27)))], []⟩) (fun h => ?_) ?_
        · refine PWc.regionE [⟨[52], [], [7], [], [], [], [], []⟩, ⟨[53], [], [9], [], [], [], [], []⟩, ⟨[54], [], [], [], [], [], [], []⟩, ⟨[55], [], [], [], [], [], [], []⟩, ⟨[56], [], [], [], [], [], [], []⟩, ⟨[57], [], [], [], [], [], [], []⟩, ⟨[58], [], [], [], [], [], [], []⟩, ⟨[59], [], [], [], [], [], [], []⟩, ⟨[60], [], [], [], [], [], [], []⟩, ⟨[61], [], [], [], [], [48], [], []⟩, ⟨[62], [48], [48], [], [], [], [], []⟩, ⟨[63], [], [], [], [], [51], [], []⟩, ⟨[64], [51], [51], [], [], [], [], []⟩, ⟨[65], [], [], [], [], [], [], []⟩, ⟨[66], [], [], [], [], [], [], []⟩, ⟨[67], [], [], [], [], [], [], []⟩, ⟨[68], [], [], [], [], [48], [], []⟩, ⟨[69], [48], [48], [], [], [], [], []⟩, ⟨[70], [], [], [], [], [51], [], []⟩, ⟨[71], [], [], [], [], [51], [], []⟩, ⟨[72], [], [], [], [], [51], [], []⟩, ⟨[73], [], [51], [], [], [], [], []⟩, ⟨[74], [], [], [], [], [], [], []⟩, ⟨[75], [], [], [], [], [], [], []⟩, ⟨[76], [], [], [], [], [], [], []⟩, ⟨[77], [], [], [], [], [], [], []⟩, ⟨[78], [], [], [], [], [], [], []⟩, ⟨[4], [], [], [], [], [], [], []⟩] (by kernel_rfl) (by kernel_rfl) rfl ?_
          refine PQe.stepP (fun _ he ho => LR.loadRefAgg (ps := [_, _, _, _, _, _, _]) Try.isAgg41 Try.sizeOf41 (he rfl rfl) (ho rfl rfl) rfl rfl) (.inl rfl) rfl ?_
          refine PQe.stepP (fun _ he ho => LR.loadRefAgg (ps := [_, _, _, _, _, _, _]) Try.isAgg41 Try.sizeOf41 (he rfl rfl) (ho rfl rfl) rfl rfl) (.inl rfl) rfl ?_
          replace h := iDet h
          obtain ⟨v28, hy29, h⟩ := h
          refine PQe.stepP (fun _ he ho => LR.callN (r13_Same_ok v21.1 v23.1 v28 hy29) (he rfl rfl) Try.call65 (evsE he rfl rfl) rfl rfl rfl) (.inl rfl) rfl ?_
          refine PQe.stepP (fun _ he ho => LR.move (he rfl rfl)) (.inl rfl) rfl ?_
          refine PQe.split (d := 55) rfl (fun hg30 => ?_) (fun hg30 => ?_)
          · replace h := iT hg30 h
            refine PQe.stepP (fun _ he ho => LR.move (he rfl rfl)) (.inr ⟨_, _, _, rfl, rfl, rfl⟩) rfl ?_
            refine PQe.stepP (fun _ he ho => LR.move (he rfl rfl)) (.inr ⟨_, _, _, rfl, rfl, rfl⟩) rfl ?_
            refine PQe.stepP (fun _ he ho => LR.eql (he rfl rfl) (he rfl rfl)) (.inr ⟨_, _, _, rfl, rfl, rfl⟩) rfl ?_
            refine PQe.stepP (fun _ he ho => LR.pickT (he rfl rfl) (he rfl rfl)) (.inl rfl) rfl ?_
            refine PQe.stepP (fun _ he ho => LR.move (he rfl rfl)) (.inl rfl) rfl ?_
            refine PQe.split (d := 60) rfl (fun hg31 => ?_) (fun hg31 => ?_)
            · replace h := iT hg31 h
              refine PQe.stepP (fun _ he ho => LR.move (he rfl rfl)) (.inr ⟨_, _, _, rfl, rfl, rfl⟩) rfl ?_
              replace h := iDet h
              obtain ⟨y32, hy33, h⟩ := h
              refine PQe.callObj [(100, 48)] [] [100] (ecode_Get_o_ok y25.1 y25.2 y32 hy33) hK (fun _ he => ⟨he rfl rfl, evsE he rfl rfl⟩) Try.call66 (by first | rfl | (simp; done) | (simp [PV.nilD, PV.ren, rn]; omega)) (.cons (by first | rfl | (congr 1; first | (simp; done) | (simp; omega))) <| .nil) rfl rfl rfl rfl (.inr ⟨_, _, _, rfl, rfl, rfl⟩) rfl ?_
              refine PQe.stepP (fun _ he ho => LR.move (he rfl rfl)) (.inr ⟨_, _, _, rfl, rfl, rfl⟩) rfl ?_
              replace h := iDet h
              obtain ⟨y34, hy35, h⟩ := h
              refine PQe.callObj [(100, 51)] [] [100] (r16_Get_o_ok b1 0 0 y34 hy35) hK (fun _ he => ⟨he rfl rfl, evsE he rfl rfl⟩) Try.call67 (by first | rfl | (simp; done) | (simp [PV.nilD, PV.ren, rn]; omega)) (.cons (by first | rfl | (congr 1; first | (simp; done) | (simp; omega))) <| .nil) rfl rfl rfl rfl (.inr ⟨_, _, _, rfl, rfl, rfl⟩) rfl ?_
              replace h := iDet h
              obtain ⟨v36, hy37, h⟩ := h
              refine PQe.stepP (fun _ he ho => LR.callN (r13_Same_ok y32.1 y34.1 v36 hy37) (he rfl rfl) Try.call65 (evsE he rfl rfl) rfl rfl rfl) (.inr ⟨_, _, _, rfl, rfl, rfl⟩) rfl ?_
              refine PQe.stepP (fun _ he ho => LR.pickT (he rfl rfl) (he rfl rfl)) (.inl rfl) rfl ?_
              refine PQe.stepP (fun _ he ho => LR.move (he rfl rfl)) (.inl rfl) rfl ?_
              refine PQe.split (d := 67) rfl (fun hg38 => ?_) (fun hg38 => ?_)
              · replace h := iT hg38 h
                refine PQe.stepP (fun _ he ho => LR.move (he rfl rfl)) (.inr ⟨_, _, _, rfl, rfl, rfl⟩) rfl ?_
                replace h := iDet h
                obtain ⟨y39, hy40, h⟩ := h
                refine PQe.callObj [(100, 48)] [] [100] (pack_Reader_Err_o_ok y32.2.1 y32.2.2 y39 hy40) hK (fun _ he => ⟨he rfl rfl, evsE he rfl rfl⟩) Try.call68 (by first | rfl | (simp; done) | (simp [PV.nilD, PV.ren, rn]; omega)) (.cons (by first | rfl | (congr 1; first | (simp; done) | (simp; omega))) <| .nil) rfl rfl rfl rfl (.inr ⟨_, _, _, rfl, rfl, rfl⟩) rfl ?_
                refine PQe.stepP (fun _ he ho => LR.move (he rfl rfl)) (.inr ⟨_, _, _, rfl, rfl, rfl⟩) rfl ?_
                refine PQe.stepP (fun _ he ho => LR.nilCheckRef (he rfl rfl)) (.inr ⟨_, _, _, rfl, rfl, rfl⟩) rfl ?_
                refine PQe.stepP (fun _ he ho => LR.fieldRef Try.underlying85 rfl Try.sizeOf3 (by decide) rfl (he rfl rfl)) (.inr ⟨_, _, _, rfl, rfl, rfl⟩) rfl ?_
                refine PQe.stepP (fun _ he ho => LR.loadRef Try.isAgg3 (he rfl rfl) (ho rfl rfl) rfl) (.inr ⟨_, _, _, rfl, rfl, rfl⟩) rfl ?_
                refine PQe.stepP (fun _ he ho => LR.eql (he rfl rfl) (he rfl rfl)) (.inr ⟨_, _, _, rfl, rfl, rfl⟩) rfl ?_
                refine PQe.stepP (fun _ he ho => LR.pickT (he rfl rfl) (he rfl rfl)) (.inl rfl) rfl ?_
                refine PQe.stepP (fun _ he ho => LR.move (he rfl rfl)) (.inl rfl) rfl ?_
                refine PQe.split (d := 76) rfl (fun hg41 => ?_) (fun hg41 => ?_)
                · replace h := iT hg41 h
                  replace h := iDet h
                  obtain ⟨v42, hy43, h⟩ := h
                  refine PQe.stepP (fun _ he ho => LR.callN (l16_works_ok v42 hy43) (he rfl rfl) Try.call35 (evsE he rfl rfl) rfl rfl rfl) (.inr ⟨_, _, _, rfl, rfl, rfl⟩) rfl ?_
                  refine PQe.stepP (fun _ he ho => LR.pickT (he rfl rfl) (he rfl rfl)) (.inl rfl) rfl ?_
                  refine PQe.stepP (fun _ he ho => LR.assign (he rfl rfl)) (.inl rfl) rfl ?_
                  refine PQe.nil ?_
                  exact ⟨v42, (), h, Sub.of rfl (.cons rfl rfl <| .nil) (.nil)⟩
                · replace h := iF hg41 h
                  refine PQe.skipP (.inl ⟨_, _, _, _, rfl, rfl, rfl, by decide⟩) rfl ?_
                  refine PQe.stepP (fun _ he ho => LR.pickF (he rfl rfl) (he rfl rfl)) (.inl rfl) rfl ?_
                  refine PQe.stepP (fun _ he ho => LR.assign (he rfl rfl)) (.inl rfl) rfl ?_
                  refine PQe.nil ?_
                  exact ⟨false, (), h, Sub.of rfl (.cons rfl rfl <| .nil) (.nil)⟩
              · replace h := iF hg38 h
                refine PQe.skipP (.inl ⟨_, _, _, _, rfl, rfl, rfl, by decide⟩) rfl ?_
                refine PQe.skipP (.inl ⟨_, _, _, _, rfl, rfl, rfl, by decide⟩) rfl ?_
                refine PQe.skipP (.inl ⟨_, _, _, _, rfl, rfl, rfl, by decide⟩) rfl ?_
                refine PQe.skipP (.inl ⟨_, _, _, _, rfl, rfl, rfl, by decide⟩) rfl ?_
                refine PQe.skipP (.inl ⟨_, _, _, _, rfl, rfl, rfl, by decide⟩) rfl ?_
                refine PQe.skipP (.inl ⟨_, _, _, _, rfl, rfl, rfl, by decide⟩) rfl ?_
                refine PQe.skipP (.inl ⟨_, _, _, _, rfl, rfl, rfl, by decide⟩) rfl ?_
                refine PQe.stepP (fun _ he ho => LR.pickF (he rfl rfl) (he rfl rfl)) (.inl rfl) rfl ?_
                refine PQe.stepP (fun _ he ho => LR.move (he rfl rfl)) (.inl rfl) rfl ?_
                refine PQe.skipP (.inl ⟨_, _, _, _, rfl, rfl, rfl, by decide⟩) rfl ?_
                refine PQe.stepP (fun _ he ho => LR.pickF (he rfl rfl) (he rfl rfl)) (.inl rfl) rfl ?_
                refine PQe.stepP (fun _ he ho => LR.assign (he rfl rfl)) (.inl rfl) rfl ?_
                refine PQe.nil ?_
                exact ⟨false, (), h, Sub.of rfl (.cons rfl rfl <| .nil) (.nil)⟩
            · replace h := iF hg31 h
              refine PQe.skipP (.inl ⟨_, _, _, _, rfl, rfl, rfl, by decide⟩) rfl ?_
              refine PQe.skipP (.inl ⟨_, _, _, _, rfl, rfl, rfl, by decide⟩) rfl ?_
              refine PQe.skipP (.inl ⟨_, _, _, _, rfl, rfl, rfl, by decide⟩) rfl ?_
              refine PQe.skipP (.inl ⟨_, _, _, _, rfl, rfl, rfl, by decide⟩) rfl ?_
              refine PQe.skipP (.inl ⟨_, _, _, _, rfl, rfl, rfl, by decide⟩) rfl ?_
              refine PQe.stepP (fun _ he ho => LR.pickF (he rfl rfl) (he rfl rfl)) (.inl rfl) rfl ?_
              refine PQe.stepP (fun _ he ho => LR.move (he rfl rfl)) (.inl rfl) rfl ?_
              refine PQe.skipP (.inl ⟨_, _, _, _, rfl, rfl, rfl, by decide⟩) rfl ?_
              refine PQe.skipP (.inl ⟨_, _, _, _, rfl, rfl, rfl, by decide⟩) rfl ?_
              refine PQe.skipP (.inl ⟨_, _, _, _, rfl, rfl, rfl, by decide⟩) rfl ?_
              refine PQe.skipP (.inl ⟨_, _, _, _, rfl, rfl, rfl, by decide⟩) rfl ?_
              refine PQe.skipP (.inl ⟨_, _, _, _, rfl, rfl, rfl, by decide⟩) rfl ?_
              refine PQe.skipP (.inl ⟨_, _, _, _, rfl, rfl, rfl, by decide⟩) rfl ?_
              refine PQe.skipP (.inl ⟨_, _, _, _, rfl, rfl, rfl, by decide⟩) rfl ?_
              refine PQe.stepP (fun _ he ho => LR.pickF (he rfl rfl) (he rfl rfl)) (.inl rfl) rfl ?_
              refine PQe.stepP (fun _ he ho => LR.move (he rfl rfl)) (.inl rfl) rfl ?_
              refine PQe.skipP (.inl ⟨_, _, _, _, rfl, rfl, rfl, by decide⟩) rfl ?_
              refine PQe.stepP (fun _ he ho => LR.pickF (he rfl rfl) (he rfl rfl)) (.inl rfl) rfl ?_
              refine PQe.stepP (fun _ he ho => LR.assign (he rfl rfl)) (.inl rfl) rfl ?_
              refine PQe.nil ?_
              exact ⟨false, (), h, Sub.of rfl (.cons rfl rfl <| .nil) (.nil)⟩
          · replace h := iF hg30 h
            refine PQe.skipP (.inl ⟨_, _, _, _, rfl, rfl, rfl, by decide⟩) rfl ?_
            refine PQe.skipP (.inl ⟨_, _, _, _, rfl, rfl, rfl, by decide⟩) rfl ?_
            refine PQe.skipP (.inl ⟨_, _, _, _, rfl, rfl, rfl, by decide⟩) rfl ?_
            refine PQe.stepP (fun _ he ho => LR.pickF (he rfl rfl) (he rfl rfl)) (.inl rfl) rfl ?_
            refine PQe.stepP (fun _ he ho => LR.move (he rfl rfl)) (.inl rfl) rfl ?_
            refine PQe.skipP (.inl ⟨_, _, _, _, rfl, rfl, rfl, by decide⟩) rfl ?_
            refine PQe.skipP (.inl ⟨_, _, _, _, rfl, rfl, rfl, by decide⟩) rfl ?_
            refine PQe.skipP (.inl ⟨_, _, _, _, rfl, rfl, rfl, by decide⟩) rfl ?_
            refine PQe.skipP (.inl ⟨_, _, _, _, rfl, rfl, rfl, by decide⟩) rfl ?_
            refine PQe.skipP (.inl ⟨_, _, _, _, rfl, rfl, rfl, by decide⟩) rfl ?_
            refine PQe.stepP (fun _ he ho => LR.pickF (he rfl rfl) (he rfl rfl)) (.inl rfl) rfl ?_
            refine PQe.stepP (fun _ he ho => LR.move (he rfl rfl)) (.inl rfl) rfl ?_
            refine PQe.skipP (.inl ⟨_, _, _, _, rfl, rfl, rfl, by decide⟩) rfl ?_
            refine PQe.skipP (.inl ⟨_, _, _, _, rfl, rfl, rfl, by decide⟩) rfl ?_
            refine PQe.skipP (.inl ⟨_, _, _, _, rfl, rfl, rfl, by decide⟩) rfl ?_
            refine PQe.skipP (.inl ⟨_, _, _, _, rfl, rfl, rfl, by decide⟩) rfl ?_
            refine PQe.skipP (.inl ⟨_, _, _, _, rfl, rfl, rfl, by decide⟩) rfl ?_
            refine PQe.skipP (.inl ⟨_, _, _, _, rfl, rfl, rfl, by decide⟩) rfl ?_
            refine PQe.skipP (.inl ⟨_, _, _, _, rfl, rfl, rfl, by decide⟩) rfl ?_
            refine PQe.stepP (fun _ he ho => LR.pickF (he rfl rfl) (he rfl rfl)) (.inl rfl) rfl ?_
            refine PQe.stepP (fun _ he ho => LR.move (he rfl rfl)) (.inl rfl) rfl ?_
            refine PQe.skipP (.inl ⟨_, _, _, _, rfl, rfl, rfl, by decide⟩) rfl ?_
            refine PQe.stepP (fun _ he ho => LR.pickF (he rfl rfl) (he rfl rfl)) (.inl rfl) rfl ?_
            refine PQe.stepP (fun _ he ho => LR.assign (he rfl rfl)) (.inl rfl) rfl ?_
            refine PQe.nil ?_
            exact ⟨false, (), h, Sub.of rfl (.cons rfl rfl <| .nil) (.nil)⟩
        · rintro v27 _ h
          refine PWc.ret ?_
          replace h : _ = r0 := h
          subst h
          exact ⟨.inr rfl, _, .cons (.tmp rfl rfl) <| .nil, rfl⟩

end Go.Proofs


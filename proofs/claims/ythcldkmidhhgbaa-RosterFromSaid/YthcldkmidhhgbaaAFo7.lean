/- Texts that the walks and laws lean on, side by side. -/
import Derived.ProofKit
import Derived.Deep.Slices
import Derived.OpenShut
import Derived.Test.YthcldkmidhhgbaaProg
import Derived.KernelRfl
import Derived.Test.YthcldkmidhhgbaaAFo2
import Derived.Test.YthcldkmidhhgbaaAFo3
import Derived.Test.YthcldkmidhhgbaaAFo4
import Derived.Test.YthcldkmidhhgbaaAFo5
import Derived.Test.YthcldkmidhhgbaaAFo6
set_option linter.unusedVariables false
set_option linter.unusedSimpArgs false
namespace Go.Proofs
open Go.Ep
set_option maxHeartbeats 1000000
set_option maxRecDepth 100000
set_option linter.unusedVariables false
set_option linter.unusedSimpArgs false


theorem l26_RosterFrom_ok (head1 : Int × Int) (members2 : List TMember) (tries3 : List Int) (r0 : Bool) (h : (l26_RosterFrom head1 members2 tries3).wp (· = r0)) : PFun Try.prog 4 [.agg (List.map .d ((eP (eK .u16)) head1)), .d (.sl (List.map TMember.e members2)), .d (.sl (List.map (eK .u64) tries3))] (.d (.v (.bool r0))) := by
  refine PFun.intro (sl := [(0, _), (1, _), (2, _)]) Try.func4 rfl Try.ntmps4 rfl rfl ?_;intro ctx hK;refine PWc.seq ?_;refine PWc.region ?_;refine PWl.step (LR.box rfl rfl rfl rfl) rfl ?_;refine PWl.step (LR.assign rfl) rfl ?_;refine PWl.nil ?_;refine PWc.seq ?_;refine PWc.seq ?_;refine PWc.jn (iBind h) (fun (v4 : Bool) (_ : Unit) => ⟨78, [(1, .d (.sl (List.map TMember.e members2))), (2, .d (.sl (List.map (eK .u64) tries3))), (3, .ref 3 0), (18, .d (.v (.bool v4)))], [(3, .cells 43 [.d (.v (.int .u16 head1.1)), .d (.v (.int .u16 head1.2))])]⟩) (fun h => ?_) ?_
  · refine PWc.region ?_;refine PWl.step (LR.move rfl) rfl ?_;refine PWl.step (LR.lenMap (enc := TMember.e) (L := members2) Try.underlying32 rfl) rfl ?_;refine PWl.step (LR.gtr rfl rfl) rfl ?_;refine PWl.step (LR.move rfl) rfl ?_;refine PWl.split (d := 14) rfl (fun hg5 => ?_) (fun hg5 => ?_)
    · replace h := iT hg5 h;refine PWl.guardF rfl rfl rfl (by decide) ?_;refine PWl.guardF rfl rfl rfl (by decide) ?_;refine PWl.guardF rfl rfl rfl (by decide) ?_;refine PWl.step (LR.pickT rfl rfl) rfl ?_;refine PWl.nil ?_;exact ⟨true, (), h, Sub.of rfl (.cons rfl rfl <| .cons rfl rfl <| .cons rfl rfl <| .cons rfl rfl <| .nil) (.cons rfl rfl <| .nil)⟩
    · replace h := iF hg5 h;refine PWl.guardT (LR.move rfl) rfl rfl rfl ?_;refine PWl.guardT (LR.lenMap (enc := (eK .u64)) (L := tries3) Try.underlying44 rfl) rfl rfl rfl ?_;refine PWl.guardT (LR.gtr rfl rfl) rfl rfl rfl ?_;refine PWl.step (LR.pickF rfl rfl) rfl ?_;refine PWl.nil ?_;exact ⟨(decide (40 < (List.length tries3 : Int))), (), h, Sub.of rfl (.cons rfl rfl <| .cons rfl rfl <| .cons rfl rfl <| .cons rfl rfl <| .nil) (.cons rfl rfl <| .nil)⟩
  · rintro v4 _ h;refine PWc.cond rfl (fun hc6 => ?_) (fun hc6 => ?_)
    · replace h := iT hc6 h;refine PWc.seq ?_;refine PWc.region ?_;replace h := iDet h;obtain ⟨v7, hy8, h⟩ := h;refine PWl.step (LR.callN (l26_works_ok v7 hy8) rfl Try.call7 rfl rfl rfl rfl) rfl ?_;refine PWl.step (LR.assign rfl) rfl ?_;refine PWl.nil ?_;refine PWc.ret ?_;replace h : _ = r0 := h;subst h;exact ⟨.inr rfl, _, .cons (.tmp rfl rfl) <| .nil, rfl⟩
    · replace h := iF hc6 h;refine PWc.skip ?_;refine PWc.seq ?_;refine PWc.region ?_;refine PWl.step (LR.idxArrK (j := 0) Try.underlying43 rfl Try.sizeOf27 rfl rfl rfl rfl) rfl ?_;refine PWl.step (LR.loadRef Try.isAgg27 rfl rfl rfl) rfl ?_;refine PWl.step (LR.convInt Try.underlying28 (by rw [Try.underlying27]; rfl) rfl rfl) rfl ?_;refine PWl.step (LR.idxArrK (j := 1) Try.underlying43 rfl Try.sizeOf27 rfl rfl rfl rfl) rfl ?_;refine PWl.step (LR.loadRef Try.isAgg27 rfl rfl rfl) rfl ?_;refine PWl.step (LR.move rfl) rfl ?_;refine PWl.step (LR.move rfl) rfl ?_;replace h := iDet h;obtain ⟨y11, hy12, h⟩ := h;rcases y11 with z13 | z39
      · replace h := iSumL h;refine PWl.step (LR.callObj [] [] [] (roster_From_o_ok (IntKind.u64.wrap head1.1) head1.2 members2 tries3 (.inl z13) hy12) hK rfl Try.call15 rfl (by first | rfl | (simp; done) | (simp [PV.nilD, PV.ren, rn]; omega)) (.nil) rfl rfl rfl rfl) rfl ?_;refine PWl.step (LR.move rfl) rfl ?_;refine PWl.step (LR.extract rfl rfl) rfl ?_;refine PWl.step (LR.extract rfl rfl) rfl ?_;refine PWl.step (LR.assign rfl) rfl ?_;refine PWl.step (LR.assign rfl) rfl ?_;refine PWl.nil ?_;refine PWc.seq ?_;refine PWc.seq ?_;refine PWc.re (tl := [(1, _), (2, _), (3, _), (7, _), (8, _)]) (to := [(3, _)]) rfl (.cons rfl rfl <| .cons rfl rfl <| .cons rfl rfl <| .cons rfl rfl <| .cons rfl rfl <| .nil) (.cons rfl rfl <| .nil) ?_;refine PWc.region ?_;refine PWl.step (LR.idxArrK (j := 0) Try.underlying43 rfl Try.sizeOf27 rfl rfl rfl rfl) rfl ?_;refine PWl.step (LR.loadRef Try.isAgg27 rfl rfl rfl) rfl ?_;refine PWl.step (LR.convInt Try.underlying28 (by rw [Try.underlying27]; rfl) rfl rfl) rfl ?_;refine PWl.step (LR.idxArrK (j := 1) Try.underlying43 rfl Try.sizeOf27 rfl rfl rfl rfl) rfl ?_;refine PWl.step (LR.loadRef Try.isAgg27 rfl rfl rfl) rfl ?_;refine PWl.step (LR.move rfl) rfl ?_;refine PWl.step (LR.move rfl) rfl ?_;replace h := iDet h;obtain ⟨v16, hy17, h⟩ := h;refine PWl.step (LR.callN (r26_From_ok (IntKind.u64.wrap head1.1) head1.2 members2 tries3 v16 hy17) rfl Try.call16 rfl rfl rfl rfl) rfl ?_;refine PWl.step (LR.not rfl) rfl ?_;refine PWl.nil ?_;refine PWc.cond rfl (fun hc18 => ?_) (fun hc18 => ?_)
        · replace h := iT hc18 h;refine PWc.seq ?_;refine PWc.region ?_;refine PWl.step (LR.move rfl) rfl ?_;refine PWl.step (LR.eqlPtrN Try.underlying24 rfl) rfl ?_;refine PWl.step (LR.move rfl) rfl ?_;refine PWl.guardT (LR.move rfl) rfl rfl rfl ?_;refine PWl.guardT (LR.eql rfl rfl) rfl rfl rfl ?_;refine PWl.step (LR.pickT rfl rfl) rfl ?_;refine PWl.step (LR.move rfl) rfl ?_;refine PWl.re (tl := [(46, _)]) (to := []) rfl (.cons rfl rfl <| .nil) (.nil) ?_;replace h := iDet h;obtain ⟨v19, hy20, h⟩ := h;refine PWl.guardT (LR.callN (l26_works_ok v19 hy20) rfl Try.call7 rfl rfl rfl rfl) rfl rfl rfl ?_;refine PWl.step (LR.pickT rfl rfl) rfl ?_;refine PWl.step (LR.assign rfl) rfl ?_;refine PWl.nil ?_;refine PWc.ret ?_;replace h : _ = r0 := h;subst h;exact ⟨.inr rfl, _, .cons (.tmp rfl rfl) <| .nil, rfl⟩
        · replace h := iF hc18 h;refine PWc.skip ?_;refine PWc.seq ?_;refine PWc.region ?_;refine PWl.step (LR.idxArrK (j := 0) Try.underlying43 rfl Try.sizeOf27 rfl rfl rfl rfl) rfl ?_;refine PWl.step (LR.loadRef Try.isAgg27 rfl rfl rfl) rfl ?_;refine PWl.step (LR.convInt Try.underlying28 (by rw [Try.underlying27]; rfl) rfl rfl) rfl ?_;refine PWl.step (LR.idxArrK (j := 1) Try.underlying43 rfl Try.sizeOf27 rfl rfl rfl rfl) rfl ?_;refine PWl.step (LR.loadRef Try.isAgg27 rfl rfl rfl) rfl ?_;refine PWl.step (LR.move rfl) rfl ?_;refine PWl.step (LR.build (ns := [_, _, _, _, _, _, _, _, _, _, _, _, _, _, _, _, _, _, _]) build50 rfl rfl rfl) rfl ?_;refine PWl.re (tl := [(2, _), (7, _), (8, _), (55, _)]) (to := []) rfl (.cons rfl rfl <| .cons rfl rfl <| .cons rfl rfl <| .cons rfl rfl <| .nil) (.nil) ?_;refine PWl.step (LR.allocZ (cs := [_, _, _, _, _, _, _, _, _, _, _, _, _, _, _, _, _, _, _]) Try.zeroValue50 rfl rfl rfl rfl) rfl ?_;refine PWl.step (LR.storeB (ns := [_, _, _, _, _, _, _, _, _, _, _, _, _, _, _, _, _, _, _]) Try.sizeOf50 rfl rfl rfl rfl rfl rfl rfl) rfl ?_;refine PWl.nil ?_;refine PWc.seq ?_;refine PWc.seq ?_;refine PWc.region ?_;refine PWl.step (LR.assign rfl) rfl ?_;refine PWl.nil ?_;refine PWc.jn (iBind h) (fun (ar23 : A16) (_ : Unit) => ⟨78, [(7, .d (.v (.pointer none))), (8, .d (.v (.int .i64 1))), (9, .ref 9 0)], [(9, .cells 50 [.d (.v (.int .u64 (IntKind.u64.wrap head1.1))), .d (.v (.int .u16 head1.2)), .d (.sl (List.map TMember.e members2)), .d (.v (.int .u64 ar23.1)), .d (.v (.int .u64 ar23.2.1)), .d (.v (.int .u64 ar23.2.2.1)), .d (.v (.int .u64 ar23.2.2.2.1)), .d (.v (.int .u64 ar23.2.2.2.2.1)), .d (.v (.int .u64 ar23.2.2.2.2.2.1)), .d (.v (.int .u64 ar23.2.2.2.2.2.2.1)), .d (.v (.int .u64 ar23.2.2.2.2.2.2.2.1)), .d (.v (.int .u64 ar23.2.2.2.2.2.2.2.2.1)), .d (.v (.int .u64 ar23.2.2.2.2.2.2.2.2.2.1)), .d (.v (.int .u64 ar23.2.2.2.2.2.2.2.2.2.2.1)), .d (.v (.int .u64 ar23.2.2.2.2.2.2.2.2.2.2.2.1)), .d (.v (.int .u64 ar23.2.2.2.2.2.2.2.2.2.2.2.2.1)), .d (.v (.int .u64 ar23.2.2.2.2.2.2.2.2.2.2.2.2.2.1)), .d (.v (.int .u64 ar23.2.2.2.2.2.2.2.2.2.2.2.2.2.2.1)), .d (.v (.int .u64 ar23.2.2.2.2.2.2.2.2.2.2.2.2.2.2.2))])]⟩) (fun h => ?_) ?_
          · refine PWc.block ?_;refine PWc.loopM (fun (⟨i33, ar34⟩ : Int × A16) (_ : Unit) => ⟨78, [(2, .d (.sl (List.map (eK .u64) tries3))), (7, .d (.v (.pointer none))), (8, .d (.v (.int .i64 1))), (9, .ref 9 0), (10, .d (.v (.int .i64 i33)))], [(9, .cells 50 [.d (.v (.int .u64 (IntKind.u64.wrap head1.1))), .d (.v (.int .u16 head1.2)), .d (.sl (List.map TMember.e members2)), .d (.v (.int .u64 ar34.1)), .d (.v (.int .u64 ar34.2.1)), .d (.v (.int .u64 ar34.2.2.1)), .d (.v (.int .u64 ar34.2.2.2.1)), .d (.v (.int .u64 ar34.2.2.2.2.1)), .d (.v (.int .u64 ar34.2.2.2.2.2.1)), .d (.v (.int .u64 ar34.2.2.2.2.2.2.1)), .d (.v (.int .u64 ar34.2.2.2.2.2.2.2.1)), .d (.v (.int .u64 ar34.2.2.2.2.2.2.2.2.1)), .d (.v (.int .u64 ar34.2.2.2.2.2.2.2.2.2.1)), .d (.v (.int .u64 ar34.2.2.2.2.2.2.2.2.2.2.1)), .d (.v (.int .u64 ar34.2.2.2.2.2.2.2.2.2.2.2.1)), .d (.v (.int .u64 ar34.2.2.2.2.2.2.2.2.2.2.2.2.1)), .d (.v (.int .u64 ar34.2.2.2.2.2.2.2.2.2.2.2.2.2.1)), .d (.v (.int .u64 ar34.2.2.2.2.2.2.2.2.2.2.2.2.2.2.1)), .d (.v (.int .u64 ar34.2.2.2.2.2.2.2.2.2.2.2.2.2.2.2))])]⟩) () h (Sub.of rfl (.cons rfl rfl <| .cons rfl rfl <| .cons rfl rfl <| .cons rfl rfl <| .cons rfl rfl <| .nil) (.cons rfl rfl <| .nil)) ?_;rintro N ⟨i33, ar34⟩ _ h;refine PWc.seq ?_;refine PWc.seq ?_;refine PWc.region ?_;refine PWl.step (LR.move rfl) rfl ?_;refine PWl.step (LR.lss rfl rfl) rfl ?_;refine PWl.nil ?_;refine PWc.cond rfl (fun hc35 => ?_) (fun hc35 => ?_)
            · replace h := iT hc35 h;refine PWc.skip ?_;refine PWc.seq ?_;refine PWc.block ?_;refine PWc.region ?_;refine PWl.step (LR.move rfl) rfl ?_;refine PWl.step (LR.move rfl) rfl ?_;refine PWl.step (LR.move rfl) rfl ?_;replace h := iIdx h;obtain ⟨x36, hy37, h⟩ := h;refine PWl.step (LR.idxT (enc := (eK .u64)) (L := tries3) (y := x36) Try.underlying44 Try.sizeOf28 rfl rfl hy37 (fun _ => rfl)) rfl ?_;refine PWl.step (LR.loadEp Try.isAgg28 rfl rfl) rfl ?_;refine PWl.step (LR.fieldRef Try.underlying50 rfl Try.sizeOf48 (by decide) rfl rfl) rfl ?_;replace h := iNeed h;obtain ⟨hy38, h⟩ := h;refine PWl.step (LR.idxArr Try.underlying48 rfl Try.sizeOf28 rfl rfl hy38) rfl ?_;refine PWl.step (LR.storeArr (ns := [_, _, _, _, _, _, _, _, _, _, _, _, _, _, _, _, _, _, _]) .u64 ar34 Try.sizeOf28 rfl rfl rfl hy38 rfl rfl) rfl ?_;refine PWl.nil ?_;refine PWc.region ?_;refine PWl.step (LR.move rfl) rfl ?_;refine PWl.step (LR.addW rfl rfl) rfl ?_;refine PWl.step (LR.assign rfl) rfl ?_;refine PWl.nil ?_;exact ⟨((IntKind.i64.wrap (i33 + 1)), (AR.set ar34 (Int.toNat i33) x36)), (), h, Sub.of rfl (.cons rfl rfl <| .cons rfl rfl <| .cons rfl rfl <| .cons rfl rfl <| .cons rfl rfl <| .nil) (.cons rfl rfl <| .nil)⟩
            · replace h := iF hc35 h;refine PWc.exit ?_;exact ⟨ar34, (), h, Sub.of rfl (.cons rfl rfl <| .cons rfl rfl <| .cons rfl rfl <| .nil) (.cons rfl rfl <| .nil)⟩
          · rintro ar23 _ h;refine PWc.seq ?_;refine PWc.region ?_;refine PWl.step (LR.move rfl) rfl ?_;refine PWl.step (LR.eql rfl rfl) rfl ?_;refine PWl.step (LR.move rfl) rfl ?_;refine PWl.guardF rfl rfl rfl (by decide) ?_;refine PWl.guardF rfl rfl rfl (by decide) ?_;refine PWl.guardF rfl rfl rfl (by decide) ?_;refine PWl.guardF rfl rfl rfl (by decide) ?_;refine PWl.step (LR.pickF rfl rfl) rfl ?_;refine PWl.step (LR.move rfl) rfl ?_;refine PWl.guardF rfl rfl rfl (by decide) ?_;refine PWl.step (LR.pickF rfl rfl) rfl ?_;refine PWl.step (LR.assign rfl) rfl ?_;refine PWl.nil ?_;refine PWc.ret ?_;replace h : _ = r0 := h;subst h;exact ⟨.inr rfl, _, .cons (.tmp rfl rfl) <| .nil, rfl⟩
      · replace h := iSumR h;refine PWl.step (LR.callObj [(26, 20560), (20521, 20561)] [] [26, 20521] (roster_From_o_ok (IntKind.u64.wrap head1.1) head1.2 members2 tries3 (.inr z39) hy12) hK rfl Try.call15 rfl (by first | rfl | (simp; done) | (simp [PV.nilD, PV.ren, rn]; omega)) (.nil) rfl rfl rfl rfl) rfl ?_;refine PWl.step (LR.move rfl) rfl ?_;refine PWl.step (LR.extract rfl rfl) rfl ?_;refine PWl.step (LR.extract rfl rfl) rfl ?_;refine PWl.step (LR.assign rfl) rfl ?_;refine PWl.step (LR.assign rfl) rfl ?_;refine PWl.nil ?_;refine PWc.seq ?_;refine PWc.seq ?_;refine PWc.re (tl := [(1, _), (2, _), (3, _), (7, _), (8, _)]) (to := [(3, _), (20560, _), (20561, _)]) rfl (.cons rfl rfl <| .cons rfl rfl <| .cons rfl rfl <| .cons rfl rfl <| .cons rfl rfl <| .nil) (.cons rfl rfl <| .cons rfl rfl <| .cons rfl rfl <| .nil) ?_;refine PWc.region ?_;refine PWl.step (LR.idxArrK (j := 0) Try.underlying43 rfl Try.sizeOf27 rfl rfl rfl rfl) rfl ?_;refine PWl.step (LR.loadRef Try.isAgg27 rfl rfl rfl) rfl ?_;refine PWl.step (LR.convInt Try.underlying28 (by rw [Try.underlying27]; rfl) rfl rfl) rfl ?_;refine PWl.step (LR.idxArrK (j := 1) Try.underlying43 rfl Try.sizeOf27 rfl rfl rfl rfl) rfl ?_;refine PWl.step (LR.loadRef Try.isAgg27 rfl rfl rfl) rfl ?_;refine PWl.step (LR.move rfl) rfl ?_;refine PWl.step (LR.move rfl) rfl ?_;replace h := iDet h;obtain ⟨v42, hy43, h⟩ := h;refine PWl.step (LR.callN (r26_From_ok (IntKind.u64.wrap head1.1) head1.2 members2 tries3 v42 hy43) rfl Try.call16 rfl rfl rfl rfl) rfl ?_;refine PWl.step (LR.not rfl) rfl ?_;refine PWl.nil ?_;refine PWc.cond rfl (fun hc44 => ?_) (fun hc44 => ?_)
        · replace h := iT hc44 h;refine PWc.seq ?_;refine PWc.region ?_;refine PWl.step (LR.move rfl) rfl ?_;refine PWl.step (LR.eqlPtr Try.underlying24 rfl) rfl ?_;refine PWl.step (LR.move rfl) rfl ?_;refine PWl.guardF rfl rfl rfl (by decide) ?_;refine PWl.guardF rfl rfl rfl (by decide) ?_;refine PWl.step (LR.pickF rfl rfl) rfl ?_;refine PWl.step (LR.move rfl) rfl ?_;refine PWl.re (tl := [(46, _)]) (to := []) rfl (.cons rfl rfl <| .nil) (.nil) ?_;refine PWl.guardF rfl rfl rfl (by decide) ?_;refine PWl.step (LR.pickF rfl rfl) rfl ?_;refine PWl.step (LR.assign rfl) rfl ?_;refine PWl.nil ?_;refine PWc.ret ?_;replace h : _ = r0 := h;subst h;exact ⟨.inr rfl, _, .cons (.tmp rfl rfl) <| .nil, rfl⟩
        · replace h := iF hc44 h;refine PWc.skip ?_;refine PWc.seq ?_;refine PWc.region ?_;refine PWl.step (LR.idxArrK (j := 0) Try.underlying43 rfl Try.sizeOf27 rfl rfl rfl rfl) rfl ?_;refine PWl.step (LR.loadRef Try.isAgg27 rfl rfl rfl) rfl ?_;refine PWl.step (LR.convInt Try.underlying28 (by rw [Try.underlying27]; rfl) rfl rfl) rfl ?_;refine PWl.step (LR.idxArrK (j := 1) Try.underlying43 rfl Try.sizeOf27 rfl rfl rfl rfl) rfl ?_;refine PWl.step (LR.loadRef Try.isAgg27 rfl rfl rfl) rfl ?_;refine PWl.step (LR.move rfl) rfl ?_;refine PWl.step (LR.build (ns := [_, _, _, _, _, _, _, _, _, _, _, _, _, _, _, _, _, _, _]) build50 rfl rfl rfl) rfl ?_;refine PWl.re (tl := [(2, _), (7, _), (8, _), (55, _)]) (to := [(20560, _), (20561, _)]) rfl (.cons rfl rfl <| .cons rfl rfl <| .cons rfl rfl <| .cons rfl rfl <| .nil) (.cons rfl rfl <| .cons rfl rfl <| .nil) ?_;refine PWl.step (LR.allocZ (cs := [_, _, _, _, _, _, _, _, _, _, _, _, _, _, _, _, _, _, _]) Try.zeroValue50 rfl rfl rfl rfl) rfl ?_;refine PWl.step (LR.storeB (ns := [_, _, _, _, _, _, _, _, _, _, _, _, _, _, _, _, _, _, _]) Try.sizeOf50 rfl rfl rfl rfl rfl rfl rfl) rfl ?_;refine PWl.nil ?_;refine PWc.seq ?_;refine PWc.seq ?_;refine PWc.region ?_;refine PWl.step (LR.assign rfl) rfl ?_;refine PWl.nil ?_;refine PWc.jn (iBind h) (fun (ar47 : A16) (_ : Unit) => ⟨78, [(7, .ref 20560 0), (8, .d (.v (.int .i64 0))), (9, .ref 9 0)], [(9, .cells 50 [.d (.v (.int .u64 (IntKind.u64.wrap head1.1))), .d (.v (.int .u16 head1.2)), .d (.sl (List.map TMember.e members2)), .d (.v (.int .u64 ar47.1)), .d (.v (.int .u64 ar47.2.1)), .d (.v (.int .u64 ar47.2.2.1)), .d (.v (.int .u64 ar47.2.2.2.1)), .d (.v (.int .u64 ar47.2.2.2.2.1)), .d (.v (.int .u64 ar47.2.2.2.2.2.1)), .d (.v (.int .u64 ar47.2.2.2.2.2.2.1)), .d (.v (.int .u64 ar47.2.2.2.2.2.2.2.1)), .d (.v (.int .u64 ar47.2.2.2.2.2.2.2.2.1)), .d (.v (.int .u64 ar47.2.2.2.2.2.2.2.2.2.1)), .d (.v (.int .u64 ar47.2.2.2.2.2.2.2.2.2.2.1)), .d (.v (.int .u64 ar47.2.2.2.2.2.2.2.2.2.2.2.1)), .d (.v (.int .u64 ar47.2.2.2.2.2.2.2.2.2.2.2.2.1)), .d (.v (.int .u64 ar47.2.2.2.2.2.2.2.2.2.2.2.2.2.1)), .d (.v (.int .u64 ar47.2.2.2.2.2.2.2.2.2.2.2.2.2.2.1)), .d (.v (.int .u64 ar47.2.2.2.2.2.2.2.2.2.2.2.2.2.2.2))]), (20560, .cells 55 [.d (.v (.int .u64 z39.1)), .d (.v (.int .u16 z39.2.1)), .mp 20561, .d (.v (.int .u64 z39.2.2.1.1)), .d (.v (.int .u64 z39.2.2.1.2.1)), .d (.v (.int .u64 z39.2.2.1.2.2.1)), .d (.v (.int .u64 z39.2.2.1.2.2.2.1)), .d (.v (.int .u64 z39.2.2.1.2.2.2.2.1)), .d (.v (.int .u64 z39.2.2.1.2.2.2.2.2.1)), .d (.v (.int .u64 z39.2.2.1.2.2.2.2.2.2.1)), .d (.v (.int .u64 z39.2.2.1.2.2.2.2.2.2.2.1)), .d (.v (.int .u64 z39.2.2.1.2.2.2.2.2.2.2.2.1)), .d (.v (.int .u64 z39.2.2.1.2.2.2.2.2.2.2.2.2.1)), .d (.v (.int .u64 z39.2.2.1.2.2.2.2.2.2.2.2.2.2.1)), .d (.v (.int .u64 z39.2.2.1.2.2.2.2.2.2.2.2.2.2.2.1)), .d (.v (.int .u64 z39.2.2.1.2.2.2.2.2.2.2.2.2.2.2.2.1)), .d (.v (.int .u64 z39.2.2.1.2.2.2.2.2.2.2.2.2.2.2.2.2.1)), .d (.v (.int .u64 z39.2.2.1.2.2.2.2.2.2.2.2.2.2.2.2.2.2.1)), .d (.v (.int .u64 z39.2.2.1.2.2.2.2.2.2.2.2.2.2.2.2.2.2.2))]), (20561, .mapH z39.2.2.2.1 [.u16] true (encM kI TMember.e z39.2.2.2.2))]⟩) (fun h => ?_) ?_
          · refine PWc.block ?_;refine PWc.loopM (fun (⟨i57, ar58⟩ : Int × A16) (_ : Unit) => ⟨78, [(2, .d (.sl (List.map (eK .u64) tries3))), (7, .ref 20560 0), (8, .d (.v (.int .i64 0))), (9, .ref 9 0), (10, .d (.v (.int .i64 i57)))], [(9, .cells 50 [.d (.v (.int .u64 (IntKind.u64.wrap head1.1))), .d (.v (.int .u16 head1.2)), .d (.sl (List.map TMember.e members2)), .d (.v (.int .u64 ar58.1)), .d (.v (.int .u64 ar58.2.1)), .d (.v (.int .u64 ar58.2.2.1)), .d (.v (.int .u64 ar58.2.2.2.1)), .d (.v (.int .u64 ar58.2.2.2.2.1)), .d (.v (.int .u64 ar58.2.2.2.2.2.1)), .d (.v (.int .u64 ar58.2.2.2.2.2.2.1)), .d (.v (.int .u64 ar58.2.2.2.2.2.2.2.1)), .d (.v (.int .u64 ar58.2.2.2.2.2.2.2.2.1)), .d (.v (.int .u64 ar58.2.2.2.2.2.2.2.2.2.1)), .d (.v (.int .u64 ar58.2.2.2.2.2.2.2.2.2.2.1)), .d (.v (.int .u64 ar58.2.2.2.2.2.2.2.2.2.2.2.1)), .d (.v (.int .u64 ar58.2.2.2.2.2.2.2.2.2.2.2.2.1)), .d (.v (.int .u64 ar58.2.2.2.2.2.2.2.2.2.2.2.2.2.1)), .d (.v (.int .u64 ar58.2.2.2.2.2.2.2.2.2.2.2.2.2.2.1)), .d (.v (.int .u64 ar58.2.2.2.2.2.2.2.2.2.2.2.2.2.2.2))]), (20560, .cells 55 [.d (.v (.int .u64 z39.1)), .d (.v (.int .u16 z39.2.1)), .mp 20561, .d (.v (.int .u64 z39.2.2.1.1)), .d (.v (.int .u64 z39.2.2.1.2.1)), .d (.v (.int .u64 z39.2.2.1.2.2.1)), .d (.v (.int .u64 z39.2.2.1.2.2.2.1)), .d (.v (.int .u64 z39.2.2.1.2.2.2.2.1)), .d (.v (.int .u64 z39.2.2.1.2.2.2.2.2.1)), .d (.v (.int .u64 z39.2.2.1.2.2.2.2.2.2.1)), .d (.v (.int .u64 z39.2.2.1.2.2.2.2.2.2.2.1)), .d (.v (.int .u64 z39.2.2.1.2.2.2.2.2.2.2.2.1)), .d (.v (.int .u64 z39.2.2.1.2.2.2.2.2.2.2.2.2.1)), .d (.v (.int .u64 z39.2.2.1.2.2.2.2.2.2.2.2.2.2.1)), .d (.v (.int .u64 z39.2.2.1.2.2.2.2.2.2.2.2.2.2.2.1)), .d (.v (.int .u64 z39.2.2.1.2.2.2.2.2.2.2.2.2.2.2.2.1)), .d (.v (.int .u64 z39.2.2.1.2.2.2.2.2.2.2.2.2.2.2.2.2.1)), .d (.v (.int .u64 z39.2.2.1.2.2.2.2.2.2.2.2.2.2.2.2.2.2.1)), .d (.v (.int .u64 z39.2.2.1.2.2.2.2.2.2.2.2.2.2.2.2.2.2.2))]), (20561, .mapH z39.2.2.2.1 [.u16] true (encM kI TMember.e z39.2.2.2.2))]⟩) () h (Sub.of rfl (.cons rfl rfl <| .cons rfl rfl <| .cons rfl rfl <| .cons rfl rfl <| .cons rfl rfl <| .nil) (.cons rfl rfl <| .cons rfl rfl <| .cons rfl rfl <| .nil)) ?_;rintro N ⟨i57, ar58⟩ _ h;refine PWc.seq ?_;refine PWc.seq ?_;refine PWc.region ?_;refine PWl.step (LR.move rfl) rfl ?_;refine PWl.step (LR.lss rfl rfl) rfl ?_;refine PWl.nil ?_;refine PWc.cond rfl (fun hc59 => ?_) (fun hc59 => ?_)
            · replace h := iT hc59 h;refine PWc.skip ?_;refine PWc.seq ?_;refine PWc.block ?_;refine PWc.region ?_;refine PWl.step (LR.move rfl) rfl ?_;refine PWl.step (LR.move rfl) rfl ?_;refine PWl.step (LR.move rfl) rfl ?_;replace h := iIdx h;obtain ⟨x60, hy61, h⟩ := h;refine PWl.step (LR.idxT (enc := (eK .u64)) (L := tries3) (y := x60) Try.underlying44 Try.sizeOf28 rfl rfl hy61 (fun _ => rfl)) rfl ?_;refine PWl.step (LR.loadEp Try.isAgg28 rfl rfl) rfl ?_;refine PWl.step (LR.fieldRef Try.underlying50 rfl Try.sizeOf48 (by decide) rfl rfl) rfl ?_;replace h := iNeed h;obtain ⟨hy62, h⟩ := h;refine PWl.step (LR.idxArr Try.underlying48 rfl Try.sizeOf28 rfl rfl hy62) rfl ?_;refine PWl.step (LR.storeArr (ns := [_, _, _, _, _, _, _, _, _, _, _, _, _, _, _, _, _, _, _]) .u64 ar58 Try.sizeOf28 rfl rfl rfl hy62 rfl rfl) rfl ?_;refine PWl.nil ?_;refine PWc.region ?_;refine PWl.step (LR.move rfl) rfl ?_;refine PWl.step (LR.addW rfl rfl) rfl ?_;refine PWl.step (LR.assign rfl) rfl ?_;refine PWl.nil ?_;exact ⟨((IntKind.i64.wrap (i57 + 1)), (AR.set ar58 (Int.toNat i57) x60)), (), h, Sub.of rfl (.cons rfl rfl <| .cons rfl rfl <| .cons rfl rfl <| .cons rfl rfl <| .cons rfl rfl <| .nil) (.cons rfl rfl <| .cons rfl rfl <| .cons rfl rfl <| .nil)⟩
            · replace h := iF hc59 h;refine PWc.exit ?_;exact ⟨ar58, (), h, Sub.of rfl (.cons rfl rfl <| .cons rfl rfl <| .cons rfl rfl <| .nil) (.cons rfl rfl <| .cons rfl rfl <| .cons rfl rfl <| .nil)⟩
          · rintro ar47 _ h;refine PWc.seq ?_;refine PWc.jn (iBind h) (fun (v63 : Bool) (_ : Unit) => ⟨78, [(6, .d (.v (.bool v63)))], []⟩) (fun h => ?_) ?_
            · refine PWc.region ?_;refine PWl.step (LR.move rfl) rfl ?_;refine PWl.step (LR.eql rfl rfl) rfl ?_;refine PWl.step (LR.move rfl) rfl ?_;refine PWl.guardT (LR.move rfl) rfl rfl rfl ?_;refine PWl.guardT (LR.loadRefAgg (ps := [_, _, _, _, _, _, _, _, _, _, _, _, _, _, _, _, _, _, _]) Try.isAgg50 Try.sizeOf50 rfl rfl rfl rfl) rfl rfl rfl ?_;replace h := iDet h;obtain ⟨y64, hy65, h⟩ := h;refine PWl.guardT (LR.callObjS [(100, 20560), (101, 20561)] [] [100, 101] [] [(100, .cells 55 [.d (.v (.int .u64 z39.1)), .d (.v (.int .u16 z39.2.1)), .mp 101, .d (.v (.int .u64 z39.2.2.1.1)), .d (.v (.int .u64 z39.2.2.1.2.1)), .d (.v (.int .u64 z39.2.2.1.2.2.1)), .d (.v (.int .u64 z39.2.2.1.2.2.2.1)), .d (.v (.int .u64 z39.2.2.1.2.2.2.2.1)), .d (.v (.int .u64 z39.2.2.1.2.2.2.2.2.1)), .d (.v (.int .u64 z39.2.2.1.2.2.2.2.2.2.1)), .d (.v (.int .u64 z39.2.2.1.2.2.2.2.2.2.2.1)), .d (.v (.int .u64 z39.2.2.1.2.2.2.2.2.2.2.2.1)), .d (.v (.int .u64 z39.2.2.1.2.2.2.2.2.2.2.2.2.1)), .d (.v (.int .u64 z39.2.2.1.2.2.2.2.2.2.2.2.2.2.1)), .d (.v (.int .u64 z39.2.2.1.2.2.2.2.2.2.2.2.2.2.2.1)), .d (.v (.int .u64 z39.2.2.1.2.2.2.2.2.2.2.2.2.2.2.2.1)), .d (.v (.int .u64 z39.2.2.1.2.2.2.2.2.2.2.2.2.2.2.2.2.1)), .d (.v (.int .u64 z39.2.2.1.2.2.2.2.2.2.2.2.2.2.2.2.2.2.1)), .d (.v (.int .u64 z39.2.2.1.2.2.2.2.2.2.2.2.2.2.2.2.2.2.2))]), (101, .mapH z39.2.2.2.1 [.u16] true (encM kI TMember.e z39.2.2.2.2))] (l26_Is_o_ok (⟨(IntKind.u64.wrap head1.1), head1.2, members2, ar47⟩ : R26Roster) z39.1 z39.2.1 z39.2.2.1 z39.2.2.2.1 z39.2.2.2.2 y64 hy65) hK rfl Try.call17 rfl (by first | rfl | (simp; done) | (simp [PV.nilD, PV.ren, rn]; omega)) (.cons (by first | rfl | (congr 1; first | (simp; done) | (simp; omega) | omega)) <| .cons (by first | rfl | (congr 1; first | (simp; done) | (simp; omega) | omega)) <| .nil) (.nil) (.cons rfl <| .cons rfl <| .nil) (.cons (by first | rfl | (congr 1; first | (simp; done) | (simp; omega) | omega)) <| .cons (by first | rfl | (congr 1; first | (simp; done) | (simp; omega) | omega)) <| .nil) rfl rfl rfl rfl rfl rfl) rfl rfl rfl ?_;refine PWl.guardT (LR.eql rfl rfl) rfl rfl rfl ?_;refine PWl.step (LR.pickT rfl rfl) rfl ?_;refine PWl.step (LR.move rfl) rfl ?_;refine PWl.split (d := 75) rfl (fun hg66 => ?_) (fun hg66 => ?_)
              · replace h := iT hg66 h;replace h := iDet h;obtain ⟨v67, hy68, h⟩ := h;refine PWl.guardT (LR.callN (l26_works_ok v67 hy68) rfl Try.call7 rfl rfl rfl rfl) rfl rfl rfl ?_;refine PWl.step (LR.pickT rfl rfl) rfl ?_;refine PWl.step (LR.assign rfl) rfl ?_;refine PWl.nil ?_;exact ⟨v67, (), h, Sub.of rfl (.cons rfl rfl <| .nil) (.nil)⟩
              · replace h := iF hg66 h;refine PWl.guardF rfl rfl rfl (by decide) ?_;refine PWl.step (LR.pickF rfl rfl) rfl ?_;refine PWl.step (LR.assign rfl) rfl ?_;refine PWl.nil ?_;exact ⟨false, (), h, Sub.of rfl (.cons rfl rfl <| .nil) (.nil)⟩
            · rintro v63 _ h;refine PWc.ret ?_;replace h : _ = r0 := h;subst h;exact ⟨.inr rfl, _, .cons (.tmp rfl rfl) <| .nil, rfl⟩

end Go.Proofs

namespace Go.Ep
open Go

theorem wI64 {n : Int} (h : -9223372036854775808 ≤ n) (h' : n ≤ 9223372036854775807) : IntKind.i64.wrap n = n := by simp [IntKind.wrap, IntKind.bits, IntKind.signed]; omega
theorem wU64 {n : Int} (h : 0 ≤ n) (h' : n ≤ 18446744073709551615) : IntKind.u64.wrap n = n := by simp [IntKind.wrap, IntKind.bits, IntKind.signed]; omega
theorem wU16 {n : Int} (h : 0 ≤ n) (h' : n ≤ 65535) : IntKind.u16.wrap n = n := by simp [IntKind.wrap, IntKind.bits, IntKind.signed]; omega
theorem wSucc {i : Nat} (h : i < 9223372036854775807) : IntKind.i64.wrap ((i : Int) + 1) = ((i + 1 : Nat) : Int) := by rw [wI64 (by omega) (by omega)]; rfl
namespace M
variable {α β σ ρ τ ε : Type}
/-- What came, as a list. -/
def came {ε : Type} (m : List ε) (L : List Nat) : List ε := L.filterMap fun i => m[i]?
theorem came_snoc {m : List ε} {L : List Nat} {i : Nat} {y : ε} (h : m[i]? = some y) : came m (L ++ [i]) = came m L ++ [y] := by simp [came, h]
theorem all_perm {n : Nat} {L : List Nat} (hn : L.Nodup) (hb : ∀ i ∈ L, i < n) (ha : ∀ i, i < n → i ∈ L) : L.Perm (List.range n) := by
  refine (List.perm_ext_iff_of_nodup hn List.nodup_range).2 fun i => ?_
  rw [List.mem_range]
  exact ⟨hb i, ha i⟩
theorem came_perm {m : List ε} {L : List Nat} (hn : L.Nodup) (hb : ∀ i ∈ L, i < m.length) (ha : ∀ i, i < m.length → i ∈ L) : (came m L).Perm m := by
  have h1 := (all_perm hn hb ha).filterMap fun i => m[i]?
  have h2 : (List.range m.length).filterMap (fun i => m[i]?) = m := by
    apply List.ext_getElem?
    intro i
    clear h1 hn hb ha
    have : (List.range m.length).filterMap (fun i => m[i]?) = m := by
      induction m with
      | nil => rfl
      | cons x r ih =>
        rw [List.length_cons, List.range_succ_eq_map, List.filterMap_cons]
        simp only [List.getElem?_cons_zero, List.filterMap_map]
        congr 1
    rw [this]
  rw [h2] at h1
  exact h1
theorem nodup_len {n : Nat} {L : List Nat} (hn : L.Nodup) (hb : ∀ i ∈ L, i < n) : L.length ≤ n := by
  have := List.Nodup.length_le_of_subset hn (l₂ := List.range n) (fun i hi => List.mem_range.2 (hb i hi))
  simpa using this

theorem full {n : Nat} {L : List Nat} (hn : L.Nodup) (hb : ∀ i ∈ L, i < n) (hl : n ≤ L.length) : ∀ i, i < n → i ∈ L := by
  intro i hi
  refine Classical.byContradiction fun hni => ?_
  have := nodup_len (n := n) (L := i :: L) (List.nodup_cons.2 ⟨hni, hn⟩) (fun j hj => by
    rcases List.mem_cons.1 hj with rfl | hj
    · exact hi
    · exact hb j hj)
  simp at this
  omega
/-- A map is gone over; mk: the state when the places L came. -/
theorem loopM {body : σ → M (Step σ ρ)} (m : List ε) (mk : List Nat → τ → σ) (f : τ → ε → M τ) (g : τ → M ρ) (I : List ε → τ → Prop) (Q : ρ → Prop)
    (hb : ∀ L t, (∀ i ∈ L, i < m.length) → body (mk L t) = need (∀ i ∈ L, i < m.length) ((nxt m.length L).bind fun o => match o with
      | none => (g t).bind fun r => pure (.done r)
      | some i => (idx m (Int.ofNat i)).bind fun y => (f t y).bind fun t' => pure (.next (mk (L ++ [i]) t'))))
    (hs : ∀ l t y, I l t → l.length < m.length → y ∈ m → ∃ t', f t y = pure t' ∧ I (l ++ [y]) t') (he : ∀ l t, l.Perm m → I l t → (g t).wp Q) (t0 : τ) (h0 : I [] t0) : (loop body (mk [] t0)).wp Q := by
  have key : ∀ k L t, L.length + k = m.length → L.Nodup → (∀ i ∈ L, i < m.length) → I (came m L) t → loopP body Q (mk L t) := by
    intro k
    induction k with
    | zero =>
      intro L t hk hn hlt hI
      refine loopP_in ?_
      rw [hb L t hlt]
      have hall : ∀ i, i < m.length → i ∈ L := fun i hi => full hn hlt (by omega) i hi
      refine ⟨hlt, ⟨⟨none, hall⟩, fun o ho => ?_⟩⟩
      cases o with
      | none =>
        have := he _ t (came_perm hn hlt hall) hI
        exact this
      | some i => exact absurd (hall i ho.1) ho.2
    | succ k ih =>
      intro L t hk hn hlt hI
      refine loopP_in ?_
      rw [hb L t hlt]
      have hex : ∃ i, i < m.length ∧ i ∉ L := by
        refine Classical.byContradiction fun hno => ?_
        have hall : ∀ i, i < m.length → i ∈ L := fun i hi => Classical.byContradiction fun h => hno ⟨i, hi, h⟩
        have := (all_perm hn hlt hall).length_eq
        simp at this
        omega
      obtain ⟨i0, hi0⟩ := hex
      refine ⟨hlt, ⟨⟨some i0, hi0⟩, fun o ho => ?_⟩⟩
      cases o with
      | none => exact absurd (ho i0 hi0.1) hi0.2
      | some i =>
        have hi := List.getElem?_eq_getElem ho.1
        obtain ⟨t', h1, h2⟩ := hs (came m L) t m[i] hI (by have := List.length_filterMap_le (fun i => m[i]?) L; unfold came; omega) (List.getElem_mem ho.1)
        show ((idx m (Int.ofNat i)).bind _).wp _
        rw [show (Int.ofNat i) = (i : Int) from rfl, idx_nat hi, pure_bind, h1, pure_bind]
        refine ih (L ++ [i]) t' (by simp; omega) ?_ ?_ (by rw [came_snoc hi]; exact h2)
        · rw [List.nodup_append]
          refine ⟨hn, by simp, fun a ha b hb' => ?_⟩
          rw [List.mem_singleton.1 hb']
          intro e
          exact ho.2 (e ▸ ha)
        · intro j hj
          rcases List.mem_append.1 hj with hj | hj
          · exact hlt j hj
          · rw [List.mem_singleton.1 hj]; exact ho.1
  exact key m.length [] t0 (by simp) List.nodup_nil (by simp) h0

end M

namespace AL
variable {κ ν : Type} [DecidableEq κ]
theorem get_set (m : List (κ × ν)) (k q : κ) (v : ν) : get (set m k v) q = if k = q then some v else get m q := by
  induction m with
  | nil => simp [set, get]
  | cons x r ih =>
    obtain ⟨a, u⟩ := x
    by_cases h : a = k
    · subst h; simp only [set, if_true, get]; split <;> rfl
    · simp only [set, h, if_false, get, ih]
      by_cases h2 : a = q
      · subst h2; simp [Ne.symm h]
      · simp [h2]
theorem keys_set (m : List (κ × ν)) (k : κ) (v : ν) : (set m k v).map (·.1) = if k ∈ m.map (·.1) then m.map (·.1) else m.map (·.1) ++ [k] := by
  induction m with
  | nil => simp [set]
  | cons x r ih =>
    obtain ⟨a, u⟩ := x
    by_cases h : a = k
    · subst h; simp [set]
    · simp only [set, h, if_false, List.map_cons, ih, List.mem_cons, Ne.symm h, false_or]
      split <;> simp
theorem nodup_set {m : List (κ × ν)} (h : (m.map (·.1)).Nodup) (k : κ) (v : ν) : ((set m k v).map (·.1)).Nodup := by
  rw [keys_set]
  split
  · exact h
  · rename_i hk
    rw [List.nodup_append]
    refine ⟨h, by simp, fun a ha b hb => ?_⟩
    rw [List.mem_singleton.1 hb]
    intro e; exact hk (e ▸ ha)
theorem get_none {m : List (κ × ν)} {k : κ} : get m k = none ↔ k ∉ m.map (·.1) := by
  induction m with
  | nil => simp [get]
  | cons x r ih =>
    obtain ⟨a, u⟩ := x
    by_cases h : a = k
    · subst h; simp [get]
    · simp [get, h, ih, Ne.symm h]
theorem mem_get {m : List (κ × ν)} (hn : (m.map (·.1)).Nodup) {k : κ} {v : ν} (h : (k, v) ∈ m) : get m k = some v := by
  induction m with
  | nil => simp at h
  | cons x r ih =>
    obtain ⟨a, u⟩ := x
    simp only [List.map_cons, List.nodup_cons] at hn
    rcases List.mem_cons.1 h with e | h
    · cases e; simp [get]
    · have : a ≠ k := fun e => hn.1 (e ▸ List.mem_map.2 ⟨(k, v), h, rfl⟩)
      simp only [get, this, if_false]; exact ih hn.2 h
end AL
end Go.Ep

namespace Go.Ep.M.H
open Go

section
variable {κ ν : Type} [DecidableEq κ]
theorem del_sub (m : List (κ × ν)) (x : κ) : (AL.del m x).Sublist m := by
  induction m with
  | nil => exact List.Sublist.slnil
  | cons k r ih =>
    obtain ⟨k, v⟩ := k
    unfold AL.del
    split
    · exact List.sublist_cons_self _ _
    · exact ih.cons_cons _
theorem mem_del {m : List (κ × ν)} (hn : (m.map (·.1)).Nodup) (x : κ) (k : κ × ν) : k ∈ AL.del m x ↔ k ∈ m ∧ k.1 ≠ x := by
  induction m with
  | nil => simp [AL.del]
  | cons y r ih =>
    obtain ⟨q, v⟩ := y
    rw [List.map_cons, List.nodup_cons] at hn
    unfold AL.del
    split
    · rename_i e
      subst e
      rw [List.mem_cons]
      constructor
      · intro h; exact ⟨.inr h, fun e => hn.1 (e ▸ List.mem_map.2 ⟨k, h, rfl⟩)⟩
      · rintro ⟨h | h, h2⟩
        · subst h; exact absurd rfl h2
        · exact h
    · rename_i e
      rw [List.mem_cons, List.mem_cons, ih hn.2]
      constructor
      · rintro (h | ⟨h, h2⟩)
        · subst h; exact ⟨.inl rfl, e⟩
        · exact ⟨.inr h, h2⟩
      · rintro ⟨h | h, h2⟩
        · exact .inl h
        · exact .inr ⟨h, h2⟩
theorem mem_set {m : List (κ × ν)} (hn : (m.map (·.1)).Nodup) (x : κ) (v : ν) (k : κ × ν) : k ∈ AL.set m x v ↔ (k ∈ m ∧ k.1 ≠ x) ∨ k = (x, v) := by
  induction m with
  | nil => simp [AL.set]
  | cons y r ih =>
    obtain ⟨q, u⟩ := y
    rw [List.map_cons, List.nodup_cons] at hn
    unfold AL.set
    split
    · rename_i e
      subst e
      rw [List.mem_cons, List.mem_cons]
      constructor
      · rintro (h | h)
        · exact .inr h
        · exact .inl ⟨.inr h, fun e => hn.1 (e ▸ List.mem_map.2 ⟨k, h, rfl⟩)⟩
      · rintro (⟨h | h, h2⟩ | h)
        · subst h; exact absurd rfl h2
        · exact .inr h
        · exact .inl h
    · rename_i e
      rw [List.mem_cons, List.mem_cons, ih hn.2]
      constructor
      · rintro (h | ⟨h, h2⟩ | h)
        · subst h; exact .inl ⟨.inl rfl, e⟩
        · exact .inl ⟨.inr h, h2⟩
        · exact .inr h
      · rintro (⟨h | h, h2⟩ | h)
        · exact .inl h
        · exact .inr (.inl ⟨h, h2⟩)
        · exact .inr (.inr h)
end

theorem loopFind {ε ρ : Type} {body : Int → M (Step Int (Ex Unit ρ))} (l : List ε) (p : ε → Bool) (r : ε → ρ)
    (h1 : ∀ (i : Nat) (x : ε), l[i]? = some x → i < l.length → body (i : Int) = if p x then pure (.done (.ret (r x))) else pure (.next ((i + 1 : Nat) : Int)))
    (h2 : body (l.length : Int) = pure (.done (.brk ()))) : loop body 0 = pure (match l.find? p with | some x => .ret (r x) | none => .brk ()) := by
  have key : ∀ k i, i + k = l.length → loop body (i : Int) = pure (match (l.drop i).find? p with | some x => .ret (r x) | none => .brk ()) := by
    intro k
    induction k with
    | zero =>
      intro i hi
      have : i = l.length := by omega
      subst this
      rw [loop_done h2, List.drop_length]
      rfl
    | succ k ih =>
      intro i hi
      have hlt : i < l.length := by omega
      have h3 := h1 i l[i] (List.getElem?_eq_getElem hlt) hlt
      rw [List.drop_eq_getElem_cons hlt, List.find?_cons]
      by_cases hp : p l[i] = true
      · rw [if_pos hp] at h3
        rw [loop_done h3, hp]
      · rw [if_neg hp] at h3
        rw [loop_next h3, ih (i + 1) (by omega)]
        simp only [hp]
  simpa using key l.length 0 (by omega)
theorem loopE {ε σ ρ τ : Type} {body : σ → M (Step σ ρ)} (l : List ε) (mk : Nat → τ → σ) (I : Nat → τ → Prop) (Q : ρ → Prop)
    (h1 : ∀ (i : Nat) (x : ε) (t : τ), l[i]? = some x → i < l.length → I i t → ∃ t', body (mk i t) = pure (.next (mk (i + 1) t')) ∧ I (i + 1) t')
    (h2 : ∀ t, I l.length t → ∃ r, body (mk l.length t) = pure (.done r) ∧ Q r) (t0 : τ) (h0 : I 0 t0) : ∃ r, loop body (mk 0 t0) = pure r ∧ Q r := by
  have key : ∀ k i t, i + k = l.length → I i t → ∃ r, loop body (mk i t) = pure r ∧ Q r := by
    intro k
    induction k with
    | zero =>
      intro i t hi hI
      have : i = l.length := by omega
      subst this
      obtain ⟨r, h3, h4⟩ := h2 t hI
      exact ⟨r, loop_done h3, h4⟩
    | succ k ih =>
      intro i t hi hI
      have hlt : i < l.length := by omega
      obtain ⟨t', h3, h4⟩ := h1 i l[i] t (List.getElem?_eq_getElem hlt) hlt hI
      rw [loop_next h3]
      exact ih (i + 1) t' (by omega) h4
  exact key l.length 0 t0 (by omega) h0

def SrtM (l : List TMember) : Prop := l.Pairwise fun x y => x.dev < y.dev
theorem srtM_ext : ∀ {l l' : List TMember}, SrtM l → SrtM l' → (∀ d, d ∈ l ↔ d ∈ l') → l = l'
  | [], [], _, _, _ => rfl
  | [], y :: r, _, _, h => by have := (h y).2 (by simp); simp at this
  | x :: r, [], _, _, h => by have := (h x).1 (by simp); simp at this
  | x :: r, y :: t, h1, h2, h => by
    have hx := (h x).1 (by simp)
    have hy := (h y).2 (by simp)
    have e : x = y := by
      rcases List.mem_cons.1 hx with e | hx
      · exact e
      · rcases List.mem_cons.1 hy with e | hy
        · exact e.symm
        · have a1 := (List.pairwise_cons.1 h2).1 x hx
          have a2 := (List.pairwise_cons.1 h1).1 y hy
          omega
    subst e
    congr 1
    refine srtM_ext (List.pairwise_cons.1 h1).2 (List.pairwise_cons.1 h2).2 fun d => ?_
    have h3 := h d
    simp only [List.mem_cons] at h3
    constructor
    · intro hd
      rcases h3.1 (.inr hd) with e | h4
      · have := (List.pairwise_cons.1 h1).1 d hd
        rw [e] at this; omega
      · exact h4
    · intro hd
      rcases h3.2 (.inr hd) with e | h4
      · have := (List.pairwise_cons.1 h2).1 d hd
        rw [e] at this; omega
      · exact h4
theorem srtM_devs {l : List TMember} (h : SrtM l) : (l.map (·.dev)).Nodup := by
  unfold List.Nodup
  rw [List.pairwise_map]
  exact h.imp fun {a b} h => by omega
theorem srtM_of {s : List TMember} (hn : (s.map (·.dev)).Nodup) (h : s.Pairwise fun x y => ltMember y x = false) : SrtM s := by
  unfold List.Nodup at hn
  rw [List.pairwise_map] at hn
  refine (hn.and h).imp fun {a b} ⟨h1, h2⟩ => ?_
  unfold ltMember at h2
  have := of_decide_eq_false h2
  omega
theorem srt_wpM {l : List TMember} {Q : List TMember → Prop} (h : ∀ s, s.Perm l → (s.Pairwise fun x y => ltMember y x = false) → Q s) : (srt ltMember l).wp Q := by
  refine ⟨⟨l.mergeSort (fun x y => !ltMember y x), List.mergeSort_perm _ _, ?_⟩, fun s ⟨h1, h2⟩ => h s h1 h2⟩
  refine (List.pairwise_mergeSort (fun a b c h1 h2 => ?_) (fun a b => ?_) l).imp fun {x y} h => by simpa using h
  · simp [ltMember] at h1 h2 ⊢; omega
  · simp [ltMember]; omega

def ent (e : TMember) : Int × TMember := (e.dev, e)
theorem ent_inj {a b : TMember} (h : ent a = ent b) : a = b := (Prod.mk.inj h).2
theorem mem_ent {l : List TMember} {k : Int × TMember} : k ∈ l.map ent ↔ k.2 ∈ l ∧ k.1 = k.2.dev := by
  rw [List.mem_map]
  constructor
  · rintro ⟨e, h, rfl⟩; exact ⟨h, rfl⟩
  · rintro ⟨h1, h2⟩; exact ⟨k.2, h1, by unfold ent; rw [← h2]⟩
/-- A map has just the members of a list, under their numbers. -/
def Holds (m : List (Int × TMember)) (l : List TMember) : Prop := m.Perm (l.map ent)
theorem Holds.keys {m : List (Int × TMember)} {l : List TMember} (h : Holds m l) (hs : SrtM l) : (m.map (·.1)).Nodup := by
  have h1 := h.map (·.1)
  rw [List.map_map] at h1
  exact h1.nodup_iff.2 (srtM_devs hs)
theorem Holds.mem {m : List (Int × TMember)} {l : List TMember} (h : Holds m l) {k : Int × TMember} : k ∈ m ↔ k.2 ∈ l ∧ k.1 = k.2.dev := by rw [h.mem_iff, mem_ent]
theorem Holds.len {m : List (Int × TMember)} {l : List TMember} (h : Holds m l) : m.length = l.length := by rw [h.length_eq, List.length_map]
theorem nodup_ent {l : List TMember} (h : SrtM l) : (l.map ent).Nodup := by
  unfold List.Nodup
  rw [List.pairwise_map]
  exact h.imp fun {a b} h e => by rw [ent_inj e] at h; omega
theorem holds_of {m : List (Int × TMember)} {l : List TMember} (hn : (m.map (·.1)).Nodup) (hs : SrtM l) (h : ∀ k, k ∈ m ↔ k.2 ∈ l ∧ k.1 = k.2.dev) : Holds m l := by
  have hm : m.Nodup := by
    unfold List.Nodup at hn ⊢
    rw [List.pairwise_map] at hn
    exact hn.imp fun {a b} h e => h (by rw [e])
  exact (List.perm_ext_iff_of_nodup hm (nodup_ent hs)).2 fun k => by rw [h, mem_ent]
def atD (d : Int) (x : TMember) : Bool := decide (x.dev = d)
theorem Holds.get {m : List (Int × TMember)} {l : List TMember} (h : Holds m l) (hs : SrtM l) (d : Int) : AL.get m d = l.find? (atD d) := by
  cases hf : l.find? (atD d) with
  | some x =>
    have h1 := List.mem_of_find?_eq_some hf
    have h2 : x.dev = d := of_decide_eq_true (p := x.dev = d) (List.find?_some (p := atD d) hf)
    exact AL.mem_get (h.keys hs) (h.mem.2 ⟨h1, h2.symm⟩)
  | none =>
    refine AL.get_none.2 fun hk => ?_
    obtain ⟨k, hk1, hk2⟩ := List.mem_map.1 hk
    obtain ⟨h1, h2⟩ := h.mem.1 hk1
    have := List.find?_eq_none.1 hf k.2 h1
    exact this (decide_eq_true (by rw [← h2, hk2]))
theorem srtM_filter {l : List TMember} (h : SrtM l) (p : TMember → Bool) : SrtM (l.filter p) := h.sublist List.filter_sublist
/-- All but one. -/
def notD (d : Int) (x : TMember) : Bool := !decide (x.dev = d)
theorem Holds.del {m : List (Int × TMember)} {l : List TMember} (h : Holds m l) (hs : SrtM l) (d : Int) : Holds (AL.del m d) (l.filter (notD d)) :=
  holds_of ((h.keys hs).sublist ((del_sub m d).map _)) (srtM_filter hs _) fun k => by
    rw [mem_del (h.keys hs), h.mem, List.mem_filter]
    unfold notD
    constructor
    · rintro ⟨⟨h1, h2⟩, h3⟩; exact ⟨⟨h1, by rw [h2] at h3; simp [h3]⟩, h2⟩
    · rintro ⟨⟨h1, h3⟩, h2⟩; exact ⟨⟨h1, h2⟩, by rw [h2]; simpa using h3⟩
theorem srtM_snoc {l : List TMember} (hs : SrtM l) {a : TMember} (h : ∀ x ∈ l, x.dev < a.dev) : SrtM (l ++ [a]) :=
  List.pairwise_append.2 ⟨hs, List.pairwise_singleton _ _, fun x hx y hy => by rw [List.mem_singleton.1 hy]; exact h x hx⟩
theorem Holds.snoc {m : List (Int × TMember)} {l : List TMember} (h : Holds m l) (hs : SrtM l) {a : TMember} (hl : ∀ x ∈ l, x.dev < a.dev) : Holds (AL.set m a.dev a) (l ++ [a]) :=
  holds_of (AL.nodup_set (h.keys hs) _ _) (srtM_snoc hs hl) fun k => by
    rw [mem_set (h.keys hs), h.mem, List.mem_append, List.mem_singleton]
    constructor
    · rintro (⟨⟨h1, h2⟩, h3⟩ | h1)
      · exact ⟨.inl h1, h2⟩
      · subst h1; exact ⟨.inr rfl, rfl⟩
    · rintro ⟨h1 | h1, h2⟩
      · have := hl k.2 h1; exact .inl ⟨⟨h1, h2⟩, by omega⟩
      · exact .inr (by rw [← h1, ← h2])

theorem none_eq (e la : Int) (A : A16) (nl : Bool) (m : List (Int × TMember)) : roster_Roster_none_o e la A nl m = pure (decide (e = 0)) := rfl
theorem none_ff {e : Int} (he : 1 ≤ e) (la : Int) (A : A16) (nl : Bool) (m : List (Int × TMember)) : roster_Roster_none_o e la A nl m = pure false := by
  rw [none_eq, decide_eq_false (by omega)]
theorem Members_eq {e la : Int} {A : A16} {nl : Bool} {m : List (Int × TMember)} {l : List TMember} (he : 1 ≤ e) (hm : Holds m l) (hs : SrtM l) (hl : l.length ≤ 1000000000) : roster_Roster_Members_o e la A nl m = pure l := by
  unfold roster_Roster_Members_o
  rw [none_ff he, det_pure, pure_bind]
  refine eq_pure ?_
  show ((loop _ _).bind _).wp _
  refine M.loopM (body := roster_Roster_Members_o_l0 m) m (fun L (t : List TMember) => (L, t)) (fun t e => need ((t.length + 1) * 16 ≤ 140737488355328) (pure (t ++ [e.2]))) (fun t => pure t)
    (fun l t => t = l.map (·.2)) _ (fun L t hL => ?_) (fun l t y ht hlen hy => ?_) (fun q t hq ht => ?_) [] rfl
  · show need _ ((nxt _ _).bind _) = need _ ((nxt _ _).bind _)
    refine congrArg (fun k => need _ ((nxt _ _).bind k)) (funext fun o => ?_)
    cases o with
    | none => rfl
    | some i => rfl
  · have := hm.len
    subst ht
    exact ⟨_, need_true (by rw [List.length_map]; omega) _, by simp⟩
  · subst ht
    have hp : (q.map (·.2)).Perm l := by
      have := (hq.trans hm).map (·.2)
      rw [List.map_map] at this
      simpa [Function.comp_def, ent] using this
    show (need _ _).wp _
    rw [need_true (by rw [hp.length_eq]; omega)]
    refine srt_wpM fun s h1 h2 => ?_
    show s = l
    have h3 := h1.trans hp
    exact srtM_ext (srtM_of ((h3.map (·.dev)).nodup_iff.2 (srtM_devs hs)) h2) hs fun d => h3.mem_iff
def zM : TMember := ⟨0, 0, 0⟩
def fnd (p : TMember → Bool) (l : List TMember) : TMember × Bool := match l.find? p with | some x => (x, true) | none => (zM, false)
def atS (s : Int) (x : TMember) : Bool := decide (x.slot = s)
theorem find_loop {body : Int → M (Step Int (Ex Unit (TMember × Bool)))} (l : List TMember) (p : TMember → Bool) (hl : l.length ≤ 1000000000)
    (hb : ∀ i : Int, body i = cond (decide (i < (l.length : Int))) ((idx l i).bind fun x => cond (p x) (pure (.done (.ret (x, true)))) (pure (.next (IntKind.i64.wrap (i + 1))))) (pure (.done (.brk ())))) :
    (loop body 0).bind (exk fun _ => pure (zM, false)) = pure (fnd p l) := by
  rw [loopFind (body := body) l p (fun x => (x, true)) (fun i x hx hi => ?_) ?_]
  · rw [pure_bind]
    unfold fnd
    cases l.find? p <;> rfl
  · rw [hb, decide_eq_false (by omega), cond_false]
  · rw [hb, decide_eq_true (by omega), cond_true, idx_nat hx, pure_bind, wSucc (by omega)]
    cases p x <;> rfl
theorem Of_eq {e la : Int} {A : A16} {nl : Bool} {m : List (Int × TMember)} {l : List TMember} (he : 1 ≤ e) (hm : Holds m l) (hs : SrtM l) (hl : l.length ≤ 1000000000) (s : Int) : roster_Roster_Of_o s e la A nl m = pure (fnd (atS s) l) := by
  unfold roster_Roster_Of_o
  rw [Members_eq he hm hs hl, det_pure, pure_bind]
  exact find_loop l (atS s) hl fun i => rfl
/-- A roster has just what the document's has. -/
structure Rep (n : Nat) (x : R26Roster) (m : List (Int × TMember)) : Prop where
  e1 : 1 ≤ x.epoch
  e2 : x.epoch ≤ 1000000000000000000
  l1 : 0 ≤ x.last
  l2 : x.last ≤ 65535
  hm : Holds m x.l
  hs : SrtM x.l
  hb : ∀ a ∈ x.l, 1 ≤ a.dev ∧ a.dev ≤ x.last
  len : x.l.length ≤ n
  n9 : n ≤ 1000
theorem wE {e : Int} (h1 : 1 ≤ e) (h2 : e ≤ 1000000000000000000) : IntKind.u64.wrap (e + 1) = e + 1 := wU64 (by omega) (by omega)
theorem wL {e : Int} (h1 : 0 ≤ e) (h2 : e ≤ 65535) (h3 : e ≠ 65535) : IntKind.u16.wrap (e + 1) = e + 1 := wU16 (by omega) (by omega)
def newM (x : R26Roster) (s t : Int) : TMember := ⟨x.last + 1, s, t⟩
def addR (x : R26Roster) (s t : Int) : R26Roster := ⟨x.epoch + 1, x.last + 1, x.l.filter (notD (fnd (atS s) x.l).1.dev) ++ [newM x s t], AR.set x.tries s.toNat t⟩
def joinS (x : R26Roster) (s t : Int) : R26Roster × TMember × Int × Int :=
  cond (decide (16 ≤ s) || decide (t = 0)) (x, zM, 0, 1)
    (cond (decide (t < AR.get x.tries s.toNat) || (decide (t = AR.get x.tries s.toNat) && !(fnd (atS s) x.l).2)) (x, zM, 0, 11)
      (cond (decide (t = AR.get x.tries s.toNat)) (x, (fnd (atS s) x.l).1, 0, 0)
        (cond (decide (x.last = 65535)) (x, zM, 0, 8)
          (addR x s t, newM x s t, (fnd (atS s) x.l).1.dev, 0))))
theorem cond_tf (a b c : Bool) : (cond a (pure true) (cond b (pure c) (pure false)) : M Bool) = pure (a || (b && c)) := by cases a <;> cases b <;> rfl
theorem Rep.add {n : Nat} {x : R26Roster} {m : List (Int × TMember)} (h : Rep n x m) (hn : n < 1000) (he : x.epoch < 1000000000000000000) {s t : Int} (hl : x.last ≠ 65535) : Rep (n + 1) (addR x s t) (AL.set (AL.del m (fnd (atS s) x.l).1.dev) (newM x s t).dev (newM x s t)) := by
  have hlt : ∀ y ∈ x.l.filter (notD (fnd (atS s) x.l).1.dev), y.dev < (newM x s t).dev := fun y hy => by
    have := (h.hb y (List.mem_filter.1 hy).1).2
    show y.dev < x.last + 1
    omega
  have h1 := h.e1
  have h2 := h.l1
  have h3 := h.l2
  refine ⟨?_, ?_, ?_, ?_, (h.hm.del h.hs _).snoc (srtM_filter h.hs _) hlt, srtM_snoc (srtM_filter h.hs _) hlt, fun a ha => ?_, ?_, by omega⟩
  · show 1 ≤ x.epoch + 1; omega
  · show x.epoch + 1 ≤ _; omega
  · show 0 ≤ x.last + 1; omega
  · show x.last + 1 ≤ 65535; omega
  · show 1 ≤ a.dev ∧ a.dev ≤ x.last + 1
    rcases List.mem_append.1 ha with ha | ha
    · have := h.hb a (List.mem_filter.1 ha).1; omega
    · rw [List.mem_singleton.1 ha]; show 1 ≤ x.last + 1 ∧ x.last + 1 ≤ x.last + 1; omega
  · have := List.length_filter_le (notD (fnd (atS s) x.l).1.dev) x.l
    have := h.len
    show (x.l.filter _ ++ [_]).length ≤ n + 1
    simp; omega
theorem Rep.up {n k : Nat} {x : R26Roster} {m : List (Int × TMember)} (h : Rep n x m) (hk : n ≤ k) (h9 : k ≤ 1000) : Rep k x m :=
  ⟨h.e1, h.e2, h.l1, h.l2, h.hm, h.hs, h.hb, by have := h.len; omega, h9⟩
theorem Join_eq {n : Nat} {x : R26Roster} {m : List (Int × TMember)} (h : Rep n x m) (hn : n < 1000) (he : x.epoch < 1000000000000000000) {s t : Int} (h0 : 0 ≤ s) :
    ∃ m', roster_Roster_Join_o s t x.epoch x.last x.tries false m = pure ((joinS x s t).2.1, (joinS x s t).2.2.1, (joinS x s t).2.2.2, (joinS x s t).1.epoch, (joinS x s t).1.last, (joinS x s t).1.tries, false, m') ∧ Rep (n + 1) (joinS x s t).1 m' := by
  have hl : x.l.length ≤ 1000000000 := by have := h.len; omega
  have hup := h.up (k := n + 1) (by omega) (by omega)
  unfold roster_Roster_Join_o joinS
  rw [none_ff h.e1, det_pure, pure_bind, cond_false, cond_pure_or, pure_bind]
  cases hc : decide (16 ≤ s) || decide (t = 0) with
  | true => exact ⟨m, rfl, hup⟩
  | false =>
    rw [Bool.or_eq_false_iff] at hc
    have hs : 0 ≤ s ∧ s < ((16 : Nat) : Int) := ⟨h0, by have := of_decide_eq_false hc.1; omega⟩
    rw [cond_false, cond_false, Of_eq h.e1 h.hm h.hs hl, det_pure, pure_bind, need_true hs, cond_tf, pure_bind]
    cases decide (t < AR.get x.tries s.toNat) || (decide (t = AR.get x.tries s.toNat) && !(fnd (atS s) x.l).2) with
    | true => exact ⟨m, rfl, hup⟩
    | false =>
      rw [cond_false, cond_false]
      cases decide (t = AR.get x.tries s.toNat) with
      | true => exact ⟨m, rfl, hup⟩
      | false =>
        rw [cond_false, cond_false]
        cases hd : decide (x.last = 65535) with
        | true => exact ⟨m, rfl, hup⟩
        | false =>
          have h5 := of_decide_eq_false hd
          rw [cond_false, cond_false, need_true hs, need_true rfl, wE h.e1 h.e2, wL h.l1 h.l2 h5]
          exact ⟨_, rfl, h.add hn he h5⟩
theorem Epoch_eq {n : Nat} {x : R26Roster} {m : List (Int × TMember)} (h : Rep n x m) : roster_Roster_Epoch_o x.epoch x.last x.tries false m = pure x.epoch := by
  unfold roster_Roster_Epoch_o
  rw [none_ff h.e1, det_pure, pure_bind, cond_false]
theorem Last_eq {n : Nat} {x : R26Roster} {m : List (Int × TMember)} (h : Rep n x m) : roster_Roster_Last_o x.epoch x.last x.tries false m = pure x.last := by
  unfold roster_Roster_Last_o
  rw [none_ff h.e1, det_pure, pure_bind, cond_false]
theorem Clone_eq (l : List Int) (h : l.length ≤ 1000000000) : slices_Clone_sl_uint64_uint64 l = pure l := by
  unfold slices_Clone_sl_uint64_uint64
  refine eq_pure ⟨⟨false, fun h => by cases h⟩, fun b hb => ?_⟩
  cases b with
  | true => rw [hb rfl]; rfl
  | false =>
    show (need _ _).wp _
    rw [need_true (by simp; omega), List.nil_append]
    rfl
theorem Tries_eq {n : Nat} {x : R26Roster} {m : List (Int × TMember)} (h : Rep n x m) : roster_Roster_Tries_o x.epoch x.last x.tries false m = pure (AR.l x.tries) := by
  unfold roster_Roster_Tries_o
  rw [none_ff h.e1, det_pure, pure_bind, cond_false, Clone_eq _ (by rw [AR.l_len]; omega), det_pure, pure_bind]
theorem Same_eq (l : List TMember) (hl : l.length ≤ 1000000000) : r26_Same l l = pure true := by
  unfold r26_Same
  rw [decide_eq_true rfl, Bool.not_true, cond_false]
  rw [loopFind (body := r26_Same_l0 l l) l (fun _ => false) (fun _ => false) (fun i x hx hi => ?_) ?_]
  · have : l.find? (fun _ => false) = none := List.find?_eq_none.2 (by simp)
    rw [this]; rfl
  · show cond (decide ((l.length : Int) < (l.length : Int))) _ _ = _
    rw [decide_eq_false (by omega)]; rfl
  · show cond (decide ((i : Int) < (l.length : Int))) _ _ = _
    rw [decide_eq_true (by omega), cond_true, idx_nat hx, pure_bind, pure_bind]
    simp [wSucc (show i < 9223372036854775807 by omega)]
theorem Is_eq {n : Nat} {x : R26Roster} {m : List (Int × TMember)} (h : Rep n x m) : l26_Is_o x x.epoch x.last x.tries false m = pure 1 := by
  have hl : x.l.length ≤ 1000000000 := by have := h.len; have := h.n9; omega
  unfold l26_Is_o
  rw [Tries_eq h, det_pure, pure_bind, Epoch_eq h, det_pure, pure_bind, decide_eq_true rfl, Bool.not_true, cond_false, Last_eq h, det_pure, pure_bind, decide_eq_true rfl, Bool.not_true, cond_false, Members_eq h.e1 h.hm h.hs hl, det_pure, pure_bind, Same_eq _ hl, det_pure, pure_bind, Bool.not_true, cond_false, AR.l_len, show decide (((16 : Nat) : Int) = 16) = true from rfl, Bool.not_true, pure_bind, cond_false]
  rw [loopFind (body := l26_Is_o_l0 (AR.l x.tries) x) (AR.l x.tries) (fun _ => false) (fun _ => 0) (fun i y hy hi => ?_) ?_]
  · have : (AR.l x.tries).find? (fun _ => false) = none := List.find?_eq_none.2 (by simp)
    rw [this]; rfl
  · rw [AR.l_len]; rfl
  · rw [AR.l_len] at hi
    show cond (decide ((i : Int) < 16)) _ _ = _
    rw [decide_eq_true (by omega), cond_true, idx_nat hy, pure_bind, need_true (by omega), Int.toNat_natCast]
    rw [AR.get_lt hi] at hy
    simp only [Option.some.injEq] at hy
    simp [← hy, wSucc (show i < 9223372036854775807 by omega)]
def z16 : A16 := (0, 0, 0, 0, 0, 0, 0, 0, 0, 0, 0, 0, 0, 0, 0, 0)
def newR (e la : Int) (A : A16) : R26Roster := ⟨e, la, [], A⟩
theorem rep_new {e la : Int} {A : A16} (h1 : 1 ≤ e) (h2 : e ≤ 1000000000000000000) (h3 : 0 ≤ la) (h4 : la ≤ 65535) : Rep 0 (newR e la A) [] :=
  ⟨h1, h2, h3, h4, List.Perm.refl _, List.Pairwise.nil, fun a (ha : a ∈ []) => absurd ha List.not_mem_nil, Nat.le_refl _, by omega⟩
theorem works_eq : l26_works = pure true := by
  unfold l26_works
  rw [show roster_New_o = pure ((newR 1 0 z16).epoch, (newR 1 0 z16).last, (newR 1 0 z16).tries, false, []) from rfl, det_pure, pure_bind]
  have r0 : Rep 0 (newR 1 0 z16) [] := rep_new (by omega) (by omega) (by omega) (by omega)
  obtain ⟨m1, e1, r1⟩ := Join_eq r0 (by omega) (by decide) (s := 3) (t := 1) (by omega)
  have q1 : joinS (newR 1 0 z16) 3 1 = (⟨2, 1, [⟨1, 3, 1⟩], AR.set z16 3 1⟩, ⟨1, 3, 1⟩, 0, 0) := by decide
  rw [q1] at e1 r1
  obtain ⟨m2, e2, r2⟩ := Join_eq r1 (by omega) (by decide) (s := 3) (t := 1) (by omega)
  have q2 : joinS ⟨2, 1, [⟨1, 3, 1⟩], AR.set z16 3 1⟩ 3 1 = (⟨2, 1, [⟨1, 3, 1⟩], AR.set z16 3 1⟩, ⟨1, 3, 1⟩, 0, 0) := by decide
  rw [q2] at e2 r2
  obtain ⟨m3, e3, r3⟩ := Join_eq r2 (by omega) (by decide) (s := 3) (t := 2) (by omega)
  have q3 : joinS ⟨2, 1, [⟨1, 3, 1⟩], AR.set z16 3 1⟩ 3 2 = (⟨3, 2, [⟨2, 3, 2⟩], AR.set (AR.set z16 3 1) 3 2⟩, ⟨2, 3, 2⟩, 1, 0) := by decide
  rw [q3] at e3 r3
  have e4 := Epoch_eq r3
  dsimp only at e1 e2 e3 e4 ⊢
  rw [e1, det_pure, pure_bind]
  dsimp only
  rw [e2, det_pure, pure_bind]
  dsimp only
  rw [e3, det_pure, pure_bind]
  dsimp only
  rw [e4, det_pure]
  rfl


theorem loopB {ε σ β ρ τ : Type} {body : σ → M (Step σ (Ex β ρ))} (l : List ε) (mk : Nat → τ → σ) (g : τ → β) (bad : Nat → ε → Bool) (r : ρ) (I : Nat → τ → Prop)
    (h1 : ∀ (i : Nat) (x : ε) (t : τ), l[i]? = some x → i < l.length → I i t → (bad i x = true → body (mk i t) = pure (.done (.ret r))) ∧ (bad i x = false → ∃ t', body (mk i t) = pure (.next (mk (i + 1) t')) ∧ I (i + 1) t'))
    (h2 : ∀ t, I l.length t → body (mk l.length t) = pure (.done (.brk (g t)))) (t0 : τ) (h0 : I 0 t0) :
    (l.zipIdx.any (fun y => bad y.2 y.1) = true ∧ loop body (mk 0 t0) = pure (.ret r)) ∨ (l.zipIdx.any (fun y => bad y.2 y.1) = false ∧ ∃ t, loop body (mk 0 t0) = pure (.brk (g t)) ∧ I l.length t) := by
  have key : ∀ k i t, i + k = l.length → I i t → (((l.drop i).zipIdx i).any (fun y => bad y.2 y.1) = true ∧ loop body (mk i t) = pure (.ret r)) ∨ (((l.drop i).zipIdx i).any (fun y => bad y.2 y.1) = false ∧ ∃ t', loop body (mk i t) = pure (.brk (g t')) ∧ I l.length t') := by
    intro k
    induction k with
    | zero =>
      intro i t hi hI
      have : i = l.length := by omega
      subst this
      rw [List.drop_length]
      exact .inr ⟨rfl, t, loop_done (h2 t hI), hI⟩
    | succ k ih =>
      intro i t hi hI
      have hlt : i < l.length := by omega
      obtain ⟨h3, h4⟩ := h1 i l[i] t (List.getElem?_eq_getElem hlt) hlt hI
      rw [List.drop_eq_getElem_cons hlt, List.zipIdx_cons, List.any_cons]
      cases hp : bad i l[i] with
      | true => exact .inl ⟨rfl, loop_done (h3 hp)⟩
      | false =>
        obtain ⟨t', h5, h6⟩ := h4 hp
        rw [loop_next h5, Bool.false_or]
        exact ih (i + 1) t' (by omega) h6
  simpa using key l.length 0 t0 (by omega) h0

theorem over_l {A : A16} {L : List Int} (h : L.length = 16) : AR.l (AR.over A L) = L := by
  rw [AR.l_over, List.take_of_length_le (by omega), h, List.drop_eq_nil_of_le (by rw [AR.l_len]; omega), List.append_nil]
theorem over_get {A : A16} {L : List Int} (h : L.length = 16) (i : Nat) : AR.get (AR.over A L) i = L.getD i 0 := by
  unfold AR.get; rw [over_l h]
/-- Is a member's number wrong? its slot, its try? does its slot come again? -/
def bad1 (la : Int) (l : List TMember) (i : Nat) (x : TMember) : Bool := decide (x.dev = 0) || (decide (la < x.dev) || (decide (0 < i) && decide (x.dev ≤ (l.getD (i - 1) zM).dev)))
def bad2 (tr : List Int) (x : TMember) : Bool := decide (16 ≤ x.slot) || (decide (x.try_ = 0) || !decide (tr.getD x.slot.toNat 0 = x.try_))
def badF (la : Int) (l : List TMember) (tr : List Int) (i : Nat) (x : TMember) : Bool := bad1 la l i x || (bad2 tr x || (fnd (atS x.slot) (l.take i)).2)
def head0 (e : Int) (tr : List Int) : Bool := decide (e = 0) || (decide (281474976710655 < e) || !decide ((tr.length : Int) = 16))
def fromB (e la : Int) (l : List TMember) (tr : List Int) : Bool := !(head0 e tr) && !(l.zipIdx.any fun y => badF la l tr y.2 y.1)
theorem cond_tt (a b c : Bool) : (cond a (pure true) (cond b (pure true) (pure c)) : M Bool) = pure (a || (b || c)) := by cases a <;> cases b <;> rfl
theorem take_snoc {ε : Type} {l : List ε} {i : Nat} {x : ε} (h : l[i]? = some x) : l.take (i + 1) = l.take i ++ [x] := by
  obtain ⟨hlt, rfl⟩ := List.getElem?_eq_some_iff.1 h
  exact List.take_append_getElem hlt ▸ rfl
theorem b1_eq {la : Int} {l : List TMember} {i : Nat} {x : TMember} (hi : i < l.length) (hl : l.length ≤ 1000) {c : M Bool} :
    (cond (decide (x.dev = 0)) (pure true) (cond (decide (la < x.dev)) (pure true) (cond (decide ((0 : Int) < (i : Int))) ((idx l (IntKind.i64.wrap ((i : Int) - 1))).bind fun x61 => cond (decide (x.dev ≤ x61.dev)) (pure true) c) c)) : M Bool) = cond (bad1 la l i x) (pure true) c := by
  unfold bad1
  cases decide (x.dev = 0) with
  | true => rfl
  | false =>
    cases decide (la < x.dev) with
    | true => rfl
    | false =>
      rw [cond_false, cond_false, Bool.false_or, Bool.false_or]
      by_cases h0 : 0 < i
      · have hw : IntKind.i64.wrap ((i : Int) - 1) = ((i - 1 : Nat) : Int) := by rw [wI64 (by omega) (by omega)]; omega
        have hg : l[i - 1]? = some (l.getD (i - 1) zM) := by
          rw [List.getD_eq_getElem?_getD, List.getElem?_eq_getElem (by omega)]; rfl
        rw [decide_eq_true (by omega), decide_eq_true h0, cond_true, hw, idx_nat hg, pure_bind, Bool.true_and]
      · rw [decide_eq_false (by omega), decide_eq_false h0, cond_false, Bool.false_and, cond_false]
theorem rFrom_eq {e la : Int} {l : List TMember} {tr : List Int} (hl : l.length ≤ 1000) (hsl : ∀ x ∈ l, 0 ≤ x.slot) : r26_From e la l tr = pure (fromB e la l tr) := by
  unfold r26_From fromB head0
  rw [cond_tt, pure_bind]
  cases hh : decide (e = 0) || (decide (281474976710655 < e) || !decide ((tr.length : Int) = 16)) with
  | true => rfl
  | false =>
    have h16 : tr.length = 16 := by
      rw [Bool.or_eq_false_iff, Bool.or_eq_false_iff, Bool.not_eq_false'] at hh
      have := of_decide_eq_true hh.2.2
      omega
    rw [cond_false, Bool.not_false, Bool.true_and]
    have key := loopB (body := r26_From_l1 l la tr) l (fun i (_ : Unit) => (i : Int)) (fun _ => ()) (badF la l tr) false (fun _ _ => True) (fun i x t hx hi _ => ?_) (fun t _ => ?_) () trivial
    · rcases key with ⟨h1, h2⟩ | ⟨h1, t, h2, _⟩
      · rw [show ((0 : Nat) : Int) = 0 from rfl] at h2; rw [h2, h1]; rfl
      · rw [show ((0 : Nat) : Int) = 0 from rfl] at h2; rw [h2, h1]; rfl
    · have hs := hsl x (List.mem_of_getElem? hx)
      have hb2 : (cond (decide (16 ≤ x.slot)) (pure true) (cond (decide (x.try_ = 0)) (pure true) ((idx tr x.slot).bind fun x89 => pure (!decide (x89 = x.try_)))) : M Bool) = pure (bad2 tr x) := by
        unfold bad2
        cases hc : decide (16 ≤ x.slot) with
        | true => rfl
        | false =>
          have := of_decide_eq_false hc
          have hg : tr[x.slot.toNat]? = some (tr.getD x.slot.toNat 0) := by
            rw [List.getD_eq_getElem?_getD, List.getElem?_eq_getElem (by omega)]; rfl
          rw [cond_false, idx_eq hs hg, pure_bind, cond_pure_or, Bool.false_or]
      have hbody : r26_From_l1 l la tr (i : Int) = M.bind (cond (badF la l tr i x) (pure (.ret (.done (.ret false)))) (pure (.brk ()))) (exk fun _ => pure (.next (IntKind.i64.wrap ((i : Int) + 1)))) := by
        show cond (decide ((i : Int) < (l.length : Int))) _ _ = _
        rw [decide_eq_true (by omega), cond_true, idx_nat hx, pure_bind]
        refine congrArg (fun z => M.bind z _) ?_
        rw [hb2, b1_eq hi hl]
        unfold badF
        cases bad1 la l i x with
        | true => rfl
        | false =>
          rw [cond_false, pure_bind]
          cases bad2 tr x with
          | true => rfl
          | false =>
            rw [cond_false, Bool.false_or, Bool.false_or]
            have hti : (l.take i).length = i := by rw [List.length_take]; omega
            rw [loopFind (body := r26_From_l0 (i : Int) l x) (l.take i) (atS x.slot) (fun _ => .done (.ret false)) (fun k y hy hk => ?_) ?_]
            · unfold fnd
              cases (l.take i).find? (atS x.slot) <;> rfl
            · rw [hti]
              show cond (decide ((i : Int) < (i : Int))) _ _ = _
              rw [decide_eq_false (by omega)]; rfl
            · rw [hti] at hk
              rw [List.getElem?_take, if_pos hk] at hy
              show cond (decide ((k : Int) < (i : Int))) _ _ = _
              rw [decide_eq_true (by omega), cond_true, idx_nat hy, pure_bind, wSucc (by omega)]
              show cond (atS x.slot y) _ _ = _
              cases atS x.slot y <;> rfl
      rw [hbody]
      constructor
      · intro h; rw [h]; rfl
      · intro h; rw [h]; exact ⟨(), by rw [cond_false, pure_bind, exk_brk, wSucc (by omega)], trivial⟩
    · show cond (decide ((l.length : Int) < (l.length : Int))) _ _ = _
      rw [decide_eq_false (by omega)]; rfl
theorem From_eq {e la : Int} {l : List TMember} {tr : List Int} (he : 0 ≤ e) (h0 : 0 ≤ la) (h1 : la ≤ 65535) (hl : l.length ≤ 900) (hd : ∀ x ∈ l, 0 ≤ x.dev ∧ 0 ≤ x.slot) :
    (fromB e la l tr = false ∧ roster_From_o e la l tr = pure (.inl ())) ∨ (fromB e la l tr = true ∧ tr.length = 16 ∧ ∃ m, roster_From_o e la l tr = pure (.inr (e, la, AR.over z16 tr, false, m)) ∧ Rep l.length ⟨e, la, l, AR.over z16 tr⟩ m) := by
  unfold roster_From_o fromB head0
  rw [cond_tt, pure_bind]
  cases hh : decide (e = 0) || (decide (281474976710655 < e) || !decide ((tr.length : Int) = 16)) with
  | true => exact .inl ⟨rfl, rfl⟩
  | false =>
    rw [Bool.or_eq_false_iff, Bool.or_eq_false_iff, Bool.not_eq_false'] at hh
    have h16 : tr.length = 16 := by
      have := of_decide_eq_true hh.2.2
      omega
    have he0 := of_decide_eq_false hh.1
    have he1 := of_decide_eq_false hh.2.1
    rw [cond_false, Bool.not_false, Bool.true_and, show roster_New_o = pure (1, 0, z16, false, []) from rfl, det_pure, pure_bind]
    have key := loopB (body := roster_From_o_l0 l la (1, 0, z16, false, []) tr e) l (fun i (m : List (Int × TMember)) => ((i : Int), m)) (fun m => m) (badF la l tr) (.inl ())
      (fun i m => Holds m (l.take i) ∧ SrtM (l.take i) ∧ ∀ a ∈ l.take i, 1 ≤ a.dev ∧ a.dev ≤ la) (fun i x m hx hi hI => ?_) (fun m _ => ?_) [] ⟨List.Perm.refl _, by rw [List.take_zero]; exact List.Pairwise.nil, fun a ha => by rw [List.take_zero] at ha; cases ha⟩
    · rcases key with ⟨k1, k2⟩ | ⟨k1, m, k2, k3, k4, k5⟩
      · refine .inl ⟨by rw [k1]; rfl, ?_⟩
        rw [show ((0 : Nat) : Int) = 0 from rfl] at k2
        show M.bind (loop _ (0, [])) _ = _
        rw [k2]; rfl
      · rw [List.take_length] at k3 k4 k5
        refine .inr ⟨by rw [k1]; rfl, h16, m, ?_, by show 1 ≤ e; omega, by show e ≤ _; omega, h0, h1, k3, k4, k5, Nat.le_refl _, by show l.length ≤ 1000; omega⟩
        rw [show ((0 : Nat) : Int) = 0 from rfl] at k2
        show M.bind (loop _ (0, [])) _ = _
        rw [k2]; rfl
    · obtain ⟨hm, hs, hb⟩ := hI
      have hx2 := hd x (List.mem_of_getElem? hx)
      have hti : (l.take i).length = i := by rw [List.length_take]; omega
      have hbody : roster_From_o_l0 l la (1, 0, z16, false, []) tr e ((i : Int), m) = cond (badF la l tr i x) (pure (.done (.ret (.inl ())))) (pure (.next (((i + 1 : Nat) : Int), AL.set m x.dev x))) := by
        show cond (decide ((i : Int) < (l.length : Int))) _ _ = _
        rw [decide_eq_true (by omega), cond_true, idx_nat hx, pure_bind]
        have hb1 := b1_eq (la := la) (x := x) hi (by omega) (c := pure false)
        have hb2 : (cond (decide (16 ≤ x.slot)) (pure true) (cond (decide (x.try_ = 0)) (pure true) (need ((0 : Int) ≤ x.slot ∧ x.slot < ((16 : Nat) : Int)) (pure (!decide (AR.get (AR.over z16 tr) x.slot.toNat = x.try_))))) : M Bool) = pure (bad2 tr x) := by
          unfold bad2
          cases hc : decide (16 ≤ x.slot) with
          | true => rfl
          | false =>
            have := of_decide_eq_false hc
            rw [cond_false, need_true ⟨hx2.2, by omega⟩, over_get h16, cond_pure_or, Bool.false_or]
        have hb1' : (cond (decide (x.dev = 0)) (pure true) (cond (decide (la < x.dev)) (pure true) (cond (decide ((0 : Int) < (i : Int))) ((idx l (IntKind.i64.wrap ((i : Int) - 1))).bind fun x61 => pure (decide (x.dev ≤ x61.dev))) (pure false))) : M Bool) = pure (bad1 la l i x) := by
          rw [show (cond (bad1 la l i x) (pure true) (pure false) : M Bool) = pure (bad1 la l i x) by cases bad1 la l i x <;> rfl] at hb1
          rw [← hb1]
          congr 3
          refine congrArg (fun z => M.bind _ z) (funext fun y => ?_)
          cases decide (x.dev ≤ y.dev) <;> rfl
        show M.bind (cond (decide (x.dev = 0)) _ _) _ = _
        rw [hb1', pure_bind]
        unfold badF
        cases bad1 la l i x with
        | true => rfl
        | false =>
          show M.bind (cond (decide (16 ≤ x.slot)) _ _) _ = _
          rw [hb2, pure_bind]
          cases bad2 tr x with
          | true => rfl
          | false =>
            show M.bind (det (roster_Roster_Of_o _ _ _ _ _ _)) _ = _
            rw [Of_eq (by omega) hm hs (by rw [hti]; omega), det_pure, pure_bind]
            show cond (fnd (atS x.slot) (l.take i)).2 _ _ = _
            rw [need_true rfl, wSucc (by omega)]
            rfl
      rw [hbody]
      constructor
      · intro h; rw [h]; rfl
      · intro h
        rw [h]
        refine ⟨AL.set m x.dev x, rfl, ?_⟩
        unfold badF bad1 at h
        simp only [Bool.or_eq_false_iff] at h
        have d0 := of_decide_eq_false h.1.1
        have d1 := of_decide_eq_false h.1.2.1
        have d2 := h.1.2.2
        have hlast : ∀ y ∈ l.take i, y.dev < x.dev := fun y hy => by
          have hi0 : 0 < i := by
            rcases Nat.eq_zero_or_pos i with h | h
            · subst h; rw [List.take_zero] at hy; cases hy
            · exact h
          rw [decide_eq_true hi0, Bool.true_and] at d2
          have d3 := of_decide_eq_false d2
          have hg : l[i - 1]? = some (l.getD (i - 1) zM) := by
            rw [List.getD_eq_getElem?_getD, List.getElem?_eq_getElem (by omega)]; rfl
          have e1 := take_snoc hg
          rw [Nat.sub_add_cancel hi0] at e1
          rw [e1] at hy hs
          rcases List.mem_append.1 hy with hy | hy
          · have := (List.pairwise_append.1 hs).2.2 y hy _ (List.mem_singleton.2 rfl)
            omega
          · rw [List.mem_singleton.1 hy]; omega
        rw [take_snoc hx]
        exact ⟨hm.snoc hs hlast, srtM_snoc hs hlast, fun a ha => by
          rcases List.mem_append.1 ha with ha | ha
          · exact hb a ha
          · rw [List.mem_singleton.1 ha]; omega⟩
    · show cond (decide ((l.length : Int) < (l.length : Int))) _ _ = _
      rw [decide_eq_false (by omega)]; rfl
theorem copy_loop {body : Int × A16 → M (Step (Int × A16) A16)} (tr : List Int) (h16 : tr.length = 16)
    (hb : ∀ (i : Int) (A : A16), body (i, A) = cond (decide (i < 16)) ((idx tr i).bind fun x => need ((0 : Int) ≤ i ∧ i < ((16 : Nat) : Int)) (pure (.next (IntKind.i64.wrap (i + 1), AR.set A i.toNat x)))) (pure (.done A))) : loop body (0, z16) = pure (AR.over z16 tr) := by
  have key := loopE (body := body) tr (fun i (A : A16) => ((i : Int), A)) (fun i A => ∀ j, j < i → AR.get A j = tr.getD j 0) (fun A => AR.l A = tr) (fun i x A hx hi hI => ?_) (fun A hI => ?_) z16 (fun j hj => by omega)
  · obtain ⟨r, h1, h2⟩ := key
    rw [show ((0 : Int), z16) = (((0 : Nat) : Int), z16) from rfl, h1]
    congr 1
    exact AR.l_inj (by rw [h2, over_l h16])
  · refine ⟨AR.set A i x, ?_, fun j hj => ?_⟩
    · show body ((i : Int), A) = _
      rw [hb, decide_eq_true (by omega), cond_true, idx_nat hx, pure_bind, need_true (by omega), wSucc (by omega), Int.toNat_natCast]
    · rw [AR.get_set (by omega)]
      by_cases hij : i = j
      · rw [if_pos hij, ← hij, List.getD_eq_getElem?_getD, hx]; rfl
      · rw [if_neg hij]; exact hI j (by omega)
  · refine ⟨A, ?_, ?_⟩
    · show body ((tr.length : Int), A) = _
      rw [hb, decide_eq_false (by omega), cond_false]
    · refine List.ext_getElem? fun j => ?_
      by_cases hj : j < 16
      · rw [AR.get_lt hj, hI j (by omega), List.getD_eq_getElem?_getD, List.getElem?_eq_getElem (by omega)]; rfl
      · rw [List.getElem?_eq_none (by rw [AR.l_len]; omega), List.getElem?_eq_none (by omega)]
theorem rosterFrom_eq (hd : Int × Int) (l : List TMember) (tr : List Int) (h1 : 0 ≤ hd.1 ∧ hd.1 ≤ 65535) (h2 : 0 ≤ hd.2 ∧ hd.2 ≤ 65535) (hx : ∀ x ∈ l, 0 ≤ x.dev ∧ 0 ≤ x.slot) : l26_RosterFrom hd l tr = pure true := by
  unfold l26_RosterFrom
  rw [cond_pure_or, pure_bind]
  cases hc : decide (40 < (l.length : Int)) || decide (40 < (tr.length : Int)) with
  | true => rw [cond_true, works_eq, det_pure, pure_bind]
  | false =>
    rw [Bool.or_eq_false_iff] at hc
    have hl := of_decide_eq_false hc.1
    rw [cond_false, wU64 (by omega) (by omega)]
    rcases From_eq (e := hd.1) (la := hd.2) (l := l) (tr := tr) h1.1 h2.1 h2.2 (by omega) hx with ⟨k1, k2⟩ | ⟨k1, h16, m, k2, k3⟩
    · rw [k2, det_pure, pure_bind]
      show M.bind (det _) _ = _
      rw [rFrom_eq (by omega) (fun x h => (hx x h).2), k1, det_pure, pure_bind, Bool.not_false, cond_true, works_eq, det_pure, pure_bind]
    · rw [k2, det_pure, pure_bind]
      show M.bind (det _) _ = _
      rw [rFrom_eq (by omega) (fun x h => (hx x h).2), k1, det_pure, pure_bind, Bool.not_true, cond_false]
      rw [show ((0 : Int), ((0, 0, 0, 0, 0, 0, 0, 0, 0, 0, 0, 0, 0, 0, 0, 0) : A16)) = (0, z16) from rfl, copy_loop (body := l26_RosterFrom_l1 tr) tr h16 (fun i A => rfl), pure_bind]
      have hI := Is_eq k3
      dsimp only at hI ⊢
      rw [hI, det_pure, pure_bind, decide_eq_true rfl, cond_true, works_eq, det_pure, pure_bind, pure_bind]

/-- What was given out and is gone. -/
structure Gone (g : List Bool) (x : R26Roster) : Prop where
  len : g.length = 65536
  on : ∀ d : Nat, g[d]? = some true → (d : Int) ≤ x.last ∧ ∀ a ∈ x.l, a.dev ≠ d
theorem Gone.sub {g : List Bool} {x x' : R26Roster} (h : Gone g x) (h1 : x.last ≤ x'.last) (h2 : ∀ a ∈ x'.l, a ∈ x.l ∨ x.last < a.dev) : Gone g x' :=
  ⟨h.len, fun d hd => by
    obtain ⟨h3, h4⟩ := h.on d hd
    refine ⟨by omega, fun a ha => ?_⟩
    rcases h2 a ha with h5 | h5
    · exact h4 a h5
    · omega⟩
theorem Gone.put {g : List Bool} {x' : R26Roster} (h : Gone g x') {d : Int} (h0 : 0 ≤ d) (h1 : d ≤ x'.last) (h2 : ∀ a ∈ x'.l, a.dev ≠ d) : Gone (g.set d.toNat true) x' :=
  ⟨by rw [List.length_set]; exact h.len, fun q hq => by
    rw [List.getElem?_set] at hq
    split at hq
    · rename_i e; subst e
      refine ⟨by omega, fun a ha e => h2 a ha (by omega)⟩
    · exact h.on q hq⟩
end Go.Ep.M.H

namespace Go.Ep
open Go.RowKit Go.ChangeShapes Go.WideShapes

abbrev All : Nat → Prop := fun _ => True

mutual
/-- How many values and letters a reading holds. -/
def bulk {H : Type} : DataW H → Nat
  | .lit (.string bytes) => bytes.length + 1
  | .lit _ => 1
  | .nil => 1
  | .ptr d => bulk d + 1
  | .slice elems spare => bulkAll elems + bulkAll spare + 1
  | .agg parts => bulkAll parts + 1
  | .iface _ d => bulk d + 1
  | .map entries => bulkEntries entries + 1
  | .held _ => 1
def bulkAll {H : Type} : List (DataW H) → Nat
  | [] => 0
  | d :: r => bulk d + bulkAll r
def bulkEntries {H : Type} : List (Lit × DataW H) → Nat
  | [] => 0
  | x :: r => bulkEntry x + bulkEntries r
def bulkEntry {H : Type} : Lit × DataW H → Nat
  | (.string bytes, d) => bytes.length + bulk d + 1
  | (_, d) => bulk d + 1
end
theorem one_bulk {H : Type} (d : DataW H) : 1 ≤ bulk d := by
  cases d with
  | lit l => cases l <;> simp [bulk]
  | nil => simp [bulk]
  | ptr d => simp [bulk]
  | slice elems spare => simp [bulk]
  | agg parts => simp [bulk]
  | iface t d => simp [bulk]
  | map entries => simp [bulk]
  | held h => simp [bulk]
theorem bulkAll_app {H : Type} (l r : List (DataW H)) : bulkAll (l ++ r) = bulkAll l + bulkAll r := by
  induction l with
  | nil => simp [bulkAll]
  | cons x l ih => simp only [List.cons_append, bulkAll, ih]; omega
def szL {α : Type} (sz : α → Nat) : List α → Nat
  | [] => 0
  | a :: r => sz a + szL sz r
theorem szL_app {α : Type} (sz : α → Nat) (l r : List α) : szL sz (l ++ r) = szL sz l + szL sz r := by
  induction l with
  | nil => simp [szL]
  | cons x l ih => simp only [List.cons_append, szL, ih]; omega
/-- What is read at this type is data of this kind. -/
structure Opn (P : Program) (t : TypeId) (k : Nat) {α : Type} (enc : α → List DV) (ok : α → Prop) (sz : α → Nat) : Prop where
  cells : P.cellsOf t = k
  op : ∀ {H : Type} {en : TypeId × Value → H} {w : World} {fuel : Nat} {cs : List Value} {x : DataW H × List MemPlace}, DataW.trod en P w 0 (fun _ => true) true fuel t cs = some x →
    ∃ a, ok a ∧ cs.length = k ∧ (enc a).length = k ∧ (∀ (j : Nat) (y : DV) (u : Value), (enc a)[j]? = some y → cs[j]? = some u → DRd w All y u) ∧ sz a ≤ bulk x.1

section
variable {P : Program} {t : TypeId}

theorem Opn.map {k : Nat} {α β : Type} {enc : α → List DV} {enc' : β → List DV} {ok : α → Prop} {ok' : β → Prop} {sz : α → Nat} {sz' : β → Nat} (h : Opn P t k enc ok sz) (f : α → β) (he : ∀ a, ok a → enc' (f a) = enc a) (ho : ∀ a, ok a → ok' (f a)) (hz : ∀ a, sz' (f a) ≤ sz a) : Opn P t k enc' ok' sz' :=
  ⟨h.cells, fun hx => let ⟨a, h1, h2, h3, h4, h5⟩ := h.op hx; ⟨f a, ho a h1, h2, by rw [he a h1]; exact h3, by rw [he a h1]; exact h4, Nat.le_trans (hz a) h5⟩⟩

theorem one_get {w : World} {y : DV} {u : Value} (h : DRd w All y u) : ∀ (j : Nat) (y' : DV) (u' : Value), [y][j]? = some y' → [u][j]? = some u' → DRd w All y' u' := by
  intro j y' u' h1 h2
  cases j with
  | zero => simp at h1 h2; subst h1; subst h2; exact h
  | succ j => simp at h1

def okK (k : IntKind) (n : Int) : Prop := (Lit.int k n).wf = true
theorem Opn.int {k : IntKind} (hu : P.underlying t = some (.int k)) (hc : P.cellsOf t = 1) : Opn P t 1 (eK k) (okK k) (fun _ => 1) := by
  refine ⟨hc, fun {H en w fuel cs x} h => ?_⟩
  cases fuel with
  | zero => simp [DataW.trod] at h
  | succ fuel =>
    unfold DataW.trod at h
    rw [hu] at h
    split at h <;> simp_all
    case h_2 n _ =>
      obtain ⟨⟨h1, h2⟩, _⟩ := h
      subst h1
      refine ⟨n, h2, rfl, ?_, one_bulk _⟩
      intro j y u h1 h3
      exact one_get (.v _ rfl) j y u h1 h3
theorem okU16 {n : Int} (h : okK .u16 n) : 0 ≤ n ∧ n < 65536 := by
  simp [okK, Lit.wf, IntKind.min, IntKind.max, IntKind.signed, IntKind.bits] at h; omega
theorem okU8 {n : Int} (h : okK .u8 n) : 0 ≤ n ∧ n < 256 := by
  simp [okK, Lit.wf, IntKind.min, IntKind.max, IntKind.signed, IntKind.bits] at h; omega
theorem Opn.slice {e : TypeId} {k : Nat} {α : Type} {enc : α → List DV} {ok : α → Prop} {sz : α → Nat} (h : Opn P e k enc ok sz) (hu : P.underlying t = some (.slice e)) (hc : P.cellsOf t = 1) (hk : 0 < k) :
    Opn P t 1 (eL enc) (fun l => l.length ≤ 9223372036854775807 ∧ ∀ a ∈ l, ok a) (fun l => szL sz l + 1) := by
  refine ⟨hc, fun {H en w fuel cs x} hx => ?_⟩
  rcases Deep.open_slice hu hx with ⟨rfl, _⟩ | ⟨a, len, cap, m, n, D, Pl, rfl, _, hl, hm, hmm, hxD, hel⟩
  · exact ⟨[], ⟨Nat.zero_le _, by simp⟩, rfl, rfl, one_get (.nil none 0 (Nat.zero_le _) (fun _ => rfl)), one_bulk _⟩
  simp only [if_true] at hmm
  subst hmm
  rw [h.cells] at hel
  have hcut : ∀ n0, n0 ≤ len → ∃ l : List α, l.length = n0 ∧ (∀ a ∈ l, ok a) ∧ szL sz l ≤ bulkAll ((List.range n0).map D) ∧ ∀ (i : Nat) (b : α), l[i]? = some b → (enc b).length = k ∧ ∀ (j : Nat) (y : DV), (enc b)[j]? = some y → ∃ u, w.cell? (a.add (i * k + j)) = some u ∧ DRd w All y u := by
    intro n0
    induction n0 with
    | zero => intro _; exact ⟨[], rfl, by simp, by simp [szL], by simp⟩
    | succ n0 ih =>
      intro hn
      obtain ⟨l, h1, h2, hz, h3⟩ := ih (by omega)
      obtain ⟨cs', hc', ht'⟩ := hel n0 (by omega)
      obtain ⟨b, hb1, hb2, hb3, hb4, hb5⟩ := h.op ht'
      obtain ⟨_, _, hcell⟩ := World.cells?_some hc'
      refine ⟨l ++ [b], by simp [h1], ?_, by rw [szL_app, List.range_succ, List.map_append, bulkAll_app]; simp only [szL, List.map_cons, List.map_nil, bulkAll]; simp only at hb5; omega, ?_⟩
      · intro a ha
        rcases List.mem_append.1 ha with ha | ha
        · exact h2 a ha
        · simp at ha; subst ha; exact hb1
      · intro i b' hi
        rw [List.getElem?_append] at hi
        split at hi
        · exact h3 i b' hi
        · rename_i hge
          have hi0 : i = n0 := by
            have : i - l.length < 1 := by simpa using (List.getElem?_eq_some_iff.1 hi).1
            omega
          subst hi0
          simp [h1] at hi
          subst hi
          refine ⟨hb3, fun j y hy => ?_⟩
          have hj : j < k := by rw [← hb3]; exact (List.getElem?_eq_some_iff.1 hy).1
          have hcj := hcell j hj
          rw [Deep.add_add] at hcj
          have hu' : cs'[j]? = some (cs'[j]'(by omega)) := List.getElem?_eq_getElem (by omega)
          exact ⟨_, by rw [hcj, hu'], hb4 j y _ hy hu'⟩
  obtain ⟨l, h1, h2, hz, h3⟩ := hcut len (Nat.le_refl _)
  refine ⟨l, ⟨by unfold maxLen at hm; omega, h2⟩, rfl, rfl, one_get ?_, ?_⟩
  rotate_left
  · rw [hxD]; simp only [bulk]; omega
  by_cases h0 : len = 0
  · have : l = [] := List.eq_nil_of_length_eq_zero (by omega)
    subst this
    subst h0
    exact .nil _ _ hm (fun e => by cases e)
  · -- the first cell tells that the address is a plain one
    have hl0 : 0 < l.length := by omega
    obtain ⟨hk0, hc0⟩ := h3 0 _ (List.getElem?_eq_getElem hl0)
    obtain ⟨u0, hu0, _⟩ := hc0 0 _ (List.getElem?_eq_getElem (by omega : 0 < (enc l[0]).length))
    have hspot : a.spot = none := by simpa [Addr.add] using World.cell?_spot hu0
    obtain ⟨b, off, spot⟩ := a
    simp only at hspot
    subst hspot
    have hb : b < w.heap.size := by
      rw [Addr.add_lit] at hu0
      unfold World.cell? at hu0
      cases hh : w.heap[b]? with
      | none => simp [hh] at hu0
      | some o => exact (Array.getElem?_eq_some_iff.1 hh).1
    have hlen : (l.map enc).length = len := by simp [h1]
    rw [← hlen]
    refine .sl _ b off m k (fun i j => (w.cell? ⟨b, off + (i * k + j), none⟩).getD undef) (by omega) hm trivial hb ?_ ?_ ?_
    · intro i cs hi
      rw [List.getElem?_map] at hi
      cases hx : l[i]? with
      | none => simp [hx] at hi
      | some y => simp [hx] at hi; subst hi; exact (h3 i y hx).1
    · intro i j hi hj
      have hil : i < l.length := by simpa using hi
      obtain ⟨e1, e2⟩ := h3 i _ (List.getElem?_eq_getElem hil)
      obtain ⟨u, hu, _⟩ := e2 j _ (List.getElem?_eq_getElem (by omega : j < (enc l[i]).length))
      rw [Addr.add_lit] at hu
      simp [hu]
    · intro i cs j x hi hx
      rw [List.getElem?_map] at hi
      cases hy : l[i]? with
      | none => simp [hy] at hi
      | some y =>
        simp [hy] at hi
        subst hi
        obtain ⟨u, hu, hd⟩ := (h3 i y hy).2 j x hx
        rw [Addr.add_lit] at hu
        simpa [hu] using hd

/-- The fields from offset off on. -/
structure OpnF (P : Program) (fs : List Field) (off k : Nat) {α : Type} (enc : α → List DV) (ok : α → Prop) (sz : α → Nat) : Prop where
  op : ∀ {H : Type} {en : TypeId × Value → H} {w : World} {n : Nat} {cs : List Value} {xs : List (DataW H × List MemPlace)}, xs.length = fs.length →
    (∀ (i : Nat) (f : Field), fs[i]? = some f → DataW.trod en P w 0 (fun _ => true) true n f.type ((cs.drop f.offset).take (P.cellsOf f.type)) = xs[i]?) →
    ∃ a, ok a ∧ (enc a).length = k ∧ (∀ (j : Nat) (y : DV) (u : Value), (enc a)[j]? = some y → cs[off + j]? = some u → DRd w All y u) ∧ sz a ≤ bulkAll (xs.map (·.1))

theorem OpnF.nil (off : Nat) : OpnF P [] off 0 (fun _ : Unit => []) (fun _ => True) (fun _ => 0) := ⟨fun _ _ => ⟨(), trivial, rfl, by simp, Nat.zero_le _⟩⟩
theorem OpnF.cons {f : Field} {fs : List Field} {off k1 k2 : Nat} {α β : Type} {e1 : α → List DV} {o1 : α → Prop} {e2 : β → List DV} {o2 : β → Prop} {z1 : α → Nat} {z2 : β → Nat} (h1 : Opn P f.type k1 e1 o1 z1) (ho : f.offset = off) (h2 : OpnF P fs (off + k1) k2 e2 o2 z2) :
    OpnF P (f :: fs) off (k1 + k2) (fun p : α × β => e1 p.1 ++ e2 p.2) (fun p => o1 p.1 ∧ o2 p.2) (fun p => z1 p.1 + z2 p.2) := by
  refine ⟨fun {H en w n cs xs} hlen hx => ?_⟩
  cases xs with
  | nil => simp at hlen
  | cons x xs =>
    have hx0 := hx 0 f rfl
    simp only [List.getElem?_cons_zero] at hx0
    obtain ⟨a, ha1, ha2, ha3, ha4, ha5⟩ := h1.op hx0
    obtain ⟨b, hb1, hb2, hb3, hb4⟩ := h2.op (xs := xs) (by simpa using hlen) (fun i f' hf => by have := hx (i + 1) f' (by simpa using hf); simpa using this)
    refine ⟨(a, b), ⟨ha1, hb1⟩, by simp [ha3, hb2], ?_, by simp only [List.map_cons, bulkAll]; omega⟩
    intro j y u hy hu
    simp only [List.getElem?_append] at hy
    by_cases hj : j < k1
    · rw [if_pos (by omega)] at hy
      refine ha4 j y u hy ?_
      rw [List.getElem?_take, h1.cells, if_pos hj, List.getElem?_drop, ho]
      exact hu
    · rw [if_neg (by omega), ha3] at hy
      refine hb3 (j - k1) y u hy ?_
      rw [← hu]
      congr 1
      omega
theorem Opn.struct {fs : List Field} {k : Nat} {α : Type} {enc : α → List DV} {ok : α → Prop} {sz : α → Nat} (hu : P.underlying t = some (.struct fs.toArray)) (hc : P.cellsOf t = k) (h : OpnF P fs 0 k enc ok sz) : Opn P t k enc ok (fun a => sz a + 1) := by
  refine ⟨hc, fun {H en w fuel cs x} hx => ?_⟩
  obtain ⟨xs, n, _, hxe, hlen, hxl, hf⟩ := DataW.trod_struct hu hx
  obtain ⟨a, h1, h2, h3, h4⟩ := h.op (cs := cs) (xs := xs) (by simpa using hxl) (fun i f hi => hf i f (by simpa using hi))
  exact ⟨a, h1, by rw [hlen, hc], h2, fun j y u hy hu => h3 j y u hy (by simpa using hu), by rw [hxe]; simp only [bulk]; omega⟩

/-- A one-cell argument. -/
theorem Opn.arg {H : Type} {en : TypeId × Value → H} {w : World} {v : Value} {d : DataW H} {ps : List MemPlace} {α : Type} {enc : α → DV} {ok : α → Prop} {sz : α → Nat} (h : Opn P t 1 (fun a => [enc a]) ok sz)
    (hx : DataW.Trod en P w 0 (fun _ => true) true t v d ps) (h1 : v.oneCell' = true) : ∃ a, ok a ∧ Rd w g0 All (.d (enc a)) v ∧ sz a ≤ bulk d := by
  obtain ⟨fuel, hf⟩ := hx
  obtain ⟨a, ha, _, _, hr, hz⟩ := h.op hf
  have hcs : v.cells.toList = [v] := by cases v <;> first | rfl | (simp [Value.oneCell'] at h1; done)
  exact ⟨a, ha, .d (hr 0 _ v rfl (by rw [hcs]; rfl)), hz⟩
/-- An argument of more cells. -/
theorem Opn.argAgg {H : Type} {en : TypeId × Value → H} {w : World} {us : Array Value} {d : DataW H} {ps : List MemPlace} {k : Nat} {α : Type} {enc : α → List DV} {ok : α → Prop} {sz : α → Nat} (h : Opn P t k enc ok sz)
    (hx : DataW.Trod en P w 0 (fun _ => true) true t (.agg us) d ps) : ∃ a, ok a ∧ Rd w g0 All (.agg (List.map .d (enc a))) (.agg us) ∧ sz a ≤ bulk d := by
  obtain ⟨fuel, hf⟩ := hx
  obtain ⟨a, ha, hl, hel, hr, hz⟩ := h.op hf
  have hcs : (Value.agg us).cells.toList = us.toList := rfl
  rw [hcs] at hl hr
  refine ⟨a, ha, ?_, hz⟩
  have key : ∀ (i : Nat) (y : DV) (u : Value), (enc a)[i]? = some y → us.toList[i]? = some u → DRd w All y u := hr
  have := Rd.agg (w := w) (g := g0) (S := All) ((enc a).map .d) us.toList (by simp [hel, hl]) (fun i p u hp hu => by
    rw [List.getElem?_map] at hp
    cases hy : (enc a)[i]? with
    | none => simp [hy] at hp
    | some y => simp [hy] at hp; subst hp; exact .d (key i y u hy hu)) (fun u hu => by
    obtain ⟨i, hi, rfl⟩ := List.getElem_of_mem hu
    have hi2 : i < (enc a).length := by omega
    exact (key i _ _ (List.getElem?_eq_getElem hi2) (List.getElem?_eq_getElem hi)).one)
  simpa using this

theorem trodAll_below {H : Type} {en : TypeId × Value → H} (hl : laidOutB P = true) {W W' : World} (hb : Below W.heap.size W W') : ∀ {ts : List TypeId} {vs : List Value} {ds : List (DataW H)} {ps : List MemPlace},
    (∀ t ∈ ts, P.readableRec t = true ∧ t < P.types.size) → DataW.TrodAll en P W 0 (fun _ => true) true ts vs ds ps → (∀ x ∈ ps, x.block < W.heap.size) → DataW.TrodAll en P W' 0 (fun b => decide (b < W.heap.size)) true ts vs ds ps
  | [], [], [], ps, _, h, _ => h
  | t :: ts, v :: vs, d :: ds, ps, hr, h, hlt => by
    obtain ⟨p, q, h1, h2, rfl⟩ := h
    have hrt := hr t (by simp)
    exact ⟨p, q, Below.trod hl hrt.1 hrt.2 h1 hb (fun x hx => hlt x (List.mem_append.2 (.inl hx))), trodAll_below hl hb (fun t ht => hr t (by simp [ht])) h2 (fun x hx => hlt x (List.mem_append.2 (.inr hx))), rfl⟩
  | [], [], _ :: _, _, _, h, _ => h.elim
  | [], _ :: _, _, _, _, h, _ => h.elim
  | _ :: _, [], _, _, _, h, _ => h.elim
  | _ :: _, _ :: _, [], _, _, h, _ => h.elim
theorem trodAll_len {H : Type} {en : TypeId × Value → H} {w : World} {base : Nat} {sp : Nat → Bool} {hd : Bool} : ∀ {ts : List TypeId} {vs : List Value} {ds : List (DataW H)} {ps : List MemPlace}, DataW.TrodAll en P w base sp hd ts vs ds ps → ds.length = ts.length
  | [], [], [], _, _ => rfl
  | _ :: _, _ :: _, _ :: _, _, h => by
    obtain ⟨_, _, _, h2, _⟩ := h
    simp [trodAll_len h2]
  | [], [], _ :: _, _, h => h.elim
  | [], _ :: _, _, _, h => h.elim
  | _ :: _, [], _, _, h => h.elim
  | _ :: _, _ :: _, [], _, h => h.elim

/-- 'For every input true; the input reads as it did.' -/
theorem post_true {H : Type} {en : TypeId × Value → H} {fn : Func} {s : ChangeSpec} {tb : TypeId} {W W' : World} {args : Array Value} {ds gs : List (DataW H)} {before : List MemPlace} (hl : laidOutB P = true)
    (hW : DataW.Whole en P fn.params.toList s.vars false W args.toList ds gs before) (hv : s.vars = []) (hs : ∀ ds : List (DataW H), ds.length = fn.params.size → (s.fn H ds).results = [.lit (.bool true)] ∧ (s.fn H ds).args = ds ∧ (s.fn H ds).vars = [])
    (hres : fn.resultTypes = #[tb]) (htb : P.underlying tb = some .bool) (hr : ∀ t ∈ fn.params.toList, P.readableRec t = true ∧ t < P.types.size) (hb : Below W.heap.size W W') :
    s.post en P fn false true false false W args (.bool true) W' := by
  have hW' := hW
  obtain ⟨p, q, hA, hV, hpq, hfz, hnd⟩ := hW
  rw [hv] at hV
  obtain ⟨rfl, rfl⟩ := trodVars_none hV
  simp only [List.append_nil] at hpq
  subst hpq
  have hlt : ∀ x ∈ before, x.block < W.heap.size := fun x hx => by simpa using hW'.lt x hx
  have hlen : ds.length = fn.params.size := by simpa using trodAll_len hA
  obtain ⟨e1, e2, e3⟩ := hs (ds ++ []) (by simpa using hlen)
  refine ⟨ds, [], before, [], before, [], hW', ?_, ?_, ?_, hb.frame _, fun h => by cases h⟩
  · rw [e1, hres]
    exact trodAll_mk1 (shut_bool htb true)
  · rw [e2, List.append_nil]
    exact trodAll_below hl hb hr hA hlt
  · rw [e3, hv]; rfl
end
end Go.Ep

namespace Go.Ep
open Go Go.RowKit Go.ChangeShapes Go.WideShapes
theorem Opn.arr2 {P : Program} {t e : TypeId} {k : Nat} {α : Type} {enc : α → List DV} {ok : α → Prop} {sz : α → Nat} (h : Opn P e k enc ok sz) (hu : P.underlying t = some (.array 2 e)) (hc : P.cellsOf t = k + k) :
    Opn P t (k + k) (eP enc) (fun p => ok p.1 ∧ ok p.2) (fun p => sz p.1 + sz p.2 + 1) := by
  refine ⟨hc, fun {H en w fuel cs x} hx => ?_⟩
  obtain ⟨xs, m, _, hxe, hlen, hl, hf⟩ := DataW.trod_array hu hx
  match xs, hl with
  | [x0, x1], _ =>
    have h0 := hf 0 (by omega)
    have h1 := hf 1 (by omega)
    rw [h.cells] at h0 h1
    simp only [Nat.zero_mul, List.drop_zero, Nat.one_mul, List.getElem?_cons_zero, List.getElem?_cons_succ] at h0 h1
    obtain ⟨a, ha1, ha2, ha3, ha4, ha5⟩ := h.op h0
    obtain ⟨b, hb1, hb2, hb3, hb4, hb5⟩ := h.op h1
    refine ⟨(a, b), ⟨ha1, hb1⟩, by rw [hlen, hc], by simp only [eP, List.length_append]; omega, fun j y u hy hu' => ?_, ?_⟩
    · simp only [eP] at hy
      rw [List.getElem?_append] at hy
      by_cases hj : j < k
      · rw [if_pos (by omega)] at hy
        exact ha4 j y u hy (by rw [List.getElem?_take, if_pos hj]; exact hu')
      · rw [if_neg (by omega), ha3] at hy
        have hjk : j - k < k := by have := (List.getElem?_eq_some_iff.1 hy).1; omega
        refine hb4 (j - k) y u hy ?_
        rw [List.getElem?_take, if_pos hjk, List.getElem?_drop, ← hu']
        congr 1; omega
    · rw [hxe]
      simp only [bulk, List.map_cons, List.map_nil, bulkAll]
      omega
end Go.Ep

namespace Go.Ep
set_option linter.unusedVariables false

def L26Act.ok (x : L26Act) : Prop := okK .u8 x.kind ∧ okK .u8 x.slot ∧ okK .u64 x.try_ ∧ okK .u16 x.dev ∧ okK .u64 x.epoch
def L26Act.sz (x : L26Act) : Nat := (1 + (1 + (1 + (1 + (1 + 0))))) + 1
def TMember.ok (x : TMember) : Prop := okK .u16 x.dev ∧ okK .u8 x.slot ∧ okK .u64 x.try_
def TMember.sz (x : TMember) : Nat := (1 + (1 + (1 + 0))) + 1
end Go.Ep
namespace Go.Proofs
open Go.Ep
set_option maxRecDepth 100000
theorem opnTMember : Opn Try.prog 35 3 TMember.e TMember.ok TMember.sz := (Opn.struct Try.underlying35 (by kernel_rfl) (OpnF.cons (Opn.int Try.underlying27 (by kernel_rfl)) rfl (OpnF.cons (Opn.int Try.underlying5 (by kernel_rfl)) rfl (OpnF.cons (Opn.int Try.underlying28 (by kernel_rfl)) rfl (OpnF.nil _))))).map (fun p => ⟨p.1, p.2.1, p.2.2.1⟩) (fun _ _ => rfl) (fun p h => ⟨h.1, h.2.1, h.2.2.1⟩) (fun _ => Nat.le_refl _)
end Go.Proofs


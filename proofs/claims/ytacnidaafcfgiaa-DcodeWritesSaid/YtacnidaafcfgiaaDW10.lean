/- Walks: written by program. -/
import Derived.Test.YtacnidaafcfgiaaDFc
import Derived.Test.YtacnidaafcfgiaaDSh
import Derived.Test.YtacnidaafcfgiaaDSx
import Derived.Test.YtacnidaafcfgiaaTl
import Derived.Test.YtacnidaafcfgiaaSr
import Derived.Test.YtacnidaafcfgiaaDr
import Derived.Test.YtacnidaafcfgiaaOb
import Derived.Test.YtacnidaafcfgiaaOe
import Derived.Test.YtacnidaafcfgiaaLs
import Derived.Test.YtacnidaafcfgiaaTl
import Derived.Test.YtacnidaafcfgiaaStr
import Derived.Test.YtacnidaafcfgiaaPc
import Derived.Test.YtacnidaafcfgiaaDW5
import Derived.Test.YtacnidaafcfgiaaDW6
import Derived.Test.YtacnidaafcfgiaaDW9
namespace Go.Proofs
open Go.Ep
set_option maxHeartbeats 1000000
set_option maxRecDepth 100000
set_option linter.unusedVariables false
set_option linter.unusedSimpArgs false


theorem r03_Append_ok (b1 : List Int) (v2 : Int) (r0 : List Int) (h : (r03_Append b1 v2).wp (· = r0)) : PRow Try.prog 85 [.d (.sl (List.map (eK .u8) b1)), .d (.v (.int .u64 v2))] 5 1 (List.map (eK .u8) r0) := by
  refine PRow.intro (sl := [(0, _), (1, _)]) Try.func85 rfl Try.ntmps85 rfl rfl ?_
  intro ctx hK
  refine PWc.seq ?_
  refine PWc.region ?_
  refine PWl.step (LR.assignNilRow 5 1 rfl) rfl ?_
  refine PWl.nil ?_
  refine PWc.seq ?_
  refine PWc.region ?_
  refine PWl.step (LR.buildSlice [] elem45 rfl rfl (.nil) (by decide) (by decide) rfl) rfl ?_
  refine PWl.step (LR.move rfl) rfl ?_
  replace h := iNeed h
  obtain ⟨hy3, h⟩ := h
  refine PWl.step (LR.appT (enc := (eK .u8)) (L := ([] : List Int)) (R := b1) [8] elem45 Try.underlying45 rfl (by first | (simp; done) | (simp; omega) | omega) rfl (Src.slT (enc := (eK .u8)) (R := b1) rfl (fun _ => rfl)) (fun _ => rfl) hy3 rfl rfl) rfl ?_
  refine PWl.step (LR.assign rfl) rfl ?_
  refine PWl.nil ?_
  refine PWc.seq ?_
  refine PWc.region ?_
  refine PWl.step (LR.move rfl) rfl ?_
  replace h := iDet h
  obtain ⟨v4, hy5, h⟩ := h
  refine PWl.step (LR.callN (r01_Len_ok v2 v4 hy5) rfl Try.call131 rfl rfl rfl rfl) rfl ?_
  refine PWl.step (LR.assign rfl) rfl ?_
  refine PWl.nil ?_
  refine PWc.seq ?_
  refine PWc.region ?_
  refine PWl.step (LR.move rfl) rfl ?_
  refine PWl.step (LR.move rfl) rfl ?_
  refine PWl.step (LR.convInt Try.underlying5 (by rw [Try.underlying3]; rfl) rfl rfl) rfl ?_
  refine PWl.step (LR.buildSliceD [.tmp 15] elem45 rfl rfl (.cons rfl rfl rfl <| .nil) (by decide) (by decide)) rfl ?_
  replace h := iNeed h
  obtain ⟨hy6, h⟩ := h
  refine PWl.step (LR.appT (enc := (eK .u8)) (L := (([] : List Int) ++ b1)) (R := [(IntKind.u8.wrap v4)]) [5, 10, 13] elem45 Try.underlying45 rfl rfl rfl (Src.slT (enc := (eK .u8)) (R := [(IntKind.u8.wrap v4)]) rfl (fun _ => rfl)) (fun _ => rfl) hy6 rfl rfl) rfl ?_
  refine PWl.step (LR.assign rfl) rfl ?_
  refine PWl.nil ?_
  refine PWc.seq ?_
  refine PWc.seq ?_
  refine PWc.region ?_
  refine PWl.step (LR.move rfl) rfl ?_
  refine PWl.step (LR.subW rfl rfl) rfl ?_
  refine PWl.step (LR.assign rfl) rfl ?_
  refine PWl.nil ?_
  refine PWc.jn (iBind h) (fun (v7 : List Int) (_ : Unit) => ⟨31, [(5, .row 8 (List.length v7))], [(8, .row 5 1 (List.map (eK .u8) v7))]⟩) (fun h => ?_) ?_
  · refine PWc.block ?_
    refine PWc.loopM (fun (⟨i18, v19⟩ : Int × List Int) (_ : Unit) => ⟨31, [(1, .d (.v (.int .u64 v2))), (5, .row 8 (List.length v19)), (7, .d (.v (.int .i64 i18)))], [(8, .row 5 1 (List.map (eK .u8) v19))]⟩) () h (Sub.of rfl (.cons rfl rfl <| .cons rfl (by first | rfl | (simp; done) | (congr 1; first | (simp; done) | (simp; omega))) <| .cons rfl rfl <| .nil) (.cons rfl rfl <| .nil)) ?_
    rintro N ⟨i18, v19⟩ _ h
    refine PWc.seq ?_
    refine PWc.seq ?_
    refine PWc.region ?_
    refine PWl.step (LR.move rfl) rfl ?_
    refine PWl.step (LR.geq rfl rfl) rfl ?_
    refine PWl.nil ?_
    refine PWc.cond rfl (fun hc20 => ?_) (fun hc20 => ?_)
    · replace h := iT hc20 h
      refine PWc.skip ?_
      refine PWc.seq ?_
      refine PWc.block ?_
      refine PWc.region ?_
      refine PWl.step (LR.move rfl) rfl ?_
      refine PWl.step (LR.move rfl) rfl ?_
      refine PWl.step (LR.move rfl) rfl ?_
      replace h := iDet h
      obtain ⟨v21, hy22, h⟩ := h
      refine PWl.step (LR.callN (r01_Byte_ok v2 i18 v21 hy22) rfl Try.call132 rfl rfl rfl rfl) rfl ?_
      refine PWl.step (LR.buildSliceD [.tmp 27] elem45 rfl rfl (.cons rfl rfl rfl <| .nil) (by decide) (by decide)) rfl ?_
      replace h := iNeed h
      obtain ⟨hy23, h⟩ := h
      refine PWl.step (LR.appT (enc := (eK .u8)) (L := v19) (R := [v21]) [5, 24] elem45 Try.underlying45 rfl rfl rfl (Src.slT (enc := (eK .u8)) (R := [v21]) rfl (fun _ => rfl)) (fun _ => rfl) hy23 rfl rfl) rfl ?_
      refine PWl.step (LR.assign rfl) rfl ?_
      refine PWl.nil ?_
      refine PWc.region ?_
      refine PWl.step (LR.move rfl) rfl ?_
      refine PWl.step (LR.subW rfl rfl) rfl ?_
      refine PWl.step (LR.assign rfl) rfl ?_
      refine PWl.nil ?_
      exact ⟨((IntKind.i64.wrap (i18 - 1)), (v19 ++ [v21])), (), h, Sub.of rfl (.cons rfl rfl <| .cons rfl rfl <| .cons rfl rfl <| .nil) (.cons rfl rfl <| .nil)⟩
    · replace h := iF hc20 h
      refine PWc.exit ?_
      exact ⟨v19, (), h, Sub.of rfl (.cons rfl rfl <| .nil) (.cons rfl rfl <| .nil)⟩
  · rintro v7 _ h
    refine PWc.seq ?_
    refine PWc.region ?_
    refine PWl.step (LR.move rfl) rfl ?_
    refine PWl.step (LR.assign rfl) rfl ?_
    refine PWl.nil ?_
    refine PWc.ret ?_
    replace h : _ = r0 := h
    subst h
    exact ⟨.inr rfl, 4, rfl, .inr ⟨8, _, rfl, (by simp), rfl⟩⟩

theorem r15_PutDot_ok (b1 : List Int) (d2 : TDot) (r0 : List Int) (h : (r15_PutDot b1 d2).wp (· = r0)) : PRow Try.prog 31 [.d (.sl (List.map (eK .u8) b1)), .agg (List.map .d (TDot.e d2))] 5 1 (List.map (eK .u8) r0) := by
  refine PRow.intro (sl := [(0, _), (1, _)]) Try.func31 rfl Try.ntmps31 rfl rfl ?_
  intro ctx hK
  refine PWc.seq ?_
  refine PWc.region ?_
  refine PWl.step (LR.box rfl rfl rfl rfl) rfl ?_
  refine PWl.step (LR.assignNilRow 5 1 rfl) rfl ?_
  refine PWl.nil ?_
  refine PWc.seq ?_
  refine PWc.re (tl := [(0, _), (3, _)]) (to := [(3, _)]) rfl (.cons rfl rfl <| .cons rfl rfl <| .nil) (.cons rfl rfl <| .nil) ?_
  refine PWc.regionE [⟨[5], [], [], [], [], [], [], []⟩, ⟨[6], [], [], [], [], [3], [], []⟩, ⟨[7], [], [3], [], [], [], [], []⟩, ⟨[8], [], [], [], [], [], [], []⟩, ⟨[9], [], [], [], [], [], [], []⟩, ⟨[10], [], [], [], [], [3], [], []⟩, ⟨[11], [], [3], [], [], [], [], []⟩, ⟨[12], [12], [], [12], [], [12], [], []⟩, ⟨[4], [], [], [], [], [12], [], []⟩] (by kernel_rfl) (by kernel_rfl) rfl ?_
  refine PQe.stepP (fun _ he ho => LR.move (he rfl rfl)) (.inl rfl) rfl ?_
  refine PQe.stepP (fun _ he ho => LR.fieldRef Try.underlying38 rfl Try.sizeOf28 (by decide) rfl (he rfl rfl)) (.inl rfl) rfl ?_
  refine PQe.stepP (fun _ he ho => LR.loadRef Try.isAgg28 (he rfl rfl) (ho rfl rfl) rfl) (.inl rfl) rfl ?_
  refine PQe.stepP (fun _ he ho => LR.convInt Try.underlying36 (by rw [Try.underlying28]; rfl) (he rfl rfl) rfl) (.inl rfl) rfl ?_
  replace h := iDet h
  obtain ⟨v3, hy4, h⟩ := h
  refine PQe.stepP (fun _ he ho => LR.callN (PRow.fun (r03_Append_ok b1 (IntKind.u64.wrap d2.dev) v3 hy4)) (he rfl rfl) Try.call85 (evsE he rfl rfl) rfl rfl rfl) (.inl rfl) rfl ?_
  refine PQe.stepP (fun _ he ho => LR.fieldRef Try.underlying38 rfl Try.sizeOf36 (by decide) rfl (he rfl rfl)) (.inl rfl) rfl ?_
  refine PQe.stepP (fun _ he ho => LR.loadRef Try.isAgg36 (he rfl rfl) (ho rfl rfl) rfl) (.inl rfl) rfl ?_
  replace h := iDet h
  obtain ⟨v5, hy6, h⟩ := h
  refine PQe.stepN (fun _ he ho hf => LR.rowN (r03_Append_ok v3 d2.n v5 hy6) (he rfl rfl) Try.call85 (evsE he rfl rfl) rfl rfl hf) rfl (.inl rfl) rfl ?_
  refine PQe.stepP (fun _ he ho => LR.assign (he rfl rfl)) (.inl rfl) rfl ?_
  refine PQe.nil ?_
  refine PWc.ret ?_
  replace h : _ = r0 := h
  subst h
  exact ⟨.inr rfl, 4, rfl, .inr ⟨12, _, rfl, (by simp), rfl⟩⟩

theorem r15_PutDots_ok (b1 : List Int) (l2 : List TDot) (r0 : List Int) (h : (r15_PutDots b1 l2).wp (· = r0)) : PFun Try.prog 32 [.d (.sl (List.map (eK .u8) b1)), .d (.sl (List.map TDot.e l2))] (.d (.sl (List.map (eK .u8) r0))) := by
  refine PFun.intro (sl := [(0, _), (1, _)]) Try.func32 rfl Try.ntmps32 rfl rfl ?_
  intro ctx hK
  refine PWc.seq ?_
  refine PWc.region ?_
  refine PWl.step (LR.assignNilRow 5 1 rfl) rfl ?_
  refine PWl.nil ?_
  refine PWc.seq ?_
  refine PWc.region ?_
  refine PWl.step (LR.assignNilRow 38 2 rfl) rfl ?_
  refine PWl.nil ?_
  refine PWc.seq ?_
  refine PWc.seq ?_
  refine PWc.region ?_
  refine PWl.step (LR.assign rfl) rfl ?_
  refine PWl.nil ?_
  refine PWc.jn (iBind h) (fun (some3 : List TDot) (_ : Unit) => ⟨44, [(0, .d (.sl (List.map (eK .u8) b1))), (5, .d (.sl (List.map TDot.e some3)))], []⟩) (fun h => ?_) ?_
  · refine PWc.block ?_
    refine PWc.loopM (fun (⟨some28, i29⟩ : List TDot × Int) (_ : Unit) => ⟨44, [(0, .d (.sl (List.map (eK .u8) b1))), (1, .d (.sl (List.map TDot.e l2))), (5, .d (.sl (List.map TDot.e some28))), (6, .d (.v (.int .i64 i29)))], []⟩) () h (Sub.trans (Sub.frz [5] hK rfl (by first | (simp; done) | (simp; omega) | omega) (AllRow.get (.cons rfl <| .nil))) <| Sub.of rfl (.cons rfl rfl <| .cons rfl rfl <| .cons rfl rfl <| .cons rfl rfl <| .nil) (.nil)) ?_
    rintro N ⟨some28, i29⟩ _ h
    refine PWc.seq ?_
    refine PWc.seq ?_
    refine PWc.region ?_
    refine PWl.step (LR.move rfl) rfl ?_
    refine PWl.step (LR.move rfl) rfl ?_
    refine PWl.step (LR.lenMap (enc := TDot.e) (L := l2) Try.underlying39 rfl) rfl ?_
    refine PWl.step (LR.lss rfl rfl) rfl ?_
    refine PWl.nil ?_
    refine PWc.cond rfl (fun hc30 => ?_) (fun hc30 => ?_)
    · replace h := iT hc30 h
      refine PWc.skip ?_
      refine PWc.seq ?_
      refine PWc.jn (iBind h) (fun (some31 : List TDot) (_ : Unit) => ⟨44, [(0, .d (.sl (List.map (eK .u8) b1))), (1, .d (.sl (List.map TDot.e l2))), (5, .d (.sl (List.map TDot.e some31))), (6, .d (.v (.int .i64 i29)))], []⟩) (fun h => ?_) ?_
      · refine PWc.block ?_
        refine PWc.seq ?_
        refine PWc.region ?_
        refine PWl.step (LR.move rfl) rfl ?_
        refine PWl.step (LR.move rfl) rfl ?_
        replace h := iIdx h
        obtain ⟨x32, hy33, h⟩ := h
        refine PWl.step (LR.idxT (enc := TDot.e) (L := l2) (y := x32) Try.underlying39 Try.sizeOf38 rfl rfl hy33 (fun _ => rfl)) rfl ?_
        refine PWl.step (LR.loadEpAgg (ys := [_, _]) Try.isAgg38 Try.sizeOf38 rfl rfl rfl) rfl ?_
        replace h := iDet h
        obtain ⟨v34, hy35, h⟩ := h
        refine PWl.step (LR.callN (r07_Good_ok x32 v34 hy35) rfl Try.call75 rfl rfl rfl rfl) rfl ?_
        refine PWl.nil ?_
        refine PWc.cond rfl (fun hc36 => ?_) (fun hc36 => ?_)
        · replace h := iT hc36 h
          refine PWc.region ?_
          refine PWl.step (LR.move rfl) rfl ?_
          refine PWl.step (LR.move rfl) rfl ?_
          refine PWl.step (LR.move rfl) rfl ?_
          replace h := iIdx h
          obtain ⟨x37, hy38, h⟩ := h
          refine PWl.step (LR.idxT (enc := TDot.e) (L := l2) (y := x37) Try.underlying39 Try.sizeOf38 rfl rfl hy38 (fun _ => rfl)) rfl ?_
          refine PWl.step (LR.loadEpAgg (ys := [_, _]) Try.isAgg38 Try.sizeOf38 rfl rfl rfl) rfl ?_
          replace h := iDet h
          obtain ⟨v39, hy40, h⟩ := h
          refine PWl.step (LR.rowN (r07_Put_ok some28 x37 v39 hy40) rfl Try.call86 rfl rfl rfl rfl) rfl ?_
          refine PWl.step (LR.assign rfl) rfl ?_
          refine PWl.nil ?_
          exact ⟨v39, (), h, Sub.trans (Sub.frz [5, 25] hK rfl (by simp) (AllRow.get (.cons rfl <| .cons rfl <| .nil))) <| Sub.of rfl (.cons rfl rfl <| .cons rfl rfl <| .cons rfl rfl <| .cons rfl rfl <| .nil) (.nil)⟩
        · replace h := iF hc36 h
          refine PWc.skip ?_
          exact ⟨some28, (), h, Sub.of rfl (.cons rfl rfl <| .cons rfl rfl <| .cons rfl rfl <| .cons rfl rfl <| .nil) (.nil)⟩
      · rintro some31 _ h
        refine PWc.region ?_
        refine PWl.step (LR.move rfl) rfl ?_
        refine PWl.step (LR.addW rfl rfl) rfl ?_
        refine PWl.step (LR.assign rfl) rfl ?_
        refine PWl.nil ?_
        exact ⟨(some31, (IntKind.i64.wrap (i29 + 1))), (), h, Sub.of rfl (.cons rfl rfl <| .cons rfl rfl <| .cons rfl rfl <| .cons rfl rfl <| .nil) (.nil)⟩
    · replace h := iF hc30 h
      refine PWc.exit ?_
      exact ⟨some28, (), h, Sub.of rfl (.cons rfl rfl <| .cons rfl rfl <| .nil) (.nil)⟩
  · rintro some3 _ h
    refine PWc.seq ?_
    refine PWc.region ?_
    refine PWl.step (LR.move rfl) rfl ?_
    refine PWl.step (LR.move rfl) rfl ?_
    refine PWl.step (LR.lenMap (enc := TDot.e) (L := some3) Try.underlying39 rfl) rfl ?_
    refine PWl.step (LR.convInt Try.underlying36 (by rw [Try.underlying3]; rfl) rfl rfl) rfl ?_
    replace h := iDet h
    obtain ⟨v41, hy42, h⟩ := h
    refine PWl.step (LR.rowN (r03_Append_ok b1 (IntKind.u64.wrap (List.length some3 : Int)) v41 hy42) rfl Try.call85 rfl rfl rfl rfl) rfl ?_
    refine PWl.step (LR.assign rfl) rfl ?_
    refine PWl.nil ?_
    refine PWc.seq ?_
    refine PWc.seq ?_
    refine PWc.region ?_
    refine PWl.step (LR.assign rfl) rfl ?_
    refine PWl.nil ?_
    refine PWc.jn (iBind h) (fun (out43 : List Int) (_ : Unit) => ⟨44, [(7, .d (.sl (List.map (eK .u8) out43)))], []⟩) (fun h => ?_) ?_
    · refine PWc.block ?_
      refine PWc.loopM (fun (⟨out56, i57⟩ : List Int × Int) (_ : Unit) => ⟨44, [(5, .d (.sl (List.map TDot.e some3))), (7, .d (.sl (List.map (eK .u8) out56))), (8, .d (.v (.int .i64 i57)))], []⟩) () h (Sub.trans (Sub.frz [7, 30] hK rfl (by simp) (AllRow.get (.cons rfl <| .cons rfl <| .nil))) <| Sub.of rfl (.cons rfl rfl <| .cons rfl rfl <| .cons rfl rfl <| .nil) (.nil)) ?_
      rintro N ⟨out56, i57⟩ _ h
      refine PWc.seq ?_
      refine PWc.seq ?_
      refine PWc.region ?_
      refine PWl.step (LR.move rfl) rfl ?_
      refine PWl.step (LR.move rfl) rfl ?_
      refine PWl.step (LR.lenMap (enc := TDot.e) (L := some3) Try.underlying39 rfl) rfl ?_
      refine PWl.step (LR.lss rfl rfl) rfl ?_
      refine PWl.nil ?_
      refine PWc.cond rfl (fun hc58 => ?_) (fun hc58 => ?_)
      · replace h := iT hc58 h
        refine PWc.skip ?_
        refine PWc.seq ?_
        refine PWc.block ?_
        refine PWc.region ?_
        refine PWl.step (LR.move rfl) rfl ?_
        refine PWl.step (LR.move rfl) rfl ?_
        refine PWl.step (LR.move rfl) rfl ?_
        replace h := iIdx h
        obtain ⟨x59, hy60, h⟩ := h
        refine PWl.step (LR.idxT (enc := TDot.e) (L := some3) (y := x59) Try.underlying39 Try.sizeOf38 rfl rfl hy60 (fun _ => rfl)) rfl ?_
        refine PWl.step (LR.loadEpAgg (ys := [_, _]) Try.isAgg38 Try.sizeOf38 rfl rfl rfl) rfl ?_
        replace h := iDet h
        obtain ⟨v61, hy62, h⟩ := h
        refine PWl.step (LR.rowN (r15_PutDot_ok out56 x59 v61 hy62) rfl Try.call31 rfl rfl rfl rfl) rfl ?_
        refine PWl.step (LR.assign rfl) rfl ?_
        refine PWl.nil ?_
        refine PWc.region ?_
        refine PWl.step (LR.move rfl) rfl ?_
        refine PWl.step (LR.addW rfl rfl) rfl ?_
        refine PWl.step (LR.assign rfl) rfl ?_
        refine PWl.nil ?_
        exact ⟨(v61, (IntKind.i64.wrap (i57 + 1))), (), h, Sub.trans (Sub.frz [7, 42] hK rfl (by simp) (AllRow.get (.cons rfl <| .cons rfl <| .nil))) <| Sub.of rfl (.cons rfl rfl <| .cons rfl rfl <| .cons rfl rfl <| .nil) (.nil)⟩
      · replace h := iF hc58 h
        refine PWc.exit ?_
        exact ⟨out56, (), h, Sub.of rfl (.cons rfl rfl <| .nil) (.nil)⟩
    · rintro out43 _ h
      refine PWc.seq ?_
      refine PWc.region ?_
      refine PWl.step (LR.move rfl) rfl ?_
      refine PWl.step (LR.assign rfl) rfl ?_
      refine PWl.nil ?_
      refine PWc.ret ?_
      replace h : _ = r0 := h
      subst h
      exact ⟨.inr rfl, _, .cons (.tmp rfl rfl) <| .nil, rfl⟩

theorem r09_devs_ok (a1 : List TPart) (b2 : List TPart) (r0 : List TDot) (h : (r09_devs a1 b2).wp (· = r0)) : PFun Try.prog 165 [.d (.sl (List.map TPart.e a1)), .d (.sl (List.map TPart.e b2))] (.d (.sl (List.map TDot.e r0))) := by
  refine PFun.intro (sl := [(0, _), (1, _)]) Try.func165 rfl Try.ntmps165 rfl rfl ?_
  intro ctx hK
  refine PWc.seq ?_
  refine PWc.region ?_
  refine PWl.step (LR.assignNilRow 38 2 rfl) rfl ?_
  refine PWl.nil ?_
  refine PWc.seq ?_
  refine PWc.region ?_
  refine PWl.step (LR.assignNilRow 38 2 rfl) rfl ?_
  refine PWl.nil ?_
  refine PWc.seq ?_
  refine PWc.seq ?_
  refine PWc.region ?_
  refine PWl.step (LR.assign rfl) rfl ?_
  refine PWl.nil ?_
  refine PWc.jn (iBind h) (fun (out3 : List TDot) (_ : Unit) => ⟨37, [(1, .d (.sl (List.map TPart.e b2))), (5, .d (.sl (List.map TDot.e out3)))], []⟩) (fun h => ?_) ?_
  · refine PWc.block ?_
    refine PWc.loopM (fun (⟨out16, i17⟩ : List TDot × Int) (_ : Unit) => ⟨37, [(0, .d (.sl (List.map TPart.e a1))), (1, .d (.sl (List.map TPart.e b2))), (5, .d (.sl (List.map TDot.e out16))), (6, .d (.v (.int .i64 i17)))], []⟩) () h (Sub.trans (Sub.frz [5] hK rfl (by first | (simp; done) | (simp; omega) | omega) (AllRow.get (.cons rfl <| .nil))) <| Sub.of rfl (.cons rfl rfl <| .cons rfl rfl <| .cons rfl rfl <| .cons rfl rfl <| .nil) (.nil)) ?_
    rintro N ⟨out16, i17⟩ _ h
    refine PWc.seq ?_
    refine PWc.seq ?_
    refine PWc.region ?_
    refine PWl.step (LR.move rfl) rfl ?_
    refine PWl.step (LR.move rfl) rfl ?_
    refine PWl.step (LR.lenMap (enc := TPart.e) (L := a1) Try.underlying24 rfl) rfl ?_
    refine PWl.step (LR.lss rfl rfl) rfl ?_
    refine PWl.nil ?_
    refine PWc.cond rfl (fun hc18 => ?_) (fun hc18 => ?_)
    · replace h := iT hc18 h
      refine PWc.skip ?_
      refine PWc.seq ?_
      refine PWc.block ?_
      refine PWc.region ?_
      refine PWl.step (LR.move rfl) rfl ?_
      refine PWl.step (LR.move rfl) rfl ?_
      refine PWl.step (LR.move rfl) rfl ?_
      replace h := iIdx h
      obtain ⟨x19, hy20, h⟩ := h
      refine PWl.step (LR.idxT (enc := TPart.e) (L := a1) (y := x19) Try.underlying24 Try.sizeOf101 rfl rfl hy20 (fun _ => rfl)) rfl ?_
      refine PWl.step (LR.fieldEp Try.underlying101 rfl Try.sizeOf28 (by decide) rfl rfl) rfl ?_
      refine PWl.step (LR.loadEp Try.isAgg28 rfl rfl) rfl ?_
      refine PWl.step (LR.build (ns := [_, _]) build38 rfl rfl rfl) rfl ?_
      replace h := iDet h
      obtain ⟨v21, hy22, h⟩ := h
      refine PWl.step (LR.rowN (r07_Put_ok out16 (⟨x19.dev, 1⟩ : TDot) v21 hy22) rfl Try.call86 rfl rfl rfl rfl) rfl ?_
      refine PWl.step (LR.assign rfl) rfl ?_
      refine PWl.nil ?_
      refine PWc.region ?_
      refine PWl.step (LR.move rfl) rfl ?_
      refine PWl.step (LR.addW rfl rfl) rfl ?_
      refine PWl.step (LR.assign rfl) rfl ?_
      refine PWl.nil ?_
      exact ⟨(v21, (IntKind.i64.wrap (i17 + 1))), (), h, Sub.trans (Sub.frz [5, 21] hK rfl (by simp) (AllRow.get (.cons rfl <| .cons rfl <| .nil))) <| Sub.of rfl (.cons rfl rfl <| .cons rfl rfl <| .cons rfl rfl <| .cons rfl rfl <| .nil) (.nil)⟩
    · replace h := iF hc18 h
      refine PWc.exit ?_
      exact ⟨out16, (), h, Sub.of rfl (.cons rfl rfl <| .cons rfl rfl <| .nil) (.nil)⟩
  · rintro out3 _ h
    refine PWc.seq ?_
    refine PWc.seq ?_
    refine PWc.region ?_
    refine PWl.step (LR.assign rfl) rfl ?_
    refine PWl.nil ?_
    refine PWc.jn (iBind h) (fun (out23 : List TDot) (_ : Unit) => ⟨37, [(5, .d (.sl (List.map TDot.e out23)))], []⟩) (fun h => ?_) ?_
    · refine PWc.block ?_
      refine PWc.loopM (fun (⟨out36, i37⟩ : List TDot × Int) (_ : Unit) => ⟨37, [(1, .d (.sl (List.map TPart.e b2))), (5, .d (.sl (List.map TDot.e out36))), (7, .d (.v (.int .i64 i37)))], []⟩) () h (Sub.of rfl (.cons rfl rfl <| .cons rfl rfl <| .cons rfl rfl <| .nil) (.nil)) ?_
      rintro N ⟨out36, i37⟩ _ h
      refine PWc.seq ?_
      refine PWc.seq ?_
      refine PWc.region ?_
      refine PWl.step (LR.move rfl) rfl ?_
      refine PWl.step (LR.move rfl) rfl ?_
      refine PWl.step (LR.lenMap (enc := TPart.e) (L := b2) Try.underlying24 rfl) rfl ?_
      refine PWl.step (LR.lss rfl rfl) rfl ?_
      refine PWl.nil ?_
      refine PWc.cond rfl (fun hc38 => ?_) (fun hc38 => ?_)
      · replace h := iT hc38 h
        refine PWc.skip ?_
        refine PWc.seq ?_
        refine PWc.block ?_
        refine PWc.region ?_
        refine PWl.step (LR.move rfl) rfl ?_
        refine PWl.step (LR.move rfl) rfl ?_
        refine PWl.step (LR.move rfl) rfl ?_
        replace h := iIdx h
        obtain ⟨x39, hy40, h⟩ := h
        refine PWl.step (LR.idxT (enc := TPart.e) (L := b2) (y := x39) Try.underlying24 Try.sizeOf101 rfl rfl hy40 (fun _ => rfl)) rfl ?_
        refine PWl.step (LR.fieldEp Try.underlying101 rfl Try.sizeOf28 (by decide) rfl rfl) rfl ?_
        refine PWl.step (LR.loadEp Try.isAgg28 rfl rfl) rfl ?_
        refine PWl.step (LR.build (ns := [_, _]) build38 rfl rfl rfl) rfl ?_
        replace h := iDet h
        obtain ⟨v41, hy42, h⟩ := h
        refine PWl.step (LR.rowN (r07_Put_ok out36 (⟨x39.dev, 1⟩ : TDot) v41 hy42) rfl Try.call86 rfl rfl rfl rfl) rfl ?_
        refine PWl.step (LR.assign rfl) rfl ?_
        refine PWl.nil ?_
        refine PWc.region ?_
        refine PWl.step (LR.move rfl) rfl ?_
        refine PWl.step (LR.addW rfl rfl) rfl ?_
        refine PWl.step (LR.assign rfl) rfl ?_
        refine PWl.nil ?_
        exact ⟨(v41, (IntKind.i64.wrap (i37 + 1))), (), h, Sub.trans (Sub.frz [5, 35] hK rfl (by simp) (AllRow.get (.cons rfl <| .cons rfl <| .nil))) <| Sub.of rfl (.cons rfl rfl <| .cons rfl rfl <| .cons rfl rfl <| .nil) (.nil)⟩
      · replace h := iF hc38 h
        refine PWc.exit ?_
        exact ⟨out36, (), h, Sub.of rfl (.cons rfl rfl <| .nil) (.nil)⟩
    · rintro out23 _ h
      refine PWc.seq ?_
      refine PWc.region ?_
      refine PWl.step (LR.move rfl) rfl ?_
      refine PWl.step (LR.assign rfl) rfl ?_
      refine PWl.nil ?_
      refine PWc.ret ?_
      replace h : _ = r0 := h
      subst h
      exact ⟨.inr rfl, _, .cons (.tmp rfl rfl) <| .nil, rfl⟩

theorem r06_Meet_ok (a1 : List TRun) (b2 : List TRun) (r0 : List TRun) (h : (r06_Meet a1 b2).wp (· = r0)) : PRow Try.prog 166 [.d (.sl (List.map TRun.e a1)), .d (.sl (List.map TRun.e b2))] 114 2 (List.map TRun.e r0) := by
  refine PRow.intro (sl := [(0, _), (1, _)]) Try.func166 rfl Try.ntmps166 rfl rfl ?_
  intro ctx hK
  refine PWc.seq ?_
  refine PWc.region ?_
  refine PWl.step (LR.assignNilRow 114 2 rfl) rfl ?_
  refine PWl.nil ?_
  refine PWc.seq ?_
  refine PWc.region ?_
  refine PWl.step (LR.move rfl) rfl ?_
  refine PWl.step (LR.move rfl) rfl ?_
  replace h := iDet h
  obtain ⟨v3, hy4, h⟩ := h
  refine PWl.step (LR.rowN (r06_set_ok a1 b2 1 v3 hy4) rfl Try.call123 rfl rfl rfl rfl) rfl ?_
  refine PWl.re (tl := [(0, _), (1, _), (5, _), (6, _), (7, _)]) (to := [(7, _)]) rfl (.cons rfl rfl <| .cons rfl rfl <| .cons rfl rfl <| .cons rfl rfl <| .cons rfl rfl <| .nil) (.cons rfl rfl <| .nil) ?_
  refine PWl.step (LR.assign rfl) rfl ?_
  refine PWl.nil ?_
  refine PWc.ret ?_
  replace h : _ = r0 := h
  subst h
  exact ⟨.inr rfl, 4, rfl, .inr ⟨7, _, rfl, (by simp), rfl⟩⟩

theorem r06_Minus_ok (a1 : List TRun) (b2 : List TRun) (r0 : List TRun) (h : (r06_Minus a1 b2).wp (· = r0)) : PRow Try.prog 167 [.d (.sl (List.map TRun.e a1)), .d (.sl (List.map TRun.e b2))] 114 2 (List.map TRun.e r0) := by
  refine PRow.intro (sl := [(0, _), (1, _)]) Try.func167 rfl Try.ntmps167 rfl rfl ?_
  intro ctx hK
  refine PWc.seq ?_
  refine PWc.region ?_
  refine PWl.step (LR.assignNilRow 114 2 rfl) rfl ?_
  refine PWl.nil ?_
  refine PWc.seq ?_
  refine PWc.region ?_
  refine PWl.step (LR.move rfl) rfl ?_
  refine PWl.step (LR.move rfl) rfl ?_
  replace h := iDet h
  obtain ⟨v3, hy4, h⟩ := h
  refine PWl.step (LR.rowN (r06_set_ok a1 b2 2 v3 hy4) rfl Try.call123 rfl rfl rfl rfl) rfl ?_
  refine PWl.re (tl := [(0, _), (1, _), (5, _), (6, _), (7, _)]) (to := [(7, _)]) rfl (.cons rfl rfl <| .cons rfl rfl <| .cons rfl rfl <| .cons rfl rfl <| .cons rfl rfl <| .nil) (.cons rfl rfl <| .nil) ?_
  refine PWl.step (LR.assign rfl) rfl ?_
  refine PWl.nil ?_
  refine PWc.ret ?_
  replace h : _ = r0 := h
  subst h
  exact ⟨.inr rfl, 4, rfl, .inr ⟨7, _, rfl, (by simp), rfl⟩⟩
end Go.Proofs

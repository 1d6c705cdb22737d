/- Walks: written by program. -/
import Derived.Test.YtdipflebhoodkaaFc
import Derived.Test.YtdipflebhoodkaaSh
import Derived.Test.YtdipflebhoodkaaSx
import Derived.Test.YtdipflebhoodkaaW1
namespace Go.Proofs
open Go.Ep
set_option maxHeartbeats 1000000
set_option maxRecDepth 100000
set_option linter.unusedVariables false
set_option linter.unusedSimpArgs false


theorem slices_Concat_Vec_Dot_ok (slices1 : List (List TDot)) (r0 : List TDot) (h : (slices_Concat_Vec_Dot slices1).wp (· = r0)) : PRow Try.prog 96 [.d (.sl (List.map (eL TDot.e) slices1))] 70 2 (List.map TDot.e r0) := by
  refine PRow.intro (sl := [(0, _)]) Try.func96 rfl Try.ntmps96 rfl rfl ?_
  intro ctx hK
  refine PWc.seq ?_
  refine PWc.region ?_
  refine PWl.step (LR.assignNilRow 70 2 rfl) rfl ?_
  refine PWl.nil ?_
  refine PWc.seq ?_
  refine PWc.region ?_
  refine PWl.step (LR.assign rfl) rfl ?_
  refine PWl.nil ?_
  refine PWc.seq ?_
  refine PWc.seq ?_
  refine PWc.region ?_
  refine PWl.step (LR.move rfl) rfl ?_
  refine PWl.step (LR.lenMap (enc := (eL TDot.e)) (L := slices1) Try.underlying147 rfl) rfl ?_
  refine PWl.step (LR.move rfl) rfl ?_
  refine PWl.nil ?_
  refine PWc.jn (iBind h) (fun (size2 : Int) (_ : Unit) => ⟨36, [(0, .d (.sl (List.map (eL TDot.e) slices1))), (3, .d (.v (.int .i64 size2)))], []⟩) (fun h => ?_) ?_
  · refine PWc.block ?_
    refine PWc.loopM (fun (⟨size13, v14⟩ : Int × Int) (_ : Unit) => ⟨36, [(0, .d (.sl (List.map (eL TDot.e) slices1))), (3, .d (.v (.int .i64 size13))), (9, .d (.sl (List.map (eL TDot.e) slices1))), (10, .d (.v (.int .i64 (List.length slices1 : Int)))), (11, .d (.v (.int .i64 v14)))], []⟩) () h (Sub.of rfl (.cons rfl rfl <| .cons rfl rfl <| .cons rfl rfl <| .cons rfl rfl <| .cons rfl rfl <| .nil) (.nil)) ?_
    rintro N ⟨size13, v14⟩ _ h
    refine PWc.seq ?_
    refine PWc.region ?_
    refine PWl.step (LR.lss rfl rfl) rfl ?_
    refine PWl.nil ?_
    refine PWc.seq ?_
    refine PWc.cond rfl (fun hc15 => ?_) (fun hc15 => ?_)
    · replace h := iT hc15 h
      refine PWc.skip ?_
      refine PWc.seq ?_
      refine PWc.block ?_
      refine PWc.seq ?_
      refine PWc.region ?_
      replace h := iIdx h
      obtain ⟨x16, hy17, h⟩ := h
      refine PWl.step (LR.idxT (enc := (eL TDot.e)) (L := slices1) (y := x16) Try.underlying147 Try.sizeOf62 rfl rfl hy17 (fun _ => rfl)) rfl ?_
      refine PWl.step (LR.loadEp Try.isAgg62 rfl rfl) rfl ?_
      refine PWl.step (LR.assign rfl) rfl ?_
      refine PWl.nil ?_
      refine PWc.seq ?_
      refine PWc.region ?_
      refine PWl.step (LR.move rfl) rfl ?_
      refine PWl.step (LR.move rfl) rfl ?_
      refine PWl.step (LR.lenMap (enc := TDot.e) (L := x16) Try.underlying62 rfl) rfl ?_
      refine PWl.step (LR.addW rfl rfl) rfl ?_
      refine PWl.step (LR.assign rfl) rfl ?_
      refine PWl.nil ?_
      refine PWc.seq ?_
      refine PWc.region ?_
      refine PWl.step (LR.move rfl) rfl ?_
      refine PWl.step (LR.lss rfl rfl) rfl ?_
      refine PWl.nil ?_
      refine PWc.cond rfl (fun hc18 => ?_) (fun hc18 => ?_)
      · replace h := iT hc18 h
        exact h.elim
      · replace h := iF hc18 h
        refine PWc.skip ?_
        refine PWc.region ?_
        refine PWl.step (LR.addW rfl rfl) rfl ?_
        refine PWl.step (LR.move rfl) rfl ?_
        refine PWl.nil ?_
        exact ⟨((IntKind.i64.wrap (size13 + (List.length x16 : Int))), (IntKind.i64.wrap (v14 + 1))), (), h, Sub.of rfl (.cons rfl rfl <| .cons rfl rfl <| .cons rfl rfl <| .cons rfl rfl <| .cons rfl rfl <| .nil) (.nil)⟩
    · replace h := iF hc15 h
      refine PWc.exit ?_
      exact ⟨size13, (), h, Sub.of rfl (.cons rfl rfl <| .cons rfl rfl <| .nil) (.nil)⟩
  · rintro size2 _ h
    refine PWc.seq ?_
    refine PWc.region ?_
    refine PWl.step (LR.move rfl) rfl ?_
    replace h := iDet h
    obtain ⟨v19, hy20, h⟩ := h
    refine PWl.step (LR.rowT (slices_Grow_Vec_Dot_nil_ok size2 v19 hy20) rfl Try.call121 rfl rfl rfl) rfl ?_
    refine PWl.step (LR.assign rfl) rfl ?_
    refine PWl.nil ?_
    refine PWc.seq ?_
    refine PWc.seq ?_
    refine PWc.region ?_
    refine PWl.step (LR.move rfl) rfl ?_
    refine PWl.step (LR.lenMap (enc := (eL TDot.e)) (L := slices1) Try.underlying147 rfl) rfl ?_
    refine PWl.step (LR.move rfl) rfl ?_
    refine PWl.nil ?_
    refine PWc.jn (iBind h) (fun (v21 : List TDot) (_ : Unit) => ⟨36, [(6, .row 24 (List.length v21))], [(24, .row 70 2 (List.map TDot.e v21))]⟩) (fun h => ?_) ?_
    · refine PWc.block ?_
      refine PWc.loopM (fun (⟨v32, v33⟩ : Int × List TDot) (_ : Unit) => ⟨36, [(6, .row 24 (List.length v33)), (25, .d (.sl (List.map (eL TDot.e) slices1))), (26, .d (.v (.int .i64 (List.length slices1 : Int)))), (27, .d (.v (.int .i64 v32)))], [(24, .row 70 2 (List.map TDot.e v33))]⟩) () h (Sub.of rfl (.cons rfl rfl <| .cons rfl rfl <| .cons rfl rfl <| .cons rfl rfl <| .nil) (.cons rfl rfl <| .nil)) ?_
      rintro N ⟨v32, v33⟩ _ h
      refine PWc.seq ?_
      refine PWc.region ?_
      refine PWl.step (LR.lss rfl rfl) rfl ?_
      refine PWl.nil ?_
      refine PWc.seq ?_
      refine PWc.cond rfl (fun hc34 => ?_) (fun hc34 => ?_)
      · replace h := iT hc34 h
        refine PWc.skip ?_
        refine PWc.seq ?_
        refine PWc.block ?_
        refine PWc.seq ?_
        refine PWc.region ?_
        replace h := iIdx h
        obtain ⟨x35, hy36, h⟩ := h
        refine PWl.step (LR.idxT (enc := (eL TDot.e)) (L := slices1) (y := x35) Try.underlying147 Try.sizeOf62 rfl rfl hy36 (fun _ => rfl)) rfl ?_
        refine PWl.step (LR.loadEp Try.isAgg62 rfl rfl) rfl ?_
        refine PWl.step (LR.assign rfl) rfl ?_
        refine PWl.nil ?_
        refine PWc.region ?_
        refine PWl.step (LR.move rfl) rfl ?_
        refine PWl.step (LR.move rfl) rfl ?_
        replace h := iNeed h
        obtain ⟨hy37, h⟩ := h
        refine PWl.step (LR.appT (enc := TDot.e) (L := v33) (R := x35) [6, 31] elem62 Try.underlying62 rfl rfl rfl (Src.slT (enc := TDot.e) (R := x35) rfl (fun _ => rfl)) (fun _ => rfl) hy37 rfl rfl) rfl ?_
        refine PWl.step (LR.assign rfl) rfl ?_
        refine PWl.nil ?_
        refine PWc.region ?_
        refine PWl.step (LR.addW rfl rfl) rfl ?_
        refine PWl.step (LR.move rfl) rfl ?_
        refine PWl.nil ?_
        exact ⟨((IntKind.i64.wrap (v32 + 1)), (v33 ++ x35)), (), h, Sub.of rfl (.cons rfl rfl <| .cons rfl rfl <| .cons rfl rfl <| .cons rfl rfl <| .nil) (.cons rfl rfl <| .nil)⟩
      · replace h := iF hc34 h
        refine PWc.exit ?_
        exact ⟨v33, (), h, Sub.of rfl (.cons rfl rfl <| .nil) (.cons rfl rfl <| .nil)⟩
    · rintro v21 _ h
      refine PWc.seq ?_
      refine PWc.region ?_
      refine PWl.step (LR.move rfl) rfl ?_
      refine PWl.step (LR.assign rfl) rfl ?_
      refine PWl.nil ?_
      refine PWc.ret ?_
      replace h : _ = r0 := h
      subst h
      exact ⟨.inr rfl, 2, rfl, .inr ⟨24, _, rfl, (by simp), rfl⟩⟩

theorem vec_Join_ok (a1 : List TDot) (b2 : List TDot) (r0 : List TDot) (h : (vec_Join a1 b2).wp (· = r0)) : PRow Try.prog 40 [.d (.sl (List.map TDot.e a1)), .d (.sl (List.map TDot.e b2))] 70 2 (List.map TDot.e r0) := by
  refine PRow.intro (sl := [(0, _), (1, _)]) Try.func40 rfl Try.ntmps40 rfl rfl ?_
  intro ctx hK
  refine PWc.seq ?_
  refine PWc.region ?_
  refine PWl.step (LR.assignNilRow 70 2 rfl) rfl ?_
  refine PWl.nil ?_
  refine PWc.seq ?_
  refine PWc.region ?_
  refine PWl.step (LR.move rfl) rfl ?_
  refine PWl.step (LR.move rfl) rfl ?_
  refine PWl.step (LR.buildSliceD [.tmp 5, .tmp 6] elem147 rfl rfl (.cons rfl rfl rfl <| .cons rfl rfl rfl <| .nil) (by decide) (by decide)) rfl ?_
  replace h := iDet h
  obtain ⟨v3, hy4, h⟩ := h
  refine PWl.step (LR.rowN (slices_Concat_Vec_Dot_ok ([a1, b2]) v3 hy4) rfl Try.call96 rfl rfl rfl rfl) rfl ?_
  replace h := iDet h
  obtain ⟨v5, hy6, h⟩ := h
  refine PWl.frz [8] hK (.cons rfl <| .nil) rfl (by simp) ?_
  refine PWl.step (LR.rowN (vec_Norm_ok v3 v5 hy6) rfl Try.call54 rfl rfl rfl rfl) rfl ?_
  refine PWl.step (LR.assign rfl) rfl ?_
  refine PWl.nil ?_
  refine PWc.ret ?_
  replace h : _ = r0 := h
  subst h
  exact ⟨.inr rfl, 4, rfl, .inr ⟨9, _, rfl, (by simp), rfl⟩⟩

theorem vec_Meet_ok (a1 : List TDot) (b2 : List TDot) (r0 : List TDot) (h : (vec_Meet a1 b2).wp (· = r0)) : PRow Try.prog 42 [.d (.sl (List.map TDot.e a1)), .d (.sl (List.map TDot.e b2))] 70 2 (List.map TDot.e r0) := by
  refine PRow.intro (sl := [(0, _), (1, _)]) Try.func42 rfl Try.ntmps42 rfl rfl ?_
  intro ctx hK
  refine PWc.seq ?_
  refine PWc.region ?_
  refine PWl.step (LR.assignNilRow 70 2 rfl) rfl ?_
  refine PWl.nil ?_
  refine PWc.seq ?_
  refine PWc.region ?_
  refine PWl.step (LR.move rfl) rfl ?_
  replace h := iDet h
  obtain ⟨v3, hy4, h⟩ := h
  refine PWl.mapN (vec_told_ok a1 v3 hy4) rfl Try.call98 rfl rfl rfl rfl rfl (fun bs5 ck5 _ => ?_)
  refine PWl.step (LR.move rfl) rfl ?_
  replace h := iDet h
  obtain ⟨v6, hy7, h⟩ := h
  refine PWl.mapN (vec_told_ok b2 v6 hy7) rfl Try.call98 rfl rfl rfl rfl rfl (fun bs8 ck8 _ => ?_)
  refine PWl.step (LR.assign rfl) rfl ?_
  refine PWl.step (LR.assign rfl) rfl ?_
  refine PWl.nil ?_
  refine PWc.seq ?_
  refine PWc.seq ?_
  refine PWc.region ?_
  refine PWl.step (LR.move rfl) rfl ?_
  refine PWl.step (LR.rangeO Try.underlying124 rfl rfl rfl) rfl ?_
  refine PWl.nil ?_
  refine PWc.jn (iBind h) (fun (v9 : List (Int × Int)) (_ : Unit) => ⟨29, [(5, .mp 10)], [(10, .map [.u16] false (encM kI (eK .u64) v9) bs5 ck5)]⟩) (fun h => ?_) ?_
  · refine PWc.block ?_
    refine PWc.loopM (fun (⟨seen28, v29⟩ : List Nat × (List (Int × Int))) (_ : Unit) => ⟨29, [(5, .mp 10), (6, .mp 12), (14, .ref 14 0)], [(10, .map [.u16] false (encM kI (eK .u64) v29) bs5 ck5), (12, .map [.u16] false (encM kI (eK .u64) v6) bs8 ck8), (14, .iterO 10 bs5 ck5 seen28)]⟩) () h (Sub.of rfl (.cons rfl rfl <| .cons rfl rfl <| .cons rfl rfl <| .nil) (.cons rfl rfl <| .cons rfl rfl <| .cons rfl rfl <| .nil)) ?_
    rintro N ⟨seen28, v29⟩ _ h
    refine PWc.seq ?_
    refine PWc.region ?_
    replace h := iNeed h
    obtain ⟨hy37, h⟩ := h
    replace h := iNxt h
    refine PWl.nextO rfl rfl rfl (nxtD hy37) rfl (fun hy31 => ?_) (fun j30 hy32 hy33 => ?_)
    · replace h := h.1 (nxtA hy31)
      refine PWl.step (LR.extract rfl rfl) rfl ?_
      refine PWl.nil ?_
      refine PWc.seq ?_
      refine PWc.condF rfl ?_
      refine PWc.exit ?_
      exact ⟨v29, (), h, Sub.of rfl (.cons rfl rfl <| .nil) (.cons rfl rfl <| .nil)⟩
    · replace h := h.2 j30 (nxtB hy32) hy33
      refine PWl.step (LR.extract rfl rfl) rfl ?_
      refine PWl.nil ?_
      refine PWc.seq ?_
      refine PWc.condT rfl ?_
      refine PWc.skip ?_
      refine PWc.block ?_
      refine PWc.seq ?_
      refine PWc.region ?_
      replace h := iIdx h
      obtain ⟨kv34, hy35, h⟩ := h
      refine PWl.step (LR.entryO rfl rfl rfl (entGet hy35) rfl rfl) rfl ?_
      refine PWl.step (LR.extract rfl rfl) rfl ?_
      refine PWl.step (LR.extract rfl rfl) rfl ?_
      refine PWl.step (LR.assign rfl) rfl ?_
      refine PWl.step (LR.assign rfl) rfl ?_
      refine PWl.nil ?_
      refine PWc.region ?_
      refine PWl.step (LR.move rfl) rfl ?_
      refine PWl.step (LR.move rfl) rfl ?_
      refine PWl.step (LR.move rfl) rfl ?_
      refine PWl.step (LR.move rfl) rfl ?_
      refine PWl.step (LR.move rfl) rfl ?_
      refine PWl.step (LR.getO (eV := (eK .u64)) (zv := 0) (q := kv34.1) (m := v6) kI_inj Try.underlying124 key124 Try.zeroValue34 (zRd1 (.int .u64 0) rfl) rfl rfl rfl rfl rfl rfl) rfl ?_
      refine PWl.step (LR.minI rfl rfl) rfl ?_
      replace h := iNeed h
      obtain ⟨hy36, h⟩ := h
      refine PWl.step (LR.setIn (eV := (eK .u64)) (q := kv34.1) (v := (min kv34.2 (AL.getZ v6 kv34.1 0))) (m := v29) kI_inj Try.underlying124 key124 rfl rfl rfl rfl rfl rfl rfl (fun _ => rfl) hy36) rfl ?_
      refine PWl.nil ?_
      exact ⟨((seen28 ++ [j30]), (AL.set v29 kv34.1 (min kv34.2 (AL.getZ v6 kv34.1 0)))), (), h, Sub.of rfl (.cons rfl rfl <| .cons rfl rfl <| .cons rfl rfl <| .nil) (.cons rfl rfl <| .cons rfl rfl <| .cons rfl rfl <| .nil)⟩
  · rintro v9 _ h
    refine PWc.seq ?_
    refine PWc.region ?_
    refine PWl.step (LR.move rfl) rfl ?_
    replace h := iDet h
    obtain ⟨v38, hy39, h⟩ := h
    refine PWl.frzM [5, 27] hK (.cons rfl <| .cons rfl <| .nil) rfl ?_
    refine PWl.step (LR.rowN (vec_order_ok v9 v38 hy39) rfl Try.call99 rfl rfl rfl rfl) rfl ?_
    refine PWl.step (LR.assign rfl) rfl ?_
    refine PWl.nil ?_
    refine PWc.ret ?_
    replace h : _ = r0 := h
    subst h
    exact ⟨.inr rfl, 4, rfl, .inr ⟨28, _, rfl, (by simp), rfl⟩⟩

theorem vec_Lack_ok (a1 : List TDot) (b2 : List TDot) (r0 : Int) (h : (vec_Lack a1 b2).wp (· = r0)) : PFun Try.prog 46 [.d (.sl (List.map TDot.e a1)), .d (.sl (List.map TDot.e b2))] (.d (.v (.int .u64 r0))) := by
  refine PFun.intro (sl := [(0, _), (1, _)]) Try.func46 rfl Try.ntmps46 rfl rfl ?_
  intro ctx hK
  refine PWc.seq ?_
  refine PWc.region ?_
  refine PWl.step (LR.assign rfl) rfl ?_
  refine PWl.nil ?_
  refine PWc.seq ?_
  refine PWc.region ?_
  refine PWl.step (LR.move rfl) rfl ?_
  replace h := iDet h
  obtain ⟨v3, hy4, h⟩ := h
  refine PWl.mapN (vec_told_ok a1 v3 hy4) rfl Try.call98 rfl rfl rfl rfl rfl (fun bs5 ck5 _ => ?_)
  refine PWl.step (LR.assign rfl) rfl ?_
  refine PWl.nil ?_
  refine PWc.seq ?_
  refine PWc.region ?_
  refine PWl.step (LR.assign rfl) rfl ?_
  refine PWl.nil ?_
  refine PWc.seq ?_
  refine PWc.seq ?_
  refine PWc.region ?_
  refine PWl.step (LR.move rfl) rfl ?_
  replace h := iDet h
  obtain ⟨v6, hy7, h⟩ := h
  refine PWl.mapN (vec_told_ok b2 v6 hy7) rfl Try.call98 rfl rfl rfl rfl rfl (fun bs8 ck8 _ => ?_)
  refine PWl.step (LR.rangeO Try.underlying124 rfl rfl rfl) rfl ?_
  refine PWl.nil ?_
  refine PWc.jn (iBind h) (fun (n9 : Int) (_ : Unit) => ⟨31, [(6, .d (.v (.int .u64 n9)))], []⟩) (fun h => ?_) ?_
  · refine PWc.block ?_
    refine PWc.loopM (fun (⟨n26, seen27⟩ : Int × List Nat) (_ : Unit) => ⟨31, [(5, .mp 10), (6, .d (.v (.int .u64 n26))), (13, .ref 13 0)], [(10, .map [.u16] false (encM kI (eK .u64) v3) bs5 ck5), (12, .map [.u16] false (encM kI (eK .u64) v6) bs8 ck8), (13, .iterO 12 bs8 ck8 seen27)]⟩) () h (Sub.of rfl (.cons rfl rfl <| .cons rfl rfl <| .cons rfl rfl <| .nil) (.cons rfl rfl <| .cons rfl rfl <| .cons rfl rfl <| .nil)) ?_
    rintro N ⟨n26, seen27⟩ _ h
    refine PWc.seq ?_
    refine PWc.region ?_
    replace h := iNeed h
    obtain ⟨hy34, h⟩ := h
    replace h := iNxt h
    refine PWl.nextO rfl rfl rfl (nxtD hy34) rfl (fun hy29 => ?_) (fun j28 hy30 hy31 => ?_)
    · replace h := h.1 (nxtA hy29)
      refine PWl.step (LR.extract rfl rfl) rfl ?_
      refine PWl.nil ?_
      refine PWc.seq ?_
      refine PWc.condF rfl ?_
      refine PWc.exit ?_
      exact ⟨n26, (), h, Sub.of rfl (.cons rfl rfl <| .nil) (.nil)⟩
    · replace h := h.2 j28 (nxtB hy30) hy31
      refine PWl.step (LR.extract rfl rfl) rfl ?_
      refine PWl.nil ?_
      refine PWc.seq ?_
      refine PWc.condT rfl ?_
      refine PWc.skip ?_
      refine PWc.block ?_
      refine PWc.seq ?_
      refine PWc.region ?_
      replace h := iIdx h
      obtain ⟨kv32, hy33, h⟩ := h
      refine PWl.step (LR.entryO rfl rfl rfl (entGet hy33) rfl rfl) rfl ?_
      refine PWl.step (LR.extract rfl rfl) rfl ?_
      refine PWl.step (LR.extract rfl rfl) rfl ?_
      refine PWl.step (LR.assign rfl) rfl ?_
      refine PWl.step (LR.assign rfl) rfl ?_
      refine PWl.nil ?_
      refine PWc.region ?_
      refine PWl.step (LR.move rfl) rfl ?_
      refine PWl.step (LR.move rfl) rfl ?_
      refine PWl.step (LR.move rfl) rfl ?_
      refine PWl.step (LR.move rfl) rfl ?_
      refine PWl.step (LR.getO (eV := (eK .u64)) (zv := 0) (q := kv32.1) (m := v3) kI_inj Try.underlying124 key124 Try.zeroValue34 (zRd1 (.int .u64 0) rfl) rfl rfl rfl rfl rfl rfl) rfl ?_
      refine PWl.step (LR.maxI rfl rfl) rfl ?_
      refine PWl.step (LR.move rfl) rfl ?_
      refine PWl.step (LR.move rfl) rfl ?_
      refine PWl.step (LR.getO (eV := (eK .u64)) (zv := 0) (q := kv32.1) (m := v3) kI_inj Try.underlying124 key124 Try.zeroValue34 (zRd1 (.int .u64 0) rfl) rfl rfl rfl rfl rfl rfl) rfl ?_
      refine PWl.step (LR.subW rfl rfl) rfl ?_
      refine PWl.step (LR.addW rfl rfl) rfl ?_
      refine PWl.re (tl := [(5, _), (6, _), (13, _), (29, _)]) (to := [(10, _), (12, _), (13, _)]) rfl (.cons rfl rfl <| .cons rfl rfl <| .cons rfl rfl <| .cons rfl rfl <| .nil) (.cons rfl rfl <| .cons rfl rfl <| .cons rfl rfl <| .nil) ?_
      refine PWl.step (LR.assign rfl) rfl ?_
      refine PWl.nil ?_
      exact ⟨((IntKind.u64.wrap (n26 + ((IntKind.u64.wrap ((max kv32.2 (AL.getZ v3 kv32.1 0)) - (AL.getZ v3 kv32.1 0)))))), (seen27 ++ [j28])), (), h, Sub.of rfl (.cons rfl rfl <| .cons rfl rfl <| .cons rfl rfl <| .nil) (.cons rfl rfl <| .cons rfl rfl <| .cons rfl rfl <| .nil)⟩
  · rintro n9 _ h
    refine PWc.seq ?_
    refine PWc.region ?_
    refine PWl.step (LR.move rfl) rfl ?_
    refine PWl.step (LR.assign rfl) rfl ?_
    refine PWl.nil ?_
    refine PWc.ret ?_
    replace h : _ = r0 := h
    subst h
    exact ⟨.inr rfl, _, .cons (.tmp rfl rfl) <| .nil, rfl⟩

theorem vec_Order_ok (a1 : List TDot) (b2 : List TDot) (r0 : Int) (h : (vec_Order a1 b2).wp (· = r0)) : PFun Try.prog 44 [.d (.sl (List.map TDot.e a1)), .d (.sl (List.map TDot.e b2))] (.d (.v (.int .i64 r0))) := by
  refine PFun.intro (sl := [(0, _), (1, _)]) Try.func44 rfl Try.ntmps44 rfl rfl ?_
  intro ctx hK
  refine PWc.seq ?_
  refine PWc.region ?_
  refine PWl.step (LR.assign rfl) rfl ?_
  refine PWl.nil ?_
  refine PWc.seq ?_
  refine PWc.region ?_
  refine PWl.step (LR.move rfl) rfl ?_
  refine PWl.step (LR.move rfl) rfl ?_
  replace h := iDet h
  obtain ⟨v3, hy4, h⟩ := h
  refine PWl.step (LR.callN (vec_Lack_ok b2 a1 v3 hy4) rfl Try.call46 rfl rfl rfl rfl) rfl ?_
  refine PWl.step (LR.eql rfl rfl) rfl ?_
  refine PWl.step (LR.move rfl) rfl ?_
  refine PWl.step (LR.move rfl) rfl ?_
  replace h := iDet h
  obtain ⟨v5, hy6, h⟩ := h
  refine PWl.step (LR.callN (vec_Lack_ok a1 b2 v5 hy6) rfl Try.call46 rfl rfl rfl rfl) rfl ?_
  refine PWl.step (LR.eql rfl rfl) rfl ?_
  refine PWl.step (LR.assign rfl) rfl ?_
  refine PWl.step (LR.assign rfl) rfl ?_
  refine PWl.nil ?_
  refine PWc.seq ?_
  refine PWc.block ?_
  refine PWc.seq ?_
  refine PWc.jn (iBind h) (fun (v7 : Bool) (_ : Unit) => ⟨24, [(5, .d (.v (.bool (decide (v3 = 0))))), (6, .d (.v (.bool (decide (v5 = 0))))), (15, .d (.v (.bool v7)))], []⟩) (fun h => ?_) ?_
  · refine PWc.region ?_
    refine PWl.step (LR.move rfl) rfl ?_
    refine PWl.step (LR.move rfl) rfl ?_
    refine PWl.split (d := 17) rfl (fun hg8 => ?_) (fun hg8 => ?_)
    · replace h := iT hg8 h
      refine PWl.guardT (LR.move rfl) rfl rfl rfl ?_
      refine PWl.step (LR.pickT rfl rfl) rfl ?_
      refine PWl.step (LR.assign rfl) rfl ?_
      refine PWl.nil ?_
      exact ⟨(decide (v5 = 0)), (), h, Sub.of rfl (.cons rfl rfl <| .cons rfl rfl <| .cons rfl rfl <| .nil) (.nil)⟩
    · replace h := iF hg8 h
      refine PWl.guardF rfl rfl rfl (by decide) ?_
      refine PWl.step (LR.pickF rfl rfl) rfl ?_
      refine PWl.step (LR.assign rfl) rfl ?_
      refine PWl.nil ?_
      exact ⟨false, (), h, Sub.of rfl (.cons rfl rfl <| .cons rfl rfl <| .cons rfl rfl <| .nil) (.nil)⟩
  · rintro v7 _ h
    refine PWc.cond rfl (fun hc9 => ?_) (fun hc9 => ?_)
    · replace h := iT hc9 h
      refine PWc.seq ?_
      refine PWc.region ?_
      refine PWl.step (LR.assign rfl) rfl ?_
      refine PWl.nil ?_
      refine PWc.ret ?_
      replace h : _ = r0 := h
      subst h
      exact ⟨.inr rfl, _, .cons (.tmp rfl rfl) <| .nil, rfl⟩
    · replace h := iF hc9 h
      refine PWc.seq ?_
      refine PWc.region ?_
      refine PWl.step (LR.move rfl) rfl ?_
      refine PWl.step (LR.assign rfl) rfl ?_
      refine PWl.nil ?_
      refine PWc.cond rfl (fun hc10 => ?_) (fun hc10 => ?_)
      · replace h := iT hc10 h
        refine PWc.seq ?_
        refine PWc.region ?_
        refine PWl.step (LR.assign rfl) rfl ?_
        refine PWl.nil ?_
        refine PWc.ret ?_
        replace h : _ = r0 := h
        subst h
        exact ⟨.inr rfl, _, .cons (.tmp rfl rfl) <| .nil, rfl⟩
      · replace h := iF hc10 h
        refine PWc.seq ?_
        refine PWc.region ?_
        refine PWl.step (LR.move rfl) rfl ?_
        refine PWl.step (LR.assign rfl) rfl ?_
        refine PWl.nil ?_
        refine PWc.cond rfl (fun hc11 => ?_) (fun hc11 => ?_)
        · replace h := iT hc11 h
          refine PWc.seq ?_
          refine PWc.region ?_
          refine PWl.step (LR.assign rfl) rfl ?_
          refine PWl.nil ?_
          refine PWc.ret ?_
          replace h : _ = r0 := h
          subst h
          exact ⟨.inr rfl, _, .cons (.tmp rfl rfl) <| .nil, rfl⟩
        · replace h := iF hc11 h
          refine PWc.skip ?_
          refine PWc.seq ?_
          refine PWc.region ?_
          refine PWl.step (LR.assign rfl) rfl ?_
          refine PWl.nil ?_
          refine PWc.ret ?_
          replace h : _ = r0 := h
          subst h
          exact ⟨.inr rfl, _, .cons (.tmp rfl rfl) <| .nil, rfl⟩

theorem l08_works_ok  (r0 : Bool) (h : (l08_works ).wp (· = r0)) : PFun Try.prog 38 [] (.d (.v (.bool r0))) := by
  refine PFun.intro (sl := []) Try.func38 rfl Try.ntmps38 rfl rfl ?_
  intro ctx hK
  refine PWc.seq ?_
  refine PWc.region ?_
  refine PWl.step (LR.assign rfl) rfl ?_
  refine PWl.nil ?_
  refine PWc.seq ?_
  refine PWc.region ?_
  refine PWl.step (LR.build (ns := [_, _]) build70 rfl rfl rfl) rfl ?_
  refine PWl.step (LR.build (ns := [_, _]) build70 rfl rfl rfl) rfl ?_
  refine PWl.step (LR.buildSliceD [.tmp 3, .tmp 4] elem62 rfl rfl (.cons rfl rfl rfl <| .cons rfl rfl rfl <| .nil) (by decide) (by decide)) rfl ?_
  refine PWl.step (LR.build (ns := [_, _]) build70 rfl rfl rfl) rfl ?_
  refine PWl.step (LR.buildSliceD [.tmp 6] elem62 rfl rfl (.cons rfl rfl rfl <| .nil) (by decide) (by decide)) rfl ?_
  refine PWl.step (LR.assign rfl) rfl ?_
  refine PWl.step (LR.assign rfl) rfl ?_
  refine PWl.nil ?_
  refine PWc.seq ?_
  refine PWc.jn (iBind h) (fun (v1 : Bool) (_ : Unit) => ⟨35, [(0, .d (.v (.bool v1)))], []⟩) (fun h => ?_) ?_
  · refine PWc.regionD (by kernel_rfl) (by kernel_rfl) ?_
    refine PQl.step (fun _ he ho => LR.move (he rfl rfl)) rfl ?_
    refine PQl.step (fun _ he ho => LR.move (he rfl rfl)) rfl ?_
    replace h := iDet h
    obtain ⟨v2, hy3, h⟩ := h
    refine PQl.step (fun _ he ho => LR.callN (PRow.fun (vec_Join_ok ([(⟨1, 3⟩ : TDot), (⟨2, 1⟩ : TDot)]) ([(⟨2, 4⟩ : TDot)]) v2 hy3)) (he rfl rfl) Try.call40 (evsE he rfl rfl) rfl rfl rfl) rfl ?_
    refine PQl.step (fun _ he ho => LR.build (ns := [_, _]) build70 rfl (evpE he rfl rfl) rfl) rfl ?_
    refine PQl.step (fun _ he ho => LR.build (ns := [_, _]) build70 rfl (evpE he rfl rfl) rfl) rfl ?_
    refine PQl.step (fun _ he ho => LR.buildSliceD [.tmp 11, .tmp 12] elem62 rfl rfl (.cons (he rfl rfl) rfl rfl <| .cons (he rfl rfl) rfl rfl <| .nil) (by decide) (by decide)) rfl ?_
    replace h := iDet h
    obtain ⟨v4, hy5, h⟩ := h
    refine PQl.step (fun _ he ho => LR.callN (r07_Same_ok v2 ([(⟨1, 3⟩ : TDot), (⟨2, 4⟩ : TDot)]) v4 hy5) (he rfl rfl) Try.call39 (evsE he rfl rfl) rfl rfl rfl) rfl ?_
    refine PQl.step (fun _ he ho => LR.move (he rfl rfl)) rfl ?_
    refine PQl.split (d := 15) rfl (fun hg6 => ?_) (fun hg6 => ?_)
    · replace h := iT hg6 h
      refine PQl.guardT (fun _ he ho => LR.move (he rfl rfl)) rfl rfl rfl ?_
      refine PQl.guardT (fun _ he ho => LR.move (he rfl rfl)) rfl rfl rfl ?_
      replace h := iDet h
      obtain ⟨v7, hy8, h⟩ := h
      refine PQl.guardT (fun _ he ho => LR.callN (PRow.fun (vec_Meet_ok ([(⟨1, 3⟩ : TDot), (⟨2, 1⟩ : TDot)]) ([(⟨2, 4⟩ : TDot)]) v7 hy8)) (he rfl rfl) Try.call42 (evsE he rfl rfl) rfl rfl rfl) rfl rfl rfl ?_
      refine PQl.guardT (fun _ he ho => LR.move (he rfl rfl)) rfl rfl rfl ?_
      replace h := iNeed h
      obtain ⟨hy9, h⟩ := h
      refine PQl.guardT (fun _ he ho => LR.cutLT (enc := TDot.e) (L := [(⟨1, 3⟩ : TDot), (⟨2, 1⟩ : TDot)]) Try.underlying62 Try.sizeOf70 (he rfl rfl) (fun _ => rfl) (he rfl rfl) hy9) rfl rfl rfl ?_
      replace h := iDet h
      obtain ⟨v10, hy11, h⟩ := h
      refine PQl.guardT (fun _ he ho => LR.callN (r07_Same_ok v7 ((List.drop (Int.toNat 1) (List.take (Int.toNat ((List.length ([(⟨1, 3⟩ : TDot), (⟨2, 1⟩ : TDot)]) : Int))) ([(⟨1, 3⟩ : TDot), (⟨2, 1⟩ : TDot)])))) v10 hy11) (he rfl rfl) Try.call39 (evsE he rfl rfl) rfl rfl rfl) rfl rfl rfl ?_
      refine PQl.step (fun _ he ho => LR.pickT (he rfl rfl) (he rfl rfl)) rfl ?_
      refine PQl.step (fun _ he ho => LR.move (he rfl rfl)) rfl ?_
      refine PQl.split (d := 23) rfl (fun hg12 => ?_) (fun hg12 => ?_)
      · replace h := iT hg12 h
        refine PQl.guardT (fun _ he ho => LR.move (he rfl rfl)) rfl rfl rfl ?_
        refine PQl.guardT (fun _ he ho => LR.move (he rfl rfl)) rfl rfl rfl ?_
        replace h := iDet h
        obtain ⟨v13, hy14, h⟩ := h
        refine PQl.guardT (fun _ he ho => LR.callN (vec_Order_ok ([(⟨1, 3⟩ : TDot), (⟨2, 1⟩ : TDot)]) ([(⟨2, 4⟩ : TDot)]) v13 hy14) (he rfl rfl) Try.call44 (evsE he rfl rfl) rfl rfl rfl) rfl rfl rfl ?_
        refine PQl.guardT (fun _ he ho => LR.eql (he rfl rfl) (he rfl rfl)) rfl rfl rfl ?_
        refine PQl.step (fun _ he ho => LR.pickT (he rfl rfl) (he rfl rfl)) rfl ?_
        refine PQl.step (fun _ he ho => LR.move (he rfl rfl)) rfl ?_
        refine PQl.split (d := 29) rfl (fun hg15 => ?_) (fun hg15 => ?_)
        · replace h := iT hg15 h
          refine PQl.guardT (fun _ he ho => LR.move (he rfl rfl)) rfl rfl rfl ?_
          refine PQl.guardT (fun _ he ho => LR.move (he rfl rfl)) rfl rfl rfl ?_
          replace h := iDet h
          obtain ⟨v16, hy17, h⟩ := h
          refine PQl.guardT (fun _ he ho => LR.callN (vec_Lack_ok ([(⟨1, 3⟩ : TDot), (⟨2, 1⟩ : TDot)]) ([(⟨2, 4⟩ : TDot)]) v16 hy17) (he rfl rfl) Try.call46 (evsE he rfl rfl) rfl rfl rfl) rfl rfl rfl ?_
          refine PQl.guardT (fun _ he ho => LR.eql (he rfl rfl) (he rfl rfl)) rfl rfl rfl ?_
          refine PQl.keep (tl := [(0, _), (29, _), (33, _)]) rfl (.cons rfl rfl <| .cons rfl rfl <| .cons rfl rfl <| .nil) ?_
          refine PQl.step (fun _ he ho => LR.pickT (he rfl rfl) (he rfl rfl)) rfl ?_
          refine PQl.step (fun _ he ho => LR.assign (he rfl rfl)) rfl ?_
          refine PQl.nil ?_
          exact ⟨(decide (v16 = 3)), (), h, Sub.of rfl (.cons rfl rfl <| .nil) (.nil)⟩
        · replace h := iF hg15 h
          refine PQl.guardF rfl rfl rfl (by decide) ?_
          refine PQl.guardF rfl rfl rfl (by decide) ?_
          refine PQl.guardF rfl rfl rfl (by decide) ?_
          refine PQl.guardF rfl rfl rfl (by decide) ?_
          refine PQl.keep (tl := [(0, _), (29, _), (33, _)]) rfl (.cons rfl rfl <| .cons rfl rfl <| .cons rfl rfl <| .nil) ?_
          refine PQl.step (fun _ he ho => LR.pickF (he rfl rfl) (he rfl rfl)) rfl ?_
          refine PQl.step (fun _ he ho => LR.assign (he rfl rfl)) rfl ?_
          refine PQl.nil ?_
          exact ⟨false, (), h, Sub.of rfl (.cons rfl rfl <| .nil) (.nil)⟩
      · replace h := iF hg12 h
        refine PQl.guardF rfl rfl rfl (by decide) ?_
        refine PQl.guardF rfl rfl rfl (by decide) ?_
        refine PQl.guardF rfl rfl rfl (by decide) ?_
        refine PQl.guardF rfl rfl rfl (by decide) ?_
        refine PQl.step (fun _ he ho => LR.pickF (he rfl rfl) (he rfl rfl)) rfl ?_
        refine PQl.step (fun _ he ho => LR.move (he rfl rfl)) rfl ?_
        refine PQl.guardF rfl rfl rfl (by decide) ?_
        refine PQl.guardF rfl rfl rfl (by decide) ?_
        refine PQl.guardF rfl rfl rfl (by decide) ?_
        refine PQl.guardF rfl rfl rfl (by decide) ?_
        refine PQl.step (fun _ he ho => LR.pickF (he rfl rfl) (he rfl rfl)) rfl ?_
        refine PQl.keep (tl := [(0, _), (34, _)]) rfl (.cons rfl rfl <| .cons rfl rfl <| .nil) ?_
        refine PQl.step (fun _ he ho => LR.assign (he rfl rfl)) rfl ?_
        refine PQl.nil ?_
        exact ⟨false, (), h, Sub.of rfl (.cons rfl rfl <| .nil) (.nil)⟩
    · replace h := iF hg6 h
      refine PQl.guardF rfl rfl rfl (by decide) ?_
      refine PQl.guardF rfl rfl rfl (by decide) ?_
      refine PQl.guardF rfl rfl rfl (by decide) ?_
      refine PQl.guardF rfl rfl rfl (by decide) ?_
      refine PQl.guardF rfl rfl rfl (by decide) ?_
      refine PQl.guardF rfl rfl rfl (by decide) ?_
      refine PQl.step (fun _ he ho => LR.pickF (he rfl rfl) (he rfl rfl)) rfl ?_
      refine PQl.step (fun _ he ho => LR.move (he rfl rfl)) rfl ?_
      refine PQl.guardF rfl rfl rfl (by decide) ?_
      refine PQl.guardF rfl rfl rfl (by decide) ?_
      refine PQl.guardF rfl rfl rfl (by decide) ?_
      refine PQl.guardF rfl rfl rfl (by decide) ?_
      refine PQl.step (fun _ he ho => LR.pickF (he rfl rfl) (he rfl rfl)) rfl ?_
      refine PQl.step (fun _ he ho => LR.move (he rfl rfl)) rfl ?_
      refine PQl.guardF rfl rfl rfl (by decide) ?_
      refine PQl.guardF rfl rfl rfl (by decide) ?_
      refine PQl.guardF rfl rfl rfl (by decide) ?_
      refine PQl.guardF rfl rfl rfl (by decide) ?_
      refine PQl.step (fun _ he ho => LR.pickF (he rfl rfl) (he rfl rfl)) rfl ?_
      refine PQl.step (fun _ he ho => LR.assign (he rfl rfl)) rfl ?_
      refine PQl.nil ?_
      exact ⟨false, (), h, Sub.of rfl (.cons rfl rfl <| .nil) (.nil)⟩
  · rintro v1 _ h
    refine PWc.ret ?_
    replace h : _ = r0 := h
    subst h
    exact ⟨.inr rfl, _, .cons (.tmp rfl rfl) <| .nil, rfl⟩
end Go.Proofs

/- Walks: written by program. -/
import Derived.Test.YtacnidaafcfgiaaGreatFc
import Derived.Test.YtacnidaafcfgiaaGreatSh
import Derived.Test.YtacnidaafcfgiaaGreatSx
import Derived.Test.YtacnidaafcfgiaaGreatTl
import Derived.Test.YtacnidaafcfgiaaGreatSr
import Derived.Test.YtacnidaafcfgiaaGreatDr
import Derived.Test.YtacnidaafcfgiaaGreatW1
import Derived.Test.YtacnidaafcfgiaaGreatW6
import Derived.Test.YtacnidaafcfgiaaGreatW7
namespace Go.Proofs
open Go.Ep
set_option maxHeartbeats 1000000
set_option maxRecDepth 100000
set_option linter.unusedVariables false
set_option linter.unusedSimpArgs false


theorem ctx_each_runs_Minus_ok (a1 : List TPart) (b2 : List TPart) (r0 : List TPart) (h : (ctx_each_runs_Minus a1 b2).wp (· = r0)) : PRow Tryz.prog 62 [.d (.sl (List.map TPart.e a1)), .d (.sl (List.map TPart.e b2)), .d (.v (.func (.func 64) #[] #[]))] 80 2 (List.map TPart.e r0) := by
  refine PRow.intro (sl := [(0, _), (1, _), (2, _)]) Tryz.func62 rfl Tryz.ntmps62 rfl rfl ?_
  intro ctx hK
  refine PWc.seq ?_
  refine PWc.region ?_
  refine PWl.step (LR.assignNilRow 80 2 rfl) rfl ?_
  refine PWl.nil ?_
  refine PWc.seq ?_
  refine PWc.region ?_
  refine PWl.step (LR.move rfl) rfl ?_
  replace h := iDet h
  obtain ⟨v3, hy4, h⟩ := h
  refine PWl.mapN (ctx_told_ok a1 v3 hy4) rfl Tryz.call67 rfl rfl rfl rfl rfl (fun bs5 ck5 _ => ?_)
  refine PWl.step (LR.move rfl) rfl ?_
  replace h := iDet h
  obtain ⟨v6, hy7, h⟩ := h
  refine PWl.mapN (ctx_told_ok b2 v6 hy7) rfl Tryz.call67 rfl rfl rfl rfl rfl (fun bs8 ck8 _ => ?_)
  refine PWl.step (LR.assign rfl) rfl ?_
  refine PWl.step (LR.assign rfl) rfl ?_
  refine PWl.nil ?_
  refine PWc.seq ?_
  refine PWc.seq ?_
  refine PWc.region ?_
  refine PWl.step (LR.move rfl) rfl ?_
  refine PWl.step (LR.rangeO Tryz.underlying86 rfl rfl rfl) rfl ?_
  refine PWl.nil ?_
  refine PWc.jn (iBind h) (fun (v9 : List (Int × List TRun)) (_ : Unit) => ⟨32, [(7, .mp 12)], [(12, .map [.u16] false (encM kI (eL TRun.e) v9) bs5 ck5)]⟩) (fun h => ?_) ?_
  · refine PWc.block ?_
    refine PWc.loopM (fun (⟨seen32, v33⟩ : List Nat × (List (Int × List TRun))) (_ : Unit) => ⟨32, [(2, .d (.v (.func (.func 64) #[] #[]))), (7, .mp 12), (8, .mp 14), (16, .ref 16 0)], [(12, .map [.u16] false (encM kI (eL TRun.e) v33) bs5 ck5), (14, .map [.u16] false (encM kI (eL TRun.e) v6) bs8 ck8), (16, .iterO 12 bs5 ck5 seen32)]⟩) () h (Sub.of rfl (.cons rfl rfl <| .cons rfl rfl <| .cons rfl rfl <| .cons rfl rfl <| .nil) (.cons rfl rfl <| .cons rfl rfl <| .cons rfl rfl <| .nil)) ?_
    rintro N ⟨seen32, v33⟩ _ h
    refine PWc.seq ?_
    refine PWc.region ?_
    replace h := iNeed h
    obtain ⟨hy43, h⟩ := h
    replace h := iNxt h
    refine PWl.nextO rfl rfl rfl (nxtD hy43) rfl (fun hy35 => ?_) (fun j34 hy36 hy37 => ?_)
    · replace h := h.1 (nxtA hy35)
      refine PWl.step (LR.extract rfl rfl) rfl ?_
      refine PWl.nil ?_
      refine PWc.seq ?_
      refine PWc.condF rfl ?_
      refine PWc.exit ?_
      exact ⟨v33, (), h, Sub.of rfl (.cons rfl rfl <| .nil) (.cons rfl rfl <| .nil)⟩
    · replace h := h.2 j34 (nxtB hy36) hy37
      refine PWl.step (LR.extract rfl rfl) rfl ?_
      refine PWl.nil ?_
      refine PWc.seq ?_
      refine PWc.condT rfl ?_
      refine PWc.skip ?_
      refine PWc.block ?_
      refine PWc.seq ?_
      refine PWc.region ?_
      replace h := iIdx h
      obtain ⟨kv38, hy39, h⟩ := h
      refine PWl.step (LR.entryO rfl rfl rfl (entGet hy39) rfl rfl) rfl ?_
      refine PWl.step (LR.extract rfl rfl) rfl ?_
      refine PWl.step (LR.extract rfl rfl) rfl ?_
      refine PWl.step (LR.assign rfl) rfl ?_
      refine PWl.step (LR.assign rfl) rfl ?_
      refine PWl.nil ?_
      refine PWc.region ?_
      refine PWl.step (LR.move rfl) rfl ?_
      refine PWl.step (LR.move rfl) rfl ?_
      refine PWl.step (LR.move rfl) rfl ?_
      refine PWl.step (LR.move rfl) rfl ?_
      refine PWl.step (LR.move rfl) rfl ?_
      refine PWl.step (LR.move rfl) rfl ?_
      refine PWl.step (LR.getO (eV := (eL TRun.e)) (zv := ([] : List TRun)) (q := kv38.1) (m := v6) kI_inj Tryz.underlying86 key86 Tryz.zeroValue37 (zRd1 (.slice none 0 0) rfl) rfl rfl rfl rfl rfl rfl) rfl ?_
      replace h := iDet h
      obtain ⟨v40, hy41, h⟩ := h
      refine PWl.step (LR.rowN (runs_Minus_ok kv38.2 (AL.getZ v6 kv38.1 ([] : List TRun)) v40 hy41) rfl Tryz.call64 rfl rfl rfl rfl) rfl ?_
      replace h := iNeed h
      obtain ⟨hy42, h⟩ := h
      refine PWl.frz [29] hK (.cons rfl <| .nil) rfl (by simp) ?_
      refine PWl.step (LR.setIn (eV := (eL TRun.e)) (q := kv38.1) (v := v40) (m := v33) kI_inj Tryz.underlying86 key86 rfl rfl rfl rfl rfl rfl rfl (fun _ => rfl) hy42) rfl ?_
      refine PWl.nil ?_
      exact ⟨((seen32 ++ [j34]), (AL.set v33 kv38.1 v40)), (), h, Sub.of rfl (.cons rfl rfl <| .cons rfl rfl <| .cons rfl rfl <| .cons rfl rfl <| .nil) (.cons rfl rfl <| .cons rfl rfl <| .cons rfl rfl <| .nil)⟩
  · rintro v9 _ h
    refine PWc.seq ?_
    refine PWc.region ?_
    refine PWl.step (LR.move rfl) rfl ?_
    replace h := iDet h
    obtain ⟨v44, hy45, h⟩ := h
    refine PWl.frzM [7, 30] hK (.cons rfl <| .cons rfl <| .nil) rfl ?_
    refine PWl.step (LR.rowN (ctx_order_ok v9 v44 hy45) rfl Tryz.call66 rfl rfl rfl rfl) rfl ?_
    refine PWl.step (LR.assign rfl) rfl ?_
    refine PWl.nil ?_
    refine PWc.ret ?_
    replace h : _ = r0 := h
    subst h
    exact ⟨.inr rfl, 6, rfl, .inr ⟨31, _, rfl, (by simp), rfl⟩⟩

theorem ctx_Minus_ok (a1 : List TPart) (b2 : List TPart) (r0 : List TPart) (h : (ctx_Minus a1 b2).wp (· = r0)) : PRow Tryz.prog 14 [.d (.sl (List.map TPart.e a1)), .d (.sl (List.map TPart.e b2))] 80 2 (List.map TPart.e r0) := by
  refine PRow.intro (sl := [(0, _), (1, _)]) Tryz.func14 rfl Tryz.ntmps14 rfl rfl ?_
  intro ctx hK
  refine PWc.seq ?_
  refine PWc.region ?_
  refine PWl.step (LR.assignNilRow 80 2 rfl) rfl ?_
  refine PWl.nil ?_
  refine PWc.seq ?_
  refine PWc.region ?_
  refine PWl.step (LR.move rfl) rfl ?_
  refine PWl.step (LR.move rfl) rfl ?_
  replace h := iDet h
  obtain ⟨v3, hy4, h⟩ := h
  refine PWl.step (LR.rowN (ctx_each_runs_Minus_ok a1 b2 v3 hy4) rfl Tryz.call62 rfl rfl rfl rfl) rfl ?_
  refine PWl.re (tl := [(0, _), (1, _), (5, _), (6, _), (7, _)]) (to := [(7, _)]) rfl (.cons rfl rfl <| .cons rfl rfl <| .cons rfl rfl <| .cons rfl rfl <| .cons rfl rfl <| .nil) (.cons rfl rfl <| .nil) ?_
  refine PWl.step (LR.assign rfl) rfl ?_
  refine PWl.nil ?_
  refine PWc.ret ?_
  replace h : _ = r0 := h
  subst h
  exact ⟨.inr rfl, 4, rfl, .inr ⟨7, _, rfl, (by simp), rfl⟩⟩

theorem r09_Minus_ok (a1 : List TPart) (b2 : List TPart) (r0 : List TPart) (h : (r09_Minus a1 b2).wp (· = r0)) : PRow Tryz.prog 15 [.d (.sl (List.map TPart.e a1)), .d (.sl (List.map TPart.e b2))] 80 2 (List.map TPart.e r0) := by
  refine PRow.intro (sl := [(0, _), (1, _)]) Tryz.func15 rfl Tryz.ntmps15 rfl rfl ?_
  intro ctx hK
  refine PWc.seq ?_
  refine PWc.region ?_
  refine PWl.step (LR.assignNilRow 80 2 rfl) rfl ?_
  refine PWl.nil ?_
  refine PWc.seq ?_
  refine PWc.region ?_
  refine PWl.step (LR.move rfl) rfl ?_
  refine PWl.step (LR.move rfl) rfl ?_
  replace h := iDet h
  obtain ⟨v3, hy4, h⟩ := h
  refine PWl.step (LR.rowN (r09_set_ok a1 b2 2 v3 hy4) rfl Tryz.call61 rfl rfl rfl rfl) rfl ?_
  refine PWl.re (tl := [(0, _), (1, _), (5, _), (6, _), (7, _)]) (to := [(7, _)]) rfl (.cons rfl rfl <| .cons rfl rfl <| .cons rfl rfl <| .cons rfl rfl <| .cons rfl rfl <| .nil) (.cons rfl rfl <| .nil) ?_
  refine PWl.step (LR.assign rfl) rfl ?_
  refine PWl.nil ?_
  refine PWc.ret ?_
  replace h : _ = r0 := h
  subst h
  exact ⟨.inr rfl, 4, rfl, .inr ⟨7, _, rfl, (by simp), rfl⟩⟩

theorem ctx_Within_ok (a1 : List TPart) (b2 : List TPart) (r0 : Bool) (h : (ctx_Within a1 b2).wp (· = r0)) : PFun Tryz.prog 16 [.d (.sl (List.map TPart.e a1)), .d (.sl (List.map TPart.e b2))] (.d (.v (.bool r0))) := by
  refine PFun.intro (sl := [(0, _), (1, _)]) Tryz.func16 rfl Tryz.ntmps16 rfl rfl ?_
  intro ctx hK
  refine PWc.seq ?_
  refine PWc.region ?_
  refine PWl.step (LR.assign rfl) rfl ?_
  refine PWl.nil ?_
  refine PWc.seq ?_
  refine PWc.region ?_
  refine PWl.step (LR.move rfl) rfl ?_
  refine PWl.step (LR.move rfl) rfl ?_
  replace h := iDet h
  obtain ⟨v3, hy4, h⟩ := h
  refine PWl.step (LR.rowN (ctx_Minus_ok a1 b2 v3 hy4) rfl Tryz.call14 rfl rfl rfl rfl) rfl ?_
  refine PWl.step (LR.lenRow Tryz.underlying23 rfl) rfl ?_
  refine PWl.step (LR.eql rfl rfl) rfl ?_
  refine PWl.step (LR.assign rfl) rfl ?_
  refine PWl.nil ?_
  refine PWc.ret ?_
  replace h : _ = r0 := h
  subst h
  exact ⟨.inr rfl, _, .cons (.tmp rfl rfl) <| .nil, rfl⟩

theorem r09_Within_ok (a1 : List TPart) (b2 : List TPart) (r0 : Bool) (h : (r09_Within a1 b2).wp (· = r0)) : PFun Tryz.prog 17 [.d (.sl (List.map TPart.e a1)), .d (.sl (List.map TPart.e b2))] (.d (.v (.bool r0))) := by
  refine PFun.intro (sl := [(0, _), (1, _)]) Tryz.func17 rfl Tryz.ntmps17 rfl rfl ?_
  intro ctx hK
  refine PWc.seq ?_
  refine PWc.region ?_
  refine PWl.step (LR.assign rfl) rfl ?_
  refine PWl.nil ?_
  refine PWc.seq ?_
  refine PWc.region ?_
  refine PWl.step (LR.move rfl) rfl ?_
  refine PWl.step (LR.move rfl) rfl ?_
  replace h := iDet h
  obtain ⟨v3, hy4, h⟩ := h
  refine PWl.step (LR.rowN (r09_Minus_ok a1 b2 v3 hy4) rfl Tryz.call15 rfl rfl rfl rfl) rfl ?_
  refine PWl.step (LR.lenRow Tryz.underlying23 rfl) rfl ?_
  refine PWl.step (LR.eql rfl rfl) rfl ?_
  refine PWl.step (LR.assign rfl) rfl ?_
  refine PWl.nil ?_
  refine PWc.ret ?_
  replace h : _ = r0 := h
  subst h
  exact ⟨.inr rfl, _, .cons (.tmp rfl rfl) <| .nil, rfl⟩

theorem slices_Equal_sl_Run_Run_ok (s1_1 : List TRun) (s2_2 : List TRun) (r0 : Bool) (h : (slices_Equal_sl_Run_Run s1_1 s2_2).wp (· = r0)) : PFun Tryz.prog 101 [.d (.sl (List.map TRun.e s1_1)), .d (.sl (List.map TRun.e s2_2))] (.d (.v (.bool r0))) := by
  refine PFun.intro (sl := [(0, _), (1, _)]) Tryz.func101 rfl Tryz.ntmps101 rfl rfl ?_
  intro ctx hK
  refine PWc.seq ?_
  refine PWc.region ?_
  refine PWl.step (LR.assign rfl) rfl ?_
  refine PWl.nil ?_
  refine PWc.seq ?_
  refine PWc.seq ?_
  refine PWc.region ?_
  refine PWl.step (LR.move rfl) rfl ?_
  refine PWl.step (LR.lenMap (enc := TRun.e) (L := s1_1) Tryz.underlying37 rfl) rfl ?_
  refine PWl.step (LR.move rfl) rfl ?_
  refine PWl.step (LR.lenMap (enc := TRun.e) (L := s2_2) Tryz.underlying37 rfl) rfl ?_
  refine PWl.step (LR.neq rfl rfl) rfl ?_
  refine PWl.nil ?_
  refine PWc.cond rfl (fun hc3 => ?_) (fun hc3 => ?_)
  · replace h := iT hc3 h
    refine PWc.seq ?_
    refine PWc.region ?_
    refine PWl.step (LR.assign rfl) rfl ?_
    refine PWl.nil ?_
    refine PWc.ret ?_
    replace h : _ = r0 := h
    subst h
    exact ⟨.inr rfl, _, .cons (.tmp rfl rfl) <| .nil, rfl⟩
  · replace h := iF hc3 h
    refine PWc.skip ?_
    refine PWc.seq ?_
    refine PWc.seq ?_
    refine PWc.region ?_
    refine PWl.step (LR.move rfl) rfl ?_
    refine PWl.step (LR.lenMap (enc := TRun.e) (L := s1_1) Tryz.underlying37 rfl) rfl ?_
    refine PWl.step (LR.move rfl) rfl ?_
    refine PWl.nil ?_
    refine PWc.jnX (iBind h) (fun (_ : Unit) (_ : Unit) => ⟨26, [], []⟩) (fun h => ?_) ?_
    · refine PWc.block ?_
      refine PWc.loopM (fun (v17 : Int) (_ : Unit) => ⟨26, [(0, .d (.sl (List.map TRun.e s1_1))), (1, .d (.sl (List.map TRun.e s2_2))), (12, .d (.v (.int .i64 (List.length s1_1 : Int)))), (13, .d (.v (.int .i64 v17)))], []⟩) () h (Sub.of rfl (.cons rfl rfl <| .cons rfl rfl <| .cons rfl rfl <| .cons rfl rfl <| .nil) (.nil)) ?_
      rintro N v17 _ h
      refine PWc.seq ?_
      refine PWc.region ?_
      refine PWl.step (LR.lss rfl rfl) rfl ?_
      refine PWl.nil ?_
      refine PWc.seq ?_
      refine PWc.cond rfl (fun hc18 => ?_) (fun hc18 => ?_)
      · replace h := iT hc18 h
        refine PWc.skip ?_
        refine PWc.seq ?_
        refine PWc.block ?_
        refine PWc.seq ?_
        refine PWc.region ?_
        refine PWl.step (LR.move rfl) rfl ?_
        refine PWl.step (LR.assign rfl) rfl ?_
        refine PWl.nil ?_
        refine PWc.seq ?_
        refine PWc.regionD (by kernel_rfl) (by kernel_rfl) ?_
        refine PQl.step (fun _ he ho => LR.move (he rfl rfl)) rfl ?_
        refine PQl.step (fun _ he ho => LR.move (he rfl rfl)) rfl ?_
        replace h := iIdx h
        obtain ⟨x19, hy20, h⟩ := h
        refine PQl.step (fun _ he ho => LR.idxT (enc := TRun.e) (L := s1_1) (y := x19) Tryz.underlying37 Tryz.sizeOf89 (he rfl rfl) (he rfl rfl) hy20 (fun _ => rfl)) rfl ?_
        refine PQl.step (fun _ he ho => LR.loadEpAgg (ys := [_, _]) Tryz.isAgg89 Tryz.sizeOf89 (he rfl rfl) rfl rfl) rfl ?_
        refine PQl.step (fun _ he ho => LR.move (he rfl rfl)) rfl ?_
        refine PQl.step (fun _ he ho => LR.move (he rfl rfl)) rfl ?_
        replace h := iIdx h
        obtain ⟨x21, hy22, h⟩ := h
        refine PQl.step (fun _ he ho => LR.idxT (enc := TRun.e) (L := s2_2) (y := x21) Tryz.underlying37 Tryz.sizeOf89 (he rfl rfl) (he rfl rfl) hy22 (fun _ => rfl)) rfl ?_
        refine PQl.step (fun _ he ho => LR.loadEpAgg (ys := [_, _]) Tryz.isAgg89 Tryz.sizeOf89 (he rfl rfl) rfl rfl) rfl ?_
        refine PQl.step (fun _ he ho => LR.neqAgg (he rfl rfl) (he rfl rfl) rfl rfl eq89) rfl ?_
        refine PQl.nil ?_
        refine PWc.cond rfl (fun hc23 => ?_) (fun hc23 => ?_)
        · replace h := iT hc23 h
          refine PWc.seq ?_
          refine PWc.region ?_
          refine PWl.step (LR.assign rfl) rfl ?_
          refine PWl.nil ?_
          refine PWc.ret ?_
          replace h : _ = r0 := h
          subst h
          exact ⟨.inr rfl, _, .cons (.tmp rfl rfl) <| .nil, rfl⟩
        · replace h := iF hc23 h
          refine PWc.skip ?_
          refine PWc.region ?_
          refine PWl.step (LR.addW rfl rfl) rfl ?_
          refine PWl.step (LR.move rfl) rfl ?_
          refine PWl.nil ?_
          exact ⟨(IntKind.i64.wrap (v17 + 1)), (), h, Sub.of rfl (.cons rfl rfl <| .cons rfl rfl <| .cons rfl rfl <| .cons rfl rfl <| .nil) (.nil)⟩
      · replace h := iF hc18 h
        refine PWc.exit ?_
        exact ⟨(), (), h, Sub.of rfl (.nil) (.nil)⟩
    · rintro _ _ h
      refine PWc.seq ?_
      refine PWc.region ?_
      refine PWl.step (LR.assign rfl) rfl ?_
      refine PWl.nil ?_
      refine PWc.ret ?_
      replace h : _ = r0 := h
      subst h
      exact ⟨.inr rfl, _, .cons (.tmp rfl rfl) <| .nil, rfl⟩
end Go.Proofs

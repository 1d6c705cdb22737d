/- Walks: written by program. -/
import Derived.Test.YtdipflebhoodkaaFc
import Derived.Test.YtdipflebhoodkaaSh
import Derived.Test.YtdipflebhoodkaaSx
import Derived.Test.YtdipflebhoodkaaW4
namespace Go.Proofs
open Go.Ep
set_option maxHeartbeats 1000000
set_option maxRecDepth 100000
set_option linter.unusedVariables false
set_option linter.unusedSimpArgs false


theorem vec_Of_ok (v1 : List TDot) (dev2 : Int) (r0 : Int) (h : (vec_Of v1 dev2).wp (· = r0)) : PFun Try.prog 57 [.d (.sl (List.map TDot.e v1)), .d (.v (.int .u16 dev2))] (.d (.v (.int .u64 r0))) := by
  refine PFun.intro (sl := [(0, _), (1, _)]) Try.func57 rfl Try.ntmps57 rfl rfl ?_
  intro ctx hK
  refine PWc.seq ?_
  refine PWc.region ?_
  refine PWl.step (LR.assign rfl) rfl ?_
  refine PWl.nil ?_
  refine PWc.seq ?_
  refine PWc.region ?_
  refine PWl.step (LR.move rfl) rfl ?_
  replace h := iDet h
  obtain ⟨v3, hy4, h⟩ := h
  refine PWl.mapN (vec_told_ok v1 v3 hy4) rfl Try.call98 rfl rfl rfl rfl rfl (fun bs5 ck5 _ => ?_)
  refine PWl.step (LR.move rfl) rfl ?_
  refine PWl.step (LR.getO (eV := (eK .u64)) (zv := 0) (q := dev2) (m := v3) kI_inj Try.underlying124 key124 Try.zeroValue34 (zRd1 (.int .u64 0) rfl) rfl rfl rfl rfl rfl rfl) rfl ?_
  refine PWl.step (LR.assign rfl) rfl ?_
  refine PWl.nil ?_
  refine PWc.ret ?_
  replace h : _ = r0 := h
  subst h
  exact ⟨.inr rfl, _, .cons (.tmp rfl rfl) <| .nil, rfl⟩

theorem vec_Has_ok (v1 : List TDot) (d2 : TDot) (r0 : Bool) (h : (vec_Has v1 d2).wp (· = r0)) : PFun Try.prog 48 [.d (.sl (List.map TDot.e v1)), .agg (List.map .d (TDot.e d2))] (.d (.v (.bool r0))) := by
  refine PFun.intro (sl := [(0, _), (1, _)]) Try.func48 rfl Try.ntmps48 rfl rfl ?_
  intro ctx hK
  refine PWc.seq ?_
  refine PWc.region ?_
  refine PWl.step (LR.box rfl rfl rfl rfl) rfl ?_
  refine PWl.step (LR.assign rfl) rfl ?_
  refine PWl.nil ?_
  refine PWc.seq ?_
  refine PWc.jn (iBind h) (fun (v3 : Bool) (_ : Unit) => ⟨16, [(4, .d (.v (.bool v3)))], []⟩) (fun h => ?_) ?_
  · refine PWc.regionD (by kernel_rfl) (by kernel_rfl) ?_
    refine PQl.step (fun _ he ho => LR.loadRefAgg (ps := [_, _]) Try.isAgg70 Try.sizeOf70 (he rfl rfl) (ho rfl) rfl rfl) rfl ?_
    replace h := iDet h
    obtain ⟨v4, hy5, h⟩ := h
    refine PQl.step (fun _ he ho => LR.callN (dot_Good_ok d2 v4 hy5) (he rfl rfl) Try.call102 (evsE he rfl rfl) rfl rfl rfl) rfl ?_
    refine PQl.step (fun _ he ho => LR.move (he rfl rfl)) rfl ?_
    refine PQl.split (d := 7) rfl (fun hg6 => ?_) (fun hg6 => ?_)
    · replace h := iT hg6 h
      refine PQl.guardT (fun _ he ho => LR.fieldRef Try.underlying70 rfl Try.sizeOf34 (by decide) rfl (he rfl rfl)) rfl rfl rfl ?_
      refine PQl.guardT (fun _ he ho => LR.loadRef Try.isAgg34 (he rfl rfl) (ho rfl) rfl) rfl rfl rfl ?_
      refine PQl.guardT (fun _ he ho => LR.move (he rfl rfl)) rfl rfl rfl ?_
      refine PQl.guardT (fun _ he ho => LR.fieldRef Try.underlying70 rfl Try.sizeOf46 (by decide) rfl (he rfl rfl)) rfl rfl rfl ?_
      refine PQl.guardT (fun _ he ho => LR.loadRef Try.isAgg46 (he rfl rfl) (ho rfl) rfl) rfl rfl rfl ?_
      replace h := iDet h
      obtain ⟨v7, hy8, h⟩ := h
      refine PQl.guardT (fun _ he ho => LR.callN (vec_Of_ok v1 d2.dev v7 hy8) (he rfl rfl) Try.call57 (evsE he rfl rfl) rfl rfl rfl) rfl rfl rfl ?_
      refine PQl.guardT (fun _ he ho => LR.leq (he rfl rfl) (he rfl rfl)) rfl rfl rfl ?_
      refine PQl.step (fun _ he ho => LR.pickT (he rfl rfl) (he rfl rfl)) rfl ?_
      refine PQl.step (fun _ he ho => LR.assign (he rfl rfl)) rfl ?_
      refine PQl.nil ?_
      exact ⟨(decide (d2.n ≤ v7)), (), h, Sub.of rfl (.cons rfl rfl <| .nil) (.nil)⟩
    · replace h := iF hg6 h
      refine PQl.guardF rfl rfl rfl (by decide) ?_
      refine PQl.guardF rfl rfl rfl (by decide) ?_
      refine PQl.guardF rfl rfl rfl (by decide) ?_
      refine PQl.guardF rfl rfl rfl (by decide) ?_
      refine PQl.guardF rfl rfl rfl (by decide) ?_
      refine PQl.guardF rfl rfl rfl (by decide) ?_
      refine PQl.guardF rfl rfl rfl (by decide) ?_
      refine PQl.step (fun _ he ho => LR.pickF (he rfl rfl) (he rfl rfl)) rfl ?_
      refine PQl.step (fun _ he ho => LR.assign (he rfl rfl)) rfl ?_
      refine PQl.nil ?_
      exact ⟨false, (), h, Sub.of rfl (.cons rfl rfl <| .nil) (.nil)⟩
  · rintro v3 _ h
    refine PWc.ret ?_
    replace h : _ = r0 := h
    subst h
    exact ⟨.inr rfl, _, .cons (.tmp rfl rfl) <| .nil, rfl⟩

theorem vec_Put_ok (v1 : List TDot) (d2 : TDot) (r0 : List TDot) (h : (vec_Put v1 d2).wp (· = r0)) : PRow Try.prog 49 [.d (.sl (List.map TDot.e v1)), .agg (List.map .d (TDot.e d2))] 70 2 (List.map TDot.e r0) := by
  refine PRow.intro (sl := [(0, _), (1, _)]) Try.func49 rfl Try.ntmps49 rfl rfl ?_
  intro ctx hK
  refine PWc.seq ?_
  refine PWc.region ?_
  refine PWl.step (LR.box rfl rfl rfl rfl) rfl ?_
  refine PWl.step (LR.assignNilRow 70 2 rfl) rfl ?_
  refine PWl.nil ?_
  refine PWc.seq ?_
  refine PWc.region ?_
  refine PWl.step (LR.move rfl) rfl ?_
  refine PWl.step (LR.loadRefAgg (ps := [_, _]) Try.isAgg70 Try.sizeOf70 rfl rfl rfl rfl) rfl ?_
  refine PWl.step (LR.buildSliceD [.tmp 6] elem62 rfl rfl (.cons rfl rfl rfl <| .nil) (by decide) (by decide)) rfl ?_
  replace h := iDet h
  obtain ⟨v3, hy4, h⟩ := h
  refine PWl.step (LR.rowN (vec_Join_ok v1 ([d2]) v3 hy4) rfl Try.call40 rfl rfl rfl rfl) rfl ?_
  refine PWl.step (LR.assign rfl) rfl ?_
  refine PWl.nil ?_
  refine PWc.ret ?_
  replace h : _ = r0 := h
  subst h
  exact ⟨.inr rfl, 4, rfl, .inr ⟨8, _, rfl, (by simp), rfl⟩⟩

theorem l08_VecHas_ok (a1 : List TDot) (b2 : List TDot) (d3 : TDot) (r0 : Bool) (h : (l08_VecHas a1 b2 d3).wp (· = r0)) : PFun Try.prog 7 [.d (.sl (List.map TDot.e a1)), .d (.sl (List.map TDot.e b2)), .agg (List.map .d (TDot.e d3))] (.d (.v (.bool r0))) := by
  refine PFun.intro (sl := [(0, _), (1, _), (2, _)]) Try.func7 rfl Try.ntmps7 rfl rfl ?_
  intro ctx hK
  refine PWc.seq ?_
  refine PWc.region ?_
  refine PWl.step (LR.box rfl rfl rfl rfl) rfl ?_
  refine PWl.step (LR.assign rfl) rfl ?_
  refine PWl.nil ?_
  refine PWc.seq ?_
  refine PWc.region ?_
  refine PWl.step (LR.move rfl) rfl ?_
  refine PWl.step (LR.move rfl) rfl ?_
  replace h := iDet h
  obtain ⟨v4, hy5, h⟩ := h
  refine PWl.step (LR.rowN (vec_Join_ok a1 b2 v4 hy5) rfl Try.call40 rfl rfl rfl rfl) rfl ?_
  refine PWl.step (LR.move rfl) rfl ?_
  refine PWl.step (LR.move rfl) rfl ?_
  replace h := iDet h
  obtain ⟨v6, hy7, h⟩ := h
  refine PWl.step (LR.rowN (vec_Meet_ok a1 b2 v6 hy7) rfl Try.call42 rfl rfl rfl rfl) rfl ?_
  refine PWl.step (LR.assign rfl) rfl ?_
  refine PWl.step (LR.assign rfl) rfl ?_
  refine PWl.nil ?_
  refine PWc.seq ?_
  refine PWc.seq ?_
  refine PWc.frz [7, 13] hK (.cons rfl <| .cons rfl <| .nil) rfl (by simp) ?_
  refine PWc.frz [8, 16] hK (.cons rfl <| .cons rfl <| .nil) rfl (by simp) ?_
  refine PWc.jn (iBind h) (fun (v8 : Bool) (_ : Unit) => ⟨96, [(0, .d (.sl (List.map TDot.e a1))), (1, .d (.sl (List.map TDot.e b2))), (5, .ref 5 0), (42, .d (.v (.bool v8)))], [(5, .cells 70 [.d (.v (.int .u16 d3.dev)), .d (.v (.int .u64 d3.n))])]⟩) (fun h => ?_) ?_
  · refine PWc.regionD (by kernel_rfl) (by kernel_rfl) ?_
    refine PQl.step (fun _ he ho => LR.move (he rfl rfl)) rfl ?_
    refine PQl.step (fun _ he ho => LR.loadRefAgg (ps := [_, _]) Try.isAgg70 Try.sizeOf70 (he rfl rfl) (ho rfl) rfl rfl) rfl ?_
    replace h := iDet h
    obtain ⟨v9, hy10, h⟩ := h
    refine PQl.step (fun _ he ho => LR.callN (vec_Has_ok v4 d3 v9 hy10) (he rfl rfl) Try.call48 (evsE he rfl rfl) rfl rfl rfl) rfl ?_
    refine PQl.step (fun _ he ho => LR.move (he rfl rfl)) rfl ?_
    refine PQl.step (fun _ he ho => LR.loadRefAgg (ps := [_, _]) Try.isAgg70 Try.sizeOf70 (he rfl rfl) (ho rfl) rfl rfl) rfl ?_
    replace h := iDet h
    obtain ⟨v11, hy12, h⟩ := h
    refine PQl.step (fun _ he ho => LR.callN (vec_Has_ok a1 d3 v11 hy12) (he rfl rfl) Try.call48 (evsE he rfl rfl) rfl rfl rfl) rfl ?_
    refine PQl.step (fun _ he ho => LR.move (he rfl rfl)) rfl ?_
    refine PQl.split (d := 23) rfl (fun hg13 => ?_) (fun hg13 => ?_)
    · replace h := iT hg13 h
      refine PQl.guardF rfl rfl rfl (by decide) ?_
      refine PQl.guardF rfl rfl rfl (by decide) ?_
      refine PQl.guardF rfl rfl rfl (by decide) ?_
      refine PQl.step (fun _ he ho => LR.pickT (he rfl rfl) (he rfl rfl)) rfl ?_
      refine PQl.step (fun _ he ho => LR.neqBool Try.underlying4 (he rfl rfl) (he rfl rfl)) rfl ?_
      refine PQl.step (fun _ he ho => LR.move (he rfl rfl)) rfl ?_
      refine PQl.split (d := 29) rfl (fun hg14 => ?_) (fun hg14 => ?_)
      · replace h := iT hg14 h
        refine PQl.guardF rfl rfl rfl (by decide) ?_
        refine PQl.guardF rfl rfl rfl (by decide) ?_
        refine PQl.guardF rfl rfl rfl (by decide) ?_
        refine PQl.guardF rfl rfl rfl (by decide) ?_
        refine PQl.guardF rfl rfl rfl (by decide) ?_
        refine PQl.guardF rfl rfl rfl (by decide) ?_
        refine PQl.guardF rfl rfl rfl (by decide) ?_
        refine PQl.guardU rfl rfl rfl ?_
        refine PQl.guardU rfl rfl rfl ?_
        refine PQl.keep (tl := [(0, _), (1, _), (5, _), (29, _), (32, _), (36, _), (37, _), (38, _)]) rfl (.cons rfl rfl <| .cons rfl rfl <| .cons rfl rfl <| .cons rfl rfl <| .cons rfl rfl <| .cons rfl rfl <| .cons rfl rfl <| .cons rfl rfl <| .nil) ?_
        refine PQl.guardU rfl rfl rfl ?_
        refine PQl.guardF rfl rfl rfl (by decide) ?_
        refine PQl.guardF rfl rfl rfl (by decide) ?_
        refine PQl.step (fun _ he ho => LR.pickT (he rfl rfl) (he rfl rfl)) rfl ?_
        refine PQl.nil ?_
        exact ⟨true, (), h, Sub.of rfl (.cons rfl rfl <| .cons rfl rfl <| .cons rfl rfl <| .cons rfl rfl <| .nil) (.cons rfl rfl <| .nil)⟩
      · replace h := iF hg14 h
        refine PQl.guardT (fun _ he ho => LR.move (he rfl rfl)) rfl rfl rfl ?_
        refine PQl.guardT (fun _ he ho => LR.loadRefAgg (ps := [_, _]) Try.isAgg70 Try.sizeOf70 (he rfl rfl) (ho rfl) rfl rfl) rfl rfl rfl ?_
        replace h := iDet h
        obtain ⟨v15, hy16, h⟩ := h
        refine PQl.guardT (fun _ he ho => LR.callN (vec_Has_ok v6 d3 v15 hy16) (he rfl rfl) Try.call48 (evsE he rfl rfl) rfl rfl rfl) rfl rfl rfl ?_
        refine PQl.guardT (fun _ he ho => LR.move (he rfl rfl)) rfl rfl rfl ?_
        refine PQl.guardT (fun _ he ho => LR.loadRefAgg (ps := [_, _]) Try.isAgg70 Try.sizeOf70 (he rfl rfl) (ho rfl) rfl rfl) rfl rfl rfl ?_
        replace h := iDet h
        obtain ⟨v17, hy18, h⟩ := h
        refine PQl.guardT (fun _ he ho => LR.callN (vec_Has_ok a1 d3 v17 hy18) (he rfl rfl) Try.call48 (evsE he rfl rfl) rfl rfl rfl) rfl rfl rfl ?_
        refine PQl.guardT (fun _ he ho => LR.move (he rfl rfl)) rfl rfl rfl ?_
        refine PQl.split (d := 36) rfl (fun hg19 => ?_) (fun hg19 => ?_)
        · replace h := iT hg19 h
          refine PQl.guardT (fun _ he ho => LR.move (he rfl rfl)) rfl rfl rfl ?_
          refine PQl.keep (tl := [(0, _), (1, _), (5, _), (29, _), (32, _), (36, _), (37, _)]) rfl (.cons rfl rfl <| .cons rfl rfl <| .cons rfl rfl <| .cons rfl rfl <| .cons rfl rfl <| .cons rfl rfl <| .cons rfl rfl <| .nil) ?_
          refine PQl.guardT (fun _ he ho => LR.loadRefAgg (ps := [_, _]) Try.isAgg70 Try.sizeOf70 (he rfl rfl) (ho rfl) rfl rfl) rfl rfl rfl ?_
          replace h := iDet h
          obtain ⟨v20, hy21, h⟩ := h
          refine PQl.guardT (fun _ he ho => LR.callN (vec_Has_ok b2 d3 v20 hy21) (he rfl rfl) Try.call48 (evsE he rfl rfl) rfl rfl rfl) rfl rfl rfl ?_
          refine PQl.guardT (fun _ he ho => LR.pickT (he rfl rfl) (he rfl rfl)) rfl rfl rfl ?_
          refine PQl.guardT (fun _ he ho => LR.neqBool Try.underlying4 (he rfl rfl) (he rfl rfl)) rfl rfl rfl ?_
          refine PQl.step (fun _ he ho => LR.pickF (he rfl rfl) (he rfl rfl)) rfl ?_
          refine PQl.nil ?_
          exact ⟨(!(v15 == v20)), (), h, Sub.of rfl (.cons rfl rfl <| .cons rfl rfl <| .cons rfl rfl <| .cons rfl rfl <| .nil) (.cons rfl rfl <| .nil)⟩
        · replace h := iF hg19 h
          refine PQl.guardF rfl rfl rfl (by decide) ?_
          refine PQl.keep (tl := [(0, _), (1, _), (5, _), (29, _), (32, _), (36, _), (37, _)]) rfl (.cons rfl rfl <| .cons rfl rfl <| .cons rfl rfl <| .cons rfl rfl <| .cons rfl rfl <| .cons rfl rfl <| .cons rfl rfl <| .nil) ?_
          refine PQl.guardF rfl rfl rfl (by decide) ?_
          refine PQl.guardF rfl rfl rfl (by decide) ?_
          refine PQl.guardT (fun _ he ho => LR.pickF (he rfl rfl) (he rfl rfl)) rfl rfl rfl ?_
          refine PQl.guardT (fun _ he ho => LR.neqBool Try.underlying4 (he rfl rfl) (he rfl rfl)) rfl rfl rfl ?_
          refine PQl.step (fun _ he ho => LR.pickF (he rfl rfl) (he rfl rfl)) rfl ?_
          refine PQl.nil ?_
          exact ⟨(!(v15 == false)), (), h, Sub.of rfl (.cons rfl rfl <| .cons rfl rfl <| .cons rfl rfl <| .cons rfl rfl <| .nil) (.cons rfl rfl <| .nil)⟩
    · replace h := iF hg13 h
      refine PQl.guardT (fun _ he ho => LR.move (he rfl rfl)) rfl rfl rfl ?_
      refine PQl.guardT (fun _ he ho => LR.loadRefAgg (ps := [_, _]) Try.isAgg70 Try.sizeOf70 (he rfl rfl) (ho rfl) rfl rfl) rfl rfl rfl ?_
      replace h := iDet h
      obtain ⟨v22, hy23, h⟩ := h
      refine PQl.guardT (fun _ he ho => LR.callN (vec_Has_ok b2 d3 v22 hy23) (he rfl rfl) Try.call48 (evsE he rfl rfl) rfl rfl rfl) rfl rfl rfl ?_
      refine PQl.step (fun _ he ho => LR.pickF (he rfl rfl) (he rfl rfl)) rfl ?_
      refine PQl.step (fun _ he ho => LR.neqBool Try.underlying4 (he rfl rfl) (he rfl rfl)) rfl ?_
      refine PQl.step (fun _ he ho => LR.move (he rfl rfl)) rfl ?_
      refine PQl.split (d := 29) rfl (fun hg24 => ?_) (fun hg24 => ?_)
      · replace h := iT hg24 h
        refine PQl.guardF rfl rfl rfl (by decide) ?_
        refine PQl.guardF rfl rfl rfl (by decide) ?_
        refine PQl.guardF rfl rfl rfl (by decide) ?_
        refine PQl.guardF rfl rfl rfl (by decide) ?_
        refine PQl.guardF rfl rfl rfl (by decide) ?_
        refine PQl.guardF rfl rfl rfl (by decide) ?_
        refine PQl.guardF rfl rfl rfl (by decide) ?_
        refine PQl.guardU rfl rfl rfl ?_
        refine PQl.guardU rfl rfl rfl ?_
        refine PQl.keep (tl := [(0, _), (1, _), (5, _), (29, _), (32, _), (36, _), (37, _), (38, _)]) rfl (.cons rfl rfl <| .cons rfl rfl <| .cons rfl rfl <| .cons rfl rfl <| .cons rfl rfl <| .cons rfl rfl <| .cons rfl rfl <| .cons rfl rfl <| .nil) ?_
        refine PQl.guardU rfl rfl rfl ?_
        refine PQl.guardF rfl rfl rfl (by decide) ?_
        refine PQl.guardF rfl rfl rfl (by decide) ?_
        refine PQl.step (fun _ he ho => LR.pickT (he rfl rfl) (he rfl rfl)) rfl ?_
        refine PQl.nil ?_
        exact ⟨true, (), h, Sub.of rfl (.cons rfl rfl <| .cons rfl rfl <| .cons rfl rfl <| .cons rfl rfl <| .nil) (.cons rfl rfl <| .nil)⟩
      · replace h := iF hg24 h
        refine PQl.guardT (fun _ he ho => LR.move (he rfl rfl)) rfl rfl rfl ?_
        refine PQl.guardT (fun _ he ho => LR.loadRefAgg (ps := [_, _]) Try.isAgg70 Try.sizeOf70 (he rfl rfl) (ho rfl) rfl rfl) rfl rfl rfl ?_
        replace h := iDet h
        obtain ⟨v25, hy26, h⟩ := h
        refine PQl.guardT (fun _ he ho => LR.callN (vec_Has_ok v6 d3 v25 hy26) (he rfl rfl) Try.call48 (evsE he rfl rfl) rfl rfl rfl) rfl rfl rfl ?_
        refine PQl.guardT (fun _ he ho => LR.move (he rfl rfl)) rfl rfl rfl ?_
        refine PQl.guardT (fun _ he ho => LR.loadRefAgg (ps := [_, _]) Try.isAgg70 Try.sizeOf70 (he rfl rfl) (ho rfl) rfl rfl) rfl rfl rfl ?_
        replace h := iDet h
        obtain ⟨v27, hy28, h⟩ := h
        refine PQl.guardT (fun _ he ho => LR.callN (vec_Has_ok a1 d3 v27 hy28) (he rfl rfl) Try.call48 (evsE he rfl rfl) rfl rfl rfl) rfl rfl rfl ?_
        refine PQl.guardT (fun _ he ho => LR.move (he rfl rfl)) rfl rfl rfl ?_
        refine PQl.split (d := 36) rfl (fun hg29 => ?_) (fun hg29 => ?_)
        · replace h := iT hg29 h
          refine PQl.guardT (fun _ he ho => LR.move (he rfl rfl)) rfl rfl rfl ?_
          refine PQl.keep (tl := [(0, _), (1, _), (5, _), (29, _), (32, _), (36, _), (37, _)]) rfl (.cons rfl rfl <| .cons rfl rfl <| .cons rfl rfl <| .cons rfl rfl <| .cons rfl rfl <| .cons rfl rfl <| .cons rfl rfl <| .nil) ?_
          refine PQl.guardT (fun _ he ho => LR.loadRefAgg (ps := [_, _]) Try.isAgg70 Try.sizeOf70 (he rfl rfl) (ho rfl) rfl rfl) rfl rfl rfl ?_
          replace h := iDet h
          obtain ⟨v30, hy31, h⟩ := h
          refine PQl.guardT (fun _ he ho => LR.callN (vec_Has_ok b2 d3 v30 hy31) (he rfl rfl) Try.call48 (evsE he rfl rfl) rfl rfl rfl) rfl rfl rfl ?_
          refine PQl.guardT (fun _ he ho => LR.pickT (he rfl rfl) (he rfl rfl)) rfl rfl rfl ?_
          refine PQl.guardT (fun _ he ho => LR.neqBool Try.underlying4 (he rfl rfl) (he rfl rfl)) rfl rfl rfl ?_
          refine PQl.step (fun _ he ho => LR.pickF (he rfl rfl) (he rfl rfl)) rfl ?_
          refine PQl.nil ?_
          exact ⟨(!(v25 == v30)), (), h, Sub.of rfl (.cons rfl rfl <| .cons rfl rfl <| .cons rfl rfl <| .cons rfl rfl <| .nil) (.cons rfl rfl <| .nil)⟩
        · replace h := iF hg29 h
          refine PQl.guardF rfl rfl rfl (by decide) ?_
          refine PQl.keep (tl := [(0, _), (1, _), (5, _), (29, _), (32, _), (36, _), (37, _)]) rfl (.cons rfl rfl <| .cons rfl rfl <| .cons rfl rfl <| .cons rfl rfl <| .cons rfl rfl <| .cons rfl rfl <| .cons rfl rfl <| .nil) ?_
          refine PQl.guardF rfl rfl rfl (by decide) ?_
          refine PQl.guardF rfl rfl rfl (by decide) ?_
          refine PQl.guardT (fun _ he ho => LR.pickF (he rfl rfl) (he rfl rfl)) rfl rfl rfl ?_
          refine PQl.guardT (fun _ he ho => LR.neqBool Try.underlying4 (he rfl rfl) (he rfl rfl)) rfl rfl rfl ?_
          refine PQl.step (fun _ he ho => LR.pickF (he rfl rfl) (he rfl rfl)) rfl ?_
          refine PQl.nil ?_
          exact ⟨(!(v25 == false)), (), h, Sub.of rfl (.cons rfl rfl <| .cons rfl rfl <| .cons rfl rfl <| .cons rfl rfl <| .nil) (.cons rfl rfl <| .nil)⟩
  · rintro v8 _ h
    refine PWc.cond rfl (fun hc32 => ?_) (fun hc32 => ?_)
    · replace h := iT hc32 h
      refine PWc.seq ?_
      refine PWc.region ?_
      refine PWl.step (LR.assign rfl) rfl ?_
      refine PWl.nil ?_
      refine PWc.ret ?_
      replace h : _ = r0 := h
      subst h
      exact ⟨.inr rfl, _, .cons (.tmp rfl rfl) <| .nil, rfl⟩
    · replace h := iF hc32 h
      refine PWc.skip ?_
      refine PWc.seq ?_
      refine PWc.region ?_
      refine PWl.step (LR.move rfl) rfl ?_
      refine PWl.step (LR.move rfl) rfl ?_
      replace h := iDet h
      obtain ⟨v33, hy34, h⟩ := h
      refine PWl.step (LR.callN (vec_Order_ok a1 b2 v33 hy34) rfl Try.call44 rfl rfl rfl rfl) rfl ?_
      refine PWl.step (LR.assign rfl) rfl ?_
      refine PWl.nil ?_
      refine PWc.seq ?_
      refine PWc.region ?_
      refine PWl.step (LR.move rfl) rfl ?_
      refine PWl.step (LR.loadRefAgg (ps := [_, _]) Try.isAgg70 Try.sizeOf70 rfl rfl rfl rfl) rfl ?_
      replace h := iDet h
      obtain ⟨v35, hy36, h⟩ := h
      refine PWl.step (LR.rowN (vec_Put_ok a1 d3 v35 hy36) rfl Try.call49 rfl rfl rfl rfl) rfl ?_
      refine PWl.step (LR.assign rfl) rfl ?_
      refine PWl.nil ?_
      refine PWc.seq ?_
      refine PWc.frz [10, 48] hK (.cons rfl <| .cons rfl <| .nil) rfl (by simp) ?_
      refine PWc.jn (iBind h) (fun (v37 : Bool) (_ : Unit) => ⟨96, [(6, .d (.v (.bool v37)))], []⟩) (fun h => ?_) ?_
      · refine PWc.regionD (by kernel_rfl) (by kernel_rfl) ?_
        refine PQl.step (fun _ he ho => LR.move (he rfl rfl)) rfl ?_
        refine PQl.step (fun _ he ho => LR.move (he rfl rfl)) rfl ?_
        replace h := iDet h
        obtain ⟨v38, hy39, h⟩ := h
        refine PQl.step (fun _ he ho => LR.callN (vec_Lack_ok b2 a1 v38 hy39) (he rfl rfl) Try.call46 (evsE he rfl rfl) rfl rfl rfl) rfl ?_
        refine PQl.step (fun _ he ho => LR.eql (he rfl rfl) (he rfl rfl)) rfl ?_
        refine PQl.step (fun _ he ho => LR.move (he rfl rfl)) rfl ?_
        refine PQl.step (fun _ he ho => LR.eql (he rfl rfl) (he rfl rfl)) rfl ?_
        refine PQl.step (fun _ he ho => LR.move (he rfl rfl)) rfl ?_
        refine PQl.split (d := 55) rfl (fun hg40 => ?_) (fun hg40 => ?_)
        · replace h := iT hg40 h
          refine PQl.guardF rfl rfl rfl (by decide) ?_
          refine PQl.guardF rfl rfl rfl (by decide) ?_
          refine PQl.step (fun _ he ho => LR.pickT (he rfl rfl) (he rfl rfl)) rfl ?_
          refine PQl.step (fun _ he ho => LR.eqlBool Try.underlying4 (he rfl rfl) (he rfl rfl)) rfl ?_
          refine PQl.step (fun _ he ho => LR.move (he rfl rfl)) rfl ?_
          refine PQl.split (d := 60) rfl (fun hg41 => ?_) (fun hg41 => ?_)
          · replace h := iT hg41 h
            refine PQl.guardT (fun _ he ho => LR.move (he rfl rfl)) rfl rfl rfl ?_
            refine PQl.guardT (fun _ he ho => LR.move (he rfl rfl)) rfl rfl rfl ?_
            replace h := iDet h
            obtain ⟨v42, hy43, h⟩ := h
            refine PQl.guardT (fun _ he ho => LR.callN (vec_Lack_ok a1 b2 v42 hy43) (he rfl rfl) Try.call46 (evsE he rfl rfl) rfl rfl rfl) rfl rfl rfl ?_
            refine PQl.guardT (fun _ he ho => LR.eql (he rfl rfl) (he rfl rfl)) rfl rfl rfl ?_
            refine PQl.guardT (fun _ he ho => LR.move (he rfl rfl)) rfl rfl rfl ?_
            refine PQl.guardT (fun _ he ho => LR.eql (he rfl rfl) (he rfl rfl)) rfl rfl rfl ?_
            refine PQl.guardT (fun _ he ho => LR.move (he rfl rfl)) rfl rfl rfl ?_
            refine PQl.split (d := 67) rfl (fun hg44 => ?_) (fun hg44 => ?_)
            · replace h := iT hg44 h
              refine PQl.guardF rfl rfl rfl (by decide) ?_
              refine PQl.guardF rfl rfl rfl (by decide) ?_
              refine PQl.guardT (fun _ he ho => LR.pickT (he rfl rfl) (he rfl rfl)) rfl rfl rfl ?_
              refine PQl.keep (tl := [(0, _), (5, _), (10, _), (60, _), (64, _), (70, _)]) rfl (.cons rfl rfl <| .cons rfl rfl <| .cons rfl rfl <| .cons rfl rfl <| .cons rfl rfl <| .cons rfl rfl <| .nil) ?_
              refine PQl.guardT (fun _ he ho => LR.eqlBool Try.underlying4 (he rfl rfl) (he rfl rfl)) rfl rfl rfl ?_
              refine PQl.step (fun _ he ho => LR.pickT (he rfl rfl) (he rfl rfl)) rfl ?_
              refine PQl.step (fun _ he ho => LR.move (he rfl rfl)) rfl ?_
              refine PQl.split (d := 73) rfl (fun hg45 => ?_) (fun hg45 => ?_)
              · replace h := iT hg45 h
                refine PQl.guardT (fun _ he ho => LR.move (he rfl rfl)) rfl rfl rfl ?_
                refine PQl.guardT (fun _ he ho => LR.move (he rfl rfl)) rfl rfl rfl ?_
                replace h := iDet h
                obtain ⟨v46, hy47, h⟩ := h
                refine PQl.guardT (fun _ he ho => LR.callN (vec_Order_ok a1 v35 v46 hy47) (he rfl rfl) Try.call44 (evsE he rfl rfl) rfl rfl rfl) rfl rfl rfl ?_
                refine PQl.guardT (fun _ he ho => LR.neq (he rfl rfl) (he rfl rfl)) rfl rfl rfl ?_
                refine PQl.step (fun _ he ho => LR.pickT (he rfl rfl) (he rfl rfl)) rfl ?_
                refine PQl.step (fun _ he ho => LR.move (he rfl rfl)) rfl ?_
                refine PQl.split (d := 79) rfl (fun hg48 => ?_) (fun hg48 => ?_)
                · replace h := iT hg48 h
                  refine PQl.guardT (fun _ he ho => LR.move (he rfl rfl)) rfl rfl rfl ?_
                  refine PQl.guardT (fun _ he ho => LR.move (he rfl rfl)) rfl rfl rfl ?_
                  replace h := iDet h
                  obtain ⟨v49, hy50, h⟩ := h
                  refine PQl.guardT (fun _ he ho => LR.callN (vec_Order_ok a1 v35 v49 hy50) (he rfl rfl) Try.call44 (evsE he rfl rfl) rfl rfl rfl) rfl rfl rfl ?_
                  refine PQl.guardT (fun _ he ho => LR.neq (he rfl rfl) (he rfl rfl)) rfl rfl rfl ?_
                  refine PQl.step (fun _ he ho => LR.pickT (he rfl rfl) (he rfl rfl)) rfl ?_
                  refine PQl.step (fun _ he ho => LR.move (he rfl rfl)) rfl ?_
                  refine PQl.split (d := 85) rfl (fun hg51 => ?_) (fun hg51 => ?_)
                  · replace h := iT hg51 h
                    refine PQl.guardT (fun _ he ho => LR.move (he rfl rfl)) rfl rfl rfl ?_
                    refine PQl.guardT (fun _ he ho => LR.loadRefAgg (ps := [_, _]) Try.isAgg70 Try.sizeOf70 (he rfl rfl) (ho rfl) rfl rfl) rfl rfl rfl ?_
                    replace h := iDet h
                    obtain ⟨v52, hy53, h⟩ := h
                    refine PQl.guardT (fun _ he ho => LR.callN (vec_Has_ok v35 d3 v52 hy53) (he rfl rfl) Try.call48 (evsE he rfl rfl) rfl rfl rfl) rfl rfl rfl ?_
                    refine PQl.guardT (fun _ he ho => LR.loadRefAgg (ps := [_, _]) Try.isAgg70 Try.sizeOf70 (he rfl rfl) (ho rfl) rfl rfl) rfl rfl rfl ?_
                    replace h := iDet h
                    obtain ⟨v54, hy55, h⟩ := h
                    refine PQl.guardT (fun _ he ho => LR.callN (r07_Good_ok d3 v54 hy55) (he rfl rfl) Try.call50 (evsE he rfl rfl) rfl rfl rfl) rfl rfl rfl ?_
                    refine PQl.guardT (fun _ he ho => LR.eqlBool Try.underlying4 (he rfl rfl) (he rfl rfl)) rfl rfl rfl ?_
                    refine PQl.step (fun _ he ho => LR.pickT (he rfl rfl) (he rfl rfl)) rfl ?_
                    refine PQl.step (fun _ he ho => LR.move (he rfl rfl)) rfl ?_
                    refine PQl.split (d := 93) rfl (fun hg56 => ?_) (fun hg56 => ?_)
                    · replace h := iT hg56 h
                      replace h := iDet h
                      obtain ⟨v57, hy58, h⟩ := h
                      refine PQl.guardT (fun _ he ho => LR.callN (l08_works_ok v57 hy58) (he rfl rfl) Try.call38 (evsE he rfl rfl) rfl rfl rfl) rfl rfl rfl ?_
                      refine PQl.step (fun _ he ho => LR.pickT (he rfl rfl) (he rfl rfl)) rfl ?_
                      refine PQl.step (fun _ he ho => LR.assign (he rfl rfl)) rfl ?_
                      refine PQl.nil ?_
                      exact ⟨v57, (), h, Sub.of rfl (.cons rfl rfl <| .nil) (.nil)⟩
                    · replace h := iF hg56 h
                      refine PQl.guardF rfl rfl rfl (by decide) ?_
                      refine PQl.step (fun _ he ho => LR.pickF (he rfl rfl) (he rfl rfl)) rfl ?_
                      refine PQl.step (fun _ he ho => LR.assign (he rfl rfl)) rfl ?_
                      refine PQl.nil ?_
                      exact ⟨false, (), h, Sub.of rfl (.cons rfl rfl <| .nil) (.nil)⟩
                  · replace h := iF hg51 h
                    refine PQl.guardF rfl rfl rfl (by decide) ?_
                    refine PQl.guardF rfl rfl rfl (by decide) ?_
                    refine PQl.guardF rfl rfl rfl (by decide) ?_
                    refine PQl.guardF rfl rfl rfl (by decide) ?_
                    refine PQl.guardF rfl rfl rfl (by decide) ?_
                    refine PQl.guardF rfl rfl rfl (by decide) ?_
                    refine PQl.step (fun _ he ho => LR.pickF (he rfl rfl) (he rfl rfl)) rfl ?_
                    refine PQl.step (fun _ he ho => LR.move (he rfl rfl)) rfl ?_
                    refine PQl.guardF rfl rfl rfl (by decide) ?_
                    refine PQl.step (fun _ he ho => LR.pickF (he rfl rfl) (he rfl rfl)) rfl ?_
                    refine PQl.step (fun _ he ho => LR.assign (he rfl rfl)) rfl ?_
                    refine PQl.nil ?_
                    exact ⟨false, (), h, Sub.of rfl (.cons rfl rfl <| .nil) (.nil)⟩
                · replace h := iF hg48 h
                  refine PQl.guardF rfl rfl rfl (by decide) ?_
                  refine PQl.guardF rfl rfl rfl (by decide) ?_
                  refine PQl.guardF rfl rfl rfl (by decide) ?_
                  refine PQl.guardF rfl rfl rfl (by decide) ?_
                  refine PQl.step (fun _ he ho => LR.pickF (he rfl rfl) (he rfl rfl)) rfl ?_
                  refine PQl.step (fun _ he ho => LR.move (he rfl rfl)) rfl ?_
                  refine PQl.guardF rfl rfl rfl (by decide) ?_
                  refine PQl.guardF rfl rfl rfl (by decide) ?_
                  refine PQl.guardF rfl rfl rfl (by decide) ?_
                  refine PQl.guardF rfl rfl rfl (by decide) ?_
                  refine PQl.guardF rfl rfl rfl (by decide) ?_
                  refine PQl.guardF rfl rfl rfl (by decide) ?_
                  refine PQl.step (fun _ he ho => LR.pickF (he rfl rfl) (he rfl rfl)) rfl ?_
                  refine PQl.step (fun _ he ho => LR.move (he rfl rfl)) rfl ?_
                  refine PQl.guardF rfl rfl rfl (by decide) ?_
                  refine PQl.step (fun _ he ho => LR.pickF (he rfl rfl) (he rfl rfl)) rfl ?_
                  refine PQl.step (fun _ he ho => LR.assign (he rfl rfl)) rfl ?_
                  refine PQl.nil ?_
                  exact ⟨false, (), h, Sub.of rfl (.cons rfl rfl <| .nil) (.nil)⟩
              · replace h := iF hg45 h
                refine PQl.guardF rfl rfl rfl (by decide) ?_
                refine PQl.guardF rfl rfl rfl (by decide) ?_
                refine PQl.guardF rfl rfl rfl (by decide) ?_
                refine PQl.guardF rfl rfl rfl (by decide) ?_
                refine PQl.step (fun _ he ho => LR.pickF (he rfl rfl) (he rfl rfl)) rfl ?_
                refine PQl.step (fun _ he ho => LR.move (he rfl rfl)) rfl ?_
                refine PQl.guardF rfl rfl rfl (by decide) ?_
                refine PQl.guardF rfl rfl rfl (by decide) ?_
                refine PQl.guardF rfl rfl rfl (by decide) ?_
                refine PQl.guardF rfl rfl rfl (by decide) ?_
                refine PQl.step (fun _ he ho => LR.pickF (he rfl rfl) (he rfl rfl)) rfl ?_
                refine PQl.step (fun _ he ho => LR.move (he rfl rfl)) rfl ?_
                refine PQl.guardF rfl rfl rfl (by decide) ?_
                refine PQl.guardF rfl rfl rfl (by decide) ?_
                refine PQl.guardF rfl rfl rfl (by decide) ?_
                refine PQl.guardF rfl rfl rfl (by decide) ?_
                refine PQl.guardF rfl rfl rfl (by decide) ?_
                refine PQl.guardF rfl rfl rfl (by decide) ?_
                refine PQl.step (fun _ he ho => LR.pickF (he rfl rfl) (he rfl rfl)) rfl ?_
                refine PQl.step (fun _ he ho => LR.move (he rfl rfl)) rfl ?_
                refine PQl.guardF rfl rfl rfl (by decide) ?_
                refine PQl.step (fun _ he ho => LR.pickF (he rfl rfl) (he rfl rfl)) rfl ?_
                refine PQl.step (fun _ he ho => LR.assign (he rfl rfl)) rfl ?_
                refine PQl.nil ?_
                exact ⟨false, (), h, Sub.of rfl (.cons rfl rfl <| .nil) (.nil)⟩
            · replace h := iF hg44 h
              refine PQl.guardT (fun _ he ho => LR.move (he rfl rfl)) rfl rfl rfl ?_
              refine PQl.guardT (fun _ he ho => LR.eql (he rfl rfl) (he rfl rfl)) rfl rfl rfl ?_
              refine PQl.guardT (fun _ he ho => LR.pickF (he rfl rfl) (he rfl rfl)) rfl rfl rfl ?_
              refine PQl.keep (tl := [(0, _), (5, _), (10, _), (60, _), (64, _), (70, _)]) rfl (.cons rfl rfl <| .cons rfl rfl <| .cons rfl rfl <| .cons rfl rfl <| .cons rfl rfl <| .cons rfl rfl <| .nil) ?_
              refine PQl.guardT (fun _ he ho => LR.eqlBool Try.underlying4 (he rfl rfl) (he rfl rfl)) rfl rfl rfl ?_
              refine PQl.step (fun _ he ho => LR.pickT (he rfl rfl) (he rfl rfl)) rfl ?_
              refine PQl.step (fun _ he ho => LR.move (he rfl rfl)) rfl ?_
              refine PQl.split (d := 73) rfl (fun hg59 => ?_) (fun hg59 => ?_)
              · replace h := iT hg59 h
                refine PQl.guardT (fun _ he ho => LR.move (he rfl rfl)) rfl rfl rfl ?_
                refine PQl.guardT (fun _ he ho => LR.move (he rfl rfl)) rfl rfl rfl ?_
                replace h := iDet h
                obtain ⟨v60, hy61, h⟩ := h
                refine PQl.guardT (fun _ he ho => LR.callN (vec_Order_ok a1 v35 v60 hy61) (he rfl rfl) Try.call44 (evsE he rfl rfl) rfl rfl rfl) rfl rfl rfl ?_
                refine PQl.guardT (fun _ he ho => LR.neq (he rfl rfl) (he rfl rfl)) rfl rfl rfl ?_
                refine PQl.step (fun _ he ho => LR.pickT (he rfl rfl) (he rfl rfl)) rfl ?_
                refine PQl.step (fun _ he ho => LR.move (he rfl rfl)) rfl ?_
                refine PQl.split (d := 79) rfl (fun hg62 => ?_) (fun hg62 => ?_)
                · replace h := iT hg62 h
                  refine PQl.guardT (fun _ he ho => LR.move (he rfl rfl)) rfl rfl rfl ?_
                  refine PQl.guardT (fun _ he ho => LR.move (he rfl rfl)) rfl rfl rfl ?_
                  replace h := iDet h
                  obtain ⟨v63, hy64, h⟩ := h
                  refine PQl.guardT (fun _ he ho => LR.callN (vec_Order_ok a1 v35 v63 hy64) (he rfl rfl) Try.call44 (evsE he rfl rfl) rfl rfl rfl) rfl rfl rfl ?_
                  refine PQl.guardT (fun _ he ho => LR.neq (he rfl rfl) (he rfl rfl)) rfl rfl rfl ?_
                  refine PQl.step (fun _ he ho => LR.pickT (he rfl rfl) (he rfl rfl)) rfl ?_
                  refine PQl.step (fun _ he ho => LR.move (he rfl rfl)) rfl ?_
                  refine PQl.split (d := 85) rfl (fun hg65 => ?_) (fun hg65 => ?_)
                  · replace h := iT hg65 h
                    refine PQl.guardT (fun _ he ho => LR.move (he rfl rfl)) rfl rfl rfl ?_
                    refine PQl.guardT (fun _ he ho => LR.loadRefAgg (ps := [_, _]) Try.isAgg70 Try.sizeOf70 (he rfl rfl) (ho rfl) rfl rfl) rfl rfl rfl ?_
                    replace h := iDet h
                    obtain ⟨v66, hy67, h⟩ := h
                    refine PQl.guardT (fun _ he ho => LR.callN (vec_Has_ok v35 d3 v66 hy67) (he rfl rfl) Try.call48 (evsE he rfl rfl) rfl rfl rfl) rfl rfl rfl ?_
                    refine PQl.guardT (fun _ he ho => LR.loadRefAgg (ps := [_, _]) Try.isAgg70 Try.sizeOf70 (he rfl rfl) (ho rfl) rfl rfl) rfl rfl rfl ?_
                    replace h := iDet h
                    obtain ⟨v68, hy69, h⟩ := h
                    refine PQl.guardT (fun _ he ho => LR.callN (r07_Good_ok d3 v68 hy69) (he rfl rfl) Try.call50 (evsE he rfl rfl) rfl rfl rfl) rfl rfl rfl ?_
                    refine PQl.guardT (fun _ he ho => LR.eqlBool Try.underlying4 (he rfl rfl) (he rfl rfl)) rfl rfl rfl ?_
                    refine PQl.step (fun _ he ho => LR.pickT (he rfl rfl) (he rfl rfl)) rfl ?_
                    refine PQl.step (fun _ he ho => LR.move (he rfl rfl)) rfl ?_
                    refine PQl.split (d := 93) rfl (fun hg70 => ?_) (fun hg70 => ?_)
                    · replace h := iT hg70 h
                      replace h := iDet h
                      obtain ⟨v71, hy72, h⟩ := h
                      refine PQl.guardT (fun _ he ho => LR.callN (l08_works_ok v71 hy72) (he rfl rfl) Try.call38 (evsE he rfl rfl) rfl rfl rfl) rfl rfl rfl ?_
                      refine PQl.step (fun _ he ho => LR.pickT (he rfl rfl) (he rfl rfl)) rfl ?_
                      refine PQl.step (fun _ he ho => LR.assign (he rfl rfl)) rfl ?_
                      refine PQl.nil ?_
                      exact ⟨v71, (), h, Sub.of rfl (.cons rfl rfl <| .nil) (.nil)⟩
                    · replace h := iF hg70 h
                      refine PQl.guardF rfl rfl rfl (by decide) ?_
                      refine PQl.step (fun _ he ho => LR.pickF (he rfl rfl) (he rfl rfl)) rfl ?_
                      refine PQl.step (fun _ he ho => LR.assign (he rfl rfl)) rfl ?_
                      refine PQl.nil ?_
                      exact ⟨false, (), h, Sub.of rfl (.cons rfl rfl <| .nil) (.nil)⟩
                  · replace h := iF hg65 h
                    refine PQl.guardF rfl rfl rfl (by decide) ?_
                    refine PQl.guardF rfl rfl rfl (by decide) ?_
                    refine PQl.guardF rfl rfl rfl (by decide) ?_
                    refine PQl.guardF rfl rfl rfl (by decide) ?_
                    refine PQl.guardF rfl rfl rfl (by decide) ?_
                    refine PQl.guardF rfl rfl rfl (by decide) ?_
                    refine PQl.step (fun _ he ho => LR.pickF (he rfl rfl) (he rfl rfl)) rfl ?_
                    refine PQl.step (fun _ he ho => LR.move (he rfl rfl)) rfl ?_
                    refine PQl.guardF rfl rfl rfl (by decide) ?_
                    refine PQl.step (fun _ he ho => LR.pickF (he rfl rfl) (he rfl rfl)) rfl ?_
                    refine PQl.step (fun _ he ho => LR.assign (he rfl rfl)) rfl ?_
                    refine PQl.nil ?_
                    exact ⟨false, (), h, Sub.of rfl (.cons rfl rfl <| .nil) (.nil)⟩
                · replace h := iF hg62 h
                  refine PQl.guardF rfl rfl rfl (by decide) ?_
                  refine PQl.guardF rfl rfl rfl (by decide) ?_
                  refine PQl.guardF rfl rfl rfl (by decide) ?_
                  refine PQl.guardF rfl rfl rfl (by decide) ?_
                  refine PQl.step (fun _ he ho => LR.pickF (he rfl rfl) (he rfl rfl)) rfl ?_
                  refine PQl.step (fun _ he ho => LR.move (he rfl rfl)) rfl ?_
                  refine PQl.guardF rfl rfl rfl (by decide) ?_
                  refine PQl.guardF rfl rfl rfl (by decide) ?_
                  refine PQl.guardF rfl rfl rfl (by decide) ?_
                  refine PQl.guardF rfl rfl rfl (by decide) ?_
                  refine PQl.guardF rfl rfl rfl (by decide) ?_
                  refine PQl.guardF rfl rfl rfl (by decide) ?_
                  refine PQl.step (fun _ he ho => LR.pickF (he rfl rfl) (he rfl rfl)) rfl ?_
                  refine PQl.step (fun _ he ho => LR.move (he rfl rfl)) rfl ?_
                  refine PQl.guardF rfl rfl rfl (by decide) ?_
                  refine PQl.step (fun _ he ho => LR.pickF (he rfl rfl) (he rfl rfl)) rfl ?_
                  refine PQl.step (fun _ he ho => LR.assign (he rfl rfl)) rfl ?_
                  refine PQl.nil ?_
                  exact ⟨false, (), h, Sub.of rfl (.cons rfl rfl <| .nil) (.nil)⟩
              · replace h := iF hg59 h
                refine PQl.guardF rfl rfl rfl (by decide) ?_
                refine PQl.guardF rfl rfl rfl (by decide) ?_
                refine PQl.guardF rfl rfl rfl (by decide) ?_
                refine PQl.guardF rfl rfl rfl (by decide) ?_
                refine PQl.step (fun _ he ho => LR.pickF (he rfl rfl) (he rfl rfl)) rfl ?_
                refine PQl.step (fun _ he ho => LR.move (he rfl rfl)) rfl ?_
                refine PQl.guardF rfl rfl rfl (by decide) ?_
                refine PQl.guardF rfl rfl rfl (by decide) ?_
                refine PQl.guardF rfl rfl rfl (by decide) ?_
                refine PQl.guardF rfl rfl rfl (by decide) ?_
                refine PQl.step (fun _ he ho => LR.pickF (he rfl rfl) (he rfl rfl)) rfl ?_
                refine PQl.step (fun _ he ho => LR.move (he rfl rfl)) rfl ?_
                refine PQl.guardF rfl rfl rfl (by decide) ?_
                refine PQl.guardF rfl rfl rfl (by decide) ?_
                refine PQl.guardF rfl rfl rfl (by decide) ?_
                refine PQl.guardF rfl rfl rfl (by decide) ?_
                refine PQl.guardF rfl rfl rfl (by decide) ?_
                refine PQl.guardF rfl rfl rfl (by decide) ?_
                refine PQl.step (fun _ he ho => LR.pickF (he rfl rfl) (he rfl rfl)) rfl ?_
                refine PQl.step (fun _ he ho => LR.move (he rfl rfl)) rfl ?_
                refine PQl.guardF rfl rfl rfl (by decide) ?_
                refine PQl.step (fun _ he ho => LR.pickF (he rfl rfl) (he rfl rfl)) rfl ?_
                refine PQl.step (fun _ he ho => LR.assign (he rfl rfl)) rfl ?_
                refine PQl.nil ?_
                exact ⟨false, (), h, Sub.of rfl (.cons rfl rfl <| .nil) (.nil)⟩
          · replace h := iF hg41 h
            refine PQl.guardF rfl rfl rfl (by decide) ?_
            refine PQl.guardF rfl rfl rfl (by decide) ?_
            refine PQl.guardF rfl rfl rfl (by decide) ?_
            refine PQl.guardF rfl rfl rfl (by decide) ?_
            refine PQl.guardF rfl rfl rfl (by decide) ?_
            refine PQl.guardF rfl rfl rfl (by decide) ?_
            refine PQl.guardF rfl rfl rfl (by decide) ?_
            refine PQl.guardU rfl rfl rfl ?_
            refine PQl.guardU rfl rfl rfl ?_
            refine PQl.guardF rfl rfl rfl (by decide) ?_
            refine PQl.guardF rfl rfl rfl (by decide) ?_
            refine PQl.keep (tl := [(0, _), (5, _), (10, _), (60, _), (71, _)]) rfl (.cons rfl rfl <| .cons rfl rfl <| .cons rfl rfl <| .cons rfl rfl <| .cons rfl rfl <| .nil) ?_
            refine PQl.step (fun _ he ho => LR.pickF (he rfl rfl) (he rfl rfl)) rfl ?_
            refine PQl.step (fun _ he ho => LR.move (he rfl rfl)) rfl ?_
            refine PQl.guardF rfl rfl rfl (by decide) ?_
            refine PQl.guardF rfl rfl rfl (by decide) ?_
            refine PQl.guardF rfl rfl rfl (by decide) ?_
            refine PQl.guardF rfl rfl rfl (by decide) ?_
            refine PQl.step (fun _ he ho => LR.pickF (he rfl rfl) (he rfl rfl)) rfl ?_
            refine PQl.step (fun _ he ho => LR.move (he rfl rfl)) rfl ?_
            refine PQl.guardF rfl rfl rfl (by decide) ?_
            refine PQl.guardF rfl rfl rfl (by decide) ?_
            refine PQl.guardF rfl rfl rfl (by decide) ?_
            refine PQl.guardF rfl rfl rfl (by decide) ?_
            refine PQl.step (fun _ he ho => LR.pickF (he rfl rfl) (he rfl rfl)) rfl ?_
            refine PQl.step (fun _ he ho => LR.move (he rfl rfl)) rfl ?_
            refine PQl.guardF rfl rfl rfl (by decide) ?_
            refine PQl.guardF rfl rfl rfl (by decide) ?_
            refine PQl.guardF rfl rfl rfl (by decide) ?_
            refine PQl.guardF rfl rfl rfl (by decide) ?_
            refine PQl.guardF rfl rfl rfl (by decide) ?_
            refine PQl.guardF rfl rfl rfl (by decide) ?_
            refine PQl.step (fun _ he ho => LR.pickF (he rfl rfl) (he rfl rfl)) rfl ?_
            refine PQl.step (fun _ he ho => LR.move (he rfl rfl)) rfl ?_
            refine PQl.guardF rfl rfl rfl (by decide) ?_
            refine PQl.step (fun _ he ho => LR.pickF (he rfl rfl) (he rfl rfl)) rfl ?_
            refine PQl.step (fun _ he ho => LR.assign (he rfl rfl)) rfl ?_
            refine PQl.nil ?_
            exact ⟨false, (), h, Sub.of rfl (.cons rfl rfl <| .nil) (.nil)⟩
        · replace h := iF hg40 h
          refine PQl.guardT (fun _ he ho => LR.move (he rfl rfl)) rfl rfl rfl ?_
          refine PQl.guardT (fun _ he ho => LR.eql (he rfl rfl) (he rfl rfl)) rfl rfl rfl ?_
          refine PQl.step (fun _ he ho => LR.pickF (he rfl rfl) (he rfl rfl)) rfl ?_
          refine PQl.step (fun _ he ho => LR.eqlBool Try.underlying4 (he rfl rfl) (he rfl rfl)) rfl ?_
          refine PQl.step (fun _ he ho => LR.move (he rfl rfl)) rfl ?_
          refine PQl.split (d := 60) rfl (fun hg73 => ?_) (fun hg73 => ?_)
          · replace h := iT hg73 h
            refine PQl.guardT (fun _ he ho => LR.move (he rfl rfl)) rfl rfl rfl ?_
            refine PQl.guardT (fun _ he ho => LR.move (he rfl rfl)) rfl rfl rfl ?_
            replace h := iDet h
            obtain ⟨v74, hy75, h⟩ := h
            refine PQl.guardT (fun _ he ho => LR.callN (vec_Lack_ok a1 b2 v74 hy75) (he rfl rfl) Try.call46 (evsE he rfl rfl) rfl rfl rfl) rfl rfl rfl ?_
            refine PQl.guardT (fun _ he ho => LR.eql (he rfl rfl) (he rfl rfl)) rfl rfl rfl ?_
            refine PQl.guardT (fun _ he ho => LR.move (he rfl rfl)) rfl rfl rfl ?_
            refine PQl.guardT (fun _ he ho => LR.eql (he rfl rfl) (he rfl rfl)) rfl rfl rfl ?_
            refine PQl.guardT (fun _ he ho => LR.move (he rfl rfl)) rfl rfl rfl ?_
            refine PQl.split (d := 67) rfl (fun hg76 => ?_) (fun hg76 => ?_)
            · replace h := iT hg76 h
              refine PQl.guardF rfl rfl rfl (by decide) ?_
              refine PQl.guardF rfl rfl rfl (by decide) ?_
              refine PQl.guardT (fun _ he ho => LR.pickT (he rfl rfl) (he rfl rfl)) rfl rfl rfl ?_
              refine PQl.keep (tl := [(0, _), (5, _), (10, _), (60, _), (64, _), (70, _)]) rfl (.cons rfl rfl <| .cons rfl rfl <| .cons rfl rfl <| .cons rfl rfl <| .cons rfl rfl <| .cons rfl rfl <| .nil) ?_
              refine PQl.guardT (fun _ he ho => LR.eqlBool Try.underlying4 (he rfl rfl) (he rfl rfl)) rfl rfl rfl ?_
              refine PQl.step (fun _ he ho => LR.pickT (he rfl rfl) (he rfl rfl)) rfl ?_
              refine PQl.step (fun _ he ho => LR.move (he rfl rfl)) rfl ?_
              refine PQl.split (d := 73) rfl (fun hg77 => ?_) (fun hg77 => ?_)
              · replace h := iT hg77 h
                refine PQl.guardT (fun _ he ho => LR.move (he rfl rfl)) rfl rfl rfl ?_
                refine PQl.guardT (fun _ he ho => LR.move (he rfl rfl)) rfl rfl rfl ?_
                replace h := iDet h
                obtain ⟨v78, hy79, h⟩ := h
                refine PQl.guardT (fun _ he ho => LR.callN (vec_Order_ok a1 v35 v78 hy79) (he rfl rfl) Try.call44 (evsE he rfl rfl) rfl rfl rfl) rfl rfl rfl ?_
                refine PQl.guardT (fun _ he ho => LR.neq (he rfl rfl) (he rfl rfl)) rfl rfl rfl ?_
                refine PQl.step (fun _ he ho => LR.pickT (he rfl rfl) (he rfl rfl)) rfl ?_
                refine PQl.step (fun _ he ho => LR.move (he rfl rfl)) rfl ?_
                refine PQl.split (d := 79) rfl (fun hg80 => ?_) (fun hg80 => ?_)
                · replace h := iT hg80 h
                  refine PQl.guardT (fun _ he ho => LR.move (he rfl rfl)) rfl rfl rfl ?_
                  refine PQl.guardT (fun _ he ho => LR.move (he rfl rfl)) rfl rfl rfl ?_
                  replace h := iDet h
                  obtain ⟨v81, hy82, h⟩ := h
                  refine PQl.guardT (fun _ he ho => LR.callN (vec_Order_ok a1 v35 v81 hy82) (he rfl rfl) Try.call44 (evsE he rfl rfl) rfl rfl rfl) rfl rfl rfl ?_
                  refine PQl.guardT (fun _ he ho => LR.neq (he rfl rfl) (he rfl rfl)) rfl rfl rfl ?_
                  refine PQl.step (fun _ he ho => LR.pickT (he rfl rfl) (he rfl rfl)) rfl ?_
                  refine PQl.step (fun _ he ho => LR.move (he rfl rfl)) rfl ?_
                  refine PQl.split (d := 85) rfl (fun hg83 => ?_) (fun hg83 => ?_)
                  · replace h := iT hg83 h
                    refine PQl.guardT (fun _ he ho => LR.move (he rfl rfl)) rfl rfl rfl ?_
                    refine PQl.guardT (fun _ he ho => LR.loadRefAgg (ps := [_, _]) Try.isAgg70 Try.sizeOf70 (he rfl rfl) (ho rfl) rfl rfl) rfl rfl rfl ?_
                    replace h := iDet h
                    obtain ⟨v84, hy85, h⟩ := h
                    refine PQl.guardT (fun _ he ho => LR.callN (vec_Has_ok v35 d3 v84 hy85) (he rfl rfl) Try.call48 (evsE he rfl rfl) rfl rfl rfl) rfl rfl rfl ?_
                    refine PQl.guardT (fun _ he ho => LR.loadRefAgg (ps := [_, _]) Try.isAgg70 Try.sizeOf70 (he rfl rfl) (ho rfl) rfl rfl) rfl rfl rfl ?_
                    replace h := iDet h
                    obtain ⟨v86, hy87, h⟩ := h
                    refine PQl.guardT (fun _ he ho => LR.callN (r07_Good_ok d3 v86 hy87) (he rfl rfl) Try.call50 (evsE he rfl rfl) rfl rfl rfl) rfl rfl rfl ?_
                    refine PQl.guardT (fun _ he ho => LR.eqlBool Try.underlying4 (he rfl rfl) (he rfl rfl)) rfl rfl rfl ?_
                    refine PQl.step (fun _ he ho => LR.pickT (he rfl rfl) (he rfl rfl)) rfl ?_
                    refine PQl.step (fun _ he ho => LR.move (he rfl rfl)) rfl ?_
                    refine PQl.split (d := 93) rfl (fun hg88 => ?_) (fun hg88 => ?_)
                    · replace h := iT hg88 h
                      replace h := iDet h
                      obtain ⟨v89, hy90, h⟩ := h
                      refine PQl.guardT (fun _ he ho => LR.callN (l08_works_ok v89 hy90) (he rfl rfl) Try.call38 (evsE he rfl rfl) rfl rfl rfl) rfl rfl rfl ?_
                      refine PQl.step (fun _ he ho => LR.pickT (he rfl rfl) (he rfl rfl)) rfl ?_
                      refine PQl.step (fun _ he ho => LR.assign (he rfl rfl)) rfl ?_
                      refine PQl.nil ?_
                      exact ⟨v89, (), h, Sub.of rfl (.cons rfl rfl <| .nil) (.nil)⟩
                    · replace h := iF hg88 h
                      refine PQl.guardF rfl rfl rfl (by decide) ?_
                      refine PQl.step (fun _ he ho => LR.pickF (he rfl rfl) (he rfl rfl)) rfl ?_
                      refine PQl.step (fun _ he ho => LR.assign (he rfl rfl)) rfl ?_
                      refine PQl.nil ?_
                      exact ⟨false, (), h, Sub.of rfl (.cons rfl rfl <| .nil) (.nil)⟩
                  · replace h := iF hg83 h
                    refine PQl.guardF rfl rfl rfl (by decide) ?_
                    refine PQl.guardF rfl rfl rfl (by decide) ?_
                    refine PQl.guardF rfl rfl rfl (by decide) ?_
                    refine PQl.guardF rfl rfl rfl (by decide) ?_
                    refine PQl.guardF rfl rfl rfl (by decide) ?_
                    refine PQl.guardF rfl rfl rfl (by decide) ?_
                    refine PQl.step (fun _ he ho => LR.pickF (he rfl rfl) (he rfl rfl)) rfl ?_
                    refine PQl.step (fun _ he ho => LR.move (he rfl rfl)) rfl ?_
                    refine PQl.guardF rfl rfl rfl (by decide) ?_
                    refine PQl.step (fun _ he ho => LR.pickF (he rfl rfl) (he rfl rfl)) rfl ?_
                    refine PQl.step (fun _ he ho => LR.assign (he rfl rfl)) rfl ?_
                    refine PQl.nil ?_
                    exact ⟨false, (), h, Sub.of rfl (.cons rfl rfl <| .nil) (.nil)⟩
                · replace h := iF hg80 h
                  refine PQl.guardF rfl rfl rfl (by decide) ?_
                  refine PQl.guardF rfl rfl rfl (by decide) ?_
                  refine PQl.guardF rfl rfl rfl (by decide) ?_
                  refine PQl.guardF rfl rfl rfl (by decide) ?_
                  refine PQl.step (fun _ he ho => LR.pickF (he rfl rfl) (he rfl rfl)) rfl ?_
                  refine PQl.step (fun _ he ho => LR.move (he rfl rfl)) rfl ?_
                  refine PQl.guardF rfl rfl rfl (by decide) ?_
                  refine PQl.guardF rfl rfl rfl (by decide) ?_
                  refine PQl.guardF rfl rfl rfl (by decide) ?_
                  refine PQl.guardF rfl rfl rfl (by decide) ?_
                  refine PQl.guardF rfl rfl rfl (by decide) ?_
                  refine PQl.guardF rfl rfl rfl (by decide) ?_
                  refine PQl.step (fun _ he ho => LR.pickF (he rfl rfl) (he rfl rfl)) rfl ?_
                  refine PQl.step (fun _ he ho => LR.move (he rfl rfl)) rfl ?_
                  refine PQl.guardF rfl rfl rfl (by decide) ?_
                  refine PQl.step (fun _ he ho => LR.pickF (he rfl rfl) (he rfl rfl)) rfl ?_
                  refine PQl.step (fun _ he ho => LR.assign (he rfl rfl)) rfl ?_
                  refine PQl.nil ?_
                  exact ⟨false, (), h, Sub.of rfl (.cons rfl rfl <| .nil) (.nil)⟩
              · replace h := iF hg77 h
                refine PQl.guardF rfl rfl rfl (by decide) ?_
                refine PQl.guardF rfl rfl rfl (by decide) ?_
                refine PQl.guardF rfl rfl rfl (by decide) ?_
                refine PQl.guardF rfl rfl rfl (by decide) ?_
                refine PQl.step (fun _ he ho => LR.pickF (he rfl rfl) (he rfl rfl)) rfl ?_
                refine PQl.step (fun _ he ho => LR.move (he rfl rfl)) rfl ?_
                refine PQl.guardF rfl rfl rfl (by decide) ?_
                refine PQl.guardF rfl rfl rfl (by decide) ?_
                refine PQl.guardF rfl rfl rfl (by decide) ?_
                refine PQl.guardF rfl rfl rfl (by decide) ?_
                refine PQl.step (fun _ he ho => LR.pickF (he rfl rfl) (he rfl rfl)) rfl ?_
                refine PQl.step (fun _ he ho => LR.move (he rfl rfl)) rfl ?_
                refine PQl.guardF rfl rfl rfl (by decide) ?_
                refine PQl.guardF rfl rfl rfl (by decide) ?_
                refine PQl.guardF rfl rfl rfl (by decide) ?_
                refine PQl.guardF rfl rfl rfl (by decide) ?_
                refine PQl.guardF rfl rfl rfl (by decide) ?_
                refine PQl.guardF rfl rfl rfl (by decide) ?_
                refine PQl.step (fun _ he ho => LR.pickF (he rfl rfl) (he rfl rfl)) rfl ?_
                refine PQl.step (fun _ he ho => LR.move (he rfl rfl)) rfl ?_
                refine PQl.guardF rfl rfl rfl (by decide) ?_
                refine PQl.step (fun _ he ho => LR.pickF (he rfl rfl) (he rfl rfl)) rfl ?_
                refine PQl.step (fun _ he ho => LR.assign (he rfl rfl)) rfl ?_
                refine PQl.nil ?_
                exact ⟨false, (), h, Sub.of rfl (.cons rfl rfl <| .nil) (.nil)⟩
            · replace h := iF hg76 h
              refine PQl.guardT (fun _ he ho => LR.move (he rfl rfl)) rfl rfl rfl ?_
              refine PQl.guardT (fun _ he ho => LR.eql (he rfl rfl) (he rfl rfl)) rfl rfl rfl ?_
              refine PQl.guardT (fun _ he ho => LR.pickF (he rfl rfl) (he rfl rfl)) rfl rfl rfl ?_
              refine PQl.keep (tl := [(0, _), (5, _), (10, _), (60, _), (64, _), (70, _)]) rfl (.cons rfl rfl <| .cons rfl rfl <| .cons rfl rfl <| .cons rfl rfl <| .cons rfl rfl <| .cons rfl rfl <| .nil) ?_
              refine PQl.guardT (fun _ he ho => LR.eqlBool Try.underlying4 (he rfl rfl) (he rfl rfl)) rfl rfl rfl ?_
              refine PQl.step (fun _ he ho => LR.pickT (he rfl rfl) (he rfl rfl)) rfl ?_
              refine PQl.step (fun _ he ho => LR.move (he rfl rfl)) rfl ?_
              refine PQl.split (d := 73) rfl (fun hg91 => ?_) (fun hg91 => ?_)
              · replace h := iT hg91 h
                refine PQl.guardT (fun _ he ho => LR.move (he rfl rfl)) rfl rfl rfl ?_
                refine PQl.guardT (fun _ he ho => LR.move (he rfl rfl)) rfl rfl rfl ?_
                replace h := iDet h
                obtain ⟨v92, hy93, h⟩ := h
                refine PQl.guardT (fun _ he ho => LR.callN (vec_Order_ok a1 v35 v92 hy93) (he rfl rfl) Try.call44 (evsE he rfl rfl) rfl rfl rfl) rfl rfl rfl ?_
                refine PQl.guardT (fun _ he ho => LR.neq (he rfl rfl) (he rfl rfl)) rfl rfl rfl ?_
                refine PQl.step (fun _ he ho => LR.pickT (he rfl rfl) (he rfl rfl)) rfl ?_
                refine PQl.step (fun _ he ho => LR.move (he rfl rfl)) rfl ?_
                refine PQl.split (d := 79) rfl (fun hg94 => ?_) (fun hg94 => ?_)
                · replace h := iT hg94 h
                  refine PQl.guardT (fun _ he ho => LR.move (he rfl rfl)) rfl rfl rfl ?_
                  refine PQl.guardT (fun _ he ho => LR.move (he rfl rfl)) rfl rfl rfl ?_
                  replace h := iDet h
                  obtain ⟨v95, hy96, h⟩ := h
                  refine PQl.guardT (fun _ he ho => LR.callN (vec_Order_ok a1 v35 v95 hy96) (he rfl rfl) Try.call44 (evsE he rfl rfl) rfl rfl rfl) rfl rfl rfl ?_
                  refine PQl.guardT (fun _ he ho => LR.neq (he rfl rfl) (he rfl rfl)) rfl rfl rfl ?_
                  refine PQl.step (fun _ he ho => LR.pickT (he rfl rfl) (he rfl rfl)) rfl ?_
                  refine PQl.step (fun _ he ho => LR.move (he rfl rfl)) rfl ?_
                  refine PQl.split (d := 85) rfl (fun hg97 => ?_) (fun hg97 => ?_)
                  · replace h := iT hg97 h
                    refine PQl.guardT (fun _ he ho => LR.move (he rfl rfl)) rfl rfl rfl ?_
                    refine PQl.guardT (fun _ he ho => LR.loadRefAgg (ps := [_, _]) Try.isAgg70 Try.sizeOf70 (he rfl rfl) (ho rfl) rfl rfl) rfl rfl rfl ?_
                    replace h := iDet h
                    obtain ⟨v98, hy99, h⟩ := h
                    refine PQl.guardT (fun _ he ho => LR.callN (vec_Has_ok v35 d3 v98 hy99) (he rfl rfl) Try.call48 (evsE he rfl rfl) rfl rfl rfl) rfl rfl rfl ?_
                    refine PQl.guardT (fun _ he ho => LR.loadRefAgg (ps := [_, _]) Try.isAgg70 Try.sizeOf70 (he rfl rfl) (ho rfl) rfl rfl) rfl rfl rfl ?_
                    replace h := iDet h
                    obtain ⟨v100, hy101, h⟩ := h
                    refine PQl.guardT (fun _ he ho => LR.callN (r07_Good_ok d3 v100 hy101) (he rfl rfl) Try.call50 (evsE he rfl rfl) rfl rfl rfl) rfl rfl rfl ?_
                    refine PQl.guardT (fun _ he ho => LR.eqlBool Try.underlying4 (he rfl rfl) (he rfl rfl)) rfl rfl rfl ?_
                    refine PQl.step (fun _ he ho => LR.pickT (he rfl rfl) (he rfl rfl)) rfl ?_
                    refine PQl.step (fun _ he ho => LR.move (he rfl rfl)) rfl ?_
                    refine PQl.split (d := 93) rfl (fun hg102 => ?_) (fun hg102 => ?_)
                    · replace h := iT hg102 h
                      replace h := iDet h
                      obtain ⟨v103, hy104, h⟩ := h
                      refine PQl.guardT (fun _ he ho => LR.callN (l08_works_ok v103 hy104) (he rfl rfl) Try.call38 (evsE he rfl rfl) rfl rfl rfl) rfl rfl rfl ?_
                      refine PQl.step (fun _ he ho => LR.pickT (he rfl rfl) (he rfl rfl)) rfl ?_
                      refine PQl.step (fun _ he ho => LR.assign (he rfl rfl)) rfl ?_
                      refine PQl.nil ?_
                      exact ⟨v103, (), h, Sub.of rfl (.cons rfl rfl <| .nil) (.nil)⟩
                    · replace h := iF hg102 h
                      refine PQl.guardF rfl rfl rfl (by decide) ?_
                      refine PQl.step (fun _ he ho => LR.pickF (he rfl rfl) (he rfl rfl)) rfl ?_
                      refine PQl.step (fun _ he ho => LR.assign (he rfl rfl)) rfl ?_
                      refine PQl.nil ?_
                      exact ⟨false, (), h, Sub.of rfl (.cons rfl rfl <| .nil) (.nil)⟩
                  · replace h := iF hg97 h
                    refine PQl.guardF rfl rfl rfl (by decide) ?_
                    refine PQl.guardF rfl rfl rfl (by decide) ?_
                    refine PQl.guardF rfl rfl rfl (by decide) ?_
                    refine PQl.guardF rfl rfl rfl (by decide) ?_
                    refine PQl.guardF rfl rfl rfl (by decide) ?_
                    refine PQl.guardF rfl rfl rfl (by decide) ?_
                    refine PQl.step (fun _ he ho => LR.pickF (he rfl rfl) (he rfl rfl)) rfl ?_
                    refine PQl.step (fun _ he ho => LR.move (he rfl rfl)) rfl ?_
                    refine PQl.guardF rfl rfl rfl (by decide) ?_
                    refine PQl.step (fun _ he ho => LR.pickF (he rfl rfl) (he rfl rfl)) rfl ?_
                    refine PQl.step (fun _ he ho => LR.assign (he rfl rfl)) rfl ?_
                    refine PQl.nil ?_
                    exact ⟨false, (), h, Sub.of rfl (.cons rfl rfl <| .nil) (.nil)⟩
                · replace h := iF hg94 h
                  refine PQl.guardF rfl rfl rfl (by decide) ?_
                  refine PQl.guardF rfl rfl rfl (by decide) ?_
                  refine PQl.guardF rfl rfl rfl (by decide) ?_
                  refine PQl.guardF rfl rfl rfl (by decide) ?_
                  refine PQl.step (fun _ he ho => LR.pickF (he rfl rfl) (he rfl rfl)) rfl ?_
                  refine PQl.step (fun _ he ho => LR.move (he rfl rfl)) rfl ?_
                  refine PQl.guardF rfl rfl rfl (by decide) ?_
                  refine PQl.guardF rfl rfl rfl (by decide) ?_
                  refine PQl.guardF rfl rfl rfl (by decide) ?_
                  refine PQl.guardF rfl rfl rfl (by decide) ?_
                  refine PQl.guardF rfl rfl rfl (by decide) ?_
                  refine PQl.guardF rfl rfl rfl (by decide) ?_
                  refine PQl.step (fun _ he ho => LR.pickF (he rfl rfl) (he rfl rfl)) rfl ?_
                  refine PQl.step (fun _ he ho => LR.move (he rfl rfl)) rfl ?_
                  refine PQl.guardF rfl rfl rfl (by decide) ?_
                  refine PQl.step (fun _ he ho => LR.pickF (he rfl rfl) (he rfl rfl)) rfl ?_
                  refine PQl.step (fun _ he ho => LR.assign (he rfl rfl)) rfl ?_
                  refine PQl.nil ?_
                  exact ⟨false, (), h, Sub.of rfl (.cons rfl rfl <| .nil) (.nil)⟩
              · replace h := iF hg91 h
                refine PQl.guardF rfl rfl rfl (by decide) ?_
                refine PQl.guardF rfl rfl rfl (by decide) ?_
                refine PQl.guardF rfl rfl rfl (by decide) ?_
                refine PQl.guardF rfl rfl rfl (by decide) ?_
                refine PQl.step (fun _ he ho => LR.pickF (he rfl rfl) (he rfl rfl)) rfl ?_
                refine PQl.step (fun _ he ho => LR.move (he rfl rfl)) rfl ?_
                refine PQl.guardF rfl rfl rfl (by decide) ?_
                refine PQl.guardF rfl rfl rfl (by decide) ?_
                refine PQl.guardF rfl rfl rfl (by decide) ?_
                refine PQl.guardF rfl rfl rfl (by decide) ?_
                refine PQl.step (fun _ he ho => LR.pickF (he rfl rfl) (he rfl rfl)) rfl ?_
                refine PQl.step (fun _ he ho => LR.move (he rfl rfl)) rfl ?_
                refine PQl.guardF rfl rfl rfl (by decide) ?_
                refine PQl.guardF rfl rfl rfl (by decide) ?_
                refine PQl.guardF rfl rfl rfl (by decide) ?_
                refine PQl.guardF rfl rfl rfl (by decide) ?_
                refine PQl.guardF rfl rfl rfl (by decide) ?_
                refine PQl.guardF rfl rfl rfl (by decide) ?_
                refine PQl.step (fun _ he ho => LR.pickF (he rfl rfl) (he rfl rfl)) rfl ?_
                refine PQl.step (fun _ he ho => LR.move (he rfl rfl)) rfl ?_
                refine PQl.guardF rfl rfl rfl (by decide) ?_
                refine PQl.step (fun _ he ho => LR.pickF (he rfl rfl) (he rfl rfl)) rfl ?_
                refine PQl.step (fun _ he ho => LR.assign (he rfl rfl)) rfl ?_
                refine PQl.nil ?_
                exact ⟨false, (), h, Sub.of rfl (.cons rfl rfl <| .nil) (.nil)⟩
          · replace h := iF hg73 h
            refine PQl.guardF rfl rfl rfl (by decide) ?_
            refine PQl.guardF rfl rfl rfl (by decide) ?_
            refine PQl.guardF rfl rfl rfl (by decide) ?_
            refine PQl.guardF rfl rfl rfl (by decide) ?_
            refine PQl.guardF rfl rfl rfl (by decide) ?_
            refine PQl.guardF rfl rfl rfl (by decide) ?_
            refine PQl.guardF rfl rfl rfl (by decide) ?_
            refine PQl.guardU rfl rfl rfl ?_
            refine PQl.guardU rfl rfl rfl ?_
            refine PQl.guardF rfl rfl rfl (by decide) ?_
            refine PQl.guardF rfl rfl rfl (by decide) ?_
            refine PQl.keep (tl := [(0, _), (5, _), (10, _), (60, _), (71, _)]) rfl (.cons rfl rfl <| .cons rfl rfl <| .cons rfl rfl <| .cons rfl rfl <| .cons rfl rfl <| .nil) ?_
            refine PQl.step (fun _ he ho => LR.pickF (he rfl rfl) (he rfl rfl)) rfl ?_
            refine PQl.step (fun _ he ho => LR.move (he rfl rfl)) rfl ?_
            refine PQl.guardF rfl rfl rfl (by decide) ?_
            refine PQl.guardF rfl rfl rfl (by decide) ?_
            refine PQl.guardF rfl rfl rfl (by decide) ?_
            refine PQl.guardF rfl rfl rfl (by decide) ?_
            refine PQl.step (fun _ he ho => LR.pickF (he rfl rfl) (he rfl rfl)) rfl ?_
            refine PQl.step (fun _ he ho => LR.move (he rfl rfl)) rfl ?_
            refine PQl.guardF rfl rfl rfl (by decide) ?_
            refine PQl.guardF rfl rfl rfl (by decide) ?_
            refine PQl.guardF rfl rfl rfl (by decide) ?_
            refine PQl.guardF rfl rfl rfl (by decide) ?_
            refine PQl.step (fun _ he ho => LR.pickF (he rfl rfl) (he rfl rfl)) rfl ?_
            refine PQl.step (fun _ he ho => LR.move (he rfl rfl)) rfl ?_
            refine PQl.guardF rfl rfl rfl (by decide) ?_
            refine PQl.guardF rfl rfl rfl (by decide) ?_
            refine PQl.guardF rfl rfl rfl (by decide) ?_
            refine PQl.guardF rfl rfl rfl (by decide) ?_
            refine PQl.guardF rfl rfl rfl (by decide) ?_
            refine PQl.guardF rfl rfl rfl (by decide) ?_
            refine PQl.step (fun _ he ho => LR.pickF (he rfl rfl) (he rfl rfl)) rfl ?_
            refine PQl.step (fun _ he ho => LR.move (he rfl rfl)) rfl ?_
            refine PQl.guardF rfl rfl rfl (by decide) ?_
            refine PQl.step (fun _ he ho => LR.pickF (he rfl rfl) (he rfl rfl)) rfl ?_
            refine PQl.step (fun _ he ho => LR.assign (he rfl rfl)) rfl ?_
            refine PQl.nil ?_
            exact ⟨false, (), h, Sub.of rfl (.cons rfl rfl <| .nil) (.nil)⟩
      · rintro v37 _ h
        refine PWc.ret ?_
        replace h : _ = r0 := h
        subst h
        exact ⟨.inr rfl, _, .cons (.tmp rfl rfl) <| .nil, rfl⟩

theorem slices_Equal_sl_Dot_Dot_ok (s1_1 : List TDot) (s2_2 : List TDot) (r0 : Bool) (h : (slices_Equal_sl_Dot_Dot s1_1 s2_2).wp (· = r0)) : PFun Try.prog 125 [.d (.sl (List.map TDot.e s1_1)), .d (.sl (List.map TDot.e s2_2))] (.d (.v (.bool r0))) := by
  refine PFun.intro (sl := [(0, _), (1, _)]) Try.func125 rfl Try.ntmps125 rfl rfl ?_
  intro ctx hK
  refine PWc.seq ?_
  refine PWc.region ?_
  refine PWl.step (LR.assign rfl) rfl ?_
  refine PWl.nil ?_
  refine PWc.seq ?_
  refine PWc.seq ?_
  refine PWc.region ?_
  refine PWl.step (LR.move rfl) rfl ?_
  refine PWl.step (LR.lenMap (enc := TDot.e) (L := s1_1) Try.underlying61 rfl) rfl ?_
  refine PWl.step (LR.move rfl) rfl ?_
  refine PWl.step (LR.lenMap (enc := TDot.e) (L := s2_2) Try.underlying61 rfl) rfl ?_
  refine PWl.step (LR.neq rfl rfl) rfl ?_
  refine PWl.nil ?_
  refine PWc.cond rfl (fun hc3 => ?_) (fun hc3 => ?_)
  · replace h := iT hc3 h
    refine PWc.seq ?_
    refine PWc.region ?_
    refine PWl.step (LR.assign rfl) rfl ?_
    refine PWl.nil ?_
    refine PWc.ret ?_
    replace h : _ = r0 := h
    subst h
    exact ⟨.inr rfl, _, .cons (.tmp rfl rfl) <| .nil, rfl⟩
  · replace h := iF hc3 h
    refine PWc.skip ?_
    refine PWc.seq ?_
    refine PWc.seq ?_
    refine PWc.region ?_
    refine PWl.step (LR.move rfl) rfl ?_
    refine PWl.step (LR.lenMap (enc := TDot.e) (L := s1_1) Try.underlying61 rfl) rfl ?_
    refine PWl.step (LR.move rfl) rfl ?_
    refine PWl.nil ?_
    refine PWc.jnX (iBind h) (fun (_ : Unit) (_ : Unit) => ⟨26, [], []⟩) (fun h => ?_) ?_
    · refine PWc.block ?_
      refine PWc.loopM (fun (v17 : Int) (_ : Unit) => ⟨26, [(0, .d (.sl (List.map TDot.e s1_1))), (1, .d (.sl (List.map TDot.e s2_2))), (12, .d (.v (.int .i64 (List.length s1_1 : Int)))), (13, .d (.v (.int .i64 v17)))], []⟩) () h (Sub.of rfl (.cons rfl rfl <| .cons rfl rfl <| .cons rfl rfl <| .cons rfl rfl <| .nil) (.nil)) ?_
      rintro N v17 _ h
      refine PWc.seq ?_
      refine PWc.region ?_
      refine PWl.step (LR.lss rfl rfl) rfl ?_
      refine PWl.nil ?_
      refine PWc.seq ?_
      refine PWc.cond rfl (fun hc18 => ?_) (fun hc18 => ?_)
      · replace h := iT hc18 h
        refine PWc.skip ?_
        refine PWc.seq ?_
        refine PWc.block ?_
        refine PWc.seq ?_
        refine PWc.region ?_
        refine PWl.step (LR.move rfl) rfl ?_
        refine PWl.step (LR.assign rfl) rfl ?_
        refine PWl.nil ?_
        refine PWc.seq ?_
        refine PWc.regionD (by kernel_rfl) (by kernel_rfl) ?_
        refine PQl.step (fun _ he ho => LR.move (he rfl rfl)) rfl ?_
        refine PQl.step (fun _ he ho => LR.move (he rfl rfl)) rfl ?_
        replace h := iIdx h
        obtain ⟨x19, hy20, h⟩ := h
        refine PQl.step (fun _ he ho => LR.idxT (enc := TDot.e) (L := s1_1) (y := x19) Try.underlying61 Try.sizeOf70 (he rfl rfl) (he rfl rfl) hy20 (fun _ => rfl)) rfl ?_
        refine PQl.step (fun _ he ho => LR.loadEpAgg (ys := [_, _]) Try.isAgg70 Try.sizeOf70 (he rfl rfl) rfl rfl) rfl ?_
        refine PQl.step (fun _ he ho => LR.move (he rfl rfl)) rfl ?_
        refine PQl.step (fun _ he ho => LR.move (he rfl rfl)) rfl ?_
        replace h := iIdx h
        obtain ⟨x21, hy22, h⟩ := h
        refine PQl.step (fun _ he ho => LR.idxT (enc := TDot.e) (L := s2_2) (y := x21) Try.underlying61 Try.sizeOf70 (he rfl rfl) (he rfl rfl) hy22 (fun _ => rfl)) rfl ?_
        refine PQl.step (fun _ he ho => LR.loadEpAgg (ys := [_, _]) Try.isAgg70 Try.sizeOf70 (he rfl rfl) rfl rfl) rfl ?_
        refine PQl.step (fun _ he ho => LR.neqAgg (he rfl rfl) (he rfl rfl) rfl rfl eq70) rfl ?_
        refine PQl.nil ?_
        refine PWc.cond rfl (fun hc23 => ?_) (fun hc23 => ?_)
        · replace h := iT hc23 h
          refine PWc.seq ?_
          refine PWc.region ?_
          refine PWl.step (LR.assign rfl) rfl ?_
          refine PWl.nil ?_
          refine PWc.ret ?_
          replace h : _ = r0 := h
          subst h
          exact ⟨.inr rfl, _, .cons (.tmp rfl rfl) <| .nil, rfl⟩
        · replace h := iF hc23 h
          refine PWc.skip ?_
          refine PWc.region ?_
          refine PWl.step (LR.addW rfl rfl) rfl ?_
          refine PWl.step (LR.move rfl) rfl ?_
          refine PWl.nil ?_
          exact ⟨(IntKind.i64.wrap (v17 + 1)), (), h, Sub.of rfl (.cons rfl rfl <| .cons rfl rfl <| .cons rfl rfl <| .cons rfl rfl <| .nil) (.nil)⟩
      · replace h := iF hc18 h
        refine PWc.exit ?_
        exact ⟨(), (), h, Sub.of rfl (.nil) (.nil)⟩
    · rintro _ _ h
      refine PWc.seq ?_
      refine PWc.region ?_
      refine PWl.step (LR.assign rfl) rfl ?_
      refine PWl.nil ?_
      refine PWc.ret ?_
      replace h : _ = r0 := h
      subst h
      exact ⟨.inr rfl, _, .cons (.tmp rfl rfl) <| .nil, rfl⟩

theorem dot_Same_ok (a1 : List TDot) (b2 : List TDot) (r0 : Bool) (h : (dot_Same a1 b2).wp (· = r0)) : PFun Try.prog 104 [.d (.sl (List.map TDot.e a1)), .d (.sl (List.map TDot.e b2))] (.d (.v (.bool r0))) := by
  refine PFun.intro (sl := [(0, _), (1, _)]) Try.func104 rfl Try.ntmps104 rfl rfl ?_
  intro ctx hK
  refine PWc.seq ?_
  refine PWc.region ?_
  refine PWl.step (LR.assign rfl) rfl ?_
  refine PWl.nil ?_
  refine PWc.seq ?_
  refine PWc.region ?_
  refine PWl.step (LR.move rfl) rfl ?_
  refine PWl.step (LR.move rfl) rfl ?_
  replace h := iDet h
  obtain ⟨v3, hy4, h⟩ := h
  refine PWl.step (LR.callN (slices_Equal_sl_Dot_Dot_ok a1 b2 v3 hy4) rfl Try.call125 rfl rfl rfl rfl) rfl ?_
  refine PWl.step (LR.assign rfl) rfl ?_
  refine PWl.nil ?_
  refine PWc.ret ?_
  replace h : _ = r0 := h
  subst h
  exact ⟨.inr rfl, _, .cons (.tmp rfl rfl) <| .nil, rfl⟩
end Go.Proofs

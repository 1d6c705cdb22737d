/- Walks: written by program. -/
import Derived.Test.YtacnidaafcfgiaaGreatFc
import Derived.Test.YtacnidaafcfgiaaGreatSh
import Derived.Test.YtacnidaafcfgiaaGreatSx
import Derived.Test.YtacnidaafcfgiaaGreatTl
import Derived.Test.YtacnidaafcfgiaaGreatSr
import Derived.Test.YtacnidaafcfgiaaGreatDr
import Derived.Test.YtacnidaafcfgiaaGreatW2
import Derived.Test.YtacnidaafcfgiaaGreatW5
import Derived.Test.YtacnidaafcfgiaaGreatW9
import Derived.Test.YtacnidaafcfgiaaGreatW12
namespace Go.Proofs
open Go.Ep
set_option maxHeartbeats 1000000
set_option maxRecDepth 100000
set_option linter.unusedVariables false
set_option linter.unusedSimpArgs false


theorem ctx_Size_ok (c1 : List TPart) (r0 : Int) (h : (ctx_Size c1).wp (· = r0)) : PFun Tryz.prog 34 [.d (.sl (List.map TPart.e c1))] (.d (.v (.int .u64 r0))) := by
  refine PFun.intro (sl := [(0, _)]) Tryz.func34 rfl Tryz.ntmps34 rfl rfl ?_
  intro ctx hK
  refine PWc.seq ?_
  refine PWc.region ?_
  refine PWl.step (LR.assign rfl) rfl ?_
  refine PWl.nil ?_
  refine PWc.seq ?_
  refine PWc.region ?_
  refine PWl.step (LR.assign rfl) rfl ?_
  refine PWl.nil ?_
  refine PWc.seq ?_
  refine PWc.seq ?_
  refine PWc.region ?_
  refine PWl.step (LR.move rfl) rfl ?_
  replace h := iDet h
  obtain ⟨v2, hy3, h⟩ := h
  refine PWl.step (LR.rowN (ctx_Norm_ok c1 v2 hy3) rfl Tryz.call20 rfl rfl rfl rfl) rfl ?_
  refine PWl.step (LR.lenRow Tryz.underlying23 rfl) rfl ?_
  refine PWl.step (LR.move rfl) rfl ?_
  refine PWl.nil ?_
  refine PWc.jn (iBind h) (fun (n4 : Int) (_ : Unit) => ⟨20, [(3, .d (.v (.int .u64 n4)))], []⟩) (fun h => ?_) ?_
  · refine PWc.block ?_
    refine PWc.loopM (fun (⟨n17, v18⟩ : Int × Int) (_ : Unit) => ⟨20, [(3, .d (.v (.int .u64 n17))), (7, .row 7 (List.length v2)), (8, .d (.v (.int .i64 ((List.length v2) : Int)))), (9, .d (.v (.int .i64 v18)))], [(7, .row 80 2 (List.map TPart.e v2))]⟩) () h (Sub.of rfl (.cons rfl rfl <| .cons rfl rfl <| .cons rfl rfl <| .cons rfl rfl <| .nil) (.cons rfl rfl <| .nil)) ?_
    rintro N ⟨n17, v18⟩ _ h
    refine PWc.seq ?_
    refine PWc.region ?_
    refine PWl.step (LR.lss rfl rfl) rfl ?_
    refine PWl.nil ?_
    refine PWc.seq ?_
    refine PWc.cond rfl (fun hc19 => ?_) (fun hc19 => ?_)
    · replace h := iT hc19 h
      refine PWc.skip ?_
      refine PWc.seq ?_
      refine PWc.block ?_
      refine PWc.seq ?_
      refine PWc.region ?_
      replace h := iIdx h
      obtain ⟨x20, hy21, h⟩ := h
      refine PWl.step (LR.idxRowT (L := v2) (y := x20) Tryz.underlying23 Tryz.sizeOf80 rfl rfl rfl hy21) rfl ?_
      refine PWl.step (LR.loadRpT (enc := TPart.e) (L := v2) (y := x20) Tryz.isAgg80 Tryz.sizeOf80 rfl rfl hy21.2) rfl ?_
      refine PWl.step (LR.allocZ (cs := [_, _]) Tryz.zeroValue80 rfl rfl rfl rfl) rfl ?_
      refine PWl.step (LR.storeB (ns := [_, _]) Tryz.sizeOf80 rfl rfl rfl rfl rfl rfl rfl) rfl ?_
      refine PWl.nil ?_
      refine PWc.region ?_
      refine PWl.step (LR.move rfl) rfl ?_
      refine PWl.step (LR.fieldRef Tryz.underlying80 rfl Tryz.sizeOf37 (by decide) rfl rfl) rfl ?_
      refine PWl.step (LR.loadRef Tryz.isAgg37 rfl rfl rfl) rfl ?_
      replace h := iDet h
      obtain ⟨v22, hy23, h⟩ := h
      refine PWl.step (LR.callN (runs_Size_ok x20.runs v22 hy23) rfl Tryz.call73 rfl rfl rfl rfl) rfl ?_
      refine PWl.step (LR.addW rfl rfl) rfl ?_
      refine PWl.step (LR.assign rfl) rfl ?_
      refine PWl.nil ?_
      refine PWc.region ?_
      refine PWl.step (LR.addW rfl rfl) rfl ?_
      refine PWl.step (LR.move rfl) rfl ?_
      refine PWl.nil ?_
      exact ⟨((IntKind.u64.wrap (n17 + v22)), (IntKind.i64.wrap (v18 + 1))), (), h, Sub.of rfl (.cons rfl rfl <| .cons rfl rfl <| .cons rfl rfl <| .cons rfl rfl <| .nil) (.cons rfl rfl <| .nil)⟩
    · replace h := iF hc19 h
      refine PWc.exit ?_
      exact ⟨n17, (), h, Sub.of rfl (.cons rfl rfl <| .nil) (.nil)⟩
  · rintro n4 _ h
    refine PWc.seq ?_
    refine PWc.region ?_
    refine PWl.step (LR.move rfl) rfl ?_
    refine PWl.step (LR.assign rfl) rfl ?_
    refine PWl.nil ?_
    refine PWc.ret ?_
    replace h : _ = r0 := h
    subst h
    exact ⟨.inr rfl, _, .cons (.tmp rfl rfl) <| .nil, rfl⟩

theorem r06_Norm_ok (l1 : List TRun) (r0 : List TRun) (h : (r06_Norm l1).wp (· = r0)) : PRow Tryz.prog 113 [.d (.sl (List.map TRun.e l1))] 89 2 (List.map TRun.e r0) := by
  refine PRow.intro (sl := [(0, _)]) Tryz.func113 rfl Tryz.ntmps113 rfl rfl ?_
  intro ctx hK
  refine PWc.seq ?_
  refine PWc.region ?_
  refine PWl.step (LR.assignNilRow 89 2 rfl) rfl ?_
  refine PWl.nil ?_
  refine PWc.seq ?_
  refine PWc.region ?_
  refine PWl.step (LR.move rfl) rfl ?_
  replace h := iDet h
  obtain ⟨v2, hy3, h⟩ := h
  refine PWl.step (LR.rowN (r06_set_ok l1 ([] : List TRun) 0 v2 hy3) rfl Tryz.call108 rfl rfl rfl rfl) rfl ?_
  refine PWl.re (tl := [(0, _), (3, _), (4, _)]) (to := [(4, _)]) rfl (.cons rfl rfl <| .cons rfl rfl <| .cons rfl rfl <| .nil) (.cons rfl rfl <| .nil) ?_
  refine PWl.step (LR.assign rfl) rfl ?_
  refine PWl.nil ?_
  refine PWc.ret ?_
  replace h : _ = r0 := h
  subst h
  exact ⟨.inr rfl, 2, rfl, .inr ⟨4, _, rfl, (by simp), rfl⟩⟩

theorem r06_Size_ok (l1 : List TRun) (r0 : Int) (h : (r06_Size l1).wp (· = r0)) : PFun Tryz.prog 74 [.d (.sl (List.map TRun.e l1))] (.d (.v (.int .u64 r0))) := by
  refine PFun.intro (sl := [(0, _)]) Tryz.func74 rfl Tryz.ntmps74 rfl rfl ?_
  intro ctx hK
  refine PWc.seq ?_
  refine PWc.region ?_
  refine PWl.step (LR.assign rfl) rfl ?_
  refine PWl.nil ?_
  refine PWc.seq ?_
  refine PWc.region ?_
  refine PWl.step (LR.move rfl) rfl ?_
  replace h := iDet h
  obtain ⟨v2, hy3, h⟩ := h
  refine PWl.step (LR.rowN (r06_Norm_ok l1 v2 hy3) rfl Tryz.call113 rfl rfl rfl rfl) rfl ?_
  refine PWl.step (LR.assign rfl) rfl ?_
  refine PWl.nil ?_
  refine PWc.seq ?_
  refine PWc.region ?_
  refine PWl.step (LR.assign rfl) rfl ?_
  refine PWl.nil ?_
  refine PWc.seq ?_
  refine PWc.seq ?_
  refine PWc.region ?_
  refine PWl.step (LR.assign rfl) rfl ?_
  refine PWl.nil ?_
  refine PWc.jn (iBind h) (fun (n4 : Int) (_ : Unit) => ⟨28, [(3, .d (.v (.int .u64 n4)))], []⟩) (fun h => ?_) ?_
  · refine PWc.block ?_
    refine PWc.loopM (fun (⟨n17, i18⟩ : Int × Int) (_ : Unit) => ⟨28, [(0, .row 6 (List.length v2)), (3, .d (.v (.int .u64 n17))), (4, .d (.v (.int .i64 i18)))], [(6, .row 89 2 (List.map TRun.e v2))]⟩) () h (Sub.of rfl (.cons rfl rfl <| .cons rfl rfl <| .cons rfl rfl <| .nil) (.cons rfl rfl <| .nil)) ?_
    rintro N ⟨n17, i18⟩ _ h
    refine PWc.seq ?_
    refine PWc.seq ?_
    refine PWc.region ?_
    refine PWl.step (LR.move rfl) rfl ?_
    refine PWl.step (LR.move rfl) rfl ?_
    refine PWl.step (LR.lenRow Tryz.underlying37 rfl) rfl ?_
    refine PWl.step (LR.lss rfl rfl) rfl ?_
    refine PWl.nil ?_
    refine PWc.cond rfl (fun hc19 => ?_) (fun hc19 => ?_)
    · replace h := iT hc19 h
      refine PWc.skip ?_
      refine PWc.seq ?_
      refine PWc.block ?_
      refine PWc.re (tl := [(0, _), (3, _), (4, _)]) (to := [(6, _)]) rfl (.cons rfl rfl <| .cons rfl rfl <| .cons rfl rfl <| .nil) (.cons rfl rfl <| .nil) ?_
      refine PWc.regionE [⟨[13], [], [], [], [], [], [], []⟩, ⟨[14], [], [], [], [], [6], [], []⟩, ⟨[15], [], [], [], [], [], [], []⟩, ⟨[16], [], [], [], [], [6], [], []⟩, ⟨[17], [], [], [], [], [6], [], []⟩, ⟨[18], [], [6], [], [], [], [], []⟩, ⟨[19], [], [], [], [], [], [], []⟩, ⟨[20], [], [], [], [], [6], [], []⟩, ⟨[21], [], [], [], [], [], [], []⟩, ⟨[22], [], [], [], [], [6], [], []⟩, ⟨[23], [], [], [], [], [6], [], []⟩, ⟨[24], [], [6], [], [], [], [], []⟩, ⟨[25], [], [], [], [], [], [], []⟩, ⟨[26], [], [], [], [], [], [], []⟩, ⟨[3], [], [], [], [], [], [], []⟩] (by kernel_rfl) (by kernel_rfl) rfl ?_
      refine PQe.stepP (fun _ he ho => LR.move (he rfl rfl)) (.inl rfl) rfl ?_
      refine PQe.stepP (fun _ he ho => LR.move (he rfl rfl)) (.inl rfl) rfl ?_
      refine PQe.stepP (fun _ he ho => LR.move (he rfl rfl)) (.inl rfl) rfl ?_
      replace h := iIdx h
      obtain ⟨x20, hy21, h⟩ := h
      refine PQe.stepP (fun _ he ho => LR.idxRowT (L := v2) (y := x20) Tryz.underlying37 Tryz.sizeOf89 (he rfl rfl) rfl (he rfl rfl) hy21) (.inl rfl) rfl ?_
      refine PQe.stepP (fun _ he ho => LR.fieldRp Tryz.underlying89 rfl Tryz.sizeOf30 (by decide) rfl (he rfl rfl)) (.inl rfl) rfl ?_
      refine PQe.stepP (fun _ he ho => LR.loadRpF (enc := TRun.e) (L := v2) (y := x20) Tryz.isAgg30 (he rfl rfl) (ho rfl rfl) hy21.2 rfl) (.inl rfl) rfl ?_
      refine PQe.stepP (fun _ he ho => LR.addW (he rfl rfl) (he rfl rfl)) (.inl rfl) rfl ?_
      refine PQe.stepP (fun _ he ho => LR.move (he rfl rfl)) (.inl rfl) rfl ?_
      refine PQe.stepP (fun _ he ho => LR.move (he rfl rfl)) (.inl rfl) rfl ?_
      replace h := iIdx h
      obtain ⟨x22, hy23, h⟩ := h
      refine PQe.stepP (fun _ he ho => LR.idxRowT (L := v2) (y := x22) Tryz.underlying37 Tryz.sizeOf89 (he rfl rfl) rfl (he rfl rfl) hy23) (.inl rfl) rfl ?_
      refine PQe.stepP (fun _ he ho => LR.fieldRp Tryz.underlying89 rfl Tryz.sizeOf30 (by decide) rfl (he rfl rfl)) (.inl rfl) rfl ?_
      refine PQe.stepP (fun _ he ho => LR.loadRpF (enc := TRun.e) (L := v2) (y := x22) Tryz.isAgg30 (he rfl rfl) (ho rfl rfl) hy23.2 rfl) (.inl rfl) rfl ?_
      refine PQe.stepP (fun _ he ho => LR.subW (he rfl rfl) (he rfl rfl)) (.inl rfl) rfl ?_
      refine PQe.stepP (fun _ he ho => LR.addW (he rfl rfl) (he rfl rfl)) (.inl rfl) rfl ?_
      refine PQe.stepP (fun _ he ho => LR.assign (he rfl rfl)) (.inl rfl) rfl ?_
      refine PQe.nil ?_
      refine PWc.region ?_
      refine PWl.step (LR.move rfl) rfl ?_
      refine PWl.step (LR.addW rfl rfl) rfl ?_
      refine PWl.step (LR.assign rfl) rfl ?_
      refine PWl.nil ?_
      exact ⟨((IntKind.u64.wrap (((IntKind.u64.wrap ((IntKind.u64.wrap (n17 + x20.hi)) - x22.lo))) + 1)), (IntKind.i64.wrap (i18 + 1))), (), h, Sub.of rfl (.cons rfl rfl <| .cons rfl rfl <| .cons rfl rfl <| .nil) (.cons rfl rfl <| .nil)⟩
    · replace h := iF hc19 h
      refine PWc.exit ?_
      exact ⟨n17, (), h, Sub.of rfl (.cons rfl rfl <| .nil) (.nil)⟩
  · rintro n4 _ h
    refine PWc.seq ?_
    refine PWc.region ?_
    refine PWl.step (LR.move rfl) rfl ?_
    refine PWl.step (LR.assign rfl) rfl ?_
    refine PWl.nil ?_
    refine PWc.ret ?_
    replace h : _ = r0 := h
    subst h
    exact ⟨.inr rfl, _, .cons (.tmp rfl rfl) <| .nil, rfl⟩

theorem r09_Size_ok (c1 : List TPart) (r0 : Int) (h : (r09_Size c1).wp (· = r0)) : PFun Tryz.prog 35 [.d (.sl (List.map TPart.e c1))] (.d (.v (.int .u64 r0))) := by
  refine PFun.intro (sl := [(0, _)]) Tryz.func35 rfl Tryz.ntmps35 rfl rfl ?_
  intro ctx hK
  refine PWc.seq ?_
  refine PWc.region ?_
  refine PWl.step (LR.assign rfl) rfl ?_
  refine PWl.nil ?_
  refine PWc.seq ?_
  refine PWc.region ?_
  refine PWl.step (LR.move rfl) rfl ?_
  replace h := iDet h
  obtain ⟨v2, hy3, h⟩ := h
  refine PWl.step (LR.rowN (r09_Norm_ok c1 v2 hy3) rfl Tryz.call21 rfl rfl rfl rfl) rfl ?_
  refine PWl.step (LR.assign rfl) rfl ?_
  refine PWl.nil ?_
  refine PWc.seq ?_
  refine PWc.region ?_
  refine PWl.step (LR.assign rfl) rfl ?_
  refine PWl.nil ?_
  refine PWc.seq ?_
  refine PWc.seq ?_
  refine PWc.region ?_
  refine PWl.step (LR.assign rfl) rfl ?_
  refine PWl.nil ?_
  refine PWc.jn (iBind h) (fun (n4 : Int) (_ : Unit) => ⟨22, [(3, .d (.v (.int .u64 n4)))], []⟩) (fun h => ?_) ?_
  · refine PWc.block ?_
    refine PWc.loopM (fun (⟨n17, i18⟩ : Int × Int) (_ : Unit) => ⟨22, [(0, .row 6 (List.length v2)), (3, .d (.v (.int .u64 n17))), (4, .d (.v (.int .i64 i18)))], [(6, .row 80 2 (List.map TPart.e v2))]⟩) () h (Sub.of rfl (.cons rfl rfl <| .cons rfl rfl <| .cons rfl rfl <| .nil) (.cons rfl rfl <| .nil)) ?_
    rintro N ⟨n17, i18⟩ _ h
    refine PWc.seq ?_
    refine PWc.seq ?_
    refine PWc.region ?_
    refine PWl.step (LR.move rfl) rfl ?_
    refine PWl.step (LR.move rfl) rfl ?_
    refine PWl.step (LR.lenRow Tryz.underlying23 rfl) rfl ?_
    refine PWl.step (LR.lss rfl rfl) rfl ?_
    refine PWl.nil ?_
    refine PWc.cond rfl (fun hc19 => ?_) (fun hc19 => ?_)
    · replace h := iT hc19 h
      refine PWc.skip ?_
      refine PWc.seq ?_
      refine PWc.block ?_
      refine PWc.region ?_
      refine PWl.step (LR.move rfl) rfl ?_
      refine PWl.step (LR.move rfl) rfl ?_
      refine PWl.step (LR.move rfl) rfl ?_
      replace h := iIdx h
      obtain ⟨x20, hy21, h⟩ := h
      refine PWl.step (LR.idxRowT (L := v2) (y := x20) Tryz.underlying23 Tryz.sizeOf80 rfl rfl rfl hy21) rfl ?_
      refine PWl.step (LR.fieldRp Tryz.underlying80 rfl Tryz.sizeOf37 (by decide) rfl rfl) rfl ?_
      refine PWl.step (LR.loadRpF (enc := TPart.e) (L := v2) (y := x20) Tryz.isAgg37 rfl rfl hy21.2 rfl) rfl ?_
      replace h := iDet h
      obtain ⟨v22, hy23, h⟩ := h
      refine PWl.step (LR.callN (r06_Size_ok x20.runs v22 hy23) rfl Tryz.call74 rfl rfl rfl rfl) rfl ?_
      refine PWl.step (LR.addW rfl rfl) rfl ?_
      refine PWl.step (LR.assign rfl) rfl ?_
      refine PWl.nil ?_
      refine PWc.region ?_
      refine PWl.step (LR.move rfl) rfl ?_
      refine PWl.step (LR.addW rfl rfl) rfl ?_
      refine PWl.step (LR.assign rfl) rfl ?_
      refine PWl.nil ?_
      exact ⟨((IntKind.u64.wrap (n17 + v22)), (IntKind.i64.wrap (i18 + 1))), (), h, Sub.of rfl (.cons rfl rfl <| .cons rfl rfl <| .cons rfl rfl <| .nil) (.cons rfl rfl <| .nil)⟩
    · replace h := iF hc19 h
      refine PWc.exit ?_
      exact ⟨n17, (), h, Sub.of rfl (.cons rfl rfl <| .nil) (.nil)⟩
  · rintro n4 _ h
    refine PWc.seq ?_
    refine PWc.region ?_
    refine PWl.step (LR.move rfl) rfl ?_
    refine PWl.step (LR.assign rfl) rfl ?_
    refine PWl.nil ?_
    refine PWc.ret ?_
    replace h : _ = r0 := h
    subst h
    exact ⟨.inr rfl, _, .cons (.tmp rfl rfl) <| .nil, rfl⟩

theorem r06_First_ok (l1 : List TRun) (r0 : Int) (h : (r06_First l1).wp (· = r0)) : PFun Tryz.prog 77 [.d (.sl (List.map TRun.e l1))] (.d (.v (.int .u64 r0))) := by
  refine PFun.intro (sl := [(0, _)]) Tryz.func77 rfl Tryz.ntmps77 rfl rfl ?_
  intro ctx hK
  refine PWc.seq ?_
  refine PWc.region ?_
  refine PWl.step (LR.assign rfl) rfl ?_
  refine PWl.nil ?_
  refine PWc.seq ?_
  refine PWc.region ?_
  refine PWl.step (LR.move rfl) rfl ?_
  replace h := iDet h
  obtain ⟨v2, hy3, h⟩ := h
  refine PWl.step (LR.rowN (r06_Norm_ok l1 v2 hy3) rfl Tryz.call113 rfl rfl rfl rfl) rfl ?_
  refine PWl.step (LR.assign rfl) rfl ?_
  refine PWl.nil ?_
  refine PWc.seq ?_
  refine PWc.seq ?_
  refine PWc.jn (iBind h) (fun (v4 : Bool) (_ : Unit) => ⟨20, [(0, .row 4 (List.length v2)), (14, .d (.v (.bool v4)))], [(4, .row 89 2 (List.map TRun.e v2))]⟩) (fun h => ?_) ?_
  · refine PWc.region ?_
    refine PWl.step (LR.move rfl) rfl ?_
    refine PWl.step (LR.lenRow Tryz.underlying37 rfl) rfl ?_
    refine PWl.step (LR.eql rfl rfl) rfl ?_
    refine PWl.step (LR.move rfl) rfl ?_
    refine PWl.split (d := 8) rfl (fun hg5 => ?_) (fun hg5 => ?_)
    · replace h := iT hg5 h
      refine PWl.guardF rfl rfl rfl (by decide) ?_
      refine PWl.guardF rfl rfl rfl (by decide) ?_
      refine PWl.guardF rfl rfl rfl (by decide) ?_
      refine PWl.guardF rfl rfl rfl (by decide) ?_
      refine PWl.guardF rfl rfl rfl (by decide) ?_
      refine PWl.step (LR.pickT rfl rfl) rfl ?_
      refine PWl.nil ?_
      exact ⟨true, (), h, Sub.of rfl (.cons rfl rfl <| .cons rfl rfl <| .nil) (.cons rfl rfl <| .nil)⟩
    · replace h := iF hg5 h
      refine PWl.guardT (LR.move rfl) rfl rfl rfl ?_
      replace h := iIdx h
      obtain ⟨x6, hy7, h⟩ := h
      refine PWl.guardT (LR.idxRowT (L := v2) (y := x6) Tryz.underlying37 Tryz.sizeOf89 rfl rfl rfl hy7) rfl rfl rfl ?_
      refine PWl.guardT (LR.fieldRp Tryz.underlying89 rfl Tryz.sizeOf30 (by decide) rfl rfl) rfl rfl rfl ?_
      refine PWl.guardT (LR.loadRpF (enc := TRun.e) (L := v2) (y := x6) Tryz.isAgg30 rfl rfl hy7.2 rfl) rfl rfl rfl ?_
      refine PWl.guardT (LR.neq rfl rfl) rfl rfl rfl ?_
      refine PWl.step (LR.pickF rfl rfl) rfl ?_
      refine PWl.nil ?_
      exact ⟨(!decide (x6.lo = 1)), (), h, Sub.of rfl (.cons rfl rfl <| .cons rfl rfl <| .nil) (.cons rfl rfl <| .nil)⟩
  · rintro v4 _ h
    refine PWc.cond rfl (fun hc8 => ?_) (fun hc8 => ?_)
    · replace h := iT hc8 h
      refine PWc.seq ?_
      refine PWc.region ?_
      refine PWl.step (LR.assign rfl) rfl ?_
      refine PWl.nil ?_
      refine PWc.ret ?_
      replace h : _ = r0 := h
      subst h
      exact ⟨.inr rfl, _, .cons (.tmp rfl rfl) <| .nil, rfl⟩
    · replace h := iF hc8 h
      refine PWc.skip ?_
      refine PWc.seq ?_
      refine PWc.region ?_
      refine PWl.step (LR.move rfl) rfl ?_
      replace h := iIdx h
      obtain ⟨x9, hy10, h⟩ := h
      refine PWl.step (LR.idxRowT (L := v2) (y := x9) Tryz.underlying37 Tryz.sizeOf89 rfl rfl rfl hy10) rfl ?_
      refine PWl.step (LR.fieldRp Tryz.underlying89 rfl Tryz.sizeOf30 (by decide) rfl rfl) rfl ?_
      refine PWl.step (LR.loadRpF (enc := TRun.e) (L := v2) (y := x9) Tryz.isAgg30 rfl rfl hy10.2 rfl) rfl ?_
      refine PWl.step (LR.addW rfl rfl) rfl ?_
      refine PWl.step (LR.assign rfl) rfl ?_
      refine PWl.nil ?_
      refine PWc.ret ?_
      replace h : _ = r0 := h
      subst h
      exact ⟨.inr rfl, _, .cons (.tmp rfl rfl) <| .nil, rfl⟩

theorem r09_Base_ok (c1 : List TPart) (r0 : List TDot) (h : (r09_Base c1).wp (· = r0)) : PRow Tryz.prog 38 [.d (.sl (List.map TPart.e c1))] 32 2 (List.map TDot.e r0) := by
  refine PRow.intro (sl := [(0, _)]) Tryz.func38 rfl Tryz.ntmps38 rfl rfl ?_
  intro ctx hK
  refine PWc.seq ?_
  refine PWc.region ?_
  refine PWl.step (LR.assignNilRow 32 2 rfl) rfl ?_
  refine PWl.nil ?_
  refine PWc.seq ?_
  refine PWc.region ?_
  refine PWl.step (LR.move rfl) rfl ?_
  replace h := iDet h
  obtain ⟨v2, hy3, h⟩ := h
  refine PWl.step (LR.rowN (r09_Norm_ok c1 v2 hy3) rfl Tryz.call21 rfl rfl rfl rfl) rfl ?_
  refine PWl.step (LR.assign rfl) rfl ?_
  refine PWl.nil ?_
  refine PWc.seq ?_
  refine PWc.region ?_
  refine PWl.step (LR.assignNilRow 32 2 rfl) rfl ?_
  refine PWl.nil ?_
  refine PWc.seq ?_
  refine PWc.seq ?_
  refine PWc.region ?_
  refine PWl.step (LR.assign rfl) rfl ?_
  refine PWl.nil ?_
  refine PWc.jn (iBind h) (fun (out4 : List TDot) (_ : Unit) => ⟨34, [(3, .row 3 (List.length out4))], [(3, .row 32 2 (List.map TDot.e out4))]⟩) (fun h => ?_) ?_
  · refine PWc.block ?_
    refine PWc.loopM (fun (⟨i27, out28⟩ : Int × List TDot) (_ : Unit) => ⟨34, [(0, .row 7 (List.length v2)), (3, .row 3 (List.length out28)), (4, .d (.v (.int .i64 i27)))], [(3, .row 32 2 (List.map TDot.e out28)), (7, .row 80 2 (List.map TPart.e v2))]⟩) () h (Sub.of rfl (.cons rfl rfl <| .cons rfl rfl <| .cons rfl rfl <| .nil) (.cons rfl rfl <| .cons rfl rfl <| .nil)) ?_
    rintro N ⟨i27, out28⟩ _ h
    refine PWc.seq ?_
    refine PWc.seq ?_
    refine PWc.region ?_
    refine PWl.step (LR.move rfl) rfl ?_
    refine PWl.step (LR.move rfl) rfl ?_
    refine PWl.step (LR.lenRow Tryz.underlying23 rfl) rfl ?_
    refine PWl.step (LR.lss rfl rfl) rfl ?_
    refine PWl.nil ?_
    refine PWc.cond rfl (fun hc29 => ?_) (fun hc29 => ?_)
    · replace h := iT hc29 h
      refine PWc.skip ?_
      refine PWc.seq ?_
      refine PWc.jn (iBind h) (fun (out30 : List TDot) (_ : Unit) => ⟨34, [(0, .row 7 (List.length v2)), (3, .row 3 (List.length out30)), (4, .d (.v (.int .i64 i27)))], [(3, .row 32 2 (List.map TDot.e out30)), (7, .row 80 2 (List.map TPart.e v2))]⟩) (fun h => ?_) ?_
      · refine PWc.block ?_
        refine PWc.seq ?_
        refine PWc.region ?_
        refine PWl.step (LR.move rfl) rfl ?_
        refine PWl.step (LR.move rfl) rfl ?_
        replace h := iIdx h
        obtain ⟨x31, hy32, h⟩ := h
        refine PWl.step (LR.idxRowT (L := v2) (y := x31) Tryz.underlying23 Tryz.sizeOf80 rfl rfl rfl hy32) rfl ?_
        refine PWl.step (LR.fieldRp Tryz.underlying80 rfl Tryz.sizeOf37 (by decide) rfl rfl) rfl ?_
        refine PWl.step (LR.loadRpF (enc := TPart.e) (L := v2) (y := x31) Tryz.isAgg37 rfl rfl hy32.2 rfl) rfl ?_
        replace h := iDet h
        obtain ⟨v33, hy34, h⟩ := h
        refine PWl.step (LR.callN (r06_First_ok x31.runs v33 hy34) rfl Tryz.call77 rfl rfl rfl rfl) rfl ?_
        refine PWl.step (LR.assign rfl) rfl ?_
        refine PWl.nil ?_
        refine PWc.seq ?_
        refine PWc.region ?_
        refine PWl.step (LR.move rfl) rfl ?_
        refine PWl.step (LR.gtr rfl rfl) rfl ?_
        refine PWl.nil ?_
        refine PWc.cond rfl (fun hc35 => ?_) (fun hc35 => ?_)
        · replace h := iT hc35 h
          refine PWc.region ?_
          refine PWl.step (LR.move rfl) rfl ?_
          refine PWl.step (LR.move rfl) rfl ?_
          refine PWl.step (LR.move rfl) rfl ?_
          replace h := iIdx h
          obtain ⟨x36, hy37, h⟩ := h
          refine PWl.step (LR.idxRowT (L := v2) (y := x36) Tryz.underlying23 Tryz.sizeOf80 rfl rfl rfl hy37) rfl ?_
          refine PWl.step (LR.fieldRp Tryz.underlying80 rfl Tryz.sizeOf29 (by decide) rfl rfl) rfl ?_
          refine PWl.re (tl := [(0, _), (3, _), (4, _), (5, _), (22, _), (26, _)]) (to := [(3, _), (7, _)]) rfl (.cons rfl rfl <| .cons rfl rfl <| .cons rfl rfl <| .cons rfl rfl <| .cons rfl rfl <| .cons rfl rfl <| .nil) (.cons rfl rfl <| .cons rfl rfl <| .nil) ?_
          refine PWl.step (LR.loadRpF (enc := TPart.e) (L := v2) (y := x36) Tryz.isAgg29 rfl rfl hy37.2 rfl) rfl ?_
          refine PWl.step (LR.move rfl) rfl ?_
          refine PWl.step (LR.subW rfl rfl) rfl ?_
          refine PWl.step (LR.build (ns := [_, _]) build32 rfl rfl rfl) rfl ?_
          refine PWl.step (LR.buildSliceD [.tmp 30] elem44 rfl rfl (.cons rfl rfl rfl <| .nil) (by decide) (by decide)) rfl ?_
          replace h := iNeed h
          obtain ⟨hy38, h⟩ := h
          refine PWl.step (LR.appT (enc := TDot.e) (L := out28) (R := [(⟨x36.dev, (IntKind.u64.wrap (v33 - 1))⟩ : TDot)]) [3, 22] elem44 Tryz.underlying44 rfl rfl rfl (Src.slT (enc := TDot.e) (R := [(⟨x36.dev, (IntKind.u64.wrap (v33 - 1))⟩ : TDot)]) rfl (fun _ => rfl)) (fun _ => rfl) hy38 rfl rfl) rfl ?_
          refine PWl.step (LR.assign rfl) rfl ?_
          refine PWl.nil ?_
          exact ⟨(out28 ++ [(⟨x36.dev, (IntKind.u64.wrap (v33 - 1))⟩ : TDot)]), (), h, Sub.of rfl (.cons rfl rfl <| .cons rfl (by first | rfl | (simp; done) | (congr 1; first | (simp; done) | (simp; omega))) <| .cons rfl rfl <| .nil) (.cons rfl rfl <| .cons rfl rfl <| .nil)⟩
        · replace h := iF hc35 h
          refine PWc.skip ?_
          exact ⟨out28, (), h, Sub.of rfl (.cons rfl rfl <| .cons rfl rfl <| .cons rfl rfl <| .nil) (.cons rfl rfl <| .cons rfl rfl <| .nil)⟩
      · rintro out30 _ h
        refine PWc.region ?_
        refine PWl.step (LR.move rfl) rfl ?_
        refine PWl.step (LR.addW rfl rfl) rfl ?_
        refine PWl.step (LR.assign rfl) rfl ?_
        refine PWl.nil ?_
        exact ⟨((IntKind.i64.wrap (i27 + 1)), out30), (), h, Sub.of rfl (.cons rfl rfl <| .cons rfl rfl <| .cons rfl rfl <| .nil) (.cons rfl rfl <| .cons rfl rfl <| .nil)⟩
    · replace h := iF hc29 h
      refine PWc.exit ?_
      exact ⟨out28, (), h, Sub.of rfl (.cons rfl rfl <| .nil) (.cons rfl rfl <| .nil)⟩
  · rintro out4 _ h
    refine PWc.seq ?_
    refine PWc.region ?_
    refine PWl.step (LR.move rfl) rfl ?_
    refine PWl.step (LR.assign rfl) rfl ?_
    refine PWl.nil ?_
    refine PWc.ret ?_
    replace h : _ = r0 := h
    subst h
    exact ⟨.inr rfl, 2, rfl, .inr ⟨3, _, rfl, (by simp), rfl⟩⟩
end Go.Proofs

/- Walks: written by program. -/
import Derived.Test.YtacnidaafcfgiaaDFc
import Derived.Test.YtacnidaafcfgiaaDSh
import Derived.Test.YtacnidaafcfgiaaDSx
import Derived.Test.YtacnidaafcfgiaaTl
import Derived.Test.YtacnidaafcfgiaaSr
import Derived.Test.YtacnidaafcfgiaaDr
import Derived.Test.YtacnidaafcfgiaaOb
import Derived.Test.YtacnidaafcfgiaaOe
import Derived.Test.YtacnidaafcfgiaaLs
import Derived.Test.YtacnidaafcfgiaaTl
import Derived.Test.YtacnidaafcfgiaaStr
import Derived.Test.YtacnidaafcfgiaaPc
import Derived.Test.YtacnidaafcfgiaaDW0
import Derived.Test.YtacnidaafcfgiaaDW1
import Derived.Test.YtacnidaafcfgiaaDW4
import Derived.Test.YtacnidaafcfgiaaDW6
namespace Go.Proofs
open Go.Ep
set_option maxHeartbeats 1000000
set_option maxRecDepth 100000
set_option linter.unusedVariables false
set_option linter.unusedSimpArgs false


theorem r29_Replay_ok (l1 : List TEvent) (dev2 : Int) (to3 : List TPart) (r0 : List TEvent) (h : (r29_Replay l1 dev2 to3).wp (· = r0)) : PRow Try.prog 21 [.d (.sl (List.map TEvent.e l1)), .d (.v (.int .u16 dev2)), .d (.sl (List.map TPart.e to3))] 41 7 (List.map TEvent.e r0) := by
  refine PRow.intro (sl := [(0, _), (1, _), (2, _)]) Try.func21 rfl Try.ntmps21 rfl rfl ?_
  intro ctx hK
  refine PWc.seq ?_
  refine PWc.region ?_
  refine PWl.step (LR.assignNilRow 41 7 rfl) rfl ?_
  refine PWl.nil ?_
  refine PWc.seq ?_
  refine PWc.region ?_
  refine PWl.step (LR.assignNilRow 41 7 rfl) rfl ?_
  refine PWl.nil ?_
  refine PWc.seq ?_
  refine PWc.seq ?_
  refine PWc.region ?_
  refine PWl.step (LR.assign rfl) rfl ?_
  refine PWl.nil ?_
  refine PWc.jn (iBind h) (fun (out4 : List TEvent) (_ : Unit) => ⟨36, [(7, .row 7 (List.length out4))], [(7, .row 41 7 (List.map TEvent.e out4))]⟩) (fun h => ?_) ?_
  · refine PWc.block ?_
    refine PWc.loopM (fun (⟨i19, out20⟩ : Int × List TEvent) (_ : Unit) => ⟨36, [(0, .d (.sl (List.map TEvent.e l1))), (1, .d (.v (.int .u16 dev2))), (2, .d (.sl (List.map TPart.e to3))), (7, .row 7 (List.length out20)), (8, .d (.v (.int .i64 i19)))], [(7, .row 41 7 (List.map TEvent.e out20))]⟩) () h (Sub.of rfl (.cons rfl rfl <| .cons rfl rfl <| .cons rfl rfl <| .cons rfl rfl <| .cons rfl rfl <| .nil) (.cons rfl rfl <| .nil)) ?_
    rintro N ⟨i19, out20⟩ _ h
    refine PWc.seq ?_
    refine PWc.seq ?_
    refine PWc.region ?_
    refine PWl.step (LR.move rfl) rfl ?_
    refine PWl.step (LR.move rfl) rfl ?_
    refine PWl.step (LR.lenMap (enc := TEvent.e) (L := l1) Try.underlying22 rfl) rfl ?_
    refine PWl.step (LR.lss rfl rfl) rfl ?_
    refine PWl.nil ?_
    refine PWc.cond rfl (fun hc21 => ?_) (fun hc21 => ?_)
    · replace h := iT hc21 h
      refine PWc.skip ?_
      refine PWc.seq ?_
      refine PWc.block ?_
      refine PWc.seq ?_
      refine PWc.region ?_
      refine PWl.step (LR.move rfl) rfl ?_
      refine PWl.step (LR.move rfl) rfl ?_
      replace h := iIdx h
      obtain ⟨x22, hy23, h⟩ := h
      refine PWl.step (LR.idxT (enc := TEvent.e) (L := l1) (y := x22) Try.underlying22 Try.sizeOf41 rfl rfl hy23 (fun _ => rfl)) rfl ?_
      refine PWl.step (LR.loadEpAgg (ys := [_, _, _, _, _, _, _]) Try.isAgg41 Try.sizeOf41 rfl rfl rfl) rfl ?_
      refine PWl.step (LR.allocZ (cs := [_, _, _, _, _, _, _]) Try.zeroValue41 rfl rfl rfl rfl) rfl ?_
      refine PWl.step (LR.storeB (ns := [_, _, _, _, _, _, _]) Try.sizeOf41 rfl rfl rfl rfl rfl rfl rfl) rfl ?_
      refine PWl.nil ?_
      refine PWc.seq ?_
      refine PWc.region ?_
      refine PWl.step (LR.move rfl) rfl ?_
      refine PWl.step (LR.move rfl) rfl ?_
      refine PWl.step (LR.convInt Try.underlying36 (by rw [Try.underlying3]; rfl) rfl rfl) rfl ?_
      refine PWl.step (LR.addW rfl rfl) rfl ?_
      refine PWl.step (LR.build (ns := [_, _]) build38 rfl rfl rfl) rfl ?_
      refine PWl.step (LR.fieldRef Try.underlying41 rfl Try.sizeOf38 (by decide) rfl rfl) rfl ?_
      refine PWl.step (LR.storeB (ns := [_, _, _, _, _, _, _]) Try.sizeOf38 rfl rfl rfl rfl rfl rfl rfl) rfl ?_
      refine PWl.nil ?_
      refine PWc.seq ?_
      refine PWc.region ?_
      refine PWl.step (LR.fieldRef Try.underlying41 rfl Try.sizeOf39 (by decide) rfl rfl) rfl ?_
      refine PWl.re (tl := [(0, _), (1, _), (2, _), (7, _), (8, _), (9, _), (26, _)]) (to := [(7, _), (9, _)]) rfl (.cons rfl rfl <| .cons rfl rfl <| .cons rfl rfl <| .cons rfl rfl <| .cons rfl rfl <| .cons rfl rfl <| .cons rfl rfl <| .nil) (.cons rfl rfl <| .cons rfl rfl <| .nil) ?_
      refine PWl.step (LR.loadRef Try.isAgg39 rfl rfl rfl) rfl ?_
      refine PWl.step (LR.move rfl) rfl ?_
      replace h := iDet h
      obtain ⟨v24, hy25, h⟩ := h
      refine PWl.step (LR.callN (r17_Keep_ok x22.kills to3 v24 hy25) rfl Try.call72 rfl rfl rfl rfl) rfl ?_
      refine PWl.step (LR.fieldRef Try.underlying41 rfl Try.sizeOf39 (by decide) rfl rfl) rfl ?_
      refine PWl.step (LR.storeB (ns := [_, _, _, _, _, _, _]) Try.sizeOf39 rfl rfl rfl rfl rfl rfl rfl) rfl ?_
      refine PWl.nil ?_
      refine PWc.region ?_
      refine PWl.step (LR.move rfl) rfl ?_
      refine PWl.step (LR.loadRefAgg (ps := [_, _, _, _, _, _, _]) Try.isAgg41 Try.sizeOf41 rfl rfl rfl rfl) rfl ?_
      refine PWl.step (LR.buildSliceD [.tmp 32] elem22 rfl rfl (.cons rfl rfl rfl <| .nil) (by decide) (by decide)) rfl ?_
      replace h := iNeed h
      obtain ⟨hy26, h⟩ := h
      refine PWl.step (LR.appT (enc := TEvent.e) (L := out20) (R := [(⟨(⟨dev2, (IntKind.u64.wrap ((IntKind.u64.wrap i19) + 1))⟩ : TDot), x22.kind, x22.cid, x22.field, x22.text, v24⟩ : TEvent)]) [7, 31] elem22 Try.underlying22 rfl rfl rfl (Src.slT (enc := TEvent.e) (R := [(⟨(⟨dev2, (IntKind.u64.wrap ((IntKind.u64.wrap i19) + 1))⟩ : TDot), x22.kind, x22.cid, x22.field, x22.text, v24⟩ : TEvent)]) rfl (fun _ => rfl)) (fun _ => rfl) hy26 rfl rfl) rfl ?_
      refine PWl.step (LR.assign rfl) rfl ?_
      refine PWl.nil ?_
      refine PWc.region ?_
      refine PWl.step (LR.move rfl) rfl ?_
      refine PWl.step (LR.addW rfl rfl) rfl ?_
      refine PWl.step (LR.assign rfl) rfl ?_
      refine PWl.nil ?_
      exact ⟨((IntKind.i64.wrap (i19 + 1)), (out20 ++ [(⟨(⟨dev2, (IntKind.u64.wrap ((IntKind.u64.wrap i19) + 1))⟩ : TDot), x22.kind, x22.cid, x22.field, x22.text, v24⟩ : TEvent)])), (), h, Sub.of rfl (.cons rfl rfl <| .cons rfl rfl <| .cons rfl rfl <| .cons rfl (by first | rfl | (simp; done) | (congr 1; first | (simp; done) | (simp; omega))) <| .cons rfl rfl <| .nil) (.cons rfl rfl <| .nil)⟩
    · replace h := iF hc21 h
      refine PWc.exit ?_
      exact ⟨out20, (), h, Sub.of rfl (.cons rfl rfl <| .nil) (.cons rfl rfl <| .nil)⟩
  · rintro out4 _ h
    refine PWc.seq ?_
    refine PWc.region ?_
    refine PWl.step (LR.move rfl) rfl ?_
    refine PWl.step (LR.assign rfl) rfl ?_
    refine PWl.nil ?_
    refine PWc.ret ?_
    replace h : _ = r0 := h
    subst h
    exact ⟨.inr rfl, 6, rfl, .inr ⟨7, _, rfl, (by simp), rfl⟩⟩

theorem l29_OutboxParts_ok (l1 : List TEvent) (pick2 : Int) (to3 : List TPart) (r0 : Bool) (h : (l29_OutboxParts l1 pick2 to3).wp (· = r0)) : PFun Try.prog 3 [.d (.sl (List.map TEvent.e l1)), .d (.v (.int .i64 pick2)), .d (.sl (List.map TPart.e to3))] (.d (.v (.bool r0))) := by
  refine PFun.intro (sl := [(0, _), (1, _), (2, _)]) Try.func3 rfl Try.ntmps3 rfl rfl ?_
  intro ctx hK
  refine PWc.seq ?_
  refine PWc.region ?_
  refine PWl.step (LR.assign rfl) rfl ?_
  refine PWl.nil ?_
  refine PWc.seq ?_
  refine PWc.seq ?_
  refine PWc.jn (iBind h) (fun (v4 : Bool) (_ : Unit) => ⟨47, [(0, .d (.sl (List.map TEvent.e l1))), (1, .d (.v (.int .i64 pick2))), (2, .d (.sl (List.map TPart.e to3))), (15, .d (.v (.bool v4)))], []⟩) (fun h => ?_) ?_
  · refine PWc.region ?_
    refine PWl.step (LR.move rfl) rfl ?_
    replace h := iDet h
    obtain ⟨v5, hy6, h⟩ := h
    refine PWl.step (LR.callN (r13_Few_ok l1 30 v5 hy6) rfl Try.call12 rfl rfl rfl rfl) rfl ?_
    refine PWl.step (LR.not rfl) rfl ?_
    refine PWl.step (LR.move rfl) rfl ?_
    refine PWl.split (d := 11) rfl (fun hg7 => ?_) (fun hg7 => ?_)
    · replace h := iT hg7 h
      refine PWl.guardF rfl rfl rfl (by decide) ?_
      refine PWl.guardF rfl rfl rfl (by decide) ?_
      refine PWl.guardF rfl rfl rfl (by decide) ?_
      refine PWl.step (LR.pickT rfl rfl) rfl ?_
      refine PWl.nil ?_
      exact ⟨true, (), h, Sub.of rfl (.cons rfl rfl <| .cons rfl rfl <| .cons rfl rfl <| .cons rfl rfl <| .nil) (.nil)⟩
    · replace h := iF hg7 h
      refine PWl.guardT (LR.move rfl) rfl rfl rfl ?_
      replace h := iDet h
      obtain ⟨v8, hy9, h⟩ := h
      refine PWl.guardT (LR.callN (r09_Few_ok to3 v8 hy9) rfl Try.call13 rfl rfl rfl rfl) rfl rfl rfl ?_
      refine PWl.guardT (LR.not rfl) rfl rfl rfl ?_
      refine PWl.step (LR.pickF rfl rfl) rfl ?_
      refine PWl.nil ?_
      exact ⟨(!v8), (), h, Sub.of rfl (.cons rfl rfl <| .cons rfl rfl <| .cons rfl rfl <| .cons rfl rfl <| .nil) (.nil)⟩
  · rintro v4 _ h
    refine PWc.cond rfl (fun hc10 => ?_) (fun hc10 => ?_)
    · replace h := iT hc10 h
      refine PWc.seq ?_
      refine PWc.region ?_
      replace h := iDet h
      obtain ⟨v11, hy12, h⟩ := h
      refine PWl.step (LR.callN (l29_works_ok v11 hy12) rfl Try.call14 rfl rfl rfl rfl) rfl ?_
      refine PWl.step (LR.assign rfl) rfl ?_
      refine PWl.nil ?_
      refine PWc.ret ?_
      replace h : _ = r0 := h
      subst h
      exact ⟨.inr rfl, _, .cons (.tmp rfl rfl) <| .nil, rfl⟩
    · replace h := iF hc10 h
      refine PWc.skip ?_
      refine PWc.seq ?_
      refine PWc.region ?_
      refine PWl.step (LR.move rfl) rfl ?_
      refine PWl.step (LR.convInt Try.underlying28 (by rw [Try.underlying3]; rfl) rfl rfl) rfl ?_
      refine PWl.step (LR.assign rfl) rfl ?_
      refine PWl.nil ?_
      refine PWc.seq ?_
      refine PWc.jn (iBind h) (fun (v13 : Bool) (_ : Unit) => ⟨47, [(6, .d (.v (.bool v13)))], []⟩) (fun h => ?_) ?_
      · refine PWc.region ?_
        refine PWl.step (LR.move rfl) rfl ?_
        replace h := iDet h
        obtain ⟨v14, hy15, h⟩ := h
        refine PWl.step (LR.callN (outbox_Batches_ok l1 v14 hy15) rfl Try.call15 rfl rfl rfl rfl) rfl ?_
        refine PWl.step (LR.move rfl) rfl ?_
        replace h := iDet h
        obtain ⟨v16, hy17, h⟩ := h
        refine PWl.step (LR.callN (r29_Batches_ok l1 v16 hy17) rfl Try.call16 rfl rfl rfl rfl) rfl ?_
        refine PWl.step (LR.eql rfl rfl) rfl ?_
        refine PWl.step (LR.move rfl) rfl ?_
        refine PWl.split (d := 24) rfl (fun hg18 => ?_) (fun hg18 => ?_)
        · replace h := iT hg18 h
          refine PWl.guardT (LR.move rfl) rfl rfl rfl ?_
          refine PWl.guardT (LR.move rfl) rfl rfl rfl ?_
          replace h := iDet h
          obtain ⟨v19, hy20, h⟩ := h
          refine PWl.guardT (LR.rowN (outbox_Batch_ok l1 pick2 v19 hy20) rfl Try.call18 rfl rfl rfl rfl) rfl rfl rfl ?_
          refine PWl.guardT (LR.move rfl) rfl rfl rfl ?_
          refine PWl.guardT (LR.move rfl) rfl rfl rfl ?_
          replace h := iDet h
          obtain ⟨v21, hy22, h⟩ := h
          refine PWl.guardT (LR.rowN (r29_Batch_ok l1 pick2 v21 hy22) rfl Try.call19 rfl rfl rfl rfl) rfl rfl rfl ?_
          replace h := iDet h
          obtain ⟨v23, hy24, h⟩ := h
          refine PWl.frz [27] hK (.cons rfl <| .nil) rfl (by simp) ?_
          refine PWl.frz [30] hK (.cons rfl <| .nil) rfl (by simp) ?_
          refine PWl.guardT (LR.callN (r13_All_ok v19 v21 v23 hy24) rfl Try.call17 rfl rfl rfl rfl) rfl rfl rfl ?_
          refine PWl.re (tl := [(0, _), (2, _), (7, _), (24, _), (31, _)]) (to := []) rfl (.cons rfl rfl <| .cons rfl rfl <| .cons rfl rfl <| .cons rfl rfl <| .cons rfl rfl <| .nil) (.nil) ?_
          refine PWl.step (LR.pickT rfl rfl) rfl ?_
          refine PWl.step (LR.move rfl) rfl ?_
          refine PWl.split (d := 33) rfl (fun hg25 => ?_) (fun hg25 => ?_)
          · replace h := iT hg25 h
            refine PWl.guardT (LR.move rfl) rfl rfl rfl ?_
            refine PWl.guardT (LR.move rfl) rfl rfl rfl ?_
            refine PWl.guardT (LR.move rfl) rfl rfl rfl ?_
            replace h := iDet h
            obtain ⟨v26, hy27, h⟩ := h
            refine PWl.guardT (LR.rowN (outbox_Replay_ok l1 (IntKind.u16.wrap pick2) to3 v26 hy27) rfl Try.call20 rfl rfl rfl rfl) rfl rfl rfl ?_
            refine PWl.guardT (LR.move rfl) rfl rfl rfl ?_
            refine PWl.guardT (LR.move rfl) rfl rfl rfl ?_
            refine PWl.guardT (LR.move rfl) rfl rfl rfl ?_
            replace h := iDet h
            obtain ⟨v28, hy29, h⟩ := h
            refine PWl.guardT (LR.rowN (r29_Replay_ok l1 (IntKind.u16.wrap pick2) to3 v28 hy29) rfl Try.call21 rfl rfl rfl rfl) rfl rfl rfl ?_
            replace h := iDet h
            obtain ⟨v30, hy31, h⟩ := h
            refine PWl.frz [37] hK (.cons rfl <| .nil) rfl (by simp) ?_
            refine PWl.frz [41] hK (.cons rfl <| .nil) rfl (by simp) ?_
            refine PWl.guardT (LR.callN (r13_All_ok v26 v28 v30 hy31) rfl Try.call17 rfl rfl rfl rfl) rfl rfl rfl ?_
            refine PWl.step (LR.pickT rfl rfl) rfl ?_
            refine PWl.step (LR.move rfl) rfl ?_
            refine PWl.split (d := 44) rfl (fun hg32 => ?_) (fun hg32 => ?_)
            · replace h := iT hg32 h
              replace h := iDet h
              obtain ⟨v33, hy34, h⟩ := h
              refine PWl.guardT (LR.callN (l29_works_ok v33 hy34) rfl Try.call14 rfl rfl rfl rfl) rfl rfl rfl ?_
              refine PWl.re (tl := [(44, _), (45, _)]) (to := []) rfl (.cons rfl rfl <| .cons rfl rfl <| .nil) (.nil) ?_
              refine PWl.step (LR.pickT rfl rfl) rfl ?_
              refine PWl.step (LR.assign rfl) rfl ?_
              refine PWl.nil ?_
              exact ⟨v33, (), h, Sub.of rfl (.cons rfl rfl <| .nil) (.nil)⟩
            · replace h := iF hg32 h
              refine PWl.guardF rfl rfl rfl (by decide) ?_
              refine PWl.re (tl := [(44, _), (45, _)]) (to := []) rfl (.cons rfl rfl <| .cons rfl rfl <| .nil) (.nil) ?_
              refine PWl.step (LR.pickF rfl rfl) rfl ?_
              refine PWl.step (LR.assign rfl) rfl ?_
              refine PWl.nil ?_
              exact ⟨false, (), h, Sub.of rfl (.cons rfl rfl <| .nil) (.nil)⟩
          · replace h := iF hg25 h
            refine PWl.guardF rfl rfl rfl (by decide) ?_
            refine PWl.guardF rfl rfl rfl (by decide) ?_
            refine PWl.guardF rfl rfl rfl (by decide) ?_
            refine PWl.guardF rfl rfl rfl (by decide) ?_
            refine PWl.guardF rfl rfl rfl (by decide) ?_
            refine PWl.guardF rfl rfl rfl (by decide) ?_
            refine PWl.guardF rfl rfl rfl (by decide) ?_
            refine PWl.guardF rfl rfl rfl (by decide) ?_
            refine PWl.guardF rfl rfl rfl (by decide) ?_
            refine PWl.step (LR.pickF rfl rfl) rfl ?_
            refine PWl.step (LR.move rfl) rfl ?_
            refine PWl.guardF rfl rfl rfl (by decide) ?_
            refine PWl.step (LR.pickF rfl rfl) rfl ?_
            refine PWl.re (tl := [(46, _)]) (to := []) rfl (.cons rfl rfl <| .nil) (.nil) ?_
            refine PWl.step (LR.assign rfl) rfl ?_
            refine PWl.nil ?_
            exact ⟨false, (), h, Sub.of rfl (.cons rfl rfl <| .nil) (.nil)⟩
        · replace h := iF hg18 h
          refine PWl.guardF rfl rfl rfl (by decide) ?_
          refine PWl.guardF rfl rfl rfl (by decide) ?_
          refine PWl.guardF rfl rfl rfl (by decide) ?_
          refine PWl.guardF rfl rfl rfl (by decide) ?_
          refine PWl.guardF rfl rfl rfl (by decide) ?_
          refine PWl.guardF rfl rfl rfl (by decide) ?_
          refine PWl.guardF rfl rfl rfl (by decide) ?_
          refine PWl.re (tl := [(0, _), (2, _), (7, _), (24, _), (31, _)]) (to := []) rfl (.cons rfl rfl <| .cons rfl rfl <| .cons rfl rfl <| .cons rfl rfl <| .cons rfl rfl <| .nil) (.nil) ?_
          refine PWl.step (LR.pickF rfl rfl) rfl ?_
          refine PWl.step (LR.move rfl) rfl ?_
          refine PWl.guardF rfl rfl rfl (by decide) ?_
          refine PWl.guardF rfl rfl rfl (by decide) ?_
          refine PWl.guardF rfl rfl rfl (by decide) ?_
          refine PWl.guardF rfl rfl rfl (by decide) ?_
          refine PWl.guardF rfl rfl rfl (by decide) ?_
          refine PWl.guardF rfl rfl rfl (by decide) ?_
          refine PWl.guardF rfl rfl rfl (by decide) ?_
          refine PWl.guardF rfl rfl rfl (by decide) ?_
          refine PWl.guardF rfl rfl rfl (by decide) ?_
          refine PWl.step (LR.pickF rfl rfl) rfl ?_
          refine PWl.step (LR.move rfl) rfl ?_
          refine PWl.guardF rfl rfl rfl (by decide) ?_
          refine PWl.step (LR.pickF rfl rfl) rfl ?_
          refine PWl.step (LR.assign rfl) rfl ?_
          refine PWl.nil ?_
          exact ⟨false, (), h, Sub.of rfl (.cons rfl rfl <| .nil) (.nil)⟩
      · rintro v13 _ h
        refine PWc.ret ?_
        replace h : _ = r0 := h
        subst h
        exact ⟨.inr rfl, _, .cons (.tmp rfl rfl) <| .nil, rfl⟩

theorem l15_equal_ok (a1 : List Int) (b2 : List Int) (r0 : Bool) (h : (l15_equal a1 b2).wp (· = r0)) : PFun Try.prog 29 [.d (.sl (List.map (eK .u8) a1)), .d (.sl (List.map (eK .u8) b2))] (.d (.v (.bool r0))) := by
  refine PFun.intro (sl := [(0, _), (1, _)]) Try.func29 rfl Try.ntmps29 rfl rfl ?_
  intro ctx hK
  refine PWc.seq ?_
  refine PWc.region ?_
  refine PWl.step (LR.assign rfl) rfl ?_
  refine PWl.nil ?_
  refine PWc.seq ?_
  refine PWc.region ?_
  refine PWl.step (LR.move rfl) rfl ?_
  refine PWl.step (LR.bytesStr Try.underlying45 Try.underlying5 Try.underlying9 rfl) rfl ?_
  refine PWl.step (LR.move rfl) rfl ?_
  refine PWl.step (LR.bytesStr Try.underlying45 Try.underlying5 Try.underlying9 rfl) rfl ?_
  refine PWl.step (LR.eqlStr rfl rfl) rfl ?_
  refine PWl.step (LR.assign rfl) rfl ?_
  refine PWl.nil ?_
  refine PWc.ret ?_
  replace h : _ = r0 := h
  subst h
  exact ⟨.inr rfl, _, .cons (.tmp rfl rfl) <| .nil, rfl⟩

theorem shift_Len_ok (v1 : Int) (r0 : Int) (h : (shift_Len v1).wp (· = r0)) : PFun Try.prog 161 [.d (.v (.int .u64 v1))] (.d (.v (.int .i64 r0))) := by
  refine PFun.intro (sl := [(0, _)]) Try.func161 rfl Try.ntmps161 rfl rfl ?_
  intro ctx hK
  refine PWc.seq ?_
  refine PWc.region ?_
  refine PWl.step (LR.assign rfl) rfl ?_
  refine PWl.nil ?_
  refine PWc.seq ?_
  refine PWc.region ?_
  refine PWl.step (LR.assign rfl) rfl ?_
  refine PWl.nil ?_
  refine PWc.seq ?_
  refine PWc.jn (iBind h) (fun (n2 : Int) (_ : Unit) => ⟨11, [(3, .d (.v (.int .i64 n2)))], []⟩) (fun h => ?_) ?_
  · refine PWc.block ?_
    refine PWc.loopM (fun (⟨v7, n8⟩ : Int × Int) (_ : Unit) => ⟨11, [(0, .d (.v (.int .u64 v7))), (3, .d (.v (.int .i64 n8)))], []⟩) () h (Sub.of rfl (.cons rfl rfl <| .cons rfl rfl <| .nil) (.nil)) ?_
    rintro N ⟨v7, n8⟩ _ h
    refine PWc.seq ?_
    refine PWc.seq ?_
    refine PWc.region ?_
    refine PWl.step (LR.move rfl) rfl ?_
    refine PWl.step (LR.gtr rfl rfl) rfl ?_
    refine PWl.nil ?_
    refine PWc.cond rfl (fun hc9 => ?_) (fun hc9 => ?_)
    · replace h := iT hc9 h
      refine PWc.skip ?_
      refine PWc.seq ?_
      refine PWc.block ?_
      refine PWc.region ?_
      refine PWl.step (LR.move rfl) rfl ?_
      refine PWl.step (LR.addW rfl rfl) rfl ?_
      refine PWl.step (LR.assign rfl) rfl ?_
      refine PWl.nil ?_
      refine PWc.region ?_
      refine PWl.step (LR.move rfl) rfl ?_
      refine PWl.step (LR.shr rfl rfl (by decide) rfl) rfl ?_
      refine PWl.step (LR.assign rfl) rfl ?_
      refine PWl.nil ?_
      exact ⟨((Int.fdiv v7 (2 ^ 8)), (IntKind.i64.wrap (n8 + 1))), (), h, Sub.of rfl (.cons rfl rfl <| .cons rfl rfl <| .nil) (.nil)⟩
    · replace h := iF hc9 h
      refine PWc.exit ?_
      exact ⟨n8, (), h, Sub.of rfl (.cons rfl rfl <| .nil) (.nil)⟩
  · rintro n2 _ h
    refine PWc.seq ?_
    refine PWc.region ?_
    refine PWl.step (LR.move rfl) rfl ?_
    refine PWl.step (LR.assign rfl) rfl ?_
    refine PWl.nil ?_
    refine PWc.ret ?_
    replace h : _ = r0 := h
    subst h
    exact ⟨.inr rfl, _, .cons (.tmp rfl rfl) <| .nil, rfl⟩

theorem shift_Byte_ok (v1 : Int) (i2 : Int) (r0 : Int) (h : (shift_Byte v1 i2).wp (· = r0)) : PFun Try.prog 162 [.d (.v (.int .u64 v1)), .d (.v (.int .i64 i2))] (.d (.v (.int .u8 r0))) := by
  refine PFun.intro (sl := [(0, _), (1, _)]) Try.func162 rfl Try.ntmps162 rfl rfl ?_
  intro ctx hK
  refine PWc.seq ?_
  refine PWc.region ?_
  refine PWl.step (LR.assign rfl) rfl ?_
  refine PWl.nil ?_
  refine PWc.seq ?_
  refine PWc.seq ?_
  refine PWc.region ?_
  refine PWl.step (LR.move rfl) rfl ?_
  refine PWl.step (LR.convInt Try.underlying184 (by rw [Try.underlying3]; rfl) rfl rfl) rfl ?_
  refine PWl.step (LR.gtr rfl rfl) rfl ?_
  refine PWl.nil ?_
  refine PWc.cond rfl (fun hc3 => ?_) (fun hc3 => ?_)
  · replace h := iT hc3 h
    refine PWc.seq ?_
    refine PWc.region ?_
    refine PWl.step (LR.assign rfl) rfl ?_
    refine PWl.nil ?_
    refine PWc.ret ?_
    replace h : _ = r0 := h
    subst h
    exact ⟨.inr rfl, _, .cons (.tmp rfl rfl) <| .nil, rfl⟩
  · replace h := iF hc3 h
    refine PWc.skip ?_
    refine PWc.seq ?_
    refine PWc.region ?_
    refine PWl.step (LR.move rfl) rfl ?_
    refine PWl.step (LR.move rfl) rfl ?_
    refine PWl.step (LR.convInt Try.underlying184 (by rw [Try.underlying3]; rfl) rfl rfl) rfl ?_
    refine PWl.step (LR.mulW rfl rfl) rfl ?_
    replace h := iNeed h
    obtain ⟨hy4, h⟩ := h
    refine PWl.step (LR.shr rfl rfl hy4 rfl) rfl ?_
    refine PWl.step (LR.convInt Try.underlying5 (by rw [Try.underlying36]; rfl) rfl rfl) rfl ?_
    refine PWl.step (LR.assign rfl) rfl ?_
    refine PWl.nil ?_
    refine PWc.ret ?_
    replace h : _ = r0 := h
    subst h
    exact ⟨.inr rfl, _, .cons (.tmp rfl rfl) <| .nil, rfl⟩

theorem num_Append_ok (b1 : List Int) (v2 : Int) (r0 : List Int) (h : (num_Append b1 v2).wp (· = r0)) : PRow Try.prog 127 [.d (.sl (List.map (eK .u8) b1)), .d (.v (.int .u64 v2))] 5 1 (List.map (eK .u8) r0) := by
  refine PRow.intro (sl := [(0, _), (1, _)]) Try.func127 rfl Try.ntmps127 rfl rfl ?_
  intro ctx hK
  refine PWc.seq ?_
  refine PWc.region ?_
  refine PWl.step (LR.assignNilRow 5 1 rfl) rfl ?_
  refine PWl.nil ?_
  refine PWc.seq ?_
  refine PWc.region ?_
  refine PWl.step (LR.move rfl) rfl ?_
  replace h := iDet h
  obtain ⟨v3, hy4, h⟩ := h
  refine PWl.step (LR.callN (shift_Len_ok v2 v3 hy4) rfl Try.call161 rfl rfl rfl rfl) rfl ?_
  refine PWl.step (LR.assign rfl) rfl ?_
  refine PWl.nil ?_
  refine PWc.seq ?_
  refine PWc.region ?_
  refine PWl.step (LR.move rfl) rfl ?_
  refine PWl.step (LR.lenMap (enc := (eK .u8)) (L := b1) Try.underlying45 rfl) rfl ?_
  refine PWl.step (LR.move rfl) rfl ?_
  refine PWl.step (LR.addW rfl rfl) rfl ?_
  refine PWl.step (LR.addW rfl rfl) rfl ?_
  replace h := iNeed h
  obtain ⟨hy5, h⟩ := h
  refine PWl.step (LR.make0 (n := Int.toNat ((IntKind.i64.wrap (((IntKind.i64.wrap ((List.length b1 : Int) + v3))) + 1)))) elem45 rfl rfl (by omega) (by omega) (by omega) rfl) rfl ?_
  refine PWl.step (LR.assign rfl) rfl ?_
  refine PWl.nil ?_
  refine PWc.seq ?_
  refine PWc.region ?_
  refine PWl.step (LR.move rfl) rfl ?_
  refine PWl.step (LR.move rfl) rfl ?_
  replace h := iNeed h
  obtain ⟨hy6, h⟩ := h
  refine PWl.step (LR.appT (enc := (eK .u8)) (L := ([] : List Int)) (R := b1) [6, 15, 16] elem45 Try.underlying45 rfl (by first | (simp; done) | (simp; omega) | omega) rfl (Src.slT (enc := (eK .u8)) (R := b1) rfl (fun _ => rfl)) (fun _ => rfl) hy6 rfl rfl) rfl ?_
  refine PWl.step (LR.move rfl) rfl ?_
  refine PWl.step (LR.convInt Try.underlying5 (by rw [Try.underlying3]; rfl) rfl rfl) rfl ?_
  refine PWl.step (LR.buildSliceD [.tmp 20] elem45 rfl rfl (.cons rfl rfl rfl <| .nil) (by decide) (by decide)) rfl ?_
  replace h := iNeed h
  obtain ⟨hy7, h⟩ := h
  refine PWl.step (LR.appT (enc := (eK .u8)) (L := (([] : List Int) ++ b1)) (R := [(IntKind.u8.wrap v3)]) [18] elem45 Try.underlying45 rfl rfl rfl (Src.slT (enc := (eK .u8)) (R := [(IntKind.u8.wrap v3)]) rfl (fun _ => rfl)) (fun _ => rfl) hy7 rfl rfl) rfl ?_
  refine PWl.step (LR.assign rfl) rfl ?_
  refine PWl.nil ?_
  refine PWc.seq ?_
  refine PWc.seq ?_
  refine PWc.region ?_
  refine PWl.re (tl := [(1, _), (5, _), (6, _)]) (to := [(15, _)]) rfl (.cons rfl rfl <| .cons rfl rfl <| .cons rfl rfl <| .nil) (.cons rfl rfl <| .nil) ?_
  refine PWl.step (LR.move rfl) rfl ?_
  refine PWl.step (LR.subW rfl rfl) rfl ?_
  refine PWl.step (LR.assign rfl) rfl ?_
  refine PWl.nil ?_
  refine PWc.jn (iBind h) (fun (v8 : List Int) (_ : Unit) => ⟨36, [(6, .row 15 (List.length v8))], [(15, .row 5 1 (List.map (eK .u8) v8))]⟩) (fun h => ?_) ?_
  · refine PWc.block ?_
    refine PWc.loopM (fun (⟨i19, v20⟩ : Int × List Int) (_ : Unit) => ⟨36, [(1, .d (.v (.int .u64 v2))), (6, .row 15 (List.length v20)), (7, .d (.v (.int .i64 i19)))], [(15, .row 5 1 (List.map (eK .u8) v20))]⟩) () h (Sub.of rfl (.cons rfl rfl <| .cons rfl (by first | rfl | (simp; done) | (congr 1; first | (simp; done) | (simp; omega))) <| .cons rfl rfl <| .nil) (.cons rfl rfl <| .nil)) ?_
    rintro N ⟨i19, v20⟩ _ h
    refine PWc.seq ?_
    refine PWc.seq ?_
    refine PWc.region ?_
    refine PWl.step (LR.move rfl) rfl ?_
    refine PWl.step (LR.geq rfl rfl) rfl ?_
    refine PWl.nil ?_
    refine PWc.cond rfl (fun hc21 => ?_) (fun hc21 => ?_)
    · replace h := iT hc21 h
      refine PWc.skip ?_
      refine PWc.seq ?_
      refine PWc.block ?_
      refine PWc.region ?_
      refine PWl.step (LR.move rfl) rfl ?_
      refine PWl.step (LR.move rfl) rfl ?_
      refine PWl.step (LR.move rfl) rfl ?_
      replace h := iDet h
      obtain ⟨v22, hy23, h⟩ := h
      refine PWl.step (LR.callN (shift_Byte_ok v2 i19 v22 hy23) rfl Try.call162 rfl rfl rfl rfl) rfl ?_
      refine PWl.step (LR.buildSliceD [.tmp 32] elem45 rfl rfl (.cons rfl rfl rfl <| .nil) (by decide) (by decide)) rfl ?_
      replace h := iNeed h
      obtain ⟨hy24, h⟩ := h
      refine PWl.step (LR.appT (enc := (eK .u8)) (L := v20) (R := [v22]) [6, 29] elem45 Try.underlying45 rfl rfl rfl (Src.slT (enc := (eK .u8)) (R := [v22]) rfl (fun _ => rfl)) (fun _ => rfl) hy24 rfl rfl) rfl ?_
      refine PWl.step (LR.assign rfl) rfl ?_
      refine PWl.nil ?_
      refine PWc.region ?_
      refine PWl.step (LR.move rfl) rfl ?_
      refine PWl.step (LR.subW rfl rfl) rfl ?_
      refine PWl.step (LR.assign rfl) rfl ?_
      refine PWl.nil ?_
      exact ⟨((IntKind.i64.wrap (i19 - 1)), (v20 ++ [v22])), (), h, Sub.of rfl (.cons rfl rfl <| .cons rfl rfl <| .cons rfl rfl <| .nil) (.cons rfl rfl <| .nil)⟩
    · replace h := iF hc21 h
      refine PWc.exit ?_
      exact ⟨v20, (), h, Sub.of rfl (.cons rfl rfl <| .nil) (.cons rfl rfl <| .nil)⟩
  · rintro v8 _ h
    refine PWc.seq ?_
    refine PWc.region ?_
    refine PWl.step (LR.move rfl) rfl ?_
    refine PWl.step (LR.assign rfl) rfl ?_
    refine PWl.nil ?_
    refine PWc.ret ?_
    replace h : _ = r0 := h
    subst h
    exact ⟨.inr rfl, 4, rfl, .inr ⟨15, _, rfl, (by simp), rfl⟩⟩
end Go.Proofs

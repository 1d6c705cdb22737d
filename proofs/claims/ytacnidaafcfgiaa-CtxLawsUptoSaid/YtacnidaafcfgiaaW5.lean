/- Walks: written by program. -/
import Derived.Test.YtacnidaafcfgiaaFc
import Derived.Test.YtacnidaafcfgiaaSh
import Derived.Test.YtacnidaafcfgiaaSx
import Derived.Test.YtacnidaafcfgiaaTl
import Derived.Test.YtacnidaafcfgiaaSr
import Derived.Test.YtacnidaafcfgiaaDr
import Derived.Test.YtacnidaafcfgiaaW0
import Derived.Test.YtacnidaafcfgiaaW1
import Derived.Test.YtacnidaafcfgiaaW4
namespace Go.Proofs
open Go.Ep
set_option maxHeartbeats 1000000
set_option maxRecDepth 100000
set_option linter.unusedVariables false
set_option linter.unusedSimpArgs false


theorem r09_Eq_ok (a1 : List TPart) (b2 : List TPart) (r0 : Bool) (h : (r09_Eq a1 b2).wp (· = r0)) : PFun Try.prog 46 [.d (.sl (List.map TPart.e a1)), .d (.sl (List.map TPart.e b2))] (.d (.v (.bool r0))) := by
  refine PFun.intro (sl := [(0, _), (1, _)]) Try.func46 rfl Try.ntmps46 rfl rfl ?_
  intro ctx hK
  refine PWc.seq ?_
  refine PWc.region ?_
  refine PWl.step (LR.assign rfl) rfl ?_
  refine PWl.nil ?_
  refine PWc.seq ?_
  refine PWc.seq ?_
  refine PWc.region ?_
  refine PWl.step (LR.move rfl) rfl ?_
  refine PWl.step (LR.lenMap (enc := TPart.e) (L := a1) Try.underlying24 rfl) rfl ?_
  refine PWl.step (LR.move rfl) rfl ?_
  refine PWl.step (LR.lenMap (enc := TPart.e) (L := b2) Try.underlying24 rfl) rfl ?_
  refine PWl.step (LR.neq rfl rfl) rfl ?_
  refine PWl.nil ?_
  refine PWc.cond rfl (fun hc3 => ?_) (fun hc3 => ?_)
  · replace h := iT hc3 h
    refine PWc.seq ?_
    refine PWc.region ?_
    refine PWl.step (LR.assign rfl) rfl ?_
    refine PWl.nil ?_
    refine PWc.ret ?_
    replace h : _ = r0 := h
    subst h
    exact ⟨.inr rfl, _, .cons (.tmp rfl rfl) <| .nil, rfl⟩
  · replace h := iF hc3 h
    refine PWc.skip ?_
    refine PWc.seq ?_
    refine PWc.seq ?_
    refine PWc.region ?_
    refine PWl.step (LR.assign rfl) rfl ?_
    refine PWl.nil ?_
    refine PWc.jnX (iBind h) (fun (_ : Unit) (_ : Unit) => ⟨42, [], []⟩) (fun h => ?_) ?_
    · refine PWc.block ?_
      refine PWc.loopM (fun (i33 : Int) (_ : Unit) => ⟨42, [(0, .d (.sl (List.map TPart.e a1))), (1, .d (.sl (List.map TPart.e b2))), (5, .d (.v (.int .i64 i33)))], []⟩) () h (Sub.of rfl (.cons rfl rfl <| .cons rfl rfl <| .cons rfl rfl <| .nil) (.nil)) ?_
      rintro N i33 _ h
      refine PWc.seq ?_
      refine PWc.seq ?_
      refine PWc.region ?_
      refine PWl.step (LR.move rfl) rfl ?_
      refine PWl.step (LR.move rfl) rfl ?_
      refine PWl.step (LR.lenMap (enc := TPart.e) (L := a1) Try.underlying24 rfl) rfl ?_
      refine PWl.step (LR.lss rfl rfl) rfl ?_
      refine PWl.nil ?_
      refine PWc.cond rfl (fun hc34 => ?_) (fun hc34 => ?_)
      · replace h := iT hc34 h
        refine PWc.skip ?_
        refine PWc.seq ?_
        refine PWc.block ?_
        refine PWc.seq ?_
        refine PWc.jn (iBind h) (fun (v35 : Bool) (_ : Unit) => ⟨42, [(0, .d (.sl (List.map TPart.e a1))), (1, .d (.sl (List.map TPart.e b2))), (5, .d (.v (.int .i64 i33))), (41, .d (.v (.bool v35)))], []⟩) (fun h => ?_) ?_
        · refine PWc.regionD (by kernel_rfl) (by kernel_rfl) ?_
          refine PQl.step (fun _ he ho => LR.move (he rfl rfl)) rfl ?_
          refine PQl.step (fun _ he ho => LR.move (he rfl rfl)) rfl ?_
          replace h := iIdx h
          obtain ⟨x36, hy37, h⟩ := h
          refine PQl.step (fun _ he ho => LR.idxT (enc := TPart.e) (L := a1) (y := x36) Try.underlying24 Try.sizeOf101 (he rfl rfl) (he rfl rfl) hy37 (fun _ => rfl)) rfl ?_
          refine PQl.step (fun _ he ho => LR.fieldEp Try.underlying101 rfl Try.sizeOf28 (by decide) rfl (he rfl rfl)) rfl ?_
          refine PQl.step (fun _ he ho => LR.loadEp Try.isAgg28 (he rfl rfl) rfl) rfl ?_
          refine PQl.step (fun _ he ho => LR.move (he rfl rfl)) rfl ?_
          refine PQl.step (fun _ he ho => LR.move (he rfl rfl)) rfl ?_
          replace h := iIdx h
          obtain ⟨x38, hy39, h⟩ := h
          refine PQl.step (fun _ he ho => LR.idxT (enc := TPart.e) (L := b2) (y := x38) Try.underlying24 Try.sizeOf101 (he rfl rfl) (he rfl rfl) hy39 (fun _ => rfl)) rfl ?_
          refine PQl.step (fun _ he ho => LR.fieldEp Try.underlying101 rfl Try.sizeOf28 (by decide) rfl (he rfl rfl)) rfl ?_
          refine PQl.step (fun _ he ho => LR.loadEp Try.isAgg28 (he rfl rfl) rfl) rfl ?_
          refine PQl.step (fun _ he ho => LR.neq (he rfl rfl) (he rfl rfl)) rfl ?_
          refine PQl.step (fun _ he ho => LR.move (he rfl rfl)) rfl ?_
          refine PQl.split (d := 28) rfl (fun hg40 => ?_) (fun hg40 => ?_)
          · replace h := iT hg40 h
            refine PQl.guardF rfl rfl rfl (by decide) ?_
            refine PQl.guardF rfl rfl rfl (by decide) ?_
            refine PQl.guardF rfl rfl rfl (by decide) ?_
            refine PQl.guardF rfl rfl rfl (by decide) ?_
            refine PQl.guardF rfl rfl rfl (by decide) ?_
            refine PQl.guardF rfl rfl rfl (by decide) ?_
            refine PQl.guardF rfl rfl rfl (by decide) ?_
            refine PQl.guardF rfl rfl rfl (by decide) ?_
            refine PQl.guardF rfl rfl rfl (by decide) ?_
            refine PQl.guardF rfl rfl rfl (by decide) ?_
            refine PQl.guardF rfl rfl rfl (by decide) ?_
            refine PQl.guardF rfl rfl rfl (by decide) ?_
            refine PQl.step (fun _ he ho => LR.pickT (he rfl rfl) (he rfl rfl)) rfl ?_
            refine PQl.nil ?_
            exact ⟨true, (), h, Sub.of rfl (.cons rfl rfl <| .cons rfl rfl <| .cons rfl rfl <| .cons rfl rfl <| .nil) (.nil)⟩
          · replace h := iF hg40 h
            refine PQl.guardT (fun _ he ho => LR.move (he rfl rfl)) rfl rfl rfl ?_
            refine PQl.guardT (fun _ he ho => LR.move (he rfl rfl)) rfl rfl rfl ?_
            replace h := iIdx h
            obtain ⟨x41, hy42, h⟩ := h
            refine PQl.guardT (fun _ he ho => LR.idxT (enc := TPart.e) (L := a1) (y := x41) Try.underlying24 Try.sizeOf101 (he rfl rfl) (he rfl rfl) hy42 (fun _ => rfl)) rfl rfl rfl ?_
            refine PQl.guardT (fun _ he ho => LR.fieldEp Try.underlying101 rfl Try.sizeOf34 (by decide) rfl (he rfl rfl)) rfl rfl rfl ?_
            refine PQl.guardT (fun _ he ho => LR.loadEp Try.isAgg34 (he rfl rfl) rfl) rfl rfl rfl ?_
            refine PQl.guardT (fun _ he ho => LR.move (he rfl rfl)) rfl rfl rfl ?_
            refine PQl.guardT (fun _ he ho => LR.move (he rfl rfl)) rfl rfl rfl ?_
            replace h := iIdx h
            obtain ⟨x43, hy44, h⟩ := h
            refine PQl.guardT (fun _ he ho => LR.idxT (enc := TPart.e) (L := b2) (y := x43) Try.underlying24 Try.sizeOf101 (he rfl rfl) (he rfl rfl) hy44 (fun _ => rfl)) rfl rfl rfl ?_
            refine PQl.guardT (fun _ he ho => LR.fieldEp Try.underlying101 rfl Try.sizeOf34 (by decide) rfl (he rfl rfl)) rfl rfl rfl ?_
            refine PQl.guardT (fun _ he ho => LR.loadEp Try.isAgg34 (he rfl rfl) rfl) rfl rfl rfl ?_
            replace h := iDet h
            obtain ⟨v45, hy46, h⟩ := h
            refine PQl.guardT (fun _ he ho => LR.callN (r06_Eq_ok x41.runs x43.runs v45 hy46) (he rfl rfl) Try.call96 (evsE he rfl rfl) rfl rfl rfl) rfl rfl rfl ?_
            refine PQl.guardT (fun _ he ho => LR.not (he rfl rfl)) rfl rfl rfl ?_
            refine PQl.step (fun _ he ho => LR.pickF (he rfl rfl) (he rfl rfl)) rfl ?_
            refine PQl.nil ?_
            exact ⟨(!v45), (), h, Sub.of rfl (.cons rfl rfl <| .cons rfl rfl <| .cons rfl rfl <| .cons rfl rfl <| .nil) (.nil)⟩
        · rintro v35 _ h
          refine PWc.cond rfl (fun hc47 => ?_) (fun hc47 => ?_)
          · replace h := iT hc47 h
            refine PWc.seq ?_
            refine PWc.region ?_
            refine PWl.step (LR.assign rfl) rfl ?_
            refine PWl.nil ?_
            refine PWc.ret ?_
            replace h : _ = r0 := h
            subst h
            exact ⟨.inr rfl, _, .cons (.tmp rfl rfl) <| .nil, rfl⟩
          · replace h := iF hc47 h
            refine PWc.skip ?_
            refine PWc.region ?_
            refine PWl.step (LR.move rfl) rfl ?_
            refine PWl.step (LR.addW rfl rfl) rfl ?_
            refine PWl.step (LR.assign rfl) rfl ?_
            refine PWl.nil ?_
            exact ⟨(IntKind.i64.wrap (i33 + 1)), (), h, Sub.of rfl (.cons rfl rfl <| .cons rfl rfl <| .cons rfl rfl <| .nil) (.nil)⟩
      · replace h := iF hc34 h
        refine PWc.exit ?_
        exact ⟨(), (), h, Sub.of rfl (.nil) (.nil)⟩
    · rintro _ _ h
      refine PWc.seq ?_
      refine PWc.region ?_
      refine PWl.step (LR.assign rfl) rfl ?_
      refine PWl.nil ?_
      refine PWc.ret ?_
      replace h : _ = r0 := h
      subst h
      exact ⟨.inr rfl, _, .cons (.tmp rfl rfl) <| .nil, rfl⟩

theorem runs_Meet_ok (a1 : List TRun) (b2 : List TRun) (r0 : List TRun) (h : (runs_Meet a1 b2).wp (· = r0)) : PRow Try.prog 101 [.d (.sl (List.map TRun.e a1)), .d (.sl (List.map TRun.e b2))] 114 2 (List.map TRun.e r0) := by
  refine PRow.intro (sl := [(0, _), (1, _)]) Try.func101 rfl Try.ntmps101 rfl rfl ?_
  intro ctx hK
  refine PWc.seq ?_
  refine PWc.region ?_
  refine PWl.step (LR.assignNilRow 114 2 rfl) rfl ?_
  refine PWl.nil ?_
  refine PWc.seq ?_
  refine PWc.region ?_
  refine PWl.step (LR.move rfl) rfl ?_
  replace h := iDet h
  obtain ⟨v3, hy4, h⟩ := h
  refine PWl.step (LR.rowN (runs_Norm_ok a1 v3 hy4) rfl Try.call138 rfl rfl rfl rfl) rfl ?_
  refine PWl.step (LR.move rfl) rfl ?_
  replace h := iDet h
  obtain ⟨v5, hy6, h⟩ := h
  refine PWl.step (LR.rowN (runs_Norm_ok b2 v5 hy6) rfl Try.call138 rfl rfl rfl rfl) rfl ?_
  refine PWl.step (LR.assign rfl) rfl ?_
  refine PWl.step (LR.assign rfl) rfl ?_
  refine PWl.nil ?_
  refine PWc.seq ?_
  refine PWc.region ?_
  refine PWl.step (LR.assignNilRow 114 2 rfl) rfl ?_
  refine PWl.nil ?_
  refine PWc.seq ?_
  refine PWc.jn (iBind h) (fun (out7 : List TRun) (_ : Unit) => ⟨61, [(5, .row 5 (List.length out7))], [(5, .row 114 2 (List.map TRun.e out7))]⟩) (fun h => ?_) ?_
  · refine PWc.block ?_
    refine PWc.loopM (fun (⟨a53, b54, out55⟩ : List TRun × List TRun × List TRun) (_ : Unit) => ⟨61, [(0, .d (.sl (List.map TRun.e a53))), (1, .d (.sl (List.map TRun.e b54))), (5, .row 5 (List.length out55))], [(5, .row 114 2 (List.map TRun.e out55))]⟩) () h (Sub.trans (Sub.frz [0, 8] hK rfl (by simp) (AllRow.get (.cons rfl <| .cons rfl <| .nil))) <| Sub.trans (Sub.frz [1, 10] hK rfl (by simp) (AllRow.get (.cons rfl <| .cons rfl <| .nil))) <| Sub.of rfl (.cons rfl rfl <| .cons rfl rfl <| .cons rfl rfl <| .nil) (.cons rfl rfl <| .nil)) ?_
    rintro N ⟨a53, b54, out55⟩ _ h
    refine PWc.seq ?_
    refine PWc.seq ?_
    refine PWc.jn (iBind h) (fun (v56 : Bool) (_ : Unit) => ⟨61, [(0, .d (.sl (List.map TRun.e a53))), (1, .d (.sl (List.map TRun.e b54))), (5, .row 5 (List.length out55)), (18, .d (.v (.bool v56)))], [(5, .row 114 2 (List.map TRun.e out55))]⟩) (fun h => ?_) ?_
    · refine PWc.region ?_
      refine PWl.step (LR.move rfl) rfl ?_
      refine PWl.step (LR.lenMap (enc := TRun.e) (L := a53) Try.underlying34 rfl) rfl ?_
      refine PWl.step (LR.gtr rfl rfl) rfl ?_
      refine PWl.step (LR.move rfl) rfl ?_
      refine PWl.split (d := 14) rfl (fun hg57 => ?_) (fun hg57 => ?_)
      · replace h := iT hg57 h
        refine PWl.guardT (LR.move rfl) rfl rfl rfl ?_
        refine PWl.guardT (LR.lenMap (enc := TRun.e) (L := b54) Try.underlying34 rfl) rfl rfl rfl ?_
        refine PWl.guardT (LR.gtr rfl rfl) rfl rfl rfl ?_
        refine PWl.step (LR.pickT rfl rfl) rfl ?_
        refine PWl.nil ?_
        exact ⟨(decide (0 < (List.length b54 : Int))), (), h, Sub.of rfl (.cons rfl rfl <| .cons rfl rfl <| .cons rfl rfl <| .cons rfl rfl <| .nil) (.cons rfl rfl <| .nil)⟩
      · replace h := iF hg57 h
        refine PWl.guardF rfl rfl rfl (by decide) ?_
        refine PWl.guardF rfl rfl rfl (by decide) ?_
        refine PWl.guardF rfl rfl rfl (by decide) ?_
        refine PWl.step (LR.pickF rfl rfl) rfl ?_
        refine PWl.nil ?_
        exact ⟨false, (), h, Sub.of rfl (.cons rfl rfl <| .cons rfl rfl <| .cons rfl rfl <| .cons rfl rfl <| .nil) (.cons rfl rfl <| .nil)⟩
    · rintro v56 _ h
      refine PWc.cond rfl (fun hc58 => ?_) (fun hc58 => ?_)
      · replace h := iT hc58 h
        refine PWc.skip ?_
        refine PWc.block ?_
        refine PWc.seq ?_
        refine PWc.seq ?_
        refine PWc.re (tl := [(0, _), (1, _), (5, _)]) (to := [(5, _)]) rfl (.cons rfl rfl <| .cons rfl rfl <| .cons rfl rfl <| .nil) (.cons rfl rfl <| .nil) ?_
        refine PWc.regionE [⟨[19], [], [], [], [], [], [], []⟩, ⟨[20], [], [], [], [], [], [], []⟩, ⟨[21], [], [], [], [], [], [], []⟩, ⟨[22], [], [], [], [], [], [], []⟩, ⟨[23], [], [], [], [], [], [], []⟩, ⟨[24], [], [], [], [], [], [], []⟩, ⟨[25], [], [], [], [], [], [], []⟩, ⟨[26], [], [], [], [], [], [], []⟩, ⟨[27], [], [], [], [], [], [], []⟩, ⟨[28], [], [], [], [], [], [], []⟩, ⟨[29], [], [], [], [], [], [], []⟩, ⟨[30], [], [], [], [], [], [], []⟩, ⟨[31], [], [], [], [], [], [], []⟩, ⟨[32], [], [], [], [], [], [], []⟩, ⟨[33], [], [], [], [], [], [], []⟩, ⟨[34], [], [], [], [], [], [], []⟩, ⟨[35], [], [], [], [], [], [], []⟩, ⟨[36], [], [], [], [], [], [], []⟩, ⟨[37], [], [], [], [], [], [], []⟩, ⟨[6], [6], [], [6], [], [6], [], []⟩, ⟨[], [6], [6], [], [], [], [], []⟩] (by kernel_rfl) (by kernel_rfl) rfl ?_
        refine PQe.stepP (fun _ he ho => LR.move (he rfl rfl)) (.inl rfl) rfl ?_
        replace h := iIdx h
        obtain ⟨x59, hy60, h⟩ := h
        refine PQe.stepP (fun _ he ho => LR.idxT (enc := TRun.e) (L := a53) (y := x59) Try.underlying34 Try.sizeOf114 (he rfl rfl) (he rfl rfl) hy60 (fun _ => rfl)) (.inl rfl) rfl ?_
        refine PQe.stepP (fun _ he ho => LR.fieldEp Try.underlying114 rfl Try.sizeOf36 (by decide) rfl (he rfl rfl)) (.inl rfl) rfl ?_
        refine PQe.stepP (fun _ he ho => LR.loadEp Try.isAgg36 (he rfl rfl) rfl) (.inl rfl) rfl ?_
        refine PQe.stepP (fun _ he ho => LR.move (he rfl rfl)) (.inl rfl) rfl ?_
        replace h := iIdx h
        obtain ⟨x61, hy62, h⟩ := h
        refine PQe.stepP (fun _ he ho => LR.idxT (enc := TRun.e) (L := b54) (y := x61) Try.underlying34 Try.sizeOf114 (he rfl rfl) (he rfl rfl) hy62 (fun _ => rfl)) (.inl rfl) rfl ?_
        refine PQe.stepP (fun _ he ho => LR.fieldEp Try.underlying114 rfl Try.sizeOf36 (by decide) rfl (he rfl rfl)) (.inl rfl) rfl ?_
        refine PQe.stepP (fun _ he ho => LR.loadEp Try.isAgg36 (he rfl rfl) rfl) (.inl rfl) rfl ?_
        refine PQe.stepP (fun _ he ho => LR.maxI (he rfl rfl) (he rfl rfl)) (.inl rfl) rfl ?_
        refine PQe.stepP (fun _ he ho => LR.move (he rfl rfl)) (.inl rfl) rfl ?_
        replace h := iIdx h
        obtain ⟨x63, hy64, h⟩ := h
        refine PQe.stepP (fun _ he ho => LR.idxT (enc := TRun.e) (L := a53) (y := x63) Try.underlying34 Try.sizeOf114 (he rfl rfl) (he rfl rfl) hy64 (fun _ => rfl)) (.inl rfl) rfl ?_
        refine PQe.stepP (fun _ he ho => LR.fieldEp Try.underlying114 rfl Try.sizeOf36 (by decide) rfl (he rfl rfl)) (.inl rfl) rfl ?_
        refine PQe.stepP (fun _ he ho => LR.loadEp Try.isAgg36 (he rfl rfl) rfl) (.inl rfl) rfl ?_
        refine PQe.stepP (fun _ he ho => LR.move (he rfl rfl)) (.inl rfl) rfl ?_
        replace h := iIdx h
        obtain ⟨x65, hy66, h⟩ := h
        refine PQe.stepP (fun _ he ho => LR.idxT (enc := TRun.e) (L := b54) (y := x65) Try.underlying34 Try.sizeOf114 (he rfl rfl) (he rfl rfl) hy66 (fun _ => rfl)) (.inl rfl) rfl ?_
        refine PQe.stepP (fun _ he ho => LR.fieldEp Try.underlying114 rfl Try.sizeOf36 (by decide) rfl (he rfl rfl)) (.inl rfl) rfl ?_
        refine PQe.stepP (fun _ he ho => LR.loadEp Try.isAgg36 (he rfl rfl) rfl) (.inl rfl) rfl ?_
        refine PQe.stepP (fun _ he ho => LR.minI (he rfl rfl) (he rfl rfl)) (.inl rfl) rfl ?_
        refine PQe.stepP (fun _ he ho => LR.build (ns := [_, _]) build114 rfl (evpE he rfl rfl) rfl) (.inl rfl) rfl ?_
        refine PQe.stepN (fun _ he ho hf => LR.allocZ (cs := [_, _]) Try.zeroValue114 rfl rfl rfl hf) rfl (.inl rfl) rfl ?_
        refine PQe.stepS (fun _ he ho => LR.storeB (ns := [_, _]) Try.sizeOf114 (he rfl rfl) (he rfl rfl) rfl rfl (ho rfl rfl) rfl rfl) (.inl rfl) rfl ?_
        refine PQe.nil ?_
        refine PWc.seq ?_
        refine PWc.region ?_
        refine PWl.re (tl := [(0, _), (1, _), (5, _), (6, _)]) (to := [(5, _), (6, _)]) rfl (.cons rfl rfl <| .cons rfl rfl <| .cons rfl rfl <| .cons rfl rfl <| .nil) (.cons rfl rfl <| .cons rfl rfl <| .nil) ?_
        refine PWl.step (LR.fieldRef Try.underlying114 rfl Try.sizeOf36 (by decide) rfl rfl) rfl ?_
        refine PWl.step (LR.loadRef Try.isAgg36 rfl rfl rfl) rfl ?_
        refine PWl.step (LR.fieldRef Try.underlying114 rfl Try.sizeOf36 (by decide) rfl rfl) rfl ?_
        refine PWl.step (LR.loadRef Try.isAgg36 rfl rfl rfl) rfl ?_
        refine PWl.step (LR.leq rfl rfl) rfl ?_
        refine PWl.nil ?_
        refine PWc.jn (iBind h) (fun (out67 : List TRun) (_ : Unit) => ⟨61, [(0, .d (.sl (List.map TRun.e a53))), (1, .d (.sl (List.map TRun.e b54))), (5, .row 5 (List.length out67))], [(5, .row 114 2 (List.map TRun.e out67))]⟩) (fun h => ?_) ?_
        · refine PWc.cond rfl (fun hc68 => ?_) (fun hc68 => ?_)
          · replace h := iT hc68 h
            refine PWc.region ?_
            refine PWl.step (LR.move rfl) rfl ?_
            refine PWl.step (LR.loadRefAgg (ps := [_, _]) Try.isAgg114 Try.sizeOf114 rfl rfl rfl rfl) rfl ?_
            refine PWl.step (LR.buildSliceD [.tmp 44] elem34 rfl rfl (.cons rfl rfl rfl <| .nil) (by decide) (by decide)) rfl ?_
            replace h := iNeed h
            obtain ⟨hy69, h⟩ := h
            refine PWl.step (LR.appT (enc := TRun.e) (L := out55) (R := [(⟨(max x59.lo x61.lo), (min x63.hi x65.hi)⟩ : TRun)]) [5, 43] elem34 Try.underlying34 rfl rfl rfl (Src.slT (enc := TRun.e) (R := [(⟨(max x59.lo x61.lo), (min x63.hi x65.hi)⟩ : TRun)]) rfl (fun _ => rfl)) (fun _ => rfl) hy69 rfl rfl) rfl ?_
            refine PWl.step (LR.assign rfl) rfl ?_
            refine PWl.nil ?_
            exact ⟨(out55 ++ [(⟨(max x59.lo x61.lo), (min x63.hi x65.hi)⟩ : TRun)]), (), h, Sub.of rfl (.cons rfl rfl <| .cons rfl rfl <| .cons rfl (by first | rfl | (simp; done) | (congr 1; first | (simp; done) | (simp; omega))) <| .nil) (.cons rfl rfl <| .nil)⟩
          · replace h := iF hc68 h
            refine PWc.skip ?_
            exact ⟨out55, (), h, Sub.of rfl (.cons rfl rfl <| .cons rfl rfl <| .cons rfl rfl <| .nil) (.cons rfl rfl <| .nil)⟩
        · rintro out67 _ h
          refine PWc.seq ?_
          refine PWc.regionD (by kernel_rfl) (by kernel_rfl) ?_
          refine PQl.step (fun _ he ho => LR.move (he rfl rfl)) rfl ?_
          replace h := iIdx h
          obtain ⟨x70, hy71, h⟩ := h
          refine PQl.step (fun _ he ho => LR.idxT (enc := TRun.e) (L := a53) (y := x70) Try.underlying34 Try.sizeOf114 (he rfl rfl) (he rfl rfl) hy71 (fun _ => rfl)) rfl ?_
          refine PQl.step (fun _ he ho => LR.fieldEp Try.underlying114 rfl Try.sizeOf36 (by decide) rfl (he rfl rfl)) rfl ?_
          refine PQl.step (fun _ he ho => LR.loadEp Try.isAgg36 (he rfl rfl) rfl) rfl ?_
          refine PQl.step (fun _ he ho => LR.move (he rfl rfl)) rfl ?_
          replace h := iIdx h
          obtain ⟨x72, hy73, h⟩ := h
          refine PQl.step (fun _ he ho => LR.idxT (enc := TRun.e) (L := b54) (y := x72) Try.underlying34 Try.sizeOf114 (he rfl rfl) (he rfl rfl) hy73 (fun _ => rfl)) rfl ?_
          refine PQl.step (fun _ he ho => LR.fieldEp Try.underlying114 rfl Try.sizeOf36 (by decide) rfl (he rfl rfl)) rfl ?_
          refine PQl.step (fun _ he ho => LR.loadEp Try.isAgg36 (he rfl rfl) rfl) rfl ?_
          refine PQl.step (fun _ he ho => LR.lss (he rfl rfl) (he rfl rfl)) rfl ?_
          refine PQl.nil ?_
          refine PWc.cond rfl (fun hc74 => ?_) (fun hc74 => ?_)
          · replace h := iT hc74 h
            refine PWc.region ?_
            refine PWl.step (LR.move rfl) rfl ?_
            replace h := iNeed h
            obtain ⟨hy75, h⟩ := h
            refine PWl.step (LR.cutLT (enc := TRun.e) (L := a53) Try.underlying34 Try.sizeOf114 rfl (fun _ => rfl) rfl hy75) rfl ?_
            refine PWl.step (LR.assign rfl) rfl ?_
            refine PWl.nil ?_
            exact ⟨((List.drop (Int.toNat 1) (List.take (Int.toNat (List.length a53 : Int)) a53)), b54, out67), (), h, Sub.of rfl (.cons rfl rfl <| .cons rfl rfl <| .cons rfl rfl <| .nil) (.cons rfl rfl <| .nil)⟩
          · replace h := iF hc74 h
            refine PWc.region ?_
            refine PWl.step (LR.move rfl) rfl ?_
            replace h := iNeed h
            obtain ⟨hy76, h⟩ := h
            refine PWl.step (LR.cutLT (enc := TRun.e) (L := b54) Try.underlying34 Try.sizeOf114 rfl (fun _ => rfl) rfl hy76) rfl ?_
            refine PWl.step (LR.assign rfl) rfl ?_
            refine PWl.nil ?_
            exact ⟨(a53, (List.drop (Int.toNat 1) (List.take (Int.toNat (List.length b54 : Int)) b54)), out67), (), h, Sub.of rfl (.cons rfl rfl <| .cons rfl rfl <| .cons rfl rfl <| .nil) (.cons rfl rfl <| .nil)⟩
      · replace h := iF hc58 h
        refine PWc.exit ?_
        exact ⟨out55, (), h, Sub.of rfl (.cons rfl rfl <| .nil) (.cons rfl rfl <| .nil)⟩
  · rintro out7 _ h
    refine PWc.seq ?_
    refine PWc.region ?_
    refine PWl.step (LR.move rfl) rfl ?_
    refine PWl.step (LR.assign rfl) rfl ?_
    refine PWl.nil ?_
    refine PWc.ret ?_
    replace h : _ = r0 := h
    subst h
    exact ⟨.inr rfl, 4, rfl, .inr ⟨5, _, rfl, (by simp), rfl⟩⟩

theorem runs_rest_ok (l1 : List TRun) (r0 : List TRun) (h : (runs_rest l1).wp (· = r0)) : PRow Try.prog 149 [.d (.sl (List.map TRun.e l1))] 114 2 (List.map TRun.e r0) := by
  refine PRow.intro (sl := [(0, _)]) Try.func149 rfl Try.ntmps149 rfl rfl ?_
  intro ctx hK
  refine PWc.seq ?_
  refine PWc.region ?_
  refine PWl.step (LR.assignNilRow 114 2 rfl) rfl ?_
  refine PWl.nil ?_
  refine PWc.seq ?_
  refine PWc.region ?_
  refine PWl.step (LR.assignNilRow 114 2 rfl) rfl ?_
  refine PWl.nil ?_
  refine PWc.seq ?_
  refine PWc.region ?_
  refine PWl.step (LR.assign rfl) rfl ?_
  refine PWl.nil ?_
  refine PWc.seq ?_
  refine PWc.seq ?_
  refine PWc.region ?_
  refine PWl.step (LR.move rfl) rfl ?_
  replace h := iDet h
  obtain ⟨v2, hy3, h⟩ := h
  refine PWl.step (LR.rowN (runs_Norm_ok l1 v2 hy3) rfl Try.call138 rfl rfl rfl rfl) rfl ?_
  refine PWl.step (LR.lenRow Try.underlying34 rfl) rfl ?_
  refine PWl.step (LR.move rfl) rfl ?_
  refine PWl.nil ?_
  refine PWc.jn (iBind h) (fun (⟨at4, out5⟩ : Int × List TRun) (_ : Unit) => ⟨31, [(3, .row 3 (List.length out5)), (4, .d (.v (.int .u64 at4)))], [(3, .row 114 2 (List.map TRun.e out5))]⟩) (fun h => ?_) ?_
  · refine PWc.block ?_
    refine PWc.loopM (fun (⟨at17, v18, out19⟩ : Int × Int × List TRun) (_ : Unit) => ⟨31, [(3, .row 3 (List.length out19)), (4, .d (.v (.int .u64 at17))), (8, .row 8 (List.length v2)), (9, .d (.v (.int .i64 ((List.length v2) : Int)))), (10, .d (.v (.int .i64 v18)))], [(3, .row 114 2 (List.map TRun.e out19)), (8, .row 114 2 (List.map TRun.e v2))]⟩) () h (Sub.of rfl (.cons rfl rfl <| .cons rfl rfl <| .cons rfl rfl <| .cons rfl rfl <| .cons rfl rfl <| .nil) (.cons rfl rfl <| .cons rfl rfl <| .nil)) ?_
    rintro N ⟨at17, v18, out19⟩ _ h
    refine PWc.seq ?_
    refine PWc.region ?_
    refine PWl.step (LR.lss rfl rfl) rfl ?_
    refine PWl.nil ?_
    refine PWc.seq ?_
    refine PWc.cond rfl (fun hc20 => ?_) (fun hc20 => ?_)
    · replace h := iT hc20 h
      refine PWc.skip ?_
      refine PWc.seq ?_
      refine PWc.block ?_
      refine PWc.seq ?_
      refine PWc.region ?_
      replace h := iIdx h
      obtain ⟨x21, hy22, h⟩ := h
      refine PWl.step (LR.idxRowT (L := v2) (y := x21) Try.underlying34 Try.sizeOf114 rfl rfl rfl hy22) rfl ?_
      refine PWl.step (LR.loadRpT (enc := TRun.e) (L := v2) (y := x21) Try.isAgg114 Try.sizeOf114 rfl rfl hy22.2) rfl ?_
      refine PWl.step (LR.allocZ (cs := [_, _]) Try.zeroValue114 rfl rfl rfl rfl) rfl ?_
      refine PWl.step (LR.storeB (ns := [_, _]) Try.sizeOf114 rfl rfl rfl rfl rfl rfl rfl) rfl ?_
      refine PWl.nil ?_
      refine PWc.seq ?_
      refine PWc.region ?_
      refine PWl.step (LR.move rfl) rfl ?_
      refine PWl.step (LR.move rfl) rfl ?_
      refine PWl.step (LR.fieldRef Try.underlying114 rfl Try.sizeOf36 (by decide) rfl rfl) rfl ?_
      refine PWl.step (LR.loadRef Try.isAgg36 rfl rfl rfl) rfl ?_
      refine PWl.step (LR.subW rfl rfl) rfl ?_
      refine PWl.step (LR.build (ns := [_, _]) build114 rfl rfl rfl) rfl ?_
      refine PWl.step (LR.buildSliceD [.tmp 19] elem34 rfl rfl (.cons rfl rfl rfl <| .nil) (by decide) (by decide)) rfl ?_
      replace h := iNeed h
      obtain ⟨hy23, h⟩ := h
      refine PWl.step (LR.appT (enc := TRun.e) (L := out19) (R := [(⟨at17, (IntKind.u64.wrap (x21.lo - 1))⟩ : TRun)]) [3, 14] elem34 Try.underlying34 rfl rfl rfl (Src.slT (enc := TRun.e) (R := [(⟨at17, (IntKind.u64.wrap (x21.lo - 1))⟩ : TRun)]) rfl (fun _ => rfl)) (fun _ => rfl) hy23 rfl rfl) rfl ?_
      refine PWl.step (LR.assign rfl) rfl ?_
      refine PWl.nil ?_
      refine PWc.region ?_
      refine PWl.step (LR.fieldRef Try.underlying114 rfl Try.sizeOf36 (by decide) rfl rfl) rfl ?_
      refine PWl.step (LR.loadRef Try.isAgg36 rfl rfl rfl) rfl ?_
      refine PWl.step (LR.addW rfl rfl) rfl ?_
      refine PWl.re (tl := [(3, _), (4, _), (8, _), (9, _), (10, _), (24, _)]) (to := [(3, _), (8, _)]) rfl (.cons rfl rfl <| .cons rfl rfl <| .cons rfl rfl <| .cons rfl rfl <| .cons rfl rfl <| .cons rfl rfl <| .nil) (.cons rfl rfl <| .cons rfl rfl <| .nil) ?_
      refine PWl.step (LR.assign rfl) rfl ?_
      refine PWl.nil ?_
      refine PWc.region ?_
      refine PWl.step (LR.addW rfl rfl) rfl ?_
      refine PWl.step (LR.move rfl) rfl ?_
      refine PWl.nil ?_
      exact ⟨((IntKind.u64.wrap (x21.hi + 1)), (IntKind.i64.wrap (v18 + 1)), (out19 ++ [(⟨at17, (IntKind.u64.wrap (x21.lo - 1))⟩ : TRun)])), (), h, Sub.of rfl (.cons rfl (by first | rfl | (simp; done) | (congr 1; first | (simp; done) | (simp; omega))) <| .cons rfl rfl <| .cons rfl rfl <| .cons rfl rfl <| .cons rfl rfl <| .nil) (.cons rfl rfl <| .cons rfl rfl <| .nil)⟩
    · replace h := iF hc20 h
      refine PWc.exit ?_
      exact ⟨(at17, out19), (), h, Sub.of rfl (.cons rfl rfl <| .cons rfl rfl <| .nil) (.cons rfl rfl <| .nil)⟩
  · rintro ⟨at4, out5⟩ _ h
    refine PWc.seq ?_
    refine PWc.region ?_
    refine PWl.step (LR.move rfl) rfl ?_
    refine PWl.step (LR.move rfl) rfl ?_
    refine PWl.step (LR.build (ns := [_, _]) build114 rfl rfl rfl) rfl ?_
    refine PWl.step (LR.buildSliceD [.tmp 28] elem34 rfl rfl (.cons rfl rfl rfl <| .nil) (by decide) (by decide)) rfl ?_
    replace h := iNeed h
    obtain ⟨hy24, h⟩ := h
    refine PWl.step (LR.appT (enc := TRun.e) (L := out5) (R := [(⟨at4, 281474976710655⟩ : TRun)]) [3, 26] elem34 Try.underlying34 rfl rfl rfl (Src.slT (enc := TRun.e) (R := [(⟨at4, 281474976710655⟩ : TRun)]) rfl (fun _ => rfl)) (fun _ => rfl) hy24 rfl rfl) rfl ?_
    refine PWl.step (LR.assign rfl) rfl ?_
    refine PWl.nil ?_
    refine PWc.ret ?_
    replace h : _ = r0 := h
    subst h
    exact ⟨.inr rfl, 2, rfl, .inr ⟨3, _, rfl, (by simp), rfl⟩⟩

theorem runs_Minus_ok (a1 : List TRun) (b2 : List TRun) (r0 : List TRun) (h : (runs_Minus a1 b2).wp (· = r0)) : PRow Try.prog 102 [.d (.sl (List.map TRun.e a1)), .d (.sl (List.map TRun.e b2))] 114 2 (List.map TRun.e r0) := by
  refine PRow.intro (sl := [(0, _), (1, _)]) Try.func102 rfl Try.ntmps102 rfl rfl ?_
  intro ctx hK
  refine PWc.seq ?_
  refine PWc.region ?_
  refine PWl.step (LR.assignNilRow 114 2 rfl) rfl ?_
  refine PWl.nil ?_
  refine PWc.seq ?_
  refine PWc.region ?_
  refine PWl.step (LR.move rfl) rfl ?_
  refine PWl.step (LR.move rfl) rfl ?_
  replace h := iDet h
  obtain ⟨v3, hy4, h⟩ := h
  refine PWl.step (LR.rowN (runs_rest_ok b2 v3 hy4) rfl Try.call149 rfl rfl rfl rfl) rfl ?_
  replace h := iDet h
  obtain ⟨v5, hy6, h⟩ := h
  refine PWl.frz [7] hK (.cons rfl <| .nil) rfl (by simp) ?_
  refine PWl.step (LR.rowN (runs_Meet_ok a1 v3 v5 hy6) rfl Try.call101 rfl rfl rfl rfl) rfl ?_
  refine PWl.re (tl := [(0, _), (1, _), (5, _), (6, _), (7, _), (8, _)]) (to := [(8, _)]) rfl (.cons rfl rfl <| .cons rfl rfl <| .cons rfl rfl <| .cons rfl rfl <| .cons rfl rfl <| .cons rfl rfl <| .nil) (.cons rfl rfl <| .nil) ?_
  refine PWl.step (LR.assign rfl) rfl ?_
  refine PWl.nil ?_
  refine PWc.ret ?_
  replace h : _ = r0 := h
  subst h
  exact ⟨.inr rfl, 4, rfl, .inr ⟨8, _, rfl, (by simp), rfl⟩⟩

theorem ctx_each_runs_Minus_ok (a1 : List TPart) (b2 : List TPart) (r0 : List TPart) (h : (ctx_each_runs_Minus a1 b2).wp (· = r0)) : PRow Try.prog 100 [.d (.sl (List.map TPart.e a1)), .d (.sl (List.map TPart.e b2)), .d (.v (.func (.func 102) #[] #[]))] 101 2 (List.map TPart.e r0) := by
  refine PRow.intro (sl := [(0, _), (1, _), (2, _)]) Try.func100 rfl Try.ntmps100 rfl rfl ?_
  intro ctx hK
  refine PWc.seq ?_
  refine PWc.region ?_
  refine PWl.step (LR.assignNilRow 101 2 rfl) rfl ?_
  refine PWl.nil ?_
  refine PWc.seq ?_
  refine PWc.region ?_
  refine PWl.step (LR.move rfl) rfl ?_
  replace h := iDet h
  obtain ⟨v3, hy4, h⟩ := h
  refine PWl.mapN (ctx_told_ok a1 v3 hy4) rfl Try.call130 rfl rfl rfl rfl rfl (fun bs5 ck5 _ => ?_)
  refine PWl.step (LR.move rfl) rfl ?_
  replace h := iDet h
  obtain ⟨v6, hy7, h⟩ := h
  refine PWl.mapN (ctx_told_ok b2 v6 hy7) rfl Try.call130 rfl rfl rfl rfl rfl (fun bs8 ck8 _ => ?_)
  refine PWl.step (LR.assign rfl) rfl ?_
  refine PWl.step (LR.assign rfl) rfl ?_
  refine PWl.nil ?_
  refine PWc.seq ?_
  refine PWc.seq ?_
  refine PWc.region ?_
  refine PWl.step (LR.move rfl) rfl ?_
  refine PWl.step (LR.rangeO Try.underlying126 rfl rfl rfl) rfl ?_
  refine PWl.nil ?_
  refine PWc.jn (iBind h) (fun (v9 : List (Int × List TRun)) (_ : Unit) => ⟨32, [(7, .mp 12)], [(12, .map [.u16] false (encM kI (eL TRun.e) v9) bs5 ck5)]⟩) (fun h => ?_) ?_
  · refine PWc.block ?_
    refine PWc.loopM (fun (⟨seen32, v33⟩ : List Nat × (List (Int × List TRun))) (_ : Unit) => ⟨32, [(2, .d (.v (.func (.func 102) #[] #[]))), (7, .mp 12), (8, .mp 14), (16, .ref 16 0)], [(12, .map [.u16] false (encM kI (eL TRun.e) v33) bs5 ck5), (14, .map [.u16] false (encM kI (eL TRun.e) v6) bs8 ck8), (16, .iterO 12 bs5 ck5 seen32)]⟩) () h (Sub.of rfl (.cons rfl rfl <| .cons rfl rfl <| .cons rfl rfl <| .cons rfl rfl <| .nil) (.cons rfl rfl <| .cons rfl rfl <| .cons rfl rfl <| .nil)) ?_
    rintro N ⟨seen32, v33⟩ _ h
    refine PWc.seq ?_
    refine PWc.region ?_
    replace h := iNeed h
    obtain ⟨hy43, h⟩ := h
    replace h := iNxt h
    refine PWl.nextO rfl rfl rfl (nxtD hy43) rfl (fun hy35 => ?_) (fun j34 hy36 hy37 => ?_)
    · replace h := h.1 (nxtA hy35)
      refine PWl.step (LR.extract rfl rfl) rfl ?_
      refine PWl.nil ?_
      refine PWc.seq ?_
      refine PWc.condF rfl ?_
      refine PWc.exit ?_
      exact ⟨v33, (), h, Sub.of rfl (.cons rfl rfl <| .nil) (.cons rfl rfl <| .nil)⟩
    · replace h := h.2 j34 (nxtB hy36) hy37
      refine PWl.step (LR.extract rfl rfl) rfl ?_
      refine PWl.nil ?_
      refine PWc.seq ?_
      refine PWc.condT rfl ?_
      refine PWc.skip ?_
      refine PWc.block ?_
      refine PWc.seq ?_
      refine PWc.region ?_
      replace h := iIdx h
      obtain ⟨kv38, hy39, h⟩ := h
      refine PWl.step (LR.entryO rfl rfl rfl (entGet hy39) rfl rfl) rfl ?_
      refine PWl.step (LR.extract rfl rfl) rfl ?_
      refine PWl.step (LR.extract rfl rfl) rfl ?_
      refine PWl.step (LR.assign rfl) rfl ?_
      refine PWl.step (LR.assign rfl) rfl ?_
      refine PWl.nil ?_
      refine PWc.region ?_
      refine PWl.step (LR.move rfl) rfl ?_
      refine PWl.step (LR.move rfl) rfl ?_
      refine PWl.step (LR.move rfl) rfl ?_
      refine PWl.step (LR.move rfl) rfl ?_
      refine PWl.step (LR.move rfl) rfl ?_
      refine PWl.step (LR.move rfl) rfl ?_
      refine PWl.step (LR.getO (eV := (eL TRun.e)) (zv := ([] : List TRun)) (q := kv38.1) (m := v6) kI_inj Try.underlying126 key126 Try.zeroValue34 (zRd1 (.slice none 0 0) rfl) rfl rfl rfl rfl rfl rfl) rfl ?_
      replace h := iDet h
      obtain ⟨v40, hy41, h⟩ := h
      refine PWl.step (LR.rowN (runs_Minus_ok kv38.2 (AL.getZ v6 kv38.1 ([] : List TRun)) v40 hy41) rfl Try.call102 rfl rfl rfl rfl) rfl ?_
      replace h := iNeed h
      obtain ⟨hy42, h⟩ := h
      refine PWl.frz [29] hK (.cons rfl <| .nil) rfl (by simp) ?_
      refine PWl.step (LR.setIn (eV := (eL TRun.e)) (q := kv38.1) (v := v40) (m := v33) kI_inj Try.underlying126 key126 rfl rfl rfl rfl rfl rfl rfl (fun _ => rfl) hy42) rfl ?_
      refine PWl.nil ?_
      exact ⟨((seen32 ++ [j34]), (AL.set v33 kv38.1 v40)), (), h, Sub.of rfl (.cons rfl rfl <| .cons rfl rfl <| .cons rfl rfl <| .cons rfl rfl <| .nil) (.cons rfl rfl <| .cons rfl rfl <| .cons rfl rfl <| .nil)⟩
  · rintro v9 _ h
    refine PWc.seq ?_
    refine PWc.region ?_
    refine PWl.step (LR.move rfl) rfl ?_
    replace h := iDet h
    obtain ⟨v44, hy45, h⟩ := h
    refine PWl.frzM [7, 30] hK (.cons rfl <| .cons rfl <| .nil) rfl ?_
    refine PWl.step (LR.rowN (ctx_order_ok v9 v44 hy45) rfl Try.call97 rfl rfl rfl rfl) rfl ?_
    refine PWl.step (LR.assign rfl) rfl ?_
    refine PWl.nil ?_
    refine PWc.ret ?_
    replace h : _ = r0 := h
    subst h
    exact ⟨.inr rfl, 6, rfl, .inr ⟨31, _, rfl, (by simp), rfl⟩⟩

theorem ctx_Minus_ok (a1 : List TPart) (b2 : List TPart) (r0 : List TPart) (h : (ctx_Minus a1 b2).wp (· = r0)) : PRow Try.prog 54 [.d (.sl (List.map TPart.e a1)), .d (.sl (List.map TPart.e b2))] 101 2 (List.map TPart.e r0) := by
  refine PRow.intro (sl := [(0, _), (1, _)]) Try.func54 rfl Try.ntmps54 rfl rfl ?_
  intro ctx hK
  refine PWc.seq ?_
  refine PWc.region ?_
  refine PWl.step (LR.assignNilRow 101 2 rfl) rfl ?_
  refine PWl.nil ?_
  refine PWc.seq ?_
  refine PWc.region ?_
  refine PWl.step (LR.move rfl) rfl ?_
  refine PWl.step (LR.move rfl) rfl ?_
  replace h := iDet h
  obtain ⟨v3, hy4, h⟩ := h
  refine PWl.step (LR.rowN (ctx_each_runs_Minus_ok a1 b2 v3 hy4) rfl Try.call100 rfl rfl rfl rfl) rfl ?_
  refine PWl.re (tl := [(0, _), (1, _), (5, _), (6, _), (7, _)]) (to := [(7, _)]) rfl (.cons rfl rfl <| .cons rfl rfl <| .cons rfl rfl <| .cons rfl rfl <| .cons rfl rfl <| .nil) (.cons rfl rfl <| .nil) ?_
  refine PWl.step (LR.assign rfl) rfl ?_
  refine PWl.nil ?_
  refine PWc.ret ?_
  replace h : _ = r0 := h
  subst h
  exact ⟨.inr rfl, 4, rfl, .inr ⟨7, _, rfl, (by simp), rfl⟩⟩
end Go.Proofs

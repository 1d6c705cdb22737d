/- Walks: written by program. -/
import Derived.Test.YtacnidaafcfgiaaGreatDFc
import Derived.Test.YtacnidaafcfgiaaGreatDSh
import Derived.Test.YtacnidaafcfgiaaGreatDSx
import Derived.Test.YtacnidaafcfgiaaGreatTl
import Derived.Test.YtacnidaafcfgiaaGreatSr
import Derived.Test.YtacnidaafcfgiaaGreatDr
import Derived.Test.YtacnidaafcfgiaaGreatOb
import Derived.Test.YtacnidaafcfgiaaGreatOe
import Derived.Test.YtacnidaafcfgiaaGreatLs
import Derived.Test.YtacnidaafcfgiaaGreatTl
import Derived.Test.YtacnidaafcfgiaaGreatStr
import Derived.Test.YtacnidaafcfgiaaGreatPc
namespace Go.Proofs
open Go.Ep
set_option maxHeartbeats 1000000
set_option maxRecDepth 100000
set_option linter.unusedVariables false
set_option linter.unusedSimpArgs false


theorem r06_Eq_ok (a1 : List TRun) (b2 : List TRun) (r0 : Bool) (h : (r06_Eq a1 b2).wp (· = r0)) : PFun Tryz.prog 26 [.d (.sl (List.map TRun.e a1)), .d (.sl (List.map TRun.e b2))] (.d (.v (.bool r0))) := by
  refine PFun.intro (sl := [(0, _), (1, _)]) Tryz.func26 rfl Tryz.ntmps26 rfl rfl ?_
  intro ctx hK
  refine PWc.seq ?_
  refine PWc.region ?_
  refine PWl.step (LR.assign rfl) rfl ?_
  refine PWl.nil ?_
  refine PWc.seq ?_
  refine PWc.seq ?_
  refine PWc.region ?_
  refine PWl.step (LR.move rfl) rfl ?_
  refine PWl.step (LR.lenMap (enc := TRun.e) (L := a1) Tryz.underlying37 rfl) rfl ?_
  refine PWl.step (LR.move rfl) rfl ?_
  refine PWl.step (LR.lenMap (enc := TRun.e) (L := b2) Tryz.underlying37 rfl) rfl ?_
  refine PWl.step (LR.neq rfl rfl) rfl ?_
  refine PWl.nil ?_
  refine PWc.cond rfl (fun hc3 => ?_) (fun hc3 => ?_)
  · replace h := iT hc3 h
    refine PWc.seq ?_
    refine PWc.region ?_
    refine PWl.step (LR.assign rfl) rfl ?_
    refine PWl.nil ?_
    refine PWc.ret ?_
    replace h : _ = r0 := h
    subst h
    exact ⟨.inr rfl, _, .cons (.tmp rfl rfl) <| .nil, rfl⟩
  · replace h := iF hc3 h
    refine PWc.skip ?_
    refine PWc.seq ?_
    refine PWc.seq ?_
    refine PWc.region ?_
    refine PWl.step (LR.assign rfl) rfl ?_
    refine PWl.nil ?_
    refine PWc.jnX (iBind h) (fun (_ : Unit) (_ : Unit) => ⟨26, [], []⟩) (fun h => ?_) ?_
    · refine PWc.block ?_
      refine PWc.loopM (fun (i17 : Int) (_ : Unit) => ⟨26, [(0, .d (.sl (List.map TRun.e a1))), (1, .d (.sl (List.map TRun.e b2))), (5, .d (.v (.int .i64 i17)))], []⟩) () h (Sub.of rfl (.cons rfl rfl <| .cons rfl rfl <| .cons rfl rfl <| .nil) (.nil)) ?_
      rintro N i17 _ h
      refine PWc.seq ?_
      refine PWc.seq ?_
      refine PWc.region ?_
      refine PWl.step (LR.move rfl) rfl ?_
      refine PWl.step (LR.move rfl) rfl ?_
      refine PWl.step (LR.lenMap (enc := TRun.e) (L := a1) Tryz.underlying37 rfl) rfl ?_
      refine PWl.step (LR.lss rfl rfl) rfl ?_
      refine PWl.nil ?_
      refine PWc.cond rfl (fun hc18 => ?_) (fun hc18 => ?_)
      · replace h := iT hc18 h
        refine PWc.skip ?_
        refine PWc.seq ?_
        refine PWc.block ?_
        refine PWc.seq ?_
        refine PWc.regionD (by kernel_rfl) (by kernel_rfl) ?_
        refine PQl.step (fun _ he ho => LR.move (he rfl rfl)) rfl ?_
        refine PQl.step (fun _ he ho => LR.move (he rfl rfl)) rfl ?_
        replace h := iIdx h
        obtain ⟨x19, hy20, h⟩ := h
        refine PQl.step (fun _ he ho => LR.idxT (enc := TRun.e) (L := a1) (y := x19) Tryz.underlying37 Tryz.sizeOf89 (he rfl rfl) (he rfl rfl) hy20 (fun _ => rfl)) rfl ?_
        refine PQl.step (fun _ he ho => LR.loadEpAgg (ys := [_, _]) Tryz.isAgg89 Tryz.sizeOf89 (he rfl rfl) rfl rfl) rfl ?_
        refine PQl.step (fun _ he ho => LR.move (he rfl rfl)) rfl ?_
        refine PQl.step (fun _ he ho => LR.move (he rfl rfl)) rfl ?_
        replace h := iIdx h
        obtain ⟨x21, hy22, h⟩ := h
        refine PQl.step (fun _ he ho => LR.idxT (enc := TRun.e) (L := b2) (y := x21) Tryz.underlying37 Tryz.sizeOf89 (he rfl rfl) (he rfl rfl) hy22 (fun _ => rfl)) rfl ?_
        refine PQl.step (fun _ he ho => LR.loadEpAgg (ys := [_, _]) Tryz.isAgg89 Tryz.sizeOf89 (he rfl rfl) rfl rfl) rfl ?_
        refine PQl.step (fun _ he ho => LR.neqAgg (he rfl rfl) (he rfl rfl) rfl rfl eq89) rfl ?_
        refine PQl.nil ?_
        refine PWc.cond rfl (fun hc23 => ?_) (fun hc23 => ?_)
        · replace h := iT hc23 h
          refine PWc.seq ?_
          refine PWc.region ?_
          refine PWl.step (LR.assign rfl) rfl ?_
          refine PWl.nil ?_
          refine PWc.ret ?_
          replace h : _ = r0 := h
          subst h
          exact ⟨.inr rfl, _, .cons (.tmp rfl rfl) <| .nil, rfl⟩
        · replace h := iF hc23 h
          refine PWc.skip ?_
          refine PWc.region ?_
          refine PWl.step (LR.move rfl) rfl ?_
          refine PWl.step (LR.addW rfl rfl) rfl ?_
          refine PWl.step (LR.assign rfl) rfl ?_
          refine PWl.nil ?_
          exact ⟨(IntKind.i64.wrap (i17 + 1)), (), h, Sub.of rfl (.cons rfl rfl <| .cons rfl rfl <| .cons rfl rfl <| .nil) (.nil)⟩
      · replace h := iF hc18 h
        refine PWc.exit ?_
        exact ⟨(), (), h, Sub.of rfl (.nil) (.nil)⟩
    · rintro _ _ h
      refine PWc.seq ?_
      refine PWc.region ?_
      refine PWl.step (LR.assign rfl) rfl ?_
      refine PWl.nil ?_
      refine PWc.ret ?_
      replace h : _ = r0 := h
      subst h
      exact ⟨.inr rfl, _, .cons (.tmp rfl rfl) <| .nil, rfl⟩

theorem r09_Eq_ok (a1 : List TPart) (b2 : List TPart) (r0 : Bool) (h : (r09_Eq a1 b2).wp (· = r0)) : PFun Tryz.prog 9 [.d (.sl (List.map TPart.e a1)), .d (.sl (List.map TPart.e b2))] (.d (.v (.bool r0))) := by
  refine PFun.intro (sl := [(0, _), (1, _)]) Tryz.func9 rfl Tryz.ntmps9 rfl rfl ?_
  intro ctx hK
  refine PWc.seq ?_
  refine PWc.region ?_
  refine PWl.step (LR.assign rfl) rfl ?_
  refine PWl.nil ?_
  refine PWc.seq ?_
  refine PWc.seq ?_
  refine PWc.region ?_
  refine PWl.step (LR.move rfl) rfl ?_
  refine PWl.step (LR.lenMap (enc := TPart.e) (L := a1) Tryz.underlying23 rfl) rfl ?_
  refine PWl.step (LR.move rfl) rfl ?_
  refine PWl.step (LR.lenMap (enc := TPart.e) (L := b2) Tryz.underlying23 rfl) rfl ?_
  refine PWl.step (LR.neq rfl rfl) rfl ?_
  refine PWl.nil ?_
  refine PWc.cond rfl (fun hc3 => ?_) (fun hc3 => ?_)
  · replace h := iT hc3 h
    refine PWc.seq ?_
    refine PWc.region ?_
    refine PWl.step (LR.assign rfl) rfl ?_
    refine PWl.nil ?_
    refine PWc.ret ?_
    replace h : _ = r0 := h
    subst h
    exact ⟨.inr rfl, _, .cons (.tmp rfl rfl) <| .nil, rfl⟩
  · replace h := iF hc3 h
    refine PWc.skip ?_
    refine PWc.seq ?_
    refine PWc.seq ?_
    refine PWc.region ?_
    refine PWl.step (LR.assign rfl) rfl ?_
    refine PWl.nil ?_
    refine PWc.jnX (iBind h) (fun (_ : Unit) (_ : Unit) => ⟨42, [], []⟩) (fun h => ?_) ?_
    · refine PWc.block ?_
      refine PWc.loopM (fun (i33 : Int) (_ : Unit) => ⟨42, [(0, .d (.sl (List.map TPart.e a1))), (1, .d (.sl (List.map TPart.e b2))), (5, .d (.v (.int .i64 i33)))], []⟩) () h (Sub.of rfl (.cons rfl rfl <| .cons rfl rfl <| .cons rfl rfl <| .nil) (.nil)) ?_
      rintro N i33 _ h
      refine PWc.seq ?_
      refine PWc.seq ?_
      refine PWc.region ?_
      refine PWl.step (LR.move rfl) rfl ?_
      refine PWl.step (LR.move rfl) rfl ?_
      refine PWl.step (LR.lenMap (enc := TPart.e) (L := a1) Tryz.underlying23 rfl) rfl ?_
      refine PWl.step (LR.lss rfl rfl) rfl ?_
      refine PWl.nil ?_
      refine PWc.cond rfl (fun hc34 => ?_) (fun hc34 => ?_)
      · replace h := iT hc34 h
        refine PWc.skip ?_
        refine PWc.seq ?_
        refine PWc.block ?_
        refine PWc.seq ?_
        refine PWc.jn (iBind h) (fun (v35 : Bool) (_ : Unit) => ⟨42, [(0, .d (.sl (List.map TPart.e a1))), (1, .d (.sl (List.map TPart.e b2))), (5, .d (.v (.int .i64 i33))), (41, .d (.v (.bool v35)))], []⟩) (fun h => ?_) ?_
        · refine PWc.regionD (by kernel_rfl) (by kernel_rfl) ?_
          refine PQl.step (fun _ he ho => LR.move (he rfl rfl)) rfl ?_
          refine PQl.step (fun _ he ho => LR.move (he rfl rfl)) rfl ?_
          replace h := iIdx h
          obtain ⟨x36, hy37, h⟩ := h
          refine PQl.step (fun _ he ho => LR.idxT (enc := TPart.e) (L := a1) (y := x36) Tryz.underlying23 Tryz.sizeOf80 (he rfl rfl) (he rfl rfl) hy37 (fun _ => rfl)) rfl ?_
          refine PQl.step (fun _ he ho => LR.fieldEp Tryz.underlying80 rfl Tryz.sizeOf29 (by decide) rfl (he rfl rfl)) rfl ?_
          refine PQl.step (fun _ he ho => LR.loadEp Tryz.isAgg29 (he rfl rfl) rfl) rfl ?_
          refine PQl.step (fun _ he ho => LR.move (he rfl rfl)) rfl ?_
          refine PQl.step (fun _ he ho => LR.move (he rfl rfl)) rfl ?_
          replace h := iIdx h
          obtain ⟨x38, hy39, h⟩ := h
          refine PQl.step (fun _ he ho => LR.idxT (enc := TPart.e) (L := b2) (y := x38) Tryz.underlying23 Tryz.sizeOf80 (he rfl rfl) (he rfl rfl) hy39 (fun _ => rfl)) rfl ?_
          refine PQl.step (fun _ he ho => LR.fieldEp Tryz.underlying80 rfl Tryz.sizeOf29 (by decide) rfl (he rfl rfl)) rfl ?_
          refine PQl.step (fun _ he ho => LR.loadEp Tryz.isAgg29 (he rfl rfl) rfl) rfl ?_
          refine PQl.step (fun _ he ho => LR.neq (he rfl rfl) (he rfl rfl)) rfl ?_
          refine PQl.step (fun _ he ho => LR.move (he rfl rfl)) rfl ?_
          refine PQl.split (d := 28) rfl (fun hg40 => ?_) (fun hg40 => ?_)
          · replace h := iT hg40 h
            refine PQl.guardF rfl rfl rfl (by decide) ?_
            refine PQl.guardF rfl rfl rfl (by decide) ?_
            refine PQl.guardF rfl rfl rfl (by decide) ?_
            refine PQl.guardF rfl rfl rfl (by decide) ?_
            refine PQl.guardF rfl rfl rfl (by decide) ?_
            refine PQl.guardF rfl rfl rfl (by decide) ?_
            refine PQl.guardF rfl rfl rfl (by decide) ?_
            refine PQl.guardF rfl rfl rfl (by decide) ?_
            refine PQl.guardF rfl rfl rfl (by decide) ?_
            refine PQl.guardF rfl rfl rfl (by decide) ?_
            refine PQl.guardF rfl rfl rfl (by decide) ?_
            refine PQl.guardF rfl rfl rfl (by decide) ?_
            refine PQl.step (fun _ he ho => LR.pickT (he rfl rfl) (he rfl rfl)) rfl ?_
            refine PQl.nil ?_
            exact ⟨true, (), h, Sub.of rfl (.cons rfl rfl <| .cons rfl rfl <| .cons rfl rfl <| .cons rfl rfl <| .nil) (.nil)⟩
          · replace h := iF hg40 h
            refine PQl.guardT (fun _ he ho => LR.move (he rfl rfl)) rfl rfl rfl ?_
            refine PQl.guardT (fun _ he ho => LR.move (he rfl rfl)) rfl rfl rfl ?_
            replace h := iIdx h
            obtain ⟨x41, hy42, h⟩ := h
            refine PQl.guardT (fun _ he ho => LR.idxT (enc := TPart.e) (L := a1) (y := x41) Tryz.underlying23 Tryz.sizeOf80 (he rfl rfl) (he rfl rfl) hy42 (fun _ => rfl)) rfl rfl rfl ?_
            refine PQl.guardT (fun _ he ho => LR.fieldEp Tryz.underlying80 rfl Tryz.sizeOf37 (by decide) rfl (he rfl rfl)) rfl rfl rfl ?_
            refine PQl.guardT (fun _ he ho => LR.loadEp Tryz.isAgg37 (he rfl rfl) rfl) rfl rfl rfl ?_
            refine PQl.guardT (fun _ he ho => LR.move (he rfl rfl)) rfl rfl rfl ?_
            refine PQl.guardT (fun _ he ho => LR.move (he rfl rfl)) rfl rfl rfl ?_
            replace h := iIdx h
            obtain ⟨x43, hy44, h⟩ := h
            refine PQl.guardT (fun _ he ho => LR.idxT (enc := TPart.e) (L := b2) (y := x43) Tryz.underlying23 Tryz.sizeOf80 (he rfl rfl) (he rfl rfl) hy44 (fun _ => rfl)) rfl rfl rfl ?_
            refine PQl.guardT (fun _ he ho => LR.fieldEp Tryz.underlying80 rfl Tryz.sizeOf37 (by decide) rfl (he rfl rfl)) rfl rfl rfl ?_
            refine PQl.guardT (fun _ he ho => LR.loadEp Tryz.isAgg37 (he rfl rfl) rfl) rfl rfl rfl ?_
            replace h := iDet h
            obtain ⟨v45, hy46, h⟩ := h
            refine PQl.guardT (fun _ he ho => LR.callN (r06_Eq_ok x41.runs x43.runs v45 hy46) (he rfl rfl) Tryz.call26 (evsE he rfl rfl) rfl rfl rfl) rfl rfl rfl ?_
            refine PQl.guardT (fun _ he ho => LR.not (he rfl rfl)) rfl rfl rfl ?_
            refine PQl.step (fun _ he ho => LR.pickF (he rfl rfl) (he rfl rfl)) rfl ?_
            refine PQl.nil ?_
            exact ⟨(!v45), (), h, Sub.of rfl (.cons rfl rfl <| .cons rfl rfl <| .cons rfl rfl <| .cons rfl rfl <| .nil) (.nil)⟩
        · rintro v35 _ h
          refine PWc.cond rfl (fun hc47 => ?_) (fun hc47 => ?_)
          · replace h := iT hc47 h
            refine PWc.seq ?_
            refine PWc.region ?_
            refine PWl.step (LR.assign rfl) rfl ?_
            refine PWl.nil ?_
            refine PWc.ret ?_
            replace h : _ = r0 := h
            subst h
            exact ⟨.inr rfl, _, .cons (.tmp rfl rfl) <| .nil, rfl⟩
          · replace h := iF hc47 h
            refine PWc.skip ?_
            refine PWc.region ?_
            refine PWl.step (LR.move rfl) rfl ?_
            refine PWl.step (LR.addW rfl rfl) rfl ?_
            refine PWl.step (LR.assign rfl) rfl ?_
            refine PWl.nil ?_
            exact ⟨(IntKind.i64.wrap (i33 + 1)), (), h, Sub.of rfl (.cons rfl rfl <| .cons rfl rfl <| .cons rfl rfl <| .nil) (.nil)⟩
      · replace h := iF hc34 h
        refine PWc.exit ?_
        exact ⟨(), (), h, Sub.of rfl (.nil) (.nil)⟩
    · rintro _ _ h
      refine PWc.seq ?_
      refine PWc.region ?_
      refine PWl.step (LR.assign rfl) rfl ?_
      refine PWl.nil ?_
      refine PWc.ret ?_
      replace h : _ = r0 := h
      subst h
      exact ⟨.inr rfl, _, .cons (.tmp rfl rfl) <| .nil, rfl⟩

theorem r07_Same_ok (a1 : List TDot) (b2 : List TDot) (r0 : Bool) (h : (r07_Same a1 b2).wp (· = r0)) : PFun Tryz.prog 36 [.d (.sl (List.map TDot.e a1)), .d (.sl (List.map TDot.e b2))] (.d (.v (.bool r0))) := by
  refine PFun.intro (sl := [(0, _), (1, _)]) Tryz.func36 rfl Tryz.ntmps36 rfl rfl ?_
  intro ctx hK
  refine PWc.seq ?_
  refine PWc.region ?_
  refine PWl.step (LR.assign rfl) rfl ?_
  refine PWl.nil ?_
  refine PWc.seq ?_
  refine PWc.seq ?_
  refine PWc.region ?_
  refine PWl.step (LR.move rfl) rfl ?_
  refine PWl.step (LR.lenMap (enc := TDot.e) (L := a1) Tryz.underlying28 rfl) rfl ?_
  refine PWl.step (LR.move rfl) rfl ?_
  refine PWl.step (LR.lenMap (enc := TDot.e) (L := b2) Tryz.underlying28 rfl) rfl ?_
  refine PWl.step (LR.neq rfl rfl) rfl ?_
  refine PWl.nil ?_
  refine PWc.cond rfl (fun hc3 => ?_) (fun hc3 => ?_)
  · replace h := iT hc3 h
    refine PWc.seq ?_
    refine PWc.region ?_
    refine PWl.step (LR.assign rfl) rfl ?_
    refine PWl.nil ?_
    refine PWc.ret ?_
    replace h : _ = r0 := h
    subst h
    exact ⟨.inr rfl, _, .cons (.tmp rfl rfl) <| .nil, rfl⟩
  · replace h := iF hc3 h
    refine PWc.skip ?_
    refine PWc.seq ?_
    refine PWc.seq ?_
    refine PWc.region ?_
    refine PWl.step (LR.assign rfl) rfl ?_
    refine PWl.nil ?_
    refine PWc.jnX (iBind h) (fun (_ : Unit) (_ : Unit) => ⟨26, [], []⟩) (fun h => ?_) ?_
    · refine PWc.block ?_
      refine PWc.loopM (fun (i17 : Int) (_ : Unit) => ⟨26, [(0, .d (.sl (List.map TDot.e a1))), (1, .d (.sl (List.map TDot.e b2))), (5, .d (.v (.int .i64 i17)))], []⟩) () h (Sub.of rfl (.cons rfl rfl <| .cons rfl rfl <| .cons rfl rfl <| .nil) (.nil)) ?_
      rintro N i17 _ h
      refine PWc.seq ?_
      refine PWc.seq ?_
      refine PWc.region ?_
      refine PWl.step (LR.move rfl) rfl ?_
      refine PWl.step (LR.move rfl) rfl ?_
      refine PWl.step (LR.lenMap (enc := TDot.e) (L := a1) Tryz.underlying28 rfl) rfl ?_
      refine PWl.step (LR.lss rfl rfl) rfl ?_
      refine PWl.nil ?_
      refine PWc.cond rfl (fun hc18 => ?_) (fun hc18 => ?_)
      · replace h := iT hc18 h
        refine PWc.skip ?_
        refine PWc.seq ?_
        refine PWc.block ?_
        refine PWc.seq ?_
        refine PWc.regionD (by kernel_rfl) (by kernel_rfl) ?_
        refine PQl.step (fun _ he ho => LR.move (he rfl rfl)) rfl ?_
        refine PQl.step (fun _ he ho => LR.move (he rfl rfl)) rfl ?_
        replace h := iIdx h
        obtain ⟨x19, hy20, h⟩ := h
        refine PQl.step (fun _ he ho => LR.idxT (enc := TDot.e) (L := a1) (y := x19) Tryz.underlying28 Tryz.sizeOf32 (he rfl rfl) (he rfl rfl) hy20 (fun _ => rfl)) rfl ?_
        refine PQl.step (fun _ he ho => LR.loadEpAgg (ys := [_, _]) Tryz.isAgg32 Tryz.sizeOf32 (he rfl rfl) rfl rfl) rfl ?_
        refine PQl.step (fun _ he ho => LR.move (he rfl rfl)) rfl ?_
        refine PQl.step (fun _ he ho => LR.move (he rfl rfl)) rfl ?_
        replace h := iIdx h
        obtain ⟨x21, hy22, h⟩ := h
        refine PQl.step (fun _ he ho => LR.idxT (enc := TDot.e) (L := b2) (y := x21) Tryz.underlying28 Tryz.sizeOf32 (he rfl rfl) (he rfl rfl) hy22 (fun _ => rfl)) rfl ?_
        refine PQl.step (fun _ he ho => LR.loadEpAgg (ys := [_, _]) Tryz.isAgg32 Tryz.sizeOf32 (he rfl rfl) rfl rfl) rfl ?_
        refine PQl.step (fun _ he ho => LR.neqAgg (he rfl rfl) (he rfl rfl) rfl rfl eq32) rfl ?_
        refine PQl.nil ?_
        refine PWc.cond rfl (fun hc23 => ?_) (fun hc23 => ?_)
        · replace h := iT hc23 h
          refine PWc.seq ?_
          refine PWc.region ?_
          refine PWl.step (LR.assign rfl) rfl ?_
          refine PWl.nil ?_
          refine PWc.ret ?_
          replace h : _ = r0 := h
          subst h
          exact ⟨.inr rfl, _, .cons (.tmp rfl rfl) <| .nil, rfl⟩
        · replace h := iF hc23 h
          refine PWc.skip ?_
          refine PWc.region ?_
          refine PWl.step (LR.move rfl) rfl ?_
          refine PWl.step (LR.addW rfl rfl) rfl ?_
          refine PWl.step (LR.assign rfl) rfl ?_
          refine PWl.nil ?_
          exact ⟨(IntKind.i64.wrap (i17 + 1)), (), h, Sub.of rfl (.cons rfl rfl <| .cons rfl rfl <| .cons rfl rfl <| .nil) (.nil)⟩
      · replace h := iF hc18 h
        refine PWc.exit ?_
        exact ⟨(), (), h, Sub.of rfl (.nil) (.nil)⟩
    · rintro _ _ h
      refine PWc.seq ?_
      refine PWc.region ?_
      refine PWl.step (LR.assign rfl) rfl ?_
      refine PWl.nil ?_
      refine PWc.ret ?_
      replace h : _ = r0 := h
      subst h
      exact ⟨.inr rfl, _, .cons (.tmp rfl rfl) <| .nil, rfl⟩

theorem cmp_isNaN_uint64_ok (x1 : Int) (r0 : Bool) (h : (cmp_isNaN_uint64 x1).wp (· = r0)) : PFun Tryz.prog 131 [.d (.v (.int .u64 x1))] (.d (.v (.bool r0))) := by
  refine PFun.intro (sl := [(0, _)]) Tryz.func131 rfl Tryz.ntmps131 rfl rfl ?_
  intro ctx hK
  refine PWc.seq ?_
  refine PWc.region ?_
  refine PWl.step (LR.assign rfl) rfl ?_
  refine PWl.nil ?_
  refine PWc.seq ?_
  refine PWc.region ?_
  refine PWl.step (LR.move rfl) rfl ?_
  refine PWl.step (LR.move rfl) rfl ?_
  refine PWl.step (LR.neq rfl rfl) rfl ?_
  refine PWl.step (LR.assign rfl) rfl ?_
  refine PWl.nil ?_
  refine PWc.ret ?_
  replace h : _ = r0 := h
  subst h
  exact ⟨.inr rfl, _, .cons (.tmp rfl rfl) <| .nil, rfl⟩

theorem cmp_Compare_uint64_ok (x1 : Int) (y2 : Int) (r0 : Int) (h : (cmp_Compare_uint64 x1 y2).wp (· = r0)) : PFun Tryz.prog 107 [.d (.v (.int .u64 x1)), .d (.v (.int .u64 y2))] (.d (.v (.int .i64 r0))) := by
  refine PFun.intro (sl := [(0, _), (1, _)]) Tryz.func107 rfl Tryz.ntmps107 rfl rfl ?_
  intro ctx hK
  refine PWc.seq ?_
  refine PWc.region ?_
  refine PWl.step (LR.assign rfl) rfl ?_
  refine PWl.nil ?_
  refine PWc.seq ?_
  refine PWc.region ?_
  refine PWl.step (LR.move rfl) rfl ?_
  replace h := iDet h
  obtain ⟨v3, hy4, h⟩ := h
  refine PWl.step (LR.callN (cmp_isNaN_uint64_ok x1 v3 hy4) rfl Tryz.call131 rfl rfl rfl rfl) rfl ?_
  refine PWl.step (LR.assign rfl) rfl ?_
  refine PWl.nil ?_
  refine PWc.seq ?_
  refine PWc.region ?_
  refine PWl.step (LR.move rfl) rfl ?_
  replace h := iDet h
  obtain ⟨v5, hy6, h⟩ := h
  refine PWl.step (LR.callN (cmp_isNaN_uint64_ok y2 v5 hy6) rfl Tryz.call131 rfl rfl rfl rfl) rfl ?_
  refine PWl.step (LR.assign rfl) rfl ?_
  refine PWl.nil ?_
  refine PWc.seq ?_
  refine PWc.seq ?_
  refine PWc.region ?_
  refine PWl.step (LR.move rfl) rfl ?_
  refine PWl.nil ?_
  refine PWc.cond rfl (fun hc7 => ?_) (fun hc7 => ?_)
  · replace h := iT hc7 h
    refine PWc.seq ?_
    refine PWc.seq ?_
    refine PWc.region ?_
    refine PWl.step (LR.move rfl) rfl ?_
    refine PWl.nil ?_
    refine PWc.cond rfl (fun hc8 => ?_) (fun hc8 => ?_)
    · replace h := iT hc8 h
      refine PWc.seq ?_
      refine PWc.region ?_
      refine PWl.step (LR.assign rfl) rfl ?_
      refine PWl.nil ?_
      refine PWc.ret ?_
      replace h : _ = r0 := h
      subst h
      exact ⟨.inr rfl, _, .cons (.tmp rfl rfl) <| .nil, rfl⟩
    · replace h := iF hc8 h
      refine PWc.skip ?_
      refine PWc.seq ?_
      refine PWc.region ?_
      refine PWl.step (LR.assign rfl) rfl ?_
      refine PWl.nil ?_
      refine PWc.ret ?_
      replace h : _ = r0 := h
      subst h
      exact ⟨.inr rfl, _, .cons (.tmp rfl rfl) <| .nil, rfl⟩
  · replace h := iF hc7 h
    refine PWc.skip ?_
    refine PWc.seq ?_
    refine PWc.seq ?_
    refine PWc.region ?_
    refine PWl.step (LR.move rfl) rfl ?_
    refine PWl.nil ?_
    refine PWc.cond rfl (fun hc9 => ?_) (fun hc9 => ?_)
    · replace h := iT hc9 h
      refine PWc.seq ?_
      refine PWc.region ?_
      refine PWl.step (LR.assign rfl) rfl ?_
      refine PWl.nil ?_
      refine PWc.ret ?_
      replace h : _ = r0 := h
      subst h
      exact ⟨.inr rfl, _, .cons (.tmp rfl rfl) <| .nil, rfl⟩
    · replace h := iF hc9 h
      refine PWc.skip ?_
      refine PWc.seq ?_
      refine PWc.seq ?_
      refine PWc.region ?_
      refine PWl.step (LR.move rfl) rfl ?_
      refine PWl.step (LR.move rfl) rfl ?_
      refine PWl.step (LR.lss rfl rfl) rfl ?_
      refine PWl.nil ?_
      refine PWc.cond rfl (fun hc10 => ?_) (fun hc10 => ?_)
      · replace h := iT hc10 h
        refine PWc.seq ?_
        refine PWc.region ?_
        refine PWl.step (LR.assign rfl) rfl ?_
        refine PWl.nil ?_
        refine PWc.ret ?_
        replace h : _ = r0 := h
        subst h
        exact ⟨.inr rfl, _, .cons (.tmp rfl rfl) <| .nil, rfl⟩
      · replace h := iF hc10 h
        refine PWc.skip ?_
        refine PWc.seq ?_
        refine PWc.seq ?_
        refine PWc.region ?_
        refine PWl.step (LR.move rfl) rfl ?_
        refine PWl.step (LR.move rfl) rfl ?_
        refine PWl.step (LR.gtr rfl rfl) rfl ?_
        refine PWl.nil ?_
        refine PWc.cond rfl (fun hc11 => ?_) (fun hc11 => ?_)
        · replace h := iT hc11 h
          refine PWc.seq ?_
          refine PWc.region ?_
          refine PWl.step (LR.assign rfl) rfl ?_
          refine PWl.nil ?_
          refine PWc.ret ?_
          replace h : _ = r0 := h
          subst h
          exact ⟨.inr rfl, _, .cons (.tmp rfl rfl) <| .nil, rfl⟩
        · replace h := iF hc11 h
          refine PWc.skip ?_
          refine PWc.seq ?_
          refine PWc.region ?_
          refine PWl.step (LR.assign rfl) rfl ?_
          refine PWl.nil ?_
          refine PWc.ret ?_
          replace h : _ = r0 := h
          subst h
          exact ⟨.inr rfl, _, .cons (.tmp rfl rfl) <| .nil, rfl⟩

theorem runs_Norm_c1_ok (a1 : TRun) (b2 : TRun) (r0 : Int) (h : (runs_Norm_c1 a1 b2).wp (· = r0)) : PFun Tryz.prog 106 [.agg (List.map .d (TRun.e a1)), .agg (List.map .d (TRun.e b2))] (.d (.v (.int .i64 r0))) := by
  refine PFun.intro (sl := [(0, _), (1, _)]) Tryz.func106 rfl Tryz.ntmps106 rfl rfl ?_
  intro ctx hK
  refine PWc.seq ?_
  refine PWc.region ?_
  refine PWl.step (LR.box rfl rfl rfl rfl) rfl ?_
  refine PWl.step (LR.box rfl rfl rfl rfl) rfl ?_
  refine PWl.step (LR.assign rfl) rfl ?_
  refine PWl.nil ?_
  refine PWc.seq ?_
  refine PWc.region ?_
  refine PWl.step (LR.fieldRef Tryz.underlying89 rfl Tryz.sizeOf30 (by decide) rfl rfl) rfl ?_
  refine PWl.step (LR.loadRef Tryz.isAgg30 rfl rfl rfl) rfl ?_
  refine PWl.step (LR.fieldRef Tryz.underlying89 rfl Tryz.sizeOf30 (by decide) rfl rfl) rfl ?_
  refine PWl.step (LR.loadRef Tryz.isAgg30 rfl rfl rfl) rfl ?_
  replace h := iDet h
  obtain ⟨v3, hy4, h⟩ := h
  refine PWl.step (LR.callN (cmp_Compare_uint64_ok a1.lo b2.lo v3 hy4) rfl Tryz.call107 rfl rfl rfl rfl) rfl ?_
  refine PWl.step (LR.assign rfl) rfl ?_
  refine PWl.nil ?_
  refine PWc.ret ?_
  replace h : _ = r0 := h
  subst h
  exact ⟨.inr rfl, _, .cons (.tmp rfl rfl) <| .nil, rfl⟩
end Go.Proofs

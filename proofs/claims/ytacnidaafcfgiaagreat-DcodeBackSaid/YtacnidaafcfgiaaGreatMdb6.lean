/- Texts that the walks and laws lean on, side by side. -/
import Derived.Test.YtacnidaafcfgiaaGreatMdb2
import Derived.Test.YtacnidaafcfgiaaGreatMdb3
import Derived.Test.YtacnidaafcfgiaaGreatMdb4
import Derived.Test.YtacnidaafcfgiaaGreatMdb5
namespace Go.Proofs
open Go.Ep
set_option maxHeartbeats 1000000
set_option maxRecDepth 100000
set_option linter.unusedVariables false
set_option linter.unusedSimpArgs false


theorem r06_Eq_ok (a1 : List TRun) (b2 : List TRun) (r0 : Bool) (h : (r06_Eq a1 b2).wp (· = r0)) : PFun Tryz.prog 26 [.d (.sl (List.map TRun.e a1)), .d (.sl (List.map TRun.e b2))] (.d (.v (.bool r0))) := by
  refine PFun.intro (sl := [(0, _), (1, _)]) Tryz.func26 rfl Tryz.ntmps26 rfl rfl ?_
  intro ctx hK
  refine PWc.seq ?_
  refine PWc.region ?_
  refine PWl.step (LR.assign rfl) rfl ?_
  refine PWl.nil ?_
  refine PWc.seq ?_
  refine PWc.seq ?_
  refine PWc.region ?_
  refine PWl.step (LR.move rfl) rfl ?_
  refine PWl.step (LR.lenMap (enc := TRun.e) (L := a1) Tryz.underlying37 rfl) rfl ?_
  refine PWl.step (LR.move rfl) rfl ?_
  refine PWl.step (LR.lenMap (enc := TRun.e) (L := b2) Tryz.underlying37 rfl) rfl ?_
  refine PWl.step (LR.neq rfl rfl) rfl ?_
  refine PWl.nil ?_
  refine PWc.cond rfl (fun hc3 => ?_) (fun hc3 => ?_)
  · replace h := iT hc3 h
    refine PWc.seq ?_
    refine PWc.region ?_
    refine PWl.step (LR.assign rfl) rfl ?_
    refine PWl.nil ?_
    refine PWc.ret ?_
    replace h : _ = r0 := h
    subst h
    exact ⟨.inr rfl, _, .cons (.tmp rfl rfl) <| .nil, rfl⟩
  · replace h := iF hc3 h
    refine PWc.skip ?_
    refine PWc.seq ?_
    refine PWc.seq ?_
    refine PWc.region ?_
    refine PWl.step (LR.assign rfl) rfl ?_
    refine PWl.nil ?_
    refine PWc.jnX (iBind h) (fun (_ : Unit) (_ : Unit) => ⟨26, [], []⟩) (fun h => ?_) ?_
    · refine PWc.block ?_
      refine PWc.loopM (fun (i17 : Int) (_ : Unit) => ⟨26, [(0, .d (.sl (List.map TRun.e a1))), (1, .d (.sl (List.map TRun.e b2))), (5, .d (.v (.int .i64 i17)))], []⟩) () h (Sub.of rfl (.cons rfl rfl <| .cons rfl rfl <| .cons rfl rfl <| .nil) (.nil)) ?_
      rintro N i17 _ h
      refine PWc.seq ?_
      refine PWc.seq ?_
      refine PWc.region ?_
      refine PWl.step (LR.move rfl) rfl ?_
      refine PWl.step (LR.move rfl) rfl ?_
      refine PWl.step (LR.lenMap (enc := TRun.e) (L := a1) Tryz.underlying37 rfl) rfl ?_
      refine PWl.step (LR.lss rfl rfl) rfl ?_
      refine PWl.nil ?_
      refine PWc.cond rfl (fun hc18 => ?_) (fun hc18 => ?_)
      · replace h := iT hc18 h
        refine PWc.skip ?_
        refine PWc.seq ?_
        refine PWc.block ?_
        refine PWc.seq ?_
        refine PWc.regionD (by kernel_rfl) (by kernel_rfl) ?_
        refine PQl.step (fun _ he ho => LR.move (he rfl rfl)) rfl ?_
        refine PQl.step (fun _ he ho => LR.move (he rfl rfl)) rfl ?_
        replace h := iIdx h
        obtain ⟨x19, hy20, h⟩ := h
        refine PQl.step (fun _ he ho => LR.idxT (enc := TRun.e) (L := a1) (y := x19) Tryz.underlying37 Tryz.sizeOf89 (he rfl rfl) (he rfl rfl) hy20 (fun _ => rfl)) rfl ?_
        refine PQl.step (fun _ he ho => LR.loadEpAgg (ys := [_, _]) Tryz.isAgg89 Tryz.sizeOf89 (he rfl rfl) rfl rfl) rfl ?_
        refine PQl.step (fun _ he ho => LR.move (he rfl rfl)) rfl ?_
        refine PQl.step (fun _ he ho => LR.move (he rfl rfl)) rfl ?_
        replace h := iIdx h
        obtain ⟨x21, hy22, h⟩ := h
        refine PQl.step (fun _ he ho => LR.idxT (enc := TRun.e) (L := b2) (y := x21) Tryz.underlying37 Tryz.sizeOf89 (he rfl rfl) (he rfl rfl) hy22 (fun _ => rfl)) rfl ?_
        refine PQl.step (fun _ he ho => LR.loadEpAgg (ys := [_, _]) Tryz.isAgg89 Tryz.sizeOf89 (he rfl rfl) rfl rfl) rfl ?_
        refine PQl.step (fun _ he ho => LR.neqAgg (he rfl rfl) (he rfl rfl) rfl rfl eq89) rfl ?_
        refine PQl.nil ?_
        refine PWc.cond rfl (fun hc23 => ?_) (fun hc23 => ?_)
        · replace h := iT hc23 h
          refine PWc.seq ?_
          refine PWc.region ?_
          refine PWl.step (LR.assign rfl) rfl ?_
          refine PWl.nil ?_
          refine PWc.ret ?_
          replace h : _ = r0 := h
          subst h
          exact ⟨.inr rfl, _, .cons (.tmp rfl rfl) <| .nil, rfl⟩
        · replace h := iF hc23 h
          refine PWc.skip ?_
          refine PWc.region ?_
          refine PWl.step (LR.move rfl) rfl ?_
          refine PWl.step (LR.addW rfl rfl) rfl ?_
          refine PWl.step (LR.assign rfl) rfl ?_
          refine PWl.nil ?_
          exact ⟨(IntKind.i64.wrap (i17 + 1)), (), h, Sub.of rfl (.cons rfl rfl <| .cons rfl rfl <| .cons rfl rfl <| .nil) (.nil)⟩
      · replace h := iF hc18 h
        refine PWc.exit ?_
        exact ⟨(), (), h, Sub.of rfl (.nil) (.nil)⟩
    · rintro _ _ h
      refine PWc.seq ?_
      refine PWc.region ?_
      refine PWl.step (LR.assign rfl) rfl ?_
      refine PWl.nil ?_
      refine PWc.ret ?_
      replace h : _ = r0 := h
      subst h
      exact ⟨.inr rfl, _, .cons (.tmp rfl rfl) <| .nil, rfl⟩

theorem r09_Eq_ok (a1 : List TPart) (b2 : List TPart) (r0 : Bool) (h : (r09_Eq a1 b2).wp (· = r0)) : PFun Tryz.prog 9 [.d (.sl (List.map TPart.e a1)), .d (.sl (List.map TPart.e b2))] (.d (.v (.bool r0))) := by
  refine PFun.intro (sl := [(0, _), (1, _)]) Tryz.func9 rfl Tryz.ntmps9 rfl rfl ?_
  intro ctx hK
  refine PWc.seq ?_
  refine PWc.region ?_
  refine PWl.step (LR.assign rfl) rfl ?_
  refine PWl.nil ?_
  refine PWc.seq ?_
  refine PWc.seq ?_
  refine PWc.region ?_
  refine PWl.step (LR.move rfl) rfl ?_
  refine PWl.step (LR.lenMap (enc := TPart.e) (L := a1) Tryz.underlying23 rfl) rfl ?_
  refine PWl.step (LR.move rfl) rfl ?_
  refine PWl.step (LR.lenMap (enc := TPart.e) (L := b2) Tryz.underlying23 rfl) rfl ?_
  refine PWl.step (LR.neq rfl rfl) rfl ?_
  refine PWl.nil ?_
  refine PWc.cond rfl (fun hc3 => ?_) (fun hc3 => ?_)
  · replace h := iT hc3 h
    refine PWc.seq ?_
    refine PWc.region ?_
    refine PWl.step (LR.assign rfl) rfl ?_
    refine PWl.nil ?_
    refine PWc.ret ?_
    replace h : _ = r0 := h
    subst h
    exact ⟨.inr rfl, _, .cons (.tmp rfl rfl) <| .nil, rfl⟩
  · replace h := iF hc3 h
    refine PWc.skip ?_
    refine PWc.seq ?_
    refine PWc.seq ?_
    refine PWc.region ?_
    refine PWl.step (LR.assign rfl) rfl ?_
    refine PWl.nil ?_
    refine PWc.jnX (iBind h) (fun (_ : Unit) (_ : Unit) => ⟨42, [], []⟩) (fun h => ?_) ?_
    · refine PWc.block ?_
      refine PWc.loopM (fun (i33 : Int) (_ : Unit) => ⟨42, [(0, .d (.sl (List.map TPart.e a1))), (1, .d (.sl (List.map TPart.e b2))), (5, .d (.v (.int .i64 i33)))], []⟩) () h (Sub.of rfl (.cons rfl rfl <| .cons rfl rfl <| .cons rfl rfl <| .nil) (.nil)) ?_
      rintro N i33 _ h
      refine PWc.seq ?_
      refine PWc.seq ?_
      refine PWc.region ?_
      refine PWl.step (LR.move rfl) rfl ?_
      refine PWl.step (LR.move rfl) rfl ?_
      refine PWl.step (LR.lenMap (enc := TPart.e) (L := a1) Tryz.underlying23 rfl) rfl ?_
      refine PWl.step (LR.lss rfl rfl) rfl ?_
      refine PWl.nil ?_
      refine PWc.cond rfl (fun hc34 => ?_) (fun hc34 => ?_)
      · replace h := iT hc34 h
        refine PWc.skip ?_
        refine PWc.seq ?_
        refine PWc.block ?_
        refine PWc.seq ?_
        refine PWc.jn (iBind h) (fun (v35 : Bool) (_ : Unit) => ⟨42, [(0, .d (.sl (List.map TPart.e a1))), (1, .d (.sl (List.map TPart.e b2))), (5, .d (.v (.int .i64 i33))), (41, .d (.v (.bool v35)))], []⟩) (fun h => ?_) ?_
        · refine PWc.regionD (by kernel_rfl) (by kernel_rfl) ?_
          refine PQl.step (fun _ he ho => LR.move (he rfl rfl)) rfl ?_
          refine PQl.step (fun _ he ho => LR.move (he rfl rfl)) rfl ?_
          replace h := iIdx h
          obtain ⟨x36, hy37, h⟩ := h
          refine PQl.step (fun _ he ho => LR.idxT (enc := TPart.e) (L := a1) (y := x36) Tryz.underlying23 Tryz.sizeOf80 (he rfl rfl) (he rfl rfl) hy37 (fun _ => rfl)) rfl ?_
          refine PQl.step (fun _ he ho => LR.fieldEp Tryz.underlying80 rfl Tryz.sizeOf29 (by decide) rfl (he rfl rfl)) rfl ?_
          refine PQl.step (fun _ he ho => LR.loadEp Tryz.isAgg29 (he rfl rfl) rfl) rfl ?_
          refine PQl.step (fun _ he ho => LR.move (he rfl rfl)) rfl ?_
          refine PQl.step (fun _ he ho => LR.move (he rfl rfl)) rfl ?_
          replace h := iIdx h
          obtain ⟨x38, hy39, h⟩ := h
          refine PQl.step (fun _ he ho => LR.idxT (enc := TPart.e) (L := b2) (y := x38) Tryz.underlying23 Tryz.sizeOf80 (he rfl rfl) (he rfl rfl) hy39 (fun _ => rfl)) rfl ?_
          refine PQl.step (fun _ he ho => LR.fieldEp Tryz.underlying80 rfl Tryz.sizeOf29 (by decide) rfl (he rfl rfl)) rfl ?_
          refine PQl.step (fun _ he ho => LR.loadEp Tryz.isAgg29 (he rfl rfl) rfl) rfl ?_
          refine PQl.step (fun _ he ho => LR.neq (he rfl rfl) (he rfl rfl)) rfl ?_
          refine PQl.step (fun _ he ho => LR.move (he rfl rfl)) rfl ?_
          refine PQl.split (d := 28) rfl (fun hg40 => ?_) (fun hg40 => ?_)
          · replace h := iT hg40 h
            refine PQl.guardF rfl rfl rfl (by decide) ?_
            refine PQl.guardF rfl rfl rfl (by decide) ?_
            refine PQl.guardF rfl rfl rfl (by decide) ?_
            refine PQl.guardF rfl rfl rfl (by decide) ?_
            refine PQl.guardF rfl rfl rfl (by decide) ?_
            refine PQl.guardF rfl rfl rfl (by decide) ?_
            refine PQl.guardF rfl rfl rfl (by decide) ?_
            refine PQl.guardF rfl rfl rfl (by decide) ?_
            refine PQl.guardF rfl rfl rfl (by decide) ?_
            refine PQl.guardF rfl rfl rfl (by decide) ?_
            refine PQl.guardF rfl rfl rfl (by decide) ?_
            refine PQl.guardF rfl rfl rfl (by decide) ?_
            refine PQl.step (fun _ he ho => LR.pickT (he rfl rfl) (he rfl rfl)) rfl ?_
            refine PQl.nil ?_
            exact ⟨true, (), h, Sub.of rfl (.cons rfl rfl <| .cons rfl rfl <| .cons rfl rfl <| .cons rfl rfl <| .nil) (.nil)⟩
          · replace h := iF hg40 h
            refine PQl.guardT (fun _ he ho => LR.move (he rfl rfl)) rfl rfl rfl ?_
            refine PQl.guardT (fun _ he ho => LR.move (he rfl rfl)) rfl rfl rfl ?_
            replace h := iIdx h
            obtain ⟨x41, hy42, h⟩ := h
            refine PQl.guardT (fun _ he ho => LR.idxT (enc := TPart.e) (L := a1) (y := x41) Tryz.underlying23 Tryz.sizeOf80 (he rfl rfl) (he rfl rfl) hy42 (fun _ => rfl)) rfl rfl rfl ?_
            refine PQl.guardT (fun _ he ho => LR.fieldEp Tryz.underlying80 rfl Tryz.sizeOf37 (by decide) rfl (he rfl rfl)) rfl rfl rfl ?_
            refine PQl.guardT (fun _ he ho => LR.loadEp Tryz.isAgg37 (he rfl rfl) rfl) rfl rfl rfl ?_
            refine PQl.guardT (fun _ he ho => LR.move (he rfl rfl)) rfl rfl rfl ?_
            refine PQl.guardT (fun _ he ho => LR.move (he rfl rfl)) rfl rfl rfl ?_
            replace h := iIdx h
            obtain ⟨x43, hy44, h⟩ := h
            refine PQl.guardT (fun _ he ho => LR.idxT (enc := TPart.e) (L := b2) (y := x43) Tryz.underlying23 Tryz.sizeOf80 (he rfl rfl) (he rfl rfl) hy44 (fun _ => rfl)) rfl rfl rfl ?_
            refine PQl.guardT (fun _ he ho => LR.fieldEp Tryz.underlying80 rfl Tryz.sizeOf37 (by decide) rfl (he rfl rfl)) rfl rfl rfl ?_
            refine PQl.guardT (fun _ he ho => LR.loadEp Tryz.isAgg37 (he rfl rfl) rfl) rfl rfl rfl ?_
            replace h := iDet h
            obtain ⟨v45, hy46, h⟩ := h
            refine PQl.guardT (fun _ he ho => LR.callN (r06_Eq_ok x41.runs x43.runs v45 hy46) (he rfl rfl) Tryz.call26 (evsE he rfl rfl) rfl rfl rfl) rfl rfl rfl ?_
            refine PQl.guardT (fun _ he ho => LR.not (he rfl rfl)) rfl rfl rfl ?_
            refine PQl.step (fun _ he ho => LR.pickF (he rfl rfl) (he rfl rfl)) rfl ?_
            refine PQl.nil ?_
            exact ⟨(!v45), (), h, Sub.of rfl (.cons rfl rfl <| .cons rfl rfl <| .cons rfl rfl <| .cons rfl rfl <| .nil) (.nil)⟩
        · rintro v35 _ h
          refine PWc.cond rfl (fun hc47 => ?_) (fun hc47 => ?_)
          · replace h := iT hc47 h
            refine PWc.seq ?_
            refine PWc.region ?_
            refine PWl.step (LR.assign rfl) rfl ?_
            refine PWl.nil ?_
            refine PWc.ret ?_
            replace h : _ = r0 := h
            subst h
            exact ⟨.inr rfl, _, .cons (.tmp rfl rfl) <| .nil, rfl⟩
          · replace h := iF hc47 h
            refine PWc.skip ?_
            refine PWc.region ?_
            refine PWl.step (LR.move rfl) rfl ?_
            refine PWl.step (LR.addW rfl rfl) rfl ?_
            refine PWl.step (LR.assign rfl) rfl ?_
            refine PWl.nil ?_
            exact ⟨(IntKind.i64.wrap (i33 + 1)), (), h, Sub.of rfl (.cons rfl rfl <| .cons rfl rfl <| .cons rfl rfl <| .nil) (.nil)⟩
      · replace h := iF hc34 h
        refine PWc.exit ?_
        exact ⟨(), (), h, Sub.of rfl (.nil) (.nil)⟩
    · rintro _ _ h
      refine PWc.seq ?_
      refine PWc.region ?_
      refine PWl.step (LR.assign rfl) rfl ?_
      refine PWl.nil ?_
      refine PWc.ret ?_
      replace h : _ = r0 := h
      subst h
      exact ⟨.inr rfl, _, .cons (.tmp rfl rfl) <| .nil, rfl⟩

theorem r07_Same_ok (a1 : List TDot) (b2 : List TDot) (r0 : Bool) (h : (r07_Same a1 b2).wp (· = r0)) : PFun Tryz.prog 36 [.d (.sl (List.map TDot.e a1)), .d (.sl (List.map TDot.e b2))] (.d (.v (.bool r0))) := by
  refine PFun.intro (sl := [(0, _), (1, _)]) Tryz.func36 rfl Tryz.ntmps36 rfl rfl ?_
  intro ctx hK
  refine PWc.seq ?_
  refine PWc.region ?_
  refine PWl.step (LR.assign rfl) rfl ?_
  refine PWl.nil ?_
  refine PWc.seq ?_
  refine PWc.seq ?_
  refine PWc.region ?_
  refine PWl.step (LR.move rfl) rfl ?_
  refine PWl.step (LR.lenMap (enc := TDot.e) (L := a1) Tryz.underlying28 rfl) rfl ?_
  refine PWl.step (LR.move rfl) rfl ?_
  refine PWl.step (LR.lenMap (enc := TDot.e) (L := b2) Tryz.underlying28 rfl) rfl ?_
  refine PWl.step (LR.neq rfl rfl) rfl ?_
  refine PWl.nil ?_
  refine PWc.cond rfl (fun hc3 => ?_) (fun hc3 => ?_)
  · replace h := iT hc3 h
    refine PWc.seq ?_
    refine PWc.region ?_
    refine PWl.step (LR.assign rfl) rfl ?_
    refine PWl.nil ?_
    refine PWc.ret ?_
    replace h : _ = r0 := h
    subst h
    exact ⟨.inr rfl, _, .cons (.tmp rfl rfl) <| .nil, rfl⟩
  · replace h := iF hc3 h
    refine PWc.skip ?_
    refine PWc.seq ?_
    refine PWc.seq ?_
    refine PWc.region ?_
    refine PWl.step (LR.assign rfl) rfl ?_
    refine PWl.nil ?_
    refine PWc.jnX (iBind h) (fun (_ : Unit) (_ : Unit) => ⟨26, [], []⟩) (fun h => ?_) ?_
    · refine PWc.block ?_
      refine PWc.loopM (fun (i17 : Int) (_ : Unit) => ⟨26, [(0, .d (.sl (List.map TDot.e a1))), (1, .d (.sl (List.map TDot.e b2))), (5, .d (.v (.int .i64 i17)))], []⟩) () h (Sub.of rfl (.cons rfl rfl <| .cons rfl rfl <| .cons rfl rfl <| .nil) (.nil)) ?_
      rintro N i17 _ h
      refine PWc.seq ?_
      refine PWc.seq ?_
      refine PWc.region ?_
      refine PWl.step (LR.move rfl) rfl ?_
      refine PWl.step (LR.move rfl) rfl ?_
      refine PWl.step (LR.lenMap (enc := TDot.e) (L := a1) Tryz.underlying28 rfl) rfl ?_
      refine PWl.step (LR.lss rfl rfl) rfl ?_
      refine PWl.nil ?_
      refine PWc.cond rfl (fun hc18 => ?_) (fun hc18 => ?_)
      · replace h := iT hc18 h
        refine PWc.skip ?_
        refine PWc.seq ?_
        refine PWc.block ?_
        refine PWc.seq ?_
        refine PWc.regionD (by kernel_rfl) (by kernel_rfl) ?_
        refine PQl.step (fun _ he ho => LR.move (he rfl rfl)) rfl ?_
        refine PQl.step (fun _ he ho => LR.move (he rfl rfl)) rfl ?_
        replace h := iIdx h
        obtain ⟨x19, hy20, h⟩ := h
        refine PQl.step (fun _ he ho => LR.idxT (enc := TDot.e) (L := a1) (y := x19) Tryz.underlying28 Tryz.sizeOf32 (he rfl rfl) (he rfl rfl) hy20 (fun _ => rfl)) rfl ?_
        refine PQl.step (fun _ he ho => LR.loadEpAgg (ys := [_, _]) Tryz.isAgg32 Tryz.sizeOf32 (he rfl rfl) rfl rfl) rfl ?_
        refine PQl.step (fun _ he ho => LR.move (he rfl rfl)) rfl ?_
        refine PQl.step (fun _ he ho => LR.move (he rfl rfl)) rfl ?_
        replace h := iIdx h
        obtain ⟨x21, hy22, h⟩ := h
        refine PQl.step (fun _ he ho => LR.idxT (enc := TDot.e) (L := b2) (y := x21) Tryz.underlying28 Tryz.sizeOf32 (he rfl rfl) (he rfl rfl) hy22 (fun _ => rfl)) rfl ?_
        refine PQl.step (fun _ he ho => LR.loadEpAgg (ys := [_, _]) Tryz.isAgg32 Tryz.sizeOf32 (he rfl rfl) rfl rfl) rfl ?_
        refine PQl.step (fun _ he ho => LR.neqAgg (he rfl rfl) (he rfl rfl) rfl rfl eq32) rfl ?_
        refine PQl.nil ?_
        refine PWc.cond rfl (fun hc23 => ?_) (fun hc23 => ?_)
        · replace h := iT hc23 h
          refine PWc.seq ?_
          refine PWc.region ?_
          refine PWl.step (LR.assign rfl) rfl ?_
          refine PWl.nil ?_
          refine PWc.ret ?_
          replace h : _ = r0 := h
          subst h
          exact ⟨.inr rfl, _, .cons (.tmp rfl rfl) <| .nil, rfl⟩
        · replace h := iF hc23 h
          refine PWc.skip ?_
          refine PWc.region ?_
          refine PWl.step (LR.move rfl) rfl ?_
          refine PWl.step (LR.addW rfl rfl) rfl ?_
          refine PWl.step (LR.assign rfl) rfl ?_
          refine PWl.nil ?_
          exact ⟨(IntKind.i64.wrap (i17 + 1)), (), h, Sub.of rfl (.cons rfl rfl <| .cons rfl rfl <| .cons rfl rfl <| .nil) (.nil)⟩
      · replace h := iF hc18 h
        refine PWc.exit ?_
        exact ⟨(), (), h, Sub.of rfl (.nil) (.nil)⟩
    · rintro _ _ h
      refine PWc.seq ?_
      refine PWc.region ?_
      refine PWl.step (LR.assign rfl) rfl ?_
      refine PWl.nil ?_
      refine PWc.ret ?_
      replace h : _ = r0 := h
      subst h
      exact ⟨.inr rfl, _, .cons (.tmp rfl rfl) <| .nil, rfl⟩

theorem cmp_isNaN_uint64_ok (x1 : Int) (r0 : Bool) (h : (cmp_isNaN_uint64 x1).wp (· = r0)) : PFun Tryz.prog 131 [.d (.v (.int .u64 x1))] (.d (.v (.bool r0))) := by
  refine PFun.intro (sl := [(0, _)]) Tryz.func131 rfl Tryz.ntmps131 rfl rfl ?_
  intro ctx hK
  refine PWc.seq ?_
  refine PWc.region ?_
  refine PWl.step (LR.assign rfl) rfl ?_
  refine PWl.nil ?_
  refine PWc.seq ?_
  refine PWc.region ?_
  refine PWl.step (LR.move rfl) rfl ?_
  refine PWl.step (LR.move rfl) rfl ?_
  refine PWl.step (LR.neq rfl rfl) rfl ?_
  refine PWl.step (LR.assign rfl) rfl ?_
  refine PWl.nil ?_
  refine PWc.ret ?_
  replace h : _ = r0 := h
  subst h
  exact ⟨.inr rfl, _, .cons (.tmp rfl rfl) <| .nil, rfl⟩

theorem cmp_Compare_uint64_ok (x1 : Int) (y2 : Int) (r0 : Int) (h : (cmp_Compare_uint64 x1 y2).wp (· = r0)) : PFun Tryz.prog 107 [.d (.v (.int .u64 x1)), .d (.v (.int .u64 y2))] (.d (.v (.int .i64 r0))) := by
  refine PFun.intro (sl := [(0, _), (1, _)]) Tryz.func107 rfl Tryz.ntmps107 rfl rfl ?_
  intro ctx hK
  refine PWc.seq ?_
  refine PWc.region ?_
  refine PWl.step (LR.assign rfl) rfl ?_
  refine PWl.nil ?_
  refine PWc.seq ?_
  refine PWc.region ?_
  refine PWl.step (LR.move rfl) rfl ?_
  replace h := iDet h
  obtain ⟨v3, hy4, h⟩ := h
  refine PWl.step (LR.callN (cmp_isNaN_uint64_ok x1 v3 hy4) rfl Tryz.call131 rfl rfl rfl rfl) rfl ?_
  refine PWl.step (LR.assign rfl) rfl ?_
  refine PWl.nil ?_
  refine PWc.seq ?_
  refine PWc.region ?_
  refine PWl.step (LR.move rfl) rfl ?_
  replace h := iDet h
  obtain ⟨v5, hy6, h⟩ := h
  refine PWl.step (LR.callN (cmp_isNaN_uint64_ok y2 v5 hy6) rfl Tryz.call131 rfl rfl rfl rfl) rfl ?_
  refine PWl.step (LR.assign rfl) rfl ?_
  refine PWl.nil ?_
  refine PWc.seq ?_
  refine PWc.seq ?_
  refine PWc.region ?_
  refine PWl.step (LR.move rfl) rfl ?_
  refine PWl.nil ?_
  refine PWc.cond rfl (fun hc7 => ?_) (fun hc7 => ?_)
  · replace h := iT hc7 h
    refine PWc.seq ?_
    refine PWc.seq ?_
    refine PWc.region ?_
    refine PWl.step (LR.move rfl) rfl ?_
    refine PWl.nil ?_
    refine PWc.cond rfl (fun hc8 => ?_) (fun hc8 => ?_)
    · replace h := iT hc8 h
      refine PWc.seq ?_
      refine PWc.region ?_
      refine PWl.step (LR.assign rfl) rfl ?_
      refine PWl.nil ?_
      refine PWc.ret ?_
      replace h : _ = r0 := h
      subst h
      exact ⟨.inr rfl, _, .cons (.tmp rfl rfl) <| .nil, rfl⟩
    · replace h := iF hc8 h
      refine PWc.skip ?_
      refine PWc.seq ?_
      refine PWc.region ?_
      refine PWl.step (LR.assign rfl) rfl ?_
      refine PWl.nil ?_
      refine PWc.ret ?_
      replace h : _ = r0 := h
      subst h
      exact ⟨.inr rfl, _, .cons (.tmp rfl rfl) <| .nil, rfl⟩
  · replace h := iF hc7 h
    refine PWc.skip ?_
    refine PWc.seq ?_
    refine PWc.seq ?_
    refine PWc.region ?_
    refine PWl.step (LR.move rfl) rfl ?_
    refine PWl.nil ?_
    refine PWc.cond rfl (fun hc9 => ?_) (fun hc9 => ?_)
    · replace h := iT hc9 h
      refine PWc.seq ?_
      refine PWc.region ?_
      refine PWl.step (LR.assign rfl) rfl ?_
      refine PWl.nil ?_
      refine PWc.ret ?_
      replace h : _ = r0 := h
      subst h
      exact ⟨.inr rfl, _, .cons (.tmp rfl rfl) <| .nil, rfl⟩
    · replace h := iF hc9 h
      refine PWc.skip ?_
      refine PWc.seq ?_
      refine PWc.seq ?_
      refine PWc.region ?_
      refine PWl.step (LR.move rfl) rfl ?_
      refine PWl.step (LR.move rfl) rfl ?_
      refine PWl.step (LR.lss rfl rfl) rfl ?_
      refine PWl.nil ?_
      refine PWc.cond rfl (fun hc10 => ?_) (fun hc10 => ?_)
      · replace h := iT hc10 h
        refine PWc.seq ?_
        refine PWc.region ?_
        refine PWl.step (LR.assign rfl) rfl ?_
        refine PWl.nil ?_
        refine PWc.ret ?_
        replace h : _ = r0 := h
        subst h
        exact ⟨.inr rfl, _, .cons (.tmp rfl rfl) <| .nil, rfl⟩
      · replace h := iF hc10 h
        refine PWc.skip ?_
        refine PWc.seq ?_
        refine PWc.seq ?_
        refine PWc.region ?_
        refine PWl.step (LR.move rfl) rfl ?_
        refine PWl.step (LR.move rfl) rfl ?_
        refine PWl.step (LR.gtr rfl rfl) rfl ?_
        refine PWl.nil ?_
        refine PWc.cond rfl (fun hc11 => ?_) (fun hc11 => ?_)
        · replace h := iT hc11 h
          refine PWc.seq ?_
          refine PWc.region ?_
          refine PWl.step (LR.assign rfl) rfl ?_
          refine PWl.nil ?_
          refine PWc.ret ?_
          replace h : _ = r0 := h
          subst h
          exact ⟨.inr rfl, _, .cons (.tmp rfl rfl) <| .nil, rfl⟩
        · replace h := iF hc11 h
          refine PWc.skip ?_
          refine PWc.seq ?_
          refine PWc.region ?_
          refine PWl.step (LR.assign rfl) rfl ?_
          refine PWl.nil ?_
          refine PWc.ret ?_
          replace h : _ = r0 := h
          subst h
          exact ⟨.inr rfl, _, .cons (.tmp rfl rfl) <| .nil, rfl⟩

end Go.Proofs

namespace Go.Proofs
open Go.Ep
set_option maxHeartbeats 1000000
set_option maxRecDepth 100000
set_option linter.unusedVariables false
set_option linter.unusedSimpArgs false


theorem runs_Norm_ok (l1 : List TRun) (r0 : List TRun) (h : (runs_Norm l1).wp (· = r0)) : PRow Tryz.prog 69 [.d (.sl (List.map TRun.e l1))] 89 2 (List.map TRun.e r0) := by
  refine PRow.intro (sl := [(0, _)]) Tryz.func69 rfl Tryz.ntmps69 rfl rfl ?_
  intro ctx hK
  refine PWc.seq ?_
  refine PWc.region ?_
  refine PWl.step (LR.assignNilRow 89 2 rfl) rfl ?_
  refine PWl.nil ?_
  refine PWc.seq ?_
  refine PWc.region ?_
  refine PWl.step (LR.assignNilRow 89 2 rfl) rfl ?_
  refine PWl.nil ?_
  refine PWc.seq ?_
  refine PWc.seq ?_
  refine PWc.region ?_
  refine PWl.step (LR.move rfl) rfl ?_
  refine PWl.step (LR.lenMap (enc := TRun.e) (L := l1) Tryz.underlying37 rfl) rfl ?_
  refine PWl.step (LR.move rfl) rfl ?_
  refine PWl.nil ?_
  refine PWc.jn (iBind h) (fun (some2 : List TRun) (_ : Unit) => ⟨78, [(3, .row 3 (List.length some2))], [(3, .row 89 2 (List.map TRun.e some2))]⟩) (fun h => ?_) ?_
  · refine PWc.block ?_
    refine PWc.loopM (fun (⟨v23, some24⟩ : Int × List TRun) (_ : Unit) => ⟨78, [(3, .row 3 (List.length some24)), (10, .d (.sl (List.map TRun.e l1))), (11, .d (.v (.int .i64 (List.length l1 : Int)))), (12, .d (.v (.int .i64 v23)))], [(3, .row 89 2 (List.map TRun.e some24))]⟩) () h (Sub.of rfl (.cons rfl rfl <| .cons rfl rfl <| .cons rfl rfl <| .cons rfl rfl <| .nil) (.cons rfl rfl <| .nil)) ?_
    rintro N ⟨v23, some24⟩ _ h
    refine PWc.seq ?_
    refine PWc.region ?_
    refine PWl.step (LR.lss rfl rfl) rfl ?_
    refine PWl.nil ?_
    refine PWc.seq ?_
    refine PWc.cond rfl (fun hc25 => ?_) (fun hc25 => ?_)
    · replace h := iT hc25 h
      refine PWc.skip ?_
      refine PWc.seq ?_
      refine PWc.jn (iBind h) (fun (some26 : List TRun) (_ : Unit) => ⟨78, [(3, .row 3 (List.length some26)), (10, .d (.sl (List.map TRun.e l1))), (11, .d (.v (.int .i64 (List.length l1 : Int)))), (12, .d (.v (.int .i64 v23)))], [(3, .row 89 2 (List.map TRun.e some26))]⟩) (fun h => ?_) ?_
      · refine PWc.block ?_
        refine PWc.seq ?_
        refine PWc.region ?_
        replace h := iIdx h
        obtain ⟨x27, hy28, h⟩ := h
        refine PWl.step (LR.idxT (enc := TRun.e) (L := l1) (y := x27) Tryz.underlying37 Tryz.sizeOf89 rfl rfl hy28 (fun _ => rfl)) rfl ?_
        refine PWl.step (LR.loadEpAgg (ys := [_, _]) Tryz.isAgg89 Tryz.sizeOf89 rfl rfl rfl) rfl ?_
        refine PWl.step (LR.allocZ (cs := [_, _]) Tryz.zeroValue89 rfl rfl rfl rfl) rfl ?_
        refine PWl.step (LR.storeB (ns := [_, _]) Tryz.sizeOf89 rfl rfl rfl rfl rfl rfl rfl) rfl ?_
        refine PWl.nil ?_
        refine PWc.seq ?_
        refine PWc.jn (iBind h) (fun (v29 : Bool) (_ : Unit) => ⟨78, [(3, .row 3 (List.length some24)), (5, .ref 5 0), (10, .d (.sl (List.map TRun.e l1))), (11, .d (.v (.int .i64 (List.length l1 : Int)))), (12, .d (.v (.int .i64 v23))), (30, .d (.v (.bool v29)))], [(3, .row 89 2 (List.map TRun.e some24)), (5, .cells 89 [.d (.v (.int .u64 x27.lo)), .d (.v (.int .u64 x27.hi))])]⟩) (fun h => ?_) ?_
        · refine PWc.region ?_
          refine PWl.step (LR.fieldRef Tryz.underlying89 rfl Tryz.sizeOf30 (by decide) rfl rfl) rfl ?_
          refine PWl.step (LR.loadRef Tryz.isAgg30 rfl rfl rfl) rfl ?_
          refine PWl.step (LR.gtr rfl rfl) rfl ?_
          refine PWl.step (LR.move rfl) rfl ?_
          refine PWl.split (d := 19) rfl (fun hg30 => ?_) (fun hg30 => ?_)
          · replace h := iT hg30 h
            refine PWl.guardT (LR.fieldRef Tryz.underlying89 rfl Tryz.sizeOf30 (by decide) rfl rfl) rfl rfl rfl ?_
            refine PWl.guardT (LR.loadRef Tryz.isAgg30 rfl rfl rfl) rfl rfl rfl ?_
            refine PWl.guardT (LR.fieldRef Tryz.underlying89 rfl Tryz.sizeOf30 (by decide) rfl rfl) rfl rfl rfl ?_
            refine PWl.guardT (LR.loadRef Tryz.isAgg30 rfl rfl rfl) rfl rfl rfl ?_
            refine PWl.guardT (LR.leq rfl rfl) rfl rfl rfl ?_
            refine PWl.step (LR.pickT rfl rfl) rfl ?_
            refine PWl.step (LR.move rfl) rfl ?_
            refine PWl.split (d := 26) rfl (fun hg31 => ?_) (fun hg31 => ?_)
            · replace h := iT hg31 h
              refine PWl.re (tl := [(3, _), (5, _), (10, _), (11, _), (12, _), (20, _), (21, _), (22, _), (23, _), (24, _), (26, _)]) (to := [(3, _), (5, _)]) rfl (.cons rfl rfl <| .cons rfl rfl <| .cons rfl rfl <| .cons rfl rfl <| .cons rfl rfl <| .cons rfl rfl <| .cons rfl rfl <| .cons rfl rfl <| .cons rfl rfl <| .cons rfl rfl <| .cons rfl rfl <| .nil) (.cons rfl rfl <| .cons rfl rfl <| .nil) ?_
              refine PWl.guardT (LR.fieldRef Tryz.underlying89 rfl Tryz.sizeOf30 (by decide) rfl rfl) rfl rfl rfl ?_
              refine PWl.guardT (LR.loadRef Tryz.isAgg30 rfl rfl rfl) rfl rfl rfl ?_
              refine PWl.guardT (LR.leq rfl rfl) rfl rfl rfl ?_
              refine PWl.step (LR.pickT rfl rfl) rfl ?_
              refine PWl.nil ?_
              exact ⟨(decide (x27.hi ≤ 281474976710655)), (), h, Sub.of rfl (.cons rfl rfl <| .cons rfl rfl <| .cons rfl rfl <| .cons rfl rfl <| .cons rfl rfl <| .cons rfl rfl <| .nil) (.cons rfl rfl <| .cons rfl rfl <| .nil)⟩
            · replace h := iF hg31 h
              refine PWl.re (tl := [(3, _), (5, _), (10, _), (11, _), (12, _), (20, _), (21, _), (22, _), (23, _), (24, _), (26, _)]) (to := [(3, _), (5, _)]) rfl (.cons rfl rfl <| .cons rfl rfl <| .cons rfl rfl <| .cons rfl rfl <| .cons rfl rfl <| .cons rfl rfl <| .cons rfl rfl <| .cons rfl rfl <| .cons rfl rfl <| .cons rfl rfl <| .cons rfl rfl <| .nil) (.cons rfl rfl <| .cons rfl rfl <| .nil) ?_
              refine PWl.guardF rfl rfl rfl (by decide) ?_
              refine PWl.guardF rfl rfl rfl (by decide) ?_
              refine PWl.guardF rfl rfl rfl (by decide) ?_
              refine PWl.step (LR.pickF rfl rfl) rfl ?_
              refine PWl.nil ?_
              exact ⟨false, (), h, Sub.of rfl (.cons rfl rfl <| .cons rfl rfl <| .cons rfl rfl <| .cons rfl rfl <| .cons rfl rfl <| .cons rfl rfl <| .nil) (.cons rfl rfl <| .cons rfl rfl <| .nil)⟩
          · replace h := iF hg30 h
            refine PWl.guardF rfl rfl rfl (by decide) ?_
            refine PWl.guardF rfl rfl rfl (by decide) ?_
            refine PWl.guardF rfl rfl rfl (by decide) ?_
            refine PWl.guardF rfl rfl rfl (by decide) ?_
            refine PWl.guardF rfl rfl rfl (by decide) ?_
            refine PWl.step (LR.pickF rfl rfl) rfl ?_
            refine PWl.step (LR.move rfl) rfl ?_
            refine PWl.guardF rfl rfl rfl (by decide) ?_
            refine PWl.re (tl := [(3, _), (5, _), (10, _), (11, _), (12, _), (20, _), (21, _), (22, _), (23, _), (24, _), (26, _), (27, _)]) (to := [(3, _), (5, _)]) rfl (.cons rfl rfl <| .cons rfl rfl <| .cons rfl rfl <| .cons rfl rfl <| .cons rfl rfl <| .cons rfl rfl <| .cons rfl rfl <| .cons rfl rfl <| .cons rfl rfl <| .cons rfl rfl <| .cons rfl rfl <| .cons rfl rfl <| .nil) (.cons rfl rfl <| .cons rfl rfl <| .nil) ?_
            refine PWl.guardF rfl rfl rfl (by decide) ?_
            refine PWl.guardF rfl rfl rfl (by decide) ?_
            refine PWl.step (LR.pickF rfl rfl) rfl ?_
            refine PWl.nil ?_
            exact ⟨false, (), h, Sub.of rfl (.cons rfl rfl <| .cons rfl rfl <| .cons rfl rfl <| .cons rfl rfl <| .cons rfl rfl <| .cons rfl rfl <| .nil) (.cons rfl rfl <| .cons rfl rfl <| .nil)⟩
        · rintro v29 _ h
          refine PWc.cond rfl (fun hc32 => ?_) (fun hc32 => ?_)
          · replace h := iT hc32 h
            refine PWc.region ?_
            refine PWl.step (LR.move rfl) rfl ?_
            refine PWl.step (LR.loadRefAgg (ps := [_, _]) Tryz.isAgg89 Tryz.sizeOf89 rfl rfl rfl rfl) rfl ?_
            refine PWl.step (LR.buildSliceD [.tmp 32] elem37 rfl rfl (.cons rfl rfl rfl <| .nil) (by decide) (by decide)) rfl ?_
            replace h := iNeed h
            obtain ⟨hy33, h⟩ := h
            refine PWl.step (LR.appT (enc := TRun.e) (L := some24) (R := [x27]) [3, 31] elem37 Tryz.underlying37 rfl rfl rfl (Src.slT (enc := TRun.e) (R := [x27]) rfl (fun _ => rfl)) (fun _ => rfl) hy33 rfl rfl) rfl ?_
            refine PWl.step (LR.assign rfl) rfl ?_
            refine PWl.nil ?_
            exact ⟨(some24 ++ [x27]), (), h, Sub.of rfl (.cons rfl rfl <| .cons rfl rfl <| .cons rfl rfl <| .cons rfl rfl <| .nil) (.cons rfl rfl <| .nil)⟩
          · replace h := iF hc32 h
            refine PWc.skip ?_
            exact ⟨some24, (), h, Sub.of rfl (.cons rfl rfl <| .cons rfl rfl <| .cons rfl rfl <| .cons rfl rfl <| .nil) (.cons rfl rfl <| .nil)⟩
      · rintro some26 _ h
        refine PWc.region ?_
        refine PWl.step (LR.addW rfl rfl) rfl ?_
        refine PWl.step (LR.move rfl) rfl ?_
        refine PWl.nil ?_
        exact ⟨((IntKind.i64.wrap (v23 + 1)), some26), (), h, Sub.of rfl (.cons rfl rfl <| .cons rfl rfl <| .cons rfl rfl <| .cons rfl rfl <| .nil) (.cons rfl rfl <| .nil)⟩
    · replace h := iF hc25 h
      refine PWc.exit ?_
      exact ⟨some24, (), h, Sub.of rfl (.cons rfl rfl <| .nil) (.cons rfl rfl <| .nil)⟩
  · rintro some2 _ h
    refine PWc.seq ?_
    refine PWc.region ?_
    refine PWl.step (LR.move rfl) rfl ?_
    replace h := iNeed h
    obtain ⟨hy35, h⟩ := h
    refine PWl.sortFn (encD := TRun.e) (enc := TRun.v) (l := some2) srt105_106 (fun _ => rfl) TRun.v1 (fun _ => rfl) rfl Tryz.call105 rfl rfl rfl (by simp) hy35 rfl (fun s34 hy36 hy37 => ?_)
    replace h := iSrt h s34 hy36 hy37
    have hy36l := hy36.length_eq
    refine PWl.nil ?_
    refine PWc.seq ?_
    refine PWc.region ?_
    refine PWl.step (LR.assignNilRow 89 2 rfl) rfl ?_
    refine PWl.nil ?_
    refine PWc.seq ?_
    refine PWc.seq ?_
    refine PWc.region ?_
    refine PWl.step (LR.move rfl) rfl ?_
    refine PWl.step (LR.lenRow Tryz.underlying37 rfl) rfl ?_
    refine PWl.step (LR.move rfl) rfl ?_
    refine PWl.nil ?_
    refine PWc.jn (iBind h) (fun (out38 : List TRun) (_ : Unit) => ⟨78, [(6, .row 6 (List.length out38))], [(6, .row 89 2 (List.map TRun.e out38))]⟩) (fun h => ?_) ?_
    · refine PWc.block ?_
      refine PWc.loopM (fun (⟨v69, out70⟩ : Int × List TRun) (_ : Unit) => ⟨78, [(6, .row 6 (List.length out70)), (38, .row 3 (List.length some2)), (39, .d (.v (.int .i64 ((List.length some2) : Int)))), (40, .d (.v (.int .i64 v69)))], [(3, .row 89 2 (List.map TRun.e s34)), (6, .row 89 2 (List.map TRun.e out70))]⟩) () h (Sub.of rfl (.cons rfl rfl <| .cons rfl (by first | rfl | (simp; done) | (congr 1; first | (simp; done) | (simp; omega))) <| .cons rfl rfl <| .cons rfl rfl <| .nil) (.cons rfl rfl <| .cons rfl rfl <| .nil)) ?_
      rintro N ⟨v69, out70⟩ _ h
      refine PWc.seq ?_
      refine PWc.region ?_
      refine PWl.step (LR.lss rfl rfl) rfl ?_
      refine PWl.nil ?_
      refine PWc.seq ?_
      refine PWc.cond rfl (fun hc71 => ?_) (fun hc71 => ?_)
      · replace h := iT hc71 h
        refine PWc.skip ?_
        refine PWc.seq ?_
        refine PWc.jn (iBind h) (fun (out72 : List TRun) (_ : Unit) => ⟨78, [(6, .row 6 (List.length out72)), (38, .row 3 (List.length some2)), (39, .d (.v (.int .i64 ((List.length some2) : Int)))), (40, .d (.v (.int .i64 v69)))], [(3, .row 89 2 (List.map TRun.e s34)), (6, .row 89 2 (List.map TRun.e out72))]⟩) (fun h => ?_) ?_
        · refine PWc.block ?_
          refine PWc.seq ?_
          refine PWc.region ?_
          replace h := iIdx h
          obtain ⟨x73, hy74, h⟩ := h
          refine PWl.step (LR.idxRowT (L := s34) (y := x73) Tryz.underlying37 Tryz.sizeOf89 rfl (by first | (simp; done) | (simp; omega) | omega) rfl hy74) rfl ?_
          refine PWl.step (LR.loadRpT (enc := TRun.e) (L := s34) (y := x73) Tryz.isAgg89 Tryz.sizeOf89 rfl rfl hy74.2) rfl ?_
          refine PWl.step (LR.allocZ (cs := [_, _]) Tryz.zeroValue89 rfl rfl rfl rfl) rfl ?_
          refine PWl.step (LR.storeB (ns := [_, _]) Tryz.sizeOf89 rfl rfl rfl rfl rfl rfl rfl) rfl ?_
          refine PWl.nil ?_
          refine PWc.seq ?_
          refine PWc.seq ?_
          refine PWc.region ?_
          refine PWl.step (LR.move rfl) rfl ?_
          refine PWl.step (LR.lenRow Tryz.underlying37 rfl) rfl ?_
          refine PWl.step (LR.subW rfl rfl) rfl ?_
          refine PWl.step (LR.assign rfl) rfl ?_
          refine PWl.nil ?_
          refine PWc.seq ?_
          refine PWc.jn (iBind h) (fun (v75 : Bool) (_ : Unit) => ⟨78, [(6, .row 6 (List.length out70)), (8, .ref 8 0), (9, .d (.v (.int .i64 ((IntKind.i64.wrap (((List.length out70) : Int) - 1)))))), (38, .row 3 (List.length some2)), (39, .d (.v (.int .i64 ((List.length some2) : Int)))), (40, .d (.v (.int .i64 v69))), (59, .d (.v (.bool v75)))], [(3, .row 89 2 (List.map TRun.e s34)), (6, .row 89 2 (List.map TRun.e out70)), (8, .cells 89 [.d (.v (.int .u64 x73.lo)), .d (.v (.int .u64 x73.hi))])]⟩) (fun h => ?_) ?_
          · refine PWc.regionD (by kernel_rfl) (by kernel_rfl) ?_
            refine PQl.step (fun _ he ho => LR.move (he rfl rfl)) rfl ?_
            refine PQl.step (fun _ he ho => LR.geq (he rfl rfl) (he rfl rfl)) rfl ?_
            refine PQl.step (fun _ he ho => LR.move (he rfl rfl)) rfl ?_
            refine PQl.split (d := 49) rfl (fun hg76 => ?_) (fun hg76 => ?_)
            · replace h := iT hg76 h
              refine PQl.guardT (fun _ he ho => LR.fieldRef Tryz.underlying89 rfl Tryz.sizeOf30 (by decide) rfl (he rfl rfl)) rfl rfl rfl ?_
              refine PQl.guardT (fun _ he ho => LR.loadRef Tryz.isAgg30 (he rfl rfl) (ho rfl) rfl) rfl rfl rfl ?_
              refine PQl.guardT (fun _ he ho => LR.move (he rfl rfl)) rfl rfl rfl ?_
              refine PQl.guardT (fun _ he ho => LR.move (he rfl rfl)) rfl rfl rfl ?_
              replace h := iIdx h
              obtain ⟨x77, hy78, h⟩ := h
              refine PQl.guardT (fun _ he ho => LR.idxRowT (L := out70) (y := x77) Tryz.underlying37 Tryz.sizeOf89 (he rfl rfl) rfl (he rfl rfl) hy78) rfl rfl rfl ?_
              refine PQl.guardT (fun _ he ho => LR.fieldRp Tryz.underlying89 rfl Tryz.sizeOf30 (by decide) rfl (he rfl rfl)) rfl rfl rfl ?_
              refine PQl.guardT (fun _ he ho => LR.loadRpF (enc := TRun.e) (L := out70) (y := x77) Tryz.isAgg30 (he rfl rfl) (ho rfl) hy78.2 rfl) rfl rfl rfl ?_
              refine PQl.guardT (fun _ he ho => LR.addW (he rfl rfl) (he rfl rfl)) rfl rfl rfl ?_
              refine PQl.guardT (fun _ he ho => LR.leq (he rfl rfl) (he rfl rfl)) rfl rfl rfl ?_
              refine PQl.step (fun _ he ho => LR.pickT (he rfl rfl) (he rfl rfl)) rfl ?_
              refine PQl.nil ?_
              exact ⟨(decide (x73.lo ≤ (IntKind.u64.wrap (x77.hi + 1)))), (), h, Sub.of rfl (.cons rfl rfl <| .cons rfl rfl <| .cons rfl rfl <| .cons rfl (by first | rfl | (simp; done) | (congr 1; first | (simp; done) | (simp; omega))) <| .cons rfl rfl <| .cons rfl rfl <| .cons rfl rfl <| .nil) (.cons rfl rfl <| .cons rfl rfl <| .cons rfl rfl <| .nil)⟩
            · replace h := iF hg76 h
              refine PQl.guardF rfl rfl rfl (by decide) ?_
              refine PQl.guardF rfl rfl rfl (by decide) ?_
              refine PQl.guardF rfl rfl rfl (by decide) ?_
              refine PQl.guardF rfl rfl rfl (by decide) ?_
              refine PQl.guardF rfl rfl rfl (by decide) ?_
              refine PQl.guardF rfl rfl rfl (by decide) ?_
              refine PQl.guardF rfl rfl rfl (by decide) ?_
              refine PQl.guardF rfl rfl rfl (by decide) ?_
              refine PQl.guardF rfl rfl rfl (by decide) ?_
              refine PQl.step (fun _ he ho => LR.pickF (he rfl rfl) (he rfl rfl)) rfl ?_
              refine PQl.nil ?_
              exact ⟨false, (), h, Sub.of rfl (.cons rfl rfl <| .cons rfl rfl <| .cons rfl rfl <| .cons rfl (by first | rfl | (simp; done) | (congr 1; first | (simp; done) | (simp; omega))) <| .cons rfl rfl <| .cons rfl rfl <| .cons rfl rfl <| .nil) (.cons rfl rfl <| .cons rfl rfl <| .cons rfl rfl <| .nil)⟩
          · rintro v75 _ h
            refine PWc.cond rfl (fun hc79 => ?_) (fun hc79 => ?_)
            · replace h := iT hc79 h
              refine PWc.seq ?_
              refine PWc.re (tl := [(6, _), (8, _), (9, _), (38, _), (39, _), (40, _)]) (to := [(3, _), (6, _), (8, _)]) rfl (.cons rfl rfl <| .cons rfl rfl <| .cons rfl rfl <| .cons rfl rfl <| .cons rfl rfl <| .cons rfl rfl <| .nil) (.cons rfl rfl <| .cons rfl rfl <| .cons rfl rfl <| .nil) ?_
              refine PWc.regionE [⟨[60], [], [], [], [], [6], [], []⟩, ⟨[61], [], [], [], [], [], [], []⟩, ⟨[62], [], [], [], [], [6], [], []⟩, ⟨[63], [], [], [], [], [], [], []⟩, ⟨[64], [], [], [], [], [6], [], []⟩, ⟨[65], [], [], [], [], [6], [], []⟩, ⟨[66], [], [6], [], [], [], [], []⟩, ⟨[67], [], [], [], [], [8], [], []⟩, ⟨[68], [], [8], [], [], [], [], []⟩, ⟨[69], [], [], [], [], [], [], []⟩, ⟨[70], [], [], [], [], [6], [], []⟩, ⟨[71], [], [], [], [], [6], [], []⟩, ⟨[], [6], [6], [], [], [], [], []⟩] (by kernel_rfl) (by kernel_rfl) rfl ?_
              refine PQe.stepP (fun _ he ho => LR.move (he rfl rfl)) (.inl rfl) rfl ?_
              refine PQe.stepP (fun _ he ho => LR.move (he rfl rfl)) (.inl rfl) rfl ?_
              refine PQe.stepP (fun _ he ho => LR.move (he rfl rfl)) (.inl rfl) rfl ?_
              refine PQe.stepP (fun _ he ho => LR.move (he rfl rfl)) (.inl rfl) rfl ?_
              replace h := iIdx h
              obtain ⟨x80, hy81, h⟩ := h
              refine PQe.stepP (fun _ he ho => LR.idxRowT (L := out70) (y := x80) Tryz.underlying37 Tryz.sizeOf89 (he rfl rfl) rfl (he rfl rfl) hy81) (.inl rfl) rfl ?_
              refine PQe.stepP (fun _ he ho => LR.fieldRp Tryz.underlying89 rfl Tryz.sizeOf30 (by decide) rfl (he rfl rfl)) (.inl rfl) rfl ?_
              refine PQe.stepP (fun _ he ho => LR.loadRpF (enc := TRun.e) (L := out70) (y := x80) Tryz.isAgg30 (he rfl rfl) (ho rfl rfl) hy81.2 rfl) (.inl rfl) rfl ?_
              refine PQe.stepP (fun _ he ho => LR.fieldRef Tryz.underlying89 rfl Tryz.sizeOf30 (by decide) rfl (he rfl rfl)) (.inl rfl) rfl ?_
              refine PQe.stepP (fun _ he ho => LR.loadRef Tryz.isAgg30 (he rfl rfl) (ho rfl rfl) rfl) (.inl rfl) rfl ?_
              refine PQe.stepP (fun _ he ho => LR.maxI (he rfl rfl) (he rfl rfl)) (.inl rfl) rfl ?_
              replace h := iIdx h
              obtain ⟨x82, hy83, h⟩ := h
              refine PQe.stepP (fun _ he ho => LR.idxRowT (L := out70) (y := x82) Tryz.underlying37 Tryz.sizeOf89 (he rfl rfl) rfl (he rfl rfl) hy83) (.inl rfl) rfl ?_
              refine PQe.stepP (fun _ he ho => LR.fieldRp Tryz.underlying89 rfl Tryz.sizeOf30 (by decide) rfl (he rfl rfl)) (.inl rfl) rfl ?_
              refine PQe.stepS (fun _ he ho => LR.storeRpT (enc := TRun.e) (L := out70) (a := x82) (b := (⟨x82.lo, (max x80.hi x73.hi)⟩ : TRun)) Tryz.sizeOf30 (he rfl rfl) (he rfl rfl) rfl rfl (ho rfl rfl) hy83.2 rfl rfl) (.inl rfl) rfl ?_
              refine PQe.nil ?_
              refine PWc.exit ?_
              exact ⟨(List.set out70 ((Int.toNat ((IntKind.i64.wrap (((List.length out70) : Int) - 1))))) (⟨x82.lo, (max x80.hi x73.hi)⟩ : TRun)), (), h, Sub.of rfl (.cons rfl (by first | rfl | (simp; done) | (congr 1; first | (simp; done) | (simp; omega))) <| .cons rfl (by first | rfl | (simp; done) | (congr 1; first | (simp; done) | (simp; omega))) <| .cons rfl rfl <| .cons rfl rfl <| .nil) (.cons rfl rfl <| .cons rfl rfl <| .nil)⟩
            · replace h := iF hc79 h
              refine PWc.skip ?_
              refine PWc.region ?_
              refine PWl.step (LR.move rfl) rfl ?_
              refine PWl.step (LR.loadRefAgg (ps := [_, _]) Tryz.isAgg89 Tryz.sizeOf89 rfl rfl rfl rfl) rfl ?_
              refine PWl.step (LR.buildSliceD [.tmp 73] elem37 rfl rfl (.cons rfl rfl rfl <| .nil) (by decide) (by decide)) rfl ?_
              replace h := iNeed h
              obtain ⟨hy84, h⟩ := h
              refine PWl.step (LR.appT (enc := TRun.e) (L := out70) (R := [x73]) [6, 72] elem37 Tryz.underlying37 rfl rfl rfl (Src.slT (enc := TRun.e) (R := [x73]) rfl (fun _ => rfl)) (fun _ => rfl) hy84 rfl rfl) rfl ?_
              refine PWl.step (LR.assign rfl) rfl ?_
              refine PWl.nil ?_
              exact ⟨(out70 ++ [x73]), (), h, Sub.of rfl (.cons rfl rfl <| .cons rfl (by first | rfl | (simp; done) | (congr 1; first | (simp; done) | (simp; omega))) <| .cons rfl rfl <| .cons rfl rfl <| .nil) (.cons rfl rfl <| .cons rfl rfl <| .nil)⟩
        · rintro out72 _ h
          refine PWc.region ?_
          refine PWl.step (LR.addW rfl rfl) rfl ?_
          refine PWl.step (LR.move rfl) rfl ?_
          refine PWl.nil ?_
          exact ⟨((IntKind.i64.wrap (v69 + 1)), out72), (), h, Sub.of rfl (.cons rfl rfl <| .cons rfl (by first | rfl | (simp; done) | (congr 1; first | (simp; done) | (simp; omega))) <| .cons rfl rfl <| .cons rfl rfl <| .nil) (.cons rfl rfl <| .cons rfl rfl <| .nil)⟩
      · replace h := iF hc71 h
        refine PWc.exit ?_
        exact ⟨out70, (), h, Sub.of rfl (.cons rfl rfl <| .nil) (.cons rfl rfl <| .nil)⟩
    · rintro out38 _ h
      refine PWc.seq ?_
      refine PWc.region ?_
      refine PWl.step (LR.move rfl) rfl ?_
      refine PWl.step (LR.assign rfl) rfl ?_
      refine PWl.nil ?_
      refine PWc.ret ?_
      replace h : _ = r0 := h
      subst h
      exact ⟨.inr rfl, 2, rfl, .inr ⟨6, _, rfl, (by simp), rfl⟩⟩

theorem cmp_isNaN_uint16_ok (x1 : Int) (r0 : Bool) (h : (cmp_isNaN_uint16 x1).wp (· = r0)) : PFun Tryz.prog 129 [.d (.v (.int .u16 x1))] (.d (.v (.bool r0))) := by
  refine PFun.intro (sl := [(0, _)]) Tryz.func129 rfl Tryz.ntmps129 rfl rfl ?_
  intro ctx hK
  refine PWc.seq ?_
  refine PWc.region ?_
  refine PWl.step (LR.assign rfl) rfl ?_
  refine PWl.nil ?_
  refine PWc.seq ?_
  refine PWc.region ?_
  refine PWl.step (LR.move rfl) rfl ?_
  refine PWl.step (LR.move rfl) rfl ?_
  refine PWl.step (LR.neq rfl rfl) rfl ?_
  refine PWl.step (LR.assign rfl) rfl ?_
  refine PWl.nil ?_
  refine PWc.ret ?_
  replace h : _ = r0 := h
  subst h
  exact ⟨.inr rfl, _, .cons (.tmp rfl rfl) <| .nil, rfl⟩

theorem cmp_Compare_uint16_ok (x1 : Int) (y2 : Int) (r0 : Int) (h : (cmp_Compare_uint16 x1 y2).wp (· = r0)) : PFun Tryz.prog 104 [.d (.v (.int .u16 x1)), .d (.v (.int .u16 y2))] (.d (.v (.int .i64 r0))) := by
  refine PFun.intro (sl := [(0, _), (1, _)]) Tryz.func104 rfl Tryz.ntmps104 rfl rfl ?_
  intro ctx hK
  refine PWc.seq ?_
  refine PWc.region ?_
  refine PWl.step (LR.assign rfl) rfl ?_
  refine PWl.nil ?_
  refine PWc.seq ?_
  refine PWc.region ?_
  refine PWl.step (LR.move rfl) rfl ?_
  replace h := iDet h
  obtain ⟨v3, hy4, h⟩ := h
  refine PWl.step (LR.callN (cmp_isNaN_uint16_ok x1 v3 hy4) rfl Tryz.call129 rfl rfl rfl rfl) rfl ?_
  refine PWl.step (LR.assign rfl) rfl ?_
  refine PWl.nil ?_
  refine PWc.seq ?_
  refine PWc.region ?_
  refine PWl.step (LR.move rfl) rfl ?_
  replace h := iDet h
  obtain ⟨v5, hy6, h⟩ := h
  refine PWl.step (LR.callN (cmp_isNaN_uint16_ok y2 v5 hy6) rfl Tryz.call129 rfl rfl rfl rfl) rfl ?_
  refine PWl.step (LR.assign rfl) rfl ?_
  refine PWl.nil ?_
  refine PWc.seq ?_
  refine PWc.seq ?_
  refine PWc.region ?_
  refine PWl.step (LR.move rfl) rfl ?_
  refine PWl.nil ?_
  refine PWc.cond rfl (fun hc7 => ?_) (fun hc7 => ?_)
  · replace h := iT hc7 h
    refine PWc.seq ?_
    refine PWc.seq ?_
    refine PWc.region ?_
    refine PWl.step (LR.move rfl) rfl ?_
    refine PWl.nil ?_
    refine PWc.cond rfl (fun hc8 => ?_) (fun hc8 => ?_)
    · replace h := iT hc8 h
      refine PWc.seq ?_
      refine PWc.region ?_
      refine PWl.step (LR.assign rfl) rfl ?_
      refine PWl.nil ?_
      refine PWc.ret ?_
      replace h : _ = r0 := h
      subst h
      exact ⟨.inr rfl, _, .cons (.tmp rfl rfl) <| .nil, rfl⟩
    · replace h := iF hc8 h
      refine PWc.skip ?_
      refine PWc.seq ?_
      refine PWc.region ?_
      refine PWl.step (LR.assign rfl) rfl ?_
      refine PWl.nil ?_
      refine PWc.ret ?_
      replace h : _ = r0 := h
      subst h
      exact ⟨.inr rfl, _, .cons (.tmp rfl rfl) <| .nil, rfl⟩
  · replace h := iF hc7 h
    refine PWc.skip ?_
    refine PWc.seq ?_
    refine PWc.seq ?_
    refine PWc.region ?_
    refine PWl.step (LR.move rfl) rfl ?_
    refine PWl.nil ?_
    refine PWc.cond rfl (fun hc9 => ?_) (fun hc9 => ?_)
    · replace h := iT hc9 h
      refine PWc.seq ?_
      refine PWc.region ?_
      refine PWl.step (LR.assign rfl) rfl ?_
      refine PWl.nil ?_
      refine PWc.ret ?_
      replace h : _ = r0 := h
      subst h
      exact ⟨.inr rfl, _, .cons (.tmp rfl rfl) <| .nil, rfl⟩
    · replace h := iF hc9 h
      refine PWc.skip ?_
      refine PWc.seq ?_
      refine PWc.seq ?_
      refine PWc.region ?_
      refine PWl.step (LR.move rfl) rfl ?_
      refine PWl.step (LR.move rfl) rfl ?_
      refine PWl.step (LR.lss rfl rfl) rfl ?_
      refine PWl.nil ?_
      refine PWc.cond rfl (fun hc10 => ?_) (fun hc10 => ?_)
      · replace h := iT hc10 h
        refine PWc.seq ?_
        refine PWc.region ?_
        refine PWl.step (LR.assign rfl) rfl ?_
        refine PWl.nil ?_
        refine PWc.ret ?_
        replace h : _ = r0 := h
        subst h
        exact ⟨.inr rfl, _, .cons (.tmp rfl rfl) <| .nil, rfl⟩
      · replace h := iF hc10 h
        refine PWc.skip ?_
        refine PWc.seq ?_
        refine PWc.seq ?_
        refine PWc.region ?_
        refine PWl.step (LR.move rfl) rfl ?_
        refine PWl.step (LR.move rfl) rfl ?_
        refine PWl.step (LR.gtr rfl rfl) rfl ?_
        refine PWl.nil ?_
        refine PWc.cond rfl (fun hc11 => ?_) (fun hc11 => ?_)
        · replace h := iT hc11 h
          refine PWc.seq ?_
          refine PWc.region ?_
          refine PWl.step (LR.assign rfl) rfl ?_
          refine PWl.nil ?_
          refine PWc.ret ?_
          replace h : _ = r0 := h
          subst h
          exact ⟨.inr rfl, _, .cons (.tmp rfl rfl) <| .nil, rfl⟩
        · replace h := iF hc11 h
          refine PWc.skip ?_
          refine PWc.seq ?_
          refine PWc.region ?_
          refine PWl.step (LR.assign rfl) rfl ?_
          refine PWl.nil ?_
          refine PWc.ret ?_
          replace h : _ = r0 := h
          subst h
          exact ⟨.inr rfl, _, .cons (.tmp rfl rfl) <| .nil, rfl⟩

theorem ctx_order_ok (m1 : List (Int × List TRun)) (r0 : List TPart) (h : (ctx_order m1).wp (· = r0)) : PRow Tryz.prog 66 [.md [.u16] false (encM kI (eL TRun.e) m1)] 80 2 (List.map TPart.e r0) := by
  refine PRow.intro (sl := [(0, _)]) Tryz.func66 rfl Tryz.ntmps66 rfl rfl ?_
  intro ctx hK
  refine PWc.seq ?_
  refine PWc.region ?_
  refine PWl.step (LR.assignNilRow 80 2 rfl) rfl ?_
  refine PWl.nil ?_
  refine PWc.seq ?_
  refine PWc.region ?_
  refine PWl.step (LR.assignNilRow 80 2 rfl) rfl ?_
  refine PWl.nil ?_
  refine PWc.seq ?_
  refine PWc.seq ?_
  refine PWc.region ?_
  refine PWl.step (LR.move rfl) rfl ?_
  refine PWl.rangeD Tryz.underlying86 rfl rfl rfl (fun bs2 ck2 hbl2 hbn2 => ?_)
  refine PWl.nil ?_
  refine PWc.jn (iBind h) (fun (c3 : List TPart) (_ : Unit) => ⟨27, [(3, .row 3 (List.length c3))], [(3, .row 80 2 (List.map TPart.e c3))]⟩) (fun h => ?_) ?_
  · refine PWc.block ?_
    refine PWc.loopM (fun (⟨seen28, c29⟩ : List Nat × List TPart) (_ : Unit) => ⟨27, [(3, .row 3 (List.length c29)), (7, .ref 7 0)], [(3, .row 80 2 (List.map TPart.e c29)), (7, .iterD [.u16] false (encM kI (eL TRun.e) m1) bs2 ck2 seen28)]⟩) () h (Sub.of rfl (.cons rfl rfl <| .cons rfl rfl <| .nil) (.cons rfl rfl <| .cons rfl rfl <| .nil)) ?_
    rintro N ⟨seen28, c29⟩ _ h
    refine PWc.seq ?_
    refine PWc.region ?_
    replace h := iNeed h
    obtain ⟨hy40, h⟩ := h
    replace h := iNxt h
    refine PWl.nextD rfl rfl (nxtD hy40) rfl (fun hy31 => ?_) (fun j30 hy32 hy33 => ?_)
    · replace h := h.1 (nxtA hy31)
      refine PWl.step (LR.extract rfl rfl) rfl ?_
      refine PWl.nil ?_
      refine PWc.seq ?_
      refine PWc.condF rfl ?_
      refine PWc.exit ?_
      exact ⟨c29, (), h, Sub.of rfl (.cons rfl rfl <| .nil) (.cons rfl rfl <| .nil)⟩
    · replace h := h.2 j30 (nxtB hy32) hy33
      refine PWl.step (LR.extract rfl rfl) rfl ?_
      refine PWl.nil ?_
      refine PWc.seq ?_
      refine PWc.condT rfl ?_
      refine PWc.skip ?_
      refine PWc.block ?_
      refine PWc.seq ?_
      refine PWc.region ?_
      replace h := iIdx h
      obtain ⟨kv34, hy35, h⟩ := h
      refine PWl.step (LR.entryD rfl rfl (entGet hy35) rfl rfl) rfl ?_
      refine PWl.step (LR.extract rfl rfl) rfl ?_
      refine PWl.step (LR.extract rfl rfl) rfl ?_
      refine PWl.step (LR.assign rfl) rfl ?_
      refine PWl.step (LR.assign rfl) rfl ?_
      refine PWl.nil ?_
      refine PWc.seq ?_
      refine PWc.region ?_
      refine PWl.step (LR.move rfl) rfl ?_
      replace h := iDet h
      obtain ⟨v36, hy37, h⟩ := h
      refine PWl.step (LR.rowN (runs_Norm_ok kv34.2 v36 hy37) rfl Tryz.call69 rfl rfl rfl rfl) rfl ?_
      refine PWl.step (LR.assign rfl) rfl ?_
      refine PWl.nil ?_
      refine PWc.seq ?_
      refine PWc.region ?_
      refine PWl.step (LR.move rfl) rfl ?_
      refine PWl.step (LR.lenRow Tryz.underlying37 rfl) rfl ?_
      refine PWl.step (LR.gtr rfl rfl) rfl ?_
      refine PWl.nil ?_
      refine PWc.cond rfl (fun hc38 => ?_) (fun hc38 => ?_)
      · replace h := iT hc38 h
        refine PWc.region ?_
        refine PWl.step (LR.move rfl) rfl ?_
        refine PWl.step (LR.move rfl) rfl ?_
        refine PWl.step (LR.move rfl) rfl ?_
        refine PWl.frz [5, 14, 15, 20] hK (.cons rfl <| .cons rfl <| .cons rfl <| .cons rfl <| .nil) rfl (by simp) ?_
        refine PWl.step (LR.build (ns := [_, _]) build80 rfl rfl rfl) rfl ?_
        refine PWl.step (LR.buildSliceD [.tmp 21] elem23 rfl rfl (.cons rfl rfl rfl <| .nil) (by decide) (by decide)) rfl ?_
        replace h := iNeed h
        obtain ⟨hy39, h⟩ := h
        refine PWl.step (LR.appT (enc := TPart.e) (L := c29) (R := [(⟨kv34.1, v36⟩ : TPart)]) [3, 18] elem23 Tryz.underlying23 rfl rfl rfl (Src.slT (enc := TPart.e) (R := [(⟨kv34.1, v36⟩ : TPart)]) rfl (fun _ => rfl)) (fun _ => rfl) hy39 rfl rfl) rfl ?_
        refine PWl.re (tl := [(7, _), (23, _)]) (to := [(3, _), (7, _)]) rfl (.cons rfl rfl <| .cons rfl rfl <| .nil) (.cons rfl rfl <| .cons rfl rfl <| .nil) ?_
        refine PWl.step (LR.assign rfl) rfl ?_
        refine PWl.nil ?_
        exact ⟨((seen28 ++ [j30]), (c29 ++ [(⟨kv34.1, v36⟩ : TPart)])), (), h, Sub.of rfl (.cons rfl rfl <| .cons rfl rfl <| .nil) (.cons rfl rfl <| .cons rfl rfl <| .nil)⟩
      · replace h := iF hc38 h
        refine PWc.skip ?_
        exact ⟨((seen28 ++ [j30]), c29), (), h, Sub.of rfl (.cons rfl rfl <| .cons rfl rfl <| .nil) (.cons rfl rfl <| .cons rfl rfl <| .nil)⟩
  · rintro c3 _ h
    refine PWc.seq ?_
    refine PWc.region ?_
    refine PWl.step (LR.move rfl) rfl ?_
    replace h := iNeed h
    obtain ⟨hy42, h⟩ := h
    refine PWl.sortFnR (encD := TPart.e) (enc := RawTPart.v) (lt := ltPart) (R := RawTPart.R) (l := c3) srt102_103 RawTPart.raw rlt102 (fun _ => rfl) (fun _ => rfl) rfl Tryz.call102 rfl rfl rfl (by simp) hy42 rfl (fun s41 hy43 hy44 => ?_)
    replace h := iSrt h s41 hy43 hy44
    have hy43l := hy43.length_eq
    refine PWl.nil ?_
    refine PWc.seq ?_
    refine PWc.region ?_
    refine PWl.step (LR.move rfl) rfl ?_
    refine PWl.step (LR.assign rfl) rfl ?_
    refine PWl.nil ?_
    refine PWc.ret ?_
    replace h : _ = r0 := h
    subst h
    exact ⟨.inr rfl, 2, rfl, .inr ⟨3, _, rfl, (by first | (simp; done) | (simp; omega) | omega), rfl⟩⟩

theorem ctx_told_ok (c1 : List TPart) (r0 : List (Int × List TRun)) (h : (ctx_told c1).wp (· = r0)) : PMap Tryz.prog 67 [.d (.sl (List.map TPart.e c1))] [.u16] false (encM kI (eL TRun.e) r0) := by
  refine PMap.intro (sl := [(0, _)]) Tryz.func67 rfl Tryz.ntmps67 rfl rfl ?_
  intro ctx hK
  refine PWc.seq ?_
  refine PWc.region ?_
  refine PWl.step (LR.assign rfl) rfl ?_
  refine PWl.nil ?_
  refine PWc.seq ?_
  refine PWc.region ?_
  refine PWl.step (LR.makeMap [.u16] false rfl) rfl ?_
  refine PWl.step (LR.assign rfl) rfl ?_
  refine PWl.nil ?_
  refine PWc.seq ?_
  refine PWc.seq ?_
  refine PWc.region ?_
  refine PWl.step (LR.move rfl) rfl ?_
  refine PWl.step (LR.lenMap (enc := TPart.e) (L := c1) Tryz.underlying23 rfl) rfl ?_
  refine PWl.step (LR.move rfl) rfl ?_
  refine PWl.nil ?_
  refine PWc.block ?_
  replace h := iNeed h
  obtain ⟨hy10, h⟩ := h
  have hN := hy10.1
  refine PWc.loopRows (bid := 0) (N := List.length c1) (mid := 6) (n := 28) (ks := [.u16]) (e := 89) (k := 2) (fun i => [(3, .mp 6), (7, .d (.sl (List.map TPart.e c1))), (8, .d (.v (.int .i64 (List.length c1 : Int)))), (9, .d (.v (.int .i64 (i : Int))))]) (fun i => rowsOf kI TRun.e (AL.grow [] ((List.take i c1).filterMap ctx_toldF))) [(3, .mp 6)] [] 0 hK (by decide) (fun i x hx id h => by simp only [List.mem_cons, List.not_mem_nil, or_false] at hx; rcases hx with rfl | rfl | rfl | rfl <;> first | (simp [PV.has] at h; done) | (simp [PV.has] at h; exact h.symm) | (simp [PV.has] at h; omega)) rfl (fun i => rowsOf_plain (fun x d hd => by simp only [TRun.e, List.mem_cons, List.not_mem_nil, or_false] at hd; rcases hd with rfl | rfl <;> exact ⟨_, rfl⟩) _) (Sub.of rfl (.cons rfl rfl <| .cons rfl rfl <| .cons rfl rfl <| .cons rfl rfl <| .nil) (.cons rfl rfl <| .nil)) (fun i hi => ?_) (encM kI (eL TRun.e) (AL.grow ([] : List (Int × List TRun)) (List.filterMap ctx_toldF c1))) (by simp only [List.take_length]; exact rowsM_of _) (fun ctx vm bs ck => ?_) (fun bs ck => ?_)
  · obtain ⟨p, hp⟩ : ∃ p, c1[i]? = some p := ⟨_, List.getElem?_eq_getElem hi⟩
    have hidx : (0 : Int) ≤ (i : Int) ∧ c1[(i : Int).toNat]? = some p := ⟨by omega, by simpa using hp⟩
    have htk := AL.grow_take hp ctx_toldF
    have hwi := wrapNat (i := i) (by omega)
    by_cases hd : 0 < p.dev
    · have hf : ctx_toldF p = some (p.dev, p.runs) := by simp [ctx_toldF, hd]
      have hbd := AL.grow_bound hy10 hp hf
      rw [hf] at htk
      rcases pfind_rows (eK := kI) (enc := TRun.e) kI_inj (p.dev) (AL.grow [] ((List.take i c1).filterMap ctx_toldF)) with ⟨j, l, h1, h2, h3, h4⟩ | ⟨h1, h2, h3⟩
      · simp only [h3] at hbd
        refine .found (nl := List.length l) (nl' := (List.length (l ++ p.runs))) (l := (List.map TRun.e l)) (l' := (List.map TRun.e (l ++ p.runs))) (by simp) (by simp) h2 (by rw [htk]; simp only [AL.grow, Option.toList, List.foldl] at h3 h4 ⊢; rw [h3]; exact h4 _) fun ctx vm bs ck hvm => ?_
        have hpf : pfind (kI (p.dev)) (keysP vm) 0 = some j := by rw [keysP_fst hvm]; exact h1
        have h : (M.bind (M.idx c1 (i : Int)) fun x2 => M.need ((List.length l + List.length x2.runs) * 16 ≤ 140737488355328) <| M.pure ()).wp (fun _ => True) := ⟨p, hidx, hbd, trivial⟩
        refine PWc.seq ?_
        refine PWc.region ?_
        refine PWl.step (LR.lss rfl rfl) rfl ?_
        refine PWl.nil ?_
        refine PWc.seq ?_
        refine PWc.condT (congrArg (fun b => some (PV.d (.v (.bool b)))) (decide_eq_true (Int.ofNat_lt.2 hi))) ?_
        refine PWc.skip ?_
        refine PWc.seq ?_
        refine PWc.block ?_
        refine PWc.seq ?_
        refine PWc.region ?_
        replace h := iIdx h
        obtain ⟨x2, hy3, h⟩ := h
        have hE := idxU hy3 hidx
        subst hE
        refine PWl.step (LR.idxT (enc := TPart.e) (L := c1) (y := x2) Tryz.underlying23 Tryz.sizeOf80 rfl rfl hy3 (fun _ => rfl)) rfl ?_
        refine PWl.step (LR.loadEpAgg (ys := [_, _]) Tryz.isAgg80 Tryz.sizeOf80 rfl rfl rfl) rfl ?_
        refine PWl.step (LR.allocZ (cs := [_, _]) Tryz.zeroValue80 rfl rfl rfl rfl) rfl ?_
        refine PWl.step (LR.storeB (ns := [_, _]) Tryz.sizeOf80 rfl rfl rfl rfl rfl rfl rfl) rfl ?_
        refine PWl.nil ?_
        refine PWc.seq ?_
        refine PWc.region ?_
        refine PWl.step (LR.fieldRef Tryz.underlying80 rfl Tryz.sizeOf29 (by decide) rfl rfl) rfl ?_
        refine PWl.step (LR.loadRef Tryz.isAgg29 rfl rfl rfl) rfl ?_
        refine PWl.step (LR.gtr rfl rfl) rfl ?_
        refine PWl.nil ?_
        refine PWc.condT (congrArg (fun b => some (PV.d (.v (.bool b)))) (decide_eq_true hd)) ?_
        refine PWc.re (tl := [(3, _), (5, _), (7, _), (8, _), (9, _)]) (to := [(5, _), (6, _), (50, _)]) rfl (.cons rfl rfl <| .cons rfl rfl <| .cons rfl rfl <| .cons rfl rfl <| .cons rfl rfl <| .nil) (.cons rfl rfl <| .cons rfl rfl <| .cons rfl rfl <| .nil) ?_
        refine PWc.regionE [⟨[16], [], [], [], [], [6], [], []⟩, ⟨[17], [], [], [], [], [5], [], []⟩, ⟨[18], [], [5], [], [], [], [], []⟩, ⟨[19], [], [], [], [], [6], [], []⟩, ⟨[20], [], [], [], [], [5], [], []⟩, ⟨[21], [], [5], [], [], [], [], []⟩, ⟨[22], [], [6], [], [], [50], [], []⟩, ⟨[23], [], [], [], [], [5], [], []⟩, ⟨[24], [], [5], [], [], [], [], []⟩, ⟨[22, 25], [6, 50], [6, 50], [], [(50, [22])], [50], [], [6]⟩, ⟨[], [6], [6, 50], [], [], [], [50], []⟩] (by kernel_rfl) (by kernel_rfl) rfl ?_
        refine PQe.stepP (fun _ he ho => LR.move (he rfl rfl)) (.inl rfl) rfl ?_
        refine PQe.stepP (fun _ he ho => LR.fieldRef Tryz.underlying80 rfl Tryz.sizeOf29 (by decide) rfl (he rfl rfl)) (.inl rfl) rfl ?_
        refine PQe.stepP (fun _ he ho => LR.loadRef Tryz.isAgg29 (he rfl rfl) (ho rfl rfl) rfl) (.inl rfl) rfl ?_
        refine PQe.stepP (fun _ he ho => LR.move (he rfl rfl)) (.inl rfl) rfl ?_
        refine PQe.stepP (fun _ he ho => LR.fieldRef Tryz.underlying80 rfl Tryz.sizeOf29 (by decide) rfl (he rfl rfl)) (.inl rfl) rfl ?_
        refine PQe.stepP (fun _ he ho => LR.loadRef Tryz.isAgg29 (he rfl rfl) (ho rfl rfl) rfl) (.inl rfl) rfl ?_
        refine PQe.stepP (fun _ he ho => LR.lookupP Tryz.underlying86 key86 (he rfl rfl) (ho rfl rfl) (he rfl rfl) rfl hpf rfl) (.inl rfl) rfl ?_
        refine PQe.stepP (fun _ he ho => LR.fieldRef Tryz.underlying80 rfl Tryz.sizeOf37 (by decide) rfl (he rfl rfl)) (.inl rfl) rfl ?_
        refine PQe.stepP (fun _ he ho => LR.loadRef Tryz.isAgg37 (he rfl rfl) (ho rfl rfl) rfl) (.inl rfl) rfl ?_
        replace h := iNeed h
        obtain ⟨hy4, h⟩ := h
        refine PQe.stepX [22] (fun _ he ho ha => LR.appP (enc := TRun.e) (L := l) (R := x2.runs) [22] elem37 Tryz.underlying37 (he rfl rfl) rfl (ho rfl rfl) (ho rfl rfl) rfl (fun _ h1 h2 => Src.slT (enc := TRun.e) (R := x2.runs) (evSame h1 h2 (he rfl rfl)) (fun _ => rfl)) (fun _ => rfl) hy4 rfl ha) rfl rfl (.inl rfl) rfl ?_
        refine PQe.stepS (fun _ he ho => LR.mapUpdateP Tryz.underlying86 key86 (he rfl rfl) (ho rfl rfl) (he rfl rfl) rfl rfl (he rfl rfl) hpf) (.inl rfl) rfl ?_
        refine PQe.nil ?_
        refine PWc.region ?_
        refine PWl.step (LR.addW rfl rfl) rfl ?_
        refine PWl.step (LR.move rfl) rfl ?_
        refine PWl.nil ?_
        exact ⟨rfl, Sub.of rfl (.cons rfl rfl <| .cons rfl rfl <| .cons rfl rfl <| .cons rfl (congrArg (fun z => PV.d (.v (.int .i64 z))) hwi) <| .nil) (.cons rfl rfl <| .cons rfl rfl <| .nil)⟩
      · simp only [h2, List.length_nil, Nat.zero_add] at hbd
        refine .fresh (q := 25) (nl' := (List.length p.runs)) (l' := (List.map TRun.e p.runs)) (by simp) (by decide) (by rw [htk]; simp only [AL.grow, Option.toList, List.foldl] at h2 h3 ⊢; rw [h2]; exact h3 _) fun ctx vm bs ck hvm => ?_
        have hpf : pfind (kI (p.dev)) (keysP vm) 0 = none := by rw [keysP_fst hvm]; exact h1
        have h : (M.bind (M.idx c1 (i : Int)) fun x5 => M.need (List.length x5.runs * 16 ≤ 140737488355328) <| M.pure ()).wp (fun _ => True) := ⟨p, hidx, hbd, trivial⟩
        refine PWc.seq ?_
        refine PWc.region ?_
        refine PWl.step (LR.lss rfl rfl) rfl ?_
        refine PWl.nil ?_
        refine PWc.seq ?_
        refine PWc.condT (congrArg (fun b => some (PV.d (.v (.bool b)))) (decide_eq_true (Int.ofNat_lt.2 hi))) ?_
        refine PWc.skip ?_
        refine PWc.seq ?_
        refine PWc.block ?_
        refine PWc.seq ?_
        refine PWc.region ?_
        replace h := iIdx h
        obtain ⟨x5, hy6, h⟩ := h
        have hE := idxU hy6 hidx
        subst hE
        refine PWl.step (LR.idxT (enc := TPart.e) (L := c1) (y := x5) Tryz.underlying23 Tryz.sizeOf80 rfl rfl hy6 (fun _ => rfl)) rfl ?_
        refine PWl.step (LR.loadEpAgg (ys := [_, _]) Tryz.isAgg80 Tryz.sizeOf80 rfl rfl rfl) rfl ?_
        refine PWl.step (LR.allocZ (cs := [_, _]) Tryz.zeroValue80 rfl rfl rfl rfl) rfl ?_
        refine PWl.step (LR.storeB (ns := [_, _]) Tryz.sizeOf80 rfl rfl rfl rfl rfl rfl rfl) rfl ?_
        refine PWl.nil ?_
        refine PWc.seq ?_
        refine PWc.region ?_
        refine PWl.step (LR.fieldRef Tryz.underlying80 rfl Tryz.sizeOf29 (by decide) rfl rfl) rfl ?_
        refine PWl.step (LR.loadRef Tryz.isAgg29 rfl rfl rfl) rfl ?_
        refine PWl.step (LR.gtr rfl rfl) rfl ?_
        refine PWl.nil ?_
        refine PWc.condT (congrArg (fun b => some (PV.d (.v (.bool b)))) (decide_eq_true hd)) ?_
        refine PWc.re (tl := [(3, _), (5, _), (7, _), (8, _), (9, _)]) (to := [(5, _), (6, _)]) rfl (.cons rfl rfl <| .cons rfl rfl <| .cons rfl rfl <| .cons rfl rfl <| .cons rfl rfl <| .nil) (.cons rfl rfl <| .cons rfl rfl <| .nil) ?_
        refine PWc.regionE [⟨[16], [], [], [], [], [6], [], []⟩, ⟨[17], [], [], [], [], [5], [], []⟩, ⟨[18], [], [5], [], [], [], [], []⟩, ⟨[19], [], [], [], [], [6], [], []⟩, ⟨[20], [], [], [], [], [5], [], []⟩, ⟨[21], [], [5], [], [], [], [], []⟩, ⟨[22], [], [6], [], [], [], [], []⟩, ⟨[23], [], [], [], [], [5], [], []⟩, ⟨[24], [], [5], [], [], [], [], []⟩, ⟨[25], [25], [], [25], [], [25], [], []⟩, ⟨[], [6], [6, 25], [], [], [], [25], []⟩] (by kernel_rfl) (by kernel_rfl) rfl ?_
        refine PQe.stepP (fun _ he ho => LR.move (he rfl rfl)) (.inl rfl) rfl ?_
        refine PQe.stepP (fun _ he ho => LR.fieldRef Tryz.underlying80 rfl Tryz.sizeOf29 (by decide) rfl (he rfl rfl)) (.inl rfl) rfl ?_
        refine PQe.stepP (fun _ he ho => LR.loadRef Tryz.isAgg29 (he rfl rfl) (ho rfl rfl) rfl) (.inl rfl) rfl ?_
        refine PQe.stepP (fun _ he ho => LR.move (he rfl rfl)) (.inl rfl) rfl ?_
        refine PQe.stepP (fun _ he ho => LR.fieldRef Tryz.underlying80 rfl Tryz.sizeOf29 (by decide) rfl (he rfl rfl)) (.inl rfl) rfl ?_
        refine PQe.stepP (fun _ he ho => LR.loadRef Tryz.isAgg29 (he rfl rfl) (ho rfl rfl) rfl) (.inl rfl) rfl ?_
        refine PQe.stepP (fun _ he ho => LR.lookupPN Tryz.underlying86 key86 (he rfl rfl) (ho rfl rfl) (he rfl rfl) rfl Tryz.zeroValue37 rfl hpf) (.inl rfl) rfl ?_
        refine PQe.stepP (fun _ he ho => LR.fieldRef Tryz.underlying80 rfl Tryz.sizeOf37 (by decide) rfl (he rfl rfl)) (.inl rfl) rfl ?_
        refine PQe.stepP (fun _ he ho => LR.loadRef Tryz.isAgg37 (he rfl rfl) (ho rfl rfl) rfl) (.inl rfl) rfl ?_
        replace h := iNeed h
        obtain ⟨hy7, h⟩ := h
        refine PQe.stepN (fun _ he ho hf => LR.appNilX (enc := TRun.e) (R := x5.runs) elem37 Tryz.underlying37 (he rfl rfl) hf (Src.slT (enc := TRun.e) (R := x5.runs) (evObjs (he rfl rfl)) (fun _ => rfl)) (fun _ => rfl) hy7 rfl (fresh_alone hf)) rfl (.inl rfl) rfl ?_
        refine PQe.stepS (fun _ he ho => LR.mapUpdatePN Tryz.underlying86 key86 (he rfl rfl) (ho rfl rfl) (he rfl rfl) rfl rfl (he rfl rfl) hpf) (.inl rfl) rfl ?_
        refine PQe.nil ?_
        refine PWc.region ?_
        refine PWl.step (LR.addW rfl rfl) rfl ?_
        refine PWl.step (LR.move rfl) rfl ?_
        refine PWl.nil ?_
        exact ⟨rfl, Sub.of rfl (.cons rfl rfl <| .cons rfl rfl <| .cons rfl rfl <| .cons rfl (congrArg (fun z => PV.d (.v (.int .i64 z))) hwi) <| .nil) (.cons rfl rfl <| .cons rfl rfl <| .nil)⟩
    · have hf : ctx_toldF p = none := by simp [ctx_toldF, hd]
      rw [hf] at htk
      refine .skip (by rw [htk]; rfl) fun ctx vm bs ck => ?_
      have h : (M.bind (M.idx c1 (i : Int)) fun x8 => M.pure ()).wp (fun _ => True) := ⟨p, hidx, trivial⟩
      refine PWc.seq ?_
      refine PWc.region ?_
      refine PWl.step (LR.lss rfl rfl) rfl ?_
      refine PWl.nil ?_
      refine PWc.seq ?_
      refine PWc.condT (congrArg (fun b => some (PV.d (.v (.bool b)))) (decide_eq_true (Int.ofNat_lt.2 hi))) ?_
      refine PWc.skip ?_
      refine PWc.seq ?_
      refine PWc.block ?_
      refine PWc.seq ?_
      refine PWc.region ?_
      replace h := iIdx h
      obtain ⟨x8, hy9, h⟩ := h
      have hE := idxU hy9 hidx
      subst hE
      refine PWl.step (LR.idxT (enc := TPart.e) (L := c1) (y := x8) Tryz.underlying23 Tryz.sizeOf80 rfl rfl hy9 (fun _ => rfl)) rfl ?_
      refine PWl.step (LR.loadEpAgg (ys := [_, _]) Tryz.isAgg80 Tryz.sizeOf80 rfl rfl rfl) rfl ?_
      refine PWl.step (LR.allocZ (cs := [_, _]) Tryz.zeroValue80 rfl rfl rfl rfl) rfl ?_
      refine PWl.step (LR.storeB (ns := [_, _]) Tryz.sizeOf80 rfl rfl rfl rfl rfl rfl rfl) rfl ?_
      refine PWl.nil ?_
      refine PWc.seq ?_
      refine PWc.region ?_
      refine PWl.step (LR.fieldRef Tryz.underlying80 rfl Tryz.sizeOf29 (by decide) rfl rfl) rfl ?_
      refine PWl.step (LR.loadRef Tryz.isAgg29 rfl rfl rfl) rfl ?_
      refine PWl.step (LR.gtr rfl rfl) rfl ?_
      refine PWl.nil ?_
      refine PWc.condF (congrArg (fun b => some (PV.d (.v (.bool b)))) (decide_eq_false hd)) ?_
      refine PWc.skip ?_
      refine PWc.region ?_
      refine PWl.step (LR.addW rfl rfl) rfl ?_
      refine PWl.step (LR.move rfl) rfl ?_
      refine PWl.nil ?_
      exact ⟨rfl, Sub.of rfl (.cons rfl rfl <| .cons rfl rfl <| .cons rfl rfl <| .cons rfl (congrArg (fun z => PV.d (.v (.int .i64 z))) hwi) <| .nil) (.cons rfl rfl <| .nil)⟩
  · have h : (M.pure ()).wp (fun _ => True) := trivial
    refine PWc.seq ?_
    refine PWc.region ?_
    refine PWl.step (LR.lss rfl rfl) rfl ?_
    refine PWl.nil ?_
    refine PWc.seq ?_
    refine PWc.condF (congrArg (fun b => some (PV.d (.v (.bool b)))) (decide_eq_false (by omega))) ?_
    refine PWc.exit ?_
    exact ⟨rfl, Sub.of rfl (.cons rfl rfl <| .nil) (.cons rfl rfl <| .nil)⟩
  · refine PWc.seq ?_
    refine PWc.region ?_
    refine PWl.step (LR.move rfl) rfl ?_
    refine PWl.step (LR.assign rfl) rfl ?_
    refine PWl.nil ?_
    refine PWc.ret ?_
    replace h : _ = r0 := h
    subst h
    exact ⟨.inr rfl, 2, 6, _, _, rfl, rfl, rfl⟩
end Go.Proofs

namespace Go.Proofs
open Go.Ep
set_option maxHeartbeats 1000000
set_option maxRecDepth 100000
set_option linter.unusedVariables false
set_option linter.unusedSimpArgs false


theorem ctx_Norm_ok (c1 : List TPart) (r0 : List TPart) (h : (ctx_Norm c1).wp (· = r0)) : PRow Tryz.prog 20 [.d (.sl (List.map TPart.e c1))] 80 2 (List.map TPart.e r0) := by
  refine PRow.intro (sl := [(0, _)]) Tryz.func20 rfl Tryz.ntmps20 rfl rfl ?_
  intro ctx hK
  refine PWc.seq ?_
  refine PWc.region ?_
  refine PWl.step (LR.assignNilRow 80 2 rfl) rfl ?_
  refine PWl.nil ?_
  refine PWc.seq ?_
  refine PWc.region ?_
  refine PWl.step (LR.move rfl) rfl ?_
  replace h := iDet h
  obtain ⟨v2, hy3, h⟩ := h
  refine PWl.mapN (ctx_told_ok c1 v2 hy3) rfl Tryz.call67 rfl rfl rfl rfl rfl (fun bs4 ck4 _ => ?_)
  replace h := iDet h
  obtain ⟨v5, hy6, h⟩ := h
  refine PWl.frzM [4] hK (.cons rfl <| .nil) rfl ?_
  refine PWl.step (LR.rowN (ctx_order_ok v2 v5 hy6) rfl Tryz.call66 rfl rfl rfl rfl) rfl ?_
  refine PWl.re (tl := [(0, _), (3, _), (4, _), (5, _)]) (to := [(5, _)]) rfl (.cons rfl rfl <| .cons rfl rfl <| .cons rfl rfl <| .cons rfl rfl <| .nil) (.cons rfl rfl <| .nil) ?_
  refine PWl.step (LR.assign rfl) rfl ?_
  refine PWl.nil ?_
  refine PWc.ret ?_
  replace h : _ = r0 := h
  subst h
  exact ⟨.inr rfl, 2, rfl, .inr ⟨5, _, rfl, (by simp), rfl⟩⟩

theorem shift_Len_ok (v1 : Int) (r0 : Int) (h : (shift_Len v1).wp (· = r0)) : PFun Tryz.prog 137 [.d (.v (.int .u64 v1))] (.d (.v (.int .i64 r0))) := by
  refine PFun.intro (sl := [(0, _)]) Tryz.func137 rfl Tryz.ntmps137 rfl rfl ?_
  intro ctx hK
  refine PWc.seq ?_
  refine PWc.region ?_
  refine PWl.step (LR.assign rfl) rfl ?_
  refine PWl.nil ?_
  refine PWc.seq ?_
  refine PWc.region ?_
  refine PWl.step (LR.assign rfl) rfl ?_
  refine PWl.nil ?_
  refine PWc.seq ?_
  refine PWc.jn (iBind h) (fun (n2 : Int) (_ : Unit) => ⟨11, [(3, .d (.v (.int .i64 n2)))], []⟩) (fun h => ?_) ?_
  · refine PWc.block ?_
    refine PWc.loopM (fun (⟨v7, n8⟩ : Int × Int) (_ : Unit) => ⟨11, [(0, .d (.v (.int .u64 v7))), (3, .d (.v (.int .i64 n8)))], []⟩) () h (Sub.of rfl (.cons rfl rfl <| .cons rfl rfl <| .nil) (.nil)) ?_
    rintro N ⟨v7, n8⟩ _ h
    refine PWc.seq ?_
    refine PWc.seq ?_
    refine PWc.region ?_
    refine PWl.step (LR.move rfl) rfl ?_
    refine PWl.step (LR.gtr rfl rfl) rfl ?_
    refine PWl.nil ?_
    refine PWc.cond rfl (fun hc9 => ?_) (fun hc9 => ?_)
    · replace h := iT hc9 h
      refine PWc.skip ?_
      refine PWc.seq ?_
      refine PWc.block ?_
      refine PWc.region ?_
      refine PWl.step (LR.move rfl) rfl ?_
      refine PWl.step (LR.addW rfl rfl) rfl ?_
      refine PWl.step (LR.assign rfl) rfl ?_
      refine PWl.nil ?_
      refine PWc.region ?_
      refine PWl.step (LR.move rfl) rfl ?_
      refine PWl.step (LR.shr rfl rfl (by decide) rfl) rfl ?_
      refine PWl.step (LR.assign rfl) rfl ?_
      refine PWl.nil ?_
      exact ⟨((Int.fdiv v7 (2 ^ 8)), (IntKind.i64.wrap (n8 + 1))), (), h, Sub.of rfl (.cons rfl rfl <| .cons rfl rfl <| .nil) (.nil)⟩
    · replace h := iF hc9 h
      refine PWc.exit ?_
      exact ⟨n8, (), h, Sub.of rfl (.cons rfl rfl <| .nil) (.nil)⟩
  · rintro n2 _ h
    refine PWc.seq ?_
    refine PWc.region ?_
    refine PWl.step (LR.move rfl) rfl ?_
    refine PWl.step (LR.assign rfl) rfl ?_
    refine PWl.nil ?_
    refine PWc.ret ?_
    replace h : _ = r0 := h
    subst h
    exact ⟨.inr rfl, _, .cons (.tmp rfl rfl) <| .nil, rfl⟩

theorem shift_Byte_ok (v1 : Int) (i2 : Int) (r0 : Int) (h : (shift_Byte v1 i2).wp (· = r0)) : PFun Tryz.prog 138 [.d (.v (.int .u64 v1)), .d (.v (.int .i64 i2))] (.d (.v (.int .u8 r0))) := by
  refine PFun.intro (sl := [(0, _), (1, _)]) Tryz.func138 rfl Tryz.ntmps138 rfl rfl ?_
  intro ctx hK
  refine PWc.seq ?_
  refine PWc.region ?_
  refine PWl.step (LR.assign rfl) rfl ?_
  refine PWl.nil ?_
  refine PWc.seq ?_
  refine PWc.seq ?_
  refine PWc.region ?_
  refine PWl.step (LR.move rfl) rfl ?_
  refine PWl.step (LR.convInt Tryz.underlying140 (by rw [Tryz.underlying3]; rfl) rfl rfl) rfl ?_
  refine PWl.step (LR.gtr rfl rfl) rfl ?_
  refine PWl.nil ?_
  refine PWc.cond rfl (fun hc3 => ?_) (fun hc3 => ?_)
  · replace h := iT hc3 h
    refine PWc.seq ?_
    refine PWc.region ?_
    refine PWl.step (LR.assign rfl) rfl ?_
    refine PWl.nil ?_
    refine PWc.ret ?_
    replace h : _ = r0 := h
    subst h
    exact ⟨.inr rfl, _, .cons (.tmp rfl rfl) <| .nil, rfl⟩
  · replace h := iF hc3 h
    refine PWc.skip ?_
    refine PWc.seq ?_
    refine PWc.region ?_
    refine PWl.step (LR.move rfl) rfl ?_
    refine PWl.step (LR.move rfl) rfl ?_
    refine PWl.step (LR.convInt Tryz.underlying140 (by rw [Tryz.underlying3]; rfl) rfl rfl) rfl ?_
    refine PWl.step (LR.mulW rfl rfl) rfl ?_
    replace h := iNeed h
    obtain ⟨hy4, h⟩ := h
    refine PWl.step (LR.shr rfl rfl hy4 rfl) rfl ?_
    refine PWl.step (LR.convInt Tryz.underlying5 (by rw [Tryz.underlying30]; rfl) rfl rfl) rfl ?_
    refine PWl.step (LR.assign rfl) rfl ?_
    refine PWl.nil ?_
    refine PWc.ret ?_
    replace h : _ = r0 := h
    subst h
    exact ⟨.inr rfl, _, .cons (.tmp rfl rfl) <| .nil, rfl⟩

theorem num_Append_ok (b1 : List Int) (v2 : Int) (r0 : List Int) (h : (num_Append b1 v2).wp (· = r0)) : PRow Tryz.prog 122 [.d (.sl (List.map (eK .u8) b1)), .d (.v (.int .u64 v2))] 5 1 (List.map (eK .u8) r0) := by
  refine PRow.intro (sl := [(0, _), (1, _)]) Tryz.func122 rfl Tryz.ntmps122 rfl rfl ?_
  intro ctx hK
  refine PWc.seq ?_
  refine PWc.region ?_
  refine PWl.step (LR.assignNilRow 5 1 rfl) rfl ?_
  refine PWl.nil ?_
  refine PWc.seq ?_
  refine PWc.region ?_
  refine PWl.step (LR.move rfl) rfl ?_
  replace h := iDet h
  obtain ⟨v3, hy4, h⟩ := h
  refine PWl.step (LR.callN (shift_Len_ok v2 v3 hy4) rfl Tryz.call137 rfl rfl rfl rfl) rfl ?_
  refine PWl.step (LR.assign rfl) rfl ?_
  refine PWl.nil ?_
  refine PWc.seq ?_
  refine PWc.region ?_
  refine PWl.step (LR.move rfl) rfl ?_
  refine PWl.step (LR.lenMap (enc := (eK .u8)) (L := b1) Tryz.underlying48 rfl) rfl ?_
  refine PWl.step (LR.move rfl) rfl ?_
  refine PWl.step (LR.addW rfl rfl) rfl ?_
  refine PWl.step (LR.addW rfl rfl) rfl ?_
  replace h := iNeed h
  obtain ⟨hy5, h⟩ := h
  refine PWl.step (LR.make0 (n := Int.toNat ((IntKind.i64.wrap (((IntKind.i64.wrap ((List.length b1 : Int) + v3))) + 1)))) elem48 rfl rfl (by omega) (by omega) (by omega) rfl) rfl ?_
  refine PWl.step (LR.assign rfl) rfl ?_
  refine PWl.nil ?_
  refine PWc.seq ?_
  refine PWc.region ?_
  refine PWl.step (LR.move rfl) rfl ?_
  refine PWl.step (LR.move rfl) rfl ?_
  replace h := iNeed h
  obtain ⟨hy6, h⟩ := h
  refine PWl.step (LR.appT (enc := (eK .u8)) (L := ([] : List Int)) (R := b1) [6, 15, 16] elem48 Tryz.underlying48 rfl (by first | (simp; done) | (simp; omega) | omega) rfl (Src.slT (enc := (eK .u8)) (R := b1) rfl (fun _ => rfl)) (fun _ => rfl) hy6 rfl rfl) rfl ?_
  refine PWl.step (LR.move rfl) rfl ?_
  refine PWl.step (LR.convInt Tryz.underlying5 (by rw [Tryz.underlying3]; rfl) rfl rfl) rfl ?_
  refine PWl.step (LR.buildSliceD [.tmp 20] elem48 rfl rfl (.cons rfl rfl rfl <| .nil) (by decide) (by decide)) rfl ?_
  replace h := iNeed h
  obtain ⟨hy7, h⟩ := h
  refine PWl.step (LR.appT (enc := (eK .u8)) (L := (([] : List Int) ++ b1)) (R := [(IntKind.u8.wrap v3)]) [18] elem48 Tryz.underlying48 rfl rfl rfl (Src.slT (enc := (eK .u8)) (R := [(IntKind.u8.wrap v3)]) rfl (fun _ => rfl)) (fun _ => rfl) hy7 rfl rfl) rfl ?_
  refine PWl.step (LR.assign rfl) rfl ?_
  refine PWl.nil ?_
  refine PWc.seq ?_
  refine PWc.seq ?_
  refine PWc.region ?_
  refine PWl.re (tl := [(1, _), (5, _), (6, _)]) (to := [(15, _)]) rfl (.cons rfl rfl <| .cons rfl rfl <| .cons rfl rfl <| .nil) (.cons rfl rfl <| .nil) ?_
  refine PWl.step (LR.move rfl) rfl ?_
  refine PWl.step (LR.subW rfl rfl) rfl ?_
  refine PWl.step (LR.assign rfl) rfl ?_
  refine PWl.nil ?_
  refine PWc.jn (iBind h) (fun (v8 : List Int) (_ : Unit) => ⟨36, [(6, .row 15 (List.length v8))], [(15, .row 5 1 (List.map (eK .u8) v8))]⟩) (fun h => ?_) ?_
  · refine PWc.block ?_
    refine PWc.loopM (fun (⟨i19, v20⟩ : Int × List Int) (_ : Unit) => ⟨36, [(1, .d (.v (.int .u64 v2))), (6, .row 15 (List.length v20)), (7, .d (.v (.int .i64 i19)))], [(15, .row 5 1 (List.map (eK .u8) v20))]⟩) () h (Sub.of rfl (.cons rfl rfl <| .cons rfl (by first | rfl | (simp; done) | (congr 1; first | (simp; done) | (simp; omega))) <| .cons rfl rfl <| .nil) (.cons rfl rfl <| .nil)) ?_
    rintro N ⟨i19, v20⟩ _ h
    refine PWc.seq ?_
    refine PWc.seq ?_
    refine PWc.region ?_
    refine PWl.step (LR.move rfl) rfl ?_
    refine PWl.step (LR.geq rfl rfl) rfl ?_
    refine PWl.nil ?_
    refine PWc.cond rfl (fun hc21 => ?_) (fun hc21 => ?_)
    · replace h := iT hc21 h
      refine PWc.skip ?_
      refine PWc.seq ?_
      refine PWc.block ?_
      refine PWc.region ?_
      refine PWl.step (LR.move rfl) rfl ?_
      refine PWl.step (LR.move rfl) rfl ?_
      refine PWl.step (LR.move rfl) rfl ?_
      replace h := iDet h
      obtain ⟨v22, hy23, h⟩ := h
      refine PWl.step (LR.callN (shift_Byte_ok v2 i19 v22 hy23) rfl Tryz.call138 rfl rfl rfl rfl) rfl ?_
      refine PWl.step (LR.buildSliceD [.tmp 32] elem48 rfl rfl (.cons rfl rfl rfl <| .nil) (by decide) (by decide)) rfl ?_
      replace h := iNeed h
      obtain ⟨hy24, h⟩ := h
      refine PWl.step (LR.appT (enc := (eK .u8)) (L := v20) (R := [v22]) [6, 29] elem48 Tryz.underlying48 rfl rfl rfl (Src.slT (enc := (eK .u8)) (R := [v22]) rfl (fun _ => rfl)) (fun _ => rfl) hy24 rfl rfl) rfl ?_
      refine PWl.step (LR.assign rfl) rfl ?_
      refine PWl.nil ?_
      refine PWc.region ?_
      refine PWl.step (LR.move rfl) rfl ?_
      refine PWl.step (LR.subW rfl rfl) rfl ?_
      refine PWl.step (LR.assign rfl) rfl ?_
      refine PWl.nil ?_
      exact ⟨((IntKind.i64.wrap (i19 - 1)), (v20 ++ [v22])), (), h, Sub.of rfl (.cons rfl rfl <| .cons rfl rfl <| .cons rfl rfl <| .nil) (.cons rfl rfl <| .nil)⟩
    · replace h := iF hc21 h
      refine PWc.exit ?_
      exact ⟨v20, (), h, Sub.of rfl (.cons rfl rfl <| .nil) (.cons rfl rfl <| .nil)⟩
  · rintro v8 _ h
    refine PWc.seq ?_
    refine PWc.region ?_
    refine PWl.step (LR.move rfl) rfl ?_
    refine PWl.step (LR.assign rfl) rfl ?_
    refine PWl.nil ?_
    refine PWc.ret ?_
    replace h : _ = r0 := h
    subst h
    exact ⟨.inr rfl, 4, rfl, .inr ⟨15, _, rfl, (by simp), rfl⟩⟩

theorem pack_Writer_put_o_ok (b1 : List Int) (row2 : List Int) (r0 : List Int) (h : (pack_Writer_put_o b1 row2).wp (· = r0)) : PObj Tryz.prog 121 [.ref 100 0, .d (.sl (List.map (eK .u8) b1))] [(100, .cells 71 [.row 101 (List.length row2)]), (101, .row 5 1 (List.map (eK .u8) row2))] [100] (.tup []) (fun _ : Unit => [(100, .cells 71 [.row 101 (List.length r0)]), (101, .row 5 1 (List.map (eK .u8) r0))]) := by
  refine PObj.intro (sl := [(0, _), (1, _)]) Tryz.func121 rfl Tryz.ntmps121 rfl rfl rfl ?_
  intro ctx hK pv
  refine PWc.seq ?_
  refine PWc.region ?_
  refine PWl.step (LR.move rfl) rfl ?_
  refine PWl.step (LR.neqPtr Tryz.underlying73 rfl) rfl ?_
  refine PWl.nil ?_
  refine PWc.condT rfl ?_
  refine PWc.region ?_
  refine PWl.step (LR.move rfl) rfl ?_
  refine PWl.step (LR.move rfl) rfl ?_
  refine PWl.step (LR.nilCheckRef rfl) rfl ?_
  refine PWl.step (LR.fieldRef Tryz.underlying71 rfl Tryz.sizeOf48 (by decide) rfl rfl) rfl ?_
  refine PWl.step (LR.loadRef Tryz.isAgg48 rfl rfl rfl) rfl ?_
  refine PWl.step (LR.move rfl) rfl ?_
  replace h := iNeed h
  obtain ⟨hy3, h⟩ := h
  refine PWl.sub (Sub.junkCell (id := 100) (j := 0) rfl) ?_
  refine PWl.step (LR.appT (enc := (eK .u8)) (L := row2) (R := b1) [10] elem48 Tryz.underlying48 rfl rfl rfl (Src.slT (enc := (eK .u8)) (R := b1) rfl (fun _ => rfl)) (fun _ => rfl) hy3 rfl rfl) rfl ?_
  refine PWl.step (LR.nilCheckRef rfl) rfl ?_
  refine PWl.step (LR.fieldRef Tryz.underlying71 rfl Tryz.sizeOf48 (by decide) rfl rfl) rfl ?_
  refine PWl.step (LR.storeB (ns := [_]) Tryz.sizeOf48 rfl rfl rfl rfl rfl rfl rfl) rfl ?_
  refine PWl.nil ?_
  replace h : _ = r0 := h
  subst h
  exact EndsO.mk () (.inl rfl) (Sub.of (tl := []) (to := [(100, _), (101, _), (1100, _)]) rfl (.nil) (.cons rfl (by first | rfl | (congr 1; congr 2; first | (simp; done) | (simp; omega))) <| .cons rfl rfl <| .cons rfl rfl <| .nil)) (.nil) rfl rfl

theorem pack_Writer_Num_o_ok (v1 : Int) (row2 : List Int) (r0 : List Int) (h : (pack_Writer_Num_o v1 row2).wp (· = r0)) : PObj Tryz.prog 92 [.ref 100 0, .d (.v (.int .u64 v1))] [(100, .cells 71 [.row 101 (List.length row2)]), (101, .row 5 1 (List.map (eK .u8) row2))] [100] (.tup []) (fun _ : Unit => [(100, .cells 71 [.row 101 (List.length r0)]), (101, .row 5 1 (List.map (eK .u8) r0))]) := by
  refine PObj.intro (sl := [(0, _), (1, _)]) Tryz.func92 rfl Tryz.ntmps92 rfl rfl rfl ?_
  intro ctx hK pv
  refine PWc.region ?_
  refine PWl.step (LR.move rfl) rfl ?_
  refine PWl.step (LR.move rfl) rfl ?_
  replace h := iDet h
  obtain ⟨v3, hy4, h⟩ := h
  refine PWl.step (LR.rowN (num_Append_ok ([] : List Int) v1 v3 hy4) rfl Tryz.call122 rfl rfl rfl rfl) rfl ?_
  replace h := iDet h
  obtain ⟨y5, hy6, h⟩ := h
  refine PWl.frz [6] hK (.cons rfl <| .nil) rfl (by simp) ?_
  refine PWl.step (LR.callObj [(100, 100), (101, 101)] [] [100, 101] (pack_Writer_put_o_ok v3 row2 y5 hy6) hK rfl Tryz.call121 rfl (by first | rfl | (simp; done) | (simp [PV.nilD, PV.ren, rn]; omega)) (.cons (by first | rfl | (congr 1; first | (simp; done) | (simp; omega))) <| .cons (by first | rfl | (congr 1; first | (simp; done) | (simp; omega))) <| .nil) rfl rfl rfl rfl) rfl ?_
  refine PWl.nil ?_
  replace h : _ = r0 := h
  subst h
  exact EndsO.mk () (.inl rfl) (Sub.of (tl := []) (to := [(100, _), (101, _), (1100, _)]) rfl (.nil) (.cons rfl (by first | rfl | (congr 1; congr 2; first | (simp; done) | (simp; omega))) <| .cons rfl rfl <| .cons rfl rfl <| .nil)) (.nil) rfl rfl
end Go.Proofs

namespace Go.Proofs
open Go.Ep
set_option maxHeartbeats 1000000
set_option maxRecDepth 100000
set_option linter.unusedVariables false
set_option linter.unusedSimpArgs false


theorem dcode_PutCtx_o_ok (c1 : List TPart) (row2 : List Int) (r0 : List Int) (h : (dcode_PutCtx_o c1 row2).wp (· = r0)) : PObj Tryz.prog 55 [.ref 100 0, .d (.sl (List.map TPart.e c1))] [(100, .cells 71 [.row 101 (List.length row2)]), (101, .row 5 1 (List.map (eK .u8) row2))] [100] (.tup []) (fun _ : Unit => [(100, .cells 71 [.row 101 (List.length r0)]), (101, .row 5 1 (List.map (eK .u8) r0))]) := by
  refine PObj.intro (sl := [(0, _), (1, _)]) Tryz.func55 rfl Tryz.ntmps55 rfl rfl rfl ?_
  intro ctx hK pv
  refine PWc.seq ?_
  refine PWc.region ?_
  refine PWl.step (LR.move rfl) rfl ?_
  replace h := iDet h
  obtain ⟨v3, hy4, h⟩ := h
  refine PWl.step (LR.rowN (ctx_Norm_ok c1 v3 hy4) rfl Tryz.call20 rfl rfl rfl rfl) rfl ?_
  refine PWl.step (LR.assign rfl) rfl ?_
  refine PWl.nil ?_
  refine PWc.seq ?_
  refine PWc.region ?_
  refine PWl.step (LR.move rfl) rfl ?_
  refine PWl.step (LR.move rfl) rfl ?_
  refine PWl.step (LR.lenRow Tryz.underlying23 rfl) rfl ?_
  refine PWl.step (LR.convInt Tryz.underlying30 (by rw [Tryz.underlying3]; rfl) rfl rfl) rfl ?_
  replace h := iDet h
  obtain ⟨y5, hy6, h⟩ := h
  refine PWl.step (LR.callObj [(100, 100), (101, 101)] [] [100, 101] (pack_Writer_Num_o_ok ((IntKind.u64.wrap ((List.length v3) : Int))) row2 y5 hy6) hK rfl Tryz.call92 rfl (by first | rfl | (simp; done) | (simp [PV.nilD, PV.ren, rn]; omega)) (.cons (by first | rfl | (congr 1; first | (simp; done) | (simp; omega))) <| .cons (by first | rfl | (congr 1; first | (simp; done) | (simp; omega))) <| .nil) rfl rfl rfl rfl) rfl ?_
  refine PWl.nil ?_
  refine PWc.seq ?_
  refine PWc.re (tl := [(0, _), (1, _)]) (to := [(9, _), (100, _), (101, _), (1100, _)]) rfl (.cons rfl rfl <| .cons rfl rfl <| .nil) (.cons rfl rfl <| .cons rfl rfl <| .cons rfl rfl <| .cons rfl rfl <| .nil) ?_
  refine PWc.region ?_
  refine PWl.step (LR.move rfl) rfl ?_
  refine PWl.step (LR.lenRow Tryz.underlying23 rfl) rfl ?_
  refine PWl.step (LR.move rfl) rfl ?_
  refine PWl.nil ?_
  refine PWc.block ?_
  refine PWc.loopM (fun (⟨v75, v76⟩ : Int × List Int) (_ : Unit) => ⟨49, [(0, .ref 100 0), (15, .row 9 (List.length v3)), (16, .d (.v (.int .i64 ((List.length v3) : Int)))), (17, .d (.v (.int .i64 v75)))], [(9, .row 80 2 (List.map TPart.e v3)), (100, .cells 71 [.row 101 (List.length v76)]), (101, .row 5 1 (List.map (eK .u8) v76)), (1100, .pin 100 (pv 100).1 (pv 100).2)]⟩) () h (Sub.of rfl (.cons rfl rfl <| .cons rfl rfl <| .cons rfl rfl <| .cons rfl rfl <| .nil) (.cons rfl rfl <| .cons rfl rfl <| .cons rfl rfl <| .cons rfl rfl <| .nil)) ?_
  rintro N ⟨v75, v76⟩ _ h
  refine PWc.seq ?_
  refine PWc.region ?_
  refine PWl.step (LR.lss rfl rfl) rfl ?_
  refine PWl.nil ?_
  refine PWc.seq ?_
  refine PWc.cond rfl (fun hc77 => ?_) (fun hc77 => ?_)
  · replace h := iT hc77 h
    refine PWc.skip ?_
    refine PWc.seq ?_
    refine PWc.jn (iBind h) (fun (v78 : List Int) (_ : Unit) => ⟨49, [(0, .ref 100 0), (15, .row 9 (List.length v3)), (16, .d (.v (.int .i64 ((List.length v3) : Int)))), (17, .d (.v (.int .i64 v75)))], [(9, .row 80 2 (List.map TPart.e v3)), (100, .cells 71 [.row 101 (List.length v78)]), (101, .row 5 1 (List.map (eK .u8) v78)), (1100, .pin 100 (pv 100).1 (pv 100).2)]⟩) (fun h => ?_) ?_
    · refine PWc.block ?_
      refine PWc.seq ?_
      refine PWc.region ?_
      replace h := iIdx h
      obtain ⟨x79, hy80, h⟩ := h
      refine PWl.step (LR.idxRowT (L := v3) (y := x79) Tryz.underlying23 Tryz.sizeOf80 rfl rfl rfl hy80) rfl ?_
      refine PWl.step (LR.loadRpT (enc := TPart.e) (L := v3) (y := x79) Tryz.isAgg80 Tryz.sizeOf80 rfl rfl hy80.2) rfl ?_
      refine PWl.step (LR.allocZ (cs := [_, _]) Tryz.zeroValue80 rfl rfl rfl rfl) rfl ?_
      refine PWl.step (LR.storeB (ns := [_, _]) Tryz.sizeOf80 rfl rfl rfl rfl rfl rfl rfl) rfl ?_
      refine PWl.nil ?_
      refine PWc.seq ?_
      refine PWc.region ?_
      refine PWl.step (LR.move rfl) rfl ?_
      refine PWl.step (LR.fieldRef Tryz.underlying80 rfl Tryz.sizeOf29 (by decide) rfl rfl) rfl ?_
      refine PWl.step (LR.loadRef Tryz.isAgg29 rfl rfl rfl) rfl ?_
      refine PWl.step (LR.convInt Tryz.underlying30 (by rw [Tryz.underlying29]; rfl) rfl rfl) rfl ?_
      replace h := iDet h
      obtain ⟨y81, hy82, h⟩ := h
      refine PWl.step (LR.callObj [(100, 100), (101, 101)] [] [100, 101] (pack_Writer_Num_o_ok (IntKind.u64.wrap x79.dev) v76 y81 hy82) hK rfl Tryz.call92 rfl (by first | rfl | (simp; done) | (simp [PV.nilD, PV.ren, rn]; omega)) (.cons (by first | rfl | (congr 1; first | (simp; done) | (simp; omega))) <| .cons (by first | rfl | (congr 1; first | (simp; done) | (simp; omega))) <| .nil) rfl rfl rfl rfl) rfl ?_
      refine PWl.nil ?_
      refine PWc.seq ?_
      refine PWc.re (tl := [(0, _), (5, _), (15, _), (16, _), (17, _)]) (to := [(5, _), (9, _), (100, _), (101, _), (1100, _)]) rfl (.cons rfl rfl <| .cons rfl rfl <| .cons rfl rfl <| .cons rfl rfl <| .cons rfl rfl <| .nil) (.cons rfl rfl <| .cons rfl rfl <| .cons rfl rfl <| .cons rfl rfl <| .cons rfl rfl <| .nil) ?_
      refine PWc.region ?_
      refine PWl.step (LR.move rfl) rfl ?_
      refine PWl.step (LR.fieldRef Tryz.underlying80 rfl Tryz.sizeOf37 (by decide) rfl rfl) rfl ?_
      refine PWl.step (LR.loadRef Tryz.isAgg37 rfl rfl rfl) rfl ?_
      refine PWl.step (LR.lenMap (enc := TRun.e) (L := x79.runs) Tryz.underlying37 rfl) rfl ?_
      refine PWl.step (LR.convInt Tryz.underlying30 (by rw [Tryz.underlying3]; rfl) rfl rfl) rfl ?_
      replace h := iDet h
      obtain ⟨y83, hy84, h⟩ := h
      refine PWl.step (LR.callObj [(100, 100), (101, 101)] [] [100, 101] (pack_Writer_Num_o_ok (IntKind.u64.wrap (List.length x79.runs : Int)) y81 y83 hy84) hK rfl Tryz.call92 rfl (by first | rfl | (simp; done) | (simp [PV.nilD, PV.ren, rn]; omega)) (.cons (by first | rfl | (congr 1; first | (simp; done) | (simp; omega))) <| .cons (by first | rfl | (congr 1; first | (simp; done) | (simp; omega))) <| .nil) rfl rfl rfl rfl) rfl ?_
      refine PWl.nil ?_
      refine PWc.seq ?_
      refine PWc.re (tl := [(0, _), (5, _), (15, _), (16, _), (17, _)]) (to := [(5, _), (9, _), (100, _), (101, _), (1100, _)]) rfl (.cons rfl rfl <| .cons rfl rfl <| .cons rfl rfl <| .cons rfl rfl <| .cons rfl rfl <| .nil) (.cons rfl rfl <| .cons rfl rfl <| .cons rfl rfl <| .cons rfl rfl <| .cons rfl rfl <| .nil) ?_
      refine PWc.region ?_
      refine PWl.step (LR.fieldRef Tryz.underlying80 rfl Tryz.sizeOf37 (by decide) rfl rfl) rfl ?_
      refine PWl.step (LR.loadRef Tryz.isAgg37 rfl rfl rfl) rfl ?_
      refine PWl.step (LR.lenMap (enc := TRun.e) (L := x79.runs) Tryz.underlying37 rfl) rfl ?_
      refine PWl.step (LR.move rfl) rfl ?_
      refine PWl.nil ?_
      refine PWc.block ?_
      refine PWc.loopM (fun (⟨v101, v102⟩ : Int × List Int) (_ : Unit) => ⟨49, [(0, .ref 100 0), (15, .row 9 (List.length v3)), (16, .d (.v (.int .i64 ((List.length v3) : Int)))), (17, .d (.v (.int .i64 v75))), (33, .d (.sl (List.map TRun.e x79.runs))), (34, .d (.v (.int .i64 (List.length x79.runs : Int)))), (35, .d (.v (.int .i64 v101)))], [(9, .row 80 2 (List.map TPart.e v3)), (100, .cells 71 [.row 101 (List.length v102)]), (101, .row 5 1 (List.map (eK .u8) v102)), (1100, .pin 100 (pv 100).1 (pv 100).2)]⟩) () h (Sub.of rfl (.cons rfl rfl <| .cons rfl rfl <| .cons rfl rfl <| .cons rfl rfl <| .cons rfl rfl <| .cons rfl rfl <| .cons rfl rfl <| .nil) (.cons rfl rfl <| .cons rfl rfl <| .cons rfl rfl <| .cons rfl rfl <| .nil)) ?_
      rintro N ⟨v101, v102⟩ _ h
      refine PWc.seq ?_
      refine PWc.region ?_
      refine PWl.step (LR.lss rfl rfl) rfl ?_
      refine PWl.nil ?_
      refine PWc.seq ?_
      refine PWc.cond rfl (fun hc103 => ?_) (fun hc103 => ?_)
      · replace h := iT hc103 h
        refine PWc.skip ?_
        refine PWc.seq ?_
        refine PWc.block ?_
        refine PWc.seq ?_
        refine PWc.region ?_
        replace h := iIdx h
        obtain ⟨x104, hy105, h⟩ := h
        refine PWl.step (LR.idxT (enc := TRun.e) (L := x79.runs) (y := x104) Tryz.underlying37 Tryz.sizeOf89 rfl rfl hy105 (fun _ => rfl)) rfl ?_
        refine PWl.step (LR.loadEpAgg (ys := [_, _]) Tryz.isAgg89 Tryz.sizeOf89 rfl rfl rfl) rfl ?_
        refine PWl.step (LR.allocZ (cs := [_, _]) Tryz.zeroValue89 rfl rfl rfl rfl) rfl ?_
        refine PWl.step (LR.storeB (ns := [_, _]) Tryz.sizeOf89 rfl rfl rfl rfl rfl rfl rfl) rfl ?_
        refine PWl.nil ?_
        refine PWc.seq ?_
        refine PWc.region ?_
        refine PWl.step (LR.move rfl) rfl ?_
        refine PWl.step (LR.fieldRef Tryz.underlying89 rfl Tryz.sizeOf30 (by decide) rfl rfl) rfl ?_
        refine PWl.step (LR.loadRef Tryz.isAgg30 rfl rfl rfl) rfl ?_
        replace h := iDet h
        obtain ⟨y106, hy107, h⟩ := h
        refine PWl.step (LR.callObj [(100, 100), (101, 101)] [] [100, 101] (pack_Writer_Num_o_ok x104.lo v102 y106 hy107) hK rfl Tryz.call92 rfl (by first | rfl | (simp; done) | (simp [PV.nilD, PV.ren, rn]; omega)) (.cons (by first | rfl | (congr 1; first | (simp; done) | (simp; omega))) <| .cons (by first | rfl | (congr 1; first | (simp; done) | (simp; omega))) <| .nil) rfl rfl rfl rfl) rfl ?_
        refine PWl.nil ?_
        refine PWc.re (tl := [(0, _), (7, _), (15, _), (16, _), (17, _), (33, _), (34, _), (35, _)]) (to := [(7, _), (9, _), (100, _), (101, _), (1100, _)]) rfl (.cons rfl rfl <| .cons rfl rfl <| .cons rfl rfl <| .cons rfl rfl <| .cons rfl rfl <| .cons rfl rfl <| .cons rfl rfl <| .cons rfl rfl <| .nil) (.cons rfl rfl <| .cons rfl rfl <| .cons rfl rfl <| .cons rfl rfl <| .cons rfl rfl <| .nil) ?_
        refine PWc.region ?_
        refine PWl.step (LR.move rfl) rfl ?_
        refine PWl.step (LR.fieldRef Tryz.underlying89 rfl Tryz.sizeOf30 (by decide) rfl rfl) rfl ?_
        refine PWl.step (LR.loadRef Tryz.isAgg30 rfl rfl rfl) rfl ?_
        replace h := iDet h
        obtain ⟨y108, hy109, h⟩ := h
        refine PWl.step (LR.callObj [(100, 100), (101, 101)] [] [100, 101] (pack_Writer_Num_o_ok x104.hi y106 y108 hy109) hK rfl Tryz.call92 rfl (by first | rfl | (simp; done) | (simp [PV.nilD, PV.ren, rn]; omega)) (.cons (by first | rfl | (congr 1; first | (simp; done) | (simp; omega))) <| .cons (by first | rfl | (congr 1; first | (simp; done) | (simp; omega))) <| .nil) rfl rfl rfl rfl) rfl ?_
        refine PWl.nil ?_
        refine PWc.re (tl := [(0, _), (15, _), (16, _), (17, _), (33, _), (34, _), (35, _)]) (to := [(9, _), (100, _), (101, _), (1100, _)]) rfl (.cons rfl rfl <| .cons rfl rfl <| .cons rfl rfl <| .cons rfl rfl <| .cons rfl rfl <| .cons rfl rfl <| .cons rfl rfl <| .nil) (.cons rfl rfl <| .cons rfl rfl <| .cons rfl rfl <| .cons rfl rfl <| .nil) ?_
        refine PWc.region ?_
        refine PWl.step (LR.addW rfl rfl) rfl ?_
        refine PWl.step (LR.move rfl) rfl ?_
        refine PWl.nil ?_
        exact ⟨((IntKind.i64.wrap (v101 + 1)), y108), (), h, Sub.of rfl (.cons rfl rfl <| .cons rfl rfl <| .cons rfl rfl <| .cons rfl rfl <| .cons rfl rfl <| .cons rfl rfl <| .cons rfl rfl <| .nil) (.cons rfl rfl <| .cons rfl rfl <| .cons rfl rfl <| .cons rfl rfl <| .nil)⟩
      · replace h := iF hc103 h
        refine PWc.exit ?_
        exact ⟨v102, (), h, Sub.of rfl (.cons rfl rfl <| .cons rfl rfl <| .cons rfl rfl <| .cons rfl rfl <| .nil) (.cons rfl rfl <| .cons rfl rfl <| .cons rfl rfl <| .cons rfl rfl <| .nil)⟩
    · rintro v78 _ h
      refine PWc.region ?_
      refine PWl.step (LR.addW rfl rfl) rfl ?_
      refine PWl.step (LR.move rfl) rfl ?_
      refine PWl.nil ?_
      exact ⟨((IntKind.i64.wrap (v75 + 1)), v78), (), h, Sub.of rfl (.cons rfl rfl <| .cons rfl rfl <| .cons rfl rfl <| .cons rfl rfl <| .nil) (.cons rfl rfl <| .cons rfl rfl <| .cons rfl rfl <| .cons rfl rfl <| .nil)⟩
  · replace h := iF hc77 h
    refine PWc.exit ?_
    replace h : _ = r0 := h
    subst h
    exact EndsO.mk () (.inl rfl) (Sub.of (tl := []) (to := [(100, _), (101, _), (1100, _)]) rfl (.nil) (.cons rfl (by first | rfl | (congr 1; congr 2; first | (simp; done) | (simp; omega))) <| .cons rfl rfl <| .cons rfl rfl <| .nil)) (.nil) rfl rfl

theorem pack_Writer_Bytes_o_ok (row1 : List Int) (r0 : List Int × List Int) (h : (pack_Writer_Bytes_o row1).wp (· = r0)) : PObj Tryz.prog 58 [.ref 100 0] [(100, .cells 71 [.row 101 (List.length row1)]), (101, .row 5 1 (List.map (eK .u8) row1))] [100] (.d (.sl (List.map (eK .u8) r0.1))) (fun _ : Unit => [(100, .cells 71 [.row 101 (List.length r0.2)]), (101, .row 5 1 (List.map (eK .u8) r0.2))]) := by
  refine PObj.intro (sl := [(0, _)]) Tryz.func58 rfl Tryz.ntmps58 rfl rfl rfl ?_
  intro ctx hK pv
  refine PWc.seq ?_
  refine PWc.region ?_
  refine PWl.step (LR.assignNilRow 5 1 rfl) rfl ?_
  refine PWl.nil ?_
  refine PWc.seq ?_
  refine PWc.seq ?_
  refine PWc.region ?_
  refine PWl.step (LR.move rfl) rfl ?_
  refine PWl.step (LR.eqlPtr Tryz.underlying73 rfl) rfl ?_
  refine PWl.nil ?_
  refine PWc.condF rfl ?_
  refine PWc.skip ?_
  refine PWc.seq ?_
  refine PWc.region ?_
  refine PWl.step (LR.move rfl) rfl ?_
  refine PWl.step (LR.nilCheckRef rfl) rfl ?_
  refine PWl.step (LR.fieldRef Tryz.underlying71 rfl Tryz.sizeOf48 (by decide) rfl rfl) rfl ?_
  refine PWl.step (LR.loadRef Tryz.isAgg48 rfl rfl rfl) rfl ?_
  replace h := iNeed h
  obtain ⟨hy2, h⟩ := h
  refine PWl.step (LR.appNilT (enc := (eK .u8)) (R := row1) elem48 Tryz.underlying48 rfl (Src.rowT (enc := (eK .u8)) (R := row1) rfl rfl rfl) (fun _ => rfl) hy2 rfl rfl) rfl ?_
  refine PWl.re (tl := [(0, _), (3, _), (4, _), (5, _), (6, _), (7, _), (8, _), (9, _)]) (to := [(9, _), (100, _), (101, _), (1100, _)]) rfl (.cons rfl rfl <| .cons rfl rfl <| .cons rfl rfl <| .cons rfl rfl <| .cons rfl rfl <| .cons rfl rfl <| .cons rfl rfl <| .cons rfl rfl <| .nil) (.cons rfl rfl <| .cons rfl rfl <| .cons rfl rfl <| .cons rfl rfl <| .nil) ?_
  refine PWl.step (LR.assign rfl) rfl ?_
  refine PWl.nil ?_
  refine PWc.ret ?_
  replace h : _ = r0 := h
  subst h
  exact EndsO.mk () (.inr rfl) (Sub.trans (Sub.frz [2, 9] hK rfl (by simp) (AllRow.get (.cons rfl <| .cons rfl <| .nil))) <| Sub.of (tl := [(2, _)]) (to := [(100, _), (101, _), (1100, _)]) rfl (.cons rfl rfl <| .nil) (.cons rfl (by first | rfl | (congr 1; congr 2; first | (simp; done) | (simp; omega))) <| .cons rfl rfl <| .cons rfl rfl <| .nil)) (.cons (.tmp rfl) <| .nil) rfl rfl

theorem dcode_Encode_ok (c1 : List TPart) (r0 : List Int) (h : (dcode_Encode c1).wp (· = r0)) : PFun Tryz.prog 59 [.d (.sl (List.map TPart.e c1))] (.d (.sl (List.map (eK .u8) r0))) := by
  refine PFun.intro (sl := [(0, _)]) Tryz.func59 rfl Tryz.ntmps59 rfl rfl ?_
  intro ctx hK
  refine PWc.seq ?_
  refine PWc.region ?_
  refine PWl.step (LR.assignNilRow 5 1 rfl) rfl ?_
  refine PWl.nil ?_
  refine PWc.seq ?_
  refine PWc.region ?_
  refine PWl.step (LR.allocR (cs := [_]) Tryz.zeroValue71 rfl rfl rfl rfl) rfl ?_
  refine PWl.sub (Sub.ownNil (id := 3) (j := 0) (id' := 30060) (e := 5) (k := 1) rfl rfl rfl rfl) ?_
  refine PWl.nil ?_
  refine PWc.seq ?_
  refine PWc.re (tl := [(0, _), (3, _)]) (to := [(3, _), (30060, _)]) rfl (.cons rfl rfl <| .cons rfl rfl <| .nil) (.cons rfl rfl <| .cons rfl rfl <| .nil) ?_
  refine PWc.region ?_
  refine PWl.step (LR.move rfl) rfl ?_
  replace h := iDet h
  obtain ⟨y2, hy3, h⟩ := h
  refine PWl.step (LR.callObj [(100, 3), (101, 30060)] [] [100, 101] (dcode_PutCtx_o_ok c1 ([] : List Int) y2 hy3) hK rfl Tryz.call55 rfl (by first | rfl | (simp; done) | (simp [PV.nilD, PV.ren, rn]; omega)) (.cons (by first | rfl | (congr 1; first | (simp; done) | (simp; omega))) <| .cons (by first | rfl | (congr 1; first | (simp; done) | (simp; omega))) <| .nil) rfl rfl rfl rfl) rfl ?_
  refine PWl.nil ?_
  refine PWc.seq ?_
  refine PWc.re (tl := [(3, _)]) (to := [(3, _), (30060, _)]) rfl (.cons rfl rfl <| .nil) (.cons rfl rfl <| .cons rfl rfl <| .nil) ?_
  refine PWc.region ?_
  replace h := iDet h
  obtain ⟨y4, hy5, h⟩ := h
  refine PWl.step (LR.callObj [(100, 3), (101, 30060)] [] [100, 101] (pack_Writer_Bytes_o_ok y2 y4 hy5) hK rfl Tryz.call58 rfl (by first | rfl | (simp; done) | (simp [PV.nilD, PV.ren, rn]; omega)) (.cons (by first | rfl | (congr 1; first | (simp; done) | (simp; omega))) <| .cons (by first | rfl | (congr 1; first | (simp; done) | (simp; omega))) <| .nil) rfl rfl rfl rfl) rfl ?_
  refine PWl.step (LR.assign rfl) rfl ?_
  refine PWl.nil ?_
  refine PWc.ret ?_
  replace h : _ = r0 := h
  subst h
  exact ⟨.inr rfl, _, .cons (.tmp rfl rfl) <| .nil, rfl⟩

theorem l15_equal_ok (a1 : List Int) (b2 : List Int) (r0 : Bool) (h : (l15_equal a1 b2).wp (· = r0)) : PFun Tryz.prog 79 [.d (.sl (List.map (eK .u8) a1)), .d (.sl (List.map (eK .u8) b2))] (.d (.v (.bool r0))) := by
  refine PFun.intro (sl := [(0, _), (1, _)]) Tryz.func79 rfl Tryz.ntmps79 rfl rfl ?_
  intro ctx hK
  refine PWc.seq ?_
  refine PWc.region ?_
  refine PWl.step (LR.assign rfl) rfl ?_
  refine PWl.nil ?_
  refine PWc.seq ?_
  refine PWc.region ?_
  refine PWl.step (LR.move rfl) rfl ?_
  refine PWl.step (LR.bytesStr Tryz.underlying48 Tryz.underlying5 Tryz.underlying9 rfl) rfl ?_
  refine PWl.step (LR.move rfl) rfl ?_
  refine PWl.step (LR.bytesStr Tryz.underlying48 Tryz.underlying5 Tryz.underlying9 rfl) rfl ?_
  refine PWl.step (LR.eqlStr rfl rfl) rfl ?_
  refine PWl.step (LR.assign rfl) rfl ?_
  refine PWl.nil ?_
  refine PWc.ret ?_
  replace h : _ = r0 := h
  subst h
  exact ⟨.inr rfl, _, .cons (.tmp rfl rfl) <| .nil, rfl⟩

theorem l15_works_ok  (r0 : Bool) (h : (l15_works ).wp (· = r0)) : PFun Tryz.prog 41 [] (.d (.v (.bool r0))) := by
  refine PFun.intro (sl := []) Tryz.func41 rfl Tryz.ntmps41 rfl rfl ?_
  intro ctx hK
  refine PWc.seq ?_
  refine PWc.region ?_
  refine PWl.step (LR.assign rfl) rfl ?_
  refine PWl.nil ?_
  refine PWc.seq ?_
  refine PWc.region ?_
  refine PWl.step (LR.build (ns := [_, _]) build89 rfl rfl rfl) rfl ?_
  refine PWl.step (LR.buildSliceD [.tmp 1] elem37 rfl rfl (.cons rfl rfl rfl <| .nil) (by decide) (by decide)) rfl ?_
  refine PWl.step (LR.build (ns := [_, _]) build80 rfl rfl rfl) rfl ?_
  refine PWl.step (LR.buildSliceD [.tmp 3] elem23 rfl rfl (.cons rfl rfl rfl <| .nil) (by decide) (by decide)) rfl ?_
  replace h := iDet h
  obtain ⟨v1, hy2, h⟩ := h
  refine PWl.step (LR.callN (dcode_Encode_ok ([(⟨1, [(⟨1, 2⟩ : TRun)]⟩ : TPart)]) v1 hy2) rfl Tryz.call59 rfl rfl rfl rfl) rfl ?_
  refine PWl.step (LR.buildSliceD [.const (.int .u8 1), .const (.int .u8 1), .const (.int .u8 1), .const (.int .u8 1), .const (.int .u8 1), .const (.int .u8 1), .const (.int .u8 1), .const (.int .u8 1), .const (.int .u8 1), .const (.int .u8 2)] elem48 rfl rfl (.cons rfl rfl rfl <| .cons rfl rfl rfl <| .cons rfl rfl rfl <| .cons rfl rfl rfl <| .cons rfl rfl rfl <| .cons rfl rfl rfl <| .cons rfl rfl rfl <| .cons rfl rfl rfl <| .cons rfl rfl rfl <| .cons rfl rfl rfl <| .nil) (by decide) (by decide)) rfl ?_
  replace h := iDet h
  obtain ⟨v3, hy4, h⟩ := h
  refine PWl.step (LR.callN (l15_equal_ok v1 ([1, 1, 1, 1, 1, 1, 1, 1, 1, 2]) v3 hy4) rfl Tryz.call79 rfl rfl rfl rfl) rfl ?_
  refine PWl.step (LR.assign rfl) rfl ?_
  refine PWl.nil ?_
  refine PWc.ret ?_
  replace h : _ = r0 := h
  subst h
  exact ⟨.inr rfl, _, .cons (.tmp rfl rfl) <| .nil, rfl⟩

theorem dot_Good_ok (d1 : TDot) (r0 : Bool) (h : (dot_Good d1).wp (· = r0)) : PFun Tryz.prog 68 [.agg (List.map .d (TDot.e d1))] (.d (.v (.bool r0))) := by
  refine PFun.intro (sl := [(0, _)]) Tryz.func68 rfl Tryz.ntmps68 rfl rfl ?_
  intro ctx hK
  refine PWc.seq ?_
  refine PWc.region ?_
  refine PWl.step (LR.box rfl rfl rfl rfl) rfl ?_
  refine PWl.step (LR.assign rfl) rfl ?_
  refine PWl.nil ?_
  refine PWc.seq ?_
  refine PWc.jn (iBind h) (fun (v2 : Bool) (_ : Unit) => ⟨16, [(2, .d (.v (.bool v2)))], []⟩) (fun h => ?_) ?_
  · refine PWc.region ?_
    refine PWl.step (LR.fieldRef Tryz.underlying32 rfl Tryz.sizeOf29 (by decide) rfl rfl) rfl ?_
    refine PWl.step (LR.loadRef Tryz.isAgg29 rfl rfl rfl) rfl ?_
    refine PWl.step (LR.gtr rfl rfl) rfl ?_
    refine PWl.step (LR.move rfl) rfl ?_
    refine PWl.split (d := 6) rfl (fun hg3 => ?_) (fun hg3 => ?_)
    · replace h := iT hg3 h
      refine PWl.guardT (LR.fieldRef Tryz.underlying32 rfl Tryz.sizeOf30 (by decide) rfl rfl) rfl rfl rfl ?_
      refine PWl.guardT (LR.loadRef Tryz.isAgg30 rfl rfl rfl) rfl rfl rfl ?_
      refine PWl.guardT (LR.gtr rfl rfl) rfl rfl rfl ?_
      refine PWl.step (LR.pickT rfl rfl) rfl ?_
      refine PWl.step (LR.move rfl) rfl ?_
      refine PWl.split (d := 11) rfl (fun hg4 => ?_) (fun hg4 => ?_)
      · replace h := iT hg4 h
        refine PWl.guardT (LR.fieldRef Tryz.underlying32 rfl Tryz.sizeOf30 (by decide) rfl rfl) rfl rfl rfl ?_
        refine PWl.guardT (LR.loadRef Tryz.isAgg30 rfl rfl rfl) rfl rfl rfl ?_
        refine PWl.guardT (LR.leq rfl rfl) rfl rfl rfl ?_
        refine PWl.step (LR.pickT rfl rfl) rfl ?_
        refine PWl.step (LR.assign rfl) rfl ?_
        refine PWl.nil ?_
        exact ⟨(decide (d1.n ≤ 281474976710655)), (), h, Sub.of rfl (.cons rfl rfl <| .nil) (.nil)⟩
      · replace h := iF hg4 h
        refine PWl.guardF rfl rfl rfl (by decide) ?_
        refine PWl.guardF rfl rfl rfl (by decide) ?_
        refine PWl.guardF rfl rfl rfl (by decide) ?_
        refine PWl.step (LR.pickF rfl rfl) rfl ?_
        refine PWl.step (LR.assign rfl) rfl ?_
        refine PWl.nil ?_
        exact ⟨false, (), h, Sub.of rfl (.cons rfl rfl <| .nil) (.nil)⟩
    · replace h := iF hg3 h
      refine PWl.guardF rfl rfl rfl (by decide) ?_
      refine PWl.guardF rfl rfl rfl (by decide) ?_
      refine PWl.guardF rfl rfl rfl (by decide) ?_
      refine PWl.step (LR.pickF rfl rfl) rfl ?_
      refine PWl.step (LR.move rfl) rfl ?_
      refine PWl.guardF rfl rfl rfl (by decide) ?_
      refine PWl.guardF rfl rfl rfl (by decide) ?_
      refine PWl.guardF rfl rfl rfl (by decide) ?_
      refine PWl.step (LR.pickF rfl rfl) rfl ?_
      refine PWl.step (LR.assign rfl) rfl ?_
      refine PWl.nil ?_
      exact ⟨false, (), h, Sub.of rfl (.cons rfl rfl <| .nil) (.nil)⟩
  · rintro v2 _ h
    refine PWc.ret ?_
    replace h : _ = r0 := h
    subst h
    exact ⟨.inr rfl, _, .cons (.tmp rfl rfl) <| .nil, rfl⟩
end Go.Proofs


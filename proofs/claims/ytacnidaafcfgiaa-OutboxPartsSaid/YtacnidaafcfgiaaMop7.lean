/- Texts that the walks and laws lean on, side by side. -/
import Derived.Test.YtacnidaafcfgiaaMop2
import Derived.Test.YtacnidaafcfgiaaMop3
import Derived.Test.YtacnidaafcfgiaaMop4
import Derived.Test.YtacnidaafcfgiaaMop5
import Derived.Test.YtacnidaafcfgiaaMop6
set_option linter.unusedVariables false
set_option linter.unusedSimpArgs false
namespace Go.Proofs
open Go.Ep
set_option maxHeartbeats 1000000
set_option maxRecDepth 100000
set_option linter.unusedVariables false
set_option linter.unusedSimpArgs false


theorem r09_Runs_ok (c1 : List TPart) (dev2 : Int) (r0 : List TRun) (h : (r09_Runs c1 dev2).wp (· = r0)) : PFun Try.prog 22 [.d (.sl (List.map TPart.e c1)), .d (.v (.int .u16 dev2))] (.d (.sl (List.map TRun.e r0))) := by
  refine PFun.intro (sl := [(0, _), (1, _)]) Try.func22 rfl Try.ntmps22 rfl rfl ?_
  intro ctx hK
  refine PWc.seq ?_
  refine PWc.region ?_
  refine PWl.step (LR.assignNilRow 114 2 rfl) rfl ?_
  refine PWl.nil ?_
  refine PWc.seq ?_
  refine PWc.region ?_
  refine PWl.step (LR.assignNilRow 114 2 rfl) rfl ?_
  refine PWl.nil ?_
  refine PWc.seq ?_
  refine PWc.seq ?_
  refine PWc.region ?_
  refine PWl.step (LR.assign rfl) rfl ?_
  refine PWl.nil ?_
  refine PWc.jn (iBind h) (fun (out3 : List TRun) (_ : Unit) => ⟨32, [(5, .d (.sl (List.map TRun.e out3)))], []⟩) (fun h => ?_) ?_
  · refine PWc.block ?_
    refine PWc.loopM (fun (⟨out28, i29⟩ : List TRun × Int) (_ : Unit) => ⟨32, [(0, .d (.sl (List.map TPart.e c1))), (1, .d (.v (.int .u16 dev2))), (5, .d (.sl (List.map TRun.e out28))), (6, .d (.v (.int .i64 i29)))], []⟩) () h (Sub.trans (Sub.frz [5] hK rfl (by first | (simp; done) | (simp; omega) | omega) (AllRow.get (.cons rfl <| .nil))) <| Sub.of rfl (.cons rfl rfl <| .cons rfl rfl <| .cons rfl rfl <| .cons rfl rfl <| .nil) (.nil)) ?_
    rintro N ⟨out28, i29⟩ _ h
    refine PWc.seq ?_
    refine PWc.seq ?_
    refine PWc.region ?_
    refine PWl.step (LR.move rfl) rfl ?_
    refine PWl.step (LR.move rfl) rfl ?_
    refine PWl.step (LR.lenMap (enc := TPart.e) (L := c1) Try.underlying24 rfl) rfl ?_
    refine PWl.step (LR.lss rfl rfl) rfl ?_
    refine PWl.nil ?_
    refine PWc.cond rfl (fun hc30 => ?_) (fun hc30 => ?_)
    · replace h := iT hc30 h
      refine PWc.skip ?_
      refine PWc.seq ?_
      refine PWc.jn (iBind h) (fun (out31 : List TRun) (_ : Unit) => ⟨32, [(0, .d (.sl (List.map TPart.e c1))), (1, .d (.v (.int .u16 dev2))), (5, .d (.sl (List.map TRun.e out31))), (6, .d (.v (.int .i64 i29)))], []⟩) (fun h => ?_) ?_
      · refine PWc.block ?_
        refine PWc.seq ?_
        refine PWc.jn (iBind h) (fun (v32 : Bool) (_ : Unit) => ⟨32, [(0, .d (.sl (List.map TPart.e c1))), (1, .d (.v (.int .u16 dev2))), (5, .d (.sl (List.map TRun.e out28))), (6, .d (.v (.int .i64 i29))), (23, .d (.v (.bool v32)))], []⟩) (fun h => ?_) ?_
        · refine PWc.region ?_
          refine PWl.step (LR.move rfl) rfl ?_
          refine PWl.step (LR.move rfl) rfl ?_
          replace h := iIdx h
          obtain ⟨x33, hy34, h⟩ := h
          refine PWl.step (LR.idxT (enc := TPart.e) (L := c1) (y := x33) Try.underlying24 Try.sizeOf101 rfl rfl hy34 (fun _ => rfl)) rfl ?_
          refine PWl.step (LR.fieldEp Try.underlying101 rfl Try.sizeOf28 (by decide) rfl rfl) rfl ?_
          refine PWl.step (LR.loadEp Try.isAgg28 rfl rfl) rfl ?_
          refine PWl.step (LR.move rfl) rfl ?_
          refine PWl.step (LR.eql rfl rfl) rfl ?_
          refine PWl.step (LR.move rfl) rfl ?_
          refine PWl.split (d := 20) rfl (fun hg35 => ?_) (fun hg35 => ?_)
          · replace h := iT hg35 h
            refine PWl.guardT (LR.move rfl) rfl rfl rfl ?_
            refine PWl.guardT (LR.neq rfl rfl) rfl rfl rfl ?_
            refine PWl.step (LR.pickT rfl rfl) rfl ?_
            refine PWl.nil ?_
            exact ⟨(!decide (dev2 = 0)), (), h, Sub.of rfl (.cons rfl rfl <| .cons rfl rfl <| .cons rfl rfl <| .cons rfl rfl <| .cons rfl rfl <| .nil) (.nil)⟩
          · replace h := iF hg35 h
            refine PWl.guardF rfl rfl rfl (by decide) ?_
            refine PWl.guardF rfl rfl rfl (by decide) ?_
            refine PWl.step (LR.pickF rfl rfl) rfl ?_
            refine PWl.nil ?_
            exact ⟨false, (), h, Sub.of rfl (.cons rfl rfl <| .cons rfl rfl <| .cons rfl rfl <| .cons rfl rfl <| .cons rfl rfl <| .nil) (.nil)⟩
        · rintro v32 _ h
          refine PWc.cond rfl (fun hc36 => ?_) (fun hc36 => ?_)
          · replace h := iT hc36 h
            refine PWc.region ?_
            refine PWl.step (LR.move rfl) rfl ?_
            refine PWl.step (LR.move rfl) rfl ?_
            refine PWl.step (LR.move rfl) rfl ?_
            replace h := iIdx h
            obtain ⟨x37, hy38, h⟩ := h
            refine PWl.step (LR.idxT (enc := TPart.e) (L := c1) (y := x37) Try.underlying24 Try.sizeOf101 rfl rfl hy38 (fun _ => rfl)) rfl ?_
            refine PWl.step (LR.fieldEp Try.underlying101 rfl Try.sizeOf34 (by decide) rfl rfl) rfl ?_
            refine PWl.step (LR.loadEp Try.isAgg34 rfl rfl) rfl ?_
            replace h := iDet h
            obtain ⟨v39, hy40, h⟩ := h
            refine PWl.step (LR.rowN (r06_Join_ok out28 x37.runs v39 hy40) rfl Try.call73 rfl rfl rfl rfl) rfl ?_
            refine PWl.step (LR.assign rfl) rfl ?_
            refine PWl.nil ?_
            exact ⟨v39, (), h, Sub.trans (Sub.frz [5, 30] hK rfl (by simp) (AllRow.get (.cons rfl <| .cons rfl <| .nil))) <| Sub.of rfl (.cons rfl rfl <| .cons rfl rfl <| .cons rfl rfl <| .cons rfl rfl <| .nil) (.nil)⟩
          · replace h := iF hc36 h
            refine PWc.skip ?_
            exact ⟨out28, (), h, Sub.of rfl (.cons rfl rfl <| .cons rfl rfl <| .cons rfl rfl <| .cons rfl rfl <| .nil) (.nil)⟩
      · rintro out31 _ h
        refine PWc.region ?_
        refine PWl.step (LR.move rfl) rfl ?_
        refine PWl.step (LR.addW rfl rfl) rfl ?_
        refine PWl.step (LR.assign rfl) rfl ?_
        refine PWl.nil ?_
        exact ⟨(out31, (IntKind.i64.wrap (i29 + 1))), (), h, Sub.of rfl (.cons rfl rfl <| .cons rfl rfl <| .cons rfl rfl <| .cons rfl rfl <| .nil) (.nil)⟩
    · replace h := iF hc30 h
      refine PWc.exit ?_
      exact ⟨out28, (), h, Sub.of rfl (.cons rfl rfl <| .nil) (.nil)⟩
  · rintro out3 _ h
    refine PWc.seq ?_
    refine PWc.region ?_
    refine PWl.step (LR.move rfl) rfl ?_
    refine PWl.step (LR.assign rfl) rfl ?_
    refine PWl.nil ?_
    refine PWc.ret ?_
    replace h : _ = r0 := h
    subst h
    exact ⟨.inr rfl, _, .cons (.tmp rfl rfl) <| .nil, rfl⟩

theorem r07_Good_ok (d1 : TDot) (r0 : Bool) (h : (r07_Good d1).wp (· = r0)) : PFun Try.prog 75 [.agg (List.map .d (TDot.e d1))] (.d (.v (.bool r0))) := by
  refine PFun.intro (sl := [(0, _)]) Try.func75 rfl Try.ntmps75 rfl rfl ?_
  intro ctx hK
  refine PWc.seq ?_
  refine PWc.region ?_
  refine PWl.step (LR.box rfl rfl rfl rfl) rfl ?_
  refine PWl.step (LR.assign rfl) rfl ?_
  refine PWl.nil ?_
  refine PWc.seq ?_
  refine PWc.jn (iBind h) (fun (v2 : Bool) (_ : Unit) => ⟨16, [(2, .d (.v (.bool v2)))], []⟩) (fun h => ?_) ?_
  · refine PWc.region ?_
    refine PWl.step (LR.fieldRef Try.underlying38 rfl Try.sizeOf28 (by decide) rfl rfl) rfl ?_
    refine PWl.step (LR.loadRef Try.isAgg28 rfl rfl rfl) rfl ?_
    refine PWl.step (LR.geq rfl rfl) rfl ?_
    refine PWl.step (LR.move rfl) rfl ?_
    refine PWl.split (d := 6) rfl (fun hg3 => ?_) (fun hg3 => ?_)
    · replace h := iT hg3 h
      refine PWl.guardT (LR.fieldRef Try.underlying38 rfl Try.sizeOf36 (by decide) rfl rfl) rfl rfl rfl ?_
      refine PWl.guardT (LR.loadRef Try.isAgg36 rfl rfl rfl) rfl rfl rfl ?_
      refine PWl.guardT (LR.geq rfl rfl) rfl rfl rfl ?_
      refine PWl.step (LR.pickT rfl rfl) rfl ?_
      refine PWl.step (LR.move rfl) rfl ?_
      refine PWl.split (d := 11) rfl (fun hg4 => ?_) (fun hg4 => ?_)
      · replace h := iT hg4 h
        refine PWl.guardT (LR.fieldRef Try.underlying38 rfl Try.sizeOf36 (by decide) rfl rfl) rfl rfl rfl ?_
        refine PWl.guardT (LR.loadRef Try.isAgg36 rfl rfl rfl) rfl rfl rfl ?_
        refine PWl.guardT (LR.lss rfl rfl) rfl rfl rfl ?_
        refine PWl.step (LR.pickT rfl rfl) rfl ?_
        refine PWl.step (LR.assign rfl) rfl ?_
        refine PWl.nil ?_
        exact ⟨(decide (d1.n < 281474976710656)), (), h, Sub.of rfl (.cons rfl rfl <| .nil) (.nil)⟩
      · replace h := iF hg4 h
        refine PWl.guardF rfl rfl rfl (by decide) ?_
        refine PWl.guardF rfl rfl rfl (by decide) ?_
        refine PWl.guardF rfl rfl rfl (by decide) ?_
        refine PWl.step (LR.pickF rfl rfl) rfl ?_
        refine PWl.step (LR.assign rfl) rfl ?_
        refine PWl.nil ?_
        exact ⟨false, (), h, Sub.of rfl (.cons rfl rfl <| .nil) (.nil)⟩
    · replace h := iF hg3 h
      refine PWl.guardF rfl rfl rfl (by decide) ?_
      refine PWl.guardF rfl rfl rfl (by decide) ?_
      refine PWl.guardF rfl rfl rfl (by decide) ?_
      refine PWl.step (LR.pickF rfl rfl) rfl ?_
      refine PWl.step (LR.move rfl) rfl ?_
      refine PWl.guardF rfl rfl rfl (by decide) ?_
      refine PWl.guardF rfl rfl rfl (by decide) ?_
      refine PWl.guardF rfl rfl rfl (by decide) ?_
      refine PWl.step (LR.pickF rfl rfl) rfl ?_
      refine PWl.step (LR.assign rfl) rfl ?_
      refine PWl.nil ?_
      exact ⟨false, (), h, Sub.of rfl (.cons rfl rfl <| .nil) (.nil)⟩
  · rintro v2 _ h
    refine PWc.ret ?_
    replace h : _ = r0 := h
    subst h
    exact ⟨.inr rfl, _, .cons (.tmp rfl rfl) <| .nil, rfl⟩

theorem r09_Has_ok (c1 : List TPart) (d2 : TDot) (r0 : Bool) (h : (r09_Has c1 d2).wp (· = r0)) : PFun Try.prog 24 [.d (.sl (List.map TPart.e c1)), .agg (List.map .d (TDot.e d2))] (.d (.v (.bool r0))) := by
  refine PFun.intro (sl := [(0, _), (1, _)]) Try.func24 rfl Try.ntmps24 rfl rfl ?_
  intro ctx hK
  refine PWc.seq ?_
  refine PWc.region ?_
  refine PWl.step (LR.box rfl rfl rfl rfl) rfl ?_
  refine PWl.step (LR.assign rfl) rfl ?_
  refine PWl.nil ?_
  refine PWc.seq ?_
  refine PWc.jn (iBind h) (fun (v3 : Bool) (_ : Unit) => ⟨16, [(4, .d (.v (.bool v3)))], []⟩) (fun h => ?_) ?_
  · refine PWc.regionD (by kernel_rfl) (by kernel_rfl) ?_
    refine PQl.step (fun _ he ho => LR.loadRefAgg (ps := [_, _]) Try.isAgg38 Try.sizeOf38 (he rfl rfl) (ho rfl) rfl rfl) rfl ?_
    replace h := iDet h
    obtain ⟨v4, hy5, h⟩ := h
    refine PQl.step (fun _ he ho => LR.callN (r07_Good_ok d2 v4 hy5) (he rfl rfl) Try.call75 (evsE he rfl rfl) rfl rfl rfl) rfl ?_
    refine PQl.step (fun _ he ho => LR.move (he rfl rfl)) rfl ?_
    refine PQl.split (d := 7) rfl (fun hg6 => ?_) (fun hg6 => ?_)
    · replace h := iT hg6 h
      refine PQl.guardT (fun _ he ho => LR.move (he rfl rfl)) rfl rfl rfl ?_
      refine PQl.guardT (fun _ he ho => LR.fieldRef Try.underlying38 rfl Try.sizeOf28 (by decide) rfl (he rfl rfl)) rfl rfl rfl ?_
      refine PQl.guardT (fun _ he ho => LR.loadRef Try.isAgg28 (he rfl rfl) (ho rfl) rfl) rfl rfl rfl ?_
      replace h := iDet h
      obtain ⟨v7, hy8, h⟩ := h
      refine PQl.guardT (fun _ he ho => LR.callN (r09_Runs_ok c1 d2.dev v7 hy8) (he rfl rfl) Try.call22 (evsE he rfl rfl) rfl rfl rfl) rfl rfl rfl ?_
      refine PQl.guardT (fun _ he ho => LR.fieldRef Try.underlying38 rfl Try.sizeOf36 (by decide) rfl (he rfl rfl)) rfl rfl rfl ?_
      refine PQl.guardT (fun _ he ho => LR.loadRef Try.isAgg36 (he rfl rfl) (ho rfl) rfl) rfl rfl rfl ?_
      replace h := iDet h
      obtain ⟨v9, hy10, h⟩ := h
      refine PQl.guardT (fun _ he ho => LR.callN (r06_Has_ok v7 d2.n v9 hy10) (he rfl rfl) Try.call80 (evsE he rfl rfl) rfl rfl rfl) rfl rfl rfl ?_
      refine PQl.step (fun _ he ho => LR.pickT (he rfl rfl) (he rfl rfl)) rfl ?_
      refine PQl.step (fun _ he ho => LR.assign (he rfl rfl)) rfl ?_
      refine PQl.nil ?_
      exact ⟨v9, (), h, Sub.of rfl (.cons rfl rfl <| .nil) (.nil)⟩
    · replace h := iF hg6 h
      refine PQl.guardF rfl rfl rfl (by decide) ?_
      refine PQl.guardF rfl rfl rfl (by decide) ?_
      refine PQl.guardF rfl rfl rfl (by decide) ?_
      refine PQl.guardF rfl rfl rfl (by decide) ?_
      refine PQl.guardF rfl rfl rfl (by decide) ?_
      refine PQl.guardF rfl rfl rfl (by decide) ?_
      refine PQl.guardF rfl rfl rfl (by decide) ?_
      refine PQl.step (fun _ he ho => LR.pickF (he rfl rfl) (he rfl rfl)) rfl ?_
      refine PQl.step (fun _ he ho => LR.assign (he rfl rfl)) rfl ?_
      refine PQl.nil ?_
      exact ⟨false, (), h, Sub.of rfl (.cons rfl rfl <| .nil) (.nil)⟩
  · rintro v3 _ h
    refine PWc.ret ?_
    replace h : _ = r0 := h
    subst h
    exact ⟨.inr rfl, _, .cons (.tmp rfl rfl) <| .nil, rfl⟩

theorem r07_Cmp_ok (a1 : TDot) (b2 : TDot) (r0 : Int) (h : (r07_Cmp a1 b2).wp (· = r0)) : PFun Try.prog 110 [.agg (List.map .d (TDot.e a1)), .agg (List.map .d (TDot.e b2))] (.d (.v (.int .i64 r0))) := by
  refine PFun.intro (sl := [(0, _), (1, _)]) Try.func110 rfl Try.ntmps110 rfl rfl ?_
  intro ctx hK
  refine PWc.seq ?_
  refine PWc.region ?_
  refine PWl.step (LR.box rfl rfl rfl rfl) rfl ?_
  refine PWl.step (LR.box rfl rfl rfl rfl) rfl ?_
  refine PWl.step (LR.assign rfl) rfl ?_
  refine PWl.nil ?_
  refine PWc.seq ?_
  refine PWc.seq ?_
  refine PWc.region ?_
  refine PWl.step (LR.loadRefAgg (ps := [_, _]) Try.isAgg38 Try.sizeOf38 rfl rfl rfl rfl) rfl ?_
  refine PWl.step (LR.loadRefAgg (ps := [_, _]) Try.isAgg38 Try.sizeOf38 rfl rfl rfl rfl) rfl ?_
  refine PWl.step (LR.eqlAgg rfl rfl rfl rfl eq38) rfl ?_
  refine PWl.nil ?_
  refine PWc.cond rfl (fun hc3 => ?_) (fun hc3 => ?_)
  · replace h := iT hc3 h
    refine PWc.seq ?_
    refine PWc.region ?_
    refine PWl.step (LR.assign rfl) rfl ?_
    refine PWl.nil ?_
    refine PWc.ret ?_
    replace h : _ = r0 := h
    subst h
    exact ⟨.inr rfl, _, .cons (.tmp rfl rfl) <| .nil, rfl⟩
  · replace h := iF hc3 h
    refine PWc.skip ?_
    refine PWc.seq ?_
    refine PWc.seq ?_
    refine PWc.jn (iBind h) (fun (v4 : Bool) (_ : Unit) => ⟨27, [(26, .d (.v (.bool v4)))], []⟩) (fun h => ?_) ?_
    · refine PWc.region ?_
      refine PWl.step (LR.fieldRef Try.underlying38 rfl Try.sizeOf28 (by decide) rfl rfl) rfl ?_
      refine PWl.step (LR.loadRef Try.isAgg28 rfl rfl rfl) rfl ?_
      refine PWl.step (LR.fieldRef Try.underlying38 rfl Try.sizeOf28 (by decide) rfl rfl) rfl ?_
      refine PWl.step (LR.loadRef Try.isAgg28 rfl rfl rfl) rfl ?_
      refine PWl.step (LR.lss rfl rfl) rfl ?_
      refine PWl.step (LR.move rfl) rfl ?_
      refine PWl.split (d := 13) rfl (fun hg5 => ?_) (fun hg5 => ?_)
      · replace h := iT hg5 h
        refine PWl.guardF rfl rfl rfl (by decide) ?_
        refine PWl.guardF rfl rfl rfl (by decide) ?_
        refine PWl.guardF rfl rfl rfl (by decide) ?_
        refine PWl.guardF rfl rfl rfl (by decide) ?_
        refine PWl.guardF rfl rfl rfl (by decide) ?_
        refine PWl.guardF rfl rfl rfl (by decide) ?_
        refine PWl.re (tl := [(2, _), (3, _), (13, _), (19, _)]) (to := [(2, _), (3, _)]) rfl (.cons rfl rfl <| .cons rfl rfl <| .cons rfl rfl <| .cons rfl rfl <| .nil) (.cons rfl rfl <| .cons rfl rfl <| .nil) ?_
        refine PWl.guardU rfl rfl rfl ?_
        refine PWl.guardU rfl rfl rfl ?_
        refine PWl.guardU rfl rfl rfl ?_
        refine PWl.guardU rfl rfl rfl ?_
        refine PWl.guardU rfl rfl rfl ?_
        refine PWl.guardF rfl rfl rfl (by decide) ?_
        refine PWl.step (LR.pickT rfl rfl) rfl ?_
        refine PWl.nil ?_
        exact ⟨true, (), h, Sub.of rfl (.cons rfl rfl <| .nil) (.nil)⟩
      · replace h := iF hg5 h
        refine PWl.guardT (LR.fieldRef Try.underlying38 rfl Try.sizeOf28 (by decide) rfl rfl) rfl rfl rfl ?_
        refine PWl.guardT (LR.loadRef Try.isAgg28 rfl rfl rfl) rfl rfl rfl ?_
        refine PWl.guardT (LR.fieldRef Try.underlying38 rfl Try.sizeOf28 (by decide) rfl rfl) rfl rfl rfl ?_
        refine PWl.guardT (LR.loadRef Try.isAgg28 rfl rfl rfl) rfl rfl rfl ?_
        refine PWl.guardT (LR.eql rfl rfl) rfl rfl rfl ?_
        refine PWl.guardT (LR.move rfl) rfl rfl rfl ?_
        refine PWl.re (tl := [(2, _), (3, _), (13, _), (19, _)]) (to := [(2, _), (3, _)]) rfl (.cons rfl rfl <| .cons rfl rfl <| .cons rfl rfl <| .cons rfl rfl <| .nil) (.cons rfl rfl <| .cons rfl rfl <| .nil) ?_
        refine PWl.split (d := 19) rfl (fun hg6 => ?_) (fun hg6 => ?_)
        · replace h := iT hg6 h
          refine PWl.guardT (LR.fieldRef Try.underlying38 rfl Try.sizeOf36 (by decide) rfl rfl) rfl rfl rfl ?_
          refine PWl.guardT (LR.loadRef Try.isAgg36 rfl rfl rfl) rfl rfl rfl ?_
          refine PWl.guardT (LR.fieldRef Try.underlying38 rfl Try.sizeOf36 (by decide) rfl rfl) rfl rfl rfl ?_
          refine PWl.guardT (LR.loadRef Try.isAgg36 rfl rfl rfl) rfl rfl rfl ?_
          refine PWl.guardT (LR.lss rfl rfl) rfl rfl rfl ?_
          refine PWl.guardT (LR.pickT rfl rfl) rfl rfl rfl ?_
          refine PWl.step (LR.pickF rfl rfl) rfl ?_
          refine PWl.nil ?_
          exact ⟨(decide (a1.n < b2.n)), (), h, Sub.of rfl (.cons rfl rfl <| .nil) (.nil)⟩
        · replace h := iF hg6 h
          refine PWl.guardF rfl rfl rfl (by decide) ?_
          refine PWl.guardF rfl rfl rfl (by decide) ?_
          refine PWl.guardF rfl rfl rfl (by decide) ?_
          refine PWl.guardF rfl rfl rfl (by decide) ?_
          refine PWl.guardF rfl rfl rfl (by decide) ?_
          refine PWl.guardT (LR.pickF rfl rfl) rfl rfl rfl ?_
          refine PWl.step (LR.pickF rfl rfl) rfl ?_
          refine PWl.nil ?_
          exact ⟨false, (), h, Sub.of rfl (.cons rfl rfl <| .nil) (.nil)⟩
    · rintro v4 _ h
      refine PWc.cond rfl (fun hc7 => ?_) (fun hc7 => ?_)
      · replace h := iT hc7 h
        refine PWc.seq ?_
        refine PWc.region ?_
        refine PWl.step (LR.assign rfl) rfl ?_
        refine PWl.nil ?_
        refine PWc.ret ?_
        replace h : _ = r0 := h
        subst h
        exact ⟨.inr rfl, _, .cons (.tmp rfl rfl) <| .nil, rfl⟩
      · replace h := iF hc7 h
        refine PWc.skip ?_
        refine PWc.seq ?_
        refine PWc.region ?_
        refine PWl.step (LR.assign rfl) rfl ?_
        refine PWl.nil ?_
        refine PWc.ret ?_
        replace h : _ = r0 := h
        subst h
        exact ⟨.inr rfl, _, .cons (.tmp rfl rfl) <| .nil, rfl⟩

theorem r07_Put_ok (l1 : List TDot) (d2 : TDot) (r0 : List TDot) (h : (r07_Put l1 d2).wp (· = r0)) : PRow Try.prog 86 [.d (.sl (List.map TDot.e l1)), .agg (List.map .d (TDot.e d2))] 38 2 (List.map TDot.e r0) := by
  refine PRow.intro (sl := [(0, _), (1, _)]) Try.func86 rfl Try.ntmps86 rfl rfl ?_
  intro ctx hK
  refine PWc.seq ?_
  refine PWc.region ?_
  refine PWl.step (LR.box rfl rfl rfl rfl) rfl ?_
  refine PWl.step (LR.assignNilRow 38 2 rfl) rfl ?_
  refine PWl.nil ?_
  refine PWc.seq ?_
  refine PWc.region ?_
  refine PWl.step (LR.assignNilRow 38 2 rfl) rfl ?_
  refine PWl.nil ?_
  refine PWc.seq ?_
  refine PWc.seq ?_
  refine PWc.region ?_
  refine PWl.step (LR.assign rfl) rfl ?_
  refine PWl.nil ?_
  refine PWc.jn (iBind h) (fun (out3 : List TDot) (_ : Unit) => ⟨53, [(0, .d (.sl (List.map TDot.e l1))), (3, .ref 3 0), (5, .row 5 (List.length out3))], [(3, .cells 38 [.d (.v (.int .u16 d2.dev)), .d (.v (.int .u64 d2.n))]), (5, .row 38 2 (List.map TDot.e out3))]⟩) (fun h => ?_) ?_
  · refine PWc.block ?_
    refine PWc.loopM (fun (⟨i26, out27⟩ : Int × List TDot) (_ : Unit) => ⟨53, [(0, .d (.sl (List.map TDot.e l1))), (3, .ref 3 0), (5, .row 5 (List.length out27)), (6, .d (.v (.int .i64 i26)))], [(3, .cells 38 [.d (.v (.int .u16 d2.dev)), .d (.v (.int .u64 d2.n))]), (5, .row 38 2 (List.map TDot.e out27))]⟩) () h (Sub.of rfl (.cons rfl rfl <| .cons rfl rfl <| .cons rfl rfl <| .cons rfl rfl <| .nil) (.cons rfl rfl <| .cons rfl rfl <| .nil)) ?_
    rintro N ⟨i26, out27⟩ _ h
    refine PWc.seq ?_
    refine PWc.seq ?_
    refine PWc.region ?_
    refine PWl.step (LR.move rfl) rfl ?_
    refine PWl.step (LR.move rfl) rfl ?_
    refine PWl.step (LR.lenMap (enc := TDot.e) (L := l1) Try.underlying39 rfl) rfl ?_
    refine PWl.step (LR.lss rfl rfl) rfl ?_
    refine PWl.nil ?_
    refine PWc.cond rfl (fun hc28 => ?_) (fun hc28 => ?_)
    · replace h := iT hc28 h
      refine PWc.skip ?_
      refine PWc.seq ?_
      refine PWc.jn (iBind h) (fun (out29 : List TDot) (_ : Unit) => ⟨53, [(0, .d (.sl (List.map TDot.e l1))), (3, .ref 3 0), (5, .row 5 (List.length out29)), (6, .d (.v (.int .i64 i26)))], [(3, .cells 38 [.d (.v (.int .u16 d2.dev)), .d (.v (.int .u64 d2.n))]), (5, .row 38 2 (List.map TDot.e out29))]⟩) (fun h => ?_) ?_
      · refine PWc.block ?_
        refine PWc.seq ?_
        refine PWc.regionD (by kernel_rfl) (by kernel_rfl) ?_
        refine PQl.step (fun _ he ho => LR.move (he rfl rfl)) rfl ?_
        refine PQl.step (fun _ he ho => LR.move (he rfl rfl)) rfl ?_
        replace h := iIdx h
        obtain ⟨x30, hy31, h⟩ := h
        refine PQl.step (fun _ he ho => LR.idxT (enc := TDot.e) (L := l1) (y := x30) Try.underlying39 Try.sizeOf38 (he rfl rfl) (he rfl rfl) hy31 (fun _ => rfl)) rfl ?_
        refine PQl.step (fun _ he ho => LR.loadEpAgg (ys := [_, _]) Try.isAgg38 Try.sizeOf38 (he rfl rfl) rfl rfl) rfl ?_
        refine PQl.step (fun _ he ho => LR.loadRefAgg (ps := [_, _]) Try.isAgg38 Try.sizeOf38 (he rfl rfl) (ho rfl) rfl rfl) rfl ?_
        replace h := iDet h
        obtain ⟨v32, hy33, h⟩ := h
        refine PQl.step (fun _ he ho => LR.callN (r07_Cmp_ok x30 d2 v32 hy33) (he rfl rfl) Try.call110 (evsE he rfl rfl) rfl rfl rfl) rfl ?_
        refine PQl.step (fun _ he ho => LR.lss (he rfl rfl) (he rfl rfl)) rfl ?_
        refine PQl.nil ?_
        refine PWc.cond rfl (fun hc34 => ?_) (fun hc34 => ?_)
        · replace h := iT hc34 h
          refine PWc.region ?_
          refine PWl.step (LR.move rfl) rfl ?_
          refine PWl.step (LR.move rfl) rfl ?_
          refine PWl.step (LR.move rfl) rfl ?_
          replace h := iIdx h
          obtain ⟨x35, hy36, h⟩ := h
          refine PWl.step (LR.idxT (enc := TDot.e) (L := l1) (y := x35) Try.underlying39 Try.sizeOf38 rfl rfl hy36 (fun _ => rfl)) rfl ?_
          refine PWl.step (LR.loadEpAgg (ys := [_, _]) Try.isAgg38 Try.sizeOf38 rfl rfl rfl) rfl ?_
          refine PWl.step (LR.buildSliceD [.tmp 25] elem39 rfl rfl (.cons rfl rfl rfl <| .nil) (by decide) (by decide)) rfl ?_
          refine PWl.re (tl := [(0, _), (3, _), (5, _), (6, _), (21, _), (26, _)]) (to := [(3, _), (5, _)]) rfl (.cons rfl rfl <| .cons rfl rfl <| .cons rfl rfl <| .cons rfl rfl <| .cons rfl rfl <| .cons rfl rfl <| .nil) (.cons rfl rfl <| .cons rfl rfl <| .nil) ?_
          replace h := iNeed h
          obtain ⟨hy37, h⟩ := h
          refine PWl.step (LR.appT (enc := TDot.e) (L := out27) (R := [x35]) [5, 21] elem39 Try.underlying39 rfl rfl rfl (Src.slT (enc := TDot.e) (R := [x35]) rfl (fun _ => rfl)) (fun _ => rfl) hy37 rfl rfl) rfl ?_
          refine PWl.step (LR.assign rfl) rfl ?_
          refine PWl.nil ?_
          exact ⟨(out27 ++ [x35]), (), h, Sub.of rfl (.cons rfl rfl <| .cons rfl rfl <| .cons rfl rfl <| .cons rfl rfl <| .nil) (.cons rfl rfl <| .cons rfl rfl <| .nil)⟩
        · replace h := iF hc34 h
          refine PWc.skip ?_
          exact ⟨out27, (), h, Sub.of rfl (.cons rfl rfl <| .cons rfl rfl <| .cons rfl rfl <| .cons rfl rfl <| .nil) (.cons rfl rfl <| .cons rfl rfl <| .nil)⟩
      · rintro out29 _ h
        refine PWc.region ?_
        refine PWl.step (LR.move rfl) rfl ?_
        refine PWl.step (LR.addW rfl rfl) rfl ?_
        refine PWl.step (LR.assign rfl) rfl ?_
        refine PWl.nil ?_
        exact ⟨((IntKind.i64.wrap (i26 + 1)), out29), (), h, Sub.of rfl (.cons rfl rfl <| .cons rfl rfl <| .cons rfl rfl <| .cons rfl rfl <| .nil) (.cons rfl rfl <| .cons rfl rfl <| .nil)⟩
    · replace h := iF hc28 h
      refine PWc.exit ?_
      exact ⟨out27, (), h, Sub.of rfl (.cons rfl rfl <| .cons rfl rfl <| .cons rfl rfl <| .nil) (.cons rfl rfl <| .cons rfl rfl <| .nil)⟩
  · rintro out3 _ h
    refine PWc.seq ?_
    refine PWc.region ?_
    refine PWl.step (LR.move rfl) rfl ?_
    refine PWl.step (LR.loadRefAgg (ps := [_, _]) Try.isAgg38 Try.sizeOf38 rfl rfl rfl rfl) rfl ?_
    refine PWl.step (LR.buildSliceD [.tmp 29] elem39 rfl rfl (.cons rfl rfl rfl <| .nil) (by decide) (by decide)) rfl ?_
    replace h := iNeed h
    obtain ⟨hy38, h⟩ := h
    refine PWl.step (LR.appT (enc := TDot.e) (L := out3) (R := [d2]) [5, 28] elem39 Try.underlying39 rfl rfl rfl (Src.slT (enc := TDot.e) (R := [d2]) rfl (fun _ => rfl)) (fun _ => rfl) hy38 rfl rfl) rfl ?_
    refine PWl.step (LR.assign rfl) rfl ?_
    refine PWl.nil ?_
    refine PWc.seq ?_
    refine PWc.seq ?_
    refine PWc.region ?_
    refine PWl.step (LR.assign rfl) rfl ?_
    refine PWl.nil ?_
    refine PWc.jn (iBind h) (fun (out39 : List TDot) (_ : Unit) => ⟨53, [(5, .row 5 (List.length out39))], [(5, .row 38 2 (List.map TDot.e out39))]⟩) (fun h => ?_) ?_
    · refine PWc.block ?_
      refine PWc.loopM (fun (⟨i62, out63⟩ : Int × List TDot) (_ : Unit) => ⟨53, [(0, .d (.sl (List.map TDot.e l1))), (3, .ref 3 0), (5, .row 5 (List.length out63)), (7, .d (.v (.int .i64 i62)))], [(3, .cells 38 [.d (.v (.int .u16 d2.dev)), .d (.v (.int .u64 d2.n))]), (5, .row 38 2 (List.map TDot.e out63))]⟩) () h (Sub.of rfl (.cons rfl rfl <| .cons rfl rfl <| .cons rfl rfl <| .cons rfl rfl <| .nil) (.cons rfl rfl <| .cons rfl rfl <| .nil)) ?_
      rintro N ⟨i62, out63⟩ _ h
      refine PWc.seq ?_
      refine PWc.seq ?_
      refine PWc.region ?_
      refine PWl.step (LR.move rfl) rfl ?_
      refine PWl.step (LR.move rfl) rfl ?_
      refine PWl.step (LR.lenMap (enc := TDot.e) (L := l1) Try.underlying39 rfl) rfl ?_
      refine PWl.step (LR.lss rfl rfl) rfl ?_
      refine PWl.nil ?_
      refine PWc.cond rfl (fun hc64 => ?_) (fun hc64 => ?_)
      · replace h := iT hc64 h
        refine PWc.skip ?_
        refine PWc.seq ?_
        refine PWc.jn (iBind h) (fun (out65 : List TDot) (_ : Unit) => ⟨53, [(0, .d (.sl (List.map TDot.e l1))), (3, .ref 3 0), (5, .row 5 (List.length out65)), (7, .d (.v (.int .i64 i62)))], [(3, .cells 38 [.d (.v (.int .u16 d2.dev)), .d (.v (.int .u64 d2.n))]), (5, .row 38 2 (List.map TDot.e out65))]⟩) (fun h => ?_) ?_
        · refine PWc.block ?_
          refine PWc.seq ?_
          refine PWc.regionD (by kernel_rfl) (by kernel_rfl) ?_
          refine PQl.step (fun _ he ho => LR.move (he rfl rfl)) rfl ?_
          refine PQl.step (fun _ he ho => LR.move (he rfl rfl)) rfl ?_
          replace h := iIdx h
          obtain ⟨x66, hy67, h⟩ := h
          refine PQl.step (fun _ he ho => LR.idxT (enc := TDot.e) (L := l1) (y := x66) Try.underlying39 Try.sizeOf38 (he rfl rfl) (he rfl rfl) hy67 (fun _ => rfl)) rfl ?_
          refine PQl.step (fun _ he ho => LR.loadEpAgg (ys := [_, _]) Try.isAgg38 Try.sizeOf38 (he rfl rfl) rfl rfl) rfl ?_
          refine PQl.step (fun _ he ho => LR.loadRefAgg (ps := [_, _]) Try.isAgg38 Try.sizeOf38 (he rfl rfl) (ho rfl) rfl rfl) rfl ?_
          replace h := iDet h
          obtain ⟨v68, hy69, h⟩ := h
          refine PQl.step (fun _ he ho => LR.callN (r07_Cmp_ok x66 d2 v68 hy69) (he rfl rfl) Try.call110 (evsE he rfl rfl) rfl rfl rfl) rfl ?_
          refine PQl.step (fun _ he ho => LR.gtr (he rfl rfl) (he rfl rfl)) rfl ?_
          refine PQl.nil ?_
          refine PWc.cond rfl (fun hc70 => ?_) (fun hc70 => ?_)
          · replace h := iT hc70 h
            refine PWc.region ?_
            refine PWl.step (LR.move rfl) rfl ?_
            refine PWl.step (LR.move rfl) rfl ?_
            refine PWl.step (LR.move rfl) rfl ?_
            replace h := iIdx h
            obtain ⟨x71, hy72, h⟩ := h
            refine PWl.step (LR.idxT (enc := TDot.e) (L := l1) (y := x71) Try.underlying39 Try.sizeOf38 rfl rfl hy72 (fun _ => rfl)) rfl ?_
            refine PWl.step (LR.loadEpAgg (ys := [_, _]) Try.isAgg38 Try.sizeOf38 rfl rfl rfl) rfl ?_
            refine PWl.step (LR.buildSliceD [.tmp 49] elem39 rfl rfl (.cons rfl rfl rfl <| .nil) (by decide) (by decide)) rfl ?_
            refine PWl.re (tl := [(0, _), (3, _), (5, _), (7, _), (45, _), (50, _)]) (to := [(3, _), (5, _)]) rfl (.cons rfl rfl <| .cons rfl rfl <| .cons rfl rfl <| .cons rfl rfl <| .cons rfl rfl <| .cons rfl rfl <| .nil) (.cons rfl rfl <| .cons rfl rfl <| .nil) ?_
            replace h := iNeed h
            obtain ⟨hy73, h⟩ := h
            refine PWl.step (LR.appT (enc := TDot.e) (L := out63) (R := [x71]) [5, 45] elem39 Try.underlying39 rfl rfl rfl (Src.slT (enc := TDot.e) (R := [x71]) rfl (fun _ => rfl)) (fun _ => rfl) hy73 rfl rfl) rfl ?_
            refine PWl.step (LR.assign rfl) rfl ?_
            refine PWl.nil ?_
            exact ⟨(out63 ++ [x71]), (), h, Sub.of rfl (.cons rfl rfl <| .cons rfl rfl <| .cons rfl rfl <| .cons rfl rfl <| .nil) (.cons rfl rfl <| .cons rfl rfl <| .nil)⟩
          · replace h := iF hc70 h
            refine PWc.skip ?_
            exact ⟨out63, (), h, Sub.of rfl (.cons rfl rfl <| .cons rfl rfl <| .cons rfl rfl <| .cons rfl rfl <| .nil) (.cons rfl rfl <| .cons rfl rfl <| .nil)⟩
        · rintro out65 _ h
          refine PWc.region ?_
          refine PWl.step (LR.move rfl) rfl ?_
          refine PWl.step (LR.addW rfl rfl) rfl ?_
          refine PWl.step (LR.assign rfl) rfl ?_
          refine PWl.nil ?_
          exact ⟨((IntKind.i64.wrap (i62 + 1)), out65), (), h, Sub.of rfl (.cons rfl rfl <| .cons rfl rfl <| .cons rfl rfl <| .cons rfl rfl <| .nil) (.cons rfl rfl <| .cons rfl rfl <| .nil)⟩
      · replace h := iF hc64 h
        refine PWc.exit ?_
        exact ⟨out63, (), h, Sub.of rfl (.cons rfl rfl <| .nil) (.cons rfl rfl <| .nil)⟩
    · rintro out39 _ h
      refine PWc.seq ?_
      refine PWc.region ?_
      refine PWl.step (LR.move rfl) rfl ?_
      refine PWl.step (LR.assign rfl) rfl ?_
      refine PWl.nil ?_
      refine PWc.ret ?_
      replace h : _ = r0 := h
      subst h
      exact ⟨.inr rfl, 4, rfl, .inr ⟨5, _, rfl, (by simp), rfl⟩⟩

theorem r17_Keep_ok (l1 : List TDot) (c2 : List TPart) (r0 : List TDot) (h : (r17_Keep l1 c2).wp (· = r0)) : PFun Try.prog 72 [.d (.sl (List.map TDot.e l1)), .d (.sl (List.map TPart.e c2))] (.d (.sl (List.map TDot.e r0))) := by
  refine PFun.intro (sl := [(0, _), (1, _)]) Try.func72 rfl Try.ntmps72 rfl rfl ?_
  intro ctx hK
  refine PWc.seq ?_
  refine PWc.region ?_
  refine PWl.step (LR.assignNilRow 38 2 rfl) rfl ?_
  refine PWl.nil ?_
  refine PWc.seq ?_
  refine PWc.region ?_
  refine PWl.step (LR.assignNilRow 38 2 rfl) rfl ?_
  refine PWl.nil ?_
  refine PWc.seq ?_
  refine PWc.seq ?_
  refine PWc.region ?_
  refine PWl.step (LR.assign rfl) rfl ?_
  refine PWl.nil ?_
  refine PWc.jn (iBind h) (fun (out3 : List TDot) (_ : Unit) => ⟨26, [(5, .d (.sl (List.map TDot.e out3)))], []⟩) (fun h => ?_) ?_
  · refine PWc.block ?_
    refine PWc.loopM (fun (⟨out28, i29⟩ : List TDot × Int) (_ : Unit) => ⟨26, [(0, .d (.sl (List.map TDot.e l1))), (1, .d (.sl (List.map TPart.e c2))), (5, .d (.sl (List.map TDot.e out28))), (6, .d (.v (.int .i64 i29)))], []⟩) () h (Sub.trans (Sub.frz [5] hK rfl (by first | (simp; done) | (simp; omega) | omega) (AllRow.get (.cons rfl <| .nil))) <| Sub.of rfl (.cons rfl rfl <| .cons rfl rfl <| .cons rfl rfl <| .cons rfl rfl <| .nil) (.nil)) ?_
    rintro N ⟨out28, i29⟩ _ h
    refine PWc.seq ?_
    refine PWc.seq ?_
    refine PWc.region ?_
    refine PWl.step (LR.move rfl) rfl ?_
    refine PWl.step (LR.move rfl) rfl ?_
    refine PWl.step (LR.lenMap (enc := TDot.e) (L := l1) Try.underlying39 rfl) rfl ?_
    refine PWl.step (LR.lss rfl rfl) rfl ?_
    refine PWl.nil ?_
    refine PWc.cond rfl (fun hc30 => ?_) (fun hc30 => ?_)
    · replace h := iT hc30 h
      refine PWc.skip ?_
      refine PWc.seq ?_
      refine PWc.jn (iBind h) (fun (out31 : List TDot) (_ : Unit) => ⟨26, [(0, .d (.sl (List.map TDot.e l1))), (1, .d (.sl (List.map TPart.e c2))), (5, .d (.sl (List.map TDot.e out31))), (6, .d (.v (.int .i64 i29)))], []⟩) (fun h => ?_) ?_
      · refine PWc.block ?_
        refine PWc.seq ?_
        refine PWc.region ?_
        refine PWl.step (LR.move rfl) rfl ?_
        refine PWl.step (LR.move rfl) rfl ?_
        refine PWl.step (LR.move rfl) rfl ?_
        replace h := iIdx h
        obtain ⟨x32, hy33, h⟩ := h
        refine PWl.step (LR.idxT (enc := TDot.e) (L := l1) (y := x32) Try.underlying39 Try.sizeOf38 rfl rfl hy33 (fun _ => rfl)) rfl ?_
        refine PWl.step (LR.loadEpAgg (ys := [_, _]) Try.isAgg38 Try.sizeOf38 rfl rfl rfl) rfl ?_
        replace h := iDet h
        obtain ⟨v34, hy35, h⟩ := h
        refine PWl.step (LR.callN (r09_Has_ok c2 x32 v34 hy35) rfl Try.call24 rfl rfl rfl rfl) rfl ?_
        refine PWl.nil ?_
        refine PWc.cond rfl (fun hc36 => ?_) (fun hc36 => ?_)
        · replace h := iT hc36 h
          refine PWc.region ?_
          refine PWl.step (LR.move rfl) rfl ?_
          refine PWl.step (LR.move rfl) rfl ?_
          refine PWl.step (LR.move rfl) rfl ?_
          replace h := iIdx h
          obtain ⟨x37, hy38, h⟩ := h
          refine PWl.step (LR.idxT (enc := TDot.e) (L := l1) (y := x37) Try.underlying39 Try.sizeOf38 rfl rfl hy38 (fun _ => rfl)) rfl ?_
          refine PWl.step (LR.loadEpAgg (ys := [_, _]) Try.isAgg38 Try.sizeOf38 rfl rfl rfl) rfl ?_
          replace h := iDet h
          obtain ⟨v39, hy40, h⟩ := h
          refine PWl.step (LR.rowN (r07_Put_ok out28 x37 v39 hy40) rfl Try.call86 rfl rfl rfl rfl) rfl ?_
          refine PWl.step (LR.assign rfl) rfl ?_
          refine PWl.nil ?_
          exact ⟨v39, (), h, Sub.trans (Sub.frz [5, 24] hK rfl (by simp) (AllRow.get (.cons rfl <| .cons rfl <| .nil))) <| Sub.of rfl (.cons rfl rfl <| .cons rfl rfl <| .cons rfl rfl <| .cons rfl rfl <| .nil) (.nil)⟩
        · replace h := iF hc36 h
          refine PWc.skip ?_
          exact ⟨out28, (), h, Sub.of rfl (.cons rfl rfl <| .cons rfl rfl <| .cons rfl rfl <| .cons rfl rfl <| .nil) (.nil)⟩
      · rintro out31 _ h
        refine PWc.region ?_
        refine PWl.step (LR.move rfl) rfl ?_
        refine PWl.step (LR.addW rfl rfl) rfl ?_
        refine PWl.step (LR.assign rfl) rfl ?_
        refine PWl.nil ?_
        exact ⟨(out31, (IntKind.i64.wrap (i29 + 1))), (), h, Sub.of rfl (.cons rfl rfl <| .cons rfl rfl <| .cons rfl rfl <| .cons rfl rfl <| .nil) (.nil)⟩
    · replace h := iF hc30 h
      refine PWc.exit ?_
      exact ⟨out28, (), h, Sub.of rfl (.cons rfl rfl <| .nil) (.nil)⟩
  · rintro out3 _ h
    refine PWc.seq ?_
    refine PWc.region ?_
    refine PWl.step (LR.move rfl) rfl ?_
    refine PWl.step (LR.assign rfl) rfl ?_
    refine PWl.nil ?_
    refine PWc.ret ?_
    replace h : _ = r0 := h
    subst h
    exact ⟨.inr rfl, _, .cons (.tmp rfl rfl) <| .nil, rfl⟩
end Go.Proofs

namespace Go.Proofs
open Go.Ep
set_option maxHeartbeats 1000000
set_option maxRecDepth 100000
set_option linter.unusedVariables false
set_option linter.unusedSimpArgs false


theorem r29_Replay_ok (l1 : List TEvent) (dev2 : Int) (to3 : List TPart) (r0 : List TEvent) (h : (r29_Replay l1 dev2 to3).wp (· = r0)) : PRow Try.prog 21 [.d (.sl (List.map TEvent.e l1)), .d (.v (.int .u16 dev2)), .d (.sl (List.map TPart.e to3))] 41 7 (List.map TEvent.e r0) := by
  refine PRow.intro (sl := [(0, _), (1, _), (2, _)]) Try.func21 rfl Try.ntmps21 rfl rfl ?_
  intro ctx hK
  refine PWc.seq ?_
  refine PWc.region ?_
  refine PWl.step (LR.assignNilRow 41 7 rfl) rfl ?_
  refine PWl.nil ?_
  refine PWc.seq ?_
  refine PWc.region ?_
  refine PWl.step (LR.assignNilRow 41 7 rfl) rfl ?_
  refine PWl.nil ?_
  refine PWc.seq ?_
  refine PWc.seq ?_
  refine PWc.region ?_
  refine PWl.step (LR.assign rfl) rfl ?_
  refine PWl.nil ?_
  refine PWc.jn (iBind h) (fun (out4 : List TEvent) (_ : Unit) => ⟨36, [(7, .row 7 (List.length out4))], [(7, .row 41 7 (List.map TEvent.e out4))]⟩) (fun h => ?_) ?_
  · refine PWc.block ?_
    refine PWc.loopM (fun (⟨i19, out20⟩ : Int × List TEvent) (_ : Unit) => ⟨36, [(0, .d (.sl (List.map TEvent.e l1))), (1, .d (.v (.int .u16 dev2))), (2, .d (.sl (List.map TPart.e to3))), (7, .row 7 (List.length out20)), (8, .d (.v (.int .i64 i19)))], [(7, .row 41 7 (List.map TEvent.e out20))]⟩) () h (Sub.of rfl (.cons rfl rfl <| .cons rfl rfl <| .cons rfl rfl <| .cons rfl rfl <| .cons rfl rfl <| .nil) (.cons rfl rfl <| .nil)) ?_
    rintro N ⟨i19, out20⟩ _ h
    refine PWc.seq ?_
    refine PWc.seq ?_
    refine PWc.region ?_
    refine PWl.step (LR.move rfl) rfl ?_
    refine PWl.step (LR.move rfl) rfl ?_
    refine PWl.step (LR.lenMap (enc := TEvent.e) (L := l1) Try.underlying22 rfl) rfl ?_
    refine PWl.step (LR.lss rfl rfl) rfl ?_
    refine PWl.nil ?_
    refine PWc.cond rfl (fun hc21 => ?_) (fun hc21 => ?_)
    · replace h := iT hc21 h
      refine PWc.skip ?_
      refine PWc.seq ?_
      refine PWc.block ?_
      refine PWc.seq ?_
      refine PWc.region ?_
      refine PWl.step (LR.move rfl) rfl ?_
      refine PWl.step (LR.move rfl) rfl ?_
      replace h := iIdx h
      obtain ⟨x22, hy23, h⟩ := h
      refine PWl.step (LR.idxT (enc := TEvent.e) (L := l1) (y := x22) Try.underlying22 Try.sizeOf41 rfl rfl hy23 (fun _ => rfl)) rfl ?_
      refine PWl.step (LR.loadEpAgg (ys := [_, _, _, _, _, _, _]) Try.isAgg41 Try.sizeOf41 rfl rfl rfl) rfl ?_
      refine PWl.step (LR.allocZ (cs := [_, _, _, _, _, _, _]) Try.zeroValue41 rfl rfl rfl rfl) rfl ?_
      refine PWl.step (LR.storeB (ns := [_, _, _, _, _, _, _]) Try.sizeOf41 rfl rfl rfl rfl rfl rfl rfl) rfl ?_
      refine PWl.nil ?_
      refine PWc.seq ?_
      refine PWc.region ?_
      refine PWl.step (LR.move rfl) rfl ?_
      refine PWl.step (LR.move rfl) rfl ?_
      refine PWl.step (LR.convInt Try.underlying36 (by rw [Try.underlying3]; rfl) rfl rfl) rfl ?_
      refine PWl.step (LR.addW rfl rfl) rfl ?_
      refine PWl.step (LR.build (ns := [_, _]) build38 rfl rfl rfl) rfl ?_
      refine PWl.step (LR.fieldRef Try.underlying41 rfl Try.sizeOf38 (by decide) rfl rfl) rfl ?_
      refine PWl.step (LR.storeB (ns := [_, _, _, _, _, _, _]) Try.sizeOf38 rfl rfl rfl rfl rfl rfl rfl) rfl ?_
      refine PWl.nil ?_
      refine PWc.seq ?_
      refine PWc.region ?_
      refine PWl.step (LR.fieldRef Try.underlying41 rfl Try.sizeOf39 (by decide) rfl rfl) rfl ?_
      refine PWl.re (tl := [(0, _), (1, _), (2, _), (7, _), (8, _), (9, _), (26, _)]) (to := [(7, _), (9, _)]) rfl (.cons rfl rfl <| .cons rfl rfl <| .cons rfl rfl <| .cons rfl rfl <| .cons rfl rfl <| .cons rfl rfl <| .cons rfl rfl <| .nil) (.cons rfl rfl <| .cons rfl rfl <| .nil) ?_
      refine PWl.step (LR.loadRef Try.isAgg39 rfl rfl rfl) rfl ?_
      refine PWl.step (LR.move rfl) rfl ?_
      replace h := iDet h
      obtain ⟨v24, hy25, h⟩ := h
      refine PWl.step (LR.callN (r17_Keep_ok x22.kills to3 v24 hy25) rfl Try.call72 rfl rfl rfl rfl) rfl ?_
      refine PWl.step (LR.fieldRef Try.underlying41 rfl Try.sizeOf39 (by decide) rfl rfl) rfl ?_
      refine PWl.step (LR.storeB (ns := [_, _, _, _, _, _, _]) Try.sizeOf39 rfl rfl rfl rfl rfl rfl rfl) rfl ?_
      refine PWl.nil ?_
      refine PWc.region ?_
      refine PWl.step (LR.move rfl) rfl ?_
      refine PWl.step (LR.loadRefAgg (ps := [_, _, _, _, _, _, _]) Try.isAgg41 Try.sizeOf41 rfl rfl rfl rfl) rfl ?_
      refine PWl.step (LR.buildSliceD [.tmp 32] elem22 rfl rfl (.cons rfl rfl rfl <| .nil) (by decide) (by decide)) rfl ?_
      replace h := iNeed h
      obtain ⟨hy26, h⟩ := h
      refine PWl.step (LR.appT (enc := TEvent.e) (L := out20) (R := [(⟨(⟨dev2, (IntKind.u64.wrap ((IntKind.u64.wrap i19) + 1))⟩ : TDot), x22.kind, x22.cid, x22.field, x22.text, v24⟩ : TEvent)]) [7, 31] elem22 Try.underlying22 rfl rfl rfl (Src.slT (enc := TEvent.e) (R := [(⟨(⟨dev2, (IntKind.u64.wrap ((IntKind.u64.wrap i19) + 1))⟩ : TDot), x22.kind, x22.cid, x22.field, x22.text, v24⟩ : TEvent)]) rfl (fun _ => rfl)) (fun _ => rfl) hy26 rfl rfl) rfl ?_
      refine PWl.step (LR.assign rfl) rfl ?_
      refine PWl.nil ?_
      refine PWc.region ?_
      refine PWl.step (LR.move rfl) rfl ?_
      refine PWl.step (LR.addW rfl rfl) rfl ?_
      refine PWl.step (LR.assign rfl) rfl ?_
      refine PWl.nil ?_
      exact ⟨((IntKind.i64.wrap (i19 + 1)), (out20 ++ [(⟨(⟨dev2, (IntKind.u64.wrap ((IntKind.u64.wrap i19) + 1))⟩ : TDot), x22.kind, x22.cid, x22.field, x22.text, v24⟩ : TEvent)])), (), h, Sub.of rfl (.cons rfl rfl <| .cons rfl rfl <| .cons rfl rfl <| .cons rfl (by first | rfl | (simp; done) | (congr 1; first | (simp; done) | (simp; omega))) <| .cons rfl rfl <| .nil) (.cons rfl rfl <| .nil)⟩
    · replace h := iF hc21 h
      refine PWc.exit ?_
      exact ⟨out20, (), h, Sub.of rfl (.cons rfl rfl <| .nil) (.cons rfl rfl <| .nil)⟩
  · rintro out4 _ h
    refine PWc.seq ?_
    refine PWc.region ?_
    refine PWl.step (LR.move rfl) rfl ?_
    refine PWl.step (LR.assign rfl) rfl ?_
    refine PWl.nil ?_
    refine PWc.ret ?_
    replace h : _ = r0 := h
    subst h
    exact ⟨.inr rfl, 6, rfl, .inr ⟨7, _, rfl, (by simp), rfl⟩⟩

theorem l29_OutboxParts_ok (l1 : List TEvent) (pick2 : Int) (to3 : List TPart) (r0 : Bool) (h : (l29_OutboxParts l1 pick2 to3).wp (· = r0)) : PFun Try.prog 3 [.d (.sl (List.map TEvent.e l1)), .d (.v (.int .i64 pick2)), .d (.sl (List.map TPart.e to3))] (.d (.v (.bool r0))) := by
  refine PFun.intro (sl := [(0, _), (1, _), (2, _)]) Try.func3 rfl Try.ntmps3 rfl rfl ?_
  intro ctx hK
  refine PWc.seq ?_
  refine PWc.region ?_
  refine PWl.step (LR.assign rfl) rfl ?_
  refine PWl.nil ?_
  refine PWc.seq ?_
  refine PWc.seq ?_
  refine PWc.jn (iBind h) (fun (v4 : Bool) (_ : Unit) => ⟨47, [(0, .d (.sl (List.map TEvent.e l1))), (1, .d (.v (.int .i64 pick2))), (2, .d (.sl (List.map TPart.e to3))), (15, .d (.v (.bool v4)))], []⟩) (fun h => ?_) ?_
  · refine PWc.region ?_
    refine PWl.step (LR.move rfl) rfl ?_
    replace h := iDet h
    obtain ⟨v5, hy6, h⟩ := h
    refine PWl.step (LR.callN (r13_Few_ok l1 30 v5 hy6) rfl Try.call12 rfl rfl rfl rfl) rfl ?_
    refine PWl.step (LR.not rfl) rfl ?_
    refine PWl.step (LR.move rfl) rfl ?_
    refine PWl.split (d := 11) rfl (fun hg7 => ?_) (fun hg7 => ?_)
    · replace h := iT hg7 h
      refine PWl.guardF rfl rfl rfl (by decide) ?_
      refine PWl.guardF rfl rfl rfl (by decide) ?_
      refine PWl.guardF rfl rfl rfl (by decide) ?_
      refine PWl.step (LR.pickT rfl rfl) rfl ?_
      refine PWl.nil ?_
      exact ⟨true, (), h, Sub.of rfl (.cons rfl rfl <| .cons rfl rfl <| .cons rfl rfl <| .cons rfl rfl <| .nil) (.nil)⟩
    · replace h := iF hg7 h
      refine PWl.guardT (LR.move rfl) rfl rfl rfl ?_
      replace h := iDet h
      obtain ⟨v8, hy9, h⟩ := h
      refine PWl.guardT (LR.callN (r09_Few_ok to3 v8 hy9) rfl Try.call13 rfl rfl rfl rfl) rfl rfl rfl ?_
      refine PWl.guardT (LR.not rfl) rfl rfl rfl ?_
      refine PWl.step (LR.pickF rfl rfl) rfl ?_
      refine PWl.nil ?_
      exact ⟨(!v8), (), h, Sub.of rfl (.cons rfl rfl <| .cons rfl rfl <| .cons rfl rfl <| .cons rfl rfl <| .nil) (.nil)⟩
  · rintro v4 _ h
    refine PWc.cond rfl (fun hc10 => ?_) (fun hc10 => ?_)
    · replace h := iT hc10 h
      refine PWc.seq ?_
      refine PWc.region ?_
      replace h := iDet h
      obtain ⟨v11, hy12, h⟩ := h
      refine PWl.step (LR.callN (l29_works_ok v11 hy12) rfl Try.call14 rfl rfl rfl rfl) rfl ?_
      refine PWl.step (LR.assign rfl) rfl ?_
      refine PWl.nil ?_
      refine PWc.ret ?_
      replace h : _ = r0 := h
      subst h
      exact ⟨.inr rfl, _, .cons (.tmp rfl rfl) <| .nil, rfl⟩
    · replace h := iF hc10 h
      refine PWc.skip ?_
      refine PWc.seq ?_
      refine PWc.region ?_
      refine PWl.step (LR.move rfl) rfl ?_
      refine PWl.step (LR.convInt Try.underlying28 (by rw [Try.underlying3]; rfl) rfl rfl) rfl ?_
      refine PWl.step (LR.assign rfl) rfl ?_
      refine PWl.nil ?_
      refine PWc.seq ?_
      refine PWc.jn (iBind h) (fun (v13 : Bool) (_ : Unit) => ⟨47, [(6, .d (.v (.bool v13)))], []⟩) (fun h => ?_) ?_
      · refine PWc.region ?_
        refine PWl.step (LR.move rfl) rfl ?_
        replace h := iDet h
        obtain ⟨v14, hy15, h⟩ := h
        refine PWl.step (LR.callN (outbox_Batches_ok l1 v14 hy15) rfl Try.call15 rfl rfl rfl rfl) rfl ?_
        refine PWl.step (LR.move rfl) rfl ?_
        replace h := iDet h
        obtain ⟨v16, hy17, h⟩ := h
        refine PWl.step (LR.callN (r29_Batches_ok l1 v16 hy17) rfl Try.call16 rfl rfl rfl rfl) rfl ?_
        refine PWl.step (LR.eql rfl rfl) rfl ?_
        refine PWl.step (LR.move rfl) rfl ?_
        refine PWl.split (d := 24) rfl (fun hg18 => ?_) (fun hg18 => ?_)
        · replace h := iT hg18 h
          refine PWl.guardT (LR.move rfl) rfl rfl rfl ?_
          refine PWl.guardT (LR.move rfl) rfl rfl rfl ?_
          replace h := iDet h
          obtain ⟨v19, hy20, h⟩ := h
          refine PWl.guardT (LR.rowN (outbox_Batch_ok l1 pick2 v19 hy20) rfl Try.call18 rfl rfl rfl rfl) rfl rfl rfl ?_
          refine PWl.guardT (LR.move rfl) rfl rfl rfl ?_
          refine PWl.guardT (LR.move rfl) rfl rfl rfl ?_
          replace h := iDet h
          obtain ⟨v21, hy22, h⟩ := h
          refine PWl.guardT (LR.rowN (r29_Batch_ok l1 pick2 v21 hy22) rfl Try.call19 rfl rfl rfl rfl) rfl rfl rfl ?_
          replace h := iDet h
          obtain ⟨v23, hy24, h⟩ := h
          refine PWl.frz [27] hK (.cons rfl <| .nil) rfl (by simp) ?_
          refine PWl.frz [30] hK (.cons rfl <| .nil) rfl (by simp) ?_
          refine PWl.guardT (LR.callN (r13_All_ok v19 v21 v23 hy24) rfl Try.call17 rfl rfl rfl rfl) rfl rfl rfl ?_
          refine PWl.re (tl := [(0, _), (2, _), (7, _), (24, _), (31, _)]) (to := []) rfl (.cons rfl rfl <| .cons rfl rfl <| .cons rfl rfl <| .cons rfl rfl <| .cons rfl rfl <| .nil) (.nil) ?_
          refine PWl.step (LR.pickT rfl rfl) rfl ?_
          refine PWl.step (LR.move rfl) rfl ?_
          refine PWl.split (d := 33) rfl (fun hg25 => ?_) (fun hg25 => ?_)
          · replace h := iT hg25 h
            refine PWl.guardT (LR.move rfl) rfl rfl rfl ?_
            refine PWl.guardT (LR.move rfl) rfl rfl rfl ?_
            refine PWl.guardT (LR.move rfl) rfl rfl rfl ?_
            replace h := iDet h
            obtain ⟨v26, hy27, h⟩ := h
            refine PWl.guardT (LR.rowN (outbox_Replay_ok l1 (IntKind.u16.wrap pick2) to3 v26 hy27) rfl Try.call20 rfl rfl rfl rfl) rfl rfl rfl ?_
            refine PWl.guardT (LR.move rfl) rfl rfl rfl ?_
            refine PWl.guardT (LR.move rfl) rfl rfl rfl ?_
            refine PWl.guardT (LR.move rfl) rfl rfl rfl ?_
            replace h := iDet h
            obtain ⟨v28, hy29, h⟩ := h
            refine PWl.guardT (LR.rowN (r29_Replay_ok l1 (IntKind.u16.wrap pick2) to3 v28 hy29) rfl Try.call21 rfl rfl rfl rfl) rfl rfl rfl ?_
            replace h := iDet h
            obtain ⟨v30, hy31, h⟩ := h
            refine PWl.frz [37] hK (.cons rfl <| .nil) rfl (by simp) ?_
            refine PWl.frz [41] hK (.cons rfl <| .nil) rfl (by simp) ?_
            refine PWl.guardT (LR.callN (r13_All_ok v26 v28 v30 hy31) rfl Try.call17 rfl rfl rfl rfl) rfl rfl rfl ?_
            refine PWl.step (LR.pickT rfl rfl) rfl ?_
            refine PWl.step (LR.move rfl) rfl ?_
            refine PWl.split (d := 44) rfl (fun hg32 => ?_) (fun hg32 => ?_)
            · replace h := iT hg32 h
              replace h := iDet h
              obtain ⟨v33, hy34, h⟩ := h
              refine PWl.guardT (LR.callN (l29_works_ok v33 hy34) rfl Try.call14 rfl rfl rfl rfl) rfl rfl rfl ?_
              refine PWl.re (tl := [(44, _), (45, _)]) (to := []) rfl (.cons rfl rfl <| .cons rfl rfl <| .nil) (.nil) ?_
              refine PWl.step (LR.pickT rfl rfl) rfl ?_
              refine PWl.step (LR.assign rfl) rfl ?_
              refine PWl.nil ?_
              exact ⟨v33, (), h, Sub.of rfl (.cons rfl rfl <| .nil) (.nil)⟩
            · replace h := iF hg32 h
              refine PWl.guardF rfl rfl rfl (by decide) ?_
              refine PWl.re (tl := [(44, _), (45, _)]) (to := []) rfl (.cons rfl rfl <| .cons rfl rfl <| .nil) (.nil) ?_
              refine PWl.step (LR.pickF rfl rfl) rfl ?_
              refine PWl.step (LR.assign rfl) rfl ?_
              refine PWl.nil ?_
              exact ⟨false, (), h, Sub.of rfl (.cons rfl rfl <| .nil) (.nil)⟩
          · replace h := iF hg25 h
            refine PWl.guardF rfl rfl rfl (by decide) ?_
            refine PWl.guardF rfl rfl rfl (by decide) ?_
            refine PWl.guardF rfl rfl rfl (by decide) ?_
            refine PWl.guardF rfl rfl rfl (by decide) ?_
            refine PWl.guardF rfl rfl rfl (by decide) ?_
            refine PWl.guardF rfl rfl rfl (by decide) ?_
            refine PWl.guardF rfl rfl rfl (by decide) ?_
            refine PWl.guardF rfl rfl rfl (by decide) ?_
            refine PWl.guardF rfl rfl rfl (by decide) ?_
            refine PWl.step (LR.pickF rfl rfl) rfl ?_
            refine PWl.step (LR.move rfl) rfl ?_
            refine PWl.guardF rfl rfl rfl (by decide) ?_
            refine PWl.step (LR.pickF rfl rfl) rfl ?_
            refine PWl.re (tl := [(46, _)]) (to := []) rfl (.cons rfl rfl <| .nil) (.nil) ?_
            refine PWl.step (LR.assign rfl) rfl ?_
            refine PWl.nil ?_
            exact ⟨false, (), h, Sub.of rfl (.cons rfl rfl <| .nil) (.nil)⟩
        · replace h := iF hg18 h
          refine PWl.guardF rfl rfl rfl (by decide) ?_
          refine PWl.guardF rfl rfl rfl (by decide) ?_
          refine PWl.guardF rfl rfl rfl (by decide) ?_
          refine PWl.guardF rfl rfl rfl (by decide) ?_
          refine PWl.guardF rfl rfl rfl (by decide) ?_
          refine PWl.guardF rfl rfl rfl (by decide) ?_
          refine PWl.guardF rfl rfl rfl (by decide) ?_
          refine PWl.re (tl := [(0, _), (2, _), (7, _), (24, _), (31, _)]) (to := []) rfl (.cons rfl rfl <| .cons rfl rfl <| .cons rfl rfl <| .cons rfl rfl <| .cons rfl rfl <| .nil) (.nil) ?_
          refine PWl.step (LR.pickF rfl rfl) rfl ?_
          refine PWl.step (LR.move rfl) rfl ?_
          refine PWl.guardF rfl rfl rfl (by decide) ?_
          refine PWl.guardF rfl rfl rfl (by decide) ?_
          refine PWl.guardF rfl rfl rfl (by decide) ?_
          refine PWl.guardF rfl rfl rfl (by decide) ?_
          refine PWl.guardF rfl rfl rfl (by decide) ?_
          refine PWl.guardF rfl rfl rfl (by decide) ?_
          refine PWl.guardF rfl rfl rfl (by decide) ?_
          refine PWl.guardF rfl rfl rfl (by decide) ?_
          refine PWl.guardF rfl rfl rfl (by decide) ?_
          refine PWl.step (LR.pickF rfl rfl) rfl ?_
          refine PWl.step (LR.move rfl) rfl ?_
          refine PWl.guardF rfl rfl rfl (by decide) ?_
          refine PWl.step (LR.pickF rfl rfl) rfl ?_
          refine PWl.step (LR.assign rfl) rfl ?_
          refine PWl.nil ?_
          exact ⟨false, (), h, Sub.of rfl (.cons rfl rfl <| .nil) (.nil)⟩
      · rintro v13 _ h
        refine PWc.ret ?_
        replace h : _ = r0 := h
        subst h
        exact ⟨.inr rfl, _, .cons (.tmp rfl rfl) <| .nil, rfl⟩

end Go.Proofs

namespace Go.Ep
open Go

theorem wI64 {n : Int} (h : -9223372036854775808 ≤ n) (h' : n ≤ 9223372036854775807) : IntKind.i64.wrap n = n := by simp [IntKind.wrap, IntKind.bits, IntKind.signed]; omega
theorem wU64 {n : Int} (h : 0 ≤ n) (h' : n ≤ 18446744073709551615) : IntKind.u64.wrap n = n := by simp [IntKind.wrap, IntKind.bits, IntKind.signed]; omega
theorem wU8 {n : Int} (h : 0 ≤ n) (h' : n ≤ 255) : IntKind.u8.wrap n = n := by simp [IntKind.wrap, IntKind.bits, IntKind.signed]; omega
theorem wSucc {i : Nat} (h : i < 9223372036854775807) : IntKind.i64.wrap ((i : Int) + 1) = ((i + 1 : Nat) : Int) := by rw [wI64 (by omega) (by omega)]; rfl
namespace M
variable {α β σ ρ τ ε : Type}
theorem cond_dec (p : Prop) [Decidable p] (x y : M α) : cond (decide p) x y = if p then x else y := by by_cases h : p <;> simp [h]
/-- A loop over a list's places; mk: the state at a place. -/
theorem loopL {body : σ → M (Step σ ρ)} (l : List ε) (mk : Nat → τ → σ) (f : τ → ε → τ) (g : τ → M ρ)
    (I : Nat → τ → Prop) (h1 : ∀ (i : Nat) (x : ε) (t : τ), l[i]? = some x → i < l.length → I i t → body (mk i t) = pure (.next (mk (i + 1) (f t x))) ∧ I (i + 1) (f t x))
    (h2 : ∀ t, I l.length t → body (mk l.length t) = (g t).bind fun r => pure (.done r)) (t0 : τ) (h0 : I 0 t0) : loop body (mk 0 t0) = g (l.foldl f t0) := by
  have key : ∀ k i t, i + k = l.length → I i t → loop body (mk i t) = g ((l.drop i).foldl f t) := by
    intro k
    induction k with
    | zero =>
      intro i t hi hI
      have : i = l.length := by omega
      subst this
      rw [loop_eq, h2 t hI, List.drop_length]
      rfl
    | succ k ih =>
      intro i t hi hI
      have hlt : i < l.length := by omega
      obtain ⟨h3, h4⟩ := h1 i l[i] t (List.getElem?_eq_getElem hlt) hlt hI
      rw [loop_next h3, ih (i + 1) _ (by omega) h4, List.drop_eq_getElem_cons hlt]
      rfl
  simpa using key l.length 0 t0 (by omega) h0
/-- Does each element pass? -/
theorem loopAll {body : σ → M (Step σ ρ)} (l : List ε) (mk : Nat → σ) (p : Nat → ε → Bool) (r1 r2 : ρ)
    (h1 : ∀ (i : Nat) (x : ε), l[i]? = some x → i < l.length → body (mk i) = if p i x then pure (.next (mk (i + 1))) else pure (.done r2))
    (h2 : body (mk l.length) = pure (.done r1)) : loop body (mk 0) = pure (if l.zipIdx.all (fun y => p y.2 y.1) then r1 else r2) := by
  have key : ∀ k i, i + k = l.length → loop body (mk i) = pure (if ((l.drop i).zipIdx i).all (fun y => p y.2 y.1) then r1 else r2) := by
    intro k
    induction k with
    | zero =>
      intro i hi
      have : i = l.length := by omega
      subst this
      rw [loop_done h2, List.drop_length]
      rfl
    | succ k ih =>
      intro i hi
      have hlt : i < l.length := by omega
      have h3 := h1 i l[i] (List.getElem?_eq_getElem hlt) hlt
      rw [List.drop_eq_getElem_cons hlt, List.zipIdx_cons, List.all_cons]
      by_cases hp : p i l[i] = true
      · rw [if_pos hp] at h3
        rw [loop_next h3, ih (i + 1) (by omega), hp, Bool.true_and]
      · rw [if_neg hp] at h3
        rw [loop_done h3]
        simp [hp]
  have := key l.length 0 (by omega)
  rw [List.drop_zero] at this
  exact this

/-- What came, as a list. -/
def came {ε : Type} (m : List ε) (L : List Nat) : List ε := L.filterMap fun i => m[i]?
theorem came_snoc {m : List ε} {L : List Nat} {i : Nat} {y : ε} (h : m[i]? = some y) : came m (L ++ [i]) = came m L ++ [y] := by simp [came, h]
theorem all_perm {n : Nat} {L : List Nat} (hn : L.Nodup) (hb : ∀ i ∈ L, i < n) (ha : ∀ i, i < n → i ∈ L) : L.Perm (List.range n) := by
  refine (List.perm_ext_iff_of_nodup hn List.nodup_range).2 fun i => ?_
  rw [List.mem_range]
  exact ⟨hb i, ha i⟩
theorem came_perm {m : List ε} {L : List Nat} (hn : L.Nodup) (hb : ∀ i ∈ L, i < m.length) (ha : ∀ i, i < m.length → i ∈ L) : (came m L).Perm m := by
  have h1 := (all_perm hn hb ha).filterMap fun i => m[i]?
  have h2 : (List.range m.length).filterMap (fun i => m[i]?) = m := by
    apply List.ext_getElem?
    intro i
    clear h1 hn hb ha
    have : (List.range m.length).filterMap (fun i => m[i]?) = m := by
      induction m with
      | nil => rfl
      | cons x r ih =>
        rw [List.length_cons, List.range_succ_eq_map, List.filterMap_cons]
        simp only [List.getElem?_cons_zero, List.filterMap_map]
        congr 1
    rw [this]
  rw [h2] at h1
  exact h1
theorem nodup_len {n : Nat} {L : List Nat} (hn : L.Nodup) (hb : ∀ i ∈ L, i < n) : L.length ≤ n := by
  have := List.Nodup.length_le_of_subset hn (l₂ := List.range n) (fun i hi => List.mem_range.2 (hb i hi))
  simpa using this

theorem full {n : Nat} {L : List Nat} (hn : L.Nodup) (hb : ∀ i ∈ L, i < n) (hl : n ≤ L.length) : ∀ i, i < n → i ∈ L := by
  intro i hi
  refine Classical.byContradiction fun hni => ?_
  have := nodup_len (n := n) (L := i :: L) (List.nodup_cons.2 ⟨hni, hn⟩) (fun j hj => by
    rcases List.mem_cons.1 hj with rfl | hj
    · exact hi
    · exact hb j hj)
  simp at this
  omega
/-- A map is gone over; mk: the state when the places L came. -/
theorem loopM {body : σ → M (Step σ ρ)} (m : List ε) (mk : List Nat → τ → σ) (f : τ → ε → M τ) (g : τ → M ρ) (I : List ε → τ → Prop) (Q : ρ → Prop)
    (hb : ∀ L t, (∀ i ∈ L, i < m.length) → body (mk L t) = need (∀ i ∈ L, i < m.length) ((nxt m.length L).bind fun o => match o with
      | none => (g t).bind fun r => pure (.done r)
      | some i => (idx m (Int.ofNat i)).bind fun y => (f t y).bind fun t' => pure (.next (mk (L ++ [i]) t'))))
    (hs : ∀ l t y, I l t → l.length < m.length → y ∈ m → ∃ t', f t y = pure t' ∧ I (l ++ [y]) t') (he : ∀ l t, l.Perm m → I l t → (g t).wp Q) (t0 : τ) (h0 : I [] t0) : (loop body (mk [] t0)).wp Q := by
  have key : ∀ k L t, L.length + k = m.length → L.Nodup → (∀ i ∈ L, i < m.length) → I (came m L) t → loopP body Q (mk L t) := by
    intro k
    induction k with
    | zero =>
      intro L t hk hn hlt hI
      refine loopP_in ?_
      rw [hb L t hlt]
      have hall : ∀ i, i < m.length → i ∈ L := fun i hi => full hn hlt (by omega) i hi
      refine ⟨hlt, ⟨⟨none, hall⟩, fun o ho => ?_⟩⟩
      cases o with
      | none =>
        have := he _ t (came_perm hn hlt hall) hI
        exact this
      | some i => exact absurd (hall i ho.1) ho.2
    | succ k ih =>
      intro L t hk hn hlt hI
      refine loopP_in ?_
      rw [hb L t hlt]
      have hex : ∃ i, i < m.length ∧ i ∉ L := by
        refine Classical.byContradiction fun hno => ?_
        have hall : ∀ i, i < m.length → i ∈ L := fun i hi => Classical.byContradiction fun h => hno ⟨i, hi, h⟩
        have := (all_perm hn hlt hall).length_eq
        simp at this
        omega
      obtain ⟨i0, hi0⟩ := hex
      refine ⟨hlt, ⟨⟨some i0, hi0⟩, fun o ho => ?_⟩⟩
      cases o with
      | none => exact absurd (ho i0 hi0.1) hi0.2
      | some i =>
        have hi := List.getElem?_eq_getElem ho.1
        obtain ⟨t', h1, h2⟩ := hs (came m L) t m[i] hI (by have := List.length_filterMap_le (fun i => m[i]?) L; unfold came; omega) (List.getElem_mem ho.1)
        show ((idx m (Int.ofNat i)).bind _).wp _
        rw [show (Int.ofNat i) = (i : Int) from rfl, idx_nat hi, pure_bind, h1, pure_bind]
        refine ih (L ++ [i]) t' (by simp; omega) ?_ ?_ (by rw [came_snoc hi]; exact h2)
        · rw [List.nodup_append]
          refine ⟨hn, by simp, fun a ha b hb' => ?_⟩
          rw [List.mem_singleton.1 hb']
          intro e
          exact ho.2 (e ▸ ha)
        · intro j hj
          rcases List.mem_append.1 hj with hj | hj
          · exact hlt j hj
          · rw [List.mem_singleton.1 hj]; exact ho.1
  exact key m.length [] t0 (by simp) List.nodup_nil (by simp) h0

end M

namespace AL
variable {κ ν : Type} [DecidableEq κ]
theorem get_set (m : List (κ × ν)) (k q : κ) (v : ν) : get (set m k v) q = if k = q then some v else get m q := by
  induction m with
  | nil => simp [set, get]
  | cons x r ih =>
    obtain ⟨a, u⟩ := x
    by_cases h : a = k
    · subst h; simp only [set, if_true, get]; split <;> rfl
    · simp only [set, h, if_false, get, ih]
      by_cases h2 : a = q
      · subst h2; simp [Ne.symm h]
      · simp [h2]
theorem getZ_set (m : List (κ × ν)) (k q : κ) (v z : ν) : getZ (set m k v) q z = if k = q then v else getZ m q z := by
  unfold getZ; rw [get_set]; split <;> rfl
theorem keys_set (m : List (κ × ν)) (k : κ) (v : ν) : (set m k v).map (·.1) = if k ∈ m.map (·.1) then m.map (·.1) else m.map (·.1) ++ [k] := by
  induction m with
  | nil => simp [set]
  | cons x r ih =>
    obtain ⟨a, u⟩ := x
    by_cases h : a = k
    · subst h; simp [set]
    · simp only [set, h, if_false, List.map_cons, ih, List.mem_cons, Ne.symm h, false_or]
      split <;> simp
theorem nodup_set {m : List (κ × ν)} (h : (m.map (·.1)).Nodup) (k : κ) (v : ν) : ((set m k v).map (·.1)).Nodup := by
  rw [keys_set]
  split
  · exact h
  · rename_i hk
    rw [List.nodup_append]
    refine ⟨h, by simp, fun a ha b hb => ?_⟩
    rw [List.mem_singleton.1 hb]
    intro e; exact hk (e ▸ ha)
theorem len_set (m : List (κ × ν)) (k : κ) (v : ν) : (set m k v).length ≤ m.length + 1 := by
  induction m with
  | nil => simp [set]
  | cons x r ih =>
    obtain ⟨a, u⟩ := x
    unfold set
    split
    · simp
    · simpa using ih
end AL
end Go.Ep

namespace Go.Ep.M.V
open Go

def goodD (d : TDot) : Bool := decide (1 ≤ d.dev) && (decide (1 ≤ d.n) && decide (d.n ≤ 281474976710655))
theorem goodD_iff {d : TDot} : goodD d = true ↔ 1 ≤ d.dev ∧ 1 ≤ d.n ∧ d.n ≤ 281474976710655 := by simp [goodD]
theorem r07_Good_eq (d : TDot) : r07_Good d = pure (goodD d) := by
  unfold r07_Good
  rw [cond_pure_and, cond_pure_and, pure_bind]
  refine congrArg pure ?_
  rw [Bool.eq_iff_iff, goodD_iff]
  simp only [Bool.and_eq_true, decide_eq_true_eq]
  omega
theorem r07_Same_eq (a b : List TDot) (h : a.length ≤ 1000000000000) : r07_Same a b = pure (decide (a = b)) := by
  unfold r07_Same
  by_cases hl : (a.length : Int) = b.length
  · simp only [hl, decide_true, Bool.not_true, cond_false]
    have := loopAll (body := r07_Same_l0 a b) a (fun i => (i : Int)) (fun i x => decide (b[i]? = some x)) (.brk ()) (.ret false) (fun i x hx hi => by
      have hb : i < b.length := by omega
      unfold r07_Same_l0
      rw [idx_nat hx, idx_nat (List.getElem?_eq_getElem hb), wSucc (by omega)]
      simp only [pure_bind, List.getElem?_eq_getElem hb, Option.some.injEq]
      have : decide ((i : Int) < (a.length : Int)) = true := by simpa using hi
      rw [this, cond_true]
      by_cases he : b[i] = x
      · subst he; simp
      · rw [if_neg (by simpa using he)]
        have : (decide (x.dev = b[i].dev) && decide (x.n = b[i].n)) = false := by
          rw [Bool.eq_false_iff]
          intro hc
          simp at hc
          apply he
          cases x; cases hh : b[i]; simp_all
        rw [this]; rfl) (by
      unfold r07_Same_l0
      simp)
    rw [show (0 : Int) = ((0 : Nat) : Int) from rfl, this]
    by_cases he : a = b
    · subst he
      rw [if_pos]
      · simp [pure_bind, exk_brk]
      · rw [List.all_eq_true]
        intro ⟨x, i⟩ hx
        rw [List.mk_mem_zipIdx_iff_getElem?] at hx
        simpa using hx
    · rw [if_neg]
      · simp [he, pure_bind, exk_ret]
      · intro hall
        rw [List.all_eq_true] at hall
        apply he
        apply List.ext_getElem (by omega)
        intro i h1 h2
        have := hall (a[i], i) (by rw [List.mk_mem_zipIdx_iff_getElem?]; exact List.getElem?_eq_getElem h1)
        simp [h2] at this
        exact this.symm
  · have hne : a ≠ b := fun e => hl (by rw [e])
    simp [hl, hne]

def ofV : List TDot → Int → Int
  | [], _ => 0
  | d :: r, dev => if d.dev = dev ∧ goodD d = true then max d.n (ofV r dev) else ofV r dev
theorem ofV_range (v : List TDot) (dev : Int) : 0 ≤ ofV v dev ∧ ofV v dev ≤ 281474976710655 := by
  induction v with
  | nil => simp [ofV]
  | cons d r ih =>
    simp only [ofV]
    split
    · rename_i h; have := goodD_iff.1 h.2; omega
    · exact ih
theorem ofV_pos {v : List TDot} {dev : Int} : 0 < ofV v dev ↔ ∃ d ∈ v, d.dev = dev ∧ goodD d = true := by
  induction v with
  | nil => simp [ofV]
  | cons d r ih =>
    simp only [ofV, List.mem_cons, exists_eq_or_imp]
    split
    · rename_i h
      have := goodD_iff.1 h.2
      constructor
      · intro _; exact .inl h
      · intro _; omega
    · rename_i h
      rw [ih]
      constructor
      · exact .inr
      · rintro (hh | hh)
        · exact absurd hh h
        · exact hh
/-- Numbers, rising, each once. -/
def insI : List Int → Int → List Int
  | [], k => [k]
  | a :: r, k => if k < a then k :: a :: r else if k = a then a :: r else a :: insI r k
theorem mem_insI {l : List Int} {k q : Int} : q ∈ insI l k ↔ q = k ∨ q ∈ l := by
  induction l with
  | nil => simp [insI]
  | cons a r ih =>
    unfold insI
    split
    · simp
    · split
      · rename_i h; subst h; simp
      · simp only [List.mem_cons, ih]; constructor
        · rintro (h | h | h) <;> simp [h]
        · rintro (h | h | h) <;> simp [h]
theorem insI_sorted {l : List Int} (h : l.Pairwise (· < ·)) (k : Int) : (insI l k).Pairwise (· < ·) := by
  induction l with
  | nil => simp [insI]
  | cons a r ih =>
    obtain ⟨h1, h2⟩ := List.pairwise_cons.1 h
    unfold insI
    split
    · rename_i hk
      refine List.pairwise_cons.2 ⟨fun x hx => ?_, h⟩
      rcases List.mem_cons.1 hx with rfl | hx
      · exact hk
      · have := h1 x hx; omega
    · split
      · exact h
      · refine List.pairwise_cons.2 ⟨fun x hx => ?_, ih h2⟩
        rcases mem_insI.1 hx with rfl | hx
        · omega
        · exact h1 x hx
theorem len_insI (l : List Int) (k : Int) : (insI l k).length ≤ l.length + 1 := by
  induction l with
  | nil => simp [insI]
  | cons a r ih => unfold insI; split <;> try split
                   all_goals simp_all
def devStep (l : List Int) (d : TDot) : List Int := if goodD d then insI l d.dev else l
/-- The devices that a vector tells of. -/
def devsL (v : List TDot) : List Int := v.foldl devStep []
theorem devs_gen (v : List TDot) : ∀ l : List Int, l.Pairwise (· < ·) → (v.foldl devStep l).Pairwise (· < ·) ∧ (∀ k, k ∈ v.foldl devStep l ↔ k ∈ l ∨ ∃ d ∈ v, d.dev = k ∧ goodD d = true) ∧ (v.foldl devStep l).length ≤ l.length + v.length := by
  induction v with
  | nil => intro l h; simp [h]
  | cons d r ih =>
    intro l h
    simp only [List.foldl_cons]
    unfold devStep
    split
    · rename_i hg
      obtain ⟨h1, h2, h3⟩ := ih _ (insI_sorted h d.dev)
      refine ⟨h1, fun k => ?_, ?_⟩
      · have := h2 k
        unfold devStep at this
        rw [this, mem_insI]
        constructor
        · rintro ((rfl | h) | ⟨e, he, h⟩)
          · exact .inr ⟨d, by simp, rfl, hg⟩
          · exact .inl h
          · exact .inr ⟨e, by simp [he], h⟩
        · rintro (h | ⟨e, he, h⟩)
          · exact .inl (.inr h)
          · rcases List.mem_cons.1 he with rfl | he
            · exact .inl (.inl h.1.symm)
            · exact .inr ⟨e, he, h⟩
      · have := len_insI l d.dev; simp only [List.length_cons]; unfold devStep at h3; omega
    · rename_i hg
      obtain ⟨h1, h2, h3⟩ := ih _ h
      refine ⟨h1, fun k => ?_, ?_⟩
      · have := h2 k
        unfold devStep at this
        rw [this]
        constructor
        · rintro (h | ⟨e, he, h⟩)
          · exact .inl h
          · exact .inr ⟨e, by simp [he], h⟩
        · rintro (h | ⟨e, he, h⟩)
          · exact .inl h
          · rcases List.mem_cons.1 he with rfl | he
            · exact absurd h.2 hg
            · exact .inr ⟨e, he, h⟩
      · simp only [List.length_cons]; unfold devStep at h3; omega
theorem devs_sorted (v : List TDot) : (devsL v).Pairwise (· < ·) := (devs_gen v [] List.Pairwise.nil).1
theorem mem_devs {v : List TDot} {k : Int} : k ∈ devsL v ↔ 0 < ofV v k := by rw [ofV_pos]; simpa [devsL] using (devs_gen v [] List.Pairwise.nil).2.1 k
def toldStep (m : List (Int × Int)) (d : TDot) : List (Int × Int) := if goodD d then AL.set m d.dev (max (AL.getZ m d.dev 0) d.n) else m
def toldM (v : List TDot) : List (Int × Int) := v.foldl toldStep []
theorem told_gen (v : List TDot) : ∀ m : List (Int × Int), (m.map (·.1)).Nodup → ((v.foldl toldStep m).map (·.1)).Nodup ∧ ((∀ k, 0 ≤ AL.getZ m k 0) → ∀ k, AL.getZ (v.foldl toldStep m) k 0 = max (AL.getZ m k 0) (ofV v k)) ∧ (v.foldl toldStep m).length ≤ m.length + v.length ∧ (∀ k, k ∈ (v.foldl toldStep m).map (·.1) → k ∈ m.map (·.1) ∨ 0 < ofV v k) := by
  induction v with
  | nil =>
    intro m h
    refine ⟨h, fun h0 k => ?_, by simp, fun k hk => .inl hk⟩
    have := h0 k
    simp only [List.foldl_nil, ofV]
    omega
  | cons d r ih =>
    intro m h
    simp only [List.foldl_cons]
    by_cases hg : goodD d = true
    · have hd := goodD_iff.1 hg
      have e : toldStep m d = AL.set m d.dev (max (AL.getZ m d.dev 0) d.n) := by simp [toldStep, hg]
      rw [e]
      obtain ⟨h1, h2, h3, h4⟩ := ih _ (AL.nodup_set h d.dev (max (AL.getZ m d.dev 0) d.n))
      refine ⟨h1, fun h0 k => ?_, ?_, fun k hk => ?_⟩
      · rw [h2 (fun q => by rw [AL.getZ_set]; have := h0 q; have := h0 d.dev; split <;> omega), AL.getZ_set]
        simp only [ofV]
        by_cases hk : d.dev = k
        · subst hk
          simp only [if_true, hg, and_self]
          omega
        · simp [hk]
      · have := AL.len_set m d.dev (max (AL.getZ m d.dev 0) d.n)
        simp only [List.length_cons]; omega
      · simp only [ofV]
        rcases h4 k hk with h5 | h5
        · rw [AL.keys_set] at h5
          split at h5
          · exact .inl h5
          · rcases List.mem_append.1 h5 with h5 | h5
            · exact .inl h5
            · right
              rw [List.mem_singleton.1 h5, if_pos ⟨rfl, hg⟩]
              omega
        · right; split <;> omega
    · have e : toldStep m d = m := by simp [toldStep, hg]
      rw [e]
      obtain ⟨h1, h2, h3, h4⟩ := ih m h
      have e2 : ∀ k, ofV (d :: r) k = ofV r k := fun k => by simp only [ofV]; rw [if_neg (fun hh => hg hh.2)]
      exact ⟨h1, fun h0 k => by rw [h2 h0, e2], by simp only [List.length_cons]; omega, fun k hk => by rw [e2]; exact h4 k hk⟩
theorem told_get (v : List TDot) (k : Int) : AL.getZ (toldM v) k 0 = ofV v k := by
  have := (told_gen v [] (by simp)).2.1 (fun _ => Int.le_refl _) k
  have h2 := ofV_range v k
  rw [toldM, this]
  show max 0 (ofV v k) = _
  omega
def cmpD (a b : TDot) : Int := if a = b then 0 else if ltDot a b then -1 else 1
theorem r07_Cmp_eq (a b : TDot) : r07_Cmp a b = pure (cmpD a b) := by
  unfold r07_Cmp cmpD
  have h1 : (decide (a.dev = b.dev) && decide (a.n = b.n)) = decide (a = b) := by
    rw [Bool.eq_iff_iff]; cases a; cases b; simp
  have h2 : (cond (decide (a.dev < b.dev)) (pure true) (cond (decide (a.dev = b.dev)) (pure (decide (a.n < b.n))) (pure false)) : M Bool) = pure (ltDot a b) := by
    rw [cond_pure_and, cond_pure_or]; rfl
  rw [h1, h2, cond_dec, pure_bind]
  split
  · rfl
  · cases ltDot a b <;> rfl
theorem cmpD_neg {a b : TDot} : cmpD a b < 0 ↔ ltDot a b = true := by
  unfold cmpD
  split
  · rename_i h; subst h; simp [ltDot]
  · split <;> simp_all
theorem cmpD_pos {a b : TDot} : 0 < cmpD a b ↔ ltDot b a = true := by
  unfold cmpD
  by_cases h : a = b
  · subst h; simp [ltDot]
  · rw [if_neg h]
    cases a; cases b
    simp only [TDot.mk.injEq] at h
    simp only [ltDot, Bool.or_eq_true, Bool.and_eq_true, decide_eq_true_eq]
    split <;> omega
theorem r07_Put_eq (l : List TDot) (d : TDot) (h : l.length ≤ 1000000000000) : r07_Put l d = pure ((l.filter fun x => ltDot x d) ++ [d] ++ (l.filter fun x => ltDot d x)) := by
  unfold r07_Put
  have c0 : ∀ o : List TDot, o.length ≤ 1000000000000 → True := fun _ _ => trivial
  have h1 := loopL (body := r07_Put_l0 l d) l (fun i (o : List TDot) => ((i : Int), o)) (fun o x => if ltDot x d then o ++ [x] else o) (fun o => pure o) (fun i o => o.length ≤ i) (fun i x o hx hi ho => by
    have h1 : decide ((i : Int) < (l.length : Int)) = true := by simpa using hi
    unfold r07_Put_l0
    simp only [h1, cond_true, idx_nat hx, pure_bind, r07_Cmp_eq, det_pure, wSucc (show i < 9223372036854775807 by omega), cond_dec, cmpD_neg]
    split
    · rw [need_true (by simp; omega)]; exact ⟨rfl, by simp; omega⟩
    · exact ⟨rfl, by omega⟩) (fun o _ => by unfold r07_Put_l0; simp [pure_bind]) [] (by simp)
  have h2 : ∀ o0 : List TDot, o0.length ≤ 1000000000001 → loop (r07_Put_l1 l d) (0, o0) = pure (l.foldl (fun o x => if ltDot d x then o ++ [x] else o) o0) := fun o0 ho0 => by
    have := loopL (body := r07_Put_l1 l d) l (fun i (o : List TDot) => ((i : Int), o)) (fun o x => if ltDot d x then o ++ [x] else o) (fun o => pure o) (fun i o => o.length ≤ o0.length + i) (fun i x o hx hi ho => by
      have h1 : decide ((i : Int) < (l.length : Int)) = true := by simpa using hi
      unfold r07_Put_l1
      simp only [h1, cond_true, idx_nat hx, pure_bind, r07_Cmp_eq, det_pure, wSucc (show i < 9223372036854775807 by omega), cond_dec, cmpD_pos]
      split
      · rw [need_true (by simp; omega)]; exact ⟨rfl, by simp; omega⟩
      · exact ⟨rfl, by omega⟩) (fun o _ => by unfold r07_Put_l1; simp [pure_bind]) o0 (by simp)
    exact this
  have hf : ∀ (p : TDot → Bool) (l o : List TDot), l.foldl (fun o x => if p x then o ++ [x] else o) o = o ++ l.filter p := by
    intro p l
    induction l with
    | nil => simp
    | cons x r ih =>
      intro o
      rw [List.foldl_cons, ih, List.filter_cons]
      split <;> simp
  rw [show ((0 : Int), ([] : List TDot)) = (((0 : Nat) : Int), []) from rfl, h1, hf, pure_bind, need_true, h2, hf, pure_bind]
  · rfl
  · have := List.length_filter_le (fun x => ltDot x d) l; simp; omega
  · have := List.length_filter_le (fun x => ltDot x d) l; simp; omega
/-- Dots with the number 1. -/
def ones (l : List Int) : List TDot := l.map fun k => ⟨k, 1⟩
theorem put_ones {l : List Int} (h : l.Pairwise (· < ·)) (k : Int) : ((ones l).filter fun x => ltDot x ⟨k, 1⟩) ++ [⟨k, 1⟩] ++ ((ones l).filter fun x => ltDot ⟨k, 1⟩ x) = ones (insI l k) := by
  induction l with
  | nil => rfl
  | cons a r ih =>
    obtain ⟨h1, h2⟩ := List.pairwise_cons.1 h
    have i2 := ih h2
    unfold insI
    by_cases c1 : k < a
    · rw [if_pos c1]
      have e1 : (ones (a :: r)).filter (fun x => ltDot x ⟨k, 1⟩) = [] := by
        rw [List.filter_eq_nil_iff]
        intro x hx
        simp only [ones, List.map_cons, List.mem_cons, List.mem_map] at hx
        rcases hx with rfl | ⟨b, hb, rfl⟩
        · simp [ltDot]; omega
        · have := h1 b hb; simp [ltDot]; omega
      have e2 : (ones (a :: r)).filter (fun x => ltDot ⟨k, 1⟩ x) = ones (a :: r) := by
        rw [List.filter_eq_self]
        intro x hx
        simp only [ones, List.map_cons, List.mem_cons, List.mem_map] at hx
        rcases hx with rfl | ⟨b, hb, rfl⟩
        · simp [ltDot]; omega
        · have := h1 b hb; simp [ltDot]; omega
      rw [e1, e2]; rfl
    · rw [if_neg c1]
      by_cases c2 : k = a
      · subst c2
        rw [if_pos rfl]
        have e1 : (ones (k :: r)).filter (fun x => ltDot x ⟨k, 1⟩) = [] := by
          rw [List.filter_eq_nil_iff]
          intro x hx
          simp only [ones, List.map_cons, List.mem_cons, List.mem_map] at hx
          rcases hx with rfl | ⟨b, hb, rfl⟩
          · simp [ltDot]
          · have := h1 b hb; simp [ltDot]; omega
        have e2 : (ones (k :: r)).filter (fun x => ltDot ⟨k, 1⟩ x) = ones r := by
          show List.filter _ (⟨k, 1⟩ :: ones r) = _
          rw [List.filter_cons, if_neg (by simp [ltDot]), List.filter_eq_self]
          intro x hx
          simp only [ones, List.mem_map] at hx
          obtain ⟨b, hb, rfl⟩ := hx
          have := h1 b hb; simp [ltDot]; omega
        rw [e1, e2]; rfl
      · rw [if_neg c2]
        show (List.filter _ (⟨a, 1⟩ :: ones r)) ++ _ ++ (List.filter _ (⟨a, 1⟩ :: ones r)) = ⟨a, 1⟩ :: ones (insI r k)
        rw [List.filter_cons, if_pos (by simp [ltDot]; omega), List.filter_cons, if_neg (by simp [ltDot]; omega), ← i2]
        rfl
end Go.Ep.M.V


/- Walks: written by program. -/
import Derived.Test.YtacnidaafcfgiaaDFc
import Derived.Test.YtacnidaafcfgiaaDSh
import Derived.Test.YtacnidaafcfgiaaDSx
import Derived.Test.YtacnidaafcfgiaaTl
import Derived.Test.YtacnidaafcfgiaaSr
import Derived.Test.YtacnidaafcfgiaaDr
import Derived.Test.YtacnidaafcfgiaaOb
import Derived.Test.YtacnidaafcfgiaaOe
import Derived.Test.YtacnidaafcfgiaaLs
import Derived.Test.YtacnidaafcfgiaaTl
import Derived.Test.YtacnidaafcfgiaaStr
import Derived.Test.YtacnidaafcfgiaaPc
import Derived.Test.YtacnidaafcfgiaaDW5
namespace Go.Proofs
open Go.Ep
set_option maxHeartbeats 1000000
set_option maxRecDepth 100000
set_option linter.unusedVariables false
set_option linter.unusedSimpArgs false


theorem r09_Runs_ok (c1 : List TPart) (dev2 : Int) (r0 : List TRun) (h : (r09_Runs c1 dev2).wp (· = r0)) : PFun Try.prog 22 [.d (.sl (List.map TPart.e c1)), .d (.v (.int .u16 dev2))] (.d (.sl (List.map TRun.e r0))) := by
  refine PFun.intro (sl := [(0, _), (1, _)]) Try.func22 rfl Try.ntmps22 rfl rfl ?_
  intro ctx hK
  refine PWc.seq ?_
  refine PWc.region ?_
  refine PWl.step (LR.assignNilRow 114 2 rfl) rfl ?_
  refine PWl.nil ?_
  refine PWc.seq ?_
  refine PWc.region ?_
  refine PWl.step (LR.assignNilRow 114 2 rfl) rfl ?_
  refine PWl.nil ?_
  refine PWc.seq ?_
  refine PWc.seq ?_
  refine PWc.region ?_
  refine PWl.step (LR.assign rfl) rfl ?_
  refine PWl.nil ?_
  refine PWc.jn (iBind h) (fun (out3 : List TRun) (_ : Unit) => ⟨32, [(5, .d (.sl (List.map TRun.e out3)))], []⟩) (fun h => ?_) ?_
  · refine PWc.block ?_
    refine PWc.loopM (fun (⟨out28, i29⟩ : List TRun × Int) (_ : Unit) => ⟨32, [(0, .d (.sl (List.map TPart.e c1))), (1, .d (.v (.int .u16 dev2))), (5, .d (.sl (List.map TRun.e out28))), (6, .d (.v (.int .i64 i29)))], []⟩) () h (Sub.trans (Sub.frz [5] hK rfl (by first | (simp; done) | (simp; omega) | omega) (AllRow.get (.cons rfl <| .nil))) <| Sub.of rfl (.cons rfl rfl <| .cons rfl rfl <| .cons rfl rfl <| .cons rfl rfl <| .nil) (.nil)) ?_
    rintro N ⟨out28, i29⟩ _ h
    refine PWc.seq ?_
    refine PWc.seq ?_
    refine PWc.region ?_
    refine PWl.step (LR.move rfl) rfl ?_
    refine PWl.step (LR.move rfl) rfl ?_
    refine PWl.step (LR.lenMap (enc := TPart.e) (L := c1) Try.underlying24 rfl) rfl ?_
    refine PWl.step (LR.lss rfl rfl) rfl ?_
    refine PWl.nil ?_
    refine PWc.cond rfl (fun hc30 => ?_) (fun hc30 => ?_)
    · replace h := iT hc30 h
      refine PWc.skip ?_
      refine PWc.seq ?_
      refine PWc.jn (iBind h) (fun (out31 : List TRun) (_ : Unit) => ⟨32, [(0, .d (.sl (List.map TPart.e c1))), (1, .d (.v (.int .u16 dev2))), (5, .d (.sl (List.map TRun.e out31))), (6, .d (.v (.int .i64 i29)))], []⟩) (fun h => ?_) ?_
      · refine PWc.block ?_
        refine PWc.seq ?_
        refine PWc.jn (iBind h) (fun (v32 : Bool) (_ : Unit) => ⟨32, [(0, .d (.sl (List.map TPart.e c1))), (1, .d (.v (.int .u16 dev2))), (5, .d (.sl (List.map TRun.e out28))), (6, .d (.v (.int .i64 i29))), (23, .d (.v (.bool v32)))], []⟩) (fun h => ?_) ?_
        · refine PWc.region ?_
          refine PWl.step (LR.move rfl) rfl ?_
          refine PWl.step (LR.move rfl) rfl ?_
          replace h := iIdx h
          obtain ⟨x33, hy34, h⟩ := h
          refine PWl.step (LR.idxT (enc := TPart.e) (L := c1) (y := x33) Try.underlying24 Try.sizeOf101 rfl rfl hy34 (fun _ => rfl)) rfl ?_
          refine PWl.step (LR.fieldEp Try.underlying101 rfl Try.sizeOf28 (by decide) rfl rfl) rfl ?_
          refine PWl.step (LR.loadEp Try.isAgg28 rfl rfl) rfl ?_
          refine PWl.step (LR.move rfl) rfl ?_
          refine PWl.step (LR.eql rfl rfl) rfl ?_
          refine PWl.step (LR.move rfl) rfl ?_
          refine PWl.split (d := 20) rfl (fun hg35 => ?_) (fun hg35 => ?_)
          · replace h := iT hg35 h
            refine PWl.guardT (LR.move rfl) rfl rfl rfl ?_
            refine PWl.guardT (LR.neq rfl rfl) rfl rfl rfl ?_
            refine PWl.step (LR.pickT rfl rfl) rfl ?_
            refine PWl.nil ?_
            exact ⟨(!decide (dev2 = 0)), (), h, Sub.of rfl (.cons rfl rfl <| .cons rfl rfl <| .cons rfl rfl <| .cons rfl rfl <| .cons rfl rfl <| .nil) (.nil)⟩
          · replace h := iF hg35 h
            refine PWl.guardF rfl rfl rfl (by decide) ?_
            refine PWl.guardF rfl rfl rfl (by decide) ?_
            refine PWl.step (LR.pickF rfl rfl) rfl ?_
            refine PWl.nil ?_
            exact ⟨false, (), h, Sub.of rfl (.cons rfl rfl <| .cons rfl rfl <| .cons rfl rfl <| .cons rfl rfl <| .cons rfl rfl <| .nil) (.nil)⟩
        · rintro v32 _ h
          refine PWc.cond rfl (fun hc36 => ?_) (fun hc36 => ?_)
          · replace h := iT hc36 h
            refine PWc.region ?_
            refine PWl.step (LR.move rfl) rfl ?_
            refine PWl.step (LR.move rfl) rfl ?_
            refine PWl.step (LR.move rfl) rfl ?_
            replace h := iIdx h
            obtain ⟨x37, hy38, h⟩ := h
            refine PWl.step (LR.idxT (enc := TPart.e) (L := c1) (y := x37) Try.underlying24 Try.sizeOf101 rfl rfl hy38 (fun _ => rfl)) rfl ?_
            refine PWl.step (LR.fieldEp Try.underlying101 rfl Try.sizeOf34 (by decide) rfl rfl) rfl ?_
            refine PWl.step (LR.loadEp Try.isAgg34 rfl rfl) rfl ?_
            replace h := iDet h
            obtain ⟨v39, hy40, h⟩ := h
            refine PWl.step (LR.rowN (r06_Join_ok out28 x37.runs v39 hy40) rfl Try.call73 rfl rfl rfl rfl) rfl ?_
            refine PWl.step (LR.assign rfl) rfl ?_
            refine PWl.nil ?_
            exact ⟨v39, (), h, Sub.trans (Sub.frz [5, 30] hK rfl (by simp) (AllRow.get (.cons rfl <| .cons rfl <| .nil))) <| Sub.of rfl (.cons rfl rfl <| .cons rfl rfl <| .cons rfl rfl <| .cons rfl rfl <| .nil) (.nil)⟩
          · replace h := iF hc36 h
            refine PWc.skip ?_
            exact ⟨out28, (), h, Sub.of rfl (.cons rfl rfl <| .cons rfl rfl <| .cons rfl rfl <| .cons rfl rfl <| .nil) (.nil)⟩
      · rintro out31 _ h
        refine PWc.region ?_
        refine PWl.step (LR.move rfl) rfl ?_
        refine PWl.step (LR.addW rfl rfl) rfl ?_
        refine PWl.step (LR.assign rfl) rfl ?_
        refine PWl.nil ?_
        exact ⟨(out31, (IntKind.i64.wrap (i29 + 1))), (), h, Sub.of rfl (.cons rfl rfl <| .cons rfl rfl <| .cons rfl rfl <| .cons rfl rfl <| .nil) (.nil)⟩
    · replace h := iF hc30 h
      refine PWc.exit ?_
      exact ⟨out28, (), h, Sub.of rfl (.cons rfl rfl <| .nil) (.nil)⟩
  · rintro out3 _ h
    refine PWc.seq ?_
    refine PWc.region ?_
    refine PWl.step (LR.move rfl) rfl ?_
    refine PWl.step (LR.assign rfl) rfl ?_
    refine PWl.nil ?_
    refine PWc.ret ?_
    replace h : _ = r0 := h
    subst h
    exact ⟨.inr rfl, _, .cons (.tmp rfl rfl) <| .nil, rfl⟩

theorem r07_Good_ok (d1 : TDot) (r0 : Bool) (h : (r07_Good d1).wp (· = r0)) : PFun Try.prog 75 [.agg (List.map .d (TDot.e d1))] (.d (.v (.bool r0))) := by
  refine PFun.intro (sl := [(0, _)]) Try.func75 rfl Try.ntmps75 rfl rfl ?_
  intro ctx hK
  refine PWc.seq ?_
  refine PWc.region ?_
  refine PWl.step (LR.box rfl rfl rfl rfl) rfl ?_
  refine PWl.step (LR.assign rfl) rfl ?_
  refine PWl.nil ?_
  refine PWc.seq ?_
  refine PWc.jn (iBind h) (fun (v2 : Bool) (_ : Unit) => ⟨16, [(2, .d (.v (.bool v2)))], []⟩) (fun h => ?_) ?_
  · refine PWc.region ?_
    refine PWl.step (LR.fieldRef Try.underlying38 rfl Try.sizeOf28 (by decide) rfl rfl) rfl ?_
    refine PWl.step (LR.loadRef Try.isAgg28 rfl rfl rfl) rfl ?_
    refine PWl.step (LR.geq rfl rfl) rfl ?_
    refine PWl.step (LR.move rfl) rfl ?_
    refine PWl.split (d := 6) rfl (fun hg3 => ?_) (fun hg3 => ?_)
    · replace h := iT hg3 h
      refine PWl.guardT (LR.fieldRef Try.underlying38 rfl Try.sizeOf36 (by decide) rfl rfl) rfl rfl rfl ?_
      refine PWl.guardT (LR.loadRef Try.isAgg36 rfl rfl rfl) rfl rfl rfl ?_
      refine PWl.guardT (LR.geq rfl rfl) rfl rfl rfl ?_
      refine PWl.step (LR.pickT rfl rfl) rfl ?_
      refine PWl.step (LR.move rfl) rfl ?_
      refine PWl.split (d := 11) rfl (fun hg4 => ?_) (fun hg4 => ?_)
      · replace h := iT hg4 h
        refine PWl.guardT (LR.fieldRef Try.underlying38 rfl Try.sizeOf36 (by decide) rfl rfl) rfl rfl rfl ?_
        refine PWl.guardT (LR.loadRef Try.isAgg36 rfl rfl rfl) rfl rfl rfl ?_
        refine PWl.guardT (LR.lss rfl rfl) rfl rfl rfl ?_
        refine PWl.step (LR.pickT rfl rfl) rfl ?_
        refine PWl.step (LR.assign rfl) rfl ?_
        refine PWl.nil ?_
        exact ⟨(decide (d1.n < 281474976710656)), (), h, Sub.of rfl (.cons rfl rfl <| .nil) (.nil)⟩
      · replace h := iF hg4 h
        refine PWl.guardF rfl rfl rfl (by decide) ?_
        refine PWl.guardF rfl rfl rfl (by decide) ?_
        refine PWl.guardF rfl rfl rfl (by decide) ?_
        refine PWl.step (LR.pickF rfl rfl) rfl ?_
        refine PWl.step (LR.assign rfl) rfl ?_
        refine PWl.nil ?_
        exact ⟨false, (), h, Sub.of rfl (.cons rfl rfl <| .nil) (.nil)⟩
    · replace h := iF hg3 h
      refine PWl.guardF rfl rfl rfl (by decide) ?_
      refine PWl.guardF rfl rfl rfl (by decide) ?_
      refine PWl.guardF rfl rfl rfl (by decide) ?_
      refine PWl.step (LR.pickF rfl rfl) rfl ?_
      refine PWl.step (LR.move rfl) rfl ?_
      refine PWl.guardF rfl rfl rfl (by decide) ?_
      refine PWl.guardF rfl rfl rfl (by decide) ?_
      refine PWl.guardF rfl rfl rfl (by decide) ?_
      refine PWl.step (LR.pickF rfl rfl) rfl ?_
      refine PWl.step (LR.assign rfl) rfl ?_
      refine PWl.nil ?_
      exact ⟨false, (), h, Sub.of rfl (.cons rfl rfl <| .nil) (.nil)⟩
  · rintro v2 _ h
    refine PWc.ret ?_
    replace h : _ = r0 := h
    subst h
    exact ⟨.inr rfl, _, .cons (.tmp rfl rfl) <| .nil, rfl⟩

theorem r09_Has_ok (c1 : List TPart) (d2 : TDot) (r0 : Bool) (h : (r09_Has c1 d2).wp (· = r0)) : PFun Try.prog 24 [.d (.sl (List.map TPart.e c1)), .agg (List.map .d (TDot.e d2))] (.d (.v (.bool r0))) := by
  refine PFun.intro (sl := [(0, _), (1, _)]) Try.func24 rfl Try.ntmps24 rfl rfl ?_
  intro ctx hK
  refine PWc.seq ?_
  refine PWc.region ?_
  refine PWl.step (LR.box rfl rfl rfl rfl) rfl ?_
  refine PWl.step (LR.assign rfl) rfl ?_
  refine PWl.nil ?_
  refine PWc.seq ?_
  refine PWc.jn (iBind h) (fun (v3 : Bool) (_ : Unit) => ⟨16, [(4, .d (.v (.bool v3)))], []⟩) (fun h => ?_) ?_
  · refine PWc.regionD (by kernel_rfl) (by kernel_rfl) ?_
    refine PQl.step (fun _ he ho => LR.loadRefAgg (ps := [_, _]) Try.isAgg38 Try.sizeOf38 (he rfl rfl) (ho rfl) rfl rfl) rfl ?_
    replace h := iDet h
    obtain ⟨v4, hy5, h⟩ := h
    refine PQl.step (fun _ he ho => LR.callN (r07_Good_ok d2 v4 hy5) (he rfl rfl) Try.call75 (evsE he rfl rfl) rfl rfl rfl) rfl ?_
    refine PQl.step (fun _ he ho => LR.move (he rfl rfl)) rfl ?_
    refine PQl.split (d := 7) rfl (fun hg6 => ?_) (fun hg6 => ?_)
    · replace h := iT hg6 h
      refine PQl.guardT (fun _ he ho => LR.move (he rfl rfl)) rfl rfl rfl ?_
      refine PQl.guardT (fun _ he ho => LR.fieldRef Try.underlying38 rfl Try.sizeOf28 (by decide) rfl (he rfl rfl)) rfl rfl rfl ?_
      refine PQl.guardT (fun _ he ho => LR.loadRef Try.isAgg28 (he rfl rfl) (ho rfl) rfl) rfl rfl rfl ?_
      replace h := iDet h
      obtain ⟨v7, hy8, h⟩ := h
      refine PQl.guardT (fun _ he ho => LR.callN (r09_Runs_ok c1 d2.dev v7 hy8) (he rfl rfl) Try.call22 (evsE he rfl rfl) rfl rfl rfl) rfl rfl rfl ?_
      refine PQl.guardT (fun _ he ho => LR.fieldRef Try.underlying38 rfl Try.sizeOf36 (by decide) rfl (he rfl rfl)) rfl rfl rfl ?_
      refine PQl.guardT (fun _ he ho => LR.loadRef Try.isAgg36 (he rfl rfl) (ho rfl) rfl) rfl rfl rfl ?_
      replace h := iDet h
      obtain ⟨v9, hy10, h⟩ := h
      refine PQl.guardT (fun _ he ho => LR.callN (r06_Has_ok v7 d2.n v9 hy10) (he rfl rfl) Try.call80 (evsE he rfl rfl) rfl rfl rfl) rfl rfl rfl ?_
      refine PQl.step (fun _ he ho => LR.pickT (he rfl rfl) (he rfl rfl)) rfl ?_
      refine PQl.step (fun _ he ho => LR.assign (he rfl rfl)) rfl ?_
      refine PQl.nil ?_
      exact ⟨v9, (), h, Sub.of rfl (.cons rfl rfl <| .nil) (.nil)⟩
    · replace h := iF hg6 h
      refine PQl.guardF rfl rfl rfl (by decide) ?_
      refine PQl.guardF rfl rfl rfl (by decide) ?_
      refine PQl.guardF rfl rfl rfl (by decide) ?_
      refine PQl.guardF rfl rfl rfl (by decide) ?_
      refine PQl.guardF rfl rfl rfl (by decide) ?_
      refine PQl.guardF rfl rfl rfl (by decide) ?_
      refine PQl.guardF rfl rfl rfl (by decide) ?_
      refine PQl.step (fun _ he ho => LR.pickF (he rfl rfl) (he rfl rfl)) rfl ?_
      refine PQl.step (fun _ he ho => LR.assign (he rfl rfl)) rfl ?_
      refine PQl.nil ?_
      exact ⟨false, (), h, Sub.of rfl (.cons rfl rfl <| .nil) (.nil)⟩
  · rintro v3 _ h
    refine PWc.ret ?_
    replace h : _ = r0 := h
    subst h
    exact ⟨.inr rfl, _, .cons (.tmp rfl rfl) <| .nil, rfl⟩

theorem r07_Cmp_ok (a1 : TDot) (b2 : TDot) (r0 : Int) (h : (r07_Cmp a1 b2).wp (· = r0)) : PFun Try.prog 110 [.agg (List.map .d (TDot.e a1)), .agg (List.map .d (TDot.e b2))] (.d (.v (.int .i64 r0))) := by
  refine PFun.intro (sl := [(0, _), (1, _)]) Try.func110 rfl Try.ntmps110 rfl rfl ?_
  intro ctx hK
  refine PWc.seq ?_
  refine PWc.region ?_
  refine PWl.step (LR.box rfl rfl rfl rfl) rfl ?_
  refine PWl.step (LR.box rfl rfl rfl rfl) rfl ?_
  refine PWl.step (LR.assign rfl) rfl ?_
  refine PWl.nil ?_
  refine PWc.seq ?_
  refine PWc.seq ?_
  refine PWc.region ?_
  refine PWl.step (LR.loadRefAgg (ps := [_, _]) Try.isAgg38 Try.sizeOf38 rfl rfl rfl rfl) rfl ?_
  refine PWl.step (LR.loadRefAgg (ps := [_, _]) Try.isAgg38 Try.sizeOf38 rfl rfl rfl rfl) rfl ?_
  refine PWl.step (LR.eqlAgg rfl rfl rfl rfl eq38) rfl ?_
  refine PWl.nil ?_
  refine PWc.cond rfl (fun hc3 => ?_) (fun hc3 => ?_)
  · replace h := iT hc3 h
    refine PWc.seq ?_
    refine PWc.region ?_
    refine PWl.step (LR.assign rfl) rfl ?_
    refine PWl.nil ?_
    refine PWc.ret ?_
    replace h : _ = r0 := h
    subst h
    exact ⟨.inr rfl, _, .cons (.tmp rfl rfl) <| .nil, rfl⟩
  · replace h := iF hc3 h
    refine PWc.skip ?_
    refine PWc.seq ?_
    refine PWc.seq ?_
    refine PWc.jn (iBind h) (fun (v4 : Bool) (_ : Unit) => ⟨27, [(26, .d (.v (.bool v4)))], []⟩) (fun h => ?_) ?_
    · refine PWc.region ?_
      refine PWl.step (LR.fieldRef Try.underlying38 rfl Try.sizeOf28 (by decide) rfl rfl) rfl ?_
      refine PWl.step (LR.loadRef Try.isAgg28 rfl rfl rfl) rfl ?_
      refine PWl.step (LR.fieldRef Try.underlying38 rfl Try.sizeOf28 (by decide) rfl rfl) rfl ?_
      refine PWl.step (LR.loadRef Try.isAgg28 rfl rfl rfl) rfl ?_
      refine PWl.step (LR.lss rfl rfl) rfl ?_
      refine PWl.step (LR.move rfl) rfl ?_
      refine PWl.split (d := 13) rfl (fun hg5 => ?_) (fun hg5 => ?_)
      · replace h := iT hg5 h
        refine PWl.guardF rfl rfl rfl (by decide) ?_
        refine PWl.guardF rfl rfl rfl (by decide) ?_
        refine PWl.guardF rfl rfl rfl (by decide) ?_
        refine PWl.guardF rfl rfl rfl (by decide) ?_
        refine PWl.guardF rfl rfl rfl (by decide) ?_
        refine PWl.guardF rfl rfl rfl (by decide) ?_
        refine PWl.re (tl := [(2, _), (3, _), (13, _), (19, _)]) (to := [(2, _), (3, _)]) rfl (.cons rfl rfl <| .cons rfl rfl <| .cons rfl rfl <| .cons rfl rfl <| .nil) (.cons rfl rfl <| .cons rfl rfl <| .nil) ?_
        refine PWl.guardU rfl rfl rfl ?_
        refine PWl.guardU rfl rfl rfl ?_
        refine PWl.guardU rfl rfl rfl ?_
        refine PWl.guardU rfl rfl rfl ?_
        refine PWl.guardU rfl rfl rfl ?_
        refine PWl.guardF rfl rfl rfl (by decide) ?_
        refine PWl.step (LR.pickT rfl rfl) rfl ?_
        refine PWl.nil ?_
        exact ⟨true, (), h, Sub.of rfl (.cons rfl rfl <| .nil) (.nil)⟩
      · replace h := iF hg5 h
        refine PWl.guardT (LR.fieldRef Try.underlying38 rfl Try.sizeOf28 (by decide) rfl rfl) rfl rfl rfl ?_
        refine PWl.guardT (LR.loadRef Try.isAgg28 rfl rfl rfl) rfl rfl rfl ?_
        refine PWl.guardT (LR.fieldRef Try.underlying38 rfl Try.sizeOf28 (by decide) rfl rfl) rfl rfl rfl ?_
        refine PWl.guardT (LR.loadRef Try.isAgg28 rfl rfl rfl) rfl rfl rfl ?_
        refine PWl.guardT (LR.eql rfl rfl) rfl rfl rfl ?_
        refine PWl.guardT (LR.move rfl) rfl rfl rfl ?_
        refine PWl.re (tl := [(2, _), (3, _), (13, _), (19, _)]) (to := [(2, _), (3, _)]) rfl (.cons rfl rfl <| .cons rfl rfl <| .cons rfl rfl <| .cons rfl rfl <| .nil) (.cons rfl rfl <| .cons rfl rfl <| .nil) ?_
        refine PWl.split (d := 19) rfl (fun hg6 => ?_) (fun hg6 => ?_)
        · replace h := iT hg6 h
          refine PWl.guardT (LR.fieldRef Try.underlying38 rfl Try.sizeOf36 (by decide) rfl rfl) rfl rfl rfl ?_
          refine PWl.guardT (LR.loadRef Try.isAgg36 rfl rfl rfl) rfl rfl rfl ?_
          refine PWl.guardT (LR.fieldRef Try.underlying38 rfl Try.sizeOf36 (by decide) rfl rfl) rfl rfl rfl ?_
          refine PWl.guardT (LR.loadRef Try.isAgg36 rfl rfl rfl) rfl rfl rfl ?_
          refine PWl.guardT (LR.lss rfl rfl) rfl rfl rfl ?_
          refine PWl.guardT (LR.pickT rfl rfl) rfl rfl rfl ?_
          refine PWl.step (LR.pickF rfl rfl) rfl ?_
          refine PWl.nil ?_
          exact ⟨(decide (a1.n < b2.n)), (), h, Sub.of rfl (.cons rfl rfl <| .nil) (.nil)⟩
        · replace h := iF hg6 h
          refine PWl.guardF rfl rfl rfl (by decide) ?_
          refine PWl.guardF rfl rfl rfl (by decide) ?_
          refine PWl.guardF rfl rfl rfl (by decide) ?_
          refine PWl.guardF rfl rfl rfl (by decide) ?_
          refine PWl.guardF rfl rfl rfl (by decide) ?_
          refine PWl.guardT (LR.pickF rfl rfl) rfl rfl rfl ?_
          refine PWl.step (LR.pickF rfl rfl) rfl ?_
          refine PWl.nil ?_
          exact ⟨false, (), h, Sub.of rfl (.cons rfl rfl <| .nil) (.nil)⟩
    · rintro v4 _ h
      refine PWc.cond rfl (fun hc7 => ?_) (fun hc7 => ?_)
      · replace h := iT hc7 h
        refine PWc.seq ?_
        refine PWc.region ?_
        refine PWl.step (LR.assign rfl) rfl ?_
        refine PWl.nil ?_
        refine PWc.ret ?_
        replace h : _ = r0 := h
        subst h
        exact ⟨.inr rfl, _, .cons (.tmp rfl rfl) <| .nil, rfl⟩
      · replace h := iF hc7 h
        refine PWc.skip ?_
        refine PWc.seq ?_
        refine PWc.region ?_
        refine PWl.step (LR.assign rfl) rfl ?_
        refine PWl.nil ?_
        refine PWc.ret ?_
        replace h : _ = r0 := h
        subst h
        exact ⟨.inr rfl, _, .cons (.tmp rfl rfl) <| .nil, rfl⟩

theorem r07_Put_ok (l1 : List TDot) (d2 : TDot) (r0 : List TDot) (h : (r07_Put l1 d2).wp (· = r0)) : PRow Try.prog 86 [.d (.sl (List.map TDot.e l1)), .agg (List.map .d (TDot.e d2))] 38 2 (List.map TDot.e r0) := by
  refine PRow.intro (sl := [(0, _), (1, _)]) Try.func86 rfl Try.ntmps86 rfl rfl ?_
  intro ctx hK
  refine PWc.seq ?_
  refine PWc.region ?_
  refine PWl.step (LR.box rfl rfl rfl rfl) rfl ?_
  refine PWl.step (LR.assignNilRow 38 2 rfl) rfl ?_
  refine PWl.nil ?_
  refine PWc.seq ?_
  refine PWc.region ?_
  refine PWl.step (LR.assignNilRow 38 2 rfl) rfl ?_
  refine PWl.nil ?_
  refine PWc.seq ?_
  refine PWc.seq ?_
  refine PWc.region ?_
  refine PWl.step (LR.assign rfl) rfl ?_
  refine PWl.nil ?_
  refine PWc.jn (iBind h) (fun (out3 : List TDot) (_ : Unit) => ⟨53, [(0, .d (.sl (List.map TDot.e l1))), (3, .ref 3 0), (5, .row 5 (List.length out3))], [(3, .cells 38 [.d (.v (.int .u16 d2.dev)), .d (.v (.int .u64 d2.n))]), (5, .row 38 2 (List.map TDot.e out3))]⟩) (fun h => ?_) ?_
  · refine PWc.block ?_
    refine PWc.loopM (fun (⟨i26, out27⟩ : Int × List TDot) (_ : Unit) => ⟨53, [(0, .d (.sl (List.map TDot.e l1))), (3, .ref 3 0), (5, .row 5 (List.length out27)), (6, .d (.v (.int .i64 i26)))], [(3, .cells 38 [.d (.v (.int .u16 d2.dev)), .d (.v (.int .u64 d2.n))]), (5, .row 38 2 (List.map TDot.e out27))]⟩) () h (Sub.of rfl (.cons rfl rfl <| .cons rfl rfl <| .cons rfl rfl <| .cons rfl rfl <| .nil) (.cons rfl rfl <| .cons rfl rfl <| .nil)) ?_
    rintro N ⟨i26, out27⟩ _ h
    refine PWc.seq ?_
    refine PWc.seq ?_
    refine PWc.region ?_
    refine PWl.step (LR.move rfl) rfl ?_
    refine PWl.step (LR.move rfl) rfl ?_
    refine PWl.step (LR.lenMap (enc := TDot.e) (L := l1) Try.underlying39 rfl) rfl ?_
    refine PWl.step (LR.lss rfl rfl) rfl ?_
    refine PWl.nil ?_
    refine PWc.cond rfl (fun hc28 => ?_) (fun hc28 => ?_)
    · replace h := iT hc28 h
      refine PWc.skip ?_
      refine PWc.seq ?_
      refine PWc.jn (iBind h) (fun (out29 : List TDot) (_ : Unit) => ⟨53, [(0, .d (.sl (List.map TDot.e l1))), (3, .ref 3 0), (5, .row 5 (List.length out29)), (6, .d (.v (.int .i64 i26)))], [(3, .cells 38 [.d (.v (.int .u16 d2.dev)), .d (.v (.int .u64 d2.n))]), (5, .row 38 2 (List.map TDot.e out29))]⟩) (fun h => ?_) ?_
      · refine PWc.block ?_
        refine PWc.seq ?_
        refine PWc.regionD (by kernel_rfl) (by kernel_rfl) ?_
        refine PQl.step (fun _ he ho => LR.move (he rfl rfl)) rfl ?_
        refine PQl.step (fun _ he ho => LR.move (he rfl rfl)) rfl ?_
        replace h := iIdx h
        obtain ⟨x30, hy31, h⟩ := h
        refine PQl.step (fun _ he ho => LR.idxT (enc := TDot.e) (L := l1) (y := x30) Try.underlying39 Try.sizeOf38 (he rfl rfl) (he rfl rfl) hy31 (fun _ => rfl)) rfl ?_
        refine PQl.step (fun _ he ho => LR.loadEpAgg (ys := [_, _]) Try.isAgg38 Try.sizeOf38 (he rfl rfl) rfl rfl) rfl ?_
        refine PQl.step (fun _ he ho => LR.loadRefAgg (ps := [_, _]) Try.isAgg38 Try.sizeOf38 (he rfl rfl) (ho rfl) rfl rfl) rfl ?_
        replace h := iDet h
        obtain ⟨v32, hy33, h⟩ := h
        refine PQl.step (fun _ he ho => LR.callN (r07_Cmp_ok x30 d2 v32 hy33) (he rfl rfl) Try.call110 (evsE he rfl rfl) rfl rfl rfl) rfl ?_
        refine PQl.step (fun _ he ho => LR.lss (he rfl rfl) (he rfl rfl)) rfl ?_
        refine PQl.nil ?_
        refine PWc.cond rfl (fun hc34 => ?_) (fun hc34 => ?_)
        · replace h := iT hc34 h
          refine PWc.region ?_
          refine PWl.step (LR.move rfl) rfl ?_
          refine PWl.step (LR.move rfl) rfl ?_
          refine PWl.step (LR.move rfl) rfl ?_
          replace h := iIdx h
          obtain ⟨x35, hy36, h⟩ := h
          refine PWl.step (LR.idxT (enc := TDot.e) (L := l1) (y := x35) Try.underlying39 Try.sizeOf38 rfl rfl hy36 (fun _ => rfl)) rfl ?_
          refine PWl.step (LR.loadEpAgg (ys := [_, _]) Try.isAgg38 Try.sizeOf38 rfl rfl rfl) rfl ?_
          refine PWl.step (LR.buildSliceD [.tmp 25] elem39 rfl rfl (.cons rfl rfl rfl <| .nil) (by decide) (by decide)) rfl ?_
          refine PWl.re (tl := [(0, _), (3, _), (5, _), (6, _), (21, _), (26, _)]) (to := [(3, _), (5, _)]) rfl (.cons rfl rfl <| .cons rfl rfl <| .cons rfl rfl <| .cons rfl rfl <| .cons rfl rfl <| .cons rfl rfl <| .nil) (.cons rfl rfl <| .cons rfl rfl <| .nil) ?_
          replace h := iNeed h
          obtain ⟨hy37, h⟩ := h
          refine PWl.step (LR.appT (enc := TDot.e) (L := out27) (R := [x35]) [5, 21] elem39 Try.underlying39 rfl rfl rfl (Src.slT (enc := TDot.e) (R := [x35]) rfl (fun _ => rfl)) (fun _ => rfl) hy37 rfl rfl) rfl ?_
          refine PWl.step (LR.assign rfl) rfl ?_
          refine PWl.nil ?_
          exact ⟨(out27 ++ [x35]), (), h, Sub.of rfl (.cons rfl rfl <| .cons rfl rfl <| .cons rfl rfl <| .cons rfl rfl <| .nil) (.cons rfl rfl <| .cons rfl rfl <| .nil)⟩
        · replace h := iF hc34 h
          refine PWc.skip ?_
          exact ⟨out27, (), h, Sub.of rfl (.cons rfl rfl <| .cons rfl rfl <| .cons rfl rfl <| .cons rfl rfl <| .nil) (.cons rfl rfl <| .cons rfl rfl <| .nil)⟩
      · rintro out29 _ h
        refine PWc.region ?_
        refine PWl.step (LR.move rfl) rfl ?_
        refine PWl.step (LR.addW rfl rfl) rfl ?_
        refine PWl.step (LR.assign rfl) rfl ?_
        refine PWl.nil ?_
        exact ⟨((IntKind.i64.wrap (i26 + 1)), out29), (), h, Sub.of rfl (.cons rfl rfl <| .cons rfl rfl <| .cons rfl rfl <| .cons rfl rfl <| .nil) (.cons rfl rfl <| .cons rfl rfl <| .nil)⟩
    · replace h := iF hc28 h
      refine PWc.exit ?_
      exact ⟨out27, (), h, Sub.of rfl (.cons rfl rfl <| .cons rfl rfl <| .cons rfl rfl <| .nil) (.cons rfl rfl <| .cons rfl rfl <| .nil)⟩
  · rintro out3 _ h
    refine PWc.seq ?_
    refine PWc.region ?_
    refine PWl.step (LR.move rfl) rfl ?_
    refine PWl.step (LR.loadRefAgg (ps := [_, _]) Try.isAgg38 Try.sizeOf38 rfl rfl rfl rfl) rfl ?_
    refine PWl.step (LR.buildSliceD [.tmp 29] elem39 rfl rfl (.cons rfl rfl rfl <| .nil) (by decide) (by decide)) rfl ?_
    replace h := iNeed h
    obtain ⟨hy38, h⟩ := h
    refine PWl.step (LR.appT (enc := TDot.e) (L := out3) (R := [d2]) [5, 28] elem39 Try.underlying39 rfl rfl rfl (Src.slT (enc := TDot.e) (R := [d2]) rfl (fun _ => rfl)) (fun _ => rfl) hy38 rfl rfl) rfl ?_
    refine PWl.step (LR.assign rfl) rfl ?_
    refine PWl.nil ?_
    refine PWc.seq ?_
    refine PWc.seq ?_
    refine PWc.region ?_
    refine PWl.step (LR.assign rfl) rfl ?_
    refine PWl.nil ?_
    refine PWc.jn (iBind h) (fun (out39 : List TDot) (_ : Unit) => ⟨53, [(5, .row 5 (List.length out39))], [(5, .row 38 2 (List.map TDot.e out39))]⟩) (fun h => ?_) ?_
    · refine PWc.block ?_
      refine PWc.loopM (fun (⟨i62, out63⟩ : Int × List TDot) (_ : Unit) => ⟨53, [(0, .d (.sl (List.map TDot.e l1))), (3, .ref 3 0), (5, .row 5 (List.length out63)), (7, .d (.v (.int .i64 i62)))], [(3, .cells 38 [.d (.v (.int .u16 d2.dev)), .d (.v (.int .u64 d2.n))]), (5, .row 38 2 (List.map TDot.e out63))]⟩) () h (Sub.of rfl (.cons rfl rfl <| .cons rfl rfl <| .cons rfl rfl <| .cons rfl rfl <| .nil) (.cons rfl rfl <| .cons rfl rfl <| .nil)) ?_
      rintro N ⟨i62, out63⟩ _ h
      refine PWc.seq ?_
      refine PWc.seq ?_
      refine PWc.region ?_
      refine PWl.step (LR.move rfl) rfl ?_
      refine PWl.step (LR.move rfl) rfl ?_
      refine PWl.step (LR.lenMap (enc := TDot.e) (L := l1) Try.underlying39 rfl) rfl ?_
      refine PWl.step (LR.lss rfl rfl) rfl ?_
      refine PWl.nil ?_
      refine PWc.cond rfl (fun hc64 => ?_) (fun hc64 => ?_)
      · replace h := iT hc64 h
        refine PWc.skip ?_
        refine PWc.seq ?_
        refine PWc.jn (iBind h) (fun (out65 : List TDot) (_ : Unit) => ⟨53, [(0, .d (.sl (List.map TDot.e l1))), (3, .ref 3 0), (5, .row 5 (List.length out65)), (7, .d (.v (.int .i64 i62)))], [(3, .cells 38 [.d (.v (.int .u16 d2.dev)), .d (.v (.int .u64 d2.n))]), (5, .row 38 2 (List.map TDot.e out65))]⟩) (fun h => ?_) ?_
        · refine PWc.block ?_
          refine PWc.seq ?_
          refine PWc.regionD (by kernel_rfl) (by kernel_rfl) ?_
          refine PQl.step (fun _ he ho => LR.move (he rfl rfl)) rfl ?_
          refine PQl.step (fun _ he ho => LR.move (he rfl rfl)) rfl ?_
          replace h := iIdx h
          obtain ⟨x66, hy67, h⟩ := h
          refine PQl.step (fun _ he ho => LR.idxT (enc := TDot.e) (L := l1) (y := x66) Try.underlying39 Try.sizeOf38 (he rfl rfl) (he rfl rfl) hy67 (fun _ => rfl)) rfl ?_
          refine PQl.step (fun _ he ho => LR.loadEpAgg (ys := [_, _]) Try.isAgg38 Try.sizeOf38 (he rfl rfl) rfl rfl) rfl ?_
          refine PQl.step (fun _ he ho => LR.loadRefAgg (ps := [_, _]) Try.isAgg38 Try.sizeOf38 (he rfl rfl) (ho rfl) rfl rfl) rfl ?_
          replace h := iDet h
          obtain ⟨v68, hy69, h⟩ := h
          refine PQl.step (fun _ he ho => LR.callN (r07_Cmp_ok x66 d2 v68 hy69) (he rfl rfl) Try.call110 (evsE he rfl rfl) rfl rfl rfl) rfl ?_
          refine PQl.step (fun _ he ho => LR.gtr (he rfl rfl) (he rfl rfl)) rfl ?_
          refine PQl.nil ?_
          refine PWc.cond rfl (fun hc70 => ?_) (fun hc70 => ?_)
          · replace h := iT hc70 h
            refine PWc.region ?_
            refine PWl.step (LR.move rfl) rfl ?_
            refine PWl.step (LR.move rfl) rfl ?_
            refine PWl.step (LR.move rfl) rfl ?_
            replace h := iIdx h
            obtain ⟨x71, hy72, h⟩ := h
            refine PWl.step (LR.idxT (enc := TDot.e) (L := l1) (y := x71) Try.underlying39 Try.sizeOf38 rfl rfl hy72 (fun _ => rfl)) rfl ?_
            refine PWl.step (LR.loadEpAgg (ys := [_, _]) Try.isAgg38 Try.sizeOf38 rfl rfl rfl) rfl ?_
            refine PWl.step (LR.buildSliceD [.tmp 49] elem39 rfl rfl (.cons rfl rfl rfl <| .nil) (by decide) (by decide)) rfl ?_
            refine PWl.re (tl := [(0, _), (3, _), (5, _), (7, _), (45, _), (50, _)]) (to := [(3, _), (5, _)]) rfl (.cons rfl rfl <| .cons rfl rfl <| .cons rfl rfl <| .cons rfl rfl <| .cons rfl rfl <| .cons rfl rfl <| .nil) (.cons rfl rfl <| .cons rfl rfl <| .nil) ?_
            replace h := iNeed h
            obtain ⟨hy73, h⟩ := h
            refine PWl.step (LR.appT (enc := TDot.e) (L := out63) (R := [x71]) [5, 45] elem39 Try.underlying39 rfl rfl rfl (Src.slT (enc := TDot.e) (R := [x71]) rfl (fun _ => rfl)) (fun _ => rfl) hy73 rfl rfl) rfl ?_
            refine PWl.step (LR.assign rfl) rfl ?_
            refine PWl.nil ?_
            exact ⟨(out63 ++ [x71]), (), h, Sub.of rfl (.cons rfl rfl <| .cons rfl rfl <| .cons rfl rfl <| .cons rfl rfl <| .nil) (.cons rfl rfl <| .cons rfl rfl <| .nil)⟩
          · replace h := iF hc70 h
            refine PWc.skip ?_
            exact ⟨out63, (), h, Sub.of rfl (.cons rfl rfl <| .cons rfl rfl <| .cons rfl rfl <| .cons rfl rfl <| .nil) (.cons rfl rfl <| .cons rfl rfl <| .nil)⟩
        · rintro out65 _ h
          refine PWc.region ?_
          refine PWl.step (LR.move rfl) rfl ?_
          refine PWl.step (LR.addW rfl rfl) rfl ?_
          refine PWl.step (LR.assign rfl) rfl ?_
          refine PWl.nil ?_
          exact ⟨((IntKind.i64.wrap (i62 + 1)), out65), (), h, Sub.of rfl (.cons rfl rfl <| .cons rfl rfl <| .cons rfl rfl <| .cons rfl rfl <| .nil) (.cons rfl rfl <| .cons rfl rfl <| .nil)⟩
      · replace h := iF hc64 h
        refine PWc.exit ?_
        exact ⟨out63, (), h, Sub.of rfl (.cons rfl rfl <| .nil) (.cons rfl rfl <| .nil)⟩
    · rintro out39 _ h
      refine PWc.seq ?_
      refine PWc.region ?_
      refine PWl.step (LR.move rfl) rfl ?_
      refine PWl.step (LR.assign rfl) rfl ?_
      refine PWl.nil ?_
      refine PWc.ret ?_
      replace h : _ = r0 := h
      subst h
      exact ⟨.inr rfl, 4, rfl, .inr ⟨5, _, rfl, (by simp), rfl⟩⟩

theorem r17_Keep_ok (l1 : List TDot) (c2 : List TPart) (r0 : List TDot) (h : (r17_Keep l1 c2).wp (· = r0)) : PFun Try.prog 72 [.d (.sl (List.map TDot.e l1)), .d (.sl (List.map TPart.e c2))] (.d (.sl (List.map TDot.e r0))) := by
  refine PFun.intro (sl := [(0, _), (1, _)]) Try.func72 rfl Try.ntmps72 rfl rfl ?_
  intro ctx hK
  refine PWc.seq ?_
  refine PWc.region ?_
  refine PWl.step (LR.assignNilRow 38 2 rfl) rfl ?_
  refine PWl.nil ?_
  refine PWc.seq ?_
  refine PWc.region ?_
  refine PWl.step (LR.assignNilRow 38 2 rfl) rfl ?_
  refine PWl.nil ?_
  refine PWc.seq ?_
  refine PWc.seq ?_
  refine PWc.region ?_
  refine PWl.step (LR.assign rfl) rfl ?_
  refine PWl.nil ?_
  refine PWc.jn (iBind h) (fun (out3 : List TDot) (_ : Unit) => ⟨26, [(5, .d (.sl (List.map TDot.e out3)))], []⟩) (fun h => ?_) ?_
  · refine PWc.block ?_
    refine PWc.loopM (fun (⟨out28, i29⟩ : List TDot × Int) (_ : Unit) => ⟨26, [(0, .d (.sl (List.map TDot.e l1))), (1, .d (.sl (List.map TPart.e c2))), (5, .d (.sl (List.map TDot.e out28))), (6, .d (.v (.int .i64 i29)))], []⟩) () h (Sub.trans (Sub.frz [5] hK rfl (by first | (simp; done) | (simp; omega) | omega) (AllRow.get (.cons rfl <| .nil))) <| Sub.of rfl (.cons rfl rfl <| .cons rfl rfl <| .cons rfl rfl <| .cons rfl rfl <| .nil) (.nil)) ?_
    rintro N ⟨out28, i29⟩ _ h
    refine PWc.seq ?_
    refine PWc.seq ?_
    refine PWc.region ?_
    refine PWl.step (LR.move rfl) rfl ?_
    refine PWl.step (LR.move rfl) rfl ?_
    refine PWl.step (LR.lenMap (enc := TDot.e) (L := l1) Try.underlying39 rfl) rfl ?_
    refine PWl.step (LR.lss rfl rfl) rfl ?_
    refine PWl.nil ?_
    refine PWc.cond rfl (fun hc30 => ?_) (fun hc30 => ?_)
    · replace h := iT hc30 h
      refine PWc.skip ?_
      refine PWc.seq ?_
      refine PWc.jn (iBind h) (fun (out31 : List TDot) (_ : Unit) => ⟨26, [(0, .d (.sl (List.map TDot.e l1))), (1, .d (.sl (List.map TPart.e c2))), (5, .d (.sl (List.map TDot.e out31))), (6, .d (.v (.int .i64 i29)))], []⟩) (fun h => ?_) ?_
      · refine PWc.block ?_
        refine PWc.seq ?_
        refine PWc.region ?_
        refine PWl.step (LR.move rfl) rfl ?_
        refine PWl.step (LR.move rfl) rfl ?_
        refine PWl.step (LR.move rfl) rfl ?_
        replace h := iIdx h
        obtain ⟨x32, hy33, h⟩ := h
        refine PWl.step (LR.idxT (enc := TDot.e) (L := l1) (y := x32) Try.underlying39 Try.sizeOf38 rfl rfl hy33 (fun _ => rfl)) rfl ?_
        refine PWl.step (LR.loadEpAgg (ys := [_, _]) Try.isAgg38 Try.sizeOf38 rfl rfl rfl) rfl ?_
        replace h := iDet h
        obtain ⟨v34, hy35, h⟩ := h
        refine PWl.step (LR.callN (r09_Has_ok c2 x32 v34 hy35) rfl Try.call24 rfl rfl rfl rfl) rfl ?_
        refine PWl.nil ?_
        refine PWc.cond rfl (fun hc36 => ?_) (fun hc36 => ?_)
        · replace h := iT hc36 h
          refine PWc.region ?_
          refine PWl.step (LR.move rfl) rfl ?_
          refine PWl.step (LR.move rfl) rfl ?_
          refine PWl.step (LR.move rfl) rfl ?_
          replace h := iIdx h
          obtain ⟨x37, hy38, h⟩ := h
          refine PWl.step (LR.idxT (enc := TDot.e) (L := l1) (y := x37) Try.underlying39 Try.sizeOf38 rfl rfl hy38 (fun _ => rfl)) rfl ?_
          refine PWl.step (LR.loadEpAgg (ys := [_, _]) Try.isAgg38 Try.sizeOf38 rfl rfl rfl) rfl ?_
          replace h := iDet h
          obtain ⟨v39, hy40, h⟩ := h
          refine PWl.step (LR.rowN (r07_Put_ok out28 x37 v39 hy40) rfl Try.call86 rfl rfl rfl rfl) rfl ?_
          refine PWl.step (LR.assign rfl) rfl ?_
          refine PWl.nil ?_
          exact ⟨v39, (), h, Sub.trans (Sub.frz [5, 24] hK rfl (by simp) (AllRow.get (.cons rfl <| .cons rfl <| .nil))) <| Sub.of rfl (.cons rfl rfl <| .cons rfl rfl <| .cons rfl rfl <| .cons rfl rfl <| .nil) (.nil)⟩
        · replace h := iF hc36 h
          refine PWc.skip ?_
          exact ⟨out28, (), h, Sub.of rfl (.cons rfl rfl <| .cons rfl rfl <| .cons rfl rfl <| .cons rfl rfl <| .nil) (.nil)⟩
      · rintro out31 _ h
        refine PWc.region ?_
        refine PWl.step (LR.move rfl) rfl ?_
        refine PWl.step (LR.addW rfl rfl) rfl ?_
        refine PWl.step (LR.assign rfl) rfl ?_
        refine PWl.nil ?_
        exact ⟨(out31, (IntKind.i64.wrap (i29 + 1))), (), h, Sub.of rfl (.cons rfl rfl <| .cons rfl rfl <| .cons rfl rfl <| .cons rfl rfl <| .nil) (.nil)⟩
    · replace h := iF hc30 h
      refine PWc.exit ?_
      exact ⟨out28, (), h, Sub.of rfl (.cons rfl rfl <| .nil) (.nil)⟩
  · rintro out3 _ h
    refine PWc.seq ?_
    refine PWc.region ?_
    refine PWl.step (LR.move rfl) rfl ?_
    refine PWl.step (LR.assign rfl) rfl ?_
    refine PWl.nil ?_
    refine PWc.ret ?_
    replace h : _ = r0 := h
    subst h
    exact ⟨.inr rfl, _, .cons (.tmp rfl rfl) <| .nil, rfl⟩
end Go.Proofs

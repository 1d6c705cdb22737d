/- Texts that the walks and laws lean on, side by side. -/
import Derived.Test.YtacnidaafcfgiaaMer2
import Derived.Test.YtacnidaafcfgiaaMer3
import Derived.Test.YtacnidaafcfgiaaMer4
import Derived.Test.YtacnidaafcfgiaaMer5
set_option linter.unusedVariables false
set_option linter.unusedSimpArgs false
namespace Go.Proofs
open Go.Ep
set_option maxHeartbeats 1000000
set_option maxRecDepth 100000
set_option linter.unusedVariables false
set_option linter.unusedSimpArgs false


theorem dot_Rising_ok (l1 : List TDot) (r0 : Bool) (h : (dot_Rising l1).wp (· = r0)) : PFun Try.prog 137 [.d (.sl (List.map TDot.e l1))] (.d (.v (.bool r0))) := by
  refine PFun.intro (sl := [(0, _)]) Try.func137 rfl Try.ntmps137 rfl rfl ?_
  intro ctx hK
  refine PWc.seq ?_
  refine PWc.region ?_
  refine PWl.step (LR.assign rfl) rfl ?_
  refine PWl.nil ?_
  refine PWc.seq ?_
  refine PWc.seq ?_
  refine PWc.region ?_
  refine PWl.step (LR.move rfl) rfl ?_
  refine PWl.step (LR.lenMap (enc := TDot.e) (L := l1) Try.underlying39 rfl) rfl ?_
  refine PWl.step (LR.move rfl) rfl ?_
  refine PWl.nil ?_
  refine PWc.jnX (iBind h) (fun (_ : Unit) (_ : Unit) => ⟨25, [], []⟩) (fun h => ?_) ?_
  · refine PWc.block ?_
    refine PWc.loopM (fun (v23 : Int) (_ : Unit) => ⟨25, [(0, .d (.sl (List.map TDot.e l1))), (5, .d (.v (.int .i64 (List.length l1 : Int)))), (6, .d (.v (.int .i64 v23)))], []⟩) () h (Sub.of rfl (.cons rfl rfl <| .cons rfl rfl <| .cons rfl rfl <| .nil) (.nil)) ?_
    rintro N v23 _ h
    refine PWc.seq ?_
    refine PWc.region ?_
    refine PWl.step (LR.lss rfl rfl) rfl ?_
    refine PWl.nil ?_
    refine PWc.seq ?_
    refine PWc.cond rfl (fun hc24 => ?_) (fun hc24 => ?_)
    · replace h := iT hc24 h
      refine PWc.skip ?_
      refine PWc.seq ?_
      refine PWc.block ?_
      refine PWc.seq ?_
      refine PWc.region ?_
      refine PWl.step (LR.move rfl) rfl ?_
      refine PWl.step (LR.assign rfl) rfl ?_
      refine PWl.nil ?_
      refine PWc.seq ?_
      refine PWc.jn (iBind h) (fun (v25 : Bool) (_ : Unit) => ⟨25, [(0, .d (.sl (List.map TDot.e l1))), (5, .d (.v (.int .i64 (List.length l1 : Int)))), (6, .d (.v (.int .i64 v23))), (23, .d (.v (.bool v25)))], []⟩) (fun h => ?_) ?_
      · refine PWc.regionD (by kernel_rfl) (by kernel_rfl) ?_
        refine PQl.step (fun _ he ho => LR.move (he rfl rfl)) rfl ?_
        refine PQl.step (fun _ he ho => LR.gtr (he rfl rfl) (he rfl rfl)) rfl ?_
        refine PQl.step (fun _ he ho => LR.move (he rfl rfl)) rfl ?_
        refine PQl.split (d := 11) rfl (fun hg26 => ?_) (fun hg26 => ?_)
        · replace h := iT hg26 h
          refine PQl.guardT (fun _ he ho => LR.move (he rfl rfl)) rfl rfl rfl ?_
          refine PQl.guardT (fun _ he ho => LR.move (he rfl rfl)) rfl rfl rfl ?_
          refine PQl.guardT (fun _ he ho => LR.subW (he rfl rfl) (he rfl rfl)) rfl rfl rfl ?_
          replace h := iIdx h
          obtain ⟨x27, hy28, h⟩ := h
          refine PQl.guardT (fun _ he ho => LR.idxT (enc := TDot.e) (L := l1) (y := x27) Try.underlying39 Try.sizeOf38 (he rfl rfl) (he rfl rfl) hy28 (fun _ => rfl)) rfl rfl rfl ?_
          refine PQl.guardT (fun _ he ho => LR.loadEpAgg (ys := [_, _]) Try.isAgg38 Try.sizeOf38 (he rfl rfl) rfl rfl) rfl rfl rfl ?_
          refine PQl.guardT (fun _ he ho => LR.move (he rfl rfl)) rfl rfl rfl ?_
          refine PQl.guardT (fun _ he ho => LR.move (he rfl rfl)) rfl rfl rfl ?_
          replace h := iIdx h
          obtain ⟨x29, hy30, h⟩ := h
          refine PQl.guardT (fun _ he ho => LR.idxT (enc := TDot.e) (L := l1) (y := x29) Try.underlying39 Try.sizeOf38 (he rfl rfl) (he rfl rfl) hy30 (fun _ => rfl)) rfl rfl rfl ?_
          refine PQl.guardT (fun _ he ho => LR.loadEpAgg (ys := [_, _]) Try.isAgg38 Try.sizeOf38 (he rfl rfl) rfl rfl) rfl rfl rfl ?_
          replace h := iDet h
          obtain ⟨v31, hy32, h⟩ := h
          refine PQl.guardT (fun _ he ho => LR.callN (dot_Cmp_ok x27 x29 v31 hy32) (he rfl rfl) Try.call107 (evsE he rfl rfl) rfl rfl rfl) rfl rfl rfl ?_
          refine PQl.guardT (fun _ he ho => LR.geq (he rfl rfl) (he rfl rfl)) rfl rfl rfl ?_
          refine PQl.step (fun _ he ho => LR.pickT (he rfl rfl) (he rfl rfl)) rfl ?_
          refine PQl.nil ?_
          exact ⟨(decide (0 ≤ v31)), (), h, Sub.of rfl (.cons rfl rfl <| .cons rfl rfl <| .cons rfl rfl <| .cons rfl rfl <| .nil) (.nil)⟩
        · replace h := iF hg26 h
          refine PQl.guardF rfl rfl rfl (by decide) ?_
          refine PQl.guardF rfl rfl rfl (by decide) ?_
          refine PQl.guardF rfl rfl rfl (by decide) ?_
          refine PQl.guardF rfl rfl rfl (by decide) ?_
          refine PQl.guardF rfl rfl rfl (by decide) ?_
          refine PQl.guardF rfl rfl rfl (by decide) ?_
          refine PQl.guardF rfl rfl rfl (by decide) ?_
          refine PQl.guardF rfl rfl rfl (by decide) ?_
          refine PQl.guardF rfl rfl rfl (by decide) ?_
          refine PQl.guardF rfl rfl rfl (by decide) ?_
          refine PQl.guardF rfl rfl rfl (by decide) ?_
          refine PQl.step (fun _ he ho => LR.pickF (he rfl rfl) (he rfl rfl)) rfl ?_
          refine PQl.nil ?_
          exact ⟨false, (), h, Sub.of rfl (.cons rfl rfl <| .cons rfl rfl <| .cons rfl rfl <| .cons rfl rfl <| .nil) (.nil)⟩
      · rintro v25 _ h
        refine PWc.cond rfl (fun hc33 => ?_) (fun hc33 => ?_)
        · replace h := iT hc33 h
          refine PWc.seq ?_
          refine PWc.region ?_
          refine PWl.step (LR.assign rfl) rfl ?_
          refine PWl.nil ?_
          refine PWc.ret ?_
          replace h : _ = r0 := h
          subst h
          exact ⟨.inr rfl, _, .cons (.tmp rfl rfl) <| .nil, rfl⟩
        · replace h := iF hc33 h
          refine PWc.skip ?_
          refine PWc.region ?_
          refine PWl.step (LR.addW rfl rfl) rfl ?_
          refine PWl.step (LR.move rfl) rfl ?_
          refine PWl.nil ?_
          exact ⟨(IntKind.i64.wrap (v23 + 1)), (), h, Sub.of rfl (.cons rfl rfl <| .cons rfl rfl <| .cons rfl rfl <| .nil) (.nil)⟩
    · replace h := iF hc24 h
      refine PWc.exit ?_
      exact ⟨(), (), h, Sub.of rfl (.nil) (.nil)⟩
  · rintro _ _ h
    refine PWc.seq ?_
    refine PWc.region ?_
    refine PWl.step (LR.assign rfl) rfl ?_
    refine PWl.nil ?_
    refine PWc.ret ?_
    replace h : _ = r0 := h
    subst h
    exact ⟨.inr rfl, _, .cons (.tmp rfl rfl) <| .nil, rfl⟩

theorem event_Good_ok (e1 : TEvent) (r0 : Bool) (h : (event_Good e1).wp (· = r0)) : PFun Try.prog 91 [.agg (List.map .d (TEvent.e e1))] (.d (.v (.bool r0))) := by
  refine PFun.intro (sl := [(0, _)]) Try.func91 rfl Try.ntmps91 rfl rfl ?_
  intro ctx hK
  refine PWc.seq ?_
  refine PWc.region ?_
  refine PWl.step (LR.box rfl rfl rfl rfl) rfl ?_
  refine PWl.step (LR.assign rfl) rfl ?_
  refine PWl.nil ?_
  refine PWc.seq ?_
  refine PWc.seq ?_
  refine PWc.region ?_
  refine PWl.step (LR.fieldRef Try.underlying41 rfl Try.sizeOf36 (by decide) rfl rfl) rfl ?_
  refine PWl.step (LR.loadRef Try.isAgg36 rfl rfl rfl) rfl ?_
  replace h := iDet h
  obtain ⟨v2, hy3, h⟩ := h
  refine PWl.step (LR.callN (dot_Unpack_ok e1.cid v2 hy3) rfl Try.call134 rfl rfl rfl rfl) rfl ?_
  refine PWl.step (LR.move rfl) rfl ?_
  refine PWl.step (LR.extract rfl rfl) rfl ?_
  refine PWl.step (LR.extract rfl rfl) rfl ?_
  refine PWl.step (LR.allocZ (cs := [_, _]) Try.zeroValue38 rfl rfl rfl rfl) rfl ?_
  refine PWl.step (LR.storeB (ns := [_, _]) Try.sizeOf38 rfl rfl rfl rfl rfl rfl rfl) rfl ?_
  refine PWl.step (LR.assign rfl) rfl ?_
  refine PWl.nil ?_
  refine PWc.seq ?_
  refine PWc.jn (iBind h) (fun (v4 : Bool) (_ : Unit) => ⟨72, [(1, .ref 1 0), (20, .d (.v (.bool v4)))], [(1, .cells 41 [.d (.v (.int .u16 e1.dot.dev)), .d (.v (.int .u64 e1.dot.n)), .d (.v (.int .u8 e1.kind)), .d (.v (.int .u64 e1.cid)), .d (.v (.int .u8 e1.field)), .d (.v (.string e1.text)), .d (.sl (List.map TDot.e e1.kills))])]⟩) (fun h => ?_) ?_
  · refine PWc.region ?_
    refine PWl.step (LR.move rfl) rfl ?_
    refine PWl.step (LR.not rfl) rfl ?_
    refine PWl.step (LR.move rfl) rfl ?_
    refine PWl.split (d := 15) rfl (fun hg5 => ?_) (fun hg5 => ?_)
    · replace h := iT hg5 h
      refine PWl.guardF rfl rfl rfl (by decide) ?_
      refine PWl.guardF rfl rfl rfl (by decide) ?_
      refine PWl.guardF rfl rfl rfl (by decide) ?_
      refine PWl.guardF rfl rfl rfl (by decide) ?_
      refine PWl.step (LR.pickT rfl rfl) rfl ?_
      refine PWl.nil ?_
      exact ⟨true, (), h, Sub.of rfl (.cons rfl rfl <| .cons rfl rfl <| .nil) (.cons rfl rfl <| .nil)⟩
    · replace h := iF hg5 h
      refine PWl.guardT (LR.fieldRef Try.underlying41 rfl Try.sizeOf38 (by decide) rfl rfl) rfl rfl rfl ?_
      refine PWl.guardT (LR.loadRefAgg (ps := [_, _]) Try.isAgg38 Try.sizeOf38 rfl rfl rfl rfl) rfl rfl rfl ?_
      replace h := iDet h
      obtain ⟨v6, hy7, h⟩ := h
      refine PWl.guardT (LR.callN (dot_Good_ok e1.dot v6 hy7) rfl Try.call82 rfl rfl rfl rfl) rfl rfl rfl ?_
      refine PWl.guardT (LR.not rfl) rfl rfl rfl ?_
      refine PWl.step (LR.pickF rfl rfl) rfl ?_
      refine PWl.nil ?_
      exact ⟨(!v6), (), h, Sub.of rfl (.cons rfl rfl <| .cons rfl rfl <| .nil) (.cons rfl rfl <| .nil)⟩
  · rintro v4 _ h
    refine PWc.cond rfl (fun hc8 => ?_) (fun hc8 => ?_)
    · replace h := iT hc8 h
      refine PWc.seq ?_
      refine PWc.region ?_
      refine PWl.step (LR.assign rfl) rfl ?_
      refine PWl.nil ?_
      refine PWc.ret ?_
      replace h : _ = r0 := h
      subst h
      exact ⟨.inr rfl, _, .cons (.tmp rfl rfl) <| .nil, rfl⟩
    · replace h := iF hc8 h
      refine PWc.skip ?_
      refine PWc.seq ?_
      refine PWc.seq ?_
      refine PWc.region ?_
      refine PWl.step (LR.fieldRef Try.underlying41 rfl Try.sizeOf5 (by decide) rfl rfl) rfl ?_
      refine PWl.step (LR.loadRef Try.isAgg5 rfl rfl rfl) rfl ?_
      refine PWl.nil ?_
      refine PWc.jnX (iBind h) (fun (_ : Unit) (_ : Unit) => ⟨72, [(1, .ref 1 0)], [(1, .cells 41 [.d (.v (.int .u16 e1.dot.dev)), .d (.v (.int .u64 e1.dot.n)), .d (.v (.int .u8 e1.kind)), .d (.v (.int .u64 e1.cid)), .d (.v (.int .u8 e1.field)), .d (.v (.string e1.text)), .d (.sl (List.map TDot.e e1.kills))])]⟩) (fun h => ?_) ?_
      · refine PWc.block ?_
        refine PWc.seq ?_
        refine PWc.region ?_
        refine PWl.step (LR.eql rfl rfl) rfl ?_
        refine PWl.step (LR.assign rfl) rfl ?_
        refine PWl.nil ?_
        refine PWc.cond rfl (fun hc9 => ?_) (fun hc9 => ?_)
        · replace h := iT hc9 h
          refine PWc.seq ?_
          refine PWc.jn (iBind h) (fun (v10 : Bool) (_ : Unit) => ⟨72, [(1, .ref 1 0), (34, .d (.v (.bool v10)))], [(1, .cells 41 [.d (.v (.int .u16 e1.dot.dev)), .d (.v (.int .u64 e1.dot.n)), .d (.v (.int .u8 e1.kind)), .d (.v (.int .u64 e1.cid)), .d (.v (.int .u8 e1.field)), .d (.v (.string e1.text)), .d (.sl (List.map TDot.e e1.kills))])]⟩) (fun h => ?_) ?_
          · refine PWc.region ?_
            refine PWl.step (LR.fieldRef Try.underlying41 rfl Try.sizeOf5 (by decide) rfl rfl) rfl ?_
            refine PWl.step (LR.loadRef Try.isAgg5 rfl rfl rfl) rfl ?_
            replace h := iDet h
            obtain ⟨v11, hy12, h⟩ := h
            refine PWl.step (LR.callN (field_Good_ok e1.field v11 hy12) rfl Try.call135 rfl rfl rfl rfl) rfl ?_
            refine PWl.step (LR.not rfl) rfl ?_
            refine PWl.step (LR.move rfl) rfl ?_
            refine PWl.split (d := 29) rfl (fun hg13 => ?_) (fun hg13 => ?_)
            · replace h := iT hg13 h
              refine PWl.guardF rfl rfl rfl (by decide) ?_
              refine PWl.guardF rfl rfl rfl (by decide) ?_
              refine PWl.guardF rfl rfl rfl (by decide) ?_
              refine PWl.guardF rfl rfl rfl (by decide) ?_
              refine PWl.step (LR.pickT rfl rfl) rfl ?_
              refine PWl.nil ?_
              exact ⟨true, (), h, Sub.of rfl (.cons rfl rfl <| .cons rfl rfl <| .nil) (.cons rfl rfl <| .nil)⟩
            · replace h := iF hg13 h
              refine PWl.guardT (LR.fieldRef Try.underlying41 rfl Try.sizeOf9 (by decide) rfl rfl) rfl rfl rfl ?_
              refine PWl.guardT (LR.loadRef Try.isAgg9 rfl rfl rfl) rfl rfl rfl ?_
              replace h := iDet h
              obtain ⟨v14, hy15, h⟩ := h
              refine PWl.guardT (LR.callN (field_Text_ok e1.text v14 hy15) rfl Try.call136 rfl rfl rfl rfl) rfl rfl rfl ?_
              refine PWl.guardT (LR.not rfl) rfl rfl rfl ?_
              refine PWl.step (LR.pickF rfl rfl) rfl ?_
              refine PWl.nil ?_
              exact ⟨(!v14), (), h, Sub.of rfl (.cons rfl rfl <| .cons rfl rfl <| .nil) (.cons rfl rfl <| .nil)⟩
          · rintro v10 _ h
            refine PWc.cond rfl (fun hc16 => ?_) (fun hc16 => ?_)
            · replace h := iT hc16 h
              refine PWc.seq ?_
              refine PWc.region ?_
              refine PWl.step (LR.assign rfl) rfl ?_
              refine PWl.nil ?_
              refine PWc.ret ?_
              replace h : _ = r0 := h
              subst h
              exact ⟨.inr rfl, _, .cons (.tmp rfl rfl) <| .nil, rfl⟩
            · replace h := iF hc16 h
              refine PWc.skip ?_
              exact ⟨(), (), h, Sub.of rfl (.cons rfl rfl <| .nil) (.cons rfl rfl <| .nil)⟩
        · replace h := iF hc9 h
          refine PWc.seq ?_
          refine PWc.region ?_
          refine PWl.step (LR.eql rfl rfl) rfl ?_
          refine PWl.step (LR.assign rfl) rfl ?_
          refine PWl.nil ?_
          refine PWc.cond rfl (fun hc17 => ?_) (fun hc17 => ?_)
          · replace h := iT hc17 h
            refine PWc.seq ?_
            refine PWc.jn (iBind h) (fun (v18 : Bool) (_ : Unit) => ⟨72, [(1, .ref 1 0), (44, .d (.v (.bool v18)))], [(1, .cells 41 [.d (.v (.int .u16 e1.dot.dev)), .d (.v (.int .u64 e1.dot.n)), .d (.v (.int .u8 e1.kind)), .d (.v (.int .u64 e1.cid)), .d (.v (.int .u8 e1.field)), .d (.v (.string e1.text)), .d (.sl (List.map TDot.e e1.kills))])]⟩) (fun h => ?_) ?_
            · refine PWc.region ?_
              refine PWl.step (LR.fieldRef Try.underlying41 rfl Try.sizeOf5 (by decide) rfl rfl) rfl ?_
              refine PWl.step (LR.loadRef Try.isAgg5 rfl rfl rfl) rfl ?_
              refine PWl.step (LR.neq rfl rfl) rfl ?_
              refine PWl.step (LR.move rfl) rfl ?_
              refine PWl.split (d := 40) rfl (fun hg19 => ?_) (fun hg19 => ?_)
              · replace h := iT hg19 h
                refine PWl.guardF rfl rfl rfl (by decide) ?_
                refine PWl.guardF rfl rfl rfl (by decide) ?_
                refine PWl.guardF rfl rfl rfl (by decide) ?_
                refine PWl.step (LR.pickT rfl rfl) rfl ?_
                refine PWl.nil ?_
                exact ⟨true, (), h, Sub.of rfl (.cons rfl rfl <| .cons rfl rfl <| .nil) (.cons rfl rfl <| .nil)⟩
              · replace h := iF hg19 h
                refine PWl.guardT (LR.fieldRef Try.underlying41 rfl Try.sizeOf9 (by decide) rfl rfl) rfl rfl rfl ?_
                refine PWl.guardT (LR.loadRef Try.isAgg9 rfl rfl rfl) rfl rfl rfl ?_
                refine PWl.guardT (LR.neqStr rfl rfl) rfl rfl rfl ?_
                refine PWl.step (LR.pickF rfl rfl) rfl ?_
                refine PWl.nil ?_
                exact ⟨(!decide (e1.text = (⟨#[]⟩ : ByteArray))), (), h, Sub.of rfl (.cons rfl rfl <| .cons rfl rfl <| .nil) (.cons rfl rfl <| .nil)⟩
            · rintro v18 _ h
              refine PWc.cond rfl (fun hc20 => ?_) (fun hc20 => ?_)
              · replace h := iT hc20 h
                refine PWc.seq ?_
                refine PWc.region ?_
                refine PWl.step (LR.assign rfl) rfl ?_
                refine PWl.nil ?_
                refine PWc.ret ?_
                replace h : _ = r0 := h
                subst h
                exact ⟨.inr rfl, _, .cons (.tmp rfl rfl) <| .nil, rfl⟩
              · replace h := iF hc20 h
                refine PWc.skip ?_
                exact ⟨(), (), h, Sub.of rfl (.cons rfl rfl <| .nil) (.cons rfl rfl <| .nil)⟩
          · replace h := iF hc17 h
            refine PWc.seq ?_
            refine PWc.region ?_
            refine PWl.step (LR.assign rfl) rfl ?_
            refine PWl.nil ?_
            refine PWc.ret ?_
            replace h : _ = r0 := h
            subst h
            exact ⟨.inr rfl, _, .cons (.tmp rfl rfl) <| .nil, rfl⟩
      · rintro _ _ h
        refine PWc.seq ?_
        refine PWc.seq ?_
        refine PWc.jn (iBind h) (fun (v21 : Bool) (_ : Unit) => ⟨72, [(1, .ref 1 0), (54, .d (.v (.bool v21)))], [(1, .cells 41 [.d (.v (.int .u16 e1.dot.dev)), .d (.v (.int .u64 e1.dot.n)), .d (.v (.int .u8 e1.kind)), .d (.v (.int .u64 e1.cid)), .d (.v (.int .u8 e1.field)), .d (.v (.string e1.text)), .d (.sl (List.map TDot.e e1.kills))])]⟩) (fun h => ?_) ?_
        · refine PWc.region ?_
          refine PWl.step (LR.fieldRef Try.underlying41 rfl Try.sizeOf39 (by decide) rfl rfl) rfl ?_
          refine PWl.step (LR.loadRef Try.isAgg39 rfl rfl rfl) rfl ?_
          refine PWl.step (LR.lenMap (enc := TDot.e) (L := e1.kills) Try.underlying39 rfl) rfl ?_
          refine PWl.step (LR.gtr rfl rfl) rfl ?_
          refine PWl.step (LR.move rfl) rfl ?_
          refine PWl.split (d := 49) rfl (fun hg22 => ?_) (fun hg22 => ?_)
          · replace h := iT hg22 h
            refine PWl.guardF rfl rfl rfl (by decide) ?_
            refine PWl.guardF rfl rfl rfl (by decide) ?_
            refine PWl.guardF rfl rfl rfl (by decide) ?_
            refine PWl.guardF rfl rfl rfl (by decide) ?_
            refine PWl.step (LR.pickT rfl rfl) rfl ?_
            refine PWl.nil ?_
            exact ⟨true, (), h, Sub.of rfl (.cons rfl rfl <| .cons rfl rfl <| .nil) (.cons rfl rfl <| .nil)⟩
          · replace h := iF hg22 h
            refine PWl.guardT (LR.fieldRef Try.underlying41 rfl Try.sizeOf39 (by decide) rfl rfl) rfl rfl rfl ?_
            refine PWl.guardT (LR.loadRef Try.isAgg39 rfl rfl rfl) rfl rfl rfl ?_
            replace h := iDet h
            obtain ⟨v23, hy24, h⟩ := h
            refine PWl.guardT (LR.callN (dot_Rising_ok e1.kills v23 hy24) rfl Try.call137 rfl rfl rfl rfl) rfl rfl rfl ?_
            refine PWl.guardT (LR.not rfl) rfl rfl rfl ?_
            refine PWl.step (LR.pickF rfl rfl) rfl ?_
            refine PWl.nil ?_
            exact ⟨(!v23), (), h, Sub.of rfl (.cons rfl rfl <| .cons rfl rfl <| .nil) (.cons rfl rfl <| .nil)⟩
        · rintro v21 _ h
          refine PWc.cond rfl (fun hc25 => ?_) (fun hc25 => ?_)
          · replace h := iT hc25 h
            refine PWc.seq ?_
            refine PWc.region ?_
            refine PWl.step (LR.assign rfl) rfl ?_
            refine PWl.nil ?_
            refine PWc.ret ?_
            replace h : _ = r0 := h
            subst h
            exact ⟨.inr rfl, _, .cons (.tmp rfl rfl) <| .nil, rfl⟩
          · replace h := iF hc25 h
            refine PWc.skip ?_
            refine PWc.seq ?_
            refine PWc.seq ?_
            refine PWc.region ?_
            refine PWl.step (LR.fieldRef Try.underlying41 rfl Try.sizeOf39 (by decide) rfl rfl) rfl ?_
            refine PWl.step (LR.loadRef Try.isAgg39 rfl rfl rfl) rfl ?_
            refine PWl.step (LR.lenMap (enc := TDot.e) (L := e1.kills) Try.underlying39 rfl) rfl ?_
            refine PWl.step (LR.move rfl) rfl ?_
            refine PWl.nil ?_
            refine PWc.jnX (iBind h) (fun (_ : Unit) (_ : Unit) => ⟨72, [], []⟩) (fun h => ?_) ?_
            · refine PWc.block ?_
              refine PWc.loopM (fun (v43 : Int) (_ : Unit) => ⟨72, [(1, .ref 1 0), (56, .d (.sl (List.map TDot.e e1.kills))), (57, .d (.v (.int .i64 (List.length e1.kills : Int)))), (58, .d (.v (.int .i64 v43)))], [(1, .cells 41 [.d (.v (.int .u16 e1.dot.dev)), .d (.v (.int .u64 e1.dot.n)), .d (.v (.int .u8 e1.kind)), .d (.v (.int .u64 e1.cid)), .d (.v (.int .u8 e1.field)), .d (.v (.string e1.text)), .d (.sl (List.map TDot.e e1.kills))])]⟩) () h (Sub.of rfl (.cons rfl rfl <| .cons rfl rfl <| .cons rfl rfl <| .cons rfl rfl <| .nil) (.cons rfl rfl <| .nil)) ?_
              rintro N v43 _ h
              refine PWc.seq ?_
              refine PWc.region ?_
              refine PWl.step (LR.lss rfl rfl) rfl ?_
              refine PWl.nil ?_
              refine PWc.seq ?_
              refine PWc.cond rfl (fun hc44 => ?_) (fun hc44 => ?_)
              · replace h := iT hc44 h
                refine PWc.skip ?_
                refine PWc.seq ?_
                refine PWc.block ?_
                refine PWc.seq ?_
                refine PWc.region ?_
                replace h := iIdx h
                obtain ⟨x45, hy46, h⟩ := h
                refine PWl.step (LR.idxT (enc := TDot.e) (L := e1.kills) (y := x45) Try.underlying39 Try.sizeOf38 rfl rfl hy46 (fun _ => rfl)) rfl ?_
                refine PWl.step (LR.loadEpAgg (ys := [_, _]) Try.isAgg38 Try.sizeOf38 rfl rfl rfl) rfl ?_
                refine PWl.step (LR.allocZ (cs := [_, _]) Try.zeroValue38 rfl rfl rfl rfl) rfl ?_
                refine PWl.step (LR.storeB (ns := [_, _]) Try.sizeOf38 rfl rfl rfl rfl rfl rfl rfl) rfl ?_
                refine PWl.nil ?_
                refine PWc.seq ?_
                refine PWc.jn (iBind h) (fun (v47 : Bool) (_ : Unit) => ⟨72, [(1, .ref 1 0), (56, .d (.sl (List.map TDot.e e1.kills))), (57, .d (.v (.int .i64 (List.length e1.kills : Int)))), (58, .d (.v (.int .i64 v43))), (70, .d (.v (.bool v47)))], [(1, .cells 41 [.d (.v (.int .u16 e1.dot.dev)), .d (.v (.int .u64 e1.dot.n)), .d (.v (.int .u8 e1.kind)), .d (.v (.int .u64 e1.cid)), .d (.v (.int .u8 e1.field)), .d (.v (.string e1.text)), .d (.sl (List.map TDot.e e1.kills))])]⟩) (fun h => ?_) ?_
                · refine PWc.region ?_
                  refine PWl.step (LR.loadRefAgg (ps := [_, _]) Try.isAgg38 Try.sizeOf38 rfl rfl rfl rfl) rfl ?_
                  replace h := iDet h
                  obtain ⟨v48, hy49, h⟩ := h
                  refine PWl.step (LR.callN (dot_Good_ok x45 v48 hy49) rfl Try.call82 rfl rfl rfl rfl) rfl ?_
                  refine PWl.step (LR.not rfl) rfl ?_
                  refine PWl.step (LR.move rfl) rfl ?_
                  refine PWl.split (d := 65) rfl (fun hg50 => ?_) (fun hg50 => ?_)
                  · replace h := iT hg50 h
                    refine PWl.guardF rfl rfl rfl (by decide) ?_
                    refine PWl.guardF rfl rfl rfl (by decide) ?_
                    refine PWl.guardF rfl rfl rfl (by decide) ?_
                    refine PWl.guardF rfl rfl rfl (by decide) ?_
                    refine PWl.step (LR.pickT rfl rfl) rfl ?_
                    refine PWl.nil ?_
                    exact ⟨true, (), h, Sub.of rfl (.cons rfl rfl <| .cons rfl rfl <| .cons rfl rfl <| .cons rfl rfl <| .cons rfl rfl <| .nil) (.cons rfl rfl <| .nil)⟩
                  · replace h := iF hg50 h
                    refine PWl.guardT (LR.loadRefAgg (ps := [_, _]) Try.isAgg38 Try.sizeOf38 rfl rfl rfl rfl) rfl rfl rfl ?_
                    refine PWl.guardT (LR.fieldRef Try.underlying41 rfl Try.sizeOf38 (by decide) rfl rfl) rfl rfl rfl ?_
                    refine PWl.guardT (LR.loadRefAgg (ps := [_, _]) Try.isAgg38 Try.sizeOf38 rfl rfl rfl rfl) rfl rfl rfl ?_
                    refine PWl.guardT (LR.eqlAgg rfl rfl rfl rfl eq38) rfl rfl rfl ?_
                    refine PWl.step (LR.pickF rfl rfl) rfl ?_
                    refine PWl.nil ?_
                    exact ⟨((decide (x45.dev = e1.dot.dev) && decide (x45.n = e1.dot.n))), (), h, Sub.of rfl (.cons rfl rfl <| .cons rfl rfl <| .cons rfl rfl <| .cons rfl rfl <| .cons rfl rfl <| .nil) (.cons rfl rfl <| .nil)⟩
                · rintro v47 _ h
                  refine PWc.cond rfl (fun hc51 => ?_) (fun hc51 => ?_)
                  · replace h := iT hc51 h
                    refine PWc.seq ?_
                    refine PWc.region ?_
                    refine PWl.step (LR.assign rfl) rfl ?_
                    refine PWl.nil ?_
                    refine PWc.ret ?_
                    replace h : _ = r0 := h
                    subst h
                    exact ⟨.inr rfl, _, .cons (.tmp rfl rfl) <| .nil, rfl⟩
                  · replace h := iF hc51 h
                    refine PWc.skip ?_
                    refine PWc.region ?_
                    refine PWl.step (LR.addW rfl rfl) rfl ?_
                    refine PWl.step (LR.move rfl) rfl ?_
                    refine PWl.nil ?_
                    exact ⟨(IntKind.i64.wrap (v43 + 1)), (), h, Sub.of rfl (.cons rfl rfl <| .cons rfl rfl <| .cons rfl rfl <| .cons rfl rfl <| .nil) (.cons rfl rfl <| .nil)⟩
              · replace h := iF hc44 h
                refine PWc.exit ?_
                exact ⟨(), (), h, Sub.of rfl (.nil) (.nil)⟩
            · rintro _ _ h
              refine PWc.seq ?_
              refine PWc.region ?_
              refine PWl.step (LR.assign rfl) rfl ?_
              refine PWl.nil ?_
              refine PWc.ret ?_
              replace h : _ = r0 := h
              subst h
              exact ⟨.inr rfl, _, .cons (.tmp rfl rfl) <| .nil, rfl⟩

theorem pack_Writer_Byte_o_ok (c1 : Int) (row2 : List Int) (r0 : List Int) (h : (pack_Writer_Byte_o c1 row2).wp (· = r0)) : PObj Try.prog 88 [.ref 100 0, .d (.v (.int .u8 c1))] [(100, .cells 47 [.row 101 (List.length row2)]), (101, .row 5 1 (List.map (eK .u8) row2))] [100] (.tup []) (fun _ : Unit => [(100, .cells 47 [.row 101 (List.length r0)]), (101, .row 5 1 (List.map (eK .u8) r0))]) := by
  refine PObj.intro (sl := [(0, _), (1, _)]) Try.func88 rfl Try.ntmps88 rfl rfl rfl ?_
  intro ctx hK pv
  refine PWc.region ?_
  refine PWl.step (LR.move rfl) rfl ?_
  refine PWl.step (LR.move rfl) rfl ?_
  refine PWl.step (LR.buildSliceD [.tmp 5] elem45 rfl rfl (.cons rfl rfl rfl <| .nil) (by decide) (by decide)) rfl ?_
  replace h := iDet h
  obtain ⟨y3, hy4, h⟩ := h
  refine PWl.step (LR.callObj [(100, 100), (101, 101)] [] [100, 101] (pack_Writer_put_o_ok ([c1]) row2 y3 hy4) hK rfl Try.call126 rfl (by first | rfl | (simp; done) | (simp [PV.nilD, PV.ren, rn]; omega)) (.cons (by first | rfl | (congr 1; first | (simp; done) | (simp; omega))) <| .cons (by first | rfl | (congr 1; first | (simp; done) | (simp; omega))) <| .nil) rfl rfl rfl rfl) rfl ?_
  refine PWl.nil ?_
  replace h : _ = r0 := h
  subst h
  exact EndsO.mk () (.inl rfl) (Sub.of (tl := []) (to := [(100, _), (101, _), (1100, _)]) rfl (.nil) (.cons rfl (by first | rfl | (congr 1; congr 2; first | (simp; done) | (simp; omega))) <| .cons rfl rfl <| .cons rfl rfl <| .nil)) (.nil) rfl rfl

theorem pack_Writer_Text_o_ok (s1 : ByteArray) (row2 : List Int) (r0 : List Int) (h : (pack_Writer_Text_o s1 row2).wp (· = r0)) : PObj Try.prog 89 [.ref 100 0, .d (.v (.string s1))] [(100, .cells 47 [.row 101 (List.length row2)]), (101, .row 5 1 (List.map (eK .u8) row2))] [100] (.tup []) (fun _ : Unit => [(100, .cells 47 [.row 101 (List.length r0)]), (101, .row 5 1 (List.map (eK .u8) r0))]) := by
  refine PObj.intro (sl := [(0, _), (1, _)]) Try.func89 rfl Try.ntmps89 rfl rfl rfl ?_
  intro ctx hK pv
  refine PWc.seq ?_
  refine PWc.region ?_
  refine PWl.step (LR.move rfl) rfl ?_
  refine PWl.step (LR.move rfl) rfl ?_
  refine PWl.step (LR.lenStr Try.underlying9 rfl) rfl ?_
  refine PWl.step (LR.convInt Try.underlying36 (by rw [Try.underlying3]; rfl) rfl rfl) rfl ?_
  replace h := iDet h
  obtain ⟨y3, hy4, h⟩ := h
  refine PWl.step (LR.callObj [(100, 100), (101, 101)] [] [100, 101] (pack_Writer_Num_o_ok (IntKind.u64.wrap (ByteArray.size s1 : Int)) row2 y3 hy4) hK rfl Try.call81 rfl (by first | rfl | (simp; done) | (simp [PV.nilD, PV.ren, rn]; omega)) (.cons (by first | rfl | (congr 1; first | (simp; done) | (simp; omega))) <| .cons (by first | rfl | (congr 1; first | (simp; done) | (simp; omega))) <| .nil) rfl rfl rfl rfl) rfl ?_
  refine PWl.nil ?_
  refine PWc.re (tl := [(0, _), (1, _)]) (to := [(100, _), (101, _), (1100, _)]) rfl (.cons rfl rfl <| .cons rfl rfl <| .nil) (.cons rfl rfl <| .cons rfl rfl <| .cons rfl rfl <| .nil) ?_
  refine PWc.region ?_
  refine PWl.step (LR.move rfl) rfl ?_
  refine PWl.step (LR.move rfl) rfl ?_
  replace h := iNeed h
  obtain ⟨hy5, h⟩ := h
  refine PWl.step (LR.strBytes Try.underlying9 Try.underlying45 Try.underlying5 rfl hy5) rfl ?_
  replace h := iDet h
  obtain ⟨y6, hy7, h⟩ := h
  refine PWl.step (LR.callObj [(100, 100), (101, 101)] [] [100, 101] (pack_Writer_put_o_ok (bytesL s1) y3 y6 hy7) hK rfl Try.call126 rfl (by first | rfl | (simp; done) | (simp [PV.nilD, PV.ren, rn]; omega)) (.cons (by first | rfl | (congr 1; first | (simp; done) | (simp; omega))) <| .cons (by first | rfl | (congr 1; first | (simp; done) | (simp; omega))) <| .nil) rfl rfl rfl rfl) rfl ?_
  refine PWl.nil ?_
  replace h : _ = r0 := h
  subst h
  exact EndsO.mk () (.inl rfl) (Sub.of (tl := []) (to := [(100, _), (101, _), (1100, _)]) rfl (.nil) (.cons rfl (by first | rfl | (congr 1; congr 2; first | (simp; done) | (simp; omega))) <| .cons rfl rfl <| .cons rfl rfl <| .nil)) (.nil) rfl rfl

theorem ecode_Put_o_ok (e1 : TEvent) (row2 : List Int) (r0 : List Int) (h : (ecode_Put_o e1 row2).wp (· = r0)) : PObj Try.prog 39 [.ref 100 0, .agg (List.map .d (TEvent.e e1))] [(100, .cells 47 [.row 101 (List.length row2)]), (101, .row 5 1 (List.map (eK .u8) row2))] [100] (.tup []) (fun _ : Unit => [(100, .cells 47 [.row 101 (List.length r0)]), (101, .row 5 1 (List.map (eK .u8) r0))]) := by
  refine PObj.intro (sl := [(0, _), (1, _)]) Try.func39 rfl Try.ntmps39 rfl rfl rfl ?_
  intro ctx hK pv
  refine PWc.seq ?_
  refine PWc.region ?_
  refine PWl.step (LR.box rfl rfl rfl rfl) rfl ?_
  refine PWl.nil ?_
  refine PWc.seq ?_
  refine PWc.region ?_
  refine PWl.step (LR.move rfl) rfl ?_
  refine PWl.step (LR.fieldRef Try.underlying41 rfl Try.sizeOf38 (by decide) rfl rfl) rfl ?_
  refine PWl.step (LR.loadRefAgg (ps := [_, _]) Try.isAgg38 Try.sizeOf38 rfl rfl rfl rfl) rfl ?_
  replace h := iDet h
  obtain ⟨y3, hy4, h⟩ := h
  refine PWl.step (LR.callObj [(100, 100), (101, 101)] [] [100, 101] (dcode_PutDot_o_ok e1.dot row2 y3 hy4) hK rfl Try.call26 rfl (by first | rfl | (simp; done) | (simp [PV.nilD, PV.ren, rn]; omega)) (.cons (by first | rfl | (congr 1; first | (simp; done) | (simp; omega))) <| .cons (by first | rfl | (congr 1; first | (simp; done) | (simp; omega))) <| .nil) rfl rfl rfl rfl) rfl ?_
  refine PWl.nil ?_
  refine PWc.seq ?_
  refine PWc.re (tl := [(0, _), (3, _)]) (to := [(3, _), (100, _), (101, _), (1100, _)]) rfl (.cons rfl rfl <| .cons rfl rfl <| .nil) (.cons rfl rfl <| .cons rfl rfl <| .cons rfl rfl <| .cons rfl rfl <| .nil) ?_
  refine PWc.region ?_
  refine PWl.step (LR.move rfl) rfl ?_
  refine PWl.step (LR.fieldRef Try.underlying41 rfl Try.sizeOf5 (by decide) rfl rfl) rfl ?_
  refine PWl.step (LR.loadRef Try.isAgg5 rfl rfl rfl) rfl ?_
  replace h := iDet h
  obtain ⟨y5, hy6, h⟩ := h
  refine PWl.step (LR.callObj [(100, 100), (101, 101)] [] [100, 101] (pack_Writer_Byte_o_ok e1.kind y3 y5 hy6) hK rfl Try.call88 rfl (by first | rfl | (simp; done) | (simp [PV.nilD, PV.ren, rn]; omega)) (.cons (by first | rfl | (congr 1; first | (simp; done) | (simp; omega))) <| .cons (by first | rfl | (congr 1; first | (simp; done) | (simp; omega))) <| .nil) rfl rfl rfl rfl) rfl ?_
  refine PWl.nil ?_
  refine PWc.seq ?_
  refine PWc.re (tl := [(0, _), (3, _)]) (to := [(3, _), (100, _), (101, _), (1100, _)]) rfl (.cons rfl rfl <| .cons rfl rfl <| .nil) (.cons rfl rfl <| .cons rfl rfl <| .cons rfl rfl <| .cons rfl rfl <| .nil) ?_
  refine PWc.region ?_
  refine PWl.step (LR.move rfl) rfl ?_
  refine PWl.step (LR.fieldRef Try.underlying41 rfl Try.sizeOf36 (by decide) rfl rfl) rfl ?_
  refine PWl.step (LR.loadRef Try.isAgg36 rfl rfl rfl) rfl ?_
  replace h := iDet h
  obtain ⟨y7, hy8, h⟩ := h
  refine PWl.step (LR.callObj [(100, 100), (101, 101)] [] [100, 101] (pack_Writer_Num_o_ok e1.cid y5 y7 hy8) hK rfl Try.call81 rfl (by first | rfl | (simp; done) | (simp [PV.nilD, PV.ren, rn]; omega)) (.cons (by first | rfl | (congr 1; first | (simp; done) | (simp; omega))) <| .cons (by first | rfl | (congr 1; first | (simp; done) | (simp; omega))) <| .nil) rfl rfl rfl rfl) rfl ?_
  refine PWl.nil ?_
  refine PWc.seq ?_
  refine PWc.re (tl := [(0, _), (3, _)]) (to := [(3, _), (100, _), (101, _), (1100, _)]) rfl (.cons rfl rfl <| .cons rfl rfl <| .nil) (.cons rfl rfl <| .cons rfl rfl <| .cons rfl rfl <| .cons rfl rfl <| .nil) ?_
  refine PWc.region ?_
  refine PWl.step (LR.move rfl) rfl ?_
  refine PWl.step (LR.fieldRef Try.underlying41 rfl Try.sizeOf5 (by decide) rfl rfl) rfl ?_
  refine PWl.step (LR.loadRef Try.isAgg5 rfl rfl rfl) rfl ?_
  replace h := iDet h
  obtain ⟨y9, hy10, h⟩ := h
  refine PWl.step (LR.callObj [(100, 100), (101, 101)] [] [100, 101] (pack_Writer_Byte_o_ok e1.field y7 y9 hy10) hK rfl Try.call88 rfl (by first | rfl | (simp; done) | (simp [PV.nilD, PV.ren, rn]; omega)) (.cons (by first | rfl | (congr 1; first | (simp; done) | (simp; omega))) <| .cons (by first | rfl | (congr 1; first | (simp; done) | (simp; omega))) <| .nil) rfl rfl rfl rfl) rfl ?_
  refine PWl.nil ?_
  refine PWc.seq ?_
  refine PWc.re (tl := [(0, _), (3, _)]) (to := [(3, _), (100, _), (101, _), (1100, _)]) rfl (.cons rfl rfl <| .cons rfl rfl <| .nil) (.cons rfl rfl <| .cons rfl rfl <| .cons rfl rfl <| .cons rfl rfl <| .nil) ?_
  refine PWc.region ?_
  refine PWl.step (LR.move rfl) rfl ?_
  refine PWl.step (LR.fieldRef Try.underlying41 rfl Try.sizeOf9 (by decide) rfl rfl) rfl ?_
  refine PWl.step (LR.loadRef Try.isAgg9 rfl rfl rfl) rfl ?_
  replace h := iDet h
  obtain ⟨y11, hy12, h⟩ := h
  refine PWl.step (LR.callObj [(100, 100), (101, 101)] [] [100, 101] (pack_Writer_Text_o_ok e1.text y9 y11 hy12) hK rfl Try.call89 rfl (by first | rfl | (simp; done) | (simp [PV.nilD, PV.ren, rn]; omega)) (.cons (by first | rfl | (congr 1; first | (simp; done) | (simp; omega))) <| .cons (by first | rfl | (congr 1; first | (simp; done) | (simp; omega))) <| .nil) rfl rfl rfl rfl) rfl ?_
  refine PWl.nil ?_
  refine PWc.re (tl := [(0, _), (3, _)]) (to := [(3, _), (100, _), (101, _), (1100, _)]) rfl (.cons rfl rfl <| .cons rfl rfl <| .nil) (.cons rfl rfl <| .cons rfl rfl <| .cons rfl rfl <| .cons rfl rfl <| .nil) ?_
  refine PWc.region ?_
  refine PWl.step (LR.move rfl) rfl ?_
  refine PWl.step (LR.fieldRef Try.underlying41 rfl Try.sizeOf39 (by decide) rfl rfl) rfl ?_
  refine PWl.step (LR.loadRef Try.isAgg39 rfl rfl rfl) rfl ?_
  replace h := iDet h
  obtain ⟨y13, hy14, h⟩ := h
  refine PWl.step (LR.callObj [(100, 100), (101, 101)] [] [100, 101] (dcode_PutDots_o_ok e1.kills y11 y13 hy14) hK rfl Try.call27 rfl (by first | rfl | (simp; done) | (simp [PV.nilD, PV.ren, rn]; omega)) (.cons (by first | rfl | (congr 1; first | (simp; done) | (simp; omega))) <| .cons (by first | rfl | (congr 1; first | (simp; done) | (simp; omega))) <| .nil) rfl rfl rfl rfl) rfl ?_
  refine PWl.nil ?_
  replace h : _ = r0 := h
  subst h
  exact EndsO.mk () (.inl rfl) (Sub.of (tl := []) (to := [(100, _), (101, _), (1100, _)]) rfl (.nil) (.cons rfl (by first | rfl | (congr 1; congr 2; first | (simp; done) | (simp; omega))) <| .cons rfl rfl <| .cons rfl rfl <| .nil)) (.nil) rfl rfl

theorem ecode_Encode_ok (e1 : TEvent) (r0 : List Int × Int) (h : (ecode_Encode e1).wp (· = r0)) : PFun Try.prog 41 [.agg (List.map .d (TEvent.e e1))] (.tup [.d (.sl (List.map (eK .u8) r0.1)), .d (.v (.int .i64 r0.2))]) := by
  refine PFun.intro (sl := [(0, _)]) Try.func41 rfl Try.ntmps41 rfl rfl ?_
  intro ctx hK
  refine PWc.seq ?_
  refine PWc.region ?_
  refine PWl.step (LR.box rfl rfl rfl rfl) rfl ?_
  refine PWl.step (LR.assignNilRow 5 1 rfl) rfl ?_
  refine PWl.step (LR.assign rfl) rfl ?_
  refine PWl.nil ?_
  refine PWc.seq ?_
  refine PWc.seq ?_
  refine PWc.region ?_
  refine PWl.step (LR.loadRefAgg (ps := [_, _, _, _, _, _, _]) Try.isAgg41 Try.sizeOf41 rfl rfl rfl rfl) rfl ?_
  replace h := iDet h
  obtain ⟨v2, hy3, h⟩ := h
  refine PWl.step (LR.callN (event_Good_ok e1 v2 hy3) rfl Try.call91 rfl rfl rfl rfl) rfl ?_
  refine PWl.step (LR.not rfl) rfl ?_
  refine PWl.nil ?_
  refine PWc.cond rfl (fun hc4 => ?_) (fun hc4 => ?_)
  · replace h := iT hc4 h
    refine PWc.seq ?_
    refine PWc.region ?_
    refine PWl.re (tl := [(0, _), (1, _), (3, _), (5, _), (6, _), (7, _)]) (to := [(1, _)]) rfl (.cons rfl rfl <| .cons rfl rfl <| .cons rfl rfl <| .cons rfl rfl <| .cons rfl rfl <| .cons rfl rfl <| .nil) (.cons rfl rfl <| .nil) ?_
    refine PWl.step (LR.assignNilRow 5 1 rfl) rfl ?_
    refine PWl.step (LR.assign rfl) rfl ?_
    refine PWl.nil ?_
    refine PWc.ret ?_
    replace h : _ = r0 := h
    subst h
    exact ⟨.inr rfl, _, .cons (.row rfl rfl (by first | (simp; done) | (simp; omega) | omega)) <| .cons (.tmp rfl rfl) <| .nil, rfl⟩
  · replace h := iF hc4 h
    refine PWc.skip ?_
    refine PWc.seq ?_
    refine PWc.region ?_
    refine PWl.step (LR.allocR (cs := [_]) Try.zeroValue47 rfl rfl rfl rfl) rfl ?_
    refine PWl.sub (Sub.ownNil (id := 4) (j := 0) (id' := 30080) (e := 5) (k := 1) rfl rfl rfl rfl) ?_
    refine PWl.nil ?_
    refine PWc.seq ?_
    refine PWc.re (tl := [(1, _), (4, _)]) (to := [(1, _), (4, _), (30080, _)]) rfl (.cons rfl rfl <| .cons rfl rfl <| .nil) (.cons rfl rfl <| .cons rfl rfl <| .cons rfl rfl <| .nil) ?_
    refine PWc.region ?_
    refine PWl.step (LR.loadRefAgg (ps := [_, _, _, _, _, _, _]) Try.isAgg41 Try.sizeOf41 rfl rfl rfl rfl) rfl ?_
    replace h := iDet h
    obtain ⟨y5, hy6, h⟩ := h
    refine PWl.step (LR.callObj [(100, 4), (101, 30080)] [] [100, 101] (ecode_Put_o_ok e1 ([] : List Int) y5 hy6) hK rfl Try.call39 rfl (by first | rfl | (simp; done) | (simp [PV.nilD, PV.ren, rn]; omega)) (.cons (by first | rfl | (congr 1; first | (simp; done) | (simp; omega))) <| .cons (by first | rfl | (congr 1; first | (simp; done) | (simp; omega))) <| .nil) rfl rfl rfl rfl) rfl ?_
    refine PWl.nil ?_
    refine PWc.seq ?_
    refine PWc.re (tl := [(4, _)]) (to := [(4, _), (30080, _)]) rfl (.cons rfl rfl <| .nil) (.cons rfl rfl <| .cons rfl rfl <| .nil) ?_
    refine PWc.region ?_
    replace h := iDet h
    obtain ⟨y7, hy8, h⟩ := h
    refine PWl.step (LR.callObj [(100, 4), (101, 30080)] [] [100, 101] (pack_Writer_Bytes_o_ok y5 y7 hy8) hK rfl Try.call30 rfl (by first | rfl | (simp; done) | (simp [PV.nilD, PV.ren, rn]; omega)) (.cons (by first | rfl | (congr 1; first | (simp; done) | (simp; omega))) <| .cons (by first | rfl | (congr 1; first | (simp; done) | (simp; omega))) <| .nil) rfl rfl rfl rfl) rfl ?_
    refine PWl.step (LR.assign rfl) rfl ?_
    refine PWl.step (LR.assign rfl) rfl ?_
    refine PWl.nil ?_
    refine PWc.ret ?_
    replace h : _ = r0 := h
    subst h
    exact ⟨.inr rfl, _, .cons (.tmp rfl rfl) <| .cons (.tmp rfl rfl) <| .nil, rfl⟩
end Go.Proofs

namespace Go.Proofs
open Go.Ep
set_option maxHeartbeats 1000000
set_option maxRecDepth 100000
set_option linter.unusedVariables false
set_option linter.unusedSimpArgs false


theorem l16_works_ok  (r0 : Bool) (h : (l16_works ).wp (· = r0)) : PFun Try.prog 35 [] (.d (.v (.bool r0))) := by
  refine PFun.intro (sl := []) Try.func35 rfl Try.ntmps35 rfl rfl ?_
  intro ctx hK
  refine PWc.seq ?_
  refine PWc.region ?_
  refine PWl.step (LR.assign rfl) rfl ?_
  refine PWl.nil ?_
  refine PWc.seq ?_
  refine PWc.region ?_
  refine PWl.step (LR.build (ns := [_, _]) build38 rfl rfl rfl) rfl ?_
  refine PWl.step (LR.allocZ (cs := [_, _]) Try.zeroValue38 rfl rfl rfl rfl) rfl ?_
  refine PWl.step (LR.storeB (ns := [_, _]) Try.sizeOf38 rfl rfl rfl rfl rfl rfl rfl) rfl ?_
  refine PWl.nil ?_
  refine PWc.seq ?_
  refine PWc.region ?_
  refine PWl.step (LR.build (ns := [_, _]) build38 rfl rfl rfl) rfl ?_
  refine PWl.step (LR.loadRefAgg (ps := [_, _]) Try.isAgg38 Try.sizeOf38 rfl rfl rfl rfl) rfl ?_
  refine PWl.step (LR.buildSliceD [.tmp 7] elem39 rfl rfl (.cons rfl rfl rfl <| .nil) (by decide) (by decide)) rfl ?_
  refine PWl.step (LR.build (ns := [_, _, _, _, _, _, _]) build41 rfl rfl rfl) rfl ?_
  replace h := iDet h
  obtain ⟨v1, hy2, h⟩ := h
  refine PWl.step (LR.callN (ecode_Encode_ok (⟨(⟨1, 2⟩ : TDot), 2, 281474976710657, 0, (⟨#[]⟩ : ByteArray), [(⟨1, 1⟩ : TDot)]⟩ : TEvent) v1 hy2) rfl Try.call41 rfl rfl rfl rfl) rfl ?_
  refine PWl.step (LR.move rfl) rfl ?_
  refine PWl.step (LR.extract rfl rfl) rfl ?_
  refine PWl.step (LR.extract rfl rfl) rfl ?_
  refine PWl.step (LR.assign rfl) rfl ?_
  refine PWl.step (LR.assign rfl) rfl ?_
  refine PWl.nil ?_
  refine PWc.seq ?_
  refine PWc.jn (iBind h) (fun (v3 : Bool) (_ : Unit) => ⟨20, [(0, .d (.v (.bool v3)))], []⟩) (fun h => ?_) ?_
  · refine PWc.region ?_
    refine PWl.step (LR.move rfl) rfl ?_
    refine PWl.step (LR.eql rfl rfl) rfl ?_
    refine PWl.step (LR.move rfl) rfl ?_
    refine PWl.split (d := 15) rfl (fun hg4 => ?_) (fun hg4 => ?_)
    · replace h := iT hg4 h
      refine PWl.guardT (LR.move rfl) rfl rfl rfl ?_
      refine PWl.guardT (LR.buildSliceD [.const (.int .u8 1), .const (.int .u8 1), .const (.int .u8 1), .const (.int .u8 2), .const (.int .u8 2), .const (.int .u8 7), .const (.int .u8 1), .const (.int .u8 0), .const (.int .u8 0), .const (.int .u8 0), .const (.int .u8 0), .const (.int .u8 0), .const (.int .u8 1), .const (.int .u8 0), .const (.int .u8 0), .const (.int .u8 1), .const (.int .u8 1), .const (.int .u8 1), .const (.int .u8 1), .const (.int .u8 1), .const (.int .u8 1)] elem45 rfl rfl (.cons rfl rfl rfl <| .cons rfl rfl rfl <| .cons rfl rfl rfl <| .cons rfl rfl rfl <| .cons rfl rfl rfl <| .cons rfl rfl rfl <| .cons rfl rfl rfl <| .cons rfl rfl rfl <| .cons rfl rfl rfl <| .cons rfl rfl rfl <| .cons rfl rfl rfl <| .cons rfl rfl rfl <| .cons rfl rfl rfl <| .cons rfl rfl rfl <| .cons rfl rfl rfl <| .cons rfl rfl rfl <| .cons rfl rfl rfl <| .cons rfl rfl rfl <| .cons rfl rfl rfl <| .cons rfl rfl rfl <| .cons rfl rfl rfl <| .nil) (by decide) (by decide)) rfl rfl rfl ?_
      replace h := iDet h
      obtain ⟨v5, hy6, h⟩ := h
      refine PWl.guardT (LR.callN (l16_equal_ok v1.1 ([1, 1, 1, 2, 2, 7, 1, 0, 0, 0, 0, 0, 1, 0, 0, 1, 1, 1, 1, 1, 1]) v5 hy6) rfl Try.call37 rfl rfl rfl rfl) rfl rfl rfl ?_
      refine PWl.step (LR.pickT rfl rfl) rfl ?_
      refine PWl.re (tl := [(0, _), (19, _)]) (to := []) rfl (.cons rfl rfl <| .cons rfl rfl <| .nil) (.nil) ?_
      refine PWl.step (LR.assign rfl) rfl ?_
      refine PWl.nil ?_
      exact ⟨v5, (), h, Sub.of rfl (.cons rfl rfl <| .nil) (.nil)⟩
    · replace h := iF hg4 h
      refine PWl.guardF rfl rfl rfl (by decide) ?_
      refine PWl.guardF rfl rfl rfl (by decide) ?_
      refine PWl.guardF rfl rfl rfl (by decide) ?_
      refine PWl.step (LR.pickF rfl rfl) rfl ?_
      refine PWl.re (tl := [(0, _), (19, _)]) (to := []) rfl (.cons rfl rfl <| .cons rfl rfl <| .nil) (.nil) ?_
      refine PWl.step (LR.assign rfl) rfl ?_
      refine PWl.nil ?_
      exact ⟨false, (), h, Sub.of rfl (.cons rfl rfl <| .nil) (.nil)⟩
  · rintro v3 _ h
    refine PWc.ret ?_
    replace h : _ = r0 := h
    subst h
    exact ⟨.inr rfl, _, .cons (.tmp rfl rfl) <| .nil, rfl⟩

end Go.Proofs

namespace Go.Proofs
open Go.Ep
set_option maxHeartbeats 1000000
set_option maxRecDepth 100000
set_option linter.unusedVariables false
set_option linter.unusedSimpArgs false


theorem num_Read_ok (b1 : List Int) (at2 : Int) (r0 : Int × Int × Int) (h : (num_Read b1 at2).wp (· = r0)) : PFun Try.prog 154 [.d (.sl (List.map (eK .u8) b1)), .d (.v (.int .i64 at2))] (.tup [.d (.v (.int .u64 r0.1)), .d (.v (.int .i64 r0.2.1)), .d (.v (.int .i64 r0.2.2))]) := by
  refine PFun.intro (sl := [(0, _), (1, _)]) Try.func154 rfl Try.ntmps154 rfl rfl ?_
  intro ctx hK
  refine PWc.seq ?_
  refine PWc.region ?_
  refine PWl.step (LR.assign rfl) rfl ?_
  refine PWl.step (LR.assign rfl) rfl ?_
  refine PWl.step (LR.assign rfl) rfl ?_
  refine PWl.nil ?_
  refine PWc.seq ?_
  refine PWc.seq ?_
  refine PWc.jn (iBind h) (fun (v3 : Bool) (_ : Unit) => ⟨75, [(0, .d (.sl (List.map (eK .u8) b1))), (1, .d (.v (.int .i64 at2))), (19, .d (.v (.bool v3)))], []⟩) (fun h => ?_) ?_
  · refine PWc.region ?_
    refine PWl.step (LR.move rfl) rfl ?_
    refine PWl.step (LR.lss rfl rfl) rfl ?_
    refine PWl.step (LR.move rfl) rfl ?_
    refine PWl.split (d := 14) rfl (fun hg4 => ?_) (fun hg4 => ?_)
    · replace h := iT hg4 h
      refine PWl.guardF rfl rfl rfl (by decide) ?_
      refine PWl.guardF rfl rfl rfl (by decide) ?_
      refine PWl.guardF rfl rfl rfl (by decide) ?_
      refine PWl.guardF rfl rfl rfl (by decide) ?_
      refine PWl.step (LR.pickT rfl rfl) rfl ?_
      refine PWl.nil ?_
      exact ⟨true, (), h, Sub.of rfl (.cons rfl rfl <| .cons rfl rfl <| .cons rfl rfl <| .nil) (.nil)⟩
    · replace h := iF hg4 h
      refine PWl.guardT (LR.move rfl) rfl rfl rfl ?_
      refine PWl.guardT (LR.move rfl) rfl rfl rfl ?_
      refine PWl.guardT (LR.lenMap (enc := (eK .u8)) (L := b1) Try.underlying45 rfl) rfl rfl rfl ?_
      refine PWl.guardT (LR.gtr rfl rfl) rfl rfl rfl ?_
      refine PWl.step (LR.pickF rfl rfl) rfl ?_
      refine PWl.nil ?_
      exact ⟨(decide ((List.length b1 : Int) < at2)), (), h, Sub.of rfl (.cons rfl rfl <| .cons rfl rfl <| .cons rfl rfl <| .nil) (.nil)⟩
  · rintro v3 _ h
    refine PWc.cond rfl (fun hc5 => ?_) (fun hc5 => ?_)
    · replace h := iT hc5 h
      refine PWc.seq ?_
      refine PWc.region ?_
      refine PWl.step (LR.assign rfl) rfl ?_
      refine PWl.step (LR.assign rfl) rfl ?_
      refine PWl.step (LR.assign rfl) rfl ?_
      refine PWl.nil ?_
      refine PWc.ret ?_
      replace h : _ = r0 := h
      subst h
      exact ⟨.inr rfl, _, .cons (.tmp rfl rfl) <| .cons (.tmp rfl rfl) <| .cons (.tmp rfl rfl) <| .nil, rfl⟩
    · replace h := iF hc5 h
      refine PWc.skip ?_
      refine PWc.seq ?_
      refine PWc.seq ?_
      refine PWc.region ?_
      refine PWl.step (LR.move rfl) rfl ?_
      refine PWl.step (LR.move rfl) rfl ?_
      refine PWl.step (LR.lenMap (enc := (eK .u8)) (L := b1) Try.underlying45 rfl) rfl ?_
      refine PWl.step (LR.eql rfl rfl) rfl ?_
      refine PWl.nil ?_
      refine PWc.cond rfl (fun hc6 => ?_) (fun hc6 => ?_)
      · replace h := iT hc6 h
        refine PWc.seq ?_
        refine PWc.region ?_
        refine PWl.step (LR.assign rfl) rfl ?_
        refine PWl.step (LR.assign rfl) rfl ?_
        refine PWl.step (LR.assign rfl) rfl ?_
        refine PWl.nil ?_
        refine PWc.ret ?_
        replace h : _ = r0 := h
        subst h
        exact ⟨.inr rfl, _, .cons (.tmp rfl rfl) <| .cons (.tmp rfl rfl) <| .cons (.tmp rfl rfl) <| .nil, rfl⟩
      · replace h := iF hc6 h
        refine PWc.skip ?_
        refine PWc.seq ?_
        refine PWc.regionD (by kernel_rfl) (by kernel_rfl) ?_
        refine PQl.step (fun _ he ho => LR.move (he rfl rfl)) rfl ?_
        refine PQl.step (fun _ he ho => LR.move (he rfl rfl)) rfl ?_
        replace h := iIdx h
        obtain ⟨x7, hy8, h⟩ := h
        refine PQl.step (fun _ he ho => LR.idxT (enc := (eK .u8)) (L := b1) (y := x7) Try.underlying45 Try.sizeOf5 (he rfl rfl) (he rfl rfl) hy8 (fun _ => rfl)) rfl ?_
        refine PQl.step (fun _ he ho => LR.loadEp Try.isAgg5 (he rfl rfl) rfl) rfl ?_
        refine PQl.step (fun _ he ho => LR.convInt Try.underlying3 (by rw [Try.underlying5]; rfl) (he rfl rfl) rfl) rfl ?_
        refine PQl.step (fun _ he ho => LR.move (he rfl rfl)) rfl ?_
        refine PQl.step (fun _ he ho => LR.move (he rfl rfl)) rfl ?_
        refine PQl.step (fun _ he ho => LR.addW (he rfl rfl) (he rfl rfl)) rfl ?_
        replace h := iNeed h
        obtain ⟨hy9, h⟩ := h
        refine PQl.step (fun _ he ho => LR.cutLT (enc := (eK .u8)) (L := b1) Try.underlying45 Try.sizeOf5 (he rfl rfl) (fun _ => rfl) (he rfl rfl) hy9) rfl ?_
        refine PQl.step (fun _ he ho => LR.assign (he rfl rfl)) rfl ?_
        refine PQl.step (fun _ he ho => LR.assign (he rfl rfl)) rfl ?_
        refine PQl.nil ?_
        refine PWc.seq ?_
        refine PWc.block ?_
        refine PWc.seq ?_
        refine PWc.jn (iBind h) (fun (v10 : Bool) (_ : Unit) => ⟨75, [(1, .d (.v (.int .i64 at2))), (7, .d (.v (.int .i64 (IntKind.i64.wrap x7)))), (8, .d (.sl (List.map (eK .u8) ((List.drop (Int.toNat (IntKind.i64.wrap (at2 + 1))) (List.take (Int.toNat (List.length b1 : Int)) b1)))))), (33, .d (.v (.bool v10)))], []⟩) (fun h => ?_) ?_
        · refine PWc.region ?_
          refine PWl.step (LR.move rfl) rfl ?_
          refine PWl.step (LR.gtr rfl rfl) rfl ?_
          refine PWl.step (LR.move rfl) rfl ?_
          refine PWl.re (tl := [(1, _), (7, _), (8, _), (36, _)]) (to := []) rfl (.cons rfl rfl <| .cons rfl rfl <| .cons rfl rfl <| .cons rfl rfl <| .nil) (.nil) ?_
          refine PWl.split (d := 36) rfl (fun hg11 => ?_) (fun hg11 => ?_)
          · replace h := iT hg11 h
            refine PWl.guardF rfl rfl rfl (by decide) ?_
            refine PWl.guardF rfl rfl rfl (by decide) ?_
            refine PWl.guardF rfl rfl rfl (by decide) ?_
            refine PWl.guardU rfl rfl rfl ?_
            refine PWl.guardU rfl rfl rfl ?_
            refine PWl.guardU rfl rfl rfl ?_
            refine PWl.guardF rfl rfl rfl (by decide) ?_
            refine PWl.guardF rfl rfl rfl (by decide) ?_
            refine PWl.guardU rfl rfl rfl ?_
            refine PWl.guardU rfl rfl rfl ?_
            refine PWl.guardU rfl rfl rfl ?_
            refine PWl.guardU rfl rfl rfl ?_
            refine PWl.guardF rfl rfl rfl (by decide) ?_
            refine PWl.step (LR.pickT rfl rfl) rfl ?_
            refine PWl.step (LR.assign rfl) rfl ?_
            refine PWl.nil ?_
            exact ⟨true, (), h, Sub.of rfl (.cons rfl rfl <| .cons rfl rfl <| .cons rfl rfl <| .cons rfl rfl <| .nil) (.nil)⟩
          · replace h := iF hg11 h
            refine PWl.guardT (LR.move rfl) rfl rfl rfl ?_
            refine PWl.guardT (LR.gtr rfl rfl) rfl rfl rfl ?_
            refine PWl.guardT (LR.move rfl) rfl rfl rfl ?_
            refine PWl.split (d := 39) rfl (fun hg12 => ?_) (fun hg12 => ?_)
            · replace h := iT hg12 h
              refine PWl.guardT (LR.move rfl) rfl rfl rfl ?_
              refine PWl.guardT (LR.lenMap (enc := (eK .u8)) (L := (List.drop (Int.toNat (IntKind.i64.wrap (at2 + 1))) (List.take (Int.toNat (List.length b1 : Int)) b1))) Try.underlying45 rfl) rfl rfl rfl ?_
              refine PWl.guardT (LR.gtr rfl rfl) rfl rfl rfl ?_
              refine PWl.guardT (LR.pickT rfl rfl) rfl rfl rfl ?_
              refine PWl.guardT (LR.move rfl) rfl rfl rfl ?_
              refine PWl.split (d := 44) rfl (fun hg13 => ?_) (fun hg13 => ?_)
              · replace h := iT hg13 h
                refine PWl.guardT (LR.move rfl) rfl rfl rfl ?_
                replace h := iIdx h
                obtain ⟨x14, hy15, h⟩ := h
                refine PWl.guardT (LR.idxT (enc := (eK .u8)) (L := (List.drop (Int.toNat (IntKind.i64.wrap (at2 + 1))) (List.take (Int.toNat (List.length b1 : Int)) b1))) (y := x14) Try.underlying45 Try.sizeOf5 rfl rfl hy15 (fun _ => rfl)) rfl rfl rfl ?_
                refine PWl.guardT (LR.loadEp Try.isAgg5 rfl rfl) rfl rfl rfl ?_
                refine PWl.guardT (LR.eql rfl rfl) rfl rfl rfl ?_
                refine PWl.guardT (LR.pickT rfl rfl) rfl rfl rfl ?_
                refine PWl.step (LR.pickF rfl rfl) rfl ?_
                refine PWl.re (tl := [(1, _), (7, _), (8, _), (50, _)]) (to := []) rfl (.cons rfl rfl <| .cons rfl rfl <| .cons rfl rfl <| .cons rfl rfl <| .nil) (.nil) ?_
                refine PWl.step (LR.assign rfl) rfl ?_
                refine PWl.nil ?_
                exact ⟨(decide (x14 = 0)), (), h, Sub.of rfl (.cons rfl rfl <| .cons rfl rfl <| .cons rfl rfl <| .cons rfl rfl <| .nil) (.nil)⟩
              · replace h := iF hg13 h
                refine PWl.guardF rfl rfl rfl (by decide) ?_
                refine PWl.guardF rfl rfl rfl (by decide) ?_
                refine PWl.guardF rfl rfl rfl (by decide) ?_
                refine PWl.guardF rfl rfl rfl (by decide) ?_
                refine PWl.guardT (LR.pickF rfl rfl) rfl rfl rfl ?_
                refine PWl.step (LR.pickF rfl rfl) rfl ?_
                refine PWl.re (tl := [(1, _), (7, _), (8, _), (50, _)]) (to := []) rfl (.cons rfl rfl <| .cons rfl rfl <| .cons rfl rfl <| .cons rfl rfl <| .nil) (.nil) ?_
                refine PWl.step (LR.assign rfl) rfl ?_
                refine PWl.nil ?_
                exact ⟨false, (), h, Sub.of rfl (.cons rfl rfl <| .cons rfl rfl <| .cons rfl rfl <| .cons rfl rfl <| .nil) (.nil)⟩
            · replace h := iF hg12 h
              refine PWl.guardF rfl rfl rfl (by decide) ?_
              refine PWl.guardF rfl rfl rfl (by decide) ?_
              refine PWl.guardF rfl rfl rfl (by decide) ?_
              refine PWl.guardT (LR.pickF rfl rfl) rfl rfl rfl ?_
              refine PWl.guardT (LR.move rfl) rfl rfl rfl ?_
              refine PWl.guardF rfl rfl rfl (by decide) ?_
              refine PWl.guardF rfl rfl rfl (by decide) ?_
              refine PWl.guardF rfl rfl rfl (by decide) ?_
              refine PWl.guardF rfl rfl rfl (by decide) ?_
              refine PWl.guardT (LR.pickF rfl rfl) rfl rfl rfl ?_
              refine PWl.step (LR.pickF rfl rfl) rfl ?_
              refine PWl.step (LR.assign rfl) rfl ?_
              refine PWl.nil ?_
              exact ⟨false, (), h, Sub.of rfl (.cons rfl rfl <| .cons rfl rfl <| .cons rfl rfl <| .cons rfl rfl <| .nil) (.nil)⟩
        · rintro v10 _ h
          refine PWc.cond rfl (fun hc16 => ?_) (fun hc16 => ?_)
          · replace h := iT hc16 h
            refine PWc.seq ?_
            refine PWc.region ?_
            refine PWl.step (LR.assign rfl) rfl ?_
            refine PWl.step (LR.assign rfl) rfl ?_
            refine PWl.step (LR.assign rfl) rfl ?_
            refine PWl.nil ?_
            refine PWc.ret ?_
            replace h : _ = r0 := h
            subst h
            exact ⟨.inr rfl, _, .cons (.tmp rfl rfl) <| .cons (.tmp rfl rfl) <| .cons (.tmp rfl rfl) <| .nil, rfl⟩
          · replace h := iF hc16 h
            refine PWc.seq ?_
            refine PWc.region ?_
            refine PWl.step (LR.move rfl) rfl ?_
            refine PWl.step (LR.lenMap (enc := (eK .u8)) (L := (List.drop (Int.toNat (IntKind.i64.wrap (at2 + 1))) (List.take (Int.toNat (List.length b1 : Int)) b1))) Try.underlying45 rfl) rfl ?_
            refine PWl.step (LR.move rfl) rfl ?_
            refine PWl.step (LR.lss rfl rfl) rfl ?_
            refine PWl.step (LR.assign rfl) rfl ?_
            refine PWl.nil ?_
            refine PWc.cond rfl (fun hc17 => ?_) (fun hc17 => ?_)
            · replace h := iT hc17 h
              refine PWc.seq ?_
              refine PWc.region ?_
              refine PWl.step (LR.assign rfl) rfl ?_
              refine PWl.step (LR.assign rfl) rfl ?_
              refine PWl.step (LR.assign rfl) rfl ?_
              refine PWl.nil ?_
              refine PWc.ret ?_
              replace h : _ = r0 := h
              subst h
              exact ⟨.inr rfl, _, .cons (.tmp rfl rfl) <| .cons (.tmp rfl rfl) <| .cons (.tmp rfl rfl) <| .nil, rfl⟩
            · replace h := iF hc17 h
              refine PWc.skip ?_
              refine PWc.seq ?_
              refine PWc.region ?_
              refine PWl.step (LR.assign rfl) rfl ?_
              refine PWl.nil ?_
              refine PWc.seq ?_
              refine PWc.seq ?_
              refine PWc.region ?_
              refine PWl.step (LR.move rfl) rfl ?_
              refine PWl.step (LR.move rfl) rfl ?_
              replace h := iNeed h
              obtain ⟨hy18, h⟩ := h
              refine PWl.step (LR.cutHT (enc := (eK .u8)) (L := (List.drop (Int.toNat (IntKind.i64.wrap (at2 + 1))) (List.take (Int.toNat (List.length b1 : Int)) b1))) Try.underlying45 Try.sizeOf5 rfl (fun _ => rfl) rfl hy18) rfl ?_
              refine PWl.step (LR.lenMap (enc := (eK .u8)) (L := (List.drop (Int.toNat 0) (List.take (Int.toNat (IntKind.i64.wrap x7)) ((List.drop (Int.toNat (IntKind.i64.wrap (at2 + 1))) (List.take (Int.toNat (List.length b1 : Int)) b1)))))) Try.underlying45 rfl) rfl ?_
              refine PWl.step (LR.move rfl) rfl ?_
              refine PWl.nil ?_
              refine PWc.jn (iBind h) (fun (v19 : Int) (_ : Unit) => ⟨75, [(1, .d (.v (.int .i64 at2))), (7, .d (.v (.int .i64 (IntKind.i64.wrap x7)))), (9, .d (.v (.int .u64 v19)))], []⟩) (fun h => ?_) ?_
              · refine PWc.block ?_
                refine PWc.loopM (fun (⟨v28, v29⟩ : Int × Int) (_ : Unit) => ⟨75, [(1, .d (.v (.int .i64 at2))), (7, .d (.v (.int .i64 (IntKind.i64.wrap x7)))), (9, .d (.v (.int .u64 v28))), (58, .d (.sl (List.map (eK .u8) ((List.drop (Int.toNat 0) (List.take (Int.toNat (IntKind.i64.wrap x7)) ((List.drop (Int.toNat (IntKind.i64.wrap (at2 + 1))) (List.take (Int.toNat (List.length b1 : Int)) b1))))))))), (59, .d (.v (.int .i64 ((List.length ((List.drop (Int.toNat 0) (List.take (Int.toNat (IntKind.i64.wrap x7)) ((List.drop (Int.toNat (IntKind.i64.wrap (at2 + 1))) (List.take (Int.toNat (List.length b1 : Int)) b1)))))) : Int))))), (60, .d (.v (.int .i64 v29)))], []⟩) () h (Sub.of rfl (.cons rfl rfl <| .cons rfl rfl <| .cons rfl rfl <| .cons rfl rfl <| .cons rfl rfl <| .cons rfl rfl <| .nil) (.nil)) ?_
                rintro N ⟨v28, v29⟩ _ h
                refine PWc.seq ?_
                refine PWc.region ?_
                refine PWl.step (LR.lss rfl rfl) rfl ?_
                refine PWl.nil ?_
                refine PWc.seq ?_
                refine PWc.cond rfl (fun hc30 => ?_) (fun hc30 => ?_)
                · replace h := iT hc30 h
                  refine PWc.skip ?_
                  refine PWc.seq ?_
                  refine PWc.block ?_
                  refine PWc.seq ?_
                  refine PWc.region ?_
                  replace h := iIdx h
                  obtain ⟨x31, hy32, h⟩ := h
                  refine PWl.step (LR.idxT (enc := (eK .u8)) (L := (List.drop (Int.toNat 0) (List.take (Int.toNat (IntKind.i64.wrap x7)) ((List.drop (Int.toNat (IntKind.i64.wrap (at2 + 1))) (List.take (Int.toNat (List.length b1 : Int)) b1)))))) (y := x31) Try.underlying45 Try.sizeOf5 rfl rfl hy32 (fun _ => rfl)) rfl ?_
                  refine PWl.step (LR.loadEp Try.isAgg5 rfl rfl) rfl ?_
                  refine PWl.step (LR.assign rfl) rfl ?_
                  refine PWl.nil ?_
                  refine PWc.region ?_
                  refine PWl.step (LR.move rfl) rfl ?_
                  refine PWl.step (LR.shl rfl rfl (by decide) rfl) rfl ?_
                  refine PWl.step (LR.move rfl) rfl ?_
                  refine PWl.step (LR.convInt Try.underlying36 (by rw [Try.underlying5]; rfl) rfl rfl) rfl ?_
                  refine PWl.step (LR.or rfl rfl) rfl ?_
                  refine PWl.step (LR.assign rfl) rfl ?_
                  refine PWl.nil ?_
                  refine PWc.region ?_
                  refine PWl.step (LR.addW rfl rfl) rfl ?_
                  refine PWl.step (LR.move rfl) rfl ?_
                  refine PWl.nil ?_
                  exact ⟨((bOr .u64 (IntKind.u64.wrap (v28 * 2 ^ 8)) (IntKind.u64.wrap x31)), (IntKind.i64.wrap (v29 + 1))), (), h, Sub.of rfl (.cons rfl rfl <| .cons rfl rfl <| .cons rfl rfl <| .cons rfl rfl <| .cons rfl rfl <| .cons rfl rfl <| .nil) (.nil)⟩
                · replace h := iF hc30 h
                  refine PWc.exit ?_
                  exact ⟨v28, (), h, Sub.of rfl (.cons rfl rfl <| .cons rfl rfl <| .cons rfl rfl <| .nil) (.nil)⟩
              · rintro v19 _ h
                refine PWc.seq ?_
                refine PWc.region ?_
                refine PWl.step (LR.move rfl) rfl ?_
                refine PWl.step (LR.move rfl) rfl ?_
                refine PWl.step (LR.addW rfl rfl) rfl ?_
                refine PWl.step (LR.move rfl) rfl ?_
                refine PWl.step (LR.addW rfl rfl) rfl ?_
                refine PWl.step (LR.assign rfl) rfl ?_
                refine PWl.step (LR.assign rfl) rfl ?_
                refine PWl.step (LR.assign rfl) rfl ?_
                refine PWl.nil ?_
                refine PWc.ret ?_
                replace h : _ = r0 := h
                subst h
                exact ⟨.inr rfl, _, .cons (.tmp rfl rfl) <| .cons (.tmp rfl rfl) <| .cons (.tmp rfl rfl) <| .nil, rfl⟩
end Go.Proofs

namespace Go.Proofs
open Go.Ep
set_option maxHeartbeats 1000000
set_option maxRecDepth 100000
set_option linter.unusedVariables false
set_option linter.unusedSimpArgs false


theorem pack_New_o_ok (b1 : List Int) (r0 : List Int × Int) (h : (pack_New_o b1).wp (· = r0)) : PObj Try.prog 58 [.d (.sl (List.map (eK .u8) b1))] [] [] (.ref 7 0) (fun _ : Unit => [(7, .cells 133 [.d (.sl (List.map (eK .u8) r0.1)), .d (.v (.int .i64 r0.2))])]) := by
  refine PObj.intro (sl := [(0, _)]) Try.func58 rfl Try.ntmps58 rfl rfl rfl ?_
  intro ctx hK pv
  refine PWc.seq ?_
  refine PWc.region ?_
  refine PWl.step (LR.assign rfl) rfl ?_
  refine PWl.nil ?_
  refine PWc.seq ?_
  refine PWc.region ?_
  refine PWl.step (LR.move rfl) rfl ?_
  replace h := iNeed h
  obtain ⟨hy2, h⟩ := h
  refine PWl.step (LR.appNilT (enc := (eK .u8)) (R := b1) elem45 Try.underlying45 rfl (Src.slT (enc := (eK .u8)) (R := b1) rfl (fun _ => rfl)) (fun _ => rfl) hy2 rfl rfl) rfl ?_
  refine PWl.frz [4] hK (.cons rfl <| .nil) rfl (by simp) ?_
  refine PWl.step (LR.build (ns := [_]) build131 rfl rfl rfl) rfl ?_
  refine PWl.step (LR.build (ns := [_, _]) build133 rfl rfl rfl) rfl ?_
  refine PWl.step (LR.box rfl rfl rfl rfl) rfl ?_
  refine PWl.step (LR.assign rfl) rfl ?_
  refine PWl.nil ?_
  refine PWc.ret ?_
  replace h : _ = r0 := h
  subst h
  exact EndsO.mk () (.inr rfl) (Sub.of (tl := [(2, _)]) (to := [(7, _)]) rfl (.cons rfl rfl <| .nil) (.cons rfl rfl <| .nil)) (.cons (.tmp rfl) <| .nil) rfl rfl

theorem pack_Reader_Err_o_ok (b_1 : List Int) (bad_2 : Int) (r0 : Int × List Int × Int) (h : (pack_Reader_Err_o b_1 bad_2).wp (· = r0)) : PObj Try.prog 68 [.ref 100 0] [(100, .cells 133 [.d (.sl (List.map (eK .u8) b_1)), .d (.v (.int .i64 bad_2))])] [100] (.d (.v (.int .i64 r0.1))) (fun _ : Unit => [(100, .cells 133 [.d (.sl (List.map (eK .u8) r0.2.1)), .d (.v (.int .i64 r0.2.2))])]) := by
  refine PObj.intro (sl := [(0, _)]) Try.func68 rfl Try.ntmps68 rfl rfl rfl ?_
  intro ctx hK pv
  refine PWc.seq ?_
  refine PWc.region ?_
  refine PWl.step (LR.assign rfl) rfl ?_
  refine PWl.nil ?_
  refine PWc.seq ?_
  refine PWc.seq ?_
  refine PWc.region ?_
  refine PWl.step (LR.move rfl) rfl ?_
  refine PWl.step (LR.eqlPtr Try.underlying81 rfl) rfl ?_
  refine PWl.nil ?_
  refine PWc.condF rfl ?_
  refine PWc.skip ?_
  refine PWc.seq ?_
  refine PWc.region ?_
  refine PWl.step (LR.move rfl) rfl ?_
  refine PWl.step (LR.nilCheckRef rfl) rfl ?_
  refine PWl.step (LR.fieldRef Try.underlying133 rfl Try.sizeOf63 (by decide) rfl rfl) rfl ?_
  refine PWl.step (LR.loadRef Try.isAgg63 rfl rfl rfl) rfl ?_
  refine PWl.step (LR.assign rfl) rfl ?_
  refine PWl.nil ?_
  refine PWc.ret ?_
  replace h : _ = r0 := h
  subst h
  exact EndsO.mk () (.inr rfl) (Sub.of (tl := [(2, _)]) (to := [(100, _), (1100, _)]) rfl (.cons rfl rfl <| .nil) (.cons rfl rfl <| .cons rfl rfl <| .nil)) (.cons (.tmp rfl) <| .nil) rfl rfl

theorem pack_Reader_Fail_o_ok (e1 : Int) (b_2 : List Int) (bad_3 : Int) (r0 : List Int × Int) (h : (pack_Reader_Fail_o e1 b_2 bad_3).wp (· = r0)) : PObj Try.prog 106 [.ref 100 0, .d (.v (.int .i64 e1))] [(100, .cells 133 [.d (.sl (List.map (eK .u8) b_2)), .d (.v (.int .i64 bad_3))])] [100] (.tup []) (fun _ : Unit => [(100, .cells 133 [.d (.sl (List.map (eK .u8) r0.1)), .d (.v (.int .i64 r0.2))])]) := by
  refine PObj.intro (sl := [(0, _), (1, _)]) Try.func106 rfl Try.ntmps106 rfl rfl rfl ?_
  intro ctx hK pv
  refine PWc.seq ?_
  refine PWc.jn (iBind h) (fun (v4 : Bool) (_ : Unit) => ⟨25, [(0, .ref 100 0), (1, .d (.v (.int .i64 e1))), (16, .d (.v (.bool v4)))], [(100, .cells 133 [.d (.sl (List.map (eK .u8) b_2)), .d (.v (.int .i64 bad_3))]), (1100, .pin 100 (pv 100).1 (pv 100).2)]⟩) (fun h => ?_) ?_
  · refine PWc.region ?_
    refine PWl.step (LR.move rfl) rfl ?_
    refine PWl.step (LR.neqPtr Try.underlying81 rfl) rfl ?_
    refine PWl.step (LR.move rfl) rfl ?_
    refine PWl.guardT (LR.move rfl) rfl rfl rfl ?_
    refine PWl.guardT (LR.nilCheckRef rfl) rfl rfl rfl ?_
    refine PWl.guardT (LR.fieldRef Try.underlying133 rfl Try.sizeOf63 (by decide) rfl rfl) rfl rfl rfl ?_
    refine PWl.guardT (LR.loadRef Try.isAgg63 rfl rfl rfl) rfl rfl rfl ?_
    refine PWl.guardT (LR.eql rfl rfl) rfl rfl rfl ?_
    refine PWl.step (LR.pickT rfl rfl) rfl ?_
    refine PWl.step (LR.move rfl) rfl ?_
    refine PWl.split (d := 13) rfl (fun hg5 => ?_) (fun hg5 => ?_)
    · replace h := iT hg5 h
      refine PWl.guardT (LR.move rfl) rfl rfl rfl ?_
      refine PWl.guardT (LR.neq rfl rfl) rfl rfl rfl ?_
      refine PWl.step (LR.pickT rfl rfl) rfl ?_
      refine PWl.nil ?_
      exact ⟨(!decide (e1 = 0)), (), h, Sub.of rfl (.cons rfl rfl <| .cons rfl rfl <| .cons rfl rfl <| .nil) (.cons rfl rfl <| .cons rfl rfl <| .nil)⟩
    · replace h := iF hg5 h
      refine PWl.guardF rfl rfl rfl (by decide) ?_
      refine PWl.guardF rfl rfl rfl (by decide) ?_
      refine PWl.step (LR.pickF rfl rfl) rfl ?_
      refine PWl.nil ?_
      exact ⟨false, (), h, Sub.of rfl (.cons rfl rfl <| .cons rfl rfl <| .cons rfl rfl <| .nil) (.cons rfl rfl <| .cons rfl rfl <| .nil)⟩
  · rintro v4 _ h
    refine PWc.cond rfl (fun hc6 => ?_) (fun hc6 => ?_)
    · replace h := iT hc6 h
      refine PWc.region ?_
      refine PWl.step (LR.move rfl) rfl ?_
      refine PWl.step (LR.move rfl) rfl ?_
      refine PWl.step (LR.move rfl) rfl ?_
      refine PWl.step (LR.nilCheckRef rfl) rfl ?_
      refine PWl.step (LR.fieldRef Try.underlying133 rfl Try.sizeOf63 (by decide) rfl rfl) rfl ?_
      refine PWl.step (LR.storeB (ns := [_, _]) Try.sizeOf63 rfl rfl rfl rfl rfl rfl rfl) rfl ?_
      refine PWl.step (LR.nilCheckRef rfl) rfl ?_
      refine PWl.step (LR.fieldRef Try.underlying133 rfl Try.sizeOf131 (by decide) rfl rfl) rfl ?_
      refine PWl.step (LR.fieldRef Try.underlying131 rfl Try.sizeOf45 (by decide) rfl rfl) rfl ?_
      refine PWl.step (LR.storeB (ns := [_, _]) Try.sizeOf45 rfl rfl rfl rfl rfl rfl rfl) rfl ?_
      refine PWl.sub (Sub.nilCell (id := 100) (j := 0) rfl rfl) ?_
      refine PWl.nil ?_
      replace h : _ = r0 := h
      subst h
      exact EndsO.mk () (.inl rfl) (Sub.of (tl := []) (to := [(100, _), (1100, _)]) rfl (.nil) (.cons rfl rfl <| .cons rfl rfl <| .nil)) (.nil) rfl rfl
    · replace h := iF hc6 h
      refine PWc.skip ?_
      replace h : _ = r0 := h
      subst h
      exact EndsO.mk () (.inl rfl) (Sub.of (tl := []) (to := [(100, _), (1100, _)]) rfl (.nil) (.cons rfl rfl <| .cons rfl rfl <| .nil)) (.nil) rfl rfl

theorem pack_rest_take_o_ok (n1 : Int) (b_2 : List Int) (bad_3 : Int) (r0 : List Int × List Int × Int) (h : (pack_rest_take_o n1 b_2 bad_3).wp (· = r0)) : PObj Try.prog 155 [.ref 100 0, .d (.v (.int .i64 n1))] [(100, .cells 133 [.d (.sl (List.map (eK .u8) b_2)), .d (.v (.int .i64 bad_3))])] [100] (.d (.sl (List.map (eK .u8) r0.1))) (fun _ : Unit => [(100, .cells 133 [.d (.sl (List.map (eK .u8) r0.2.1)), .d (.v (.int .i64 r0.2.2))])]) := by
  refine PObj.intro (sl := [(0, _), (1, _)]) Try.func155 rfl Try.ntmps155 rfl rfl rfl ?_
  intro ctx hK pv
  refine PWc.seq ?_
  refine PWc.region ?_
  refine PWl.step (LR.assignNilRow 5 1 rfl) rfl ?_
  refine PWl.nil ?_
  refine PWc.seq ?_
  refine PWc.region ?_
  refine PWl.step (LR.move rfl) rfl ?_
  refine PWl.step (LR.nilCheckRef rfl) rfl ?_
  refine PWl.step (LR.fieldRef Try.underlying131 rfl Try.sizeOf45 (by decide) rfl rfl) rfl ?_
  refine PWl.step (LR.loadRef Try.isAgg45 rfl rfl rfl) rfl ?_
  refine PWl.step (LR.move rfl) rfl ?_
  replace h := iNeed h
  obtain ⟨hy4, h⟩ := h
  refine PWl.step (LR.cutHT (enc := (eK .u8)) (L := b_2) Try.underlying45 Try.sizeOf5 rfl (fun _ => rfl) rfl hy4) rfl ?_
  refine PWl.step (LR.assign rfl) rfl ?_
  refine PWl.nil ?_
  refine PWc.seq ?_
  refine PWc.region ?_
  refine PWl.step (LR.move rfl) rfl ?_
  refine PWl.step (LR.move rfl) rfl ?_
  refine PWl.step (LR.nilCheckRef rfl) rfl ?_
  refine PWl.step (LR.fieldRef Try.underlying131 rfl Try.sizeOf45 (by decide) rfl rfl) rfl ?_
  refine PWl.step (LR.loadRef Try.isAgg45 rfl rfl rfl) rfl ?_
  refine PWl.step (LR.move rfl) rfl ?_
  replace h := iNeed h
  obtain ⟨hy5, h⟩ := h
  refine PWl.step (LR.cutLT (enc := (eK .u8)) (L := b_2) Try.underlying45 Try.sizeOf5 rfl (fun _ => rfl) rfl hy5) rfl ?_
  refine PWl.step (LR.nilCheckRef rfl) rfl ?_
  refine PWl.step (LR.fieldRef Try.underlying131 rfl Try.sizeOf45 (by decide) rfl rfl) rfl ?_
  refine PWl.step (LR.storeB (ns := [_, _]) Try.sizeOf45 rfl rfl rfl rfl rfl rfl rfl) rfl ?_
  refine PWl.nil ?_
  refine PWc.seq ?_
  refine PWc.region ?_
  refine PWl.step (LR.move rfl) rfl ?_
  refine PWl.re (tl := [(0, _), (1, _), (5, _), (6, _), (7, _), (8, _), (9, _), (10, _), (11, _), (12, _), (13, _), (14, _), (15, _), (16, _), (17, _), (18, _), (19, _), (20, _), (21, _)]) (to := [(100, _), (1100, _)]) rfl (.cons rfl rfl <| .cons rfl rfl <| .cons rfl rfl <| .cons rfl rfl <| .cons rfl rfl <| .cons rfl rfl <| .cons rfl rfl <| .cons rfl rfl <| .cons rfl rfl <| .cons rfl rfl <| .cons rfl rfl <| .cons rfl rfl <| .cons rfl rfl <| .cons rfl rfl <| .cons rfl rfl <| .cons rfl rfl <| .cons rfl rfl <| .cons rfl rfl <| .cons rfl rfl <| .nil) (.cons rfl rfl <| .cons rfl rfl <| .nil) ?_
  refine PWl.step (LR.assign rfl) rfl ?_
  refine PWl.nil ?_
  refine PWc.ret ?_
  replace h : _ = r0 := h
  subst h
  exact EndsO.mk () (.inr rfl) (Sub.of (tl := [(4, _)]) (to := [(100, _), (1100, _)]) rfl (.cons rfl rfl <| .nil) (.cons rfl rfl <| .cons rfl rfl <| .nil)) (.cons (.tmp rfl) <| .nil) rfl rfl

theorem pack_Reader_Num_o_ok (b_1 : List Int) (bad_2 : Int) (r0 : Int × List Int × Int) (h : (pack_Reader_Num_o b_1 bad_2).wp (· = r0)) : PObj Try.prog 105 [.ref 100 0] [(100, .cells 133 [.d (.sl (List.map (eK .u8) b_1)), .d (.v (.int .i64 bad_2))])] [100] (.d (.v (.int .u64 r0.1))) (fun _ : Unit => [(100, .cells 133 [.d (.sl (List.map (eK .u8) r0.2.1)), .d (.v (.int .i64 r0.2.2))])]) := by
  refine PObj.intro (sl := [(0, _)]) Try.func105 rfl Try.ntmps105 rfl rfl rfl ?_
  intro ctx hK pv
  refine PWc.seq ?_
  refine PWc.region ?_
  refine PWl.step (LR.assign rfl) rfl ?_
  refine PWl.nil ?_
  refine PWc.seq ?_
  refine PWc.seq ?_
  refine PWc.region ?_
  refine PWl.step (LR.move rfl) rfl ?_
  replace h := iDet h
  obtain ⟨y3, hy4, h⟩ := h
  refine PWl.step (LR.callObj [(100, 100)] [] [100] (pack_Reader_Err_o_ok b_1 bad_2 y3 hy4) hK rfl Try.call68 rfl (by first | rfl | (simp; done) | (simp [PV.nilD, PV.ren, rn]; omega)) (.cons (by first | rfl | (congr 1; first | (simp; done) | (simp; omega))) <| .nil) rfl rfl rfl rfl) rfl ?_
  refine PWl.step (LR.neq rfl rfl) rfl ?_
  refine PWl.nil ?_
  refine PWc.cond rfl (fun hc5 => ?_) (fun hc5 => ?_)
  · replace h := iT hc5 h
    refine PWc.seq ?_
    refine PWc.re (tl := []) (to := [(100, _), (1100, _)]) rfl (.nil) (.cons rfl rfl <| .cons rfl rfl <| .nil) ?_
    refine PWc.region ?_
    refine PWl.step (LR.assign rfl) rfl ?_
    refine PWl.nil ?_
    refine PWc.ret ?_
    replace h : _ = r0 := h
    subst h
    exact EndsO.mk () (.inr rfl) (Sub.of (tl := [(2, _)]) (to := [(100, _), (1100, _)]) rfl (.cons rfl rfl <| .nil) (.cons rfl rfl <| .cons rfl rfl <| .nil)) (.cons (.tmp rfl) <| .nil) rfl rfl
  · replace h := iF hc5 h
    refine PWc.skip ?_
    refine PWc.seq ?_
    refine PWc.re (tl := [(0, _)]) (to := [(100, _), (1100, _)]) rfl (.cons rfl rfl <| .nil) (.cons rfl rfl <| .cons rfl rfl <| .nil) ?_
    refine PWc.region ?_
    refine PWl.step (LR.move rfl) rfl ?_
    refine PWl.step (LR.nilCheckRef rfl) rfl ?_
    refine PWl.step (LR.fieldRef Try.underlying133 rfl Try.sizeOf131 (by decide) rfl rfl) rfl ?_
    refine PWl.step (LR.fieldRef Try.underlying131 rfl Try.sizeOf45 (by decide) rfl rfl) rfl ?_
    refine PWl.step (LR.loadRef Try.isAgg45 rfl rfl rfl) rfl ?_
    replace h := iDet h
    obtain ⟨v6, hy7, h⟩ := h
    refine PWl.step (LR.callN (num_Read_ok y3.2.1 0 v6 hy7) rfl Try.call154 rfl rfl rfl rfl) rfl ?_
    refine PWl.step (LR.move rfl) rfl ?_
    refine PWl.step (LR.extract rfl rfl) rfl ?_
    refine PWl.step (LR.extract rfl rfl) rfl ?_
    refine PWl.step (LR.extract rfl rfl) rfl ?_
    refine PWl.step (LR.assign rfl) rfl ?_
    refine PWl.step (LR.assign rfl) rfl ?_
    refine PWl.step (LR.assign rfl) rfl ?_
    refine PWl.nil ?_
    refine PWc.seq ?_
    refine PWc.seq ?_
    refine PWc.region ?_
    refine PWl.step (LR.move rfl) rfl ?_
    refine PWl.step (LR.neq rfl rfl) rfl ?_
    refine PWl.nil ?_
    refine PWc.cond rfl (fun hc8 => ?_) (fun hc8 => ?_)
    · replace h := iT hc8 h
      refine PWc.seq ?_
      refine PWc.region ?_
      refine PWl.step (LR.move rfl) rfl ?_
      refine PWl.step (LR.move rfl) rfl ?_
      replace h := iDet h
      obtain ⟨y9, hy10, h⟩ := h
      refine PWl.step (LR.callObj [(100, 100)] [] [100] (pack_Reader_Fail_o_ok v6.2.2 y3.2.1 y3.2.2 y9 hy10) hK rfl Try.call106 rfl (by first | rfl | (simp; done) | (simp [PV.nilD, PV.ren, rn]; omega)) (.cons (by first | rfl | (congr 1; first | (simp; done) | (simp; omega))) <| .nil) rfl rfl rfl rfl) rfl ?_
      refine PWl.nil ?_
      refine PWc.seq ?_
      refine PWc.re (tl := []) (to := [(100, _), (1100, _)]) rfl (.nil) (.cons rfl rfl <| .cons rfl rfl <| .nil) ?_
      refine PWc.region ?_
      refine PWl.step (LR.assign rfl) rfl ?_
      refine PWl.nil ?_
      refine PWc.ret ?_
      replace h : _ = r0 := h
      subst h
      exact EndsO.mk () (.inr rfl) (Sub.of (tl := [(2, _)]) (to := [(100, _), (1100, _)]) rfl (.cons rfl rfl <| .nil) (.cons rfl rfl <| .cons rfl rfl <| .nil)) (.cons (.tmp rfl) <| .nil) rfl rfl
    · replace h := iF hc8 h
      refine PWc.skip ?_
      refine PWc.seq ?_
      refine PWc.region ?_
      refine PWl.step (LR.move rfl) rfl ?_
      refine PWl.step (LR.nilCheckRef rfl) rfl ?_
      refine PWl.step (LR.fieldRef Try.underlying133 rfl Try.sizeOf131 (by decide) rfl rfl) rfl ?_
      refine PWl.step (LR.move rfl) rfl ?_
      replace h := iDet h
      obtain ⟨y11, hy12, h⟩ := h
      refine PWl.step (LR.callObj [(100, 100)] [] [100] (pack_rest_take_o_ok v6.2.1 y3.2.1 y3.2.2 y11 hy12) hK rfl Try.call155 rfl (by first | rfl | (simp; done) | (simp [PV.nilD, PV.ren, rn]; omega)) (.cons (by first | rfl | (congr 1; first | (simp; done) | (simp; omega))) <| .nil) rfl rfl rfl rfl) rfl ?_
      refine PWl.nil ?_
      refine PWc.seq ?_
      refine PWc.re (tl := [(3, _)]) (to := [(100, _), (1100, _)]) rfl (.cons rfl rfl <| .nil) (.cons rfl rfl <| .cons rfl rfl <| .nil) ?_
      refine PWc.region ?_
      refine PWl.step (LR.move rfl) rfl ?_
      refine PWl.step (LR.assign rfl) rfl ?_
      refine PWl.nil ?_
      refine PWc.ret ?_
      replace h : _ = r0 := h
      subst h
      exact EndsO.mk () (.inr rfl) (Sub.of (tl := [(2, _)]) (to := [(100, _), (1100, _)]) rfl (.cons rfl rfl <| .nil) (.cons rfl rfl <| .cons rfl rfl <| .nil)) (.cons (.tmp rfl) <| .nil) rfl rfl

theorem pack_Reader_Upto_o_ok (most1 : Int) (b_2 : List Int) (bad_3 : Int) (r0 : Int × List Int × Int) (h : (pack_Reader_Upto_o most1 b_2 bad_3).wp (· = r0)) : PObj Try.prog 158 [.ref 100 0, .d (.v (.int .u64 most1))] [(100, .cells 133 [.d (.sl (List.map (eK .u8) b_2)), .d (.v (.int .i64 bad_3))])] [100] (.d (.v (.int .u64 r0.1))) (fun _ : Unit => [(100, .cells 133 [.d (.sl (List.map (eK .u8) r0.2.1)), .d (.v (.int .i64 r0.2.2))])]) := by
  refine PObj.intro (sl := [(0, _), (1, _)]) Try.func158 rfl Try.ntmps158 rfl rfl rfl ?_
  intro ctx hK pv
  refine PWc.seq ?_
  refine PWc.region ?_
  refine PWl.step (LR.assign rfl) rfl ?_
  refine PWl.nil ?_
  refine PWc.seq ?_
  refine PWc.region ?_
  refine PWl.step (LR.move rfl) rfl ?_
  replace h := iDet h
  obtain ⟨y4, hy5, h⟩ := h
  refine PWl.step (LR.callObj [(100, 100)] [] [100] (pack_Reader_Num_o_ok b_2 bad_3 y4 hy5) hK rfl Try.call105 rfl (by first | rfl | (simp; done) | (simp [PV.nilD, PV.ren, rn]; omega)) (.cons (by first | rfl | (congr 1; first | (simp; done) | (simp; omega))) <| .nil) rfl rfl rfl rfl) rfl ?_
  refine PWl.step (LR.assign rfl) rfl ?_
  refine PWl.nil ?_
  refine PWc.seq ?_
  refine PWc.seq ?_
  refine PWc.re (tl := [(0, _), (1, _), (5, _)]) (to := [(100, _), (1100, _)]) rfl (.cons rfl rfl <| .cons rfl rfl <| .cons rfl rfl <| .nil) (.cons rfl rfl <| .cons rfl rfl <| .nil) ?_
  refine PWc.region ?_
  refine PWl.step (LR.move rfl) rfl ?_
  refine PWl.step (LR.move rfl) rfl ?_
  refine PWl.step (LR.gtr rfl rfl) rfl ?_
  refine PWl.nil ?_
  refine PWc.cond rfl (fun hc6 => ?_) (fun hc6 => ?_)
  · replace h := iT hc6 h
    refine PWc.seq ?_
    refine PWc.region ?_
    refine PWl.step (LR.move rfl) rfl ?_
    replace h := iDet h
    obtain ⟨y7, hy8, h⟩ := h
    refine PWl.step (LR.callObj [(100, 100)] [] [100] (pack_Reader_Fail_o_ok 4 y4.2.1 y4.2.2 y7 hy8) hK rfl Try.call106 rfl (by first | rfl | (simp; done) | (simp [PV.nilD, PV.ren, rn]; omega)) (.cons (by first | rfl | (congr 1; first | (simp; done) | (simp; omega))) <| .nil) rfl rfl rfl rfl) rfl ?_
    refine PWl.nil ?_
    refine PWc.seq ?_
    refine PWc.re (tl := []) (to := [(100, _), (1100, _)]) rfl (.nil) (.cons rfl rfl <| .cons rfl rfl <| .nil) ?_
    refine PWc.region ?_
    refine PWl.step (LR.assign rfl) rfl ?_
    refine PWl.nil ?_
    refine PWc.ret ?_
    replace h : _ = r0 := h
    subst h
    exact EndsO.mk () (.inr rfl) (Sub.of (tl := [(4, _)]) (to := [(100, _), (1100, _)]) rfl (.cons rfl rfl <| .nil) (.cons rfl rfl <| .cons rfl rfl <| .nil)) (.cons (.tmp rfl) <| .nil) rfl rfl
  · replace h := iF hc6 h
    refine PWc.skip ?_
    refine PWc.seq ?_
    refine PWc.region ?_
    refine PWl.step (LR.move rfl) rfl ?_
    refine PWl.step (LR.assign rfl) rfl ?_
    refine PWl.nil ?_
    refine PWc.ret ?_
    replace h : _ = r0 := h
    subst h
    exact EndsO.mk () (.inr rfl) (Sub.of (tl := [(4, _)]) (to := [(100, _), (1100, _)]) rfl (.cons rfl rfl <| .nil) (.cons rfl rfl <| .cons rfl rfl <| .nil)) (.cons (.tmp rfl) <| .nil) rfl rfl
end Go.Proofs

namespace Go.Proofs
open Go.Ep
set_option maxHeartbeats 1000000
set_option maxRecDepth 100000
set_option linter.unusedVariables false
set_option linter.unusedSimpArgs false


theorem pack_rest_Left_o_ok (b_1 : List Int) (bad_2 : Int) (r0 : Int × List Int × Int) (h : (pack_rest_Left_o b_1 bad_2).wp (· = r0)) : PObj Try.prog 157 [.ref 100 0] [(100, .cells 133 [.d (.sl (List.map (eK .u8) b_1)), .d (.v (.int .i64 bad_2))])] [100] (.d (.v (.int .i64 r0.1))) (fun _ : Unit => [(100, .cells 133 [.d (.sl (List.map (eK .u8) r0.2.1)), .d (.v (.int .i64 r0.2.2))])]) := by
  refine PObj.intro (sl := [(0, _)]) Try.func157 rfl Try.ntmps157 rfl rfl rfl ?_
  intro ctx hK pv
  refine PWc.seq ?_
  refine PWc.region ?_
  refine PWl.step (LR.assign rfl) rfl ?_
  refine PWl.nil ?_
  refine PWc.seq ?_
  refine PWc.seq ?_
  refine PWc.region ?_
  refine PWl.step (LR.move rfl) rfl ?_
  refine PWl.step (LR.eqlPtr Try.underlying192 rfl) rfl ?_
  refine PWl.nil ?_
  refine PWc.condF rfl ?_
  refine PWc.skip ?_
  refine PWc.seq ?_
  refine PWc.region ?_
  refine PWl.step (LR.move rfl) rfl ?_
  refine PWl.step (LR.nilCheckRef rfl) rfl ?_
  refine PWl.step (LR.fieldRef Try.underlying131 rfl Try.sizeOf45 (by decide) rfl rfl) rfl ?_
  refine PWl.step (LR.loadRef Try.isAgg45 rfl rfl rfl) rfl ?_
  refine PWl.step (LR.lenMap (enc := (eK .u8)) (L := b_1) Try.underlying45 rfl) rfl ?_
  refine PWl.step (LR.assign rfl) rfl ?_
  refine PWl.nil ?_
  refine PWc.ret ?_
  replace h : _ = r0 := h
  subst h
  exact EndsO.mk () (.inr rfl) (Sub.of (tl := [(2, _)]) (to := [(100, _), (1100, _)]) rfl (.cons rfl rfl <| .nil) (.cons rfl rfl <| .cons rfl rfl <| .nil)) (.cons (.tmp rfl) <| .nil) rfl rfl

theorem pack_Reader_Left_o_ok (b_1 : List Int) (bad_2 : Int) (r0 : Int × List Int × Int) (h : (pack_Reader_Left_o b_1 bad_2).wp (· = r0)) : PObj Try.prog 111 [.ref 100 0] [(100, .cells 133 [.d (.sl (List.map (eK .u8) b_1)), .d (.v (.int .i64 bad_2))])] [100] (.d (.v (.int .i64 r0.1))) (fun _ : Unit => [(100, .cells 133 [.d (.sl (List.map (eK .u8) r0.2.1)), .d (.v (.int .i64 r0.2.2))])]) := by
  refine PObj.intro (sl := [(0, _)]) Try.func111 rfl Try.ntmps111 rfl rfl rfl ?_
  intro ctx hK pv
  refine PWc.seq ?_
  refine PWc.region ?_
  refine PWl.step (LR.assign rfl) rfl ?_
  refine PWl.nil ?_
  refine PWc.seq ?_
  refine PWc.seq ?_
  refine PWc.region ?_
  refine PWl.step (LR.move rfl) rfl ?_
  refine PWl.step (LR.eqlPtr Try.underlying81 rfl) rfl ?_
  refine PWl.nil ?_
  refine PWc.condF rfl ?_
  refine PWc.skip ?_
  refine PWc.seq ?_
  refine PWc.region ?_
  refine PWl.step (LR.move rfl) rfl ?_
  refine PWl.step (LR.nilCheckRef rfl) rfl ?_
  refine PWl.step (LR.fieldRef Try.underlying133 rfl Try.sizeOf131 (by decide) rfl rfl) rfl ?_
  replace h := iDet h
  obtain ⟨y3, hy4, h⟩ := h
  refine PWl.step (LR.callObj [(100, 100)] [] [100] (pack_rest_Left_o_ok b_1 bad_2 y3 hy4) hK rfl Try.call157 rfl (by first | rfl | (simp; done) | (simp [PV.nilD, PV.ren, rn]; omega)) (.cons (by first | rfl | (congr 1; first | (simp; done) | (simp; omega))) <| .nil) rfl rfl rfl rfl) rfl ?_
  refine PWl.step (LR.assign rfl) rfl ?_
  refine PWl.nil ?_
  refine PWc.ret ?_
  replace h : _ = r0 := h
  subst h
  exact EndsO.mk () (.inr rfl) (Sub.of (tl := [(2, _)]) (to := [(100, _), (1100, _)]) rfl (.cons rfl rfl <| .nil) (.cons rfl rfl <| .cons rfl rfl <| .nil)) (.cons (.tmp rfl) <| .nil) rfl rfl

theorem pack_Reader_End_o_ok (b_1 : List Int) (bad_2 : Int) (r0 : Int × List Int × Int) (h : (pack_Reader_End_o b_1 bad_2).wp (· = r0)) : PObj Try.prog 61 [.ref 100 0] [(100, .cells 133 [.d (.sl (List.map (eK .u8) b_1)), .d (.v (.int .i64 bad_2))])] [100] (.d (.v (.int .i64 r0.1))) (fun _ : Unit => [(100, .cells 133 [.d (.sl (List.map (eK .u8) r0.2.1)), .d (.v (.int .i64 r0.2.2))])]) := by
  refine PObj.intro (sl := [(0, _)]) Try.func61 rfl Try.ntmps61 rfl rfl rfl ?_
  intro ctx hK pv
  refine PWc.seq ?_
  refine PWc.region ?_
  refine PWl.step (LR.assign rfl) rfl ?_
  refine PWl.nil ?_
  refine PWc.seq ?_
  refine PWc.seq ?_
  refine PWc.region ?_
  refine PWl.step (LR.move rfl) rfl ?_
  replace h := iDet h
  obtain ⟨y3, hy4, h⟩ := h
  refine PWl.step (LR.callObj [(100, 100)] [] [100] (pack_Reader_Left_o_ok b_1 bad_2 y3 hy4) hK rfl Try.call111 rfl (by first | rfl | (simp; done) | (simp [PV.nilD, PV.ren, rn]; omega)) (.cons (by first | rfl | (congr 1; first | (simp; done) | (simp; omega))) <| .nil) rfl rfl rfl rfl) rfl ?_
  refine PWl.step (LR.gtr rfl rfl) rfl ?_
  refine PWl.nil ?_
  refine PWc.jn (iBind h) (fun (⟨v5, v6⟩ : List Int × Int) (_ : Unit) => ⟨10, [(0, .ref 100 0)], [(100, .cells 133 [.d (.sl (List.map (eK .u8) v5)), .d (.v (.int .i64 v6))]), (1100, .pin 100 (pv 100).1 (pv 100).2)]⟩) (fun h => ?_) ?_
  · refine PWc.cond rfl (fun hc7 => ?_) (fun hc7 => ?_)
    · replace h := iT hc7 h
      refine PWc.re (tl := [(0, _)]) (to := [(100, _), (1100, _)]) rfl (.cons rfl rfl <| .nil) (.cons rfl rfl <| .cons rfl rfl <| .nil) ?_
      refine PWc.region ?_
      refine PWl.step (LR.move rfl) rfl ?_
      replace h := iDet h
      obtain ⟨y8, hy9, h⟩ := h
      refine PWl.step (LR.callObj [(100, 100)] [] [100] (pack_Reader_Fail_o_ok 4 y3.2.1 y3.2.2 y8 hy9) hK rfl Try.call106 rfl (by first | rfl | (simp; done) | (simp [PV.nilD, PV.ren, rn]; omega)) (.cons (by first | rfl | (congr 1; first | (simp; done) | (simp; omega))) <| .nil) rfl rfl rfl rfl) rfl ?_
      refine PWl.nil ?_
      exact ⟨(y8.1, y8.2), (), h, Sub.of rfl (.cons rfl rfl <| .nil) (.cons rfl rfl <| .cons rfl rfl <| .nil)⟩
    · replace h := iF hc7 h
      refine PWc.skip ?_
      exact ⟨(y3.2.1, y3.2.2), (), h, Sub.of rfl (.cons rfl rfl <| .nil) (.cons rfl rfl <| .cons rfl rfl <| .nil)⟩
  · rintro ⟨v5, v6⟩ _ h
    refine PWc.seq ?_
    refine PWc.region ?_
    refine PWl.step (LR.move rfl) rfl ?_
    replace h := iDet h
    obtain ⟨y10, hy11, h⟩ := h
    refine PWl.step (LR.callObj [(100, 100)] [] [100] (pack_Reader_Err_o_ok v5 v6 y10 hy11) hK rfl Try.call68 rfl (by first | rfl | (simp; done) | (simp [PV.nilD, PV.ren, rn]; omega)) (.cons (by first | rfl | (congr 1; first | (simp; done) | (simp; omega))) <| .nil) rfl rfl rfl rfl) rfl ?_
    refine PWl.step (LR.assign rfl) rfl ?_
    refine PWl.nil ?_
    refine PWc.ret ?_
    replace h : _ = r0 := h
    subst h
    exact EndsO.mk () (.inr rfl) (Sub.of (tl := [(2, _)]) (to := [(100, _), (1100, _)]) rfl (.cons rfl rfl <| .nil) (.cons rfl rfl <| .cons rfl rfl <| .nil)) (.cons (.tmp rfl) <| .nil) rfl rfl

end Go.Proofs


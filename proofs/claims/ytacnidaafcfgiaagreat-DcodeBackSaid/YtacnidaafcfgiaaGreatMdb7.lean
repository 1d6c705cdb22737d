/- Texts that the walks and laws lean on, side by side. -/
import Derived.Test.YtacnidaafcfgiaaGreatMdb2
import Derived.Test.YtacnidaafcfgiaaGreatMdb3
import Derived.Test.YtacnidaafcfgiaaGreatMdb4
import Derived.Test.YtacnidaafcfgiaaGreatMdb5
import Derived.Test.YtacnidaafcfgiaaGreatMdb6
namespace Go.Proofs
open Go.Ep
set_option maxHeartbeats 1000000
set_option maxRecDepth 100000
set_option linter.unusedVariables false
set_option linter.unusedSimpArgs false


theorem num_Read_ok (b1 : List Int) (at2 : Int) (r0 : Int × Int × Int) (h : (num_Read b1 at2).wp (· = r0)) : PFun Tryz.prog 117 [.d (.sl (List.map (eK .u8) b1)), .d (.v (.int .i64 at2))] (.tup [.d (.v (.int .u64 r0.1)), .d (.v (.int .i64 r0.2.1)), .d (.v (.int .i64 r0.2.2))]) := by
  refine PFun.intro (sl := [(0, _), (1, _)]) Tryz.func117 rfl Tryz.ntmps117 rfl rfl ?_
  intro ctx hK
  refine PWc.seq ?_
  refine PWc.region ?_
  refine PWl.step (LR.assign rfl) rfl ?_
  refine PWl.step (LR.assign rfl) rfl ?_
  refine PWl.step (LR.assign rfl) rfl ?_
  refine PWl.nil ?_
  refine PWc.seq ?_
  refine PWc.seq ?_
  refine PWc.jn (iBind h) (fun (v3 : Bool) (_ : Unit) => ⟨75, [(0, .d (.sl (List.map (eK .u8) b1))), (1, .d (.v (.int .i64 at2))), (19, .d (.v (.bool v3)))], []⟩) (fun h => ?_) ?_
  · refine PWc.region ?_
    refine PWl.step (LR.move rfl) rfl ?_
    refine PWl.step (LR.lss rfl rfl) rfl ?_
    refine PWl.step (LR.move rfl) rfl ?_
    refine PWl.split (d := 14) rfl (fun hg4 => ?_) (fun hg4 => ?_)
    · replace h := iT hg4 h
      refine PWl.guardF rfl rfl rfl (by decide) ?_
      refine PWl.guardF rfl rfl rfl (by decide) ?_
      refine PWl.guardF rfl rfl rfl (by decide) ?_
      refine PWl.guardF rfl rfl rfl (by decide) ?_
      refine PWl.step (LR.pickT rfl rfl) rfl ?_
      refine PWl.nil ?_
      exact ⟨true, (), h, Sub.of rfl (.cons rfl rfl <| .cons rfl rfl <| .cons rfl rfl <| .nil) (.nil)⟩
    · replace h := iF hg4 h
      refine PWl.guardT (LR.move rfl) rfl rfl rfl ?_
      refine PWl.guardT (LR.move rfl) rfl rfl rfl ?_
      refine PWl.guardT (LR.lenMap (enc := (eK .u8)) (L := b1) Tryz.underlying48 rfl) rfl rfl rfl ?_
      refine PWl.guardT (LR.gtr rfl rfl) rfl rfl rfl ?_
      refine PWl.step (LR.pickF rfl rfl) rfl ?_
      refine PWl.nil ?_
      exact ⟨(decide ((List.length b1 : Int) < at2)), (), h, Sub.of rfl (.cons rfl rfl <| .cons rfl rfl <| .cons rfl rfl <| .nil) (.nil)⟩
  · rintro v3 _ h
    refine PWc.cond rfl (fun hc5 => ?_) (fun hc5 => ?_)
    · replace h := iT hc5 h
      refine PWc.seq ?_
      refine PWc.region ?_
      refine PWl.step (LR.assign rfl) rfl ?_
      refine PWl.step (LR.assign rfl) rfl ?_
      refine PWl.step (LR.assign rfl) rfl ?_
      refine PWl.nil ?_
      refine PWc.ret ?_
      replace h : _ = r0 := h
      subst h
      exact ⟨.inr rfl, _, .cons (.tmp rfl rfl) <| .cons (.tmp rfl rfl) <| .cons (.tmp rfl rfl) <| .nil, rfl⟩
    · replace h := iF hc5 h
      refine PWc.skip ?_
      refine PWc.seq ?_
      refine PWc.seq ?_
      refine PWc.region ?_
      refine PWl.step (LR.move rfl) rfl ?_
      refine PWl.step (LR.move rfl) rfl ?_
      refine PWl.step (LR.lenMap (enc := (eK .u8)) (L := b1) Tryz.underlying48 rfl) rfl ?_
      refine PWl.step (LR.eql rfl rfl) rfl ?_
      refine PWl.nil ?_
      refine PWc.cond rfl (fun hc6 => ?_) (fun hc6 => ?_)
      · replace h := iT hc6 h
        refine PWc.seq ?_
        refine PWc.region ?_
        refine PWl.step (LR.assign rfl) rfl ?_
        refine PWl.step (LR.assign rfl) rfl ?_
        refine PWl.step (LR.assign rfl) rfl ?_
        refine PWl.nil ?_
        refine PWc.ret ?_
        replace h : _ = r0 := h
        subst h
        exact ⟨.inr rfl, _, .cons (.tmp rfl rfl) <| .cons (.tmp rfl rfl) <| .cons (.tmp rfl rfl) <| .nil, rfl⟩
      · replace h := iF hc6 h
        refine PWc.skip ?_
        refine PWc.seq ?_
        refine PWc.regionD (by kernel_rfl) (by kernel_rfl) ?_
        refine PQl.step (fun _ he ho => LR.move (he rfl rfl)) rfl ?_
        refine PQl.step (fun _ he ho => LR.move (he rfl rfl)) rfl ?_
        replace h := iIdx h
        obtain ⟨x7, hy8, h⟩ := h
        refine PQl.step (fun _ he ho => LR.idxT (enc := (eK .u8)) (L := b1) (y := x7) Tryz.underlying48 Tryz.sizeOf5 (he rfl rfl) (he rfl rfl) hy8 (fun _ => rfl)) rfl ?_
        refine PQl.step (fun _ he ho => LR.loadEp Tryz.isAgg5 (he rfl rfl) rfl) rfl ?_
        refine PQl.step (fun _ he ho => LR.convInt Tryz.underlying3 (by rw [Tryz.underlying5]; rfl) (he rfl rfl) rfl) rfl ?_
        refine PQl.step (fun _ he ho => LR.move (he rfl rfl)) rfl ?_
        refine PQl.step (fun _ he ho => LR.move (he rfl rfl)) rfl ?_
        refine PQl.step (fun _ he ho => LR.addW (he rfl rfl) (he rfl rfl)) rfl ?_
        replace h := iNeed h
        obtain ⟨hy9, h⟩ := h
        refine PQl.step (fun _ he ho => LR.cutLT (enc := (eK .u8)) (L := b1) Tryz.underlying48 Tryz.sizeOf5 (he rfl rfl) (fun _ => rfl) (he rfl rfl) hy9) rfl ?_
        refine PQl.step (fun _ he ho => LR.assign (he rfl rfl)) rfl ?_
        refine PQl.step (fun _ he ho => LR.assign (he rfl rfl)) rfl ?_
        refine PQl.nil ?_
        refine PWc.seq ?_
        refine PWc.block ?_
        refine PWc.seq ?_
        refine PWc.jn (iBind h) (fun (v10 : Bool) (_ : Unit) => ⟨75, [(1, .d (.v (.int .i64 at2))), (7, .d (.v (.int .i64 (IntKind.i64.wrap x7)))), (8, .d (.sl (List.map (eK .u8) ((List.drop (Int.toNat (IntKind.i64.wrap (at2 + 1))) (List.take (Int.toNat (List.length b1 : Int)) b1)))))), (33, .d (.v (.bool v10)))], []⟩) (fun h => ?_) ?_
        · refine PWc.region ?_
          refine PWl.step (LR.move rfl) rfl ?_
          refine PWl.step (LR.gtr rfl rfl) rfl ?_
          refine PWl.step (LR.move rfl) rfl ?_
          refine PWl.re (tl := [(1, _), (7, _), (8, _), (36, _)]) (to := []) rfl (.cons rfl rfl <| .cons rfl rfl <| .cons rfl rfl <| .cons rfl rfl <| .nil) (.nil) ?_
          refine PWl.split (d := 36) rfl (fun hg11 => ?_) (fun hg11 => ?_)
          · replace h := iT hg11 h
            refine PWl.guardF rfl rfl rfl (by decide) ?_
            refine PWl.guardF rfl rfl rfl (by decide) ?_
            refine PWl.guardF rfl rfl rfl (by decide) ?_
            refine PWl.guardU rfl rfl rfl ?_
            refine PWl.guardU rfl rfl rfl ?_
            refine PWl.guardU rfl rfl rfl ?_
            refine PWl.guardF rfl rfl rfl (by decide) ?_
            refine PWl.guardF rfl rfl rfl (by decide) ?_
            refine PWl.guardU rfl rfl rfl ?_
            refine PWl.guardU rfl rfl rfl ?_
            refine PWl.guardU rfl rfl rfl ?_
            refine PWl.guardU rfl rfl rfl ?_
            refine PWl.guardF rfl rfl rfl (by decide) ?_
            refine PWl.step (LR.pickT rfl rfl) rfl ?_
            refine PWl.step (LR.assign rfl) rfl ?_
            refine PWl.nil ?_
            exact ⟨true, (), h, Sub.of rfl (.cons rfl rfl <| .cons rfl rfl <| .cons rfl rfl <| .cons rfl rfl <| .nil) (.nil)⟩
          · replace h := iF hg11 h
            refine PWl.guardT (LR.move rfl) rfl rfl rfl ?_
            refine PWl.guardT (LR.gtr rfl rfl) rfl rfl rfl ?_
            refine PWl.guardT (LR.move rfl) rfl rfl rfl ?_
            refine PWl.split (d := 39) rfl (fun hg12 => ?_) (fun hg12 => ?_)
            · replace h := iT hg12 h
              refine PWl.guardT (LR.move rfl) rfl rfl rfl ?_
              refine PWl.guardT (LR.lenMap (enc := (eK .u8)) (L := (List.drop (Int.toNat (IntKind.i64.wrap (at2 + 1))) (List.take (Int.toNat (List.length b1 : Int)) b1))) Tryz.underlying48 rfl) rfl rfl rfl ?_
              refine PWl.guardT (LR.gtr rfl rfl) rfl rfl rfl ?_
              refine PWl.guardT (LR.pickT rfl rfl) rfl rfl rfl ?_
              refine PWl.guardT (LR.move rfl) rfl rfl rfl ?_
              refine PWl.split (d := 44) rfl (fun hg13 => ?_) (fun hg13 => ?_)
              · replace h := iT hg13 h
                refine PWl.guardT (LR.move rfl) rfl rfl rfl ?_
                replace h := iIdx h
                obtain ⟨x14, hy15, h⟩ := h
                refine PWl.guardT (LR.idxT (enc := (eK .u8)) (L := (List.drop (Int.toNat (IntKind.i64.wrap (at2 + 1))) (List.take (Int.toNat (List.length b1 : Int)) b1))) (y := x14) Tryz.underlying48 Tryz.sizeOf5 rfl rfl hy15 (fun _ => rfl)) rfl rfl rfl ?_
                refine PWl.guardT (LR.loadEp Tryz.isAgg5 rfl rfl) rfl rfl rfl ?_
                refine PWl.guardT (LR.eql rfl rfl) rfl rfl rfl ?_
                refine PWl.guardT (LR.pickT rfl rfl) rfl rfl rfl ?_
                refine PWl.step (LR.pickF rfl rfl) rfl ?_
                refine PWl.re (tl := [(1, _), (7, _), (8, _), (50, _)]) (to := []) rfl (.cons rfl rfl <| .cons rfl rfl <| .cons rfl rfl <| .cons rfl rfl <| .nil) (.nil) ?_
                refine PWl.step (LR.assign rfl) rfl ?_
                refine PWl.nil ?_
                exact ⟨(decide (x14 = 0)), (), h, Sub.of rfl (.cons rfl rfl <| .cons rfl rfl <| .cons rfl rfl <| .cons rfl rfl <| .nil) (.nil)⟩
              · replace h := iF hg13 h
                refine PWl.guardF rfl rfl rfl (by decide) ?_
                refine PWl.guardF rfl rfl rfl (by decide) ?_
                refine PWl.guardF rfl rfl rfl (by decide) ?_
                refine PWl.guardF rfl rfl rfl (by decide) ?_
                refine PWl.guardT (LR.pickF rfl rfl) rfl rfl rfl ?_
                refine PWl.step (LR.pickF rfl rfl) rfl ?_
                refine PWl.re (tl := [(1, _), (7, _), (8, _), (50, _)]) (to := []) rfl (.cons rfl rfl <| .cons rfl rfl <| .cons rfl rfl <| .cons rfl rfl <| .nil) (.nil) ?_
                refine PWl.step (LR.assign rfl) rfl ?_
                refine PWl.nil ?_
                exact ⟨false, (), h, Sub.of rfl (.cons rfl rfl <| .cons rfl rfl <| .cons rfl rfl <| .cons rfl rfl <| .nil) (.nil)⟩
            · replace h := iF hg12 h
              refine PWl.guardF rfl rfl rfl (by decide) ?_
              refine PWl.guardF rfl rfl rfl (by decide) ?_
              refine PWl.guardF rfl rfl rfl (by decide) ?_
              refine PWl.guardT (LR.pickF rfl rfl) rfl rfl rfl ?_
              refine PWl.guardT (LR.move rfl) rfl rfl rfl ?_
              refine PWl.guardF rfl rfl rfl (by decide) ?_
              refine PWl.guardF rfl rfl rfl (by decide) ?_
              refine PWl.guardF rfl rfl rfl (by decide) ?_
              refine PWl.guardF rfl rfl rfl (by decide) ?_
              refine PWl.guardT (LR.pickF rfl rfl) rfl rfl rfl ?_
              refine PWl.step (LR.pickF rfl rfl) rfl ?_
              refine PWl.step (LR.assign rfl) rfl ?_
              refine PWl.nil ?_
              exact ⟨false, (), h, Sub.of rfl (.cons rfl rfl <| .cons rfl rfl <| .cons rfl rfl <| .cons rfl rfl <| .nil) (.nil)⟩
        · rintro v10 _ h
          refine PWc.cond rfl (fun hc16 => ?_) (fun hc16 => ?_)
          · replace h := iT hc16 h
            refine PWc.seq ?_
            refine PWc.region ?_
            refine PWl.step (LR.assign rfl) rfl ?_
            refine PWl.step (LR.assign rfl) rfl ?_
            refine PWl.step (LR.assign rfl) rfl ?_
            refine PWl.nil ?_
            refine PWc.ret ?_
            replace h : _ = r0 := h
            subst h
            exact ⟨.inr rfl, _, .cons (.tmp rfl rfl) <| .cons (.tmp rfl rfl) <| .cons (.tmp rfl rfl) <| .nil, rfl⟩
          · replace h := iF hc16 h
            refine PWc.seq ?_
            refine PWc.region ?_
            refine PWl.step (LR.move rfl) rfl ?_
            refine PWl.step (LR.lenMap (enc := (eK .u8)) (L := (List.drop (Int.toNat (IntKind.i64.wrap (at2 + 1))) (List.take (Int.toNat (List.length b1 : Int)) b1))) Tryz.underlying48 rfl) rfl ?_
            refine PWl.step (LR.move rfl) rfl ?_
            refine PWl.step (LR.lss rfl rfl) rfl ?_
            refine PWl.step (LR.assign rfl) rfl ?_
            refine PWl.nil ?_
            refine PWc.cond rfl (fun hc17 => ?_) (fun hc17 => ?_)
            · replace h := iT hc17 h
              refine PWc.seq ?_
              refine PWc.region ?_
              refine PWl.step (LR.assign rfl) rfl ?_
              refine PWl.step (LR.assign rfl) rfl ?_
              refine PWl.step (LR.assign rfl) rfl ?_
              refine PWl.nil ?_
              refine PWc.ret ?_
              replace h : _ = r0 := h
              subst h
              exact ⟨.inr rfl, _, .cons (.tmp rfl rfl) <| .cons (.tmp rfl rfl) <| .cons (.tmp rfl rfl) <| .nil, rfl⟩
            · replace h := iF hc17 h
              refine PWc.skip ?_
              refine PWc.seq ?_
              refine PWc.region ?_
              refine PWl.step (LR.assign rfl) rfl ?_
              refine PWl.nil ?_
              refine PWc.seq ?_
              refine PWc.seq ?_
              refine PWc.region ?_
              refine PWl.step (LR.move rfl) rfl ?_
              refine PWl.step (LR.move rfl) rfl ?_
              replace h := iNeed h
              obtain ⟨hy18, h⟩ := h
              refine PWl.step (LR.cutHT (enc := (eK .u8)) (L := (List.drop (Int.toNat (IntKind.i64.wrap (at2 + 1))) (List.take (Int.toNat (List.length b1 : Int)) b1))) Tryz.underlying48 Tryz.sizeOf5 rfl (fun _ => rfl) rfl hy18) rfl ?_
              refine PWl.step (LR.lenMap (enc := (eK .u8)) (L := (List.drop (Int.toNat 0) (List.take (Int.toNat (IntKind.i64.wrap x7)) ((List.drop (Int.toNat (IntKind.i64.wrap (at2 + 1))) (List.take (Int.toNat (List.length b1 : Int)) b1)))))) Tryz.underlying48 rfl) rfl ?_
              refine PWl.step (LR.move rfl) rfl ?_
              refine PWl.nil ?_
              refine PWc.jn (iBind h) (fun (v19 : Int) (_ : Unit) => ⟨75, [(1, .d (.v (.int .i64 at2))), (7, .d (.v (.int .i64 (IntKind.i64.wrap x7)))), (9, .d (.v (.int .u64 v19)))], []⟩) (fun h => ?_) ?_
              · refine PWc.block ?_
                refine PWc.loopM (fun (⟨v28, v29⟩ : Int × Int) (_ : Unit) => ⟨75, [(1, .d (.v (.int .i64 at2))), (7, .d (.v (.int .i64 (IntKind.i64.wrap x7)))), (9, .d (.v (.int .u64 v28))), (58, .d (.sl (List.map (eK .u8) ((List.drop (Int.toNat 0) (List.take (Int.toNat (IntKind.i64.wrap x7)) ((List.drop (Int.toNat (IntKind.i64.wrap (at2 + 1))) (List.take (Int.toNat (List.length b1 : Int)) b1))))))))), (59, .d (.v (.int .i64 ((List.length ((List.drop (Int.toNat 0) (List.take (Int.toNat (IntKind.i64.wrap x7)) ((List.drop (Int.toNat (IntKind.i64.wrap (at2 + 1))) (List.take (Int.toNat (List.length b1 : Int)) b1)))))) : Int))))), (60, .d (.v (.int .i64 v29)))], []⟩) () h (Sub.of rfl (.cons rfl rfl <| .cons rfl rfl <| .cons rfl rfl <| .cons rfl rfl <| .cons rfl rfl <| .cons rfl rfl <| .nil) (.nil)) ?_
                rintro N ⟨v28, v29⟩ _ h
                refine PWc.seq ?_
                refine PWc.region ?_
                refine PWl.step (LR.lss rfl rfl) rfl ?_
                refine PWl.nil ?_
                refine PWc.seq ?_
                refine PWc.cond rfl (fun hc30 => ?_) (fun hc30 => ?_)
                · replace h := iT hc30 h
                  refine PWc.skip ?_
                  refine PWc.seq ?_
                  refine PWc.block ?_
                  refine PWc.seq ?_
                  refine PWc.region ?_
                  replace h := iIdx h
                  obtain ⟨x31, hy32, h⟩ := h
                  refine PWl.step (LR.idxT (enc := (eK .u8)) (L := (List.drop (Int.toNat 0) (List.take (Int.toNat (IntKind.i64.wrap x7)) ((List.drop (Int.toNat (IntKind.i64.wrap (at2 + 1))) (List.take (Int.toNat (List.length b1 : Int)) b1)))))) (y := x31) Tryz.underlying48 Tryz.sizeOf5 rfl rfl hy32 (fun _ => rfl)) rfl ?_
                  refine PWl.step (LR.loadEp Tryz.isAgg5 rfl rfl) rfl ?_
                  refine PWl.step (LR.assign rfl) rfl ?_
                  refine PWl.nil ?_
                  refine PWc.region ?_
                  refine PWl.step (LR.move rfl) rfl ?_
                  refine PWl.step (LR.shl rfl rfl (by decide) rfl) rfl ?_
                  refine PWl.step (LR.move rfl) rfl ?_
                  refine PWl.step (LR.convInt Tryz.underlying30 (by rw [Tryz.underlying5]; rfl) rfl rfl) rfl ?_
                  refine PWl.step (LR.or rfl rfl) rfl ?_
                  refine PWl.step (LR.assign rfl) rfl ?_
                  refine PWl.nil ?_
                  refine PWc.region ?_
                  refine PWl.step (LR.addW rfl rfl) rfl ?_
                  refine PWl.step (LR.move rfl) rfl ?_
                  refine PWl.nil ?_
                  exact ⟨((bOr .u64 (IntKind.u64.wrap (v28 * 2 ^ 8)) (IntKind.u64.wrap x31)), (IntKind.i64.wrap (v29 + 1))), (), h, Sub.of rfl (.cons rfl rfl <| .cons rfl rfl <| .cons rfl rfl <| .cons rfl rfl <| .cons rfl rfl <| .cons rfl rfl <| .nil) (.nil)⟩
                · replace h := iF hc30 h
                  refine PWc.exit ?_
                  exact ⟨v28, (), h, Sub.of rfl (.cons rfl rfl <| .cons rfl rfl <| .cons rfl rfl <| .nil) (.nil)⟩
              · rintro v19 _ h
                refine PWc.seq ?_
                refine PWc.region ?_
                refine PWl.step (LR.move rfl) rfl ?_
                refine PWl.step (LR.move rfl) rfl ?_
                refine PWl.step (LR.addW rfl rfl) rfl ?_
                refine PWl.step (LR.move rfl) rfl ?_
                refine PWl.step (LR.addW rfl rfl) rfl ?_
                refine PWl.step (LR.assign rfl) rfl ?_
                refine PWl.step (LR.assign rfl) rfl ?_
                refine PWl.step (LR.assign rfl) rfl ?_
                refine PWl.nil ?_
                refine PWc.ret ?_
                replace h : _ = r0 := h
                subst h
                exact ⟨.inr rfl, _, .cons (.tmp rfl rfl) <| .cons (.tmp rfl rfl) <| .cons (.tmp rfl rfl) <| .nil, rfl⟩

theorem r07_Good_ok (d1 : TDot) (r0 : Bool) (h : (r07_Good d1).wp (· = r0)) : PFun Tryz.prog 53 [.agg (List.map .d (TDot.e d1))] (.d (.v (.bool r0))) := by
  refine PFun.intro (sl := [(0, _)]) Tryz.func53 rfl Tryz.ntmps53 rfl rfl ?_
  intro ctx hK
  refine PWc.seq ?_
  refine PWc.region ?_
  refine PWl.step (LR.box rfl rfl rfl rfl) rfl ?_
  refine PWl.step (LR.assign rfl) rfl ?_
  refine PWl.nil ?_
  refine PWc.seq ?_
  refine PWc.jn (iBind h) (fun (v2 : Bool) (_ : Unit) => ⟨16, [(2, .d (.v (.bool v2)))], []⟩) (fun h => ?_) ?_
  · refine PWc.region ?_
    refine PWl.step (LR.fieldRef Tryz.underlying32 rfl Tryz.sizeOf29 (by decide) rfl rfl) rfl ?_
    refine PWl.step (LR.loadRef Tryz.isAgg29 rfl rfl rfl) rfl ?_
    refine PWl.step (LR.geq rfl rfl) rfl ?_
    refine PWl.step (LR.move rfl) rfl ?_
    refine PWl.split (d := 6) rfl (fun hg3 => ?_) (fun hg3 => ?_)
    · replace h := iT hg3 h
      refine PWl.guardT (LR.fieldRef Tryz.underlying32 rfl Tryz.sizeOf30 (by decide) rfl rfl) rfl rfl rfl ?_
      refine PWl.guardT (LR.loadRef Tryz.isAgg30 rfl rfl rfl) rfl rfl rfl ?_
      refine PWl.guardT (LR.geq rfl rfl) rfl rfl rfl ?_
      refine PWl.step (LR.pickT rfl rfl) rfl ?_
      refine PWl.step (LR.move rfl) rfl ?_
      refine PWl.split (d := 11) rfl (fun hg4 => ?_) (fun hg4 => ?_)
      · replace h := iT hg4 h
        refine PWl.guardT (LR.fieldRef Tryz.underlying32 rfl Tryz.sizeOf30 (by decide) rfl rfl) rfl rfl rfl ?_
        refine PWl.guardT (LR.loadRef Tryz.isAgg30 rfl rfl rfl) rfl rfl rfl ?_
        refine PWl.guardT (LR.lss rfl rfl) rfl rfl rfl ?_
        refine PWl.step (LR.pickT rfl rfl) rfl ?_
        refine PWl.step (LR.assign rfl) rfl ?_
        refine PWl.nil ?_
        exact ⟨(decide (d1.n < 281474976710656)), (), h, Sub.of rfl (.cons rfl rfl <| .nil) (.nil)⟩
      · replace h := iF hg4 h
        refine PWl.guardF rfl rfl rfl (by decide) ?_
        refine PWl.guardF rfl rfl rfl (by decide) ?_
        refine PWl.guardF rfl rfl rfl (by decide) ?_
        refine PWl.step (LR.pickF rfl rfl) rfl ?_
        refine PWl.step (LR.assign rfl) rfl ?_
        refine PWl.nil ?_
        exact ⟨false, (), h, Sub.of rfl (.cons rfl rfl <| .nil) (.nil)⟩
    · replace h := iF hg3 h
      refine PWl.guardF rfl rfl rfl (by decide) ?_
      refine PWl.guardF rfl rfl rfl (by decide) ?_
      refine PWl.guardF rfl rfl rfl (by decide) ?_
      refine PWl.step (LR.pickF rfl rfl) rfl ?_
      refine PWl.step (LR.move rfl) rfl ?_
      refine PWl.guardF rfl rfl rfl (by decide) ?_
      refine PWl.guardF rfl rfl rfl (by decide) ?_
      refine PWl.guardF rfl rfl rfl (by decide) ?_
      refine PWl.step (LR.pickF rfl rfl) rfl ?_
      refine PWl.step (LR.assign rfl) rfl ?_
      refine PWl.nil ?_
      exact ⟨false, (), h, Sub.of rfl (.cons rfl rfl <| .nil) (.nil)⟩
  · rintro v2 _ h
    refine PWc.ret ?_
    replace h : _ = r0 := h
    subst h
    exact ⟨.inr rfl, _, .cons (.tmp rfl rfl) <| .nil, rfl⟩

theorem dot_Cmp_ok (a1 : TDot) (b2 : TDot) (r0 : Int) (h : (dot_Cmp a1 b2).wp (· = r0)) : PFun Tryz.prog 87 [.agg (List.map .d (TDot.e a1)), .agg (List.map .d (TDot.e b2))] (.d (.v (.int .i64 r0))) := by
  refine PFun.intro (sl := [(0, _), (1, _)]) Tryz.func87 rfl Tryz.ntmps87 rfl rfl ?_
  intro ctx hK
  refine PWc.seq ?_
  refine PWc.region ?_
  refine PWl.step (LR.box rfl rfl rfl rfl) rfl ?_
  refine PWl.step (LR.box rfl rfl rfl rfl) rfl ?_
  refine PWl.step (LR.assign rfl) rfl ?_
  refine PWl.nil ?_
  refine PWc.seq ?_
  refine PWc.seq ?_
  refine PWc.region ?_
  refine PWl.step (LR.fieldRef Tryz.underlying32 rfl Tryz.sizeOf29 (by decide) rfl rfl) rfl ?_
  refine PWl.step (LR.loadRef Tryz.isAgg29 rfl rfl rfl) rfl ?_
  refine PWl.step (LR.fieldRef Tryz.underlying32 rfl Tryz.sizeOf29 (by decide) rfl rfl) rfl ?_
  refine PWl.step (LR.loadRef Tryz.isAgg29 rfl rfl rfl) rfl ?_
  replace h := iDet h
  obtain ⟨v3, hy4, h⟩ := h
  refine PWl.step (LR.callN (cmp_Compare_uint16_ok a1.dev b2.dev v3 hy4) rfl Tryz.call104 rfl rfl rfl rfl) rfl ?_
  refine PWl.step (LR.assign rfl) rfl ?_
  refine PWl.nil ?_
  refine PWc.seq ?_
  refine PWc.region ?_
  refine PWl.step (LR.move rfl) rfl ?_
  refine PWl.step (LR.neq rfl rfl) rfl ?_
  refine PWl.nil ?_
  refine PWc.cond rfl (fun hc5 => ?_) (fun hc5 => ?_)
  · replace h := iT hc5 h
    refine PWc.seq ?_
    refine PWc.region ?_
    refine PWl.step (LR.move rfl) rfl ?_
    refine PWl.step (LR.assign rfl) rfl ?_
    refine PWl.nil ?_
    refine PWc.ret ?_
    replace h : _ = r0 := h
    subst h
    exact ⟨.inr rfl, _, .cons (.tmp rfl rfl) <| .nil, rfl⟩
  · replace h := iF hc5 h
    refine PWc.skip ?_
    refine PWc.seq ?_
    refine PWc.region ?_
    refine PWl.step (LR.fieldRef Tryz.underlying32 rfl Tryz.sizeOf30 (by decide) rfl rfl) rfl ?_
    refine PWl.step (LR.loadRef Tryz.isAgg30 rfl rfl rfl) rfl ?_
    refine PWl.step (LR.fieldRef Tryz.underlying32 rfl Tryz.sizeOf30 (by decide) rfl rfl) rfl ?_
    refine PWl.step (LR.loadRef Tryz.isAgg30 rfl rfl rfl) rfl ?_
    replace h := iDet h
    obtain ⟨v6, hy7, h⟩ := h
    refine PWl.step (LR.callN (cmp_Compare_uint64_ok a1.n b2.n v6 hy7) rfl Tryz.call107 rfl rfl rfl rfl) rfl ?_
    refine PWl.step (LR.assign rfl) rfl ?_
    refine PWl.nil ?_
    refine PWc.ret ?_
    replace h : _ = r0 := h
    subst h
    exact ⟨.inr rfl, _, .cons (.tmp rfl rfl) <| .nil, rfl⟩

theorem r07_Cmp_ok (a1 : TDot) (b2 : TDot) (r0 : Int) (h : (r07_Cmp a1 b2).wp (· = r0)) : PFun Tryz.prog 88 [.agg (List.map .d (TDot.e a1)), .agg (List.map .d (TDot.e b2))] (.d (.v (.int .i64 r0))) := by
  refine PFun.intro (sl := [(0, _), (1, _)]) Tryz.func88 rfl Tryz.ntmps88 rfl rfl ?_
  intro ctx hK
  refine PWc.seq ?_
  refine PWc.region ?_
  refine PWl.step (LR.box rfl rfl rfl rfl) rfl ?_
  refine PWl.step (LR.box rfl rfl rfl rfl) rfl ?_
  refine PWl.step (LR.assign rfl) rfl ?_
  refine PWl.nil ?_
  refine PWc.seq ?_
  refine PWc.seq ?_
  refine PWc.region ?_
  refine PWl.step (LR.loadRefAgg (ps := [_, _]) Tryz.isAgg32 Tryz.sizeOf32 rfl rfl rfl rfl) rfl ?_
  refine PWl.step (LR.loadRefAgg (ps := [_, _]) Tryz.isAgg32 Tryz.sizeOf32 rfl rfl rfl rfl) rfl ?_
  refine PWl.step (LR.eqlAgg rfl rfl rfl rfl eq32) rfl ?_
  refine PWl.nil ?_
  refine PWc.cond rfl (fun hc3 => ?_) (fun hc3 => ?_)
  · replace h := iT hc3 h
    refine PWc.seq ?_
    refine PWc.region ?_
    refine PWl.step (LR.assign rfl) rfl ?_
    refine PWl.nil ?_
    refine PWc.ret ?_
    replace h : _ = r0 := h
    subst h
    exact ⟨.inr rfl, _, .cons (.tmp rfl rfl) <| .nil, rfl⟩
  · replace h := iF hc3 h
    refine PWc.skip ?_
    refine PWc.seq ?_
    refine PWc.seq ?_
    refine PWc.jn (iBind h) (fun (v4 : Bool) (_ : Unit) => ⟨27, [(26, .d (.v (.bool v4)))], []⟩) (fun h => ?_) ?_
    · refine PWc.region ?_
      refine PWl.step (LR.fieldRef Tryz.underlying32 rfl Tryz.sizeOf29 (by decide) rfl rfl) rfl ?_
      refine PWl.step (LR.loadRef Tryz.isAgg29 rfl rfl rfl) rfl ?_
      refine PWl.step (LR.fieldRef Tryz.underlying32 rfl Tryz.sizeOf29 (by decide) rfl rfl) rfl ?_
      refine PWl.step (LR.loadRef Tryz.isAgg29 rfl rfl rfl) rfl ?_
      refine PWl.step (LR.lss rfl rfl) rfl ?_
      refine PWl.step (LR.move rfl) rfl ?_
      refine PWl.split (d := 13) rfl (fun hg5 => ?_) (fun hg5 => ?_)
      · replace h := iT hg5 h
        refine PWl.guardF rfl rfl rfl (by decide) ?_
        refine PWl.guardF rfl rfl rfl (by decide) ?_
        refine PWl.guardF rfl rfl rfl (by decide) ?_
        refine PWl.guardF rfl rfl rfl (by decide) ?_
        refine PWl.guardF rfl rfl rfl (by decide) ?_
        refine PWl.guardF rfl rfl rfl (by decide) ?_
        refine PWl.re (tl := [(2, _), (3, _), (13, _), (19, _)]) (to := [(2, _), (3, _)]) rfl (.cons rfl rfl <| .cons rfl rfl <| .cons rfl rfl <| .cons rfl rfl <| .nil) (.cons rfl rfl <| .cons rfl rfl <| .nil) ?_
        refine PWl.guardU rfl rfl rfl ?_
        refine PWl.guardU rfl rfl rfl ?_
        refine PWl.guardU rfl rfl rfl ?_
        refine PWl.guardU rfl rfl rfl ?_
        refine PWl.guardU rfl rfl rfl ?_
        refine PWl.guardF rfl rfl rfl (by decide) ?_
        refine PWl.step (LR.pickT rfl rfl) rfl ?_
        refine PWl.nil ?_
        exact ⟨true, (), h, Sub.of rfl (.cons rfl rfl <| .nil) (.nil)⟩
      · replace h := iF hg5 h
        refine PWl.guardT (LR.fieldRef Tryz.underlying32 rfl Tryz.sizeOf29 (by decide) rfl rfl) rfl rfl rfl ?_
        refine PWl.guardT (LR.loadRef Tryz.isAgg29 rfl rfl rfl) rfl rfl rfl ?_
        refine PWl.guardT (LR.fieldRef Tryz.underlying32 rfl Tryz.sizeOf29 (by decide) rfl rfl) rfl rfl rfl ?_
        refine PWl.guardT (LR.loadRef Tryz.isAgg29 rfl rfl rfl) rfl rfl rfl ?_
        refine PWl.guardT (LR.eql rfl rfl) rfl rfl rfl ?_
        refine PWl.guardT (LR.move rfl) rfl rfl rfl ?_
        refine PWl.re (tl := [(2, _), (3, _), (13, _), (19, _)]) (to := [(2, _), (3, _)]) rfl (.cons rfl rfl <| .cons rfl rfl <| .cons rfl rfl <| .cons rfl rfl <| .nil) (.cons rfl rfl <| .cons rfl rfl <| .nil) ?_
        refine PWl.split (d := 19) rfl (fun hg6 => ?_) (fun hg6 => ?_)
        · replace h := iT hg6 h
          refine PWl.guardT (LR.fieldRef Tryz.underlying32 rfl Tryz.sizeOf30 (by decide) rfl rfl) rfl rfl rfl ?_
          refine PWl.guardT (LR.loadRef Tryz.isAgg30 rfl rfl rfl) rfl rfl rfl ?_
          refine PWl.guardT (LR.fieldRef Tryz.underlying32 rfl Tryz.sizeOf30 (by decide) rfl rfl) rfl rfl rfl ?_
          refine PWl.guardT (LR.loadRef Tryz.isAgg30 rfl rfl rfl) rfl rfl rfl ?_
          refine PWl.guardT (LR.lss rfl rfl) rfl rfl rfl ?_
          refine PWl.guardT (LR.pickT rfl rfl) rfl rfl rfl ?_
          refine PWl.step (LR.pickF rfl rfl) rfl ?_
          refine PWl.nil ?_
          exact ⟨(decide (a1.n < b2.n)), (), h, Sub.of rfl (.cons rfl rfl <| .nil) (.nil)⟩
        · replace h := iF hg6 h
          refine PWl.guardF rfl rfl rfl (by decide) ?_
          refine PWl.guardF rfl rfl rfl (by decide) ?_
          refine PWl.guardF rfl rfl rfl (by decide) ?_
          refine PWl.guardF rfl rfl rfl (by decide) ?_
          refine PWl.guardF rfl rfl rfl (by decide) ?_
          refine PWl.guardT (LR.pickF rfl rfl) rfl rfl rfl ?_
          refine PWl.step (LR.pickF rfl rfl) rfl ?_
          refine PWl.nil ?_
          exact ⟨false, (), h, Sub.of rfl (.cons rfl rfl <| .nil) (.nil)⟩
    · rintro v4 _ h
      refine PWc.cond rfl (fun hc7 => ?_) (fun hc7 => ?_)
      · replace h := iT hc7 h
        refine PWc.seq ?_
        refine PWc.region ?_
        refine PWl.step (LR.assign rfl) rfl ?_
        refine PWl.nil ?_
        refine PWc.ret ?_
        replace h : _ = r0 := h
        subst h
        exact ⟨.inr rfl, _, .cons (.tmp rfl rfl) <| .nil, rfl⟩
      · replace h := iF hc7 h
        refine PWc.skip ?_
        refine PWc.seq ?_
        refine PWc.region ?_
        refine PWl.step (LR.assign rfl) rfl ?_
        refine PWl.nil ?_
        refine PWc.ret ?_
        replace h : _ = r0 := h
        subst h
        exact ⟨.inr rfl, _, .cons (.tmp rfl rfl) <| .nil, rfl⟩

theorem slices_Equal_sl_Run_Run_ok (s1_1 : List TRun) (s2_2 : List TRun) (r0 : Bool) (h : (slices_Equal_sl_Run_Run s1_1 s2_2).wp (· = r0)) : PFun Tryz.prog 101 [.d (.sl (List.map TRun.e s1_1)), .d (.sl (List.map TRun.e s2_2))] (.d (.v (.bool r0))) := by
  refine PFun.intro (sl := [(0, _), (1, _)]) Tryz.func101 rfl Tryz.ntmps101 rfl rfl ?_
  intro ctx hK
  refine PWc.seq ?_
  refine PWc.region ?_
  refine PWl.step (LR.assign rfl) rfl ?_
  refine PWl.nil ?_
  refine PWc.seq ?_
  refine PWc.seq ?_
  refine PWc.region ?_
  refine PWl.step (LR.move rfl) rfl ?_
  refine PWl.step (LR.lenMap (enc := TRun.e) (L := s1_1) Tryz.underlying37 rfl) rfl ?_
  refine PWl.step (LR.move rfl) rfl ?_
  refine PWl.step (LR.lenMap (enc := TRun.e) (L := s2_2) Tryz.underlying37 rfl) rfl ?_
  refine PWl.step (LR.neq rfl rfl) rfl ?_
  refine PWl.nil ?_
  refine PWc.cond rfl (fun hc3 => ?_) (fun hc3 => ?_)
  · replace h := iT hc3 h
    refine PWc.seq ?_
    refine PWc.region ?_
    refine PWl.step (LR.assign rfl) rfl ?_
    refine PWl.nil ?_
    refine PWc.ret ?_
    replace h : _ = r0 := h
    subst h
    exact ⟨.inr rfl, _, .cons (.tmp rfl rfl) <| .nil, rfl⟩
  · replace h := iF hc3 h
    refine PWc.skip ?_
    refine PWc.seq ?_
    refine PWc.seq ?_
    refine PWc.region ?_
    refine PWl.step (LR.move rfl) rfl ?_
    refine PWl.step (LR.lenMap (enc := TRun.e) (L := s1_1) Tryz.underlying37 rfl) rfl ?_
    refine PWl.step (LR.move rfl) rfl ?_
    refine PWl.nil ?_
    refine PWc.jnX (iBind h) (fun (_ : Unit) (_ : Unit) => ⟨26, [], []⟩) (fun h => ?_) ?_
    · refine PWc.block ?_
      refine PWc.loopM (fun (v17 : Int) (_ : Unit) => ⟨26, [(0, .d (.sl (List.map TRun.e s1_1))), (1, .d (.sl (List.map TRun.e s2_2))), (12, .d (.v (.int .i64 (List.length s1_1 : Int)))), (13, .d (.v (.int .i64 v17)))], []⟩) () h (Sub.of rfl (.cons rfl rfl <| .cons rfl rfl <| .cons rfl rfl <| .cons rfl rfl <| .nil) (.nil)) ?_
      rintro N v17 _ h
      refine PWc.seq ?_
      refine PWc.region ?_
      refine PWl.step (LR.lss rfl rfl) rfl ?_
      refine PWl.nil ?_
      refine PWc.seq ?_
      refine PWc.cond rfl (fun hc18 => ?_) (fun hc18 => ?_)
      · replace h := iT hc18 h
        refine PWc.skip ?_
        refine PWc.seq ?_
        refine PWc.block ?_
        refine PWc.seq ?_
        refine PWc.region ?_
        refine PWl.step (LR.move rfl) rfl ?_
        refine PWl.step (LR.assign rfl) rfl ?_
        refine PWl.nil ?_
        refine PWc.seq ?_
        refine PWc.regionD (by kernel_rfl) (by kernel_rfl) ?_
        refine PQl.step (fun _ he ho => LR.move (he rfl rfl)) rfl ?_
        refine PQl.step (fun _ he ho => LR.move (he rfl rfl)) rfl ?_
        replace h := iIdx h
        obtain ⟨x19, hy20, h⟩ := h
        refine PQl.step (fun _ he ho => LR.idxT (enc := TRun.e) (L := s1_1) (y := x19) Tryz.underlying37 Tryz.sizeOf89 (he rfl rfl) (he rfl rfl) hy20 (fun _ => rfl)) rfl ?_
        refine PQl.step (fun _ he ho => LR.loadEpAgg (ys := [_, _]) Tryz.isAgg89 Tryz.sizeOf89 (he rfl rfl) rfl rfl) rfl ?_
        refine PQl.step (fun _ he ho => LR.move (he rfl rfl)) rfl ?_
        refine PQl.step (fun _ he ho => LR.move (he rfl rfl)) rfl ?_
        replace h := iIdx h
        obtain ⟨x21, hy22, h⟩ := h
        refine PQl.step (fun _ he ho => LR.idxT (enc := TRun.e) (L := s2_2) (y := x21) Tryz.underlying37 Tryz.sizeOf89 (he rfl rfl) (he rfl rfl) hy22 (fun _ => rfl)) rfl ?_
        refine PQl.step (fun _ he ho => LR.loadEpAgg (ys := [_, _]) Tryz.isAgg89 Tryz.sizeOf89 (he rfl rfl) rfl rfl) rfl ?_
        refine PQl.step (fun _ he ho => LR.neqAgg (he rfl rfl) (he rfl rfl) rfl rfl eq89) rfl ?_
        refine PQl.nil ?_
        refine PWc.cond rfl (fun hc23 => ?_) (fun hc23 => ?_)
        · replace h := iT hc23 h
          refine PWc.seq ?_
          refine PWc.region ?_
          refine PWl.step (LR.assign rfl) rfl ?_
          refine PWl.nil ?_
          refine PWc.ret ?_
          replace h : _ = r0 := h
          subst h
          exact ⟨.inr rfl, _, .cons (.tmp rfl rfl) <| .nil, rfl⟩
        · replace h := iF hc23 h
          refine PWc.skip ?_
          refine PWc.region ?_
          refine PWl.step (LR.addW rfl rfl) rfl ?_
          refine PWl.step (LR.move rfl) rfl ?_
          refine PWl.nil ?_
          exact ⟨(IntKind.i64.wrap (v17 + 1)), (), h, Sub.of rfl (.cons rfl rfl <| .cons rfl rfl <| .cons rfl rfl <| .cons rfl rfl <| .nil) (.nil)⟩
      · replace h := iF hc18 h
        refine PWc.exit ?_
        exact ⟨(), (), h, Sub.of rfl (.nil) (.nil)⟩
    · rintro _ _ h
      refine PWc.seq ?_
      refine PWc.region ?_
      refine PWl.step (LR.assign rfl) rfl ?_
      refine PWl.nil ?_
      refine PWc.ret ?_
      replace h : _ = r0 := h
      subst h
      exact ⟨.inr rfl, _, .cons (.tmp rfl rfl) <| .nil, rfl⟩
end Go.Proofs

namespace Go.Proofs
open Go.Ep
set_option maxHeartbeats 1000000
set_option maxRecDepth 100000
set_option linter.unusedVariables false
set_option linter.unusedSimpArgs false


theorem ctx_eq_c1_ok (x1 : TPart) (y2 : TPart) (r0 : Bool) (h : (ctx_eq_c1 x1 y2).wp (· = r0)) : PFun Tryz.prog 100 [.agg (List.map .d (TPart.e x1)), .agg (List.map .d (TPart.e y2))] (.d (.v (.bool r0))) := by
  refine PFun.intro (sl := [(0, _), (1, _)]) Tryz.func100 rfl Tryz.ntmps100 rfl rfl ?_
  intro ctx hK
  refine PWc.seq ?_
  refine PWc.region ?_
  refine PWl.step (LR.box rfl rfl rfl rfl) rfl ?_
  refine PWl.step (LR.box rfl rfl rfl rfl) rfl ?_
  refine PWl.step (LR.assign rfl) rfl ?_
  refine PWl.nil ?_
  refine PWc.seq ?_
  refine PWc.jn (iBind h) (fun (v3 : Bool) (_ : Unit) => ⟨17, [(4, .d (.v (.bool v3)))], []⟩) (fun h => ?_) ?_
  · refine PWc.region ?_
    refine PWl.step (LR.fieldRef Tryz.underlying80 rfl Tryz.sizeOf29 (by decide) rfl rfl) rfl ?_
    refine PWl.step (LR.loadRef Tryz.isAgg29 rfl rfl rfl) rfl ?_
    refine PWl.step (LR.fieldRef Tryz.underlying80 rfl Tryz.sizeOf29 (by decide) rfl rfl) rfl ?_
    refine PWl.step (LR.loadRef Tryz.isAgg29 rfl rfl rfl) rfl ?_
    refine PWl.step (LR.eql rfl rfl) rfl ?_
    refine PWl.step (LR.move rfl) rfl ?_
    refine PWl.split (d := 10) rfl (fun hg4 => ?_) (fun hg4 => ?_)
    · replace h := iT hg4 h
      refine PWl.guardT (LR.fieldRef Tryz.underlying80 rfl Tryz.sizeOf37 (by decide) rfl rfl) rfl rfl rfl ?_
      refine PWl.guardT (LR.loadRef Tryz.isAgg37 rfl rfl rfl) rfl rfl rfl ?_
      refine PWl.guardT (LR.fieldRef Tryz.underlying80 rfl Tryz.sizeOf37 (by decide) rfl rfl) rfl rfl rfl ?_
      refine PWl.guardT (LR.loadRef Tryz.isAgg37 rfl rfl rfl) rfl rfl rfl ?_
      replace h := iDet h
      obtain ⟨v5, hy6, h⟩ := h
      refine PWl.guardT (LR.callN (slices_Equal_sl_Run_Run_ok x1.runs y2.runs v5 hy6) rfl Tryz.call101 rfl rfl rfl rfl) rfl rfl rfl ?_
      refine PWl.step (LR.pickT rfl rfl) rfl ?_
      refine PWl.step (LR.assign rfl) rfl ?_
      refine PWl.nil ?_
      exact ⟨v5, (), h, Sub.of rfl (.cons rfl rfl <| .nil) (.nil)⟩
    · replace h := iF hg4 h
      refine PWl.guardF rfl rfl rfl (by decide) ?_
      refine PWl.guardF rfl rfl rfl (by decide) ?_
      refine PWl.guardF rfl rfl rfl (by decide) ?_
      refine PWl.guardF rfl rfl rfl (by decide) ?_
      refine PWl.guardF rfl rfl rfl (by decide) ?_
      refine PWl.step (LR.pickF rfl rfl) rfl ?_
      refine PWl.step (LR.assign rfl) rfl ?_
      refine PWl.nil ?_
      exact ⟨false, (), h, Sub.of rfl (.cons rfl rfl <| .nil) (.nil)⟩
  · rintro v3 _ h
    refine PWc.ret ?_
    replace h : _ = r0 := h
    subst h
    exact ⟨.inr rfl, _, .cons (.tmp rfl rfl) <| .nil, rfl⟩

theorem slices_EqualFunc_Ctx_Ctx_Part_Part_ctx_eq_c1_ok (s1_1 : List TPart) (s2_2 : List TPart) (r0 : Bool) (h : (slices_EqualFunc_Ctx_Ctx_Part_Part_ctx_eq_c1 s1_1 s2_2).wp (· = r0)) : PFun Tryz.prog 99 [.d (.sl (List.map TPart.e s1_1)), .d (.sl (List.map TPart.e s2_2)), .d (.v (.func (.func 100) #[] #[]))] (.d (.v (.bool r0))) := by
  refine PFun.intro (sl := [(0, _), (1, _), (2, _)]) Tryz.func99 rfl Tryz.ntmps99 rfl rfl ?_
  intro ctx hK
  refine PWc.seq ?_
  refine PWc.region ?_
  refine PWl.step (LR.assign rfl) rfl ?_
  refine PWl.nil ?_
  refine PWc.seq ?_
  refine PWc.seq ?_
  refine PWc.region ?_
  refine PWl.step (LR.move rfl) rfl ?_
  refine PWl.step (LR.lenMap (enc := TPart.e) (L := s1_1) Tryz.underlying23 rfl) rfl ?_
  refine PWl.step (LR.move rfl) rfl ?_
  refine PWl.step (LR.lenMap (enc := TPart.e) (L := s2_2) Tryz.underlying23 rfl) rfl ?_
  refine PWl.step (LR.neq rfl rfl) rfl ?_
  refine PWl.nil ?_
  refine PWc.cond rfl (fun hc3 => ?_) (fun hc3 => ?_)
  · replace h := iT hc3 h
    refine PWc.seq ?_
    refine PWc.region ?_
    refine PWl.step (LR.assign rfl) rfl ?_
    refine PWl.nil ?_
    refine PWc.ret ?_
    replace h : _ = r0 := h
    subst h
    exact ⟨.inr rfl, _, .cons (.tmp rfl rfl) <| .nil, rfl⟩
  · replace h := iF hc3 h
    refine PWc.skip ?_
    refine PWc.seq ?_
    refine PWc.seq ?_
    refine PWc.region ?_
    refine PWl.step (LR.move rfl) rfl ?_
    refine PWl.step (LR.lenMap (enc := TPart.e) (L := s1_1) Tryz.underlying23 rfl) rfl ?_
    refine PWl.step (LR.move rfl) rfl ?_
    refine PWl.nil ?_
    refine PWc.jnX (iBind h) (fun (_ : Unit) (_ : Unit) => ⟨32, [], []⟩) (fun h => ?_) ?_
    · refine PWc.block ?_
      refine PWc.loopM (fun (v21 : Int) (_ : Unit) => ⟨32, [(1, .d (.sl (List.map TPart.e s2_2))), (2, .d (.v (.func (.func 100) #[] #[]))), (15, .d (.sl (List.map TPart.e s1_1))), (16, .d (.v (.int .i64 (List.length s1_1 : Int)))), (17, .d (.v (.int .i64 v21)))], []⟩) () h (Sub.of rfl (.cons rfl rfl <| .cons rfl rfl <| .cons rfl rfl <| .cons rfl rfl <| .cons rfl rfl <| .nil) (.nil)) ?_
      rintro N v21 _ h
      refine PWc.seq ?_
      refine PWc.region ?_
      refine PWl.step (LR.lss rfl rfl) rfl ?_
      refine PWl.nil ?_
      refine PWc.seq ?_
      refine PWc.cond rfl (fun hc22 => ?_) (fun hc22 => ?_)
      · replace h := iT hc22 h
        refine PWc.skip ?_
        refine PWc.seq ?_
        refine PWc.block ?_
        refine PWc.seq ?_
        refine PWc.region ?_
        refine PWl.step (LR.move rfl) rfl ?_
        replace h := iIdx h
        obtain ⟨x23, hy24, h⟩ := h
        refine PWl.step (LR.idxT (enc := TPart.e) (L := s1_1) (y := x23) Tryz.underlying23 Tryz.sizeOf80 rfl rfl hy24 (fun _ => rfl)) rfl ?_
        refine PWl.step (LR.loadEpAgg (ys := [_, _]) Tryz.isAgg80 Tryz.sizeOf80 rfl rfl rfl) rfl ?_
        refine PWl.step (LR.allocZ (cs := [_, _]) Tryz.zeroValue80 rfl rfl rfl rfl) rfl ?_
        refine PWl.step (LR.assign rfl) rfl ?_
        refine PWl.step (LR.storeB (ns := [_, _]) Tryz.sizeOf80 rfl rfl rfl rfl rfl rfl rfl) rfl ?_
        refine PWl.nil ?_
        refine PWc.seq ?_
        refine PWc.region ?_
        refine PWl.step (LR.move rfl) rfl ?_
        refine PWl.step (LR.move rfl) rfl ?_
        replace h := iIdx h
        obtain ⟨x25, hy26, h⟩ := h
        refine PWl.step (LR.idxT (enc := TPart.e) (L := s2_2) (y := x25) Tryz.underlying23 Tryz.sizeOf80 rfl rfl hy26 (fun _ => rfl)) rfl ?_
        refine PWl.step (LR.loadEpAgg (ys := [_, _]) Tryz.isAgg80 Tryz.sizeOf80 rfl rfl rfl) rfl ?_
        refine PWl.step (LR.allocZ (cs := [_, _]) Tryz.zeroValue80 rfl rfl rfl rfl) rfl ?_
        refine PWl.step (LR.storeB (ns := [_, _]) Tryz.sizeOf80 rfl rfl rfl rfl rfl rfl rfl) rfl ?_
        refine PWl.nil ?_
        refine PWc.seq ?_
        refine PWc.region ?_
        refine PWl.step (LR.move rfl) rfl ?_
        refine PWl.step (LR.loadRefAgg (ps := [_, _]) Tryz.isAgg80 Tryz.sizeOf80 rfl rfl rfl rfl) rfl ?_
        refine PWl.step (LR.loadRefAgg (ps := [_, _]) Tryz.isAgg80 Tryz.sizeOf80 rfl rfl rfl rfl) rfl ?_
        replace h := iDet h
        obtain ⟨v27, hy28, h⟩ := h
        refine PWl.step (LR.callN (ctx_eq_c1_ok x23 x25 v27 hy28) rfl Tryz.call100 rfl rfl rfl rfl) rfl ?_
        refine PWl.step (LR.not rfl) rfl ?_
        refine PWl.nil ?_
        refine PWc.cond rfl (fun hc29 => ?_) (fun hc29 => ?_)
        · replace h := iT hc29 h
          refine PWc.seq ?_
          refine PWc.region ?_
          refine PWl.re (tl := []) (to := []) rfl (.nil) (.nil) ?_
          refine PWl.step (LR.assign rfl) rfl ?_
          refine PWl.nil ?_
          refine PWc.ret ?_
          replace h : _ = r0 := h
          subst h
          exact ⟨.inr rfl, _, .cons (.tmp rfl rfl) <| .nil, rfl⟩
        · replace h := iF hc29 h
          refine PWc.skip ?_
          refine PWc.region ?_
          refine PWl.re (tl := [(1, _), (2, _), (15, _), (16, _), (17, _)]) (to := []) rfl (.cons rfl rfl <| .cons rfl rfl <| .cons rfl rfl <| .cons rfl rfl <| .cons rfl rfl <| .nil) (.nil) ?_
          refine PWl.step (LR.addW rfl rfl) rfl ?_
          refine PWl.step (LR.move rfl) rfl ?_
          refine PWl.nil ?_
          exact ⟨(IntKind.i64.wrap (v21 + 1)), (), h, Sub.of rfl (.cons rfl rfl <| .cons rfl rfl <| .cons rfl rfl <| .cons rfl rfl <| .cons rfl rfl <| .nil) (.nil)⟩
      · replace h := iF hc22 h
        refine PWc.exit ?_
        exact ⟨(), (), h, Sub.of rfl (.nil) (.nil)⟩
    · rintro _ _ h
      refine PWc.seq ?_
      refine PWc.region ?_
      refine PWl.step (LR.assign rfl) rfl ?_
      refine PWl.nil ?_
      refine PWc.ret ?_
      replace h : _ = r0 := h
      subst h
      exact ⟨.inr rfl, _, .cons (.tmp rfl rfl) <| .nil, rfl⟩

theorem ctx_eq_ok (a1 : List TPart) (b2 : List TPart) (r0 : Bool) (h : (ctx_eq a1 b2).wp (· = r0)) : PFun Tryz.prog 65 [.d (.sl (List.map TPart.e a1)), .d (.sl (List.map TPart.e b2))] (.d (.v (.bool r0))) := by
  refine PFun.intro (sl := [(0, _), (1, _)]) Tryz.func65 rfl Tryz.ntmps65 rfl rfl ?_
  intro ctx hK
  refine PWc.seq ?_
  refine PWc.region ?_
  refine PWl.step (LR.assign rfl) rfl ?_
  refine PWl.nil ?_
  refine PWc.seq ?_
  refine PWc.region ?_
  refine PWl.step (LR.move rfl) rfl ?_
  refine PWl.step (LR.move rfl) rfl ?_
  replace h := iDet h
  obtain ⟨v3, hy4, h⟩ := h
  refine PWl.step (LR.callN (slices_EqualFunc_Ctx_Ctx_Part_Part_ctx_eq_c1_ok a1 b2 v3 hy4) rfl Tryz.call99 rfl rfl rfl rfl) rfl ?_
  refine PWl.step (LR.assign rfl) rfl ?_
  refine PWl.nil ?_
  refine PWc.ret ?_
  replace h : _ = r0 := h
  subst h
  exact ⟨.inr rfl, _, .cons (.tmp rfl rfl) <| .nil, rfl⟩

theorem ctx_Good_ok (c1 : List TPart) (r0 : Bool) (h : (ctx_Good c1).wp (· = r0)) : PFun Tryz.prog 22 [.d (.sl (List.map TPart.e c1))] (.d (.v (.bool r0))) := by
  refine PFun.intro (sl := [(0, _)]) Tryz.func22 rfl Tryz.ntmps22 rfl rfl ?_
  intro ctx hK
  refine PWc.seq ?_
  refine PWc.region ?_
  refine PWl.step (LR.assign rfl) rfl ?_
  refine PWl.nil ?_
  refine PWc.seq ?_
  refine PWc.region ?_
  refine PWl.step (LR.move rfl) rfl ?_
  refine PWl.step (LR.move rfl) rfl ?_
  replace h := iDet h
  obtain ⟨v2, hy3, h⟩ := h
  refine PWl.step (LR.rowN (ctx_Norm_ok c1 v2 hy3) rfl Tryz.call20 rfl rfl rfl rfl) rfl ?_
  replace h := iDet h
  obtain ⟨v4, hy5, h⟩ := h
  refine PWl.frz [5] hK (.cons rfl <| .nil) rfl (by simp) ?_
  refine PWl.step (LR.callN (ctx_eq_ok c1 v2 v4 hy5) rfl Tryz.call65 rfl rfl rfl rfl) rfl ?_
  refine PWl.step (LR.assign rfl) rfl ?_
  refine PWl.nil ?_
  refine PWc.ret ?_
  replace h : _ = r0 := h
  subst h
  exact ⟨.inr rfl, _, .cons (.tmp rfl rfl) <| .nil, rfl⟩

theorem r06_may_ok (x1 : TRun) (r0 : Bool) (h : (r06_may x1).wp (· = r0)) : PFun Tryz.prog 111 [.agg (List.map .d (TRun.e x1))] (.d (.v (.bool r0))) := by
  refine PFun.intro (sl := [(0, _)]) Tryz.func111 rfl Tryz.ntmps111 rfl rfl ?_
  intro ctx hK
  refine PWc.seq ?_
  refine PWc.region ?_
  refine PWl.step (LR.box rfl rfl rfl rfl) rfl ?_
  refine PWl.step (LR.assign rfl) rfl ?_
  refine PWl.nil ?_
  refine PWc.seq ?_
  refine PWc.jn (iBind h) (fun (v2 : Bool) (_ : Unit) => ⟨18, [(2, .d (.v (.bool v2)))], []⟩) (fun h => ?_) ?_
  · refine PWc.region ?_
    refine PWl.step (LR.fieldRef Tryz.underlying89 rfl Tryz.sizeOf30 (by decide) rfl rfl) rfl ?_
    refine PWl.step (LR.loadRef Tryz.isAgg30 rfl rfl rfl) rfl ?_
    refine PWl.step (LR.geq rfl rfl) rfl ?_
    refine PWl.step (LR.move rfl) rfl ?_
    refine PWl.split (d := 6) rfl (fun hg3 => ?_) (fun hg3 => ?_)
    · replace h := iT hg3 h
      refine PWl.guardT (LR.fieldRef Tryz.underlying89 rfl Tryz.sizeOf30 (by decide) rfl rfl) rfl rfl rfl ?_
      refine PWl.guardT (LR.loadRef Tryz.isAgg30 rfl rfl rfl) rfl rfl rfl ?_
      refine PWl.guardT (LR.fieldRef Tryz.underlying89 rfl Tryz.sizeOf30 (by decide) rfl rfl) rfl rfl rfl ?_
      refine PWl.guardT (LR.loadRef Tryz.isAgg30 rfl rfl rfl) rfl rfl rfl ?_
      refine PWl.guardT (LR.leq rfl rfl) rfl rfl rfl ?_
      refine PWl.step (LR.pickT rfl rfl) rfl ?_
      refine PWl.step (LR.move rfl) rfl ?_
      refine PWl.split (d := 13) rfl (fun hg4 => ?_) (fun hg4 => ?_)
      · replace h := iT hg4 h
        refine PWl.guardT (LR.fieldRef Tryz.underlying89 rfl Tryz.sizeOf30 (by decide) rfl rfl) rfl rfl rfl ?_
        refine PWl.guardT (LR.loadRef Tryz.isAgg30 rfl rfl rfl) rfl rfl rfl ?_
        refine PWl.guardT (LR.leq rfl rfl) rfl rfl rfl ?_
        refine PWl.step (LR.pickT rfl rfl) rfl ?_
        refine PWl.step (LR.assign rfl) rfl ?_
        refine PWl.nil ?_
        exact ⟨(decide (x1.hi ≤ 281474976710655)), (), h, Sub.of rfl (.cons rfl rfl <| .nil) (.nil)⟩
      · replace h := iF hg4 h
        refine PWl.guardF rfl rfl rfl (by decide) ?_
        refine PWl.guardF rfl rfl rfl (by decide) ?_
        refine PWl.guardF rfl rfl rfl (by decide) ?_
        refine PWl.step (LR.pickF rfl rfl) rfl ?_
        refine PWl.step (LR.assign rfl) rfl ?_
        refine PWl.nil ?_
        exact ⟨false, (), h, Sub.of rfl (.cons rfl rfl <| .nil) (.nil)⟩
    · replace h := iF hg3 h
      refine PWl.guardF rfl rfl rfl (by decide) ?_
      refine PWl.guardF rfl rfl rfl (by decide) ?_
      refine PWl.guardF rfl rfl rfl (by decide) ?_
      refine PWl.guardF rfl rfl rfl (by decide) ?_
      refine PWl.guardF rfl rfl rfl (by decide) ?_
      refine PWl.step (LR.pickF rfl rfl) rfl ?_
      refine PWl.step (LR.move rfl) rfl ?_
      refine PWl.guardF rfl rfl rfl (by decide) ?_
      refine PWl.guardF rfl rfl rfl (by decide) ?_
      refine PWl.guardF rfl rfl rfl (by decide) ?_
      refine PWl.step (LR.pickF rfl rfl) rfl ?_
      refine PWl.step (LR.assign rfl) rfl ?_
      refine PWl.nil ?_
      exact ⟨false, (), h, Sub.of rfl (.cons rfl rfl <| .nil) (.nil)⟩
  · rintro v2 _ h
    refine PWc.ret ?_
    replace h : _ = r0 := h
    subst h
    exact ⟨.inr rfl, _, .cons (.tmp rfl rfl) <| .nil, rfl⟩

theorem r06_Has_ok (l1 : List TRun) (n2 : Int) (r0 : Bool) (h : (r06_Has l1 n2).wp (· = r0)) : PFun Tryz.prog 72 [.d (.sl (List.map TRun.e l1)), .d (.v (.int .u64 n2))] (.d (.v (.bool r0))) := by
  refine PFun.intro (sl := [(0, _), (1, _)]) Tryz.func72 rfl Tryz.ntmps72 rfl rfl ?_
  intro ctx hK
  refine PWc.seq ?_
  refine PWc.region ?_
  refine PWl.step (LR.assign rfl) rfl ?_
  refine PWl.nil ?_
  refine PWc.seq ?_
  refine PWc.seq ?_
  refine PWc.region ?_
  refine PWl.step (LR.assign rfl) rfl ?_
  refine PWl.nil ?_
  refine PWc.jnX (iBind h) (fun (_ : Unit) (_ : Unit) => ⟨35, [], []⟩) (fun h => ?_) ?_
  · refine PWc.block ?_
    refine PWc.loopM (fun (i30 : Int) (_ : Unit) => ⟨35, [(0, .d (.sl (List.map TRun.e l1))), (1, .d (.v (.int .u64 n2))), (5, .d (.v (.int .i64 i30)))], []⟩) () h (Sub.of rfl (.cons rfl rfl <| .cons rfl rfl <| .cons rfl rfl <| .nil) (.nil)) ?_
    rintro N i30 _ h
    refine PWc.seq ?_
    refine PWc.seq ?_
    refine PWc.region ?_
    refine PWl.step (LR.move rfl) rfl ?_
    refine PWl.step (LR.move rfl) rfl ?_
    refine PWl.step (LR.lenMap (enc := TRun.e) (L := l1) Tryz.underlying37 rfl) rfl ?_
    refine PWl.step (LR.lss rfl rfl) rfl ?_
    refine PWl.nil ?_
    refine PWc.cond rfl (fun hc31 => ?_) (fun hc31 => ?_)
    · replace h := iT hc31 h
      refine PWc.skip ?_
      refine PWc.seq ?_
      refine PWc.block ?_
      refine PWc.seq ?_
      refine PWc.jn (iBind h) (fun (v32 : Bool) (_ : Unit) => ⟨35, [(0, .d (.sl (List.map TRun.e l1))), (1, .d (.v (.int .u64 n2))), (5, .d (.v (.int .i64 i30))), (34, .d (.v (.bool v32)))], []⟩) (fun h => ?_) ?_
      · refine PWc.region ?_
        refine PWl.step (LR.move rfl) rfl ?_
        refine PWl.step (LR.move rfl) rfl ?_
        replace h := iIdx h
        obtain ⟨x33, hy34, h⟩ := h
        refine PWl.step (LR.idxT (enc := TRun.e) (L := l1) (y := x33) Tryz.underlying37 Tryz.sizeOf89 rfl rfl hy34 (fun _ => rfl)) rfl ?_
        refine PWl.step (LR.loadEpAgg (ys := [_, _]) Tryz.isAgg89 Tryz.sizeOf89 rfl rfl rfl) rfl ?_
        replace h := iDet h
        obtain ⟨v35, hy36, h⟩ := h
        refine PWl.step (LR.callN (r06_may_ok x33 v35 hy36) rfl Tryz.call111 rfl rfl rfl rfl) rfl ?_
        refine PWl.step (LR.move rfl) rfl ?_
        refine PWl.split (d := 17) rfl (fun hg37 => ?_) (fun hg37 => ?_)
        · replace h := iT hg37 h
          refine PWl.guardT (LR.move rfl) rfl rfl rfl ?_
          refine PWl.guardT (LR.move rfl) rfl rfl rfl ?_
          replace h := iIdx h
          obtain ⟨x38, hy39, h⟩ := h
          refine PWl.guardT (LR.idxT (enc := TRun.e) (L := l1) (y := x38) Tryz.underlying37 Tryz.sizeOf89 rfl rfl hy39 (fun _ => rfl)) rfl rfl rfl ?_
          refine PWl.guardT (LR.fieldEp Tryz.underlying89 rfl Tryz.sizeOf30 (by decide) rfl rfl) rfl rfl rfl ?_
          refine PWl.guardT (LR.loadEp Tryz.isAgg30 rfl rfl) rfl rfl rfl ?_
          refine PWl.guardT (LR.move rfl) rfl rfl rfl ?_
          refine PWl.guardT (LR.leq rfl rfl) rfl rfl rfl ?_
          refine PWl.re (tl := [(0, _), (1, _), (5, _), (17, _), (18, _), (19, _), (20, _), (21, _), (22, _), (23, _), (24, _)]) (to := []) rfl (.cons rfl rfl <| .cons rfl rfl <| .cons rfl rfl <| .cons rfl rfl <| .cons rfl rfl <| .cons rfl rfl <| .cons rfl rfl <| .cons rfl rfl <| .cons rfl rfl <| .cons rfl rfl <| .cons rfl rfl <| .nil) (.nil) ?_
          refine PWl.step (LR.pickT rfl rfl) rfl ?_
          refine PWl.step (LR.move rfl) rfl ?_
          refine PWl.split (d := 26) rfl (fun hg40 => ?_) (fun hg40 => ?_)
          · replace h := iT hg40 h
            refine PWl.guardT (LR.move rfl) rfl rfl rfl ?_
            refine PWl.guardT (LR.move rfl) rfl rfl rfl ?_
            refine PWl.guardT (LR.move rfl) rfl rfl rfl ?_
            replace h := iIdx h
            obtain ⟨x41, hy42, h⟩ := h
            refine PWl.guardT (LR.idxT (enc := TRun.e) (L := l1) (y := x41) Tryz.underlying37 Tryz.sizeOf89 rfl rfl hy42 (fun _ => rfl)) rfl rfl rfl ?_
            refine PWl.guardT (LR.fieldEp Tryz.underlying89 rfl Tryz.sizeOf30 (by decide) rfl rfl) rfl rfl rfl ?_
            refine PWl.guardT (LR.loadEp Tryz.isAgg30 rfl rfl) rfl rfl rfl ?_
            refine PWl.guardT (LR.leq rfl rfl) rfl rfl rfl ?_
            refine PWl.step (LR.pickT rfl rfl) rfl ?_
            refine PWl.nil ?_
            exact ⟨(decide (n2 ≤ x41.hi)), (), h, Sub.of rfl (.cons rfl rfl <| .cons rfl rfl <| .cons rfl rfl <| .cons rfl rfl <| .nil) (.nil)⟩
          · replace h := iF hg40 h
            refine PWl.guardF rfl rfl rfl (by decide) ?_
            refine PWl.guardF rfl rfl rfl (by decide) ?_
            refine PWl.guardF rfl rfl rfl (by decide) ?_
            refine PWl.guardF rfl rfl rfl (by decide) ?_
            refine PWl.guardF rfl rfl rfl (by decide) ?_
            refine PWl.guardF rfl rfl rfl (by decide) ?_
            refine PWl.guardF rfl rfl rfl (by decide) ?_
            refine PWl.step (LR.pickF rfl rfl) rfl ?_
            refine PWl.nil ?_
            exact ⟨false, (), h, Sub.of rfl (.cons rfl rfl <| .cons rfl rfl <| .cons rfl rfl <| .cons rfl rfl <| .nil) (.nil)⟩
        · replace h := iF hg37 h
          refine PWl.guardF rfl rfl rfl (by decide) ?_
          refine PWl.guardF rfl rfl rfl (by decide) ?_
          refine PWl.guardF rfl rfl rfl (by decide) ?_
          refine PWl.guardF rfl rfl rfl (by decide) ?_
          refine PWl.guardF rfl rfl rfl (by decide) ?_
          refine PWl.guardF rfl rfl rfl (by decide) ?_
          refine PWl.guardF rfl rfl rfl (by decide) ?_
          refine PWl.re (tl := [(0, _), (1, _), (5, _), (17, _), (18, _), (19, _), (20, _), (21, _), (22, _), (23, _), (24, _)]) (to := []) rfl (.cons rfl rfl <| .cons rfl rfl <| .cons rfl rfl <| .cons rfl rfl <| .cons rfl rfl <| .cons rfl rfl <| .cons rfl rfl <| .cons rfl rfl <| .cons rfl rfl <| .cons rfl rfl <| .cons rfl rfl <| .nil) (.nil) ?_
          refine PWl.step (LR.pickF rfl rfl) rfl ?_
          refine PWl.step (LR.move rfl) rfl ?_
          refine PWl.guardF rfl rfl rfl (by decide) ?_
          refine PWl.guardF rfl rfl rfl (by decide) ?_
          refine PWl.guardF rfl rfl rfl (by decide) ?_
          refine PWl.guardF rfl rfl rfl (by decide) ?_
          refine PWl.guardF rfl rfl rfl (by decide) ?_
          refine PWl.guardF rfl rfl rfl (by decide) ?_
          refine PWl.guardF rfl rfl rfl (by decide) ?_
          refine PWl.step (LR.pickF rfl rfl) rfl ?_
          refine PWl.nil ?_
          exact ⟨false, (), h, Sub.of rfl (.cons rfl rfl <| .cons rfl rfl <| .cons rfl rfl <| .cons rfl rfl <| .nil) (.nil)⟩
      · rintro v32 _ h
        refine PWc.cond rfl (fun hc43 => ?_) (fun hc43 => ?_)
        · replace h := iT hc43 h
          refine PWc.seq ?_
          refine PWc.region ?_
          refine PWl.step (LR.assign rfl) rfl ?_
          refine PWl.nil ?_
          refine PWc.ret ?_
          replace h : _ = r0 := h
          subst h
          exact ⟨.inr rfl, _, .cons (.tmp rfl rfl) <| .nil, rfl⟩
        · replace h := iF hc43 h
          refine PWc.skip ?_
          refine PWc.region ?_
          refine PWl.step (LR.move rfl) rfl ?_
          refine PWl.step (LR.addW rfl rfl) rfl ?_
          refine PWl.step (LR.assign rfl) rfl ?_
          refine PWl.nil ?_
          exact ⟨(IntKind.i64.wrap (i30 + 1)), (), h, Sub.of rfl (.cons rfl rfl <| .cons rfl rfl <| .cons rfl rfl <| .nil) (.nil)⟩
    · replace h := iF hc31 h
      refine PWc.exit ?_
      exact ⟨(), (), h, Sub.of rfl (.nil) (.nil)⟩
  · rintro _ _ h
    refine PWc.seq ?_
    refine PWc.region ?_
    refine PWl.step (LR.assign rfl) rfl ?_
    refine PWl.nil ?_
    refine PWc.ret ?_
    replace h : _ = r0 := h
    subst h
    exact ⟨.inr rfl, _, .cons (.tmp rfl rfl) <| .nil, rfl⟩
end Go.Proofs

namespace Go.Proofs
open Go.Ep
set_option maxHeartbeats 1000000
set_option maxRecDepth 100000
set_option linter.unusedVariables false
set_option linter.unusedSimpArgs false


theorem r06_put_ok (l1 : List Int) (n2 : Int) (r0 : List Int) (h : (r06_put l1 n2).wp (· = r0)) : PRow Tryz.prog 158 [.d (.sl (List.map (eK .u64) l1)), .d (.v (.int .u64 n2))] 30 1 (List.map (eK .u64) r0) := by
  refine PRow.intro (sl := [(0, _), (1, _)]) Tryz.func158 rfl Tryz.ntmps158 rfl rfl ?_
  intro ctx hK
  refine PWc.seq ?_
  refine PWc.region ?_
  refine PWl.step (LR.assignNilRow 30 1 rfl) rfl ?_
  refine PWl.nil ?_
  refine PWc.seq ?_
  refine PWc.region ?_
  refine PWl.step (LR.assignNilRow 30 1 rfl) rfl ?_
  refine PWl.nil ?_
  refine PWc.seq ?_
  refine PWc.region ?_
  refine PWl.step (LR.assign rfl) rfl ?_
  refine PWl.nil ?_
  refine PWc.seq ?_
  refine PWc.seq ?_
  refine PWc.region ?_
  refine PWl.step (LR.assign rfl) rfl ?_
  refine PWl.nil ?_
  refine PWc.jn (iBind h) (fun (⟨done3, out4⟩ : Bool × List Int) (_ : Unit) => ⟨48, [(1, .d (.v (.int .u64 n2))), (5, .row 5 (List.length out4)), (6, .d (.v (.bool done3)))], [(5, .row 30 1 (List.map (eK .u64) out4))]⟩) (fun h => ?_) ?_
  · refine PWc.block ?_
    refine PWc.loopM (fun (⟨done43, i44, out45⟩ : Bool × Int × List Int) (_ : Unit) => ⟨48, [(0, .d (.sl (List.map (eK .u64) l1))), (1, .d (.v (.int .u64 n2))), (5, .row 5 (List.length out45)), (6, .d (.v (.bool done43))), (7, .d (.v (.int .i64 i44)))], [(5, .row 30 1 (List.map (eK .u64) out45))]⟩) () h (Sub.of rfl (.cons rfl rfl <| .cons rfl rfl <| .cons rfl rfl <| .cons rfl rfl <| .cons rfl rfl <| .nil) (.cons rfl rfl <| .nil)) ?_
    rintro N ⟨done43, i44, out45⟩ _ h
    refine PWc.seq ?_
    refine PWc.seq ?_
    refine PWc.region ?_
    refine PWl.step (LR.move rfl) rfl ?_
    refine PWl.step (LR.move rfl) rfl ?_
    refine PWl.step (LR.lenMap (enc := (eK .u64)) (L := l1) Tryz.underlying144 rfl) rfl ?_
    refine PWl.step (LR.lss rfl rfl) rfl ?_
    refine PWl.nil ?_
    refine PWc.cond rfl (fun hc46 => ?_) (fun hc46 => ?_)
    · replace h := iT hc46 h
      refine PWc.skip ?_
      refine PWc.seq ?_
      refine PWc.jn (iBind h) (fun (⟨done47, out48⟩ : Bool × List Int) (_ : Unit) => ⟨48, [(0, .d (.sl (List.map (eK .u64) l1))), (1, .d (.v (.int .u64 n2))), (5, .row 5 (List.length out48)), (6, .d (.v (.bool done47))), (7, .d (.v (.int .i64 i44)))], [(5, .row 30 1 (List.map (eK .u64) out48))]⟩) (fun h => ?_) ?_
      · refine PWc.block ?_
        refine PWc.seq ?_
        refine PWc.seq ?_
        refine PWc.jn (iBind h) (fun (v49 : Bool) (_ : Unit) => ⟨48, [(0, .d (.sl (List.map (eK .u64) l1))), (1, .d (.v (.int .u64 n2))), (5, .row 5 (List.length out45)), (6, .d (.v (.bool done43))), (7, .d (.v (.int .i64 i44))), (23, .d (.v (.bool v49)))], [(5, .row 30 1 (List.map (eK .u64) out45))]⟩) (fun h => ?_) ?_
        · refine PWc.region ?_
          refine PWl.step (LR.move rfl) rfl ?_
          refine PWl.step (LR.not rfl) rfl ?_
          refine PWl.step (LR.move rfl) rfl ?_
          refine PWl.split (d := 16) rfl (fun hg50 => ?_) (fun hg50 => ?_)
          · replace h := iT hg50 h
            refine PWl.guardT (LR.move rfl) rfl rfl rfl ?_
            refine PWl.guardT (LR.move rfl) rfl rfl rfl ?_
            replace h := iIdx h
            obtain ⟨x51, hy52, h⟩ := h
            refine PWl.guardT (LR.idxT (enc := (eK .u64)) (L := l1) (y := x51) Tryz.underlying144 Tryz.sizeOf30 rfl rfl hy52 (fun _ => rfl)) rfl rfl rfl ?_
            refine PWl.guardT (LR.loadEp Tryz.isAgg30 rfl rfl) rfl rfl rfl ?_
            refine PWl.guardT (LR.move rfl) rfl rfl rfl ?_
            refine PWl.guardT (LR.geq rfl rfl) rfl rfl rfl ?_
            refine PWl.step (LR.pickT rfl rfl) rfl ?_
            refine PWl.nil ?_
            exact ⟨(decide (n2 ≤ x51)), (), h, Sub.of rfl (.cons rfl rfl <| .cons rfl rfl <| .cons rfl rfl <| .cons rfl rfl <| .cons rfl rfl <| .cons rfl rfl <| .nil) (.cons rfl rfl <| .nil)⟩
          · replace h := iF hg50 h
            refine PWl.guardF rfl rfl rfl (by decide) ?_
            refine PWl.guardF rfl rfl rfl (by decide) ?_
            refine PWl.guardF rfl rfl rfl (by decide) ?_
            refine PWl.guardF rfl rfl rfl (by decide) ?_
            refine PWl.guardF rfl rfl rfl (by decide) ?_
            refine PWl.guardF rfl rfl rfl (by decide) ?_
            refine PWl.step (LR.pickF rfl rfl) rfl ?_
            refine PWl.nil ?_
            exact ⟨false, (), h, Sub.of rfl (.cons rfl rfl <| .cons rfl rfl <| .cons rfl rfl <| .cons rfl rfl <| .cons rfl rfl <| .cons rfl rfl <| .nil) (.cons rfl rfl <| .nil)⟩
        · rintro v49 _ h
          refine PWc.jn (iBind h) (fun (⟨done53, out54⟩ : Bool × List Int) (_ : Unit) => ⟨48, [(0, .d (.sl (List.map (eK .u64) l1))), (1, .d (.v (.int .u64 n2))), (5, .row 5 (List.length out54)), (6, .d (.v (.bool done53))), (7, .d (.v (.int .i64 i44)))], [(5, .row 30 1 (List.map (eK .u64) out54))]⟩) (fun h => ?_) ?_
          · refine PWc.cond rfl (fun hc55 => ?_) (fun hc55 => ?_)
            · replace h := iT hc55 h
              refine PWc.seq ?_
              refine PWc.region ?_
              refine PWl.step (LR.move rfl) rfl ?_
              refine PWl.step (LR.move rfl) rfl ?_
              refine PWl.step (LR.buildSliceD [.tmp 25] elem144 rfl rfl (.cons rfl rfl rfl <| .nil) (by decide) (by decide)) rfl ?_
              replace h := iNeed h
              obtain ⟨hy56, h⟩ := h
              refine PWl.step (LR.appT (enc := (eK .u64)) (L := out45) (R := [n2]) [5, 24] elem144 Tryz.underlying144 rfl rfl rfl (Src.slT (enc := (eK .u64)) (R := [n2]) rfl (fun _ => rfl)) (fun _ => rfl) hy56 rfl rfl) rfl ?_
              refine PWl.step (LR.assign rfl) rfl ?_
              refine PWl.nil ?_
              refine PWc.region ?_
              refine PWl.step (LR.assign rfl) rfl ?_
              refine PWl.nil ?_
              exact ⟨(true, (out45 ++ [n2])), (), h, Sub.of rfl (.cons rfl rfl <| .cons rfl rfl <| .cons rfl rfl <| .cons rfl rfl <| .cons rfl rfl <| .nil) (.cons rfl rfl <| .nil)⟩
            · replace h := iF hc55 h
              refine PWc.skip ?_
              exact ⟨(done43, out45), (), h, Sub.of rfl (.cons rfl rfl <| .cons rfl rfl <| .cons rfl rfl <| .cons rfl rfl <| .cons rfl rfl <| .nil) (.cons rfl rfl <| .nil)⟩
          · rintro ⟨done53, out54⟩ _ h
            refine PWc.seq ?_
            refine PWc.region ?_
            refine PWl.step (LR.move rfl) rfl ?_
            refine PWl.step (LR.move rfl) rfl ?_
            replace h := iIdx h
            obtain ⟨x57, hy58, h⟩ := h
            refine PWl.step (LR.idxT (enc := (eK .u64)) (L := l1) (y := x57) Tryz.underlying144 Tryz.sizeOf30 rfl rfl hy58 (fun _ => rfl)) rfl ?_
            refine PWl.step (LR.loadEp Tryz.isAgg30 rfl rfl) rfl ?_
            refine PWl.step (LR.move rfl) rfl ?_
            refine PWl.step (LR.neq rfl rfl) rfl ?_
            refine PWl.nil ?_
            refine PWc.cond rfl (fun hc59 => ?_) (fun hc59 => ?_)
            · replace h := iT hc59 h
              refine PWc.region ?_
              refine PWl.step (LR.move rfl) rfl ?_
              refine PWl.step (LR.move rfl) rfl ?_
              refine PWl.step (LR.move rfl) rfl ?_
              replace h := iIdx h
              obtain ⟨x60, hy61, h⟩ := h
              refine PWl.step (LR.idxT (enc := (eK .u64)) (L := l1) (y := x60) Tryz.underlying144 Tryz.sizeOf30 rfl rfl hy61 (fun _ => rfl)) rfl ?_
              refine PWl.step (LR.loadEp Tryz.isAgg30 rfl rfl) rfl ?_
              refine PWl.step (LR.buildSliceD [.tmp 38] elem144 rfl rfl (.cons rfl rfl rfl <| .nil) (by decide) (by decide)) rfl ?_
              replace h := iNeed h
              obtain ⟨hy62, h⟩ := h
              refine PWl.step (LR.appT (enc := (eK .u64)) (L := out54) (R := [x60]) [5, 34] elem144 Tryz.underlying144 rfl rfl rfl (Src.slT (enc := (eK .u64)) (R := [x60]) rfl (fun _ => rfl)) (fun _ => rfl) hy62 rfl rfl) rfl ?_
              refine PWl.step (LR.assign rfl) rfl ?_
              refine PWl.nil ?_
              exact ⟨(done53, (out54 ++ [x60])), (), h, Sub.of rfl (.cons rfl rfl <| .cons rfl rfl <| .cons rfl rfl <| .cons rfl rfl <| .cons rfl rfl <| .nil) (.cons rfl rfl <| .nil)⟩
            · replace h := iF hc59 h
              refine PWc.skip ?_
              exact ⟨(done53, out54), (), h, Sub.of rfl (.cons rfl rfl <| .cons rfl rfl <| .cons rfl rfl <| .cons rfl rfl <| .cons rfl rfl <| .nil) (.cons rfl rfl <| .nil)⟩
      · rintro ⟨done47, out48⟩ _ h
        refine PWc.region ?_
        refine PWl.step (LR.move rfl) rfl ?_
        refine PWl.step (LR.addW rfl rfl) rfl ?_
        refine PWl.step (LR.assign rfl) rfl ?_
        refine PWl.nil ?_
        exact ⟨(done47, (IntKind.i64.wrap (i44 + 1)), out48), (), h, Sub.of rfl (.cons rfl rfl <| .cons rfl rfl <| .cons rfl rfl <| .cons rfl rfl <| .cons rfl rfl <| .nil) (.cons rfl rfl <| .nil)⟩
    · replace h := iF hc46 h
      refine PWc.exit ?_
      exact ⟨(done43, out45), (), h, Sub.of rfl (.cons rfl rfl <| .cons rfl rfl <| .cons rfl rfl <| .nil) (.cons rfl rfl <| .nil)⟩
  · rintro ⟨done3, out4⟩ _ h
    refine PWc.seq ?_
    refine PWc.seq ?_
    refine PWc.region ?_
    refine PWl.step (LR.move rfl) rfl ?_
    refine PWl.step (LR.not rfl) rfl ?_
    refine PWl.nil ?_
    refine PWc.jn (iBind h) (fun (out63 : List Int) (_ : Unit) => ⟨48, [(5, .row 5 (List.length out63))], [(5, .row 30 1 (List.map (eK .u64) out63))]⟩) (fun h => ?_) ?_
    · refine PWc.cond rfl (fun hc64 => ?_) (fun hc64 => ?_)
      · replace h := iT hc64 h
        refine PWc.region ?_
        refine PWl.step (LR.move rfl) rfl ?_
        refine PWl.step (LR.move rfl) rfl ?_
        refine PWl.step (LR.buildSliceD [.tmp 44] elem144 rfl rfl (.cons rfl rfl rfl <| .nil) (by decide) (by decide)) rfl ?_
        replace h := iNeed h
        obtain ⟨hy65, h⟩ := h
        refine PWl.step (LR.appT (enc := (eK .u64)) (L := out4) (R := [n2]) [5, 43] elem144 Tryz.underlying144 rfl rfl rfl (Src.slT (enc := (eK .u64)) (R := [n2]) rfl (fun _ => rfl)) (fun _ => rfl) hy65 rfl rfl) rfl ?_
        refine PWl.step (LR.assign rfl) rfl ?_
        refine PWl.nil ?_
        exact ⟨(out4 ++ [n2]), (), h, Sub.of rfl (.cons rfl rfl <| .nil) (.cons rfl rfl <| .nil)⟩
      · replace h := iF hc64 h
        refine PWc.skip ?_
        exact ⟨out4, (), h, Sub.of rfl (.cons rfl rfl <| .nil) (.cons rfl rfl <| .nil)⟩
    · rintro out63 _ h
      refine PWc.seq ?_
      refine PWc.region ?_
      refine PWl.step (LR.move rfl) rfl ?_
      refine PWl.step (LR.assign rfl) rfl ?_
      refine PWl.nil ?_
      refine PWc.ret ?_
      replace h : _ = r0 := h
      subst h
      exact ⟨.inr rfl, 4, rfl, .inr ⟨5, _, rfl, (by simp), rfl⟩⟩

theorem r06_points_ok (a1 : List TRun) (b2 : List TRun) (r0 : List Int) (h : (r06_points a1 b2).wp (· = r0)) : PFun Tryz.prog 132 [.d (.sl (List.map TRun.e a1)), .d (.sl (List.map TRun.e b2))] (.d (.sl (List.map (eK .u64) r0))) := by
  refine PFun.intro (sl := [(0, _), (1, _)]) Tryz.func132 rfl Tryz.ntmps132 rfl rfl ?_
  intro ctx hK
  refine PWc.seq ?_
  refine PWc.region ?_
  refine PWl.step (LR.assignNilRow 30 1 rfl) rfl ?_
  refine PWl.nil ?_
  refine PWc.seq ?_
  refine PWc.region ?_
  refine PWl.step (LR.assignNilRow 30 1 rfl) rfl ?_
  refine PWl.nil ?_
  refine PWc.seq ?_
  refine PWc.region ?_
  refine PWl.step (LR.buildSlice [] elem37 rfl rfl (.nil) (by decide) (by decide) rfl) rfl ?_
  refine PWl.step (LR.move rfl) rfl ?_
  replace h := iNeed h
  obtain ⟨hy3, h⟩ := h
  refine PWl.step (LR.appT (enc := TRun.e) (L := ([] : List TRun)) (R := a1) [8] elem37 Tryz.underlying37 rfl (by first | (simp; done) | (simp; omega) | omega) rfl (Src.slT (enc := TRun.e) (R := a1) rfl (fun _ => rfl)) (fun _ => rfl) hy3 rfl rfl) rfl ?_
  refine PWl.step (LR.move rfl) rfl ?_
  replace h := iNeed h
  obtain ⟨hy4, h⟩ := h
  refine PWl.step (LR.appT (enc := TRun.e) (L := (([] : List TRun) ++ a1)) (R := b2) [10] elem37 Tryz.underlying37 rfl rfl rfl (Src.slT (enc := TRun.e) (R := b2) rfl (fun _ => rfl)) (fun _ => rfl) hy4 rfl rfl) rfl ?_
  refine PWl.step (LR.assign rfl) rfl ?_
  refine PWl.nil ?_
  refine PWc.seq ?_
  refine PWc.seq ?_
  refine PWc.region ?_
  refine PWl.step (LR.assign rfl) rfl ?_
  refine PWl.nil ?_
  refine PWc.jn (iBind h) (fun (out5 : List Int) (_ : Unit) => ⟨40, [(5, .d (.sl (List.map (eK .u64) out5)))], []⟩) (fun h => ?_) ?_
  · refine PWc.block ?_
    refine PWc.loopM (fun (⟨out38, i39⟩ : List Int × Int) (_ : Unit) => ⟨40, [(5, .d (.sl (List.map (eK .u64) out38))), (6, .row 8 ((List.length ((([] : List TRun) ++ a1) ++ b2)))), (7, .d (.v (.int .i64 i39)))], [(8, .row 89 2 (List.map TRun.e (((([] : List TRun) ++ a1) ++ b2))))]⟩) () h (Sub.trans (Sub.frz [5] hK rfl (by first | (simp; done) | (simp; omega) | omega) (AllRow.get (.cons rfl <| .nil))) <| Sub.of rfl (.cons rfl rfl <| .cons rfl (by first | rfl | (simp; done) | (congr 1; first | (simp; done) | (simp; omega))) <| .cons rfl rfl <| .nil) (.cons rfl rfl <| .nil)) ?_
    rintro N ⟨out38, i39⟩ _ h
    refine PWc.seq ?_
    refine PWc.seq ?_
    refine PWc.region ?_
    refine PWl.step (LR.move rfl) rfl ?_
    refine PWl.step (LR.move rfl) rfl ?_
    refine PWl.step (LR.lenRow Tryz.underlying37 rfl) rfl ?_
    refine PWl.step (LR.lss rfl rfl) rfl ?_
    refine PWl.nil ?_
    refine PWc.cond rfl (fun hc40 => ?_) (fun hc40 => ?_)
    · replace h := iT hc40 h
      refine PWc.skip ?_
      refine PWc.seq ?_
      refine PWc.jn (iBind h) (fun (out41 : List Int) (_ : Unit) => ⟨40, [(5, .d (.sl (List.map (eK .u64) out41))), (6, .row 8 ((List.length ((([] : List TRun) ++ a1) ++ b2)))), (7, .d (.v (.int .i64 i39)))], [(8, .row 89 2 (List.map TRun.e (((([] : List TRun) ++ a1) ++ b2))))]⟩) (fun h => ?_) ?_
      · refine PWc.block ?_
        refine PWc.seq ?_
        refine PWc.region ?_
        refine PWl.step (LR.move rfl) rfl ?_
        refine PWl.step (LR.move rfl) rfl ?_
        replace h := iIdx h
        obtain ⟨x42, hy43, h⟩ := h
        refine PWl.step (LR.idxRowT (L := ((([] : List TRun) ++ a1) ++ b2)) (y := x42) Tryz.underlying37 Tryz.sizeOf89 rfl (by first | (simp; done) | (simp; omega) | omega) rfl hy43) rfl ?_
        refine PWl.step (LR.loadRpT (enc := TRun.e) (L := ((([] : List TRun) ++ a1) ++ b2)) (y := x42) Tryz.isAgg89 Tryz.sizeOf89 rfl rfl hy43.2) rfl ?_
        replace h := iDet h
        obtain ⟨v44, hy45, h⟩ := h
        refine PWl.step (LR.callN (r06_may_ok x42 v44 hy45) rfl Tryz.call111 rfl rfl rfl rfl) rfl ?_
        refine PWl.nil ?_
        refine PWc.cond rfl (fun hc46 => ?_) (fun hc46 => ?_)
        · replace h := iT hc46 h
          refine PWc.seq ?_
          refine PWc.region ?_
          refine PWl.step (LR.move rfl) rfl ?_
          refine PWl.step (LR.move rfl) rfl ?_
          refine PWl.step (LR.move rfl) rfl ?_
          replace h := iIdx h
          obtain ⟨x47, hy48, h⟩ := h
          refine PWl.step (LR.idxRowT (L := ((([] : List TRun) ++ a1) ++ b2)) (y := x47) Tryz.underlying37 Tryz.sizeOf89 rfl (by first | (simp; done) | (simp; omega) | omega) rfl hy48) rfl ?_
          refine PWl.step (LR.fieldRp Tryz.underlying89 rfl Tryz.sizeOf30 (by decide) rfl rfl) rfl ?_
          refine PWl.step (LR.loadRpF (enc := TRun.e) (L := ((([] : List TRun) ++ a1) ++ b2)) (y := x47) Tryz.isAgg30 rfl rfl hy48.2 rfl) rfl ?_
          replace h := iDet h
          obtain ⟨v49, hy50, h⟩ := h
          refine PWl.step (LR.rowN (r06_put_ok out38 x47.lo v49 hy50) rfl Tryz.call158 rfl rfl rfl rfl) rfl ?_
          refine PWl.step (LR.assign rfl) rfl ?_
          refine PWl.nil ?_
          refine PWc.region ?_
          refine PWl.step (LR.move rfl) rfl ?_
          refine PWl.re (tl := [(5, _), (6, _), (7, _), (31, _)]) (to := [(8, _), (30, _)]) rfl (.cons rfl rfl <| .cons rfl rfl <| .cons rfl rfl <| .cons rfl rfl <| .nil) (.cons rfl rfl <| .cons rfl rfl <| .nil) ?_
          refine PWl.step (LR.move rfl) rfl ?_
          refine PWl.step (LR.move rfl) rfl ?_
          replace h := iIdx h
          obtain ⟨x51, hy52, h⟩ := h
          refine PWl.step (LR.idxRowT (L := ((([] : List TRun) ++ a1) ++ b2)) (y := x51) Tryz.underlying37 Tryz.sizeOf89 rfl (by first | (simp; done) | (simp; omega) | omega) rfl hy52) rfl ?_
          refine PWl.step (LR.fieldRp Tryz.underlying89 rfl Tryz.sizeOf30 (by decide) rfl rfl) rfl ?_
          refine PWl.step (LR.loadRpF (enc := TRun.e) (L := ((([] : List TRun) ++ a1) ++ b2)) (y := x51) Tryz.isAgg30 rfl rfl hy52.2 rfl) rfl ?_
          refine PWl.step (LR.addW rfl rfl) rfl ?_
          replace h := iDet h
          obtain ⟨v53, hy54, h⟩ := h
          refine PWl.frz [5, 31] hK (.cons rfl <| .cons rfl <| .nil) rfl (by simp) ?_
          refine PWl.step (LR.rowN (r06_put_ok v49 (IntKind.u64.wrap (x51.hi + 1)) v53 hy54) rfl Tryz.call158 rfl rfl rfl rfl) rfl ?_
          refine PWl.step (LR.assign rfl) rfl ?_
          refine PWl.nil ?_
          exact ⟨v53, (), h, Sub.trans (Sub.frz [5, 38] hK rfl (by simp) (AllRow.get (.cons rfl <| .cons rfl <| .nil))) <| Sub.of rfl (.cons rfl rfl <| .cons rfl (by first | rfl | (simp; done) | (congr 1; first | (simp; done) | (simp; omega))) <| .cons rfl rfl <| .nil) (.cons rfl rfl <| .nil)⟩
        · replace h := iF hc46 h
          refine PWc.skip ?_
          exact ⟨out38, (), h, Sub.of rfl (.cons rfl rfl <| .cons rfl (by first | rfl | (simp; done) | (congr 1; first | (simp; done) | (simp; omega))) <| .cons rfl rfl <| .nil) (.cons rfl rfl <| .nil)⟩
      · rintro out41 _ h
        refine PWc.region ?_
        refine PWl.step (LR.move rfl) rfl ?_
        refine PWl.step (LR.addW rfl rfl) rfl ?_
        refine PWl.step (LR.assign rfl) rfl ?_
        refine PWl.nil ?_
        exact ⟨(out41, (IntKind.i64.wrap (i39 + 1))), (), h, Sub.of rfl (.cons rfl rfl <| .cons rfl (by first | rfl | (simp; done) | (congr 1; first | (simp; done) | (simp; omega))) <| .cons rfl rfl <| .nil) (.cons rfl rfl <| .nil)⟩
    · replace h := iF hc40 h
      refine PWc.exit ?_
      exact ⟨out38, (), h, Sub.of rfl (.cons rfl rfl <| .nil) (.nil)⟩
  · rintro out5 _ h
    refine PWc.seq ?_
    refine PWc.region ?_
    refine PWl.step (LR.move rfl) rfl ?_
    refine PWl.step (LR.assign rfl) rfl ?_
    refine PWl.nil ?_
    refine PWc.ret ?_
    replace h : _ = r0 := h
    subst h
    exact ⟨.inr rfl, _, .cons (.tmp rfl rfl) <| .nil, rfl⟩

theorem r06_set_ok (a1 : List TRun) (b2 : List TRun) (how3 : Int) (r0 : List TRun) (h : (r06_set a1 b2 how3).wp (· = r0)) : PRow Tryz.prog 108 [.d (.sl (List.map TRun.e a1)), .d (.sl (List.map TRun.e b2)), .d (.v (.int .i64 how3))] 89 2 (List.map TRun.e r0) := by
  refine PRow.intro (sl := [(0, _), (1, _), (2, _)]) Tryz.func108 rfl Tryz.ntmps108 rfl rfl ?_
  intro ctx hK
  refine PWc.seq ?_
  refine PWc.region ?_
  refine PWl.step (LR.assignNilRow 89 2 rfl) rfl ?_
  refine PWl.nil ?_
  refine PWc.seq ?_
  refine PWc.region ?_
  refine PWl.step (LR.move rfl) rfl ?_
  refine PWl.step (LR.move rfl) rfl ?_
  replace h := iDet h
  obtain ⟨v4, hy5, h⟩ := h
  refine PWl.step (LR.callN (r06_points_ok a1 b2 v4 hy5) rfl Tryz.call132 rfl rfl rfl rfl) rfl ?_
  refine PWl.step (LR.assign rfl) rfl ?_
  refine PWl.nil ?_
  refine PWc.seq ?_
  refine PWc.region ?_
  refine PWl.step (LR.assignNilRow 89 2 rfl) rfl ?_
  refine PWl.nil ?_
  refine PWc.seq ?_
  refine PWc.seq ?_
  refine PWc.region ?_
  refine PWl.step (LR.assign rfl) rfl ?_
  refine PWl.nil ?_
  refine PWc.jn (iBind h) (fun (out6 : List TRun) (_ : Unit) => ⟨100, [(8, .row 8 (List.length out6))], [(8, .row 89 2 (List.map TRun.e out6))]⟩) (fun h => ?_) ?_
  · refine PWc.block ?_
    refine PWc.loopM (fun (⟨i85, out86⟩ : Int × List TRun) (_ : Unit) => ⟨100, [(0, .d (.sl (List.map TRun.e a1))), (1, .d (.sl (List.map TRun.e b2))), (2, .d (.v (.int .i64 how3))), (7, .d (.sl (List.map (eK .u64) v4))), (8, .row 8 (List.length out86)), (9, .d (.v (.int .i64 i85)))], [(8, .row 89 2 (List.map TRun.e out86))]⟩) () h (Sub.of rfl (.cons rfl rfl <| .cons rfl rfl <| .cons rfl rfl <| .cons rfl rfl <| .cons rfl rfl <| .cons rfl rfl <| .nil) (.cons rfl rfl <| .nil)) ?_
    rintro N ⟨i85, out86⟩ _ h
    refine PWc.seq ?_
    refine PWc.seq ?_
    refine PWc.region ?_
    refine PWl.step (LR.move rfl) rfl ?_
    refine PWl.step (LR.addW rfl rfl) rfl ?_
    refine PWl.step (LR.move rfl) rfl ?_
    refine PWl.step (LR.lenMap (enc := (eK .u64)) (L := v4) Tryz.underlying144 rfl) rfl ?_
    refine PWl.step (LR.lss rfl rfl) rfl ?_
    refine PWl.nil ?_
    refine PWc.cond rfl (fun hc87 => ?_) (fun hc87 => ?_)
    · replace h := iT hc87 h
      refine PWc.skip ?_
      refine PWc.seq ?_
      refine PWc.jn (iBind h) (fun (out88 : List TRun) (_ : Unit) => ⟨100, [(0, .d (.sl (List.map TRun.e a1))), (1, .d (.sl (List.map TRun.e b2))), (2, .d (.v (.int .i64 how3))), (7, .d (.sl (List.map (eK .u64) v4))), (8, .row 8 (List.length out88)), (9, .d (.v (.int .i64 i85)))], [(8, .row 89 2 (List.map TRun.e out88))]⟩) (fun h => ?_) ?_
      · refine PWc.block ?_
        refine PWc.seq ?_
        refine PWc.regionD (by kernel_rfl) (by kernel_rfl) ?_
        refine PQl.step (fun _ he ho => LR.move (he rfl rfl)) rfl ?_
        refine PQl.step (fun _ he ho => LR.move (he rfl rfl)) rfl ?_
        refine PQl.step (fun _ he ho => LR.move (he rfl rfl)) rfl ?_
        replace h := iIdx h
        obtain ⟨x89, hy90, h⟩ := h
        refine PQl.step (fun _ he ho => LR.idxT (enc := (eK .u64)) (L := v4) (y := x89) Tryz.underlying144 Tryz.sizeOf30 (he rfl rfl) (he rfl rfl) hy90 (fun _ => rfl)) rfl ?_
        refine PQl.step (fun _ he ho => LR.loadEp Tryz.isAgg30 (he rfl rfl) rfl) rfl ?_
        replace h := iDet h
        obtain ⟨v91, hy92, h⟩ := h
        refine PQl.step (fun _ he ho => LR.callN (r06_Has_ok a1 x89 v91 hy92) (he rfl rfl) Tryz.call72 (evsE he rfl rfl) rfl rfl rfl) rfl ?_
        refine PQl.step (fun _ he ho => LR.move (he rfl rfl)) rfl ?_
        refine PQl.step (fun _ he ho => LR.move (he rfl rfl)) rfl ?_
        refine PQl.step (fun _ he ho => LR.move (he rfl rfl)) rfl ?_
        replace h := iIdx h
        obtain ⟨x93, hy94, h⟩ := h
        refine PQl.step (fun _ he ho => LR.idxT (enc := (eK .u64)) (L := v4) (y := x93) Tryz.underlying144 Tryz.sizeOf30 (he rfl rfl) (he rfl rfl) hy94 (fun _ => rfl)) rfl ?_
        refine PQl.step (fun _ he ho => LR.loadEp Tryz.isAgg30 (he rfl rfl) rfl) rfl ?_
        replace h := iDet h
        obtain ⟨v95, hy96, h⟩ := h
        refine PQl.step (fun _ he ho => LR.callN (r06_Has_ok b2 x93 v95 hy96) (he rfl rfl) Tryz.call72 (evsE he rfl rfl) rfl rfl rfl) rfl ?_
        refine PQl.step (fun _ he ho => LR.assign (he rfl rfl)) rfl ?_
        refine PQl.step (fun _ he ho => LR.assign (he rfl rfl)) rfl ?_
        refine PQl.nil ?_
        refine PWc.seq ?_
        refine PWc.re (tl := [(0, _), (1, _), (2, _), (7, _), (8, _), (9, _), (10, _), (11, _)]) (to := [(8, _)]) rfl (.cons rfl rfl <| .cons rfl rfl <| .cons rfl rfl <| .cons rfl rfl <| .cons rfl rfl <| .cons rfl rfl <| .cons rfl rfl <| .cons rfl rfl <| .nil) (.cons rfl rfl <| .nil) ?_
        refine PWc.jn (iBind h) (fun (in97 : Bool) (_ : Unit) => ⟨100, [(0, .d (.sl (List.map TRun.e a1))), (1, .d (.sl (List.map TRun.e b2))), (2, .d (.v (.int .i64 how3))), (7, .d (.sl (List.map (eK .u64) v4))), (8, .row 8 (List.length out86)), (9, .d (.v (.int .i64 i85))), (10, .d (.v (.bool v91))), (11, .d (.v (.bool v95))), (12, .d (.v (.bool in97)))], [(8, .row 89 2 (List.map TRun.e out86))]⟩) (fun h => ?_) ?_
        · refine PWc.region ?_
          refine PWl.step (LR.move rfl) rfl ?_
          refine PWl.step (LR.move rfl) rfl ?_
          refine PWl.split (d := 37) rfl (fun hg98 => ?_) (fun hg98 => ?_)
          · replace h := iT hg98 h
            refine PWl.guardF rfl rfl rfl (by decide) ?_
            refine PWl.step (LR.pickT rfl rfl) rfl ?_
            refine PWl.step (LR.assign rfl) rfl ?_
            refine PWl.nil ?_
            exact ⟨true, (), h, Sub.of rfl (.cons rfl rfl <| .cons rfl rfl <| .cons rfl rfl <| .cons rfl rfl <| .cons rfl rfl <| .cons rfl rfl <| .cons rfl rfl <| .cons rfl rfl <| .cons rfl rfl <| .nil) (.cons rfl rfl <| .nil)⟩
          · replace h := iF hg98 h
            refine PWl.guardT (LR.move rfl) rfl rfl rfl ?_
            refine PWl.step (LR.pickF rfl rfl) rfl ?_
            refine PWl.step (LR.assign rfl) rfl ?_
            refine PWl.nil ?_
            exact ⟨v95, (), h, Sub.of rfl (.cons rfl rfl <| .cons rfl rfl <| .cons rfl rfl <| .cons rfl rfl <| .cons rfl rfl <| .cons rfl rfl <| .cons rfl rfl <| .cons rfl rfl <| .cons rfl rfl <| .nil) (.cons rfl rfl <| .nil)⟩
        · rintro in97 _ h
          refine PWc.seq ?_
          refine PWc.seq ?_
          refine PWc.region ?_
          refine PWl.step (LR.move rfl) rfl ?_
          refine PWl.step (LR.eql rfl rfl) rfl ?_
          refine PWl.nil ?_
          refine PWc.jn (iBind h) (fun (in99 : Bool) (_ : Unit) => ⟨100, [(0, .d (.sl (List.map TRun.e a1))), (1, .d (.sl (List.map TRun.e b2))), (2, .d (.v (.int .i64 how3))), (7, .d (.sl (List.map (eK .u64) v4))), (8, .row 8 (List.length out86)), (9, .d (.v (.int .i64 i85))), (10, .d (.v (.bool v91))), (11, .d (.v (.bool v95))), (12, .d (.v (.bool in99)))], [(8, .row 89 2 (List.map TRun.e out86))]⟩) (fun h => ?_) ?_
          · refine PWc.cond rfl (fun hc100 => ?_) (fun hc100 => ?_)
            · replace h := iT hc100 h
              refine PWc.jn (iBind h) (fun (in101 : Bool) (_ : Unit) => ⟨100, [(0, .d (.sl (List.map TRun.e a1))), (1, .d (.sl (List.map TRun.e b2))), (2, .d (.v (.int .i64 how3))), (7, .d (.sl (List.map (eK .u64) v4))), (8, .row 8 (List.length out86)), (9, .d (.v (.int .i64 i85))), (10, .d (.v (.bool v91))), (11, .d (.v (.bool v95))), (12, .d (.v (.bool in101)))], [(8, .row 89 2 (List.map TRun.e out86))]⟩) (fun h => ?_) ?_
              · refine PWc.region ?_
                refine PWl.step (LR.move rfl) rfl ?_
                refine PWl.step (LR.move rfl) rfl ?_
                refine PWl.split (d := 43) rfl (fun hg102 => ?_) (fun hg102 => ?_)
                · replace h := iT hg102 h
                  refine PWl.guardT (LR.move rfl) rfl rfl rfl ?_
                  refine PWl.step (LR.pickT rfl rfl) rfl ?_
                  refine PWl.step (LR.assign rfl) rfl ?_
                  refine PWl.nil ?_
                  exact ⟨v95, (), h, Sub.of rfl (.cons rfl rfl <| .cons rfl rfl <| .cons rfl rfl <| .cons rfl rfl <| .cons rfl rfl <| .cons rfl rfl <| .cons rfl rfl <| .cons rfl rfl <| .cons rfl rfl <| .nil) (.cons rfl rfl <| .nil)⟩
                · replace h := iF hg102 h
                  refine PWl.guardF rfl rfl rfl (by decide) ?_
                  refine PWl.step (LR.pickF rfl rfl) rfl ?_
                  refine PWl.step (LR.assign rfl) rfl ?_
                  refine PWl.nil ?_
                  exact ⟨false, (), h, Sub.of rfl (.cons rfl rfl <| .cons rfl rfl <| .cons rfl rfl <| .cons rfl rfl <| .cons rfl rfl <| .cons rfl rfl <| .cons rfl rfl <| .cons rfl rfl <| .cons rfl rfl <| .nil) (.cons rfl rfl <| .nil)⟩
              · rintro in101 _ h
                exact ⟨in101, (), h, Sub.of rfl (.cons rfl rfl <| .cons rfl rfl <| .cons rfl rfl <| .cons rfl rfl <| .cons rfl rfl <| .cons rfl rfl <| .cons rfl rfl <| .cons rfl rfl <| .cons rfl rfl <| .nil) (.cons rfl rfl <| .nil)⟩
            · replace h := iF hc100 h
              refine PWc.skip ?_
              exact ⟨in97, (), h, Sub.of rfl (.cons rfl rfl <| .cons rfl rfl <| .cons rfl rfl <| .cons rfl rfl <| .cons rfl rfl <| .cons rfl rfl <| .cons rfl rfl <| .cons rfl rfl <| .cons rfl rfl <| .nil) (.cons rfl rfl <| .nil)⟩
          · rintro in99 _ h
            refine PWc.seq ?_
            refine PWc.seq ?_
            refine PWc.region ?_
            refine PWl.step (LR.move rfl) rfl ?_
            refine PWl.step (LR.eql rfl rfl) rfl ?_
            refine PWl.nil ?_
            refine PWc.jn (iBind h) (fun (in103 : Bool) (_ : Unit) => ⟨100, [(0, .d (.sl (List.map TRun.e a1))), (1, .d (.sl (List.map TRun.e b2))), (2, .d (.v (.int .i64 how3))), (7, .d (.sl (List.map (eK .u64) v4))), (8, .row 8 (List.length out86)), (9, .d (.v (.int .i64 i85))), (12, .d (.v (.bool in103)))], [(8, .row 89 2 (List.map TRun.e out86))]⟩) (fun h => ?_) ?_
            · refine PWc.cond rfl (fun hc104 => ?_) (fun hc104 => ?_)
              · replace h := iT hc104 h
                refine PWc.jn (iBind h) (fun (in105 : Bool) (_ : Unit) => ⟨100, [(0, .d (.sl (List.map TRun.e a1))), (1, .d (.sl (List.map TRun.e b2))), (2, .d (.v (.int .i64 how3))), (7, .d (.sl (List.map (eK .u64) v4))), (8, .row 8 (List.length out86)), (9, .d (.v (.int .i64 i85))), (12, .d (.v (.bool in105)))], [(8, .row 89 2 (List.map TRun.e out86))]⟩) (fun h => ?_) ?_
                · refine PWc.region ?_
                  refine PWl.step (LR.move rfl) rfl ?_
                  refine PWl.step (LR.move rfl) rfl ?_
                  refine PWl.split (d := 49) rfl (fun hg106 => ?_) (fun hg106 => ?_)
                  · replace h := iT hg106 h
                    refine PWl.guardT (LR.move rfl) rfl rfl rfl ?_
                    refine PWl.guardT (LR.not rfl) rfl rfl rfl ?_
                    refine PWl.step (LR.pickT rfl rfl) rfl ?_
                    refine PWl.step (LR.assign rfl) rfl ?_
                    refine PWl.nil ?_
                    exact ⟨(!v95), (), h, Sub.of rfl (.cons rfl rfl <| .cons rfl rfl <| .cons rfl rfl <| .cons rfl rfl <| .cons rfl rfl <| .cons rfl rfl <| .cons rfl rfl <| .nil) (.cons rfl rfl <| .nil)⟩
                  · replace h := iF hg106 h
                    refine PWl.guardF rfl rfl rfl (by decide) ?_
                    refine PWl.guardF rfl rfl rfl (by decide) ?_
                    refine PWl.step (LR.pickF rfl rfl) rfl ?_
                    refine PWl.step (LR.assign rfl) rfl ?_
                    refine PWl.nil ?_
                    exact ⟨false, (), h, Sub.of rfl (.cons rfl rfl <| .cons rfl rfl <| .cons rfl rfl <| .cons rfl rfl <| .cons rfl rfl <| .cons rfl rfl <| .cons rfl rfl <| .nil) (.cons rfl rfl <| .nil)⟩
                · rintro in105 _ h
                  exact ⟨in105, (), h, Sub.of rfl (.cons rfl rfl <| .cons rfl rfl <| .cons rfl rfl <| .cons rfl rfl <| .cons rfl rfl <| .cons rfl rfl <| .cons rfl rfl <| .nil) (.cons rfl rfl <| .nil)⟩
              · replace h := iF hc104 h
                refine PWc.skip ?_
                exact ⟨in99, (), h, Sub.of rfl (.cons rfl rfl <| .cons rfl rfl <| .cons rfl rfl <| .cons rfl rfl <| .cons rfl rfl <| .cons rfl rfl <| .cons rfl rfl <| .nil) (.cons rfl rfl <| .nil)⟩
            · rintro in103 _ h
              refine PWc.seq ?_
              refine PWc.region ?_
              refine PWl.step (LR.move rfl) rfl ?_
              refine PWl.step (LR.lenRow Tryz.underlying37 rfl) rfl ?_
              refine PWl.step (LR.subW rfl rfl) rfl ?_
              refine PWl.step (LR.assign rfl) rfl ?_
              refine PWl.nil ?_
              refine PWc.seq ?_
              refine PWc.jn (iBind h) (fun (v107 : Bool) (_ : Unit) => ⟨100, [(0, .d (.sl (List.map TRun.e a1))), (1, .d (.sl (List.map TRun.e b2))), (2, .d (.v (.int .i64 how3))), (7, .d (.sl (List.map (eK .u64) v4))), (8, .row 8 (List.length out86)), (9, .d (.v (.int .i64 i85))), (12, .d (.v (.bool in103))), (13, .d (.v (.int .i64 ((IntKind.i64.wrap (((List.length out86) : Int) - 1)))))), (73, .d (.v (.bool v107)))], [(8, .row 89 2 (List.map TRun.e out86))]⟩) (fun h => ?_) ?_
              · refine PWc.regionD (by kernel_rfl) (by kernel_rfl) ?_
                refine PQl.step (fun _ he ho => LR.move (he rfl rfl)) rfl ?_
                refine PQl.step (fun _ he ho => LR.move (he rfl rfl)) rfl ?_
                refine PQl.split (d := 57) rfl (fun hg108 => ?_) (fun hg108 => ?_)
                · replace h := iT hg108 h
                  refine PQl.guardT (fun _ he ho => LR.move (he rfl rfl)) rfl rfl rfl ?_
                  refine PQl.guardT (fun _ he ho => LR.geq (he rfl rfl) (he rfl rfl)) rfl rfl rfl ?_
                  refine PQl.step (fun _ he ho => LR.pickT (he rfl rfl) (he rfl rfl)) rfl ?_
                  refine PQl.step (fun _ he ho => LR.move (he rfl rfl)) rfl ?_
                  refine PQl.split (d := 61) rfl (fun hg109 => ?_) (fun hg109 => ?_)
                  · replace h := iT hg109 h
                    refine PQl.guardT (fun _ he ho => LR.move (he rfl rfl)) rfl rfl rfl ?_
                    refine PQl.guardT (fun _ he ho => LR.move (he rfl rfl)) rfl rfl rfl ?_
                    replace h := iIdx h
                    obtain ⟨x110, hy111, h⟩ := h
                    refine PQl.guardT (fun _ he ho => LR.idxRowT (L := out86) (y := x110) Tryz.underlying37 Tryz.sizeOf89 (he rfl rfl) rfl (he rfl rfl) hy111) rfl rfl rfl ?_
                    refine PQl.guardT (fun _ he ho => LR.fieldRp Tryz.underlying89 rfl Tryz.sizeOf30 (by decide) rfl (he rfl rfl)) rfl rfl rfl ?_
                    refine PQl.guardT (fun _ he ho => LR.loadRpF (enc := TRun.e) (L := out86) (y := x110) Tryz.isAgg30 (he rfl rfl) (ho rfl) hy111.2 rfl) rfl rfl rfl ?_
                    refine PQl.guardT (fun _ he ho => LR.addW (he rfl rfl) (he rfl rfl)) rfl rfl rfl ?_
                    refine PQl.guardT (fun _ he ho => LR.move (he rfl rfl)) rfl rfl rfl ?_
                    refine PQl.guardT (fun _ he ho => LR.move (he rfl rfl)) rfl rfl rfl ?_
                    replace h := iIdx h
                    obtain ⟨x112, hy113, h⟩ := h
                    refine PQl.guardT (fun _ he ho => LR.idxT (enc := (eK .u64)) (L := v4) (y := x112) Tryz.underlying144 Tryz.sizeOf30 (he rfl rfl) (he rfl rfl) hy113 (fun _ => rfl)) rfl rfl rfl ?_
                    refine PQl.guardT (fun _ he ho => LR.loadEp Tryz.isAgg30 (he rfl rfl) rfl) rfl rfl rfl ?_
                    refine PQl.guardT (fun _ he ho => LR.eql (he rfl rfl) (he rfl rfl)) rfl rfl rfl ?_
                    refine PQl.step (fun _ he ho => LR.pickT (he rfl rfl) (he rfl rfl)) rfl ?_
                    refine PQl.nil ?_
                    exact ⟨(decide ((IntKind.u64.wrap (x110.hi + 1)) = x112)), (), h, Sub.of rfl (.cons rfl rfl <| .cons rfl rfl <| .cons rfl rfl <| .cons rfl rfl <| .cons rfl rfl <| .cons rfl rfl <| .cons rfl rfl <| .cons rfl rfl <| .cons rfl rfl <| .nil) (.cons rfl rfl <| .nil)⟩
                  · replace h := iF hg109 h
                    refine PQl.guardF rfl rfl rfl (by decide) ?_
                    refine PQl.guardF rfl rfl rfl (by decide) ?_
                    refine PQl.guardF rfl rfl rfl (by decide) ?_
                    refine PQl.guardF rfl rfl rfl (by decide) ?_
                    refine PQl.guardF rfl rfl rfl (by decide) ?_
                    refine PQl.guardF rfl rfl rfl (by decide) ?_
                    refine PQl.guardF rfl rfl rfl (by decide) ?_
                    refine PQl.guardF rfl rfl rfl (by decide) ?_
                    refine PQl.guardF rfl rfl rfl (by decide) ?_
                    refine PQl.guardF rfl rfl rfl (by decide) ?_
                    refine PQl.guardF rfl rfl rfl (by decide) ?_
                    refine PQl.step (fun _ he ho => LR.pickF (he rfl rfl) (he rfl rfl)) rfl ?_
                    refine PQl.nil ?_
                    exact ⟨false, (), h, Sub.of rfl (.cons rfl rfl <| .cons rfl rfl <| .cons rfl rfl <| .cons rfl rfl <| .cons rfl rfl <| .cons rfl rfl <| .cons rfl rfl <| .cons rfl rfl <| .cons rfl rfl <| .nil) (.cons rfl rfl <| .nil)⟩
                · replace h := iF hg108 h
                  refine PQl.guardF rfl rfl rfl (by decide) ?_
                  refine PQl.guardF rfl rfl rfl (by decide) ?_
                  refine PQl.step (fun _ he ho => LR.pickF (he rfl rfl) (he rfl rfl)) rfl ?_
                  refine PQl.step (fun _ he ho => LR.move (he rfl rfl)) rfl ?_
                  refine PQl.guardF rfl rfl rfl (by decide) ?_
                  refine PQl.guardF rfl rfl rfl (by decide) ?_
                  refine PQl.guardF rfl rfl rfl (by decide) ?_
                  refine PQl.guardF rfl rfl rfl (by decide) ?_
                  refine PQl.guardF rfl rfl rfl (by decide) ?_
                  refine PQl.guardF rfl rfl rfl (by decide) ?_
                  refine PQl.guardF rfl rfl rfl (by decide) ?_
                  refine PQl.guardF rfl rfl rfl (by decide) ?_
                  refine PQl.guardF rfl rfl rfl (by decide) ?_
                  refine PQl.guardF rfl rfl rfl (by decide) ?_
                  refine PQl.guardF rfl rfl rfl (by decide) ?_
                  refine PQl.step (fun _ he ho => LR.pickF (he rfl rfl) (he rfl rfl)) rfl ?_
                  refine PQl.nil ?_
                  exact ⟨false, (), h, Sub.of rfl (.cons rfl rfl <| .cons rfl rfl <| .cons rfl rfl <| .cons rfl rfl <| .cons rfl rfl <| .cons rfl rfl <| .cons rfl rfl <| .cons rfl rfl <| .cons rfl rfl <| .nil) (.cons rfl rfl <| .nil)⟩
              · rintro v107 _ h
                refine PWc.cond rfl (fun hc114 => ?_) (fun hc114 => ?_)
                · replace h := iT hc114 h
                  refine PWc.region ?_
                  refine PWl.step (LR.move rfl) rfl ?_
                  refine PWl.step (LR.move rfl) rfl ?_
                  refine PWl.step (LR.move rfl) rfl ?_
                  refine PWl.step (LR.move rfl) rfl ?_
                  refine PWl.step (LR.addW rfl rfl) rfl ?_
                  replace h := iIdx h
                  obtain ⟨x115, hy116, h⟩ := h
                  refine PWl.step (LR.idxT (enc := (eK .u64)) (L := v4) (y := x115) Tryz.underlying144 Tryz.sizeOf30 rfl rfl hy116 (fun _ => rfl)) rfl ?_
                  refine PWl.step (LR.loadEp Tryz.isAgg30 rfl rfl) rfl ?_
                  refine PWl.step (LR.subW rfl rfl) rfl ?_
                  replace h := iIdx h
                  obtain ⟨x117, hy118, h⟩ := h
                  refine PWl.step (LR.idxRowT (L := out86) (y := x117) Tryz.underlying37 Tryz.sizeOf89 rfl rfl rfl hy118) rfl ?_
                  refine PWl.step (LR.fieldRp Tryz.underlying89 rfl Tryz.sizeOf30 (by decide) rfl rfl) rfl ?_
                  refine PWl.step (LR.storeRpT (enc := TRun.e) (L := out86) (a := x117) (b := (⟨x117.lo, (IntKind.u64.wrap (x115 - 1))⟩ : TRun)) Tryz.sizeOf30 rfl rfl rfl rfl rfl hy118.2 rfl rfl) rfl ?_
                  refine PWl.nil ?_
                  exact ⟨(List.set out86 ((Int.toNat ((IntKind.i64.wrap (((List.length out86) : Int) - 1))))) ((⟨x117.lo, (IntKind.u64.wrap (x115 - 1))⟩ : TRun))), (), h, Sub.of rfl (.cons rfl rfl <| .cons rfl rfl <| .cons rfl rfl <| .cons rfl rfl <| .cons rfl (by first | rfl | (simp; done) | (congr 1; first | (simp; done) | (simp; omega))) <| .cons rfl rfl <| .nil) (.cons rfl rfl <| .nil)⟩
                · replace h := iF hc114 h
                  refine PWc.seq ?_
                  refine PWc.region ?_
                  refine PWl.step (LR.move rfl) rfl ?_
                  refine PWl.nil ?_
                  refine PWc.cond rfl (fun hc119 => ?_) (fun hc119 => ?_)
                  · replace h := iT hc119 h
                    refine PWc.re (tl := [(0, _), (1, _), (2, _), (7, _), (8, _), (9, _)]) (to := [(8, _)]) rfl (.cons rfl rfl <| .cons rfl rfl <| .cons rfl rfl <| .cons rfl rfl <| .cons rfl rfl <| .cons rfl rfl <| .nil) (.cons rfl rfl <| .nil) ?_
                    refine PWc.regionE [⟨[85], [], [], [], [], [8], [], []⟩, ⟨[86], [], [], [], [], [], [], []⟩, ⟨[87], [], [], [], [], [], [], []⟩, ⟨[88], [], [], [], [], [], [], []⟩, ⟨[89], [], [], [], [], [], [], []⟩, ⟨[90], [], [], [], [], [], [], []⟩, ⟨[91], [], [], [], [], [], [], []⟩, ⟨[92], [], [], [], [], [], [], []⟩, ⟨[93], [], [], [], [], [], [], []⟩, ⟨[94], [], [], [], [], [], [], []⟩, ⟨[95], [], [], [], [], [], [], []⟩, ⟨[96], [], [], [], [], [], [], []⟩, ⟨[97], [], [], [], [], [], [], []⟩, ⟨[8, 85, 98], [8], [8], [], [(8, [8, 85])], [8], [], []⟩, ⟨[8], [], [], [], [], [8], [], []⟩] (by kernel_rfl) (by kernel_rfl) rfl ?_
                    refine PQe.stepP (fun _ he ho => LR.move (he rfl rfl)) (.inl rfl) rfl ?_
                    refine PQe.stepP (fun _ he ho => LR.move (he rfl rfl)) (.inl rfl) rfl ?_
                    refine PQe.stepP (fun _ he ho => LR.move (he rfl rfl)) (.inl rfl) rfl ?_
                    replace h := iIdx h
                    obtain ⟨x120, hy121, h⟩ := h
                    refine PQe.stepP (fun _ he ho => LR.idxT (enc := (eK .u64)) (L := v4) (y := x120) Tryz.underlying144 Tryz.sizeOf30 (he rfl rfl) (he rfl rfl) hy121 (fun _ => rfl)) (.inl rfl) rfl ?_
                    refine PQe.stepP (fun _ he ho => LR.loadEp Tryz.isAgg30 (he rfl rfl) rfl) (.inl rfl) rfl ?_
                    refine PQe.stepP (fun _ he ho => LR.move (he rfl rfl)) (.inl rfl) rfl ?_
                    refine PQe.stepP (fun _ he ho => LR.move (he rfl rfl)) (.inl rfl) rfl ?_
                    refine PQe.stepP (fun _ he ho => LR.addW (he rfl rfl) (he rfl rfl)) (.inl rfl) rfl ?_
                    replace h := iIdx h
                    obtain ⟨x122, hy123, h⟩ := h
                    refine PQe.stepP (fun _ he ho => LR.idxT (enc := (eK .u64)) (L := v4) (y := x122) Tryz.underlying144 Tryz.sizeOf30 (he rfl rfl) (he rfl rfl) hy123 (fun _ => rfl)) (.inl rfl) rfl ?_
                    refine PQe.stepP (fun _ he ho => LR.loadEp Tryz.isAgg30 (he rfl rfl) rfl) (.inl rfl) rfl ?_
                    refine PQe.stepP (fun _ he ho => LR.subW (he rfl rfl) (he rfl rfl)) (.inl rfl) rfl ?_
                    refine PQe.stepP (fun _ he ho => LR.build (ns := [_, _]) build89 rfl (evpE he rfl rfl) rfl) (.inl rfl) rfl ?_
                    refine PQe.stepP (fun _ he ho => LR.buildSliceD [.tmp 96] elem37 rfl rfl (.cons (he rfl rfl) rfl rfl <| .nil) (by decide) (by decide)) (.inl rfl) rfl ?_
                    replace h := iNeed h
                    obtain ⟨hy124, h⟩ := h
                    refine PQe.stepA [8, 85] (fun _ he ho ha => LR.appT (enc := TRun.e) (L := out86) (R := [(⟨x120, (IntKind.u64.wrap (x122 - 1))⟩ : TRun)]) [8, 85] elem37 Tryz.underlying37 (he rfl rfl) rfl (ho rfl rfl) (Src.slT (enc := TRun.e) (R := [(⟨x120, (IntKind.u64.wrap (x122 - 1))⟩ : TRun)]) (he rfl rfl) (fun _ => rfl)) (fun _ => rfl) hy124 rfl ha) rfl (.inl rfl) rfl ?_
                    refine PQe.stepP (fun _ he ho => LR.assign (he rfl rfl)) (.inl rfl) rfl ?_
                    refine PQe.nil ?_
                    exact ⟨(out86 ++ [(⟨x120, (IntKind.u64.wrap (x122 - 1))⟩ : TRun)]), (), h, Sub.of rfl (.cons rfl rfl <| .cons rfl rfl <| .cons rfl rfl <| .cons rfl rfl <| .cons rfl (by first | rfl | (simp; done) | (congr 1; first | (simp; done) | (simp; omega))) <| .cons rfl rfl <| .nil) (.cons rfl rfl <| .nil)⟩
                  · replace h := iF hc119 h
                    refine PWc.skip ?_
                    exact ⟨out86, (), h, Sub.of rfl (.cons rfl rfl <| .cons rfl rfl <| .cons rfl rfl <| .cons rfl rfl <| .cons rfl rfl <| .cons rfl rfl <| .nil) (.cons rfl rfl <| .nil)⟩
      · rintro out88 _ h
        refine PWc.region ?_
        refine PWl.step (LR.move rfl) rfl ?_
        refine PWl.step (LR.addW rfl rfl) rfl ?_
        refine PWl.step (LR.assign rfl) rfl ?_
        refine PWl.nil ?_
        exact ⟨((IntKind.i64.wrap (i85 + 1)), out88), (), h, Sub.of rfl (.cons rfl rfl <| .cons rfl rfl <| .cons rfl rfl <| .cons rfl rfl <| .cons rfl rfl <| .cons rfl rfl <| .nil) (.cons rfl rfl <| .nil)⟩
    · replace h := iF hc87 h
      refine PWc.exit ?_
      exact ⟨out86, (), h, Sub.of rfl (.cons rfl rfl <| .nil) (.cons rfl rfl <| .nil)⟩
  · rintro out6 _ h
    refine PWc.seq ?_
    refine PWc.region ?_
    refine PWl.step (LR.move rfl) rfl ?_
    refine PWl.step (LR.assign rfl) rfl ?_
    refine PWl.nil ?_
    refine PWc.ret ?_
    replace h : _ = r0 := h
    subst h
    exact ⟨.inr rfl, 6, rfl, .inr ⟨8, _, rfl, (by simp), rfl⟩⟩

theorem r06_Join_ok (a1 : List TRun) (b2 : List TRun) (r0 : List TRun) (h : (r06_Join a1 b2).wp (· = r0)) : PRow Tryz.prog 70 [.d (.sl (List.map TRun.e a1)), .d (.sl (List.map TRun.e b2))] 89 2 (List.map TRun.e r0) := by
  refine PRow.intro (sl := [(0, _), (1, _)]) Tryz.func70 rfl Tryz.ntmps70 rfl rfl ?_
  intro ctx hK
  refine PWc.seq ?_
  refine PWc.region ?_
  refine PWl.step (LR.assignNilRow 89 2 rfl) rfl ?_
  refine PWl.nil ?_
  refine PWc.seq ?_
  refine PWc.region ?_
  refine PWl.step (LR.move rfl) rfl ?_
  refine PWl.step (LR.move rfl) rfl ?_
  replace h := iDet h
  obtain ⟨v3, hy4, h⟩ := h
  refine PWl.step (LR.rowN (r06_set_ok a1 b2 0 v3 hy4) rfl Tryz.call108 rfl rfl rfl rfl) rfl ?_
  refine PWl.re (tl := [(0, _), (1, _), (5, _), (6, _), (7, _)]) (to := [(7, _)]) rfl (.cons rfl rfl <| .cons rfl rfl <| .cons rfl rfl <| .cons rfl rfl <| .cons rfl rfl <| .nil) (.cons rfl rfl <| .nil) ?_
  refine PWl.step (LR.assign rfl) rfl ?_
  refine PWl.nil ?_
  refine PWc.ret ?_
  replace h : _ = r0 := h
  subst h
  exact ⟨.inr rfl, 4, rfl, .inr ⟨7, _, rfl, (by simp), rfl⟩⟩

theorem r09_Runs_ok (c1 : List TPart) (dev2 : Int) (r0 : List TRun) (h : (r09_Runs c1 dev2).wp (· = r0)) : PFun Tryz.prog 28 [.d (.sl (List.map TPart.e c1)), .d (.v (.int .u16 dev2))] (.d (.sl (List.map TRun.e r0))) := by
  refine PFun.intro (sl := [(0, _), (1, _)]) Tryz.func28 rfl Tryz.ntmps28 rfl rfl ?_
  intro ctx hK
  refine PWc.seq ?_
  refine PWc.region ?_
  refine PWl.step (LR.assignNilRow 89 2 rfl) rfl ?_
  refine PWl.nil ?_
  refine PWc.seq ?_
  refine PWc.region ?_
  refine PWl.step (LR.assignNilRow 89 2 rfl) rfl ?_
  refine PWl.nil ?_
  refine PWc.seq ?_
  refine PWc.seq ?_
  refine PWc.region ?_
  refine PWl.step (LR.assign rfl) rfl ?_
  refine PWl.nil ?_
  refine PWc.jn (iBind h) (fun (out3 : List TRun) (_ : Unit) => ⟨32, [(5, .d (.sl (List.map TRun.e out3)))], []⟩) (fun h => ?_) ?_
  · refine PWc.block ?_
    refine PWc.loopM (fun (⟨out28, i29⟩ : List TRun × Int) (_ : Unit) => ⟨32, [(0, .d (.sl (List.map TPart.e c1))), (1, .d (.v (.int .u16 dev2))), (5, .d (.sl (List.map TRun.e out28))), (6, .d (.v (.int .i64 i29)))], []⟩) () h (Sub.trans (Sub.frz [5] hK rfl (by first | (simp; done) | (simp; omega) | omega) (AllRow.get (.cons rfl <| .nil))) <| Sub.of rfl (.cons rfl rfl <| .cons rfl rfl <| .cons rfl rfl <| .cons rfl rfl <| .nil) (.nil)) ?_
    rintro N ⟨out28, i29⟩ _ h
    refine PWc.seq ?_
    refine PWc.seq ?_
    refine PWc.region ?_
    refine PWl.step (LR.move rfl) rfl ?_
    refine PWl.step (LR.move rfl) rfl ?_
    refine PWl.step (LR.lenMap (enc := TPart.e) (L := c1) Tryz.underlying23 rfl) rfl ?_
    refine PWl.step (LR.lss rfl rfl) rfl ?_
    refine PWl.nil ?_
    refine PWc.cond rfl (fun hc30 => ?_) (fun hc30 => ?_)
    · replace h := iT hc30 h
      refine PWc.skip ?_
      refine PWc.seq ?_
      refine PWc.jn (iBind h) (fun (out31 : List TRun) (_ : Unit) => ⟨32, [(0, .d (.sl (List.map TPart.e c1))), (1, .d (.v (.int .u16 dev2))), (5, .d (.sl (List.map TRun.e out31))), (6, .d (.v (.int .i64 i29)))], []⟩) (fun h => ?_) ?_
      · refine PWc.block ?_
        refine PWc.seq ?_
        refine PWc.jn (iBind h) (fun (v32 : Bool) (_ : Unit) => ⟨32, [(0, .d (.sl (List.map TPart.e c1))), (1, .d (.v (.int .u16 dev2))), (5, .d (.sl (List.map TRun.e out28))), (6, .d (.v (.int .i64 i29))), (23, .d (.v (.bool v32)))], []⟩) (fun h => ?_) ?_
        · refine PWc.region ?_
          refine PWl.step (LR.move rfl) rfl ?_
          refine PWl.step (LR.move rfl) rfl ?_
          replace h := iIdx h
          obtain ⟨x33, hy34, h⟩ := h
          refine PWl.step (LR.idxT (enc := TPart.e) (L := c1) (y := x33) Tryz.underlying23 Tryz.sizeOf80 rfl rfl hy34 (fun _ => rfl)) rfl ?_
          refine PWl.step (LR.fieldEp Tryz.underlying80 rfl Tryz.sizeOf29 (by decide) rfl rfl) rfl ?_
          refine PWl.step (LR.loadEp Tryz.isAgg29 rfl rfl) rfl ?_
          refine PWl.step (LR.move rfl) rfl ?_
          refine PWl.step (LR.eql rfl rfl) rfl ?_
          refine PWl.step (LR.move rfl) rfl ?_
          refine PWl.split (d := 20) rfl (fun hg35 => ?_) (fun hg35 => ?_)
          · replace h := iT hg35 h
            refine PWl.guardT (LR.move rfl) rfl rfl rfl ?_
            refine PWl.guardT (LR.neq rfl rfl) rfl rfl rfl ?_
            refine PWl.step (LR.pickT rfl rfl) rfl ?_
            refine PWl.nil ?_
            exact ⟨(!decide (dev2 = 0)), (), h, Sub.of rfl (.cons rfl rfl <| .cons rfl rfl <| .cons rfl rfl <| .cons rfl rfl <| .cons rfl rfl <| .nil) (.nil)⟩
          · replace h := iF hg35 h
            refine PWl.guardF rfl rfl rfl (by decide) ?_
            refine PWl.guardF rfl rfl rfl (by decide) ?_
            refine PWl.step (LR.pickF rfl rfl) rfl ?_
            refine PWl.nil ?_
            exact ⟨false, (), h, Sub.of rfl (.cons rfl rfl <| .cons rfl rfl <| .cons rfl rfl <| .cons rfl rfl <| .cons rfl rfl <| .nil) (.nil)⟩
        · rintro v32 _ h
          refine PWc.cond rfl (fun hc36 => ?_) (fun hc36 => ?_)
          · replace h := iT hc36 h
            refine PWc.region ?_
            refine PWl.step (LR.move rfl) rfl ?_
            refine PWl.step (LR.move rfl) rfl ?_
            refine PWl.step (LR.move rfl) rfl ?_
            replace h := iIdx h
            obtain ⟨x37, hy38, h⟩ := h
            refine PWl.step (LR.idxT (enc := TPart.e) (L := c1) (y := x37) Tryz.underlying23 Tryz.sizeOf80 rfl rfl hy38 (fun _ => rfl)) rfl ?_
            refine PWl.step (LR.fieldEp Tryz.underlying80 rfl Tryz.sizeOf37 (by decide) rfl rfl) rfl ?_
            refine PWl.step (LR.loadEp Tryz.isAgg37 rfl rfl) rfl ?_
            replace h := iDet h
            obtain ⟨v39, hy40, h⟩ := h
            refine PWl.step (LR.rowN (r06_Join_ok out28 x37.runs v39 hy40) rfl Tryz.call70 rfl rfl rfl rfl) rfl ?_
            refine PWl.step (LR.assign rfl) rfl ?_
            refine PWl.nil ?_
            exact ⟨v39, (), h, Sub.trans (Sub.frz [5, 30] hK rfl (by simp) (AllRow.get (.cons rfl <| .cons rfl <| .nil))) <| Sub.of rfl (.cons rfl rfl <| .cons rfl rfl <| .cons rfl rfl <| .cons rfl rfl <| .nil) (.nil)⟩
          · replace h := iF hc36 h
            refine PWc.skip ?_
            exact ⟨out28, (), h, Sub.of rfl (.cons rfl rfl <| .cons rfl rfl <| .cons rfl rfl <| .cons rfl rfl <| .nil) (.nil)⟩
      · rintro out31 _ h
        refine PWc.region ?_
        refine PWl.step (LR.move rfl) rfl ?_
        refine PWl.step (LR.addW rfl rfl) rfl ?_
        refine PWl.step (LR.assign rfl) rfl ?_
        refine PWl.nil ?_
        exact ⟨(out31, (IntKind.i64.wrap (i29 + 1))), (), h, Sub.of rfl (.cons rfl rfl <| .cons rfl rfl <| .cons rfl rfl <| .cons rfl rfl <| .nil) (.nil)⟩
    · replace h := iF hc30 h
      refine PWc.exit ?_
      exact ⟨out28, (), h, Sub.of rfl (.cons rfl rfl <| .nil) (.nil)⟩
  · rintro out3 _ h
    refine PWc.seq ?_
    refine PWc.region ?_
    refine PWl.step (LR.move rfl) rfl ?_
    refine PWl.step (LR.assign rfl) rfl ?_
    refine PWl.nil ?_
    refine PWc.ret ?_
    replace h : _ = r0 := h
    subst h
    exact ⟨.inr rfl, _, .cons (.tmp rfl rfl) <| .nil, rfl⟩

theorem r07_Put_ok (l1 : List TDot) (d2 : TDot) (r0 : List TDot) (h : (r07_Put l1 d2).wp (· = r0)) : PRow Tryz.prog 126 [.d (.sl (List.map TDot.e l1)), .agg (List.map .d (TDot.e d2))] 32 2 (List.map TDot.e r0) := by
  refine PRow.intro (sl := [(0, _), (1, _)]) Tryz.func126 rfl Tryz.ntmps126 rfl rfl ?_
  intro ctx hK
  refine PWc.seq ?_
  refine PWc.region ?_
  refine PWl.step (LR.box rfl rfl rfl rfl) rfl ?_
  refine PWl.step (LR.assignNilRow 32 2 rfl) rfl ?_
  refine PWl.nil ?_
  refine PWc.seq ?_
  refine PWc.region ?_
  refine PWl.step (LR.assignNilRow 32 2 rfl) rfl ?_
  refine PWl.nil ?_
  refine PWc.seq ?_
  refine PWc.seq ?_
  refine PWc.region ?_
  refine PWl.step (LR.assign rfl) rfl ?_
  refine PWl.nil ?_
  refine PWc.jn (iBind h) (fun (out3 : List TDot) (_ : Unit) => ⟨53, [(0, .d (.sl (List.map TDot.e l1))), (3, .ref 3 0), (5, .row 5 (List.length out3))], [(3, .cells 32 [.d (.v (.int .u16 d2.dev)), .d (.v (.int .u64 d2.n))]), (5, .row 32 2 (List.map TDot.e out3))]⟩) (fun h => ?_) ?_
  · refine PWc.block ?_
    refine PWc.loopM (fun (⟨i26, out27⟩ : Int × List TDot) (_ : Unit) => ⟨53, [(0, .d (.sl (List.map TDot.e l1))), (3, .ref 3 0), (5, .row 5 (List.length out27)), (6, .d (.v (.int .i64 i26)))], [(3, .cells 32 [.d (.v (.int .u16 d2.dev)), .d (.v (.int .u64 d2.n))]), (5, .row 32 2 (List.map TDot.e out27))]⟩) () h (Sub.of rfl (.cons rfl rfl <| .cons rfl rfl <| .cons rfl rfl <| .cons rfl rfl <| .nil) (.cons rfl rfl <| .cons rfl rfl <| .nil)) ?_
    rintro N ⟨i26, out27⟩ _ h
    refine PWc.seq ?_
    refine PWc.seq ?_
    refine PWc.region ?_
    refine PWl.step (LR.move rfl) rfl ?_
    refine PWl.step (LR.move rfl) rfl ?_
    refine PWl.step (LR.lenMap (enc := TDot.e) (L := l1) Tryz.underlying28 rfl) rfl ?_
    refine PWl.step (LR.lss rfl rfl) rfl ?_
    refine PWl.nil ?_
    refine PWc.cond rfl (fun hc28 => ?_) (fun hc28 => ?_)
    · replace h := iT hc28 h
      refine PWc.skip ?_
      refine PWc.seq ?_
      refine PWc.jn (iBind h) (fun (out29 : List TDot) (_ : Unit) => ⟨53, [(0, .d (.sl (List.map TDot.e l1))), (3, .ref 3 0), (5, .row 5 (List.length out29)), (6, .d (.v (.int .i64 i26)))], [(3, .cells 32 [.d (.v (.int .u16 d2.dev)), .d (.v (.int .u64 d2.n))]), (5, .row 32 2 (List.map TDot.e out29))]⟩) (fun h => ?_) ?_
      · refine PWc.block ?_
        refine PWc.seq ?_
        refine PWc.regionD (by kernel_rfl) (by kernel_rfl) ?_
        refine PQl.step (fun _ he ho => LR.move (he rfl rfl)) rfl ?_
        refine PQl.step (fun _ he ho => LR.move (he rfl rfl)) rfl ?_
        replace h := iIdx h
        obtain ⟨x30, hy31, h⟩ := h
        refine PQl.step (fun _ he ho => LR.idxT (enc := TDot.e) (L := l1) (y := x30) Tryz.underlying28 Tryz.sizeOf32 (he rfl rfl) (he rfl rfl) hy31 (fun _ => rfl)) rfl ?_
        refine PQl.step (fun _ he ho => LR.loadEpAgg (ys := [_, _]) Tryz.isAgg32 Tryz.sizeOf32 (he rfl rfl) rfl rfl) rfl ?_
        refine PQl.step (fun _ he ho => LR.loadRefAgg (ps := [_, _]) Tryz.isAgg32 Tryz.sizeOf32 (he rfl rfl) (ho rfl) rfl rfl) rfl ?_
        replace h := iDet h
        obtain ⟨v32, hy33, h⟩ := h
        refine PQl.step (fun _ he ho => LR.callN (r07_Cmp_ok x30 d2 v32 hy33) (he rfl rfl) Tryz.call88 (evsE he rfl rfl) rfl rfl rfl) rfl ?_
        refine PQl.step (fun _ he ho => LR.lss (he rfl rfl) (he rfl rfl)) rfl ?_
        refine PQl.nil ?_
        refine PWc.cond rfl (fun hc34 => ?_) (fun hc34 => ?_)
        · replace h := iT hc34 h
          refine PWc.region ?_
          refine PWl.step (LR.move rfl) rfl ?_
          refine PWl.step (LR.move rfl) rfl ?_
          refine PWl.step (LR.move rfl) rfl ?_
          replace h := iIdx h
          obtain ⟨x35, hy36, h⟩ := h
          refine PWl.step (LR.idxT (enc := TDot.e) (L := l1) (y := x35) Tryz.underlying28 Tryz.sizeOf32 rfl rfl hy36 (fun _ => rfl)) rfl ?_
          refine PWl.step (LR.loadEpAgg (ys := [_, _]) Tryz.isAgg32 Tryz.sizeOf32 rfl rfl rfl) rfl ?_
          refine PWl.step (LR.buildSliceD [.tmp 25] elem28 rfl rfl (.cons rfl rfl rfl <| .nil) (by decide) (by decide)) rfl ?_
          refine PWl.re (tl := [(0, _), (3, _), (5, _), (6, _), (21, _), (26, _)]) (to := [(3, _), (5, _)]) rfl (.cons rfl rfl <| .cons rfl rfl <| .cons rfl rfl <| .cons rfl rfl <| .cons rfl rfl <| .cons rfl rfl <| .nil) (.cons rfl rfl <| .cons rfl rfl <| .nil) ?_
          replace h := iNeed h
          obtain ⟨hy37, h⟩ := h
          refine PWl.step (LR.appT (enc := TDot.e) (L := out27) (R := [x35]) [5, 21] elem28 Tryz.underlying28 rfl rfl rfl (Src.slT (enc := TDot.e) (R := [x35]) rfl (fun _ => rfl)) (fun _ => rfl) hy37 rfl rfl) rfl ?_
          refine PWl.step (LR.assign rfl) rfl ?_
          refine PWl.nil ?_
          exact ⟨(out27 ++ [x35]), (), h, Sub.of rfl (.cons rfl rfl <| .cons rfl rfl <| .cons rfl rfl <| .cons rfl rfl <| .nil) (.cons rfl rfl <| .cons rfl rfl <| .nil)⟩
        · replace h := iF hc34 h
          refine PWc.skip ?_
          exact ⟨out27, (), h, Sub.of rfl (.cons rfl rfl <| .cons rfl rfl <| .cons rfl rfl <| .cons rfl rfl <| .nil) (.cons rfl rfl <| .cons rfl rfl <| .nil)⟩
      · rintro out29 _ h
        refine PWc.region ?_
        refine PWl.step (LR.move rfl) rfl ?_
        refine PWl.step (LR.addW rfl rfl) rfl ?_
        refine PWl.step (LR.assign rfl) rfl ?_
        refine PWl.nil ?_
        exact ⟨((IntKind.i64.wrap (i26 + 1)), out29), (), h, Sub.of rfl (.cons rfl rfl <| .cons rfl rfl <| .cons rfl rfl <| .cons rfl rfl <| .nil) (.cons rfl rfl <| .cons rfl rfl <| .nil)⟩
    · replace h := iF hc28 h
      refine PWc.exit ?_
      exact ⟨out27, (), h, Sub.of rfl (.cons rfl rfl <| .cons rfl rfl <| .cons rfl rfl <| .nil) (.cons rfl rfl <| .cons rfl rfl <| .nil)⟩
  · rintro out3 _ h
    refine PWc.seq ?_
    refine PWc.region ?_
    refine PWl.step (LR.move rfl) rfl ?_
    refine PWl.step (LR.loadRefAgg (ps := [_, _]) Tryz.isAgg32 Tryz.sizeOf32 rfl rfl rfl rfl) rfl ?_
    refine PWl.step (LR.buildSliceD [.tmp 29] elem28 rfl rfl (.cons rfl rfl rfl <| .nil) (by decide) (by decide)) rfl ?_
    replace h := iNeed h
    obtain ⟨hy38, h⟩ := h
    refine PWl.step (LR.appT (enc := TDot.e) (L := out3) (R := [d2]) [5, 28] elem28 Tryz.underlying28 rfl rfl rfl (Src.slT (enc := TDot.e) (R := [d2]) rfl (fun _ => rfl)) (fun _ => rfl) hy38 rfl rfl) rfl ?_
    refine PWl.step (LR.assign rfl) rfl ?_
    refine PWl.nil ?_
    refine PWc.seq ?_
    refine PWc.seq ?_
    refine PWc.region ?_
    refine PWl.step (LR.assign rfl) rfl ?_
    refine PWl.nil ?_
    refine PWc.jn (iBind h) (fun (out39 : List TDot) (_ : Unit) => ⟨53, [(5, .row 5 (List.length out39))], [(5, .row 32 2 (List.map TDot.e out39))]⟩) (fun h => ?_) ?_
    · refine PWc.block ?_
      refine PWc.loopM (fun (⟨i62, out63⟩ : Int × List TDot) (_ : Unit) => ⟨53, [(0, .d (.sl (List.map TDot.e l1))), (3, .ref 3 0), (5, .row 5 (List.length out63)), (7, .d (.v (.int .i64 i62)))], [(3, .cells 32 [.d (.v (.int .u16 d2.dev)), .d (.v (.int .u64 d2.n))]), (5, .row 32 2 (List.map TDot.e out63))]⟩) () h (Sub.of rfl (.cons rfl rfl <| .cons rfl rfl <| .cons rfl rfl <| .cons rfl rfl <| .nil) (.cons rfl rfl <| .cons rfl rfl <| .nil)) ?_
      rintro N ⟨i62, out63⟩ _ h
      refine PWc.seq ?_
      refine PWc.seq ?_
      refine PWc.region ?_
      refine PWl.step (LR.move rfl) rfl ?_
      refine PWl.step (LR.move rfl) rfl ?_
      refine PWl.step (LR.lenMap (enc := TDot.e) (L := l1) Tryz.underlying28 rfl) rfl ?_
      refine PWl.step (LR.lss rfl rfl) rfl ?_
      refine PWl.nil ?_
      refine PWc.cond rfl (fun hc64 => ?_) (fun hc64 => ?_)
      · replace h := iT hc64 h
        refine PWc.skip ?_
        refine PWc.seq ?_
        refine PWc.jn (iBind h) (fun (out65 : List TDot) (_ : Unit) => ⟨53, [(0, .d (.sl (List.map TDot.e l1))), (3, .ref 3 0), (5, .row 5 (List.length out65)), (7, .d (.v (.int .i64 i62)))], [(3, .cells 32 [.d (.v (.int .u16 d2.dev)), .d (.v (.int .u64 d2.n))]), (5, .row 32 2 (List.map TDot.e out65))]⟩) (fun h => ?_) ?_
        · refine PWc.block ?_
          refine PWc.seq ?_
          refine PWc.regionD (by kernel_rfl) (by kernel_rfl) ?_
          refine PQl.step (fun _ he ho => LR.move (he rfl rfl)) rfl ?_
          refine PQl.step (fun _ he ho => LR.move (he rfl rfl)) rfl ?_
          replace h := iIdx h
          obtain ⟨x66, hy67, h⟩ := h
          refine PQl.step (fun _ he ho => LR.idxT (enc := TDot.e) (L := l1) (y := x66) Tryz.underlying28 Tryz.sizeOf32 (he rfl rfl) (he rfl rfl) hy67 (fun _ => rfl)) rfl ?_
          refine PQl.step (fun _ he ho => LR.loadEpAgg (ys := [_, _]) Tryz.isAgg32 Tryz.sizeOf32 (he rfl rfl) rfl rfl) rfl ?_
          refine PQl.step (fun _ he ho => LR.loadRefAgg (ps := [_, _]) Tryz.isAgg32 Tryz.sizeOf32 (he rfl rfl) (ho rfl) rfl rfl) rfl ?_
          replace h := iDet h
          obtain ⟨v68, hy69, h⟩ := h
          refine PQl.step (fun _ he ho => LR.callN (r07_Cmp_ok x66 d2 v68 hy69) (he rfl rfl) Tryz.call88 (evsE he rfl rfl) rfl rfl rfl) rfl ?_
          refine PQl.step (fun _ he ho => LR.gtr (he rfl rfl) (he rfl rfl)) rfl ?_
          refine PQl.nil ?_
          refine PWc.cond rfl (fun hc70 => ?_) (fun hc70 => ?_)
          · replace h := iT hc70 h
            refine PWc.region ?_
            refine PWl.step (LR.move rfl) rfl ?_
            refine PWl.step (LR.move rfl) rfl ?_
            refine PWl.step (LR.move rfl) rfl ?_
            replace h := iIdx h
            obtain ⟨x71, hy72, h⟩ := h
            refine PWl.step (LR.idxT (enc := TDot.e) (L := l1) (y := x71) Tryz.underlying28 Tryz.sizeOf32 rfl rfl hy72 (fun _ => rfl)) rfl ?_
            refine PWl.step (LR.loadEpAgg (ys := [_, _]) Tryz.isAgg32 Tryz.sizeOf32 rfl rfl rfl) rfl ?_
            refine PWl.step (LR.buildSliceD [.tmp 49] elem28 rfl rfl (.cons rfl rfl rfl <| .nil) (by decide) (by decide)) rfl ?_
            refine PWl.re (tl := [(0, _), (3, _), (5, _), (7, _), (45, _), (50, _)]) (to := [(3, _), (5, _)]) rfl (.cons rfl rfl <| .cons rfl rfl <| .cons rfl rfl <| .cons rfl rfl <| .cons rfl rfl <| .cons rfl rfl <| .nil) (.cons rfl rfl <| .cons rfl rfl <| .nil) ?_
            replace h := iNeed h
            obtain ⟨hy73, h⟩ := h
            refine PWl.step (LR.appT (enc := TDot.e) (L := out63) (R := [x71]) [5, 45] elem28 Tryz.underlying28 rfl rfl rfl (Src.slT (enc := TDot.e) (R := [x71]) rfl (fun _ => rfl)) (fun _ => rfl) hy73 rfl rfl) rfl ?_
            refine PWl.step (LR.assign rfl) rfl ?_
            refine PWl.nil ?_
            exact ⟨(out63 ++ [x71]), (), h, Sub.of rfl (.cons rfl rfl <| .cons rfl rfl <| .cons rfl rfl <| .cons rfl rfl <| .nil) (.cons rfl rfl <| .cons rfl rfl <| .nil)⟩
          · replace h := iF hc70 h
            refine PWc.skip ?_
            exact ⟨out63, (), h, Sub.of rfl (.cons rfl rfl <| .cons rfl rfl <| .cons rfl rfl <| .cons rfl rfl <| .nil) (.cons rfl rfl <| .cons rfl rfl <| .nil)⟩
        · rintro out65 _ h
          refine PWc.region ?_
          refine PWl.step (LR.move rfl) rfl ?_
          refine PWl.step (LR.addW rfl rfl) rfl ?_
          refine PWl.step (LR.assign rfl) rfl ?_
          refine PWl.nil ?_
          exact ⟨((IntKind.i64.wrap (i62 + 1)), out65), (), h, Sub.of rfl (.cons rfl rfl <| .cons rfl rfl <| .cons rfl rfl <| .cons rfl rfl <| .nil) (.cons rfl rfl <| .cons rfl rfl <| .nil)⟩
      · replace h := iF hc64 h
        refine PWc.exit ?_
        exact ⟨out63, (), h, Sub.of rfl (.cons rfl rfl <| .nil) (.cons rfl rfl <| .nil)⟩
    · rintro out39 _ h
      refine PWc.seq ?_
      refine PWc.region ?_
      refine PWl.step (LR.move rfl) rfl ?_
      refine PWl.step (LR.assign rfl) rfl ?_
      refine PWl.nil ?_
      refine PWc.ret ?_
      replace h : _ = r0 := h
      subst h
      exact ⟨.inr rfl, 4, rfl, .inr ⟨5, _, rfl, (by simp), rfl⟩⟩
end Go.Proofs


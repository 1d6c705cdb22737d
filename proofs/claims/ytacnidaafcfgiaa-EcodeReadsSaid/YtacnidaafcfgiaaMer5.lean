/- Texts that the walks and laws lean on, side by side. -/
import Derived.Test.YtacnidaafcfgiaaMer2
import Derived.Test.YtacnidaafcfgiaaMer3
import Derived.Test.YtacnidaafcfgiaaMer4
set_option linter.unusedVariables false
set_option linter.unusedSimpArgs false
namespace Go.Proofs
open Go.Ep
set_option maxHeartbeats 1000000
set_option maxRecDepth 100000
set_option linter.unusedVariables false
set_option linter.unusedSimpArgs false


theorem cmp_isNaN_uint16_ok (x1 : Int) (r0 : Bool) (h : (cmp_isNaN_uint16 x1).wp (· = r0)) : PFun Try.prog 174 [.d (.v (.int .u16 x1))] (.d (.v (.bool r0))) := by
  refine PFun.intro (sl := [(0, _)]) Try.func174 rfl Try.ntmps174 rfl rfl ?_
  intro ctx hK
  refine PWc.seq ?_
  refine PWc.region ?_
  refine PWl.step (LR.assign rfl) rfl ?_
  refine PWl.nil ?_
  refine PWc.seq ?_
  refine PWc.region ?_
  refine PWl.step (LR.move rfl) rfl ?_
  refine PWl.step (LR.move rfl) rfl ?_
  refine PWl.step (LR.neq rfl rfl) rfl ?_
  refine PWl.step (LR.assign rfl) rfl ?_
  refine PWl.nil ?_
  refine PWc.ret ?_
  replace h : _ = r0 := h
  subst h
  exact ⟨.inr rfl, _, .cons (.tmp rfl rfl) <| .nil, rfl⟩

theorem cmp_Compare_uint16_ok (x1 : Int) (y2 : Int) (r0 : Int) (h : (cmp_Compare_uint16 x1 y2).wp (· = r0)) : PFun Try.prog 146 [.d (.v (.int .u16 x1)), .d (.v (.int .u16 y2))] (.d (.v (.int .i64 r0))) := by
  refine PFun.intro (sl := [(0, _), (1, _)]) Try.func146 rfl Try.ntmps146 rfl rfl ?_
  intro ctx hK
  refine PWc.seq ?_
  refine PWc.region ?_
  refine PWl.step (LR.assign rfl) rfl ?_
  refine PWl.nil ?_
  refine PWc.seq ?_
  refine PWc.region ?_
  refine PWl.step (LR.move rfl) rfl ?_
  replace h := iDet h
  obtain ⟨v3, hy4, h⟩ := h
  refine PWl.step (LR.callN (cmp_isNaN_uint16_ok x1 v3 hy4) rfl Try.call174 rfl rfl rfl rfl) rfl ?_
  refine PWl.step (LR.assign rfl) rfl ?_
  refine PWl.nil ?_
  refine PWc.seq ?_
  refine PWc.region ?_
  refine PWl.step (LR.move rfl) rfl ?_
  replace h := iDet h
  obtain ⟨v5, hy6, h⟩ := h
  refine PWl.step (LR.callN (cmp_isNaN_uint16_ok y2 v5 hy6) rfl Try.call174 rfl rfl rfl rfl) rfl ?_
  refine PWl.step (LR.assign rfl) rfl ?_
  refine PWl.nil ?_
  refine PWc.seq ?_
  refine PWc.seq ?_
  refine PWc.region ?_
  refine PWl.step (LR.move rfl) rfl ?_
  refine PWl.nil ?_
  refine PWc.cond rfl (fun hc7 => ?_) (fun hc7 => ?_)
  · replace h := iT hc7 h
    refine PWc.seq ?_
    refine PWc.seq ?_
    refine PWc.region ?_
    refine PWl.step (LR.move rfl) rfl ?_
    refine PWl.nil ?_
    refine PWc.cond rfl (fun hc8 => ?_) (fun hc8 => ?_)
    · replace h := iT hc8 h
      refine PWc.seq ?_
      refine PWc.region ?_
      refine PWl.step (LR.assign rfl) rfl ?_
      refine PWl.nil ?_
      refine PWc.ret ?_
      replace h : _ = r0 := h
      subst h
      exact ⟨.inr rfl, _, .cons (.tmp rfl rfl) <| .nil, rfl⟩
    · replace h := iF hc8 h
      refine PWc.skip ?_
      refine PWc.seq ?_
      refine PWc.region ?_
      refine PWl.step (LR.assign rfl) rfl ?_
      refine PWl.nil ?_
      refine PWc.ret ?_
      replace h : _ = r0 := h
      subst h
      exact ⟨.inr rfl, _, .cons (.tmp rfl rfl) <| .nil, rfl⟩
  · replace h := iF hc7 h
    refine PWc.skip ?_
    refine PWc.seq ?_
    refine PWc.seq ?_
    refine PWc.region ?_
    refine PWl.step (LR.move rfl) rfl ?_
    refine PWl.nil ?_
    refine PWc.cond rfl (fun hc9 => ?_) (fun hc9 => ?_)
    · replace h := iT hc9 h
      refine PWc.seq ?_
      refine PWc.region ?_
      refine PWl.step (LR.assign rfl) rfl ?_
      refine PWl.nil ?_
      refine PWc.ret ?_
      replace h : _ = r0 := h
      subst h
      exact ⟨.inr rfl, _, .cons (.tmp rfl rfl) <| .nil, rfl⟩
    · replace h := iF hc9 h
      refine PWc.skip ?_
      refine PWc.seq ?_
      refine PWc.seq ?_
      refine PWc.region ?_
      refine PWl.step (LR.move rfl) rfl ?_
      refine PWl.step (LR.move rfl) rfl ?_
      refine PWl.step (LR.lss rfl rfl) rfl ?_
      refine PWl.nil ?_
      refine PWc.cond rfl (fun hc10 => ?_) (fun hc10 => ?_)
      · replace h := iT hc10 h
        refine PWc.seq ?_
        refine PWc.region ?_
        refine PWl.step (LR.assign rfl) rfl ?_
        refine PWl.nil ?_
        refine PWc.ret ?_
        replace h : _ = r0 := h
        subst h
        exact ⟨.inr rfl, _, .cons (.tmp rfl rfl) <| .nil, rfl⟩
      · replace h := iF hc10 h
        refine PWc.skip ?_
        refine PWc.seq ?_
        refine PWc.seq ?_
        refine PWc.region ?_
        refine PWl.step (LR.move rfl) rfl ?_
        refine PWl.step (LR.move rfl) rfl ?_
        refine PWl.step (LR.gtr rfl rfl) rfl ?_
        refine PWl.nil ?_
        refine PWc.cond rfl (fun hc11 => ?_) (fun hc11 => ?_)
        · replace h := iT hc11 h
          refine PWc.seq ?_
          refine PWc.region ?_
          refine PWl.step (LR.assign rfl) rfl ?_
          refine PWl.nil ?_
          refine PWc.ret ?_
          replace h : _ = r0 := h
          subst h
          exact ⟨.inr rfl, _, .cons (.tmp rfl rfl) <| .nil, rfl⟩
        · replace h := iF hc11 h
          refine PWc.skip ?_
          refine PWc.seq ?_
          refine PWc.region ?_
          refine PWl.step (LR.assign rfl) rfl ?_
          refine PWl.nil ?_
          refine PWc.ret ?_
          replace h : _ = r0 := h
          subst h
          exact ⟨.inr rfl, _, .cons (.tmp rfl rfl) <| .nil, rfl⟩
end Go.Proofs

namespace Go.Proofs
open Go.Ep
set_option maxHeartbeats 1000000
set_option maxRecDepth 100000
set_option linter.unusedVariables false
set_option linter.unusedSimpArgs false


theorem dot_Cmp_ok (a1 : TDot) (b2 : TDot) (r0 : Int) (h : (dot_Cmp a1 b2).wp (· = r0)) : PFun Try.prog 107 [.agg (List.map .d (TDot.e a1)), .agg (List.map .d (TDot.e b2))] (.d (.v (.int .i64 r0))) := by
  refine PFun.intro (sl := [(0, _), (1, _)]) Try.func107 rfl Try.ntmps107 rfl rfl ?_
  intro ctx hK
  refine PWc.seq ?_
  refine PWc.region ?_
  refine PWl.step (LR.box rfl rfl rfl rfl) rfl ?_
  refine PWl.step (LR.box rfl rfl rfl rfl) rfl ?_
  refine PWl.step (LR.assign rfl) rfl ?_
  refine PWl.nil ?_
  refine PWc.seq ?_
  refine PWc.seq ?_
  refine PWc.region ?_
  refine PWl.step (LR.fieldRef Try.underlying38 rfl Try.sizeOf28 (by decide) rfl rfl) rfl ?_
  refine PWl.step (LR.loadRef Try.isAgg28 rfl rfl rfl) rfl ?_
  refine PWl.step (LR.fieldRef Try.underlying38 rfl Try.sizeOf28 (by decide) rfl rfl) rfl ?_
  refine PWl.step (LR.loadRef Try.isAgg28 rfl rfl rfl) rfl ?_
  replace h := iDet h
  obtain ⟨v3, hy4, h⟩ := h
  refine PWl.step (LR.callN (cmp_Compare_uint16_ok a1.dev b2.dev v3 hy4) rfl Try.call146 rfl rfl rfl rfl) rfl ?_
  refine PWl.step (LR.assign rfl) rfl ?_
  refine PWl.nil ?_
  refine PWc.seq ?_
  refine PWc.region ?_
  refine PWl.step (LR.move rfl) rfl ?_
  refine PWl.step (LR.neq rfl rfl) rfl ?_
  refine PWl.nil ?_
  refine PWc.cond rfl (fun hc5 => ?_) (fun hc5 => ?_)
  · replace h := iT hc5 h
    refine PWc.seq ?_
    refine PWc.region ?_
    refine PWl.step (LR.move rfl) rfl ?_
    refine PWl.step (LR.assign rfl) rfl ?_
    refine PWl.nil ?_
    refine PWc.ret ?_
    replace h : _ = r0 := h
    subst h
    exact ⟨.inr rfl, _, .cons (.tmp rfl rfl) <| .nil, rfl⟩
  · replace h := iF hc5 h
    refine PWc.skip ?_
    refine PWc.seq ?_
    refine PWc.region ?_
    refine PWl.step (LR.fieldRef Try.underlying38 rfl Try.sizeOf36 (by decide) rfl rfl) rfl ?_
    refine PWl.step (LR.loadRef Try.isAgg36 rfl rfl rfl) rfl ?_
    refine PWl.step (LR.fieldRef Try.underlying38 rfl Try.sizeOf36 (by decide) rfl rfl) rfl ?_
    refine PWl.step (LR.loadRef Try.isAgg36 rfl rfl rfl) rfl ?_
    replace h := iDet h
    obtain ⟨v6, hy7, h⟩ := h
    refine PWl.step (LR.callN (cmp_Compare_uint64_ok a1.n b2.n v6 hy7) rfl Try.call143 rfl rfl rfl rfl) rfl ?_
    refine PWl.step (LR.assign rfl) rfl ?_
    refine PWl.nil ?_
    refine PWc.ret ?_
    replace h : _ = r0 := h
    subst h
    exact ⟨.inr rfl, _, .cons (.tmp rfl rfl) <| .nil, rfl⟩

theorem slices_Compact_sl_Dot_Dot_o_ok (row1 : List TDot) (r0 : List TDot) (h : (slices_Compact_sl_Dot_Dot_o row1).wp (· = r0)) : PObj Try.prog 129 [.row 100 (List.length row1)] [(100, .row 38 2 (List.map TDot.e row1))] [] (.row 100 (List.length r0)) (fun _ : Unit => [(100, .row 38 2 (List.map TDot.e r0))]) := by
  refine PObj.intro (sl := [(0, _)]) Try.func129 rfl Try.ntmps129 rfl rfl rfl ?_
  intro ctx hK pv
  refine PWc.seq ?_
  refine PWc.region ?_
  refine PWl.step (LR.assignNilRow 38 2 rfl) rfl ?_
  refine PWl.nil ?_
  refine PWc.seq ?_
  refine PWc.seq ?_
  refine PWc.region ?_
  refine PWl.step (LR.move rfl) rfl ?_
  refine PWl.step (LR.lenRow Try.underlying39 rfl) rfl ?_
  refine PWl.step (LR.lss rfl rfl) rfl ?_
  refine PWl.nil ?_
  refine PWc.cond rfl (fun hc2 => ?_) (fun hc2 => ?_)
  · replace h := iT hc2 h
    refine PWc.seq ?_
    refine PWc.region ?_
    refine PWl.step (LR.move rfl) rfl ?_
    refine PWl.re (tl := [(0, _), (6, _), (7, _), (8, _), (9, _)]) (to := [(100, _)]) rfl (.cons rfl rfl <| .cons rfl rfl <| .cons rfl rfl <| .cons rfl rfl <| .cons rfl rfl <| .nil) (.cons rfl rfl <| .nil) ?_
    refine PWl.step (LR.assign rfl) rfl ?_
    refine PWl.nil ?_
    refine PWc.ret ?_
    replace h : _ = r0 := h
    subst h
    exact EndsO.mk () (.inr rfl) (Sub.of (tl := [(2, _)]) (to := [(100, _)]) rfl (.cons rfl (by first | rfl | (simp; done) | (congr 1; first | (simp; done) | (simp; omega))) <| .nil) (.cons rfl rfl <| .nil)) (.cons (.tmp rfl) <| .nil) rfl rfl
  · replace h := iF hc2 h
    refine PWc.skip ?_
    refine PWc.seq ?_
    refine PWc.seq ?_
    refine PWc.region ?_
    refine PWl.step (LR.assign rfl) rfl ?_
    refine PWl.nil ?_
    refine PWc.jnX (iBind h) (fun (_ : Unit) (_ : Unit) => ⟨61, [(0, .row 100 (List.length row1))], [(100, .row 38 2 (List.map TDot.e row1))]⟩) (fun h => ?_) ?_
    · refine PWc.block ?_
      refine PWc.loopM (fun (k148 : Int) (_ : Unit) => ⟨61, [(0, .row 100 (List.length row1)), (3, .d (.v (.int .i64 k148)))], [(100, .row 38 2 (List.map TDot.e row1))]⟩) () h (Sub.of rfl (.cons rfl rfl <| .cons rfl rfl <| .nil) (.cons rfl rfl <| .nil)) ?_
      rintro N k148 _ h
      refine PWc.seq ?_
      refine PWc.seq ?_
      refine PWc.region ?_
      refine PWl.step (LR.move rfl) rfl ?_
      refine PWl.step (LR.move rfl) rfl ?_
      refine PWl.step (LR.lenRow Try.underlying39 rfl) rfl ?_
      refine PWl.step (LR.lss rfl rfl) rfl ?_
      refine PWl.nil ?_
      refine PWc.cond rfl (fun hc149 => ?_) (fun hc149 => ?_)
      · replace h := iT hc149 h
        refine PWc.skip ?_
        refine PWc.seq ?_
        refine PWc.jnX (iBind h) (fun (_ : Unit) (_ : Unit) => ⟨61, [(0, .row 100 (List.length row1)), (3, .d (.v (.int .i64 k148)))], [(100, .row 38 2 (List.map TDot.e row1))]⟩) (fun h => ?_) ?_
        · refine PWc.block ?_
          refine PWc.seq ?_
          refine PWc.regionD (by kernel_rfl) (by kernel_rfl) ?_
          refine PQl.step (fun _ he ho => LR.move (he rfl rfl)) rfl ?_
          refine PQl.step (fun _ he ho => LR.move (he rfl rfl)) rfl ?_
          replace h := iIdx h
          obtain ⟨x150, hy151, h⟩ := h
          refine PQl.step (fun _ he ho => LR.idxRowT (L := row1) (y := x150) Try.underlying39 Try.sizeOf38 (he rfl rfl) rfl (he rfl rfl) hy151) rfl ?_
          refine PQl.step (fun _ he ho => LR.loadRpT (enc := TDot.e) (L := row1) (y := x150) Try.isAgg38 Try.sizeOf38 (he rfl rfl) (ho rfl) hy151.2) rfl ?_
          refine PQl.step (fun _ he ho => LR.move (he rfl rfl)) rfl ?_
          refine PQl.step (fun _ he ho => LR.move (he rfl rfl)) rfl ?_
          refine PQl.step (fun _ he ho => LR.subW (he rfl rfl) (he rfl rfl)) rfl ?_
          replace h := iIdx h
          obtain ⟨x152, hy153, h⟩ := h
          refine PQl.step (fun _ he ho => LR.idxRowT (L := row1) (y := x152) Try.underlying39 Try.sizeOf38 (he rfl rfl) rfl (he rfl rfl) hy153) rfl ?_
          refine PQl.step (fun _ he ho => LR.loadRpT (enc := TDot.e) (L := row1) (y := x152) Try.isAgg38 Try.sizeOf38 (he rfl rfl) (ho rfl) hy153.2) rfl ?_
          refine PQl.step (fun _ he ho => LR.eqlAgg (he rfl rfl) (he rfl rfl) rfl rfl eq38) rfl ?_
          refine PQl.nil ?_
          refine PWc.cond rfl (fun hc154 => ?_) (fun hc154 => ?_)
          · replace h := iT hc154 h
            refine PWc.seq ?_
            refine PWc.region ?_
            refine PWl.step (LR.move rfl) rfl ?_
            refine PWl.step (LR.move rfl) rfl ?_
            replace h := iNeed h
            obtain ⟨hy155, h⟩ := h
            refine PWl.step (LR.pieceRowT (enc := TDot.e) (L := row1) Try.underlying39 Try.sizeOf38 rfl rfl rfl rfl hy155) rfl ?_
            refine PWl.step (LR.assign rfl) rfl ?_
            refine PWl.nil ?_
            refine PWc.seq ?_
            refine PWc.seq ?_
            refine PWc.region ?_
            refine PWl.step (LR.assign rfl) rfl ?_
            refine PWl.nil ?_
            refine PWc.jn (iBind h) (fun (⟨k156, v157⟩ : Int × List TDot) (_ : Unit) => ⟨61, [(0, .row 100 (List.length v157)), (3, .d (.v (.int .i64 k156)))], [(100, .row 38 2 (List.map TDot.e v157))]⟩) (fun h => ?_) ?_
            · refine PWc.block ?_
              refine PWc.loopM (fun (⟨k197, k2_198, v199⟩ : Int × Int × List TDot) (_ : Unit) => ⟨61, [(0, .row 100 (List.length v199)), (3, .d (.v (.int .i64 k197))), (4, .pc 100 (Int.toNat k148) (List.length row1 - Int.toNat k148) 2), (5, .d (.v (.int .i64 k2_198)))], [(100, .row 38 2 (List.map TDot.e v199))]⟩) () h (Sub.of rfl (.cons rfl rfl <| .cons rfl rfl <| .cons rfl rfl <| .cons rfl rfl <| .nil) (.cons rfl rfl <| .nil)) ?_
              rintro N ⟨k197, k2_198, v199⟩ _ h
              refine PWc.seq ?_
              refine PWc.seq ?_
              refine PWc.region ?_
              refine PWl.step (LR.move rfl) rfl ?_
              refine PWl.step (LR.move rfl) rfl ?_
              refine PWl.step (LR.lenPc Try.underlying39 rfl) rfl ?_
              refine PWl.step (LR.lss rfl rfl) rfl ?_
              refine PWl.nil ?_
              refine PWc.cond rfl (fun hc200 => ?_) (fun hc200 => ?_)
              · replace h := iT hc200 h
                refine PWc.skip ?_
                refine PWc.seq ?_
                refine PWc.jn (iBind h) (fun (⟨k201, v202⟩ : Int × List TDot) (_ : Unit) => ⟨61, [(0, .row 100 (List.length v202)), (3, .d (.v (.int .i64 k201))), (4, .pc 100 (Int.toNat k148) (List.length row1 - Int.toNat k148) 2), (5, .d (.v (.int .i64 k2_198)))], [(100, .row 38 2 (List.map TDot.e v202))]⟩) (fun h => ?_) ?_
                · refine PWc.block ?_
                  refine PWc.seq ?_
                  refine PWc.regionD (by kernel_rfl) (by kernel_rfl) ?_
                  refine PQl.step (fun _ he ho => LR.move (he rfl rfl)) rfl ?_
                  refine PQl.step (fun _ he ho => LR.move (he rfl rfl)) rfl ?_
                  replace h := iNeed h
                  obtain ⟨hy205, h⟩ := h
                  replace h := iIdx h
                  obtain ⟨x203, hy204, h⟩ := h
                  have hy206 : True ∧ v199[((Int.toNat k148) + Int.toNat k2_198)]? = some x203 := ⟨trivial, hy204.2⟩
                  refine PQl.step (fun _ he ho => LR.idxPc Try.underlying39 Try.sizeOf38 (he rfl rfl) (he rfl rfl) hy205) rfl ?_
                  refine PQl.step (fun _ he ho => LR.loadRpT (enc := TDot.e) (L := v199) (y := x203) Try.isAgg38 Try.sizeOf38 (he rfl rfl) (ho rfl) hy206.2) rfl ?_
                  refine PQl.step (fun _ he ho => LR.move (he rfl rfl)) rfl ?_
                  refine PQl.step (fun _ he ho => LR.move (he rfl rfl)) rfl ?_
                  refine PQl.step (fun _ he ho => LR.subW (he rfl rfl) (he rfl rfl)) rfl ?_
                  replace h := iNeed h
                  obtain ⟨hy209, h⟩ := h
                  replace h := iIdx h
                  obtain ⟨x207, hy208, h⟩ := h
                  have hy210 : True ∧ v199[((Int.toNat k148) + Int.toNat (IntKind.i64.wrap (k2_198 - 1)))]? = some x207 := ⟨trivial, hy208.2⟩
                  refine PQl.step (fun _ he ho => LR.idxPc Try.underlying39 Try.sizeOf38 (he rfl rfl) (he rfl rfl) hy209) rfl ?_
                  refine PQl.step (fun _ he ho => LR.loadRpT (enc := TDot.e) (L := v199) (y := x207) Try.isAgg38 Try.sizeOf38 (he rfl rfl) (ho rfl) hy210.2) rfl ?_
                  refine PQl.step (fun _ he ho => LR.neqAgg (he rfl rfl) (he rfl rfl) rfl rfl eq38) rfl ?_
                  refine PQl.nil ?_
                  refine PWc.cond rfl (fun hc211 => ?_) (fun hc211 => ?_)
                  · replace h := iT hc211 h
                    refine PWc.seq ?_
                    refine PWc.region ?_
                    refine PWl.step (LR.move rfl) rfl ?_
                    refine PWl.step (LR.move rfl) rfl ?_
                    refine PWl.step (LR.move rfl) rfl ?_
                    refine PWl.re (tl := [(0, _), (3, _), (4, _), (5, _), (45, _), (46, _), (47, _)]) (to := [(100, _)]) rfl (.cons rfl rfl <| .cons rfl rfl <| .cons rfl rfl <| .cons rfl rfl <| .cons rfl rfl <| .cons rfl rfl <| .cons rfl rfl <| .nil) (.cons rfl rfl <| .nil) ?_
                    refine PWl.step (LR.move rfl) rfl ?_
                    replace h := iNeed h
                    obtain ⟨hy214, h⟩ := h
                    replace h := iIdx h
                    obtain ⟨x212, hy213, h⟩ := h
                    have hy215 : True ∧ v199[((Int.toNat k148) + Int.toNat k2_198)]? = some x212 := ⟨trivial, hy213.2⟩
                    refine PWl.step (LR.idxPc Try.underlying39 Try.sizeOf38 rfl rfl hy214) rfl ?_
                    refine PWl.step (LR.loadRpT (enc := TDot.e) (L := v199) (y := x212) Try.isAgg38 Try.sizeOf38 rfl rfl hy215.2) rfl ?_
                    replace h := iIdx h
                    obtain ⟨x216, hy217, h⟩ := h
                    refine PWl.step (LR.idxRowT (L := v199) (y := x216) Try.underlying39 Try.sizeOf38 rfl rfl rfl hy217) rfl ?_
                    refine PWl.step (LR.storeRpT (enc := TDot.e) (L := v199) (a := x216) (b := x212) Try.sizeOf38 rfl rfl rfl rfl rfl hy217.2 rfl rfl) rfl ?_
                    refine PWl.nil ?_
                    refine PWc.region ?_
                    refine PWl.step (LR.move rfl) rfl ?_
                    refine PWl.step (LR.addW rfl rfl) rfl ?_
                    refine PWl.step (LR.assign rfl) rfl ?_
                    refine PWl.nil ?_
                    exact ⟨((IntKind.i64.wrap (k197 + 1)), (List.set v199 (Int.toNat k197) x212)), (), h, Sub.of rfl (.cons rfl (by first | rfl | (simp; done) | (congr 1; first | (simp; done) | (simp; omega))) <| .cons rfl rfl <| .cons rfl rfl <| .cons rfl rfl <| .nil) (.cons rfl rfl <| .nil)⟩
                  · replace h := iF hc211 h
                    refine PWc.skip ?_
                    exact ⟨(k197, v199), (), h, Sub.of rfl (.cons rfl rfl <| .cons rfl rfl <| .cons rfl rfl <| .cons rfl rfl <| .nil) (.cons rfl rfl <| .nil)⟩
                · rintro ⟨k201, v202⟩ _ h
                  refine PWc.region ?_
                  refine PWl.step (LR.move rfl) rfl ?_
                  refine PWl.step (LR.addW rfl rfl) rfl ?_
                  refine PWl.step (LR.assign rfl) rfl ?_
                  refine PWl.nil ?_
                  exact ⟨(k201, (IntKind.i64.wrap (k2_198 + 1)), v202), (), h, Sub.of rfl (.cons rfl rfl <| .cons rfl rfl <| .cons rfl rfl <| .cons rfl rfl <| .nil) (.cons rfl rfl <| .nil)⟩
              · replace h := iF hc200 h
                refine PWc.exit ?_
                exact ⟨(k197, v199), (), h, Sub.of rfl (.cons rfl rfl <| .cons rfl rfl <| .nil) (.cons rfl rfl <| .nil)⟩
            · rintro ⟨k156, v157⟩ _ h
              refine PWc.seq ?_
              refine PWc.region ?_
              refine PWl.step (LR.move rfl) rfl ?_
              refine PWl.step (LR.move rfl) rfl ?_
              replace h := iNeed h
              obtain ⟨hy218, h⟩ := h
              refine PWl.step (LR.pieceRowT (enc := TDot.e) (L := v157) Try.underlying39 Try.sizeOf38 rfl rfl rfl rfl hy218) rfl ?_
              replace h := iNeed h
              obtain ⟨hy219, h⟩ := h
              refine PWl.step (LR.clearPcT (enc := TDot.e) (L := v157) (z := (⟨0, 0⟩ : TDot)) Try.underlying39 rfl rfl Try.zeroValue38 rfl rfl rfl rfl hy219 rfl) rfl ?_
              refine PWl.nil ?_
              refine PWc.seq ?_
              refine PWc.region ?_
              refine PWl.step (LR.move rfl) rfl ?_
              refine PWl.step (LR.move rfl) rfl ?_
              replace h := iNeed h
              obtain ⟨hy220, h⟩ := h
              refine PWl.step (LR.cutRowT (enc := TDot.e) (L := (List.take (Int.toNat k156) v157 ++ List.replicate (List.length v157 - Int.toNat k156) (⟨0, 0⟩ : TDot) ++ List.drop ((Int.toNat k156) + (List.length v157 - Int.toNat k156)) v157)) [0, 54, 56, 57] Try.underlying39 Try.sizeOf38 rfl (by first | (simp; done) | (simp; omega) | omega) rfl rfl hy220 rfl) rfl ?_
              refine PWl.step (LR.assign rfl) rfl ?_
              refine PWl.nil ?_
              refine PWc.ret ?_
              replace h : _ = r0 := h
              subst h
              exact EndsO.mk () (.inr rfl) (Sub.of (tl := [(2, _)]) (to := [(100, _)]) rfl (.cons rfl (by first | rfl | (simp; done) | (congr 1; first | (simp; done) | (simp; omega))) <| .nil) (.cons rfl rfl <| .nil)) (.cons (.tmp rfl) <| .nil) rfl rfl
          · replace h := iF hc154 h
            refine PWc.skip ?_
            exact ⟨(), (), h, Sub.of rfl (.cons rfl rfl <| .cons rfl rfl <| .nil) (.cons rfl rfl <| .nil)⟩
        · rintro _ _ h
          refine PWc.region ?_
          refine PWl.step (LR.move rfl) rfl ?_
          refine PWl.step (LR.addW rfl rfl) rfl ?_
          refine PWl.step (LR.assign rfl) rfl ?_
          refine PWl.nil ?_
          exact ⟨(IntKind.i64.wrap (k148 + 1)), (), h, Sub.of rfl (.cons rfl rfl <| .cons rfl rfl <| .nil) (.cons rfl rfl <| .nil)⟩
      · replace h := iF hc149 h
        refine PWc.exit ?_
        exact ⟨(), (), h, Sub.of rfl (.cons rfl rfl <| .nil) (.cons rfl rfl <| .nil)⟩
    · rintro _ _ h
      refine PWc.seq ?_
      refine PWc.region ?_
      refine PWl.step (LR.move rfl) rfl ?_
      refine PWl.step (LR.assign rfl) rfl ?_
      refine PWl.nil ?_
      refine PWc.ret ?_
      replace h : _ = r0 := h
      subst h
      exact EndsO.mk () (.inr rfl) (Sub.of (tl := [(2, _)]) (to := [(100, _)]) rfl (.cons rfl (by first | rfl | (simp; done) | (congr 1; first | (simp; done) | (simp; omega))) <| .nil) (.cons rfl rfl <| .nil)) (.cons (.tmp rfl) <| .nil) rfl rfl

theorem dot_Sort_ok (l1 : List TDot) (r0 : List TDot) (h : (dot_Sort l1).wp (· = r0)) : PRow Try.prog 83 [.d (.sl (List.map TDot.e l1))] 38 2 (List.map TDot.e r0) := by
  refine PRow.intro (sl := [(0, _)]) Try.func83 rfl Try.ntmps83 rfl rfl ?_
  intro ctx hK
  refine PWc.seq ?_
  refine PWc.region ?_
  refine PWl.step (LR.assignNilRow 38 2 rfl) rfl ?_
  refine PWl.nil ?_
  refine PWc.seq ?_
  refine PWc.region ?_
  refine PWl.step (LR.move rfl) rfl ?_
  replace h := iDet h
  obtain ⟨v2, hy3, h⟩ := h
  refine PWl.step (LR.rowN (slices_Clone_sl_Dot_Dot_ok l1 v2 hy3) rfl Try.call121 rfl rfl rfl rfl) rfl ?_
  refine PWl.step (LR.assign rfl) rfl ?_
  refine PWl.nil ?_
  refine PWc.seq ?_
  refine PWc.region ?_
  refine PWl.step (LR.move rfl) rfl ?_
  replace h := iNeed h
  obtain ⟨hy5, h⟩ := h
  refine PWl.sortFn (encD := TDot.e) (enc := TDot.v) (l := v2) srt128_107 (fun _ => rfl) TDot.v1 (fun _ => rfl) rfl Try.call128 rfl rfl rfl (by simp) hy5 rfl (fun s4 hy6 hy7 => ?_)
  replace h := iSrt h s4 hy6 hy7
  have hy6l := hy6.length_eq
  refine PWl.nil ?_
  refine PWc.seq ?_
  refine PWc.region ?_
  refine PWl.step (LR.move rfl) rfl ?_
  replace h := iDet h
  obtain ⟨y8, hy9, h⟩ := h
  refine PWl.step (LR.callObj [(100, 5)] [3, 5, 6, 8] [100] (slices_Compact_sl_Dot_Dot_o_ok s4 y8 hy9) hK rfl Try.call129 rfl (by first | rfl | (simp; done) | (simp [PV.nilD, PV.ren, rn]; omega)) (.cons (by first | rfl | (congr 1; first | (simp; done) | (simp; omega))) <| .nil) rfl rfl rfl rfl) rfl ?_
  refine PWl.re (tl := [(0, _), (4, _), (7, _), (9, _)]) (to := [(5, _)]) rfl (.cons rfl rfl <| .cons rfl rfl <| .cons rfl rfl <| .cons rfl rfl <| .nil) (.cons rfl rfl <| .nil) ?_
  refine PWl.step (LR.assign rfl) rfl ?_
  refine PWl.nil ?_
  refine PWc.ret ?_
  replace h : _ = r0 := h
  subst h
  exact ⟨.inr rfl, 2, rfl, .inr ⟨5, _, rfl, (by simp), rfl⟩⟩

end Go.Proofs

namespace Go.Proofs
open Go.Ep
set_option maxHeartbeats 1000000
set_option maxRecDepth 100000
set_option linter.unusedVariables false
set_option linter.unusedSimpArgs false


theorem r07_Good_ok (d1 : TDot) (r0 : Bool) (h : (r07_Good d1).wp (· = r0)) : PFun Try.prog 75 [.agg (List.map .d (TDot.e d1))] (.d (.v (.bool r0))) := by
  refine PFun.intro (sl := [(0, _)]) Try.func75 rfl Try.ntmps75 rfl rfl ?_
  intro ctx hK
  refine PWc.seq ?_
  refine PWc.region ?_
  refine PWl.step (LR.box rfl rfl rfl rfl) rfl ?_
  refine PWl.step (LR.assign rfl) rfl ?_
  refine PWl.nil ?_
  refine PWc.seq ?_
  refine PWc.jn (iBind h) (fun (v2 : Bool) (_ : Unit) => ⟨16, [(2, .d (.v (.bool v2)))], []⟩) (fun h => ?_) ?_
  · refine PWc.region ?_
    refine PWl.step (LR.fieldRef Try.underlying38 rfl Try.sizeOf28 (by decide) rfl rfl) rfl ?_
    refine PWl.step (LR.loadRef Try.isAgg28 rfl rfl rfl) rfl ?_
    refine PWl.step (LR.geq rfl rfl) rfl ?_
    refine PWl.step (LR.move rfl) rfl ?_
    refine PWl.split (d := 6) rfl (fun hg3 => ?_) (fun hg3 => ?_)
    · replace h := iT hg3 h
      refine PWl.guardT (LR.fieldRef Try.underlying38 rfl Try.sizeOf36 (by decide) rfl rfl) rfl rfl rfl ?_
      refine PWl.guardT (LR.loadRef Try.isAgg36 rfl rfl rfl) rfl rfl rfl ?_
      refine PWl.guardT (LR.geq rfl rfl) rfl rfl rfl ?_
      refine PWl.step (LR.pickT rfl rfl) rfl ?_
      refine PWl.step (LR.move rfl) rfl ?_
      refine PWl.split (d := 11) rfl (fun hg4 => ?_) (fun hg4 => ?_)
      · replace h := iT hg4 h
        refine PWl.guardT (LR.fieldRef Try.underlying38 rfl Try.sizeOf36 (by decide) rfl rfl) rfl rfl rfl ?_
        refine PWl.guardT (LR.loadRef Try.isAgg36 rfl rfl rfl) rfl rfl rfl ?_
        refine PWl.guardT (LR.lss rfl rfl) rfl rfl rfl ?_
        refine PWl.step (LR.pickT rfl rfl) rfl ?_
        refine PWl.step (LR.assign rfl) rfl ?_
        refine PWl.nil ?_
        exact ⟨(decide (d1.n < 281474976710656)), (), h, Sub.of rfl (.cons rfl rfl <| .nil) (.nil)⟩
      · replace h := iF hg4 h
        refine PWl.guardF rfl rfl rfl (by decide) ?_
        refine PWl.guardF rfl rfl rfl (by decide) ?_
        refine PWl.guardF rfl rfl rfl (by decide) ?_
        refine PWl.step (LR.pickF rfl rfl) rfl ?_
        refine PWl.step (LR.assign rfl) rfl ?_
        refine PWl.nil ?_
        exact ⟨false, (), h, Sub.of rfl (.cons rfl rfl <| .nil) (.nil)⟩
    · replace h := iF hg3 h
      refine PWl.guardF rfl rfl rfl (by decide) ?_
      refine PWl.guardF rfl rfl rfl (by decide) ?_
      refine PWl.guardF rfl rfl rfl (by decide) ?_
      refine PWl.step (LR.pickF rfl rfl) rfl ?_
      refine PWl.step (LR.move rfl) rfl ?_
      refine PWl.guardF rfl rfl rfl (by decide) ?_
      refine PWl.guardF rfl rfl rfl (by decide) ?_
      refine PWl.guardF rfl rfl rfl (by decide) ?_
      refine PWl.step (LR.pickF rfl rfl) rfl ?_
      refine PWl.step (LR.assign rfl) rfl ?_
      refine PWl.nil ?_
      exact ⟨false, (), h, Sub.of rfl (.cons rfl rfl <| .nil) (.nil)⟩
  · rintro v2 _ h
    refine PWc.ret ?_
    replace h : _ = r0 := h
    subst h
    exact ⟨.inr rfl, _, .cons (.tmp rfl rfl) <| .nil, rfl⟩

theorem r07_Cmp_ok (a1 : TDot) (b2 : TDot) (r0 : Int) (h : (r07_Cmp a1 b2).wp (· = r0)) : PFun Try.prog 110 [.agg (List.map .d (TDot.e a1)), .agg (List.map .d (TDot.e b2))] (.d (.v (.int .i64 r0))) := by
  refine PFun.intro (sl := [(0, _), (1, _)]) Try.func110 rfl Try.ntmps110 rfl rfl ?_
  intro ctx hK
  refine PWc.seq ?_
  refine PWc.region ?_
  refine PWl.step (LR.box rfl rfl rfl rfl) rfl ?_
  refine PWl.step (LR.box rfl rfl rfl rfl) rfl ?_
  refine PWl.step (LR.assign rfl) rfl ?_
  refine PWl.nil ?_
  refine PWc.seq ?_
  refine PWc.seq ?_
  refine PWc.region ?_
  refine PWl.step (LR.loadRefAgg (ps := [_, _]) Try.isAgg38 Try.sizeOf38 rfl rfl rfl rfl) rfl ?_
  refine PWl.step (LR.loadRefAgg (ps := [_, _]) Try.isAgg38 Try.sizeOf38 rfl rfl rfl rfl) rfl ?_
  refine PWl.step (LR.eqlAgg rfl rfl rfl rfl eq38) rfl ?_
  refine PWl.nil ?_
  refine PWc.cond rfl (fun hc3 => ?_) (fun hc3 => ?_)
  · replace h := iT hc3 h
    refine PWc.seq ?_
    refine PWc.region ?_
    refine PWl.step (LR.assign rfl) rfl ?_
    refine PWl.nil ?_
    refine PWc.ret ?_
    replace h : _ = r0 := h
    subst h
    exact ⟨.inr rfl, _, .cons (.tmp rfl rfl) <| .nil, rfl⟩
  · replace h := iF hc3 h
    refine PWc.skip ?_
    refine PWc.seq ?_
    refine PWc.seq ?_
    refine PWc.jn (iBind h) (fun (v4 : Bool) (_ : Unit) => ⟨27, [(26, .d (.v (.bool v4)))], []⟩) (fun h => ?_) ?_
    · refine PWc.region ?_
      refine PWl.step (LR.fieldRef Try.underlying38 rfl Try.sizeOf28 (by decide) rfl rfl) rfl ?_
      refine PWl.step (LR.loadRef Try.isAgg28 rfl rfl rfl) rfl ?_
      refine PWl.step (LR.fieldRef Try.underlying38 rfl Try.sizeOf28 (by decide) rfl rfl) rfl ?_
      refine PWl.step (LR.loadRef Try.isAgg28 rfl rfl rfl) rfl ?_
      refine PWl.step (LR.lss rfl rfl) rfl ?_
      refine PWl.step (LR.move rfl) rfl ?_
      refine PWl.split (d := 13) rfl (fun hg5 => ?_) (fun hg5 => ?_)
      · replace h := iT hg5 h
        refine PWl.guardF rfl rfl rfl (by decide) ?_
        refine PWl.guardF rfl rfl rfl (by decide) ?_
        refine PWl.guardF rfl rfl rfl (by decide) ?_
        refine PWl.guardF rfl rfl rfl (by decide) ?_
        refine PWl.guardF rfl rfl rfl (by decide) ?_
        refine PWl.guardF rfl rfl rfl (by decide) ?_
        refine PWl.re (tl := [(2, _), (3, _), (13, _), (19, _)]) (to := [(2, _), (3, _)]) rfl (.cons rfl rfl <| .cons rfl rfl <| .cons rfl rfl <| .cons rfl rfl <| .nil) (.cons rfl rfl <| .cons rfl rfl <| .nil) ?_
        refine PWl.guardU rfl rfl rfl ?_
        refine PWl.guardU rfl rfl rfl ?_
        refine PWl.guardU rfl rfl rfl ?_
        refine PWl.guardU rfl rfl rfl ?_
        refine PWl.guardU rfl rfl rfl ?_
        refine PWl.guardF rfl rfl rfl (by decide) ?_
        refine PWl.step (LR.pickT rfl rfl) rfl ?_
        refine PWl.nil ?_
        exact ⟨true, (), h, Sub.of rfl (.cons rfl rfl <| .nil) (.nil)⟩
      · replace h := iF hg5 h
        refine PWl.guardT (LR.fieldRef Try.underlying38 rfl Try.sizeOf28 (by decide) rfl rfl) rfl rfl rfl ?_
        refine PWl.guardT (LR.loadRef Try.isAgg28 rfl rfl rfl) rfl rfl rfl ?_
        refine PWl.guardT (LR.fieldRef Try.underlying38 rfl Try.sizeOf28 (by decide) rfl rfl) rfl rfl rfl ?_
        refine PWl.guardT (LR.loadRef Try.isAgg28 rfl rfl rfl) rfl rfl rfl ?_
        refine PWl.guardT (LR.eql rfl rfl) rfl rfl rfl ?_
        refine PWl.guardT (LR.move rfl) rfl rfl rfl ?_
        refine PWl.re (tl := [(2, _), (3, _), (13, _), (19, _)]) (to := [(2, _), (3, _)]) rfl (.cons rfl rfl <| .cons rfl rfl <| .cons rfl rfl <| .cons rfl rfl <| .nil) (.cons rfl rfl <| .cons rfl rfl <| .nil) ?_
        refine PWl.split (d := 19) rfl (fun hg6 => ?_) (fun hg6 => ?_)
        · replace h := iT hg6 h
          refine PWl.guardT (LR.fieldRef Try.underlying38 rfl Try.sizeOf36 (by decide) rfl rfl) rfl rfl rfl ?_
          refine PWl.guardT (LR.loadRef Try.isAgg36 rfl rfl rfl) rfl rfl rfl ?_
          refine PWl.guardT (LR.fieldRef Try.underlying38 rfl Try.sizeOf36 (by decide) rfl rfl) rfl rfl rfl ?_
          refine PWl.guardT (LR.loadRef Try.isAgg36 rfl rfl rfl) rfl rfl rfl ?_
          refine PWl.guardT (LR.lss rfl rfl) rfl rfl rfl ?_
          refine PWl.guardT (LR.pickT rfl rfl) rfl rfl rfl ?_
          refine PWl.step (LR.pickF rfl rfl) rfl ?_
          refine PWl.nil ?_
          exact ⟨(decide (a1.n < b2.n)), (), h, Sub.of rfl (.cons rfl rfl <| .nil) (.nil)⟩
        · replace h := iF hg6 h
          refine PWl.guardF rfl rfl rfl (by decide) ?_
          refine PWl.guardF rfl rfl rfl (by decide) ?_
          refine PWl.guardF rfl rfl rfl (by decide) ?_
          refine PWl.guardF rfl rfl rfl (by decide) ?_
          refine PWl.guardF rfl rfl rfl (by decide) ?_
          refine PWl.guardT (LR.pickF rfl rfl) rfl rfl rfl ?_
          refine PWl.step (LR.pickF rfl rfl) rfl ?_
          refine PWl.nil ?_
          exact ⟨false, (), h, Sub.of rfl (.cons rfl rfl <| .nil) (.nil)⟩
    · rintro v4 _ h
      refine PWc.cond rfl (fun hc7 => ?_) (fun hc7 => ?_)
      · replace h := iT hc7 h
        refine PWc.seq ?_
        refine PWc.region ?_
        refine PWl.step (LR.assign rfl) rfl ?_
        refine PWl.nil ?_
        refine PWc.ret ?_
        replace h : _ = r0 := h
        subst h
        exact ⟨.inr rfl, _, .cons (.tmp rfl rfl) <| .nil, rfl⟩
      · replace h := iF hc7 h
        refine PWc.skip ?_
        refine PWc.seq ?_
        refine PWc.region ?_
        refine PWl.step (LR.assign rfl) rfl ?_
        refine PWl.nil ?_
        refine PWc.ret ?_
        replace h : _ = r0 := h
        subst h
        exact ⟨.inr rfl, _, .cons (.tmp rfl rfl) <| .nil, rfl⟩

end Go.Proofs

namespace Go.Proofs
open Go.Ep
set_option maxHeartbeats 1000000
set_option maxRecDepth 100000
set_option linter.unusedVariables false
set_option linter.unusedSimpArgs false


theorem shift_Len_ok (v1 : Int) (r0 : Int) (h : (shift_Len v1).wp (· = r0)) : PFun Try.prog 161 [.d (.v (.int .u64 v1))] (.d (.v (.int .i64 r0))) := by
  refine PFun.intro (sl := [(0, _)]) Try.func161 rfl Try.ntmps161 rfl rfl ?_
  intro ctx hK
  refine PWc.seq ?_
  refine PWc.region ?_
  refine PWl.step (LR.assign rfl) rfl ?_
  refine PWl.nil ?_
  refine PWc.seq ?_
  refine PWc.region ?_
  refine PWl.step (LR.assign rfl) rfl ?_
  refine PWl.nil ?_
  refine PWc.seq ?_
  refine PWc.jn (iBind h) (fun (n2 : Int) (_ : Unit) => ⟨11, [(3, .d (.v (.int .i64 n2)))], []⟩) (fun h => ?_) ?_
  · refine PWc.block ?_
    refine PWc.loopM (fun (⟨v7, n8⟩ : Int × Int) (_ : Unit) => ⟨11, [(0, .d (.v (.int .u64 v7))), (3, .d (.v (.int .i64 n8)))], []⟩) () h (Sub.of rfl (.cons rfl rfl <| .cons rfl rfl <| .nil) (.nil)) ?_
    rintro N ⟨v7, n8⟩ _ h
    refine PWc.seq ?_
    refine PWc.seq ?_
    refine PWc.region ?_
    refine PWl.step (LR.move rfl) rfl ?_
    refine PWl.step (LR.gtr rfl rfl) rfl ?_
    refine PWl.nil ?_
    refine PWc.cond rfl (fun hc9 => ?_) (fun hc9 => ?_)
    · replace h := iT hc9 h
      refine PWc.skip ?_
      refine PWc.seq ?_
      refine PWc.block ?_
      refine PWc.region ?_
      refine PWl.step (LR.move rfl) rfl ?_
      refine PWl.step (LR.addW rfl rfl) rfl ?_
      refine PWl.step (LR.assign rfl) rfl ?_
      refine PWl.nil ?_
      refine PWc.region ?_
      refine PWl.step (LR.move rfl) rfl ?_
      refine PWl.step (LR.shr rfl rfl (by decide) rfl) rfl ?_
      refine PWl.step (LR.assign rfl) rfl ?_
      refine PWl.nil ?_
      exact ⟨((Int.fdiv v7 (2 ^ 8)), (IntKind.i64.wrap (n8 + 1))), (), h, Sub.of rfl (.cons rfl rfl <| .cons rfl rfl <| .nil) (.nil)⟩
    · replace h := iF hc9 h
      refine PWc.exit ?_
      exact ⟨n8, (), h, Sub.of rfl (.cons rfl rfl <| .nil) (.nil)⟩
  · rintro n2 _ h
    refine PWc.seq ?_
    refine PWc.region ?_
    refine PWl.step (LR.move rfl) rfl ?_
    refine PWl.step (LR.assign rfl) rfl ?_
    refine PWl.nil ?_
    refine PWc.ret ?_
    replace h : _ = r0 := h
    subst h
    exact ⟨.inr rfl, _, .cons (.tmp rfl rfl) <| .nil, rfl⟩

theorem shift_Byte_ok (v1 : Int) (i2 : Int) (r0 : Int) (h : (shift_Byte v1 i2).wp (· = r0)) : PFun Try.prog 162 [.d (.v (.int .u64 v1)), .d (.v (.int .i64 i2))] (.d (.v (.int .u8 r0))) := by
  refine PFun.intro (sl := [(0, _), (1, _)]) Try.func162 rfl Try.ntmps162 rfl rfl ?_
  intro ctx hK
  refine PWc.seq ?_
  refine PWc.region ?_
  refine PWl.step (LR.assign rfl) rfl ?_
  refine PWl.nil ?_
  refine PWc.seq ?_
  refine PWc.seq ?_
  refine PWc.region ?_
  refine PWl.step (LR.move rfl) rfl ?_
  refine PWl.step (LR.convInt Try.underlying184 (by rw [Try.underlying3]; rfl) rfl rfl) rfl ?_
  refine PWl.step (LR.gtr rfl rfl) rfl ?_
  refine PWl.nil ?_
  refine PWc.cond rfl (fun hc3 => ?_) (fun hc3 => ?_)
  · replace h := iT hc3 h
    refine PWc.seq ?_
    refine PWc.region ?_
    refine PWl.step (LR.assign rfl) rfl ?_
    refine PWl.nil ?_
    refine PWc.ret ?_
    replace h : _ = r0 := h
    subst h
    exact ⟨.inr rfl, _, .cons (.tmp rfl rfl) <| .nil, rfl⟩
  · replace h := iF hc3 h
    refine PWc.skip ?_
    refine PWc.seq ?_
    refine PWc.region ?_
    refine PWl.step (LR.move rfl) rfl ?_
    refine PWl.step (LR.move rfl) rfl ?_
    refine PWl.step (LR.convInt Try.underlying184 (by rw [Try.underlying3]; rfl) rfl rfl) rfl ?_
    refine PWl.step (LR.mulW rfl rfl) rfl ?_
    replace h := iNeed h
    obtain ⟨hy4, h⟩ := h
    refine PWl.step (LR.shr rfl rfl hy4 rfl) rfl ?_
    refine PWl.step (LR.convInt Try.underlying5 (by rw [Try.underlying36]; rfl) rfl rfl) rfl ?_
    refine PWl.step (LR.assign rfl) rfl ?_
    refine PWl.nil ?_
    refine PWc.ret ?_
    replace h : _ = r0 := h
    subst h
    exact ⟨.inr rfl, _, .cons (.tmp rfl rfl) <| .nil, rfl⟩

theorem num_Append_ok (b1 : List Int) (v2 : Int) (r0 : List Int) (h : (num_Append b1 v2).wp (· = r0)) : PRow Try.prog 127 [.d (.sl (List.map (eK .u8) b1)), .d (.v (.int .u64 v2))] 5 1 (List.map (eK .u8) r0) := by
  refine PRow.intro (sl := [(0, _), (1, _)]) Try.func127 rfl Try.ntmps127 rfl rfl ?_
  intro ctx hK
  refine PWc.seq ?_
  refine PWc.region ?_
  refine PWl.step (LR.assignNilRow 5 1 rfl) rfl ?_
  refine PWl.nil ?_
  refine PWc.seq ?_
  refine PWc.region ?_
  refine PWl.step (LR.move rfl) rfl ?_
  replace h := iDet h
  obtain ⟨v3, hy4, h⟩ := h
  refine PWl.step (LR.callN (shift_Len_ok v2 v3 hy4) rfl Try.call161 rfl rfl rfl rfl) rfl ?_
  refine PWl.step (LR.assign rfl) rfl ?_
  refine PWl.nil ?_
  refine PWc.seq ?_
  refine PWc.region ?_
  refine PWl.step (LR.move rfl) rfl ?_
  refine PWl.step (LR.lenMap (enc := (eK .u8)) (L := b1) Try.underlying45 rfl) rfl ?_
  refine PWl.step (LR.move rfl) rfl ?_
  refine PWl.step (LR.addW rfl rfl) rfl ?_
  refine PWl.step (LR.addW rfl rfl) rfl ?_
  replace h := iNeed h
  obtain ⟨hy5, h⟩ := h
  refine PWl.step (LR.make0 (n := Int.toNat ((IntKind.i64.wrap (((IntKind.i64.wrap ((List.length b1 : Int) + v3))) + 1)))) elem45 rfl rfl (by omega) (by omega) (by omega) rfl) rfl ?_
  refine PWl.step (LR.assign rfl) rfl ?_
  refine PWl.nil ?_
  refine PWc.seq ?_
  refine PWc.region ?_
  refine PWl.step (LR.move rfl) rfl ?_
  refine PWl.step (LR.move rfl) rfl ?_
  replace h := iNeed h
  obtain ⟨hy6, h⟩ := h
  refine PWl.step (LR.appT (enc := (eK .u8)) (L := ([] : List Int)) (R := b1) [6, 15, 16] elem45 Try.underlying45 rfl (by first | (simp; done) | (simp; omega) | omega) rfl (Src.slT (enc := (eK .u8)) (R := b1) rfl (fun _ => rfl)) (fun _ => rfl) hy6 rfl rfl) rfl ?_
  refine PWl.step (LR.move rfl) rfl ?_
  refine PWl.step (LR.convInt Try.underlying5 (by rw [Try.underlying3]; rfl) rfl rfl) rfl ?_
  refine PWl.step (LR.buildSliceD [.tmp 20] elem45 rfl rfl (.cons rfl rfl rfl <| .nil) (by decide) (by decide)) rfl ?_
  replace h := iNeed h
  obtain ⟨hy7, h⟩ := h
  refine PWl.step (LR.appT (enc := (eK .u8)) (L := (([] : List Int) ++ b1)) (R := [(IntKind.u8.wrap v3)]) [18] elem45 Try.underlying45 rfl rfl rfl (Src.slT (enc := (eK .u8)) (R := [(IntKind.u8.wrap v3)]) rfl (fun _ => rfl)) (fun _ => rfl) hy7 rfl rfl) rfl ?_
  refine PWl.step (LR.assign rfl) rfl ?_
  refine PWl.nil ?_
  refine PWc.seq ?_
  refine PWc.seq ?_
  refine PWc.region ?_
  refine PWl.re (tl := [(1, _), (5, _), (6, _)]) (to := [(15, _)]) rfl (.cons rfl rfl <| .cons rfl rfl <| .cons rfl rfl <| .nil) (.cons rfl rfl <| .nil) ?_
  refine PWl.step (LR.move rfl) rfl ?_
  refine PWl.step (LR.subW rfl rfl) rfl ?_
  refine PWl.step (LR.assign rfl) rfl ?_
  refine PWl.nil ?_
  refine PWc.jn (iBind h) (fun (v8 : List Int) (_ : Unit) => ⟨36, [(6, .row 15 (List.length v8))], [(15, .row 5 1 (List.map (eK .u8) v8))]⟩) (fun h => ?_) ?_
  · refine PWc.block ?_
    refine PWc.loopM (fun (⟨i19, v20⟩ : Int × List Int) (_ : Unit) => ⟨36, [(1, .d (.v (.int .u64 v2))), (6, .row 15 (List.length v20)), (7, .d (.v (.int .i64 i19)))], [(15, .row 5 1 (List.map (eK .u8) v20))]⟩) () h (Sub.of rfl (.cons rfl rfl <| .cons rfl (by first | rfl | (simp; done) | (congr 1; first | (simp; done) | (simp; omega))) <| .cons rfl rfl <| .nil) (.cons rfl rfl <| .nil)) ?_
    rintro N ⟨i19, v20⟩ _ h
    refine PWc.seq ?_
    refine PWc.seq ?_
    refine PWc.region ?_
    refine PWl.step (LR.move rfl) rfl ?_
    refine PWl.step (LR.geq rfl rfl) rfl ?_
    refine PWl.nil ?_
    refine PWc.cond rfl (fun hc21 => ?_) (fun hc21 => ?_)
    · replace h := iT hc21 h
      refine PWc.skip ?_
      refine PWc.seq ?_
      refine PWc.block ?_
      refine PWc.region ?_
      refine PWl.step (LR.move rfl) rfl ?_
      refine PWl.step (LR.move rfl) rfl ?_
      refine PWl.step (LR.move rfl) rfl ?_
      replace h := iDet h
      obtain ⟨v22, hy23, h⟩ := h
      refine PWl.step (LR.callN (shift_Byte_ok v2 i19 v22 hy23) rfl Try.call162 rfl rfl rfl rfl) rfl ?_
      refine PWl.step (LR.buildSliceD [.tmp 32] elem45 rfl rfl (.cons rfl rfl rfl <| .nil) (by decide) (by decide)) rfl ?_
      replace h := iNeed h
      obtain ⟨hy24, h⟩ := h
      refine PWl.step (LR.appT (enc := (eK .u8)) (L := v20) (R := [v22]) [6, 29] elem45 Try.underlying45 rfl rfl rfl (Src.slT (enc := (eK .u8)) (R := [v22]) rfl (fun _ => rfl)) (fun _ => rfl) hy24 rfl rfl) rfl ?_
      refine PWl.step (LR.assign rfl) rfl ?_
      refine PWl.nil ?_
      refine PWc.region ?_
      refine PWl.step (LR.move rfl) rfl ?_
      refine PWl.step (LR.subW rfl rfl) rfl ?_
      refine PWl.step (LR.assign rfl) rfl ?_
      refine PWl.nil ?_
      exact ⟨((IntKind.i64.wrap (i19 - 1)), (v20 ++ [v22])), (), h, Sub.of rfl (.cons rfl rfl <| .cons rfl rfl <| .cons rfl rfl <| .nil) (.cons rfl rfl <| .nil)⟩
    · replace h := iF hc21 h
      refine PWc.exit ?_
      exact ⟨v20, (), h, Sub.of rfl (.cons rfl rfl <| .nil) (.cons rfl rfl <| .nil)⟩
  · rintro v8 _ h
    refine PWc.seq ?_
    refine PWc.region ?_
    refine PWl.step (LR.move rfl) rfl ?_
    refine PWl.step (LR.assign rfl) rfl ?_
    refine PWl.nil ?_
    refine PWc.ret ?_
    replace h : _ = r0 := h
    subst h
    exact ⟨.inr rfl, 4, rfl, .inr ⟨15, _, rfl, (by simp), rfl⟩⟩
end Go.Proofs

namespace Go.Proofs
open Go.Ep
set_option maxHeartbeats 1000000
set_option maxRecDepth 100000
set_option linter.unusedVariables false
set_option linter.unusedSimpArgs false


theorem pack_Writer_put_o_ok (b1 : List Int) (row2 : List Int) (r0 : List Int) (h : (pack_Writer_put_o b1 row2).wp (· = r0)) : PObj Try.prog 126 [.ref 100 0, .d (.sl (List.map (eK .u8) b1))] [(100, .cells 47 [.row 101 (List.length row2)]), (101, .row 5 1 (List.map (eK .u8) row2))] [100] (.tup []) (fun _ : Unit => [(100, .cells 47 [.row 101 (List.length r0)]), (101, .row 5 1 (List.map (eK .u8) r0))]) := by
  refine PObj.intro (sl := [(0, _), (1, _)]) Try.func126 rfl Try.ntmps126 rfl rfl rfl ?_
  intro ctx hK pv
  refine PWc.seq ?_
  refine PWc.region ?_
  refine PWl.step (LR.move rfl) rfl ?_
  refine PWl.step (LR.neqPtr Try.underlying49 rfl) rfl ?_
  refine PWl.nil ?_
  refine PWc.condT rfl ?_
  refine PWc.region ?_
  refine PWl.step (LR.move rfl) rfl ?_
  refine PWl.step (LR.move rfl) rfl ?_
  refine PWl.step (LR.nilCheckRef rfl) rfl ?_
  refine PWl.step (LR.fieldRef Try.underlying47 rfl Try.sizeOf45 (by decide) rfl rfl) rfl ?_
  refine PWl.step (LR.loadRef Try.isAgg45 rfl rfl rfl) rfl ?_
  refine PWl.step (LR.move rfl) rfl ?_
  replace h := iNeed h
  obtain ⟨hy3, h⟩ := h
  refine PWl.sub (Sub.junkCell (id := 100) (j := 0) rfl) ?_
  refine PWl.step (LR.appT (enc := (eK .u8)) (L := row2) (R := b1) [10] elem45 Try.underlying45 rfl rfl rfl (Src.slT (enc := (eK .u8)) (R := b1) rfl (fun _ => rfl)) (fun _ => rfl) hy3 rfl rfl) rfl ?_
  refine PWl.step (LR.nilCheckRef rfl) rfl ?_
  refine PWl.step (LR.fieldRef Try.underlying47 rfl Try.sizeOf45 (by decide) rfl rfl) rfl ?_
  refine PWl.step (LR.storeB (ns := [_]) Try.sizeOf45 rfl rfl rfl rfl rfl rfl rfl) rfl ?_
  refine PWl.nil ?_
  replace h : _ = r0 := h
  subst h
  exact EndsO.mk () (.inl rfl) (Sub.of (tl := []) (to := [(100, _), (101, _), (1100, _)]) rfl (.nil) (.cons rfl (by first | rfl | (congr 1; congr 2; first | (simp; done) | (simp; omega))) <| .cons rfl rfl <| .cons rfl rfl <| .nil)) (.nil) rfl rfl

theorem pack_Writer_Num_o_ok (v1 : Int) (row2 : List Int) (r0 : List Int) (h : (pack_Writer_Num_o v1 row2).wp (· = r0)) : PObj Try.prog 81 [.ref 100 0, .d (.v (.int .u64 v1))] [(100, .cells 47 [.row 101 (List.length row2)]), (101, .row 5 1 (List.map (eK .u8) row2))] [100] (.tup []) (fun _ : Unit => [(100, .cells 47 [.row 101 (List.length r0)]), (101, .row 5 1 (List.map (eK .u8) r0))]) := by
  refine PObj.intro (sl := [(0, _), (1, _)]) Try.func81 rfl Try.ntmps81 rfl rfl rfl ?_
  intro ctx hK pv
  refine PWc.region ?_
  refine PWl.step (LR.move rfl) rfl ?_
  refine PWl.step (LR.move rfl) rfl ?_
  replace h := iDet h
  obtain ⟨v3, hy4, h⟩ := h
  refine PWl.step (LR.rowN (num_Append_ok ([] : List Int) v1 v3 hy4) rfl Try.call127 rfl rfl rfl rfl) rfl ?_
  replace h := iDet h
  obtain ⟨y5, hy6, h⟩ := h
  refine PWl.frz [6] hK (.cons rfl <| .nil) rfl (by simp) ?_
  refine PWl.step (LR.callObj [(100, 100), (101, 101)] [] [100, 101] (pack_Writer_put_o_ok v3 row2 y5 hy6) hK rfl Try.call126 rfl (by first | rfl | (simp; done) | (simp [PV.nilD, PV.ren, rn]; omega)) (.cons (by first | rfl | (congr 1; first | (simp; done) | (simp; omega))) <| .cons (by first | rfl | (congr 1; first | (simp; done) | (simp; omega))) <| .nil) rfl rfl rfl rfl) rfl ?_
  refine PWl.nil ?_
  replace h : _ = r0 := h
  subst h
  exact EndsO.mk () (.inl rfl) (Sub.of (tl := []) (to := [(100, _), (101, _), (1100, _)]) rfl (.nil) (.cons rfl (by first | rfl | (congr 1; congr 2; first | (simp; done) | (simp; omega))) <| .cons rfl rfl <| .cons rfl rfl <| .nil)) (.nil) rfl rfl

end Go.Proofs

namespace Go.Proofs
open Go.Ep
set_option maxHeartbeats 1000000
set_option maxRecDepth 100000
set_option linter.unusedVariables false
set_option linter.unusedSimpArgs false


theorem pack_Writer_Bytes_o_ok (row1 : List Int) (r0 : List Int × List Int) (h : (pack_Writer_Bytes_o row1).wp (· = r0)) : PObj Try.prog 30 [.ref 100 0] [(100, .cells 47 [.row 101 (List.length row1)]), (101, .row 5 1 (List.map (eK .u8) row1))] [100] (.d (.sl (List.map (eK .u8) r0.1))) (fun _ : Unit => [(100, .cells 47 [.row 101 (List.length r0.2)]), (101, .row 5 1 (List.map (eK .u8) r0.2))]) := by
  refine PObj.intro (sl := [(0, _)]) Try.func30 rfl Try.ntmps30 rfl rfl rfl ?_
  intro ctx hK pv
  refine PWc.seq ?_
  refine PWc.region ?_
  refine PWl.step (LR.assignNilRow 5 1 rfl) rfl ?_
  refine PWl.nil ?_
  refine PWc.seq ?_
  refine PWc.seq ?_
  refine PWc.region ?_
  refine PWl.step (LR.move rfl) rfl ?_
  refine PWl.step (LR.eqlPtr Try.underlying49 rfl) rfl ?_
  refine PWl.nil ?_
  refine PWc.condF rfl ?_
  refine PWc.skip ?_
  refine PWc.seq ?_
  refine PWc.region ?_
  refine PWl.step (LR.move rfl) rfl ?_
  refine PWl.step (LR.nilCheckRef rfl) rfl ?_
  refine PWl.step (LR.fieldRef Try.underlying47 rfl Try.sizeOf45 (by decide) rfl rfl) rfl ?_
  refine PWl.step (LR.loadRef Try.isAgg45 rfl rfl rfl) rfl ?_
  replace h := iNeed h
  obtain ⟨hy2, h⟩ := h
  refine PWl.step (LR.appNilT (enc := (eK .u8)) (R := row1) elem45 Try.underlying45 rfl (Src.rowT (enc := (eK .u8)) (R := row1) rfl rfl rfl) (fun _ => rfl) hy2 rfl rfl) rfl ?_
  refine PWl.re (tl := [(0, _), (3, _), (4, _), (5, _), (6, _), (7, _), (8, _), (9, _)]) (to := [(9, _), (100, _), (101, _), (1100, _)]) rfl (.cons rfl rfl <| .cons rfl rfl <| .cons rfl rfl <| .cons rfl rfl <| .cons rfl rfl <| .cons rfl rfl <| .cons rfl rfl <| .cons rfl rfl <| .nil) (.cons rfl rfl <| .cons rfl rfl <| .cons rfl rfl <| .cons rfl rfl <| .nil) ?_
  refine PWl.step (LR.assign rfl) rfl ?_
  refine PWl.nil ?_
  refine PWc.ret ?_
  replace h : _ = r0 := h
  subst h
  exact EndsO.mk () (.inr rfl) (Sub.trans (Sub.frz [2, 9] hK rfl (by simp) (AllRow.get (.cons rfl <| .cons rfl <| .nil))) <| Sub.of (tl := [(2, _)]) (to := [(100, _), (101, _), (1100, _)]) rfl (.cons rfl rfl <| .nil) (.cons rfl (by first | rfl | (congr 1; congr 2; first | (simp; done) | (simp; omega))) <| .cons rfl rfl <| .cons rfl rfl <| .nil)) (.cons (.tmp rfl) <| .nil) rfl rfl

theorem dot_Good_ok (d1 : TDot) (r0 : Bool) (h : (dot_Good d1).wp (· = r0)) : PFun Try.prog 82 [.agg (List.map .d (TDot.e d1))] (.d (.v (.bool r0))) := by
  refine PFun.intro (sl := [(0, _)]) Try.func82 rfl Try.ntmps82 rfl rfl ?_
  intro ctx hK
  refine PWc.seq ?_
  refine PWc.region ?_
  refine PWl.step (LR.box rfl rfl rfl rfl) rfl ?_
  refine PWl.step (LR.assign rfl) rfl ?_
  refine PWl.nil ?_
  refine PWc.seq ?_
  refine PWc.jn (iBind h) (fun (v2 : Bool) (_ : Unit) => ⟨16, [(2, .d (.v (.bool v2)))], []⟩) (fun h => ?_) ?_
  · refine PWc.region ?_
    refine PWl.step (LR.fieldRef Try.underlying38 rfl Try.sizeOf28 (by decide) rfl rfl) rfl ?_
    refine PWl.step (LR.loadRef Try.isAgg28 rfl rfl rfl) rfl ?_
    refine PWl.step (LR.gtr rfl rfl) rfl ?_
    refine PWl.step (LR.move rfl) rfl ?_
    refine PWl.split (d := 6) rfl (fun hg3 => ?_) (fun hg3 => ?_)
    · replace h := iT hg3 h
      refine PWl.guardT (LR.fieldRef Try.underlying38 rfl Try.sizeOf36 (by decide) rfl rfl) rfl rfl rfl ?_
      refine PWl.guardT (LR.loadRef Try.isAgg36 rfl rfl rfl) rfl rfl rfl ?_
      refine PWl.guardT (LR.gtr rfl rfl) rfl rfl rfl ?_
      refine PWl.step (LR.pickT rfl rfl) rfl ?_
      refine PWl.step (LR.move rfl) rfl ?_
      refine PWl.split (d := 11) rfl (fun hg4 => ?_) (fun hg4 => ?_)
      · replace h := iT hg4 h
        refine PWl.guardT (LR.fieldRef Try.underlying38 rfl Try.sizeOf36 (by decide) rfl rfl) rfl rfl rfl ?_
        refine PWl.guardT (LR.loadRef Try.isAgg36 rfl rfl rfl) rfl rfl rfl ?_
        refine PWl.guardT (LR.leq rfl rfl) rfl rfl rfl ?_
        refine PWl.step (LR.pickT rfl rfl) rfl ?_
        refine PWl.step (LR.assign rfl) rfl ?_
        refine PWl.nil ?_
        exact ⟨(decide (d1.n ≤ 281474976710655)), (), h, Sub.of rfl (.cons rfl rfl <| .nil) (.nil)⟩
      · replace h := iF hg4 h
        refine PWl.guardF rfl rfl rfl (by decide) ?_
        refine PWl.guardF rfl rfl rfl (by decide) ?_
        refine PWl.guardF rfl rfl rfl (by decide) ?_
        refine PWl.step (LR.pickF rfl rfl) rfl ?_
        refine PWl.step (LR.assign rfl) rfl ?_
        refine PWl.nil ?_
        exact ⟨false, (), h, Sub.of rfl (.cons rfl rfl <| .nil) (.nil)⟩
    · replace h := iF hg3 h
      refine PWl.guardF rfl rfl rfl (by decide) ?_
      refine PWl.guardF rfl rfl rfl (by decide) ?_
      refine PWl.guardF rfl rfl rfl (by decide) ?_
      refine PWl.step (LR.pickF rfl rfl) rfl ?_
      refine PWl.step (LR.move rfl) rfl ?_
      refine PWl.guardF rfl rfl rfl (by decide) ?_
      refine PWl.guardF rfl rfl rfl (by decide) ?_
      refine PWl.guardF rfl rfl rfl (by decide) ?_
      refine PWl.step (LR.pickF rfl rfl) rfl ?_
      refine PWl.step (LR.assign rfl) rfl ?_
      refine PWl.nil ?_
      exact ⟨false, (), h, Sub.of rfl (.cons rfl rfl <| .nil) (.nil)⟩
  · rintro v2 _ h
    refine PWc.ret ?_
    replace h : _ = r0 := h
    subst h
    exact ⟨.inr rfl, _, .cons (.tmp rfl rfl) <| .nil, rfl⟩

end Go.Proofs

namespace Go.Proofs
open Go.Ep
set_option maxHeartbeats 1000000
set_option maxRecDepth 100000
set_option linter.unusedVariables false
set_option linter.unusedSimpArgs false


theorem r01_Split_ok (v1 : Int) (r0 : Int × Int) (h : (r01_Split v1).wp (· = r0)) : PFun Try.prog 124 [.d (.v (.int .u64 v1))] (.tup [.d (.v (.int .u16 r0.1)), .d (.v (.int .u64 r0.2))]) := by
  refine PFun.intro (sl := [(0, _)]) Try.func124 rfl Try.ntmps124 rfl rfl ?_
  intro ctx hK
  refine PWc.seq ?_
  refine PWc.region ?_
  refine PWl.step (LR.assign rfl) rfl ?_
  refine PWl.step (LR.assign rfl) rfl ?_
  refine PWl.nil ?_
  refine PWc.seq ?_
  refine PWc.region ?_
  refine PWl.step (LR.move rfl) rfl ?_
  refine PWl.step (LR.quoW rfl rfl (by decide)) rfl ?_
  refine PWl.step (LR.convInt Try.underlying28 (by rw [Try.underlying36]; rfl) rfl rfl) rfl ?_
  refine PWl.step (LR.move rfl) rfl ?_
  refine PWl.step (LR.rem rfl rfl (by decide)) rfl ?_
  refine PWl.step (LR.assign rfl) rfl ?_
  refine PWl.step (LR.assign rfl) rfl ?_
  refine PWl.nil ?_
  refine PWc.ret ?_
  replace h : _ = r0 := h
  subst h
  exact ⟨.inr rfl, _, .cons (.tmp rfl rfl) <| .cons (.tmp rfl rfl) <| .nil, rfl⟩

theorem r07_Unpack_ok (v1 : Int) (r0 : TDot × Bool) (h : (r07_Unpack v1).wp (· = r0)) : PFun Try.prog 74 [.d (.v (.int .u64 v1))] (.tup [.agg (List.map .d (TDot.e r0.1)), .d (.v (.bool r0.2))]) := by
  refine PFun.intro (sl := [(0, _)]) Try.func74 rfl Try.ntmps74 rfl rfl ?_
  intro ctx hK
  refine PWc.seq ?_
  refine PWc.region ?_
  refine PWl.step (LR.allocZ (cs := [_, _]) Try.zeroValue38 rfl rfl rfl rfl) rfl ?_
  refine PWl.step (LR.assign rfl) rfl ?_
  refine PWl.nil ?_
  refine PWc.seq ?_
  refine PWc.region ?_
  refine PWl.step (LR.move rfl) rfl ?_
  replace h := iDet h
  obtain ⟨v2, hy3, h⟩ := h
  refine PWl.step (LR.callN (r01_Split_ok v1 v2 hy3) rfl Try.call124 rfl rfl rfl rfl) rfl ?_
  refine PWl.step (LR.move rfl) rfl ?_
  refine PWl.step (LR.extract rfl rfl) rfl ?_
  refine PWl.step (LR.extract rfl rfl) rfl ?_
  refine PWl.step (LR.assign rfl) rfl ?_
  refine PWl.step (LR.assign rfl) rfl ?_
  refine PWl.nil ?_
  refine PWc.seq ?_
  refine PWc.region ?_
  refine PWl.step (LR.move rfl) rfl ?_
  refine PWl.step (LR.move rfl) rfl ?_
  refine PWl.step (LR.build (ns := [_, _]) build38 rfl rfl rfl) rfl ?_
  refine PWl.step (LR.allocZ (cs := [_, _]) Try.zeroValue38 rfl rfl rfl rfl) rfl ?_
  refine PWl.step (LR.storeB (ns := [_, _]) Try.sizeOf38 rfl rfl rfl rfl rfl rfl rfl) rfl ?_
  refine PWl.nil ?_
  refine PWc.seq ?_
  refine PWc.seq ?_
  refine PWc.region ?_
  refine PWl.step (LR.loadRefAgg (ps := [_, _]) Try.isAgg38 Try.sizeOf38 rfl rfl rfl rfl) rfl ?_
  replace h := iDet h
  obtain ⟨v4, hy5, h⟩ := h
  refine PWl.step (LR.callN (r07_Good_ok (⟨v2.1, v2.2⟩ : TDot) v4 hy5) rfl Try.call75 rfl rfl rfl rfl) rfl ?_
  refine PWl.step (LR.not rfl) rfl ?_
  refine PWl.nil ?_
  refine PWc.cond rfl (fun hc6 => ?_) (fun hc6 => ?_)
  · replace h := iT hc6 h
    refine PWc.seq ?_
    refine PWc.region ?_
    refine PWl.step (LR.build (ns := [_, _]) build38 rfl rfl rfl) rfl ?_
    refine PWl.step (LR.storeB (ns := [_, _]) Try.sizeOf38 rfl rfl rfl rfl rfl rfl rfl) rfl ?_
    refine PWl.step (LR.assign rfl) rfl ?_
    refine PWl.nil ?_
    refine PWc.ret ?_
    replace h : _ = r0 := h
    subst h
    exact ⟨.inr rfl, _, .cons (.agg Try.isAgg38 Try.sizeOf38 rfl rfl rfl rfl) <| .cons (.tmp rfl rfl) <| .nil, rfl⟩
  · replace h := iF hc6 h
    refine PWc.skip ?_
    refine PWc.seq ?_
    refine PWc.region ?_
    refine PWl.step (LR.loadRefAgg (ps := [_, _]) Try.isAgg38 Try.sizeOf38 rfl rfl rfl rfl) rfl ?_
    refine PWl.step (LR.storeB (ns := [_, _]) Try.sizeOf38 rfl rfl rfl rfl rfl rfl rfl) rfl ?_
    refine PWl.step (LR.assign rfl) rfl ?_
    refine PWl.nil ?_
    refine PWc.ret ?_
    replace h : _ = r0 := h
    subst h
    exact ⟨.inr rfl, _, .cons (.agg Try.isAgg38 Try.sizeOf38 rfl rfl rfl rfl) <| .cons (.tmp rfl rfl) <| .nil, rfl⟩

theorem r11_Good_ok (f1 : Int) (r0 : Bool) (h : (r11_Good f1).wp (· = r0)) : PFun Try.prog 76 [.d (.v (.int .u8 f1))] (.d (.v (.bool r0))) := by
  refine PFun.intro (sl := [(0, _)]) Try.func76 rfl Try.ntmps76 rfl rfl ?_
  intro ctx hK
  refine PWc.seq ?_
  refine PWc.region ?_
  refine PWl.step (LR.assign rfl) rfl ?_
  refine PWl.nil ?_
  refine PWc.seq ?_
  refine PWc.jn (iBind h) (fun (v2 : Bool) (_ : Unit) => ⟨9, [(2, .d (.v (.bool v2)))], []⟩) (fun h => ?_) ?_
  · refine PWc.region ?_
    refine PWl.step (LR.move rfl) rfl ?_
    refine PWl.step (LR.geq rfl rfl) rfl ?_
    refine PWl.step (LR.move rfl) rfl ?_
    refine PWl.split (d := 5) rfl (fun hg3 => ?_) (fun hg3 => ?_)
    · replace h := iT hg3 h
      refine PWl.guardT (LR.move rfl) rfl rfl rfl ?_
      refine PWl.guardT (LR.leq rfl rfl) rfl rfl rfl ?_
      refine PWl.step (LR.pickT rfl rfl) rfl ?_
      refine PWl.step (LR.assign rfl) rfl ?_
      refine PWl.nil ?_
      exact ⟨(decide (f1 ≤ 5)), (), h, Sub.of rfl (.cons rfl rfl <| .nil) (.nil)⟩
    · replace h := iF hg3 h
      refine PWl.guardF rfl rfl rfl (by decide) ?_
      refine PWl.guardF rfl rfl rfl (by decide) ?_
      refine PWl.step (LR.pickF rfl rfl) rfl ?_
      refine PWl.step (LR.assign rfl) rfl ?_
      refine PWl.nil ?_
      exact ⟨false, (), h, Sub.of rfl (.cons rfl rfl <| .nil) (.nil)⟩
  · rintro v2 _ h
    refine PWc.ret ?_
    replace h : _ = r0 := h
    subst h
    exact ⟨.inr rfl, _, .cons (.tmp rfl rfl) <| .nil, rfl⟩

theorem r11_Text_ok (s1 : ByteArray) (r0 : Bool) (h : (r11_Text s1).wp (· = r0)) : PFun Try.prog 77 [.d (.v (.string s1))] (.d (.v (.bool r0))) := by
  refine PFun.intro (sl := [(0, _)]) Try.func77 rfl Try.ntmps77 rfl rfl ?_
  intro ctx hK
  refine PWc.seq ?_
  refine PWc.region ?_
  refine PWl.step (LR.assign rfl) rfl ?_
  refine PWl.nil ?_
  refine PWc.seq ?_
  refine PWc.seq ?_
  refine PWc.region ?_
  refine PWl.step (LR.assign rfl) rfl ?_
  refine PWl.nil ?_
  refine PWc.jnX (iBind h) (fun (_ : Unit) (_ : Unit) => ⟨23, [(0, .d (.v (.string s1)))], []⟩) (fun h => ?_) ?_
  · refine PWc.block ?_
    refine PWc.loopM (fun (i19 : Int) (_ : Unit) => ⟨23, [(0, .d (.v (.string s1))), (3, .d (.v (.int .i64 i19)))], []⟩) () h (Sub.of rfl (.cons rfl rfl <| .cons rfl rfl <| .nil) (.nil)) ?_
    rintro N i19 _ h
    refine PWc.seq ?_
    refine PWc.seq ?_
    refine PWc.region ?_
    refine PWl.step (LR.move rfl) rfl ?_
    refine PWl.step (LR.move rfl) rfl ?_
    refine PWl.step (LR.lenStr Try.underlying9 rfl) rfl ?_
    refine PWl.step (LR.lss rfl rfl) rfl ?_
    refine PWl.nil ?_
    refine PWc.cond rfl (fun hc20 => ?_) (fun hc20 => ?_)
    · replace h := iT hc20 h
      refine PWc.skip ?_
      refine PWc.seq ?_
      refine PWc.block ?_
      refine PWc.seq ?_
      refine PWc.jn (iBind h) (fun (v21 : Bool) (_ : Unit) => ⟨23, [(0, .d (.v (.string s1))), (3, .d (.v (.int .i64 i19))), (19, .d (.v (.bool v21)))], []⟩) (fun h => ?_) ?_
      · refine PWc.region ?_
        refine PWl.step (LR.move rfl) rfl ?_
        refine PWl.step (LR.move rfl) rfl ?_
        replace h := iIdx h
        obtain ⟨b22, hy23, h⟩ := h
        refine PWl.step (LR.strIdx Try.underlying9 rfl rfl hy23) rfl ?_
        refine PWl.step (LR.lss rfl rfl) rfl ?_
        refine PWl.step (LR.move rfl) rfl ?_
        refine PWl.split (d := 14) rfl (fun hg24 => ?_) (fun hg24 => ?_)
        · replace h := iT hg24 h
          refine PWl.guardF rfl rfl rfl (by decide) ?_
          refine PWl.guardF rfl rfl rfl (by decide) ?_
          refine PWl.guardF rfl rfl rfl (by decide) ?_
          refine PWl.guardF rfl rfl rfl (by decide) ?_
          refine PWl.step (LR.pickT rfl rfl) rfl ?_
          refine PWl.nil ?_
          exact ⟨true, (), h, Sub.of rfl (.cons rfl rfl <| .cons rfl rfl <| .cons rfl rfl <| .nil) (.nil)⟩
        · replace h := iF hg24 h
          refine PWl.guardT (LR.move rfl) rfl rfl rfl ?_
          refine PWl.guardT (LR.move rfl) rfl rfl rfl ?_
          replace h := iIdx h
          obtain ⟨b25, hy26, h⟩ := h
          refine PWl.guardT (LR.strIdx Try.underlying9 rfl rfl hy26) rfl rfl rfl ?_
          refine PWl.guardT (LR.gtr rfl rfl) rfl rfl rfl ?_
          refine PWl.step (LR.pickF rfl rfl) rfl ?_
          refine PWl.nil ?_
          exact ⟨(decide (126 < b25)), (), h, Sub.of rfl (.cons rfl rfl <| .cons rfl rfl <| .cons rfl rfl <| .nil) (.nil)⟩
      · rintro v21 _ h
        refine PWc.cond rfl (fun hc27 => ?_) (fun hc27 => ?_)
        · replace h := iT hc27 h
          refine PWc.seq ?_
          refine PWc.region ?_
          refine PWl.step (LR.assign rfl) rfl ?_
          refine PWl.nil ?_
          refine PWc.ret ?_
          replace h : _ = r0 := h
          subst h
          exact ⟨.inr rfl, _, .cons (.tmp rfl rfl) <| .nil, rfl⟩
        · replace h := iF hc27 h
          refine PWc.skip ?_
          refine PWc.region ?_
          refine PWl.step (LR.move rfl) rfl ?_
          refine PWl.step (LR.addW rfl rfl) rfl ?_
          refine PWl.step (LR.assign rfl) rfl ?_
          refine PWl.nil ?_
          exact ⟨(IntKind.i64.wrap (i19 + 1)), (), h, Sub.of rfl (.cons rfl rfl <| .cons rfl rfl <| .nil) (.nil)⟩
    · replace h := iF hc20 h
      refine PWc.exit ?_
      exact ⟨(), (), h, Sub.of rfl (.cons rfl rfl <| .nil) (.nil)⟩
  · rintro _ _ h
    refine PWc.seq ?_
    refine PWc.region ?_
    refine PWl.step (LR.move rfl) rfl ?_
    refine PWl.step (LR.lenStr Try.underlying9 rfl) rfl ?_
    refine PWl.step (LR.leq rfl rfl) rfl ?_
    refine PWl.step (LR.assign rfl) rfl ?_
    refine PWl.nil ?_
    refine PWc.ret ?_
    replace h : _ = r0 := h
    subst h
    exact ⟨.inr rfl, _, .cons (.tmp rfl rfl) <| .nil, rfl⟩

theorem r07_Rising_ok (l1 : List TDot) (r0 : Bool) (h : (r07_Rising l1).wp (· = r0)) : PFun Try.prog 78 [.d (.sl (List.map TDot.e l1))] (.d (.v (.bool r0))) := by
  refine PFun.intro (sl := [(0, _)]) Try.func78 rfl Try.ntmps78 rfl rfl ?_
  intro ctx hK
  refine PWc.seq ?_
  refine PWc.region ?_
  refine PWl.step (LR.assign rfl) rfl ?_
  refine PWl.nil ?_
  refine PWc.seq ?_
  refine PWc.seq ?_
  refine PWc.region ?_
  refine PWl.step (LR.assign rfl) rfl ?_
  refine PWl.nil ?_
  refine PWc.jnX (iBind h) (fun (_ : Unit) (_ : Unit) => ⟨21, [], []⟩) (fun h => ?_) ?_
  · refine PWc.block ?_
    refine PWc.loopM (fun (i19 : Int) (_ : Unit) => ⟨21, [(0, .d (.sl (List.map TDot.e l1))), (3, .d (.v (.int .i64 i19)))], []⟩) () h (Sub.of rfl (.cons rfl rfl <| .cons rfl rfl <| .nil) (.nil)) ?_
    rintro N i19 _ h
    refine PWc.seq ?_
    refine PWc.seq ?_
    refine PWc.region ?_
    refine PWl.step (LR.move rfl) rfl ?_
    refine PWl.step (LR.move rfl) rfl ?_
    refine PWl.step (LR.lenMap (enc := TDot.e) (L := l1) Try.underlying39 rfl) rfl ?_
    refine PWl.step (LR.lss rfl rfl) rfl ?_
    refine PWl.nil ?_
    refine PWc.cond rfl (fun hc20 => ?_) (fun hc20 => ?_)
    · replace h := iT hc20 h
      refine PWc.skip ?_
      refine PWc.seq ?_
      refine PWc.block ?_
      refine PWc.seq ?_
      refine PWc.regionD (by kernel_rfl) (by kernel_rfl) ?_
      refine PQl.step (fun _ he ho => LR.move (he rfl rfl)) rfl ?_
      refine PQl.step (fun _ he ho => LR.move (he rfl rfl)) rfl ?_
      refine PQl.step (fun _ he ho => LR.subW (he rfl rfl) (he rfl rfl)) rfl ?_
      replace h := iIdx h
      obtain ⟨x21, hy22, h⟩ := h
      refine PQl.step (fun _ he ho => LR.idxT (enc := TDot.e) (L := l1) (y := x21) Try.underlying39 Try.sizeOf38 (he rfl rfl) (he rfl rfl) hy22 (fun _ => rfl)) rfl ?_
      refine PQl.step (fun _ he ho => LR.loadEpAgg (ys := [_, _]) Try.isAgg38 Try.sizeOf38 (he rfl rfl) rfl rfl) rfl ?_
      refine PQl.step (fun _ he ho => LR.move (he rfl rfl)) rfl ?_
      refine PQl.step (fun _ he ho => LR.move (he rfl rfl)) rfl ?_
      replace h := iIdx h
      obtain ⟨x23, hy24, h⟩ := h
      refine PQl.step (fun _ he ho => LR.idxT (enc := TDot.e) (L := l1) (y := x23) Try.underlying39 Try.sizeOf38 (he rfl rfl) (he rfl rfl) hy24 (fun _ => rfl)) rfl ?_
      refine PQl.step (fun _ he ho => LR.loadEpAgg (ys := [_, _]) Try.isAgg38 Try.sizeOf38 (he rfl rfl) rfl rfl) rfl ?_
      replace h := iDet h
      obtain ⟨v25, hy26, h⟩ := h
      refine PQl.step (fun _ he ho => LR.callN (r07_Cmp_ok x21 x23 v25 hy26) (he rfl rfl) Try.call110 (evsE he rfl rfl) rfl rfl rfl) rfl ?_
      refine PQl.step (fun _ he ho => LR.geq (he rfl rfl) (he rfl rfl)) rfl ?_
      refine PQl.nil ?_
      refine PWc.cond rfl (fun hc27 => ?_) (fun hc27 => ?_)
      · replace h := iT hc27 h
        refine PWc.seq ?_
        refine PWc.region ?_
        refine PWl.step (LR.assign rfl) rfl ?_
        refine PWl.nil ?_
        refine PWc.ret ?_
        replace h : _ = r0 := h
        subst h
        exact ⟨.inr rfl, _, .cons (.tmp rfl rfl) <| .nil, rfl⟩
      · replace h := iF hc27 h
        refine PWc.skip ?_
        refine PWc.region ?_
        refine PWl.step (LR.move rfl) rfl ?_
        refine PWl.step (LR.addW rfl rfl) rfl ?_
        refine PWl.step (LR.assign rfl) rfl ?_
        refine PWl.nil ?_
        exact ⟨(IntKind.i64.wrap (i19 + 1)), (), h, Sub.of rfl (.cons rfl rfl <| .cons rfl rfl <| .nil) (.nil)⟩
    · replace h := iF hc20 h
      refine PWc.exit ?_
      exact ⟨(), (), h, Sub.of rfl (.nil) (.nil)⟩
  · rintro _ _ h
    refine PWc.seq ?_
    refine PWc.region ?_
    refine PWl.step (LR.assign rfl) rfl ?_
    refine PWl.nil ?_
    refine PWc.ret ?_
    replace h : _ = r0 := h
    subst h
    exact ⟨.inr rfl, _, .cons (.tmp rfl rfl) <| .nil, rfl⟩

theorem r07_Has_ok (l1 : List TDot) (d2 : TDot) (r0 : Bool) (h : (r07_Has l1 d2).wp (· = r0)) : PFun Try.prog 79 [.d (.sl (List.map TDot.e l1)), .agg (List.map .d (TDot.e d2))] (.d (.v (.bool r0))) := by
  refine PFun.intro (sl := [(0, _), (1, _)]) Try.func79 rfl Try.ntmps79 rfl rfl ?_
  intro ctx hK
  refine PWc.seq ?_
  refine PWc.region ?_
  refine PWl.step (LR.box rfl rfl rfl rfl) rfl ?_
  refine PWl.step (LR.assign rfl) rfl ?_
  refine PWl.nil ?_
  refine PWc.seq ?_
  refine PWc.seq ?_
  refine PWc.region ?_
  refine PWl.step (LR.assign rfl) rfl ?_
  refine PWl.nil ?_
  refine PWc.jnX (iBind h) (fun (_ : Unit) (_ : Unit) => ⟨18, [], []⟩) (fun h => ?_) ?_
  · refine PWc.block ?_
    refine PWc.loopM (fun (i12 : Int) (_ : Unit) => ⟨18, [(0, .d (.sl (List.map TDot.e l1))), (3, .ref 3 0), (5, .d (.v (.int .i64 i12)))], [(3, .cells 38 [.d (.v (.int .u16 d2.dev)), .d (.v (.int .u64 d2.n))])]⟩) () h (Sub.of rfl (.cons rfl rfl <| .cons rfl rfl <| .cons rfl rfl <| .nil) (.cons rfl rfl <| .nil)) ?_
    rintro N i12 _ h
    refine PWc.seq ?_
    refine PWc.seq ?_
    refine PWc.region ?_
    refine PWl.step (LR.move rfl) rfl ?_
    refine PWl.step (LR.move rfl) rfl ?_
    refine PWl.step (LR.lenMap (enc := TDot.e) (L := l1) Try.underlying39 rfl) rfl ?_
    refine PWl.step (LR.lss rfl rfl) rfl ?_
    refine PWl.nil ?_
    refine PWc.cond rfl (fun hc13 => ?_) (fun hc13 => ?_)
    · replace h := iT hc13 h
      refine PWc.skip ?_
      refine PWc.seq ?_
      refine PWc.block ?_
      refine PWc.seq ?_
      refine PWc.regionD (by kernel_rfl) (by kernel_rfl) ?_
      refine PQl.step (fun _ he ho => LR.move (he rfl rfl)) rfl ?_
      refine PQl.step (fun _ he ho => LR.move (he rfl rfl)) rfl ?_
      replace h := iIdx h
      obtain ⟨x14, hy15, h⟩ := h
      refine PQl.step (fun _ he ho => LR.idxT (enc := TDot.e) (L := l1) (y := x14) Try.underlying39 Try.sizeOf38 (he rfl rfl) (he rfl rfl) hy15 (fun _ => rfl)) rfl ?_
      refine PQl.step (fun _ he ho => LR.loadEpAgg (ys := [_, _]) Try.isAgg38 Try.sizeOf38 (he rfl rfl) rfl rfl) rfl ?_
      refine PQl.step (fun _ he ho => LR.loadRefAgg (ps := [_, _]) Try.isAgg38 Try.sizeOf38 (he rfl rfl) (ho rfl) rfl rfl) rfl ?_
      refine PQl.step (fun _ he ho => LR.eqlAgg (he rfl rfl) (he rfl rfl) rfl rfl eq38) rfl ?_
      refine PQl.nil ?_
      refine PWc.cond rfl (fun hc16 => ?_) (fun hc16 => ?_)
      · replace h := iT hc16 h
        refine PWc.seq ?_
        refine PWc.region ?_
        refine PWl.step (LR.assign rfl) rfl ?_
        refine PWl.nil ?_
        refine PWc.ret ?_
        replace h : _ = r0 := h
        subst h
        exact ⟨.inr rfl, _, .cons (.tmp rfl rfl) <| .nil, rfl⟩
      · replace h := iF hc16 h
        refine PWc.skip ?_
        refine PWc.region ?_
        refine PWl.step (LR.move rfl) rfl ?_
        refine PWl.step (LR.addW rfl rfl) rfl ?_
        refine PWl.step (LR.assign rfl) rfl ?_
        refine PWl.nil ?_
        exact ⟨(IntKind.i64.wrap (i12 + 1)), (), h, Sub.of rfl (.cons rfl rfl <| .cons rfl rfl <| .cons rfl rfl <| .nil) (.cons rfl rfl <| .nil)⟩
    · replace h := iF hc13 h
      refine PWc.exit ?_
      exact ⟨(), (), h, Sub.of rfl (.nil) (.nil)⟩
  · rintro _ _ h
    refine PWc.seq ?_
    refine PWc.region ?_
    refine PWl.step (LR.assign rfl) rfl ?_
    refine PWl.nil ?_
    refine PWc.ret ?_
    replace h : _ = r0 := h
    subst h
    exact ⟨.inr rfl, _, .cons (.tmp rfl rfl) <| .nil, rfl⟩
end Go.Proofs

namespace Go.Proofs
open Go.Ep
set_option maxHeartbeats 1000000
set_option maxRecDepth 100000
set_option linter.unusedVariables false
set_option linter.unusedSimpArgs false


theorem r13_Good_ok (e1 : TEvent) (r0 : Bool) (h : (r13_Good e1).wp (· = r0)) : PFun Try.prog 23 [.agg (List.map .d (TEvent.e e1))] (.d (.v (.bool r0))) := by
  refine PFun.intro (sl := [(0, _)]) Try.func23 rfl Try.ntmps23 rfl rfl ?_
  intro ctx hK
  refine PWc.seq ?_
  refine PWc.region ?_
  refine PWl.step (LR.box rfl rfl rfl rfl) rfl ?_
  refine PWl.step (LR.assign rfl) rfl ?_
  refine PWl.nil ?_
  refine PWc.seq ?_
  refine PWc.region ?_
  refine PWl.step (LR.fieldRef Try.underlying41 rfl Try.sizeOf36 (by decide) rfl rfl) rfl ?_
  refine PWl.step (LR.loadRef Try.isAgg36 rfl rfl rfl) rfl ?_
  replace h := iDet h
  obtain ⟨v2, hy3, h⟩ := h
  refine PWl.step (LR.callN (r07_Unpack_ok e1.cid v2 hy3) rfl Try.call74 rfl rfl rfl rfl) rfl ?_
  refine PWl.step (LR.move rfl) rfl ?_
  refine PWl.step (LR.extract rfl rfl) rfl ?_
  refine PWl.step (LR.extract rfl rfl) rfl ?_
  refine PWl.step (LR.allocZ (cs := [_, _]) Try.zeroValue38 rfl rfl rfl rfl) rfl ?_
  refine PWl.step (LR.storeB (ns := [_, _]) Try.sizeOf38 rfl rfl rfl rfl rfl rfl rfl) rfl ?_
  refine PWl.step (LR.assign rfl) rfl ?_
  refine PWl.nil ?_
  refine PWc.seq ?_
  refine PWc.seq ?_
  refine PWc.jn (iBind h) (fun (v4 : Bool) (_ : Unit) => ⟨91, [(1, .ref 1 0), (29, .d (.v (.bool v4)))], [(1, .cells 41 [.d (.v (.int .u16 e1.dot.dev)), .d (.v (.int .u64 e1.dot.n)), .d (.v (.int .u8 e1.kind)), .d (.v (.int .u64 e1.cid)), .d (.v (.int .u8 e1.field)), .d (.v (.string e1.text)), .d (.sl (List.map TDot.e e1.kills))])]⟩) (fun h => ?_) ?_
  · refine PWc.region ?_
    refine PWl.step (LR.move rfl) rfl ?_
    refine PWl.step (LR.not rfl) rfl ?_
    refine PWl.step (LR.move rfl) rfl ?_
    refine PWl.split (d := 14) rfl (fun hg5 => ?_) (fun hg5 => ?_)
    · replace h := iT hg5 h
      refine PWl.guardF rfl rfl rfl (by decide) ?_
      refine PWl.guardF rfl rfl rfl (by decide) ?_
      refine PWl.guardF rfl rfl rfl (by decide) ?_
      refine PWl.guardF rfl rfl rfl (by decide) ?_
      refine PWl.step (LR.pickT rfl rfl) rfl ?_
      refine PWl.step (LR.move rfl) rfl ?_
      refine PWl.re (tl := [(1, _), (20, _)]) (to := [(1, _)]) rfl (.cons rfl rfl <| .cons rfl rfl <| .nil) (.cons rfl rfl <| .nil) ?_
      refine PWl.guardF rfl rfl rfl (by decide) ?_
      refine PWl.guardF rfl rfl rfl (by decide) ?_
      refine PWl.guardF rfl rfl rfl (by decide) ?_
      refine PWl.guardF rfl rfl rfl (by decide) ?_
      refine PWl.guardU rfl rfl rfl ?_
      refine PWl.guardU rfl rfl rfl ?_
      refine PWl.guardU rfl rfl rfl ?_
      refine PWl.guardF rfl rfl rfl (by decide) ?_
      refine PWl.step (LR.pickT rfl rfl) rfl ?_
      refine PWl.nil ?_
      exact ⟨true, (), h, Sub.of rfl (.cons rfl rfl <| .cons rfl rfl <| .nil) (.cons rfl rfl <| .nil)⟩
    · replace h := iF hg5 h
      refine PWl.guardT (LR.fieldRef Try.underlying41 rfl Try.sizeOf38 (by decide) rfl rfl) rfl rfl rfl ?_
      refine PWl.guardT (LR.loadRefAgg (ps := [_, _]) Try.isAgg38 Try.sizeOf38 rfl rfl rfl rfl) rfl rfl rfl ?_
      replace h := iDet h
      obtain ⟨v6, hy7, h⟩ := h
      refine PWl.guardT (LR.callN (r07_Good_ok e1.dot v6 hy7) rfl Try.call75 rfl rfl rfl rfl) rfl rfl rfl ?_
      refine PWl.guardT (LR.not rfl) rfl rfl rfl ?_
      refine PWl.step (LR.pickF rfl rfl) rfl ?_
      refine PWl.step (LR.move rfl) rfl ?_
      refine PWl.re (tl := [(1, _), (20, _)]) (to := [(1, _)]) rfl (.cons rfl rfl <| .cons rfl rfl <| .nil) (.cons rfl rfl <| .nil) ?_
      refine PWl.split (d := 20) rfl (fun hg8 => ?_) (fun hg8 => ?_)
      · replace h := iT hg8 h
        refine PWl.guardF rfl rfl rfl (by decide) ?_
        refine PWl.guardF rfl rfl rfl (by decide) ?_
        refine PWl.guardF rfl rfl rfl (by decide) ?_
        refine PWl.guardF rfl rfl rfl (by decide) ?_
        refine PWl.guardU rfl rfl rfl ?_
        refine PWl.guardU rfl rfl rfl ?_
        refine PWl.guardU rfl rfl rfl ?_
        refine PWl.guardF rfl rfl rfl (by decide) ?_
        refine PWl.step (LR.pickT rfl rfl) rfl ?_
        refine PWl.nil ?_
        exact ⟨true, (), h, Sub.of rfl (.cons rfl rfl <| .cons rfl rfl <| .nil) (.cons rfl rfl <| .nil)⟩
      · replace h := iF hg8 h
        refine PWl.guardT (LR.fieldRef Try.underlying41 rfl Try.sizeOf5 (by decide) rfl rfl) rfl rfl rfl ?_
        refine PWl.guardT (LR.loadRef Try.isAgg5 rfl rfl rfl) rfl rfl rfl ?_
        refine PWl.guardT (LR.neq rfl rfl) rfl rfl rfl ?_
        refine PWl.guardT (LR.move rfl) rfl rfl rfl ?_
        refine PWl.split (d := 24) rfl (fun hg9 => ?_) (fun hg9 => ?_)
        · replace h := iT hg9 h
          refine PWl.guardT (LR.fieldRef Try.underlying41 rfl Try.sizeOf5 (by decide) rfl rfl) rfl rfl rfl ?_
          refine PWl.guardT (LR.loadRef Try.isAgg5 rfl rfl rfl) rfl rfl rfl ?_
          refine PWl.guardT (LR.neq rfl rfl) rfl rfl rfl ?_
          refine PWl.guardT (LR.pickT rfl rfl) rfl rfl rfl ?_
          refine PWl.step (LR.pickF rfl rfl) rfl ?_
          refine PWl.nil ?_
          exact ⟨(!decide (e1.kind = 2)), (), h, Sub.of rfl (.cons rfl rfl <| .cons rfl rfl <| .nil) (.cons rfl rfl <| .nil)⟩
        · replace h := iF hg9 h
          refine PWl.guardF rfl rfl rfl (by decide) ?_
          refine PWl.guardF rfl rfl rfl (by decide) ?_
          refine PWl.guardF rfl rfl rfl (by decide) ?_
          refine PWl.guardT (LR.pickF rfl rfl) rfl rfl rfl ?_
          refine PWl.step (LR.pickF rfl rfl) rfl ?_
          refine PWl.nil ?_
          exact ⟨false, (), h, Sub.of rfl (.cons rfl rfl <| .cons rfl rfl <| .nil) (.cons rfl rfl <| .nil)⟩
  · rintro v4 _ h
    refine PWc.cond rfl (fun hc10 => ?_) (fun hc10 => ?_)
    · replace h := iT hc10 h
      refine PWc.seq ?_
      refine PWc.region ?_
      refine PWl.step (LR.assign rfl) rfl ?_
      refine PWl.nil ?_
      refine PWc.ret ?_
      replace h : _ = r0 := h
      subst h
      exact ⟨.inr rfl, _, .cons (.tmp rfl rfl) <| .nil, rfl⟩
    · replace h := iF hc10 h
      refine PWc.skip ?_
      refine PWc.seq ?_
      refine PWc.seq ?_
      refine PWc.jn (iBind h) (fun (v11 : Bool) (_ : Unit) => ⟨91, [(1, .ref 1 0), (59, .d (.v (.bool v11)))], [(1, .cells 41 [.d (.v (.int .u16 e1.dot.dev)), .d (.v (.int .u64 e1.dot.n)), .d (.v (.int .u8 e1.kind)), .d (.v (.int .u64 e1.cid)), .d (.v (.int .u8 e1.field)), .d (.v (.string e1.text)), .d (.sl (List.map TDot.e e1.kills))])]⟩) (fun h => ?_) ?_
      · refine PWc.region ?_
        refine PWl.step (LR.fieldRef Try.underlying41 rfl Try.sizeOf5 (by decide) rfl rfl) rfl ?_
        refine PWl.step (LR.loadRef Try.isAgg5 rfl rfl rfl) rfl ?_
        refine PWl.step (LR.eql rfl rfl) rfl ?_
        refine PWl.step (LR.move rfl) rfl ?_
        refine PWl.split (d := 33) rfl (fun hg12 => ?_) (fun hg12 => ?_)
        · replace h := iT hg12 h
          refine PWl.guardT (LR.fieldRef Try.underlying41 rfl Try.sizeOf5 (by decide) rfl rfl) rfl rfl rfl ?_
          refine PWl.guardT (LR.loadRef Try.isAgg5 rfl rfl rfl) rfl rfl rfl ?_
          replace h := iDet h
          obtain ⟨v13, hy14, h⟩ := h
          refine PWl.guardT (LR.callN (r11_Good_ok e1.field v13 hy14) rfl Try.call76 rfl rfl rfl rfl) rfl rfl rfl ?_
          refine PWl.guardT (LR.not rfl) rfl rfl rfl ?_
          refine PWl.guardT (LR.move rfl) rfl rfl rfl ?_
          refine PWl.split (d := 38) rfl (fun hg15 => ?_) (fun hg15 => ?_)
          · replace h := iT hg15 h
            refine PWl.guardF rfl rfl rfl (by decide) ?_
            refine PWl.guardF rfl rfl rfl (by decide) ?_
            refine PWl.guardF rfl rfl rfl (by decide) ?_
            refine PWl.guardF rfl rfl rfl (by decide) ?_
            refine PWl.guardT (LR.pickT rfl rfl) rfl rfl rfl ?_
            refine PWl.step (LR.pickT rfl rfl) rfl ?_
            refine PWl.step (LR.move rfl) rfl ?_
            refine PWl.guardF rfl rfl rfl (by decide) ?_
            refine PWl.re (tl := [(1, _), (45, _), (46, _)]) (to := [(1, _)]) rfl (.cons rfl rfl <| .cons rfl rfl <| .cons rfl rfl <| .nil) (.cons rfl rfl <| .nil) ?_
            refine PWl.guardF rfl rfl rfl (by decide) ?_
            refine PWl.guardF rfl rfl rfl (by decide) ?_
            refine PWl.guardF rfl rfl rfl (by decide) ?_
            refine PWl.guardU rfl rfl rfl ?_
            refine PWl.guardU rfl rfl rfl ?_
            refine PWl.guardU rfl rfl rfl ?_
            refine PWl.guardU rfl rfl rfl ?_
            refine PWl.guardU rfl rfl rfl ?_
            refine PWl.guardU rfl rfl rfl ?_
            refine PWl.guardU rfl rfl rfl ?_
            refine PWl.guardU rfl rfl rfl ?_
            refine PWl.guardF rfl rfl rfl (by decide) ?_
            refine PWl.step (LR.pickT rfl rfl) rfl ?_
            refine PWl.nil ?_
            exact ⟨true, (), h, Sub.of rfl (.cons rfl rfl <| .cons rfl rfl <| .nil) (.cons rfl rfl <| .nil)⟩
          · replace h := iF hg15 h
            refine PWl.guardT (LR.fieldRef Try.underlying41 rfl Try.sizeOf9 (by decide) rfl rfl) rfl rfl rfl ?_
            refine PWl.guardT (LR.loadRef Try.isAgg9 rfl rfl rfl) rfl rfl rfl ?_
            replace h := iDet h
            obtain ⟨v16, hy17, h⟩ := h
            refine PWl.guardT (LR.callN (r11_Text_ok e1.text v16 hy17) rfl Try.call77 rfl rfl rfl rfl) rfl rfl rfl ?_
            refine PWl.guardT (LR.not rfl) rfl rfl rfl ?_
            refine PWl.guardT (LR.pickF rfl rfl) rfl rfl rfl ?_
            refine PWl.step (LR.pickT rfl rfl) rfl ?_
            refine PWl.step (LR.move rfl) rfl ?_
            refine PWl.split (d := 45) rfl (fun hg18 => ?_) (fun hg18 => ?_)
            · replace h := iT hg18 h
              refine PWl.re (tl := [(1, _), (45, _)]) (to := [(1, _)]) rfl (.cons rfl rfl <| .cons rfl rfl <| .nil) (.cons rfl rfl <| .nil) ?_
              refine PWl.guardF rfl rfl rfl (by decide) ?_
              refine PWl.guardF rfl rfl rfl (by decide) ?_
              refine PWl.guardF rfl rfl rfl (by decide) ?_
              refine PWl.guardF rfl rfl rfl (by decide) ?_
              refine PWl.guardU rfl rfl rfl ?_
              refine PWl.guardU rfl rfl rfl ?_
              refine PWl.guardU rfl rfl rfl ?_
              refine PWl.guardU rfl rfl rfl ?_
              refine PWl.guardU rfl rfl rfl ?_
              refine PWl.guardU rfl rfl rfl ?_
              refine PWl.guardU rfl rfl rfl ?_
              refine PWl.guardU rfl rfl rfl ?_
              refine PWl.guardF rfl rfl rfl (by decide) ?_
              refine PWl.step (LR.pickT rfl rfl) rfl ?_
              refine PWl.nil ?_
              exact ⟨true, (), h, Sub.of rfl (.cons rfl rfl <| .cons rfl rfl <| .nil) (.cons rfl rfl <| .nil)⟩
            · replace h := iF hg18 h
              refine PWl.re (tl := [(1, _), (45, _)]) (to := [(1, _)]) rfl (.cons rfl rfl <| .cons rfl rfl <| .nil) (.cons rfl rfl <| .nil) ?_
              refine PWl.guardT (LR.fieldRef Try.underlying41 rfl Try.sizeOf5 (by decide) rfl rfl) rfl rfl rfl ?_
              refine PWl.guardT (LR.loadRef Try.isAgg5 rfl rfl rfl) rfl rfl rfl ?_
              refine PWl.guardT (LR.eql rfl rfl) rfl rfl rfl ?_
              refine PWl.guardT (LR.move rfl) rfl rfl rfl ?_
              refine PWl.split (d := 49) rfl (fun hg19 => ?_) (fun hg19 => ?_)
              · replace h := iT hg19 h
                refine PWl.guardT (LR.fieldRef Try.underlying41 rfl Try.sizeOf5 (by decide) rfl rfl) rfl rfl rfl ?_
                refine PWl.guardT (LR.loadRef Try.isAgg5 rfl rfl rfl) rfl rfl rfl ?_
                refine PWl.guardT (LR.neq rfl rfl) rfl rfl rfl ?_
                refine PWl.guardT (LR.move rfl) rfl rfl rfl ?_
                refine PWl.split (d := 53) rfl (fun hg20 => ?_) (fun hg20 => ?_)
                · replace h := iT hg20 h
                  refine PWl.guardF rfl rfl rfl (by decide) ?_
                  refine PWl.guardF rfl rfl rfl (by decide) ?_
                  refine PWl.guardF rfl rfl rfl (by decide) ?_
                  refine PWl.guardT (LR.pickT rfl rfl) rfl rfl rfl ?_
                  refine PWl.guardT (LR.pickT rfl rfl) rfl rfl rfl ?_
                  refine PWl.step (LR.pickF rfl rfl) rfl ?_
                  refine PWl.nil ?_
                  exact ⟨true, (), h, Sub.of rfl (.cons rfl rfl <| .cons rfl rfl <| .nil) (.cons rfl rfl <| .nil)⟩
                · replace h := iF hg20 h
                  refine PWl.guardT (LR.fieldRef Try.underlying41 rfl Try.sizeOf9 (by decide) rfl rfl) rfl rfl rfl ?_
                  refine PWl.guardT (LR.loadRef Try.isAgg9 rfl rfl rfl) rfl rfl rfl ?_
                  refine PWl.guardT (LR.neqStr rfl rfl) rfl rfl rfl ?_
                  refine PWl.guardT (LR.pickF rfl rfl) rfl rfl rfl ?_
                  refine PWl.guardT (LR.pickT rfl rfl) rfl rfl rfl ?_
                  refine PWl.step (LR.pickF rfl rfl) rfl ?_
                  refine PWl.nil ?_
                  exact ⟨(!decide (e1.text = (⟨#[]⟩ : ByteArray))), (), h, Sub.of rfl (.cons rfl rfl <| .cons rfl rfl <| .nil) (.cons rfl rfl <| .nil)⟩
              · replace h := iF hg19 h
                refine PWl.guardF rfl rfl rfl (by decide) ?_
                refine PWl.guardF rfl rfl rfl (by decide) ?_
                refine PWl.guardF rfl rfl rfl (by decide) ?_
                refine PWl.guardF rfl rfl rfl (by decide) ?_
                refine PWl.guardU rfl rfl rfl ?_
                refine PWl.guardU rfl rfl rfl ?_
                refine PWl.guardU rfl rfl rfl ?_
                refine PWl.guardF rfl rfl rfl (by decide) ?_
                refine PWl.guardT (LR.pickF rfl rfl) rfl rfl rfl ?_
                refine PWl.step (LR.pickF rfl rfl) rfl ?_
                refine PWl.nil ?_
                exact ⟨false, (), h, Sub.of rfl (.cons rfl rfl <| .cons rfl rfl <| .nil) (.cons rfl rfl <| .nil)⟩
        · replace h := iF hg12 h
          refine PWl.guardF rfl rfl rfl (by decide) ?_
          refine PWl.guardF rfl rfl rfl (by decide) ?_
          refine PWl.guardF rfl rfl rfl (by decide) ?_
          refine PWl.guardF rfl rfl rfl (by decide) ?_
          refine PWl.guardF rfl rfl rfl (by decide) ?_
          refine PWl.guardU rfl rfl rfl ?_
          refine PWl.guardU rfl rfl rfl ?_
          refine PWl.guardU rfl rfl rfl ?_
          refine PWl.guardU rfl rfl rfl ?_
          refine PWl.guardF rfl rfl rfl (by decide) ?_
          refine PWl.step (LR.pickF rfl rfl) rfl ?_
          refine PWl.step (LR.move rfl) rfl ?_
          refine PWl.guardT (LR.fieldRef Try.underlying41 rfl Try.sizeOf5 (by decide) rfl rfl) rfl rfl rfl ?_
          refine PWl.guardT (LR.loadRef Try.isAgg5 rfl rfl rfl) rfl rfl rfl ?_
          refine PWl.re (tl := [(1, _), (45, _), (47, _)]) (to := [(1, _)]) rfl (.cons rfl rfl <| .cons rfl rfl <| .cons rfl rfl <| .nil) (.cons rfl rfl <| .nil) ?_
          refine PWl.guardT (LR.eql rfl rfl) rfl rfl rfl ?_
          refine PWl.guardT (LR.move rfl) rfl rfl rfl ?_
          refine PWl.split (d := 49) rfl (fun hg21 => ?_) (fun hg21 => ?_)
          · replace h := iT hg21 h
            refine PWl.guardT (LR.fieldRef Try.underlying41 rfl Try.sizeOf5 (by decide) rfl rfl) rfl rfl rfl ?_
            refine PWl.guardT (LR.loadRef Try.isAgg5 rfl rfl rfl) rfl rfl rfl ?_
            refine PWl.guardT (LR.neq rfl rfl) rfl rfl rfl ?_
            refine PWl.guardT (LR.move rfl) rfl rfl rfl ?_
            refine PWl.split (d := 53) rfl (fun hg22 => ?_) (fun hg22 => ?_)
            · replace h := iT hg22 h
              refine PWl.guardF rfl rfl rfl (by decide) ?_
              refine PWl.guardF rfl rfl rfl (by decide) ?_
              refine PWl.guardF rfl rfl rfl (by decide) ?_
              refine PWl.guardT (LR.pickT rfl rfl) rfl rfl rfl ?_
              refine PWl.guardT (LR.pickT rfl rfl) rfl rfl rfl ?_
              refine PWl.step (LR.pickF rfl rfl) rfl ?_
              refine PWl.nil ?_
              exact ⟨true, (), h, Sub.of rfl (.cons rfl rfl <| .cons rfl rfl <| .nil) (.cons rfl rfl <| .nil)⟩
            · replace h := iF hg22 h
              refine PWl.guardT (LR.fieldRef Try.underlying41 rfl Try.sizeOf9 (by decide) rfl rfl) rfl rfl rfl ?_
              refine PWl.guardT (LR.loadRef Try.isAgg9 rfl rfl rfl) rfl rfl rfl ?_
              refine PWl.guardT (LR.neqStr rfl rfl) rfl rfl rfl ?_
              refine PWl.guardT (LR.pickF rfl rfl) rfl rfl rfl ?_
              refine PWl.guardT (LR.pickT rfl rfl) rfl rfl rfl ?_
              refine PWl.step (LR.pickF rfl rfl) rfl ?_
              refine PWl.nil ?_
              exact ⟨(!decide (e1.text = (⟨#[]⟩ : ByteArray))), (), h, Sub.of rfl (.cons rfl rfl <| .cons rfl rfl <| .nil) (.cons rfl rfl <| .nil)⟩
          · replace h := iF hg21 h
            refine PWl.guardF rfl rfl rfl (by decide) ?_
            refine PWl.guardF rfl rfl rfl (by decide) ?_
            refine PWl.guardF rfl rfl rfl (by decide) ?_
            refine PWl.guardF rfl rfl rfl (by decide) ?_
            refine PWl.guardU rfl rfl rfl ?_
            refine PWl.guardU rfl rfl rfl ?_
            refine PWl.guardU rfl rfl rfl ?_
            refine PWl.guardF rfl rfl rfl (by decide) ?_
            refine PWl.guardT (LR.pickF rfl rfl) rfl rfl rfl ?_
            refine PWl.step (LR.pickF rfl rfl) rfl ?_
            refine PWl.nil ?_
            exact ⟨false, (), h, Sub.of rfl (.cons rfl rfl <| .cons rfl rfl <| .nil) (.cons rfl rfl <| .nil)⟩
      · rintro v11 _ h
        refine PWc.cond rfl (fun hc23 => ?_) (fun hc23 => ?_)
        · replace h := iT hc23 h
          refine PWc.seq ?_
          refine PWc.region ?_
          refine PWl.step (LR.assign rfl) rfl ?_
          refine PWl.nil ?_
          refine PWc.ret ?_
          replace h : _ = r0 := h
          subst h
          exact ⟨.inr rfl, _, .cons (.tmp rfl rfl) <| .nil, rfl⟩
        · replace h := iF hc23 h
          refine PWc.skip ?_
          refine PWc.seq ?_
          refine PWc.seq ?_
          refine PWc.region ?_
          refine PWl.step (LR.assign rfl) rfl ?_
          refine PWl.nil ?_
          refine PWc.jnX (iBind h) (fun (_ : Unit) (_ : Unit) => ⟨91, [(1, .ref 1 0)], [(1, .cells 41 [.d (.v (.int .u16 e1.dot.dev)), .d (.v (.int .u64 e1.dot.n)), .d (.v (.int .u8 e1.kind)), .d (.v (.int .u64 e1.cid)), .d (.v (.int .u8 e1.field)), .d (.v (.string e1.text)), .d (.sl (List.map TDot.e e1.kills))])]⟩) (fun h => ?_) ?_
          · refine PWc.block ?_
            refine PWc.loopM (fun (i37 : Int) (_ : Unit) => ⟨91, [(1, .ref 1 0), (5, .d (.v (.int .i64 i37)))], [(1, .cells 41 [.d (.v (.int .u16 e1.dot.dev)), .d (.v (.int .u64 e1.dot.n)), .d (.v (.int .u8 e1.kind)), .d (.v (.int .u64 e1.cid)), .d (.v (.int .u8 e1.field)), .d (.v (.string e1.text)), .d (.sl (List.map TDot.e e1.kills))])]⟩) () h (Sub.of rfl (.cons rfl rfl <| .cons rfl rfl <| .nil) (.cons rfl rfl <| .nil)) ?_
            rintro N i37 _ h
            refine PWc.seq ?_
            refine PWc.seq ?_
            refine PWc.region ?_
            refine PWl.step (LR.move rfl) rfl ?_
            refine PWl.step (LR.fieldRef Try.underlying41 rfl Try.sizeOf39 (by decide) rfl rfl) rfl ?_
            refine PWl.step (LR.loadRef Try.isAgg39 rfl rfl rfl) rfl ?_
            refine PWl.step (LR.lenMap (enc := TDot.e) (L := e1.kills) Try.underlying39 rfl) rfl ?_
            refine PWl.step (LR.lss rfl rfl) rfl ?_
            refine PWl.nil ?_
            refine PWc.cond rfl (fun hc38 => ?_) (fun hc38 => ?_)
            · replace h := iT hc38 h
              refine PWc.skip ?_
              refine PWc.seq ?_
              refine PWc.block ?_
              refine PWc.seq ?_
              refine PWc.region ?_
              refine PWl.step (LR.fieldRef Try.underlying41 rfl Try.sizeOf39 (by decide) rfl rfl) rfl ?_
              refine PWl.step (LR.loadRef Try.isAgg39 rfl rfl rfl) rfl ?_
              refine PWl.step (LR.move rfl) rfl ?_
              replace h := iIdx h
              obtain ⟨x39, hy40, h⟩ := h
              refine PWl.step (LR.idxT (enc := TDot.e) (L := e1.kills) (y := x39) Try.underlying39 Try.sizeOf38 rfl rfl hy40 (fun _ => rfl)) rfl ?_
              refine PWl.step (LR.loadEpAgg (ys := [_, _]) Try.isAgg38 Try.sizeOf38 rfl rfl rfl) rfl ?_
              replace h := iDet h
              obtain ⟨v41, hy42, h⟩ := h
              refine PWl.step (LR.callN (r07_Good_ok x39 v41 hy42) rfl Try.call75 rfl rfl rfl rfl) rfl ?_
              refine PWl.step (LR.not rfl) rfl ?_
              refine PWl.nil ?_
              refine PWc.cond rfl (fun hc43 => ?_) (fun hc43 => ?_)
              · replace h := iT hc43 h
                refine PWc.seq ?_
                refine PWc.region ?_
                refine PWl.step (LR.assign rfl) rfl ?_
                refine PWl.nil ?_
                refine PWc.ret ?_
                replace h : _ = r0 := h
                subst h
                exact ⟨.inr rfl, _, .cons (.tmp rfl rfl) <| .nil, rfl⟩
              · replace h := iF hc43 h
                refine PWc.skip ?_
                refine PWc.region ?_
                refine PWl.step (LR.move rfl) rfl ?_
                refine PWl.step (LR.addW rfl rfl) rfl ?_
                refine PWl.step (LR.assign rfl) rfl ?_
                refine PWl.nil ?_
                exact ⟨(IntKind.i64.wrap (i37 + 1)), (), h, Sub.of rfl (.cons rfl rfl <| .cons rfl rfl <| .nil) (.cons rfl rfl <| .nil)⟩
            · replace h := iF hc38 h
              refine PWc.exit ?_
              exact ⟨(), (), h, Sub.of rfl (.cons rfl rfl <| .nil) (.cons rfl rfl <| .nil)⟩
          · rintro _ _ h
            refine PWc.seq ?_
            refine PWc.jn (iBind h) (fun (v44 : Bool) (_ : Unit) => ⟨91, [(2, .d (.v (.bool v44)))], []⟩) (fun h => ?_) ?_
            · refine PWc.region ?_
              refine PWl.step (LR.fieldRef Try.underlying41 rfl Try.sizeOf39 (by decide) rfl rfl) rfl ?_
              refine PWl.step (LR.loadRef Try.isAgg39 rfl rfl rfl) rfl ?_
              refine PWl.step (LR.lenMap (enc := TDot.e) (L := e1.kills) Try.underlying39 rfl) rfl ?_
              refine PWl.step (LR.leq rfl rfl) rfl ?_
              refine PWl.step (LR.move rfl) rfl ?_
              refine PWl.split (d := 78) rfl (fun hg45 => ?_) (fun hg45 => ?_)
              · replace h := iT hg45 h
                refine PWl.guardT (LR.fieldRef Try.underlying41 rfl Try.sizeOf39 (by decide) rfl rfl) rfl rfl rfl ?_
                refine PWl.guardT (LR.loadRef Try.isAgg39 rfl rfl rfl) rfl rfl rfl ?_
                replace h := iDet h
                obtain ⟨v46, hy47, h⟩ := h
                refine PWl.guardT (LR.callN (r07_Rising_ok e1.kills v46 hy47) rfl Try.call78 rfl rfl rfl rfl) rfl rfl rfl ?_
                refine PWl.step (LR.pickT rfl rfl) rfl ?_
                refine PWl.step (LR.move rfl) rfl ?_
                refine PWl.split (d := 83) rfl (fun hg48 => ?_) (fun hg48 => ?_)
                · replace h := iT hg48 h
                  refine PWl.guardT (LR.fieldRef Try.underlying41 rfl Try.sizeOf39 (by decide) rfl rfl) rfl rfl rfl ?_
                  refine PWl.guardT (LR.loadRef Try.isAgg39 rfl rfl rfl) rfl rfl rfl ?_
                  refine PWl.guardT (LR.fieldRef Try.underlying41 rfl Try.sizeOf38 (by decide) rfl rfl) rfl rfl rfl ?_
                  refine PWl.guardT (LR.loadRefAgg (ps := [_, _]) Try.isAgg38 Try.sizeOf38 rfl rfl rfl rfl) rfl rfl rfl ?_
                  replace h := iDet h
                  obtain ⟨v49, hy50, h⟩ := h
                  refine PWl.guardT (LR.callN (r07_Has_ok e1.kills e1.dot v49 hy50) rfl Try.call79 rfl rfl rfl rfl) rfl rfl rfl ?_
                  refine PWl.guardT (LR.not rfl) rfl rfl rfl ?_
                  refine PWl.step (LR.pickT rfl rfl) rfl ?_
                  refine PWl.step (LR.assign rfl) rfl ?_
                  refine PWl.nil ?_
                  exact ⟨(!v49), (), h, Sub.of rfl (.cons rfl rfl <| .nil) (.nil)⟩
                · replace h := iF hg48 h
                  refine PWl.guardF rfl rfl rfl (by decide) ?_
                  refine PWl.guardF rfl rfl rfl (by decide) ?_
                  refine PWl.guardF rfl rfl rfl (by decide) ?_
                  refine PWl.guardF rfl rfl rfl (by decide) ?_
                  refine PWl.guardF rfl rfl rfl (by decide) ?_
                  refine PWl.guardF rfl rfl rfl (by decide) ?_
                  refine PWl.step (LR.pickF rfl rfl) rfl ?_
                  refine PWl.step (LR.assign rfl) rfl ?_
                  refine PWl.nil ?_
                  exact ⟨false, (), h, Sub.of rfl (.cons rfl rfl <| .nil) (.nil)⟩
              · replace h := iF hg45 h
                refine PWl.guardF rfl rfl rfl (by decide) ?_
                refine PWl.guardF rfl rfl rfl (by decide) ?_
                refine PWl.guardF rfl rfl rfl (by decide) ?_
                refine PWl.step (LR.pickF rfl rfl) rfl ?_
                refine PWl.step (LR.move rfl) rfl ?_
                refine PWl.guardF rfl rfl rfl (by decide) ?_
                refine PWl.guardF rfl rfl rfl (by decide) ?_
                refine PWl.guardF rfl rfl rfl (by decide) ?_
                refine PWl.guardF rfl rfl rfl (by decide) ?_
                refine PWl.guardF rfl rfl rfl (by decide) ?_
                refine PWl.guardF rfl rfl rfl (by decide) ?_
                refine PWl.step (LR.pickF rfl rfl) rfl ?_
                refine PWl.step (LR.assign rfl) rfl ?_
                refine PWl.nil ?_
                exact ⟨false, (), h, Sub.of rfl (.cons rfl rfl <| .nil) (.nil)⟩
            · rintro v44 _ h
              refine PWc.ret ?_
              replace h : _ = r0 := h
              subst h
              exact ⟨.inr rfl, _, .cons (.tmp rfl rfl) <| .nil, rfl⟩

theorem l16_equal_ok (a1 : List Int) (b2 : List Int) (r0 : Bool) (h : (l16_equal a1 b2).wp (· = r0)) : PFun Try.prog 37 [.d (.sl (List.map (eK .u8) a1)), .d (.sl (List.map (eK .u8) b2))] (.d (.v (.bool r0))) := by
  refine PFun.intro (sl := [(0, _), (1, _)]) Try.func37 rfl Try.ntmps37 rfl rfl ?_
  intro ctx hK
  refine PWc.seq ?_
  refine PWc.region ?_
  refine PWl.step (LR.assign rfl) rfl ?_
  refine PWl.nil ?_
  refine PWc.seq ?_
  refine PWc.region ?_
  refine PWl.step (LR.move rfl) rfl ?_
  refine PWl.step (LR.bytesStr Try.underlying45 Try.underlying5 Try.underlying9 rfl) rfl ?_
  refine PWl.step (LR.move rfl) rfl ?_
  refine PWl.step (LR.bytesStr Try.underlying45 Try.underlying5 Try.underlying9 rfl) rfl ?_
  refine PWl.step (LR.eqlStr rfl rfl) rfl ?_
  refine PWl.step (LR.assign rfl) rfl ?_
  refine PWl.nil ?_
  refine PWc.ret ?_
  replace h : _ = r0 := h
  subst h
  exact ⟨.inr rfl, _, .cons (.tmp rfl rfl) <| .nil, rfl⟩

theorem shift_Split_ok (v1 : Int) (r0 : Int × Int) (h : (shift_Split v1).wp (· = r0)) : PFun Try.prog 168 [.d (.v (.int .u64 v1))] (.tup [.d (.v (.int .u16 r0.1)), .d (.v (.int .u64 r0.2))]) := by
  refine PFun.intro (sl := [(0, _)]) Try.func168 rfl Try.ntmps168 rfl rfl ?_
  intro ctx hK
  refine PWc.seq ?_
  refine PWc.region ?_
  refine PWl.step (LR.assign rfl) rfl ?_
  refine PWl.step (LR.assign rfl) rfl ?_
  refine PWl.nil ?_
  refine PWc.seq ?_
  refine PWc.region ?_
  refine PWl.step (LR.move rfl) rfl ?_
  refine PWl.step (LR.shr rfl rfl (by decide) rfl) rfl ?_
  refine PWl.step (LR.convInt Try.underlying28 (by rw [Try.underlying36]; rfl) rfl rfl) rfl ?_
  refine PWl.step (LR.move rfl) rfl ?_
  refine PWl.step (LR.and rfl rfl) rfl ?_
  refine PWl.step (LR.assign rfl) rfl ?_
  refine PWl.step (LR.assign rfl) rfl ?_
  refine PWl.nil ?_
  refine PWc.ret ?_
  replace h : _ = r0 := h
  subst h
  exact ⟨.inr rfl, _, .cons (.tmp rfl rfl) <| .cons (.tmp rfl rfl) <| .nil, rfl⟩

theorem dot_Unpack_ok (v1 : Int) (r0 : TDot × Bool) (h : (dot_Unpack v1).wp (· = r0)) : PFun Try.prog 134 [.d (.v (.int .u64 v1))] (.tup [.agg (List.map .d (TDot.e r0.1)), .d (.v (.bool r0.2))]) := by
  refine PFun.intro (sl := [(0, _)]) Try.func134 rfl Try.ntmps134 rfl rfl ?_
  intro ctx hK
  refine PWc.seq ?_
  refine PWc.region ?_
  refine PWl.step (LR.allocZ (cs := [_, _]) Try.zeroValue38 rfl rfl rfl rfl) rfl ?_
  refine PWl.step (LR.assign rfl) rfl ?_
  refine PWl.nil ?_
  refine PWc.seq ?_
  refine PWc.region ?_
  refine PWl.step (LR.move rfl) rfl ?_
  replace h := iDet h
  obtain ⟨v2, hy3, h⟩ := h
  refine PWl.step (LR.callN (shift_Split_ok v1 v2 hy3) rfl Try.call168 rfl rfl rfl rfl) rfl ?_
  refine PWl.step (LR.move rfl) rfl ?_
  refine PWl.step (LR.extract rfl rfl) rfl ?_
  refine PWl.step (LR.extract rfl rfl) rfl ?_
  refine PWl.step (LR.assign rfl) rfl ?_
  refine PWl.step (LR.assign rfl) rfl ?_
  refine PWl.nil ?_
  refine PWc.seq ?_
  refine PWc.region ?_
  refine PWl.step (LR.move rfl) rfl ?_
  refine PWl.step (LR.move rfl) rfl ?_
  refine PWl.step (LR.build (ns := [_, _]) build38 rfl rfl rfl) rfl ?_
  refine PWl.step (LR.allocZ (cs := [_, _]) Try.zeroValue38 rfl rfl rfl rfl) rfl ?_
  refine PWl.step (LR.storeB (ns := [_, _]) Try.sizeOf38 rfl rfl rfl rfl rfl rfl rfl) rfl ?_
  refine PWl.nil ?_
  refine PWc.seq ?_
  refine PWc.seq ?_
  refine PWc.region ?_
  refine PWl.step (LR.loadRefAgg (ps := [_, _]) Try.isAgg38 Try.sizeOf38 rfl rfl rfl rfl) rfl ?_
  replace h := iDet h
  obtain ⟨v4, hy5, h⟩ := h
  refine PWl.step (LR.callN (dot_Good_ok (⟨v2.1, v2.2⟩ : TDot) v4 hy5) rfl Try.call82 rfl rfl rfl rfl) rfl ?_
  refine PWl.step (LR.not rfl) rfl ?_
  refine PWl.nil ?_
  refine PWc.cond rfl (fun hc6 => ?_) (fun hc6 => ?_)
  · replace h := iT hc6 h
    refine PWc.seq ?_
    refine PWc.region ?_
    refine PWl.step (LR.build (ns := [_, _]) build38 rfl rfl rfl) rfl ?_
    refine PWl.step (LR.storeB (ns := [_, _]) Try.sizeOf38 rfl rfl rfl rfl rfl rfl rfl) rfl ?_
    refine PWl.step (LR.assign rfl) rfl ?_
    refine PWl.nil ?_
    refine PWc.ret ?_
    replace h : _ = r0 := h
    subst h
    exact ⟨.inr rfl, _, .cons (.agg Try.isAgg38 Try.sizeOf38 rfl rfl rfl rfl) <| .cons (.tmp rfl rfl) <| .nil, rfl⟩
  · replace h := iF hc6 h
    refine PWc.skip ?_
    refine PWc.seq ?_
    refine PWc.region ?_
    refine PWl.step (LR.loadRefAgg (ps := [_, _]) Try.isAgg38 Try.sizeOf38 rfl rfl rfl rfl) rfl ?_
    refine PWl.step (LR.storeB (ns := [_, _]) Try.sizeOf38 rfl rfl rfl rfl rfl rfl rfl) rfl ?_
    refine PWl.step (LR.assign rfl) rfl ?_
    refine PWl.nil ?_
    refine PWc.ret ?_
    replace h : _ = r0 := h
    subst h
    exact ⟨.inr rfl, _, .cons (.agg Try.isAgg38 Try.sizeOf38 rfl rfl rfl rfl) <| .cons (.tmp rfl rfl) <| .nil, rfl⟩

theorem field_Good_ok (f1 : Int) (r0 : Bool) (h : (field_Good f1).wp (· = r0)) : PFun Try.prog 135 [.d (.v (.int .u8 f1))] (.d (.v (.bool r0))) := by
  refine PFun.intro (sl := [(0, _)]) Try.func135 rfl Try.ntmps135 rfl rfl ?_
  intro ctx hK
  refine PWc.seq ?_
  refine PWc.region ?_
  refine PWl.step (LR.assign rfl) rfl ?_
  refine PWl.nil ?_
  refine PWc.seq ?_
  refine PWc.jn (iBind h) (fun (v2 : Bool) (_ : Unit) => ⟨9, [(2, .d (.v (.bool v2)))], []⟩) (fun h => ?_) ?_
  · refine PWc.region ?_
    refine PWl.step (LR.move rfl) rfl ?_
    refine PWl.step (LR.geq rfl rfl) rfl ?_
    refine PWl.step (LR.move rfl) rfl ?_
    refine PWl.split (d := 5) rfl (fun hg3 => ?_) (fun hg3 => ?_)
    · replace h := iT hg3 h
      refine PWl.guardT (LR.move rfl) rfl rfl rfl ?_
      refine PWl.guardT (LR.leq rfl rfl) rfl rfl rfl ?_
      refine PWl.step (LR.pickT rfl rfl) rfl ?_
      refine PWl.step (LR.assign rfl) rfl ?_
      refine PWl.nil ?_
      exact ⟨(decide (f1 ≤ 5)), (), h, Sub.of rfl (.cons rfl rfl <| .nil) (.nil)⟩
    · replace h := iF hg3 h
      refine PWl.guardF rfl rfl rfl (by decide) ?_
      refine PWl.guardF rfl rfl rfl (by decide) ?_
      refine PWl.step (LR.pickF rfl rfl) rfl ?_
      refine PWl.step (LR.assign rfl) rfl ?_
      refine PWl.nil ?_
      exact ⟨false, (), h, Sub.of rfl (.cons rfl rfl <| .nil) (.nil)⟩
  · rintro v2 _ h
    refine PWc.ret ?_
    replace h : _ = r0 := h
    subst h
    exact ⟨.inr rfl, _, .cons (.tmp rfl rfl) <| .nil, rfl⟩

theorem field_Text_ok (s1 : ByteArray) (r0 : Bool) (h : (field_Text s1).wp (· = r0)) : PFun Try.prog 136 [.d (.v (.string s1))] (.d (.v (.bool r0))) := by
  refine PFun.intro (sl := [(0, _)]) Try.func136 rfl Try.ntmps136 rfl rfl ?_
  intro ctx hK
  refine PWc.seq ?_
  refine PWc.region ?_
  refine PWl.step (LR.assign rfl) rfl ?_
  refine PWl.nil ?_
  refine PWc.seq ?_
  refine PWc.seq ?_
  refine PWc.region ?_
  refine PWl.step (LR.move rfl) rfl ?_
  refine PWl.step (LR.lenStr Try.underlying9 rfl) rfl ?_
  refine PWl.step (LR.gtr rfl rfl) rfl ?_
  refine PWl.nil ?_
  refine PWc.cond rfl (fun hc2 => ?_) (fun hc2 => ?_)
  · replace h := iT hc2 h
    refine PWc.seq ?_
    refine PWc.region ?_
    refine PWl.step (LR.assign rfl) rfl ?_
    refine PWl.nil ?_
    refine PWc.ret ?_
    replace h : _ = r0 := h
    subst h
    exact ⟨.inr rfl, _, .cons (.tmp rfl rfl) <| .nil, rfl⟩
  · replace h := iF hc2 h
    refine PWc.skip ?_
    refine PWc.seq ?_
    refine PWc.seq ?_
    refine PWc.region ?_
    refine PWl.step (LR.move rfl) rfl ?_
    refine PWl.step (LR.lenStr Try.underlying9 rfl) rfl ?_
    refine PWl.step (LR.move rfl) rfl ?_
    refine PWl.nil ?_
    refine PWc.jnX (iBind h) (fun (_ : Unit) (_ : Unit) => ⟨23, [], []⟩) (fun h => ?_) ?_
    · refine PWc.block ?_
      refine PWc.loopM (fun (v20 : Int) (_ : Unit) => ⟨23, [(0, .d (.v (.string s1))), (8, .d (.v (.int .i64 (ByteArray.size s1 : Int)))), (9, .d (.v (.int .i64 v20)))], []⟩) () h (Sub.of rfl (.cons rfl rfl <| .cons rfl rfl <| .cons rfl rfl <| .nil) (.nil)) ?_
      rintro N v20 _ h
      refine PWc.seq ?_
      refine PWc.region ?_
      refine PWl.step (LR.lss rfl rfl) rfl ?_
      refine PWl.nil ?_
      refine PWc.seq ?_
      refine PWc.cond rfl (fun hc21 => ?_) (fun hc21 => ?_)
      · replace h := iT hc21 h
        refine PWc.skip ?_
        refine PWc.seq ?_
        refine PWc.block ?_
        refine PWc.seq ?_
        refine PWc.region ?_
        refine PWl.step (LR.move rfl) rfl ?_
        refine PWl.step (LR.assign rfl) rfl ?_
        refine PWl.nil ?_
        refine PWc.seq ?_
        refine PWc.jn (iBind h) (fun (v22 : Bool) (_ : Unit) => ⟨23, [(0, .d (.v (.string s1))), (8, .d (.v (.int .i64 (ByteArray.size s1 : Int)))), (9, .d (.v (.int .i64 v20))), (21, .d (.v (.bool v22)))], []⟩) (fun h => ?_) ?_
        · refine PWc.region ?_
          refine PWl.step (LR.move rfl) rfl ?_
          refine PWl.step (LR.move rfl) rfl ?_
          replace h := iIdx h
          obtain ⟨b23, hy24, h⟩ := h
          refine PWl.step (LR.strIdx Try.underlying9 rfl rfl hy24) rfl ?_
          refine PWl.step (LR.lss rfl rfl) rfl ?_
          refine PWl.step (LR.move rfl) rfl ?_
          refine PWl.split (d := 16) rfl (fun hg25 => ?_) (fun hg25 => ?_)
          · replace h := iT hg25 h
            refine PWl.guardF rfl rfl rfl (by decide) ?_
            refine PWl.guardF rfl rfl rfl (by decide) ?_
            refine PWl.guardF rfl rfl rfl (by decide) ?_
            refine PWl.guardF rfl rfl rfl (by decide) ?_
            refine PWl.step (LR.pickT rfl rfl) rfl ?_
            refine PWl.nil ?_
            exact ⟨true, (), h, Sub.of rfl (.cons rfl rfl <| .cons rfl rfl <| .cons rfl rfl <| .cons rfl rfl <| .nil) (.nil)⟩
          · replace h := iF hg25 h
            refine PWl.guardT (LR.move rfl) rfl rfl rfl ?_
            refine PWl.guardT (LR.move rfl) rfl rfl rfl ?_
            replace h := iIdx h
            obtain ⟨b26, hy27, h⟩ := h
            refine PWl.guardT (LR.strIdx Try.underlying9 rfl rfl hy27) rfl rfl rfl ?_
            refine PWl.guardT (LR.gtr rfl rfl) rfl rfl rfl ?_
            refine PWl.step (LR.pickF rfl rfl) rfl ?_
            refine PWl.nil ?_
            exact ⟨(decide (126 < b26)), (), h, Sub.of rfl (.cons rfl rfl <| .cons rfl rfl <| .cons rfl rfl <| .cons rfl rfl <| .nil) (.nil)⟩
        · rintro v22 _ h
          refine PWc.cond rfl (fun hc28 => ?_) (fun hc28 => ?_)
          · replace h := iT hc28 h
            refine PWc.seq ?_
            refine PWc.region ?_
            refine PWl.step (LR.assign rfl) rfl ?_
            refine PWl.nil ?_
            refine PWc.ret ?_
            replace h : _ = r0 := h
            subst h
            exact ⟨.inr rfl, _, .cons (.tmp rfl rfl) <| .nil, rfl⟩
          · replace h := iF hc28 h
            refine PWc.skip ?_
            refine PWc.region ?_
            refine PWl.step (LR.addW rfl rfl) rfl ?_
            refine PWl.step (LR.move rfl) rfl ?_
            refine PWl.nil ?_
            exact ⟨(IntKind.i64.wrap (v20 + 1)), (), h, Sub.of rfl (.cons rfl rfl <| .cons rfl rfl <| .cons rfl rfl <| .nil) (.nil)⟩
      · replace h := iF hc21 h
        refine PWc.exit ?_
        exact ⟨(), (), h, Sub.of rfl (.nil) (.nil)⟩
    · rintro _ _ h
      refine PWc.seq ?_
      refine PWc.region ?_
      refine PWl.step (LR.assign rfl) rfl ?_
      refine PWl.nil ?_
      refine PWc.ret ?_
      replace h : _ = r0 := h
      subst h
      exact ⟨.inr rfl, _, .cons (.tmp rfl rfl) <| .nil, rfl⟩
end Go.Proofs

namespace Go.Proofs
open Go.Ep
set_option maxHeartbeats 1000000
set_option maxRecDepth 100000
set_option linter.unusedVariables false
set_option linter.unusedSimpArgs false


theorem dcode_PutDot_o_ok (d1 : TDot) (row2 : List Int) (r0 : List Int) (h : (dcode_PutDot_o d1 row2).wp (· = r0)) : PObj Try.prog 26 [.ref 100 0, .agg (List.map .d (TDot.e d1))] [(100, .cells 47 [.row 101 (List.length row2)]), (101, .row 5 1 (List.map (eK .u8) row2))] [100] (.tup []) (fun _ : Unit => [(100, .cells 47 [.row 101 (List.length r0)]), (101, .row 5 1 (List.map (eK .u8) r0))]) := by
  refine PObj.intro (sl := [(0, _), (1, _)]) Try.func26 rfl Try.ntmps26 rfl rfl rfl ?_
  intro ctx hK pv
  refine PWc.seq ?_
  refine PWc.region ?_
  refine PWl.step (LR.box rfl rfl rfl rfl) rfl ?_
  refine PWl.nil ?_
  refine PWc.seq ?_
  refine PWc.region ?_
  refine PWl.step (LR.move rfl) rfl ?_
  refine PWl.step (LR.fieldRef Try.underlying38 rfl Try.sizeOf28 (by decide) rfl rfl) rfl ?_
  refine PWl.step (LR.loadRef Try.isAgg28 rfl rfl rfl) rfl ?_
  refine PWl.step (LR.convInt Try.underlying36 (by rw [Try.underlying28]; rfl) rfl rfl) rfl ?_
  replace h := iDet h
  obtain ⟨y3, hy4, h⟩ := h
  refine PWl.step (LR.callObj [(100, 100), (101, 101)] [] [100, 101] (pack_Writer_Num_o_ok (IntKind.u64.wrap d1.dev) row2 y3 hy4) hK rfl Try.call81 rfl (by first | rfl | (simp; done) | (simp [PV.nilD, PV.ren, rn]; omega)) (.cons (by first | rfl | (congr 1; first | (simp; done) | (simp; omega))) <| .cons (by first | rfl | (congr 1; first | (simp; done) | (simp; omega))) <| .nil) rfl rfl rfl rfl) rfl ?_
  refine PWl.nil ?_
  refine PWc.re (tl := [(0, _), (3, _)]) (to := [(3, _), (100, _), (101, _), (1100, _)]) rfl (.cons rfl rfl <| .cons rfl rfl <| .nil) (.cons rfl rfl <| .cons rfl rfl <| .cons rfl rfl <| .cons rfl rfl <| .nil) ?_
  refine PWc.region ?_
  refine PWl.step (LR.move rfl) rfl ?_
  refine PWl.step (LR.fieldRef Try.underlying38 rfl Try.sizeOf36 (by decide) rfl rfl) rfl ?_
  refine PWl.step (LR.loadRef Try.isAgg36 rfl rfl rfl) rfl ?_
  replace h := iDet h
  obtain ⟨y5, hy6, h⟩ := h
  refine PWl.step (LR.callObj [(100, 100), (101, 101)] [] [100, 101] (pack_Writer_Num_o_ok d1.n y3 y5 hy6) hK rfl Try.call81 rfl (by first | rfl | (simp; done) | (simp [PV.nilD, PV.ren, rn]; omega)) (.cons (by first | rfl | (congr 1; first | (simp; done) | (simp; omega))) <| .cons (by first | rfl | (congr 1; first | (simp; done) | (simp; omega))) <| .nil) rfl rfl rfl rfl) rfl ?_
  refine PWl.nil ?_
  replace h : _ = r0 := h
  subst h
  exact EndsO.mk () (.inl rfl) (Sub.of (tl := []) (to := [(100, _), (101, _), (1100, _)]) rfl (.nil) (.cons rfl (by first | rfl | (congr 1; congr 2; first | (simp; done) | (simp; omega))) <| .cons rfl rfl <| .cons rfl rfl <| .nil)) (.nil) rfl rfl

theorem dcode_PutDots_o_ok (l1 : List TDot) (row2 : List Int) (r0 : List Int) (h : (dcode_PutDots_o l1 row2).wp (· = r0)) : PObj Try.prog 27 [.ref 100 0, .d (.sl (List.map TDot.e l1))] [(100, .cells 47 [.row 101 (List.length row2)]), (101, .row 5 1 (List.map (eK .u8) row2))] [100] (.tup []) (fun _ : Unit => [(100, .cells 47 [.row 101 (List.length r0)]), (101, .row 5 1 (List.map (eK .u8) r0))]) := by
  refine PObj.intro (sl := [(0, _), (1, _)]) Try.func27 rfl Try.ntmps27 rfl rfl rfl ?_
  intro ctx hK pv
  refine PWc.seq ?_
  refine PWc.region ?_
  refine PWl.step (LR.assignNilRow 38 2 rfl) rfl ?_
  refine PWl.nil ?_
  refine PWc.seq ?_
  refine PWc.seq ?_
  refine PWc.region ?_
  refine PWl.step (LR.move rfl) rfl ?_
  refine PWl.step (LR.lenMap (enc := TDot.e) (L := l1) Try.underlying39 rfl) rfl ?_
  refine PWl.step (LR.move rfl) rfl ?_
  refine PWl.nil ?_
  refine PWc.jn (iBind h) (fun (some3 : List TDot) (_ : Unit) => ⟨39, [(0, .ref 100 0), (4, .row 4 (List.length some3))], [(4, .row 38 2 (List.map TDot.e some3)), (100, .cells 47 [.row 101 (List.length row2)]), (101, .row 5 1 (List.map (eK .u8) row2)), (1100, .pin 100 (pv 100).1 (pv 100).2)]⟩) (fun h => ?_) ?_
  · refine PWc.block ?_
    refine PWc.loopM (fun (⟨v22, some23⟩ : Int × List TDot) (_ : Unit) => ⟨39, [(0, .ref 100 0), (4, .row 4 (List.length some23)), (9, .d (.sl (List.map TDot.e l1))), (10, .d (.v (.int .i64 (List.length l1 : Int)))), (11, .d (.v (.int .i64 v22)))], [(4, .row 38 2 (List.map TDot.e some23)), (100, .cells 47 [.row 101 (List.length row2)]), (101, .row 5 1 (List.map (eK .u8) row2)), (1100, .pin 100 (pv 100).1 (pv 100).2)]⟩) () h (Sub.of rfl (.cons rfl rfl <| .cons rfl rfl <| .cons rfl rfl <| .cons rfl rfl <| .cons rfl rfl <| .nil) (.cons rfl rfl <| .cons rfl rfl <| .cons rfl rfl <| .cons rfl rfl <| .nil)) ?_
    rintro N ⟨v22, some23⟩ _ h
    refine PWc.seq ?_
    refine PWc.region ?_
    refine PWl.step (LR.lss rfl rfl) rfl ?_
    refine PWl.nil ?_
    refine PWc.seq ?_
    refine PWc.cond rfl (fun hc24 => ?_) (fun hc24 => ?_)
    · replace h := iT hc24 h
      refine PWc.skip ?_
      refine PWc.seq ?_
      refine PWc.jn (iBind h) (fun (some25 : List TDot) (_ : Unit) => ⟨39, [(0, .ref 100 0), (4, .row 4 (List.length some25)), (9, .d (.sl (List.map TDot.e l1))), (10, .d (.v (.int .i64 (List.length l1 : Int)))), (11, .d (.v (.int .i64 v22)))], [(4, .row 38 2 (List.map TDot.e some25)), (100, .cells 47 [.row 101 (List.length row2)]), (101, .row 5 1 (List.map (eK .u8) row2)), (1100, .pin 100 (pv 100).1 (pv 100).2)]⟩) (fun h => ?_) ?_
      · refine PWc.block ?_
        refine PWc.seq ?_
        refine PWc.region ?_
        replace h := iIdx h
        obtain ⟨x26, hy27, h⟩ := h
        refine PWl.step (LR.idxT (enc := TDot.e) (L := l1) (y := x26) Try.underlying39 Try.sizeOf38 rfl rfl hy27 (fun _ => rfl)) rfl ?_
        refine PWl.step (LR.loadEpAgg (ys := [_, _]) Try.isAgg38 Try.sizeOf38 rfl rfl rfl) rfl ?_
        refine PWl.step (LR.allocZ (cs := [_, _]) Try.zeroValue38 rfl rfl rfl rfl) rfl ?_
        refine PWl.step (LR.storeB (ns := [_, _]) Try.sizeOf38 rfl rfl rfl rfl rfl rfl rfl) rfl ?_
        refine PWl.nil ?_
        refine PWc.seq ?_
        refine PWc.region ?_
        refine PWl.step (LR.loadRefAgg (ps := [_, _]) Try.isAgg38 Try.sizeOf38 rfl rfl rfl rfl) rfl ?_
        replace h := iDet h
        obtain ⟨v28, hy29, h⟩ := h
        refine PWl.step (LR.callN (dot_Good_ok x26 v28 hy29) rfl Try.call82 rfl rfl rfl rfl) rfl ?_
        refine PWl.nil ?_
        refine PWc.cond rfl (fun hc30 => ?_) (fun hc30 => ?_)
        · replace h := iT hc30 h
          refine PWc.region ?_
          refine PWl.step (LR.move rfl) rfl ?_
          refine PWl.step (LR.loadRefAgg (ps := [_, _]) Try.isAgg38 Try.sizeOf38 rfl rfl rfl rfl) rfl ?_
          refine PWl.step (LR.buildSliceD [.tmp 18] elem39 rfl rfl (.cons rfl rfl rfl <| .nil) (by decide) (by decide)) rfl ?_
          replace h := iNeed h
          obtain ⟨hy31, h⟩ := h
          refine PWl.step (LR.appT (enc := TDot.e) (L := some23) (R := [x26]) [4, 17] elem39 Try.underlying39 rfl rfl rfl (Src.slT (enc := TDot.e) (R := [x26]) rfl (fun _ => rfl)) (fun _ => rfl) hy31 rfl rfl) rfl ?_
          refine PWl.step (LR.assign rfl) rfl ?_
          refine PWl.nil ?_
          exact ⟨(some23 ++ [x26]), (), h, Sub.of rfl (.cons rfl rfl <| .cons rfl rfl <| .cons rfl rfl <| .cons rfl rfl <| .cons rfl rfl <| .nil) (.cons rfl rfl <| .cons rfl rfl <| .cons rfl rfl <| .cons rfl rfl <| .nil)⟩
        · replace h := iF hc30 h
          refine PWc.skip ?_
          exact ⟨some23, (), h, Sub.of rfl (.cons rfl rfl <| .cons rfl rfl <| .cons rfl rfl <| .cons rfl rfl <| .cons rfl rfl <| .nil) (.cons rfl rfl <| .cons rfl rfl <| .cons rfl rfl <| .cons rfl rfl <| .nil)⟩
      · rintro some25 _ h
        refine PWc.region ?_
        refine PWl.step (LR.addW rfl rfl) rfl ?_
        refine PWl.step (LR.move rfl) rfl ?_
        refine PWl.nil ?_
        exact ⟨((IntKind.i64.wrap (v22 + 1)), some25), (), h, Sub.of rfl (.cons rfl rfl <| .cons rfl rfl <| .cons rfl rfl <| .cons rfl rfl <| .cons rfl rfl <| .nil) (.cons rfl rfl <| .cons rfl rfl <| .cons rfl rfl <| .cons rfl rfl <| .nil)⟩
    · replace h := iF hc24 h
      refine PWc.exit ?_
      exact ⟨some23, (), h, Sub.of rfl (.cons rfl rfl <| .cons rfl rfl <| .nil) (.cons rfl rfl <| .cons rfl rfl <| .cons rfl rfl <| .cons rfl rfl <| .nil)⟩
  · rintro some3 _ h
    refine PWc.seq ?_
    refine PWc.region ?_
    refine PWl.step (LR.move rfl) rfl ?_
    replace h := iDet h
    obtain ⟨v32, hy33, h⟩ := h
    refine PWl.frz [4, 22] hK (.cons rfl <| .cons rfl <| .nil) rfl (by simp) ?_
    refine PWl.step (LR.rowN (dot_Sort_ok some3 v32 hy33) rfl Try.call83 rfl rfl rfl rfl) rfl ?_
    refine PWl.step (LR.assign rfl) rfl ?_
    refine PWl.nil ?_
    refine PWc.seq ?_
    refine PWc.region ?_
    refine PWl.step (LR.move rfl) rfl ?_
    refine PWl.step (LR.move rfl) rfl ?_
    refine PWl.step (LR.lenRow Try.underlying39 rfl) rfl ?_
    refine PWl.step (LR.convInt Try.underlying36 (by rw [Try.underlying3]; rfl) rfl rfl) rfl ?_
    replace h := iDet h
    obtain ⟨y34, hy35, h⟩ := h
    refine PWl.step (LR.callObj [(100, 100), (101, 101)] [] [100, 101] (pack_Writer_Num_o_ok ((IntKind.u64.wrap ((List.length v32) : Int))) row2 y34 hy35) hK rfl Try.call81 rfl (by first | rfl | (simp; done) | (simp [PV.nilD, PV.ren, rn]; omega)) (.cons (by first | rfl | (congr 1; first | (simp; done) | (simp; omega))) <| .cons (by first | rfl | (congr 1; first | (simp; done) | (simp; omega))) <| .nil) rfl rfl rfl rfl) rfl ?_
    refine PWl.nil ?_
    refine PWc.seq ?_
    refine PWc.re (tl := [(0, _), (4, _)]) (to := [(23, _), (100, _), (101, _), (1100, _)]) rfl (.cons rfl rfl <| .cons rfl rfl <| .nil) (.cons rfl rfl <| .cons rfl rfl <| .cons rfl rfl <| .cons rfl rfl <| .nil) ?_
    refine PWc.region ?_
    refine PWl.step (LR.move rfl) rfl ?_
    refine PWl.step (LR.lenRow Try.underlying39 rfl) rfl ?_
    refine PWl.step (LR.move rfl) rfl ?_
    refine PWl.nil ?_
    refine PWc.block ?_
    refine PWc.loopM (fun (⟨v48, v49⟩ : Int × List Int) (_ : Unit) => ⟨39, [(0, .ref 100 0), (29, .row 23 (List.length v32)), (30, .d (.v (.int .i64 ((List.length v32) : Int)))), (31, .d (.v (.int .i64 v48)))], [(23, .row 38 2 (List.map TDot.e v32)), (100, .cells 47 [.row 101 (List.length v49)]), (101, .row 5 1 (List.map (eK .u8) v49)), (1100, .pin 100 (pv 100).1 (pv 100).2)]⟩) () h (Sub.of rfl (.cons rfl rfl <| .cons rfl rfl <| .cons rfl rfl <| .cons rfl rfl <| .nil) (.cons rfl rfl <| .cons rfl rfl <| .cons rfl rfl <| .cons rfl rfl <| .nil)) ?_
    rintro N ⟨v48, v49⟩ _ h
    refine PWc.seq ?_
    refine PWc.region ?_
    refine PWl.step (LR.lss rfl rfl) rfl ?_
    refine PWl.nil ?_
    refine PWc.seq ?_
    refine PWc.cond rfl (fun hc50 => ?_) (fun hc50 => ?_)
    · replace h := iT hc50 h
      refine PWc.skip ?_
      refine PWc.seq ?_
      refine PWc.block ?_
      refine PWc.seq ?_
      refine PWc.region ?_
      replace h := iIdx h
      obtain ⟨x51, hy52, h⟩ := h
      refine PWl.step (LR.idxRowT (L := v32) (y := x51) Try.underlying39 Try.sizeOf38 rfl rfl rfl hy52) rfl ?_
      refine PWl.step (LR.loadRpT (enc := TDot.e) (L := v32) (y := x51) Try.isAgg38 Try.sizeOf38 rfl rfl hy52.2) rfl ?_
      refine PWl.step (LR.allocZ (cs := [_, _]) Try.zeroValue38 rfl rfl rfl rfl) rfl ?_
      refine PWl.step (LR.storeB (ns := [_, _]) Try.sizeOf38 rfl rfl rfl rfl rfl rfl rfl) rfl ?_
      refine PWl.nil ?_
      refine PWc.region ?_
      refine PWl.step (LR.move rfl) rfl ?_
      refine PWl.step (LR.loadRefAgg (ps := [_, _]) Try.isAgg38 Try.sizeOf38 rfl rfl rfl rfl) rfl ?_
      replace h := iDet h
      obtain ⟨y53, hy54, h⟩ := h
      refine PWl.step (LR.callObj [(100, 100), (101, 101)] [] [100, 101] (dcode_PutDot_o_ok x51 v49 y53 hy54) hK rfl Try.call26 rfl (by first | rfl | (simp; done) | (simp [PV.nilD, PV.ren, rn]; omega)) (.cons (by first | rfl | (congr 1; first | (simp; done) | (simp; omega))) <| .cons (by first | rfl | (congr 1; first | (simp; done) | (simp; omega))) <| .nil) rfl rfl rfl rfl) rfl ?_
      refine PWl.nil ?_
      refine PWc.re (tl := [(0, _), (29, _), (30, _), (31, _)]) (to := [(23, _), (100, _), (101, _), (1100, _)]) rfl (.cons rfl rfl <| .cons rfl rfl <| .cons rfl rfl <| .cons rfl rfl <| .nil) (.cons rfl rfl <| .cons rfl rfl <| .cons rfl rfl <| .cons rfl rfl <| .nil) ?_
      refine PWc.region ?_
      refine PWl.step (LR.addW rfl rfl) rfl ?_
      refine PWl.step (LR.move rfl) rfl ?_
      refine PWl.nil ?_
      exact ⟨((IntKind.i64.wrap (v48 + 1)), y53), (), h, Sub.of rfl (.cons rfl rfl <| .cons rfl rfl <| .cons rfl rfl <| .cons rfl rfl <| .nil) (.cons rfl rfl <| .cons rfl rfl <| .cons rfl rfl <| .cons rfl rfl <| .nil)⟩
    · replace h := iF hc50 h
      refine PWc.exit ?_
      replace h : _ = r0 := h
      subst h
      exact EndsO.mk () (.inl rfl) (Sub.of (tl := []) (to := [(100, _), (101, _), (1100, _)]) rfl (.nil) (.cons rfl (by first | rfl | (congr 1; congr 2; first | (simp; done) | (simp; omega))) <| .cons rfl rfl <| .cons rfl rfl <| .nil)) (.nil) rfl rfl

end Go.Proofs


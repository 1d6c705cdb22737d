/- Walks: written by program. -/
import Derived.Test.YtacnidaafcfgiaaDFc
import Derived.Test.YtacnidaafcfgiaaDSh
import Derived.Test.YtacnidaafcfgiaaDSx
import Derived.Test.YtacnidaafcfgiaaTl
import Derived.Test.YtacnidaafcfgiaaSr
import Derived.Test.YtacnidaafcfgiaaDr
import Derived.Test.YtacnidaafcfgiaaOb
import Derived.Test.YtacnidaafcfgiaaOe
import Derived.Test.YtacnidaafcfgiaaLs
import Derived.Test.YtacnidaafcfgiaaTl
import Derived.Test.YtacnidaafcfgiaaStr
import Derived.Test.YtacnidaafcfgiaaPc
import Derived.Test.YtacnidaafcfgiaaDW0
import Derived.Test.YtacnidaafcfgiaaDW2
import Derived.Test.YtacnidaafcfgiaaDW3
namespace Go.Proofs
open Go.Ep
set_option maxHeartbeats 1000000
set_option maxRecDepth 100000
set_option linter.unusedVariables false
set_option linter.unusedSimpArgs false


theorem dot_Cmp_ok (a1 : TDot) (b2 : TDot) (r0 : Int) (h : (dot_Cmp a1 b2).wp (· = r0)) : PFun Try.prog 107 [.agg (List.map .d (TDot.e a1)), .agg (List.map .d (TDot.e b2))] (.d (.v (.int .i64 r0))) := by
  refine PFun.intro (sl := [(0, _), (1, _)]) Try.func107 rfl Try.ntmps107 rfl rfl ?_
  intro ctx hK
  refine PWc.seq ?_
  refine PWc.region ?_
  refine PWl.step (LR.box rfl rfl rfl rfl) rfl ?_
  refine PWl.step (LR.box rfl rfl rfl rfl) rfl ?_
  refine PWl.step (LR.assign rfl) rfl ?_
  refine PWl.nil ?_
  refine PWc.seq ?_
  refine PWc.seq ?_
  refine PWc.region ?_
  refine PWl.step (LR.fieldRef Try.underlying38 rfl Try.sizeOf28 (by decide) rfl rfl) rfl ?_
  refine PWl.step (LR.loadRef Try.isAgg28 rfl rfl rfl) rfl ?_
  refine PWl.step (LR.fieldRef Try.underlying38 rfl Try.sizeOf28 (by decide) rfl rfl) rfl ?_
  refine PWl.step (LR.loadRef Try.isAgg28 rfl rfl rfl) rfl ?_
  replace h := iDet h
  obtain ⟨v3, hy4, h⟩ := h
  refine PWl.step (LR.callN (cmp_Compare_uint16_ok a1.dev b2.dev v3 hy4) rfl Try.call146 rfl rfl rfl rfl) rfl ?_
  refine PWl.step (LR.assign rfl) rfl ?_
  refine PWl.nil ?_
  refine PWc.seq ?_
  refine PWc.region ?_
  refine PWl.step (LR.move rfl) rfl ?_
  refine PWl.step (LR.neq rfl rfl) rfl ?_
  refine PWl.nil ?_
  refine PWc.cond rfl (fun hc5 => ?_) (fun hc5 => ?_)
  · replace h := iT hc5 h
    refine PWc.seq ?_
    refine PWc.region ?_
    refine PWl.step (LR.move rfl) rfl ?_
    refine PWl.step (LR.assign rfl) rfl ?_
    refine PWl.nil ?_
    refine PWc.ret ?_
    replace h : _ = r0 := h
    subst h
    exact ⟨.inr rfl, _, .cons (.tmp rfl rfl) <| .nil, rfl⟩
  · replace h := iF hc5 h
    refine PWc.skip ?_
    refine PWc.seq ?_
    refine PWc.region ?_
    refine PWl.step (LR.fieldRef Try.underlying38 rfl Try.sizeOf36 (by decide) rfl rfl) rfl ?_
    refine PWl.step (LR.loadRef Try.isAgg36 rfl rfl rfl) rfl ?_
    refine PWl.step (LR.fieldRef Try.underlying38 rfl Try.sizeOf36 (by decide) rfl rfl) rfl ?_
    refine PWl.step (LR.loadRef Try.isAgg36 rfl rfl rfl) rfl ?_
    replace h := iDet h
    obtain ⟨v6, hy7, h⟩ := h
    refine PWl.step (LR.callN (cmp_Compare_uint64_ok a1.n b2.n v6 hy7) rfl Try.call143 rfl rfl rfl rfl) rfl ?_
    refine PWl.step (LR.assign rfl) rfl ?_
    refine PWl.nil ?_
    refine PWc.ret ?_
    replace h : _ = r0 := h
    subst h
    exact ⟨.inr rfl, _, .cons (.tmp rfl rfl) <| .nil, rfl⟩

theorem slices_Compact_sl_Dot_Dot_o_ok (row1 : List TDot) (r0 : List TDot) (h : (slices_Compact_sl_Dot_Dot_o row1).wp (· = r0)) : PObj Try.prog 129 [.row 100 (List.length row1)] [(100, .row 38 2 (List.map TDot.e row1))] [] (.row 100 (List.length r0)) (fun _ : Unit => [(100, .row 38 2 (List.map TDot.e r0))]) := by
  refine PObj.intro (sl := [(0, _)]) Try.func129 rfl Try.ntmps129 rfl rfl rfl ?_
  intro ctx hK pv
  refine PWc.seq ?_
  refine PWc.region ?_
  refine PWl.step (LR.assignNilRow 38 2 rfl) rfl ?_
  refine PWl.nil ?_
  refine PWc.seq ?_
  refine PWc.seq ?_
  refine PWc.region ?_
  refine PWl.step (LR.move rfl) rfl ?_
  refine PWl.step (LR.lenRow Try.underlying39 rfl) rfl ?_
  refine PWl.step (LR.lss rfl rfl) rfl ?_
  refine PWl.nil ?_
  refine PWc.cond rfl (fun hc2 => ?_) (fun hc2 => ?_)
  · replace h := iT hc2 h
    refine PWc.seq ?_
    refine PWc.region ?_
    refine PWl.step (LR.move rfl) rfl ?_
    refine PWl.re (tl := [(0, _), (6, _), (7, _), (8, _), (9, _)]) (to := [(100, _)]) rfl (.cons rfl rfl <| .cons rfl rfl <| .cons rfl rfl <| .cons rfl rfl <| .cons rfl rfl <| .nil) (.cons rfl rfl <| .nil) ?_
    refine PWl.step (LR.assign rfl) rfl ?_
    refine PWl.nil ?_
    refine PWc.ret ?_
    replace h : _ = r0 := h
    subst h
    exact EndsO.mk () (.inr rfl) (Sub.of (tl := [(2, _)]) (to := [(100, _)]) rfl (.cons rfl (by first | rfl | (simp; done) | (congr 1; first | (simp; done) | (simp; omega))) <| .nil) (.cons rfl rfl <| .nil)) (.cons (.tmp rfl) <| .nil) rfl rfl
  · replace h := iF hc2 h
    refine PWc.skip ?_
    refine PWc.seq ?_
    refine PWc.seq ?_
    refine PWc.region ?_
    refine PWl.step (LR.assign rfl) rfl ?_
    refine PWl.nil ?_
    refine PWc.jnX (iBind h) (fun (_ : Unit) (_ : Unit) => ⟨61, [(0, .row 100 (List.length row1))], [(100, .row 38 2 (List.map TDot.e row1))]⟩) (fun h => ?_) ?_
    · refine PWc.block ?_
      refine PWc.loopM (fun (k148 : Int) (_ : Unit) => ⟨61, [(0, .row 100 (List.length row1)), (3, .d (.v (.int .i64 k148)))], [(100, .row 38 2 (List.map TDot.e row1))]⟩) () h (Sub.of rfl (.cons rfl rfl <| .cons rfl rfl <| .nil) (.cons rfl rfl <| .nil)) ?_
      rintro N k148 _ h
      refine PWc.seq ?_
      refine PWc.seq ?_
      refine PWc.region ?_
      refine PWl.step (LR.move rfl) rfl ?_
      refine PWl.step (LR.move rfl) rfl ?_
      refine PWl.step (LR.lenRow Try.underlying39 rfl) rfl ?_
      refine PWl.step (LR.lss rfl rfl) rfl ?_
      refine PWl.nil ?_
      refine PWc.cond rfl (fun hc149 => ?_) (fun hc149 => ?_)
      · replace h := iT hc149 h
        refine PWc.skip ?_
        refine PWc.seq ?_
        refine PWc.jnX (iBind h) (fun (_ : Unit) (_ : Unit) => ⟨61, [(0, .row 100 (List.length row1)), (3, .d (.v (.int .i64 k148)))], [(100, .row 38 2 (List.map TDot.e row1))]⟩) (fun h => ?_) ?_
        · refine PWc.block ?_
          refine PWc.seq ?_
          refine PWc.regionD (by kernel_rfl) (by kernel_rfl) ?_
          refine PQl.step (fun _ he ho => LR.move (he rfl rfl)) rfl ?_
          refine PQl.step (fun _ he ho => LR.move (he rfl rfl)) rfl ?_
          replace h := iIdx h
          obtain ⟨x150, hy151, h⟩ := h
          refine PQl.step (fun _ he ho => LR.idxRowT (L := row1) (y := x150) Try.underlying39 Try.sizeOf38 (he rfl rfl) rfl (he rfl rfl) hy151) rfl ?_
          refine PQl.step (fun _ he ho => LR.loadRpT (enc := TDot.e) (L := row1) (y := x150) Try.isAgg38 Try.sizeOf38 (he rfl rfl) (ho rfl) hy151.2) rfl ?_
          refine PQl.step (fun _ he ho => LR.move (he rfl rfl)) rfl ?_
          refine PQl.step (fun _ he ho => LR.move (he rfl rfl)) rfl ?_
          refine PQl.step (fun _ he ho => LR.subW (he rfl rfl) (he rfl rfl)) rfl ?_
          replace h := iIdx h
          obtain ⟨x152, hy153, h⟩ := h
          refine PQl.step (fun _ he ho => LR.idxRowT (L := row1) (y := x152) Try.underlying39 Try.sizeOf38 (he rfl rfl) rfl (he rfl rfl) hy153) rfl ?_
          refine PQl.step (fun _ he ho => LR.loadRpT (enc := TDot.e) (L := row1) (y := x152) Try.isAgg38 Try.sizeOf38 (he rfl rfl) (ho rfl) hy153.2) rfl ?_
          refine PQl.step (fun _ he ho => LR.eqlAgg (he rfl rfl) (he rfl rfl) rfl rfl eq38) rfl ?_
          refine PQl.nil ?_
          refine PWc.cond rfl (fun hc154 => ?_) (fun hc154 => ?_)
          · replace h := iT hc154 h
            refine PWc.seq ?_
            refine PWc.region ?_
            refine PWl.step (LR.move rfl) rfl ?_
            refine PWl.step (LR.move rfl) rfl ?_
            replace h := iNeed h
            obtain ⟨hy155, h⟩ := h
            refine PWl.step (LR.pieceRowT (enc := TDot.e) (L := row1) Try.underlying39 Try.sizeOf38 rfl rfl rfl rfl hy155) rfl ?_
            refine PWl.step (LR.assign rfl) rfl ?_
            refine PWl.nil ?_
            refine PWc.seq ?_
            refine PWc.seq ?_
            refine PWc.region ?_
            refine PWl.step (LR.assign rfl) rfl ?_
            refine PWl.nil ?_
            refine PWc.jn (iBind h) (fun (⟨k156, v157⟩ : Int × List TDot) (_ : Unit) => ⟨61, [(0, .row 100 (List.length v157)), (3, .d (.v (.int .i64 k156)))], [(100, .row 38 2 (List.map TDot.e v157))]⟩) (fun h => ?_) ?_
            · refine PWc.block ?_
              refine PWc.loopM (fun (⟨k197, k2_198, v199⟩ : Int × Int × List TDot) (_ : Unit) => ⟨61, [(0, .row 100 (List.length v199)), (3, .d (.v (.int .i64 k197))), (4, .pc 100 (Int.toNat k148) (List.length row1 - Int.toNat k148) 2), (5, .d (.v (.int .i64 k2_198)))], [(100, .row 38 2 (List.map TDot.e v199))]⟩) () h (Sub.of rfl (.cons rfl rfl <| .cons rfl rfl <| .cons rfl rfl <| .cons rfl rfl <| .nil) (.cons rfl rfl <| .nil)) ?_
              rintro N ⟨k197, k2_198, v199⟩ _ h
              refine PWc.seq ?_
              refine PWc.seq ?_
              refine PWc.region ?_
              refine PWl.step (LR.move rfl) rfl ?_
              refine PWl.step (LR.move rfl) rfl ?_
              refine PWl.step (LR.lenPc Try.underlying39 rfl) rfl ?_
              refine PWl.step (LR.lss rfl rfl) rfl ?_
              refine PWl.nil ?_
              refine PWc.cond rfl (fun hc200 => ?_) (fun hc200 => ?_)
              · replace h := iT hc200 h
                refine PWc.skip ?_
                refine PWc.seq ?_
                refine PWc.jn (iBind h) (fun (⟨k201, v202⟩ : Int × List TDot) (_ : Unit) => ⟨61, [(0, .row 100 (List.length v202)), (3, .d (.v (.int .i64 k201))), (4, .pc 100 (Int.toNat k148) (List.length row1 - Int.toNat k148) 2), (5, .d (.v (.int .i64 k2_198)))], [(100, .row 38 2 (List.map TDot.e v202))]⟩) (fun h => ?_) ?_
                · refine PWc.block ?_
                  refine PWc.seq ?_
                  refine PWc.regionD (by kernel_rfl) (by kernel_rfl) ?_
                  refine PQl.step (fun _ he ho => LR.move (he rfl rfl)) rfl ?_
                  refine PQl.step (fun _ he ho => LR.move (he rfl rfl)) rfl ?_
                  replace h := iNeed h
                  obtain ⟨hy205, h⟩ := h
                  replace h := iIdx h
                  obtain ⟨x203, hy204, h⟩ := h
                  have hy206 : True ∧ v199[((Int.toNat k148) + Int.toNat k2_198)]? = some x203 := ⟨trivial, hy204.2⟩
                  refine PQl.step (fun _ he ho => LR.idxPc Try.underlying39 Try.sizeOf38 (he rfl rfl) (he rfl rfl) hy205) rfl ?_
                  refine PQl.step (fun _ he ho => LR.loadRpT (enc := TDot.e) (L := v199) (y := x203) Try.isAgg38 Try.sizeOf38 (he rfl rfl) (ho rfl) hy206.2) rfl ?_
                  refine PQl.step (fun _ he ho => LR.move (he rfl rfl)) rfl ?_
                  refine PQl.step (fun _ he ho => LR.move (he rfl rfl)) rfl ?_
                  refine PQl.step (fun _ he ho => LR.subW (he rfl rfl) (he rfl rfl)) rfl ?_
                  replace h := iNeed h
                  obtain ⟨hy209, h⟩ := h
                  replace h := iIdx h
                  obtain ⟨x207, hy208, h⟩ := h
                  have hy210 : True ∧ v199[((Int.toNat k148) + Int.toNat (IntKind.i64.wrap (k2_198 - 1)))]? = some x207 := ⟨trivial, hy208.2⟩
                  refine PQl.step (fun _ he ho => LR.idxPc Try.underlying39 Try.sizeOf38 (he rfl rfl) (he rfl rfl) hy209) rfl ?_
                  refine PQl.step (fun _ he ho => LR.loadRpT (enc := TDot.e) (L := v199) (y := x207) Try.isAgg38 Try.sizeOf38 (he rfl rfl) (ho rfl) hy210.2) rfl ?_
                  refine PQl.step (fun _ he ho => LR.neqAgg (he rfl rfl) (he rfl rfl) rfl rfl eq38) rfl ?_
                  refine PQl.nil ?_
                  refine PWc.cond rfl (fun hc211 => ?_) (fun hc211 => ?_)
                  · replace h := iT hc211 h
                    refine PWc.seq ?_
                    refine PWc.region ?_
                    refine PWl.step (LR.move rfl) rfl ?_
                    refine PWl.step (LR.move rfl) rfl ?_
                    refine PWl.step (LR.move rfl) rfl ?_
                    refine PWl.re (tl := [(0, _), (3, _), (4, _), (5, _), (45, _), (46, _), (47, _)]) (to := [(100, _)]) rfl (.cons rfl rfl <| .cons rfl rfl <| .cons rfl rfl <| .cons rfl rfl <| .cons rfl rfl <| .cons rfl rfl <| .cons rfl rfl <| .nil) (.cons rfl rfl <| .nil) ?_
                    refine PWl.step (LR.move rfl) rfl ?_
                    replace h := iNeed h
                    obtain ⟨hy214, h⟩ := h
                    replace h := iIdx h
                    obtain ⟨x212, hy213, h⟩ := h
                    have hy215 : True ∧ v199[((Int.toNat k148) + Int.toNat k2_198)]? = some x212 := ⟨trivial, hy213.2⟩
                    refine PWl.step (LR.idxPc Try.underlying39 Try.sizeOf38 rfl rfl hy214) rfl ?_
                    refine PWl.step (LR.loadRpT (enc := TDot.e) (L := v199) (y := x212) Try.isAgg38 Try.sizeOf38 rfl rfl hy215.2) rfl ?_
                    replace h := iIdx h
                    obtain ⟨x216, hy217, h⟩ := h
                    refine PWl.step (LR.idxRowT (L := v199) (y := x216) Try.underlying39 Try.sizeOf38 rfl rfl rfl hy217) rfl ?_
                    refine PWl.step (LR.storeRpT (enc := TDot.e) (L := v199) (a := x216) (b := x212) Try.sizeOf38 rfl rfl rfl rfl rfl hy217.2 rfl rfl) rfl ?_
                    refine PWl.nil ?_
                    refine PWc.region ?_
                    refine PWl.step (LR.move rfl) rfl ?_
                    refine PWl.step (LR.addW rfl rfl) rfl ?_
                    refine PWl.step (LR.assign rfl) rfl ?_
                    refine PWl.nil ?_
                    exact ⟨((IntKind.i64.wrap (k197 + 1)), (List.set v199 (Int.toNat k197) x212)), (), h, Sub.of rfl (.cons rfl (by first | rfl | (simp; done) | (congr 1; first | (simp; done) | (simp; omega))) <| .cons rfl rfl <| .cons rfl rfl <| .cons rfl rfl <| .nil) (.cons rfl rfl <| .nil)⟩
                  · replace h := iF hc211 h
                    refine PWc.skip ?_
                    exact ⟨(k197, v199), (), h, Sub.of rfl (.cons rfl rfl <| .cons rfl rfl <| .cons rfl rfl <| .cons rfl rfl <| .nil) (.cons rfl rfl <| .nil)⟩
                · rintro ⟨k201, v202⟩ _ h
                  refine PWc.region ?_
                  refine PWl.step (LR.move rfl) rfl ?_
                  refine PWl.step (LR.addW rfl rfl) rfl ?_
                  refine PWl.step (LR.assign rfl) rfl ?_
                  refine PWl.nil ?_
                  exact ⟨(k201, (IntKind.i64.wrap (k2_198 + 1)), v202), (), h, Sub.of rfl (.cons rfl rfl <| .cons rfl rfl <| .cons rfl rfl <| .cons rfl rfl <| .nil) (.cons rfl rfl <| .nil)⟩
              · replace h := iF hc200 h
                refine PWc.exit ?_
                exact ⟨(k197, v199), (), h, Sub.of rfl (.cons rfl rfl <| .cons rfl rfl <| .nil) (.cons rfl rfl <| .nil)⟩
            · rintro ⟨k156, v157⟩ _ h
              refine PWc.seq ?_
              refine PWc.region ?_
              refine PWl.step (LR.move rfl) rfl ?_
              refine PWl.step (LR.move rfl) rfl ?_
              replace h := iNeed h
              obtain ⟨hy218, h⟩ := h
              refine PWl.step (LR.pieceRowT (enc := TDot.e) (L := v157) Try.underlying39 Try.sizeOf38 rfl rfl rfl rfl hy218) rfl ?_
              replace h := iNeed h
              obtain ⟨hy219, h⟩ := h
              refine PWl.step (LR.clearPcT (enc := TDot.e) (L := v157) (z := (⟨0, 0⟩ : TDot)) Try.underlying39 rfl rfl Try.zeroValue38 rfl rfl rfl rfl hy219 rfl) rfl ?_
              refine PWl.nil ?_
              refine PWc.seq ?_
              refine PWc.region ?_
              refine PWl.step (LR.move rfl) rfl ?_
              refine PWl.step (LR.move rfl) rfl ?_
              replace h := iNeed h
              obtain ⟨hy220, h⟩ := h
              refine PWl.step (LR.cutRowT (enc := TDot.e) (L := (List.take (Int.toNat k156) v157 ++ List.replicate (List.length v157 - Int.toNat k156) (⟨0, 0⟩ : TDot) ++ List.drop ((Int.toNat k156) + (List.length v157 - Int.toNat k156)) v157)) [0, 54, 56, 57] Try.underlying39 Try.sizeOf38 rfl (by first | (simp; done) | (simp; omega) | omega) rfl rfl hy220 rfl) rfl ?_
              refine PWl.step (LR.assign rfl) rfl ?_
              refine PWl.nil ?_
              refine PWc.ret ?_
              replace h : _ = r0 := h
              subst h
              exact EndsO.mk () (.inr rfl) (Sub.of (tl := [(2, _)]) (to := [(100, _)]) rfl (.cons rfl (by first | rfl | (simp; done) | (congr 1; first | (simp; done) | (simp; omega))) <| .nil) (.cons rfl rfl <| .nil)) (.cons (.tmp rfl) <| .nil) rfl rfl
          · replace h := iF hc154 h
            refine PWc.skip ?_
            exact ⟨(), (), h, Sub.of rfl (.cons rfl rfl <| .cons rfl rfl <| .nil) (.cons rfl rfl <| .nil)⟩
        · rintro _ _ h
          refine PWc.region ?_
          refine PWl.step (LR.move rfl) rfl ?_
          refine PWl.step (LR.addW rfl rfl) rfl ?_
          refine PWl.step (LR.assign rfl) rfl ?_
          refine PWl.nil ?_
          exact ⟨(IntKind.i64.wrap (k148 + 1)), (), h, Sub.of rfl (.cons rfl rfl <| .cons rfl rfl <| .nil) (.cons rfl rfl <| .nil)⟩
      · replace h := iF hc149 h
        refine PWc.exit ?_
        exact ⟨(), (), h, Sub.of rfl (.cons rfl rfl <| .nil) (.cons rfl rfl <| .nil)⟩
    · rintro _ _ h
      refine PWc.seq ?_
      refine PWc.region ?_
      refine PWl.step (LR.move rfl) rfl ?_
      refine PWl.step (LR.assign rfl) rfl ?_
      refine PWl.nil ?_
      refine PWc.ret ?_
      replace h : _ = r0 := h
      subst h
      exact EndsO.mk () (.inr rfl) (Sub.of (tl := [(2, _)]) (to := [(100, _)]) rfl (.cons rfl (by first | rfl | (simp; done) | (congr 1; first | (simp; done) | (simp; omega))) <| .nil) (.cons rfl rfl <| .nil)) (.cons (.tmp rfl) <| .nil) rfl rfl

theorem dot_Sort_ok (l1 : List TDot) (r0 : List TDot) (h : (dot_Sort l1).wp (· = r0)) : PRow Try.prog 83 [.d (.sl (List.map TDot.e l1))] 38 2 (List.map TDot.e r0) := by
  refine PRow.intro (sl := [(0, _)]) Try.func83 rfl Try.ntmps83 rfl rfl ?_
  intro ctx hK
  refine PWc.seq ?_
  refine PWc.region ?_
  refine PWl.step (LR.assignNilRow 38 2 rfl) rfl ?_
  refine PWl.nil ?_
  refine PWc.seq ?_
  refine PWc.region ?_
  refine PWl.step (LR.move rfl) rfl ?_
  replace h := iDet h
  obtain ⟨v2, hy3, h⟩ := h
  refine PWl.step (LR.rowN (slices_Clone_sl_Dot_Dot_ok l1 v2 hy3) rfl Try.call121 rfl rfl rfl rfl) rfl ?_
  refine PWl.step (LR.assign rfl) rfl ?_
  refine PWl.nil ?_
  refine PWc.seq ?_
  refine PWc.region ?_
  refine PWl.step (LR.move rfl) rfl ?_
  replace h := iNeed h
  obtain ⟨hy5, h⟩ := h
  refine PWl.sortFn (encD := TDot.e) (enc := TDot.v) (l := v2) srt128_107 (fun _ => rfl) TDot.v1 (fun _ => rfl) rfl Try.call128 rfl rfl rfl (by simp) hy5 rfl (fun s4 hy6 hy7 => ?_)
  replace h := iSrt h s4 hy6 hy7
  have hy6l := hy6.length_eq
  refine PWl.nil ?_
  refine PWc.seq ?_
  refine PWc.region ?_
  refine PWl.step (LR.move rfl) rfl ?_
  replace h := iDet h
  obtain ⟨y8, hy9, h⟩ := h
  refine PWl.step (LR.callObj [(100, 5)] [3, 5, 6, 8] [100] (slices_Compact_sl_Dot_Dot_o_ok s4 y8 hy9) hK rfl Try.call129 rfl (by first | rfl | (simp; done) | (simp [PV.nilD, PV.ren, rn]; omega)) (.cons (by first | rfl | (congr 1; first | (simp; done) | (simp; omega))) <| .nil) rfl rfl rfl rfl) rfl ?_
  refine PWl.re (tl := [(0, _), (4, _), (7, _), (9, _)]) (to := [(5, _)]) rfl (.cons rfl rfl <| .cons rfl rfl <| .cons rfl rfl <| .cons rfl rfl <| .nil) (.cons rfl rfl <| .nil) ?_
  refine PWl.step (LR.assign rfl) rfl ?_
  refine PWl.nil ?_
  refine PWc.ret ?_
  replace h : _ = r0 := h
  subst h
  exact ⟨.inr rfl, 2, rfl, .inr ⟨5, _, rfl, (by simp), rfl⟩⟩

theorem kills_part_ok (l1 : List TDot) (c2 : List TPart) (has3 : Bool) (r0 : List TDot) (h : (kills_part l1 c2 has3).wp (· = r0)) : PRow Try.prog 122 [.d (.sl (List.map TDot.e l1)), .d (.sl (List.map TPart.e c2)), .d (.v (.bool has3))] 38 2 (List.map TDot.e r0) := by
  refine PRow.intro (sl := [(0, _), (1, _), (2, _)]) Try.func122 rfl Try.ntmps122 rfl rfl ?_
  intro ctx hK
  refine PWc.seq ?_
  refine PWc.region ?_
  refine PWl.step (LR.assignNilRow 38 2 rfl) rfl ?_
  refine PWl.nil ?_
  refine PWc.seq ?_
  refine PWc.region ?_
  refine PWl.step (LR.assignNilRow 38 2 rfl) rfl ?_
  refine PWl.nil ?_
  refine PWc.seq ?_
  refine PWc.seq ?_
  refine PWc.region ?_
  refine PWl.step (LR.move rfl) rfl ?_
  refine PWl.step (LR.lenMap (enc := TDot.e) (L := l1) Try.underlying39 rfl) rfl ?_
  refine PWl.step (LR.move rfl) rfl ?_
  refine PWl.nil ?_
  refine PWc.jn (iBind h) (fun (out4 : List TDot) (_ : Unit) => ⟨28, [(7, .row 7 (List.length out4))], [(7, .row 38 2 (List.map TDot.e out4))]⟩) (fun h => ?_) ?_
  · refine PWc.block ?_
    refine PWc.loopM (fun (⟨v23, out24⟩ : Int × List TDot) (_ : Unit) => ⟨28, [(1, .d (.sl (List.map TPart.e c2))), (2, .d (.v (.bool has3))), (7, .row 7 (List.length out24)), (10, .d (.sl (List.map TDot.e l1))), (11, .d (.v (.int .i64 (List.length l1 : Int)))), (12, .d (.v (.int .i64 v23)))], [(7, .row 38 2 (List.map TDot.e out24))]⟩) () h (Sub.of rfl (.cons rfl rfl <| .cons rfl rfl <| .cons rfl rfl <| .cons rfl rfl <| .cons rfl rfl <| .cons rfl rfl <| .nil) (.cons rfl rfl <| .nil)) ?_
    rintro N ⟨v23, out24⟩ _ h
    refine PWc.seq ?_
    refine PWc.region ?_
    refine PWl.step (LR.lss rfl rfl) rfl ?_
    refine PWl.nil ?_
    refine PWc.seq ?_
    refine PWc.cond rfl (fun hc25 => ?_) (fun hc25 => ?_)
    · replace h := iT hc25 h
      refine PWc.skip ?_
      refine PWc.seq ?_
      refine PWc.jn (iBind h) (fun (out26 : List TDot) (_ : Unit) => ⟨28, [(1, .d (.sl (List.map TPart.e c2))), (2, .d (.v (.bool has3))), (7, .row 7 (List.length out26)), (10, .d (.sl (List.map TDot.e l1))), (11, .d (.v (.int .i64 (List.length l1 : Int)))), (12, .d (.v (.int .i64 v23)))], [(7, .row 38 2 (List.map TDot.e out26))]⟩) (fun h => ?_) ?_
      · refine PWc.block ?_
        refine PWc.seq ?_
        refine PWc.region ?_
        replace h := iIdx h
        obtain ⟨x27, hy28, h⟩ := h
        refine PWl.step (LR.idxT (enc := TDot.e) (L := l1) (y := x27) Try.underlying39 Try.sizeOf38 rfl rfl hy28 (fun _ => rfl)) rfl ?_
        refine PWl.step (LR.loadEpAgg (ys := [_, _]) Try.isAgg38 Try.sizeOf38 rfl rfl rfl) rfl ?_
        refine PWl.step (LR.allocZ (cs := [_, _]) Try.zeroValue38 rfl rfl rfl rfl) rfl ?_
        refine PWl.step (LR.storeB (ns := [_, _]) Try.sizeOf38 rfl rfl rfl rfl rfl rfl rfl) rfl ?_
        refine PWl.nil ?_
        refine PWc.seq ?_
        refine PWc.region ?_
        refine PWl.step (LR.move rfl) rfl ?_
        refine PWl.step (LR.loadRefAgg (ps := [_, _]) Try.isAgg38 Try.sizeOf38 rfl rfl rfl rfl) rfl ?_
        replace h := iDet h
        obtain ⟨v29, hy30, h⟩ := h
        refine PWl.step (LR.callN (ctx_Has_ok c2 x27 v29 hy30) rfl Try.call45 rfl rfl rfl rfl) rfl ?_
        refine PWl.step (LR.move rfl) rfl ?_
        refine PWl.step (LR.eqlBool Try.underlying4 rfl rfl) rfl ?_
        refine PWl.nil ?_
        refine PWc.cond rfl (fun hc31 => ?_) (fun hc31 => ?_)
        · replace h := iT hc31 h
          refine PWc.region ?_
          refine PWl.step (LR.move rfl) rfl ?_
          refine PWl.step (LR.loadRefAgg (ps := [_, _]) Try.isAgg38 Try.sizeOf38 rfl rfl rfl rfl) rfl ?_
          refine PWl.step (LR.buildSliceD [.tmp 22] elem39 rfl rfl (.cons rfl rfl rfl <| .nil) (by decide) (by decide)) rfl ?_
          replace h := iNeed h
          obtain ⟨hy32, h⟩ := h
          refine PWl.step (LR.appT (enc := TDot.e) (L := out24) (R := [x27]) [7, 21] elem39 Try.underlying39 rfl rfl rfl (Src.slT (enc := TDot.e) (R := [x27]) rfl (fun _ => rfl)) (fun _ => rfl) hy32 rfl rfl) rfl ?_
          refine PWl.step (LR.assign rfl) rfl ?_
          refine PWl.nil ?_
          exact ⟨(out24 ++ [x27]), (), h, Sub.of rfl (.cons rfl rfl <| .cons rfl rfl <| .cons rfl rfl <| .cons rfl rfl <| .cons rfl rfl <| .cons rfl rfl <| .nil) (.cons rfl rfl <| .nil)⟩
        · replace h := iF hc31 h
          refine PWc.skip ?_
          exact ⟨out24, (), h, Sub.of rfl (.cons rfl rfl <| .cons rfl rfl <| .cons rfl rfl <| .cons rfl rfl <| .cons rfl rfl <| .cons rfl rfl <| .nil) (.cons rfl rfl <| .nil)⟩
      · rintro out26 _ h
        refine PWc.region ?_
        refine PWl.step (LR.addW rfl rfl) rfl ?_
        refine PWl.step (LR.move rfl) rfl ?_
        refine PWl.nil ?_
        exact ⟨((IntKind.i64.wrap (v23 + 1)), out26), (), h, Sub.of rfl (.cons rfl rfl <| .cons rfl rfl <| .cons rfl rfl <| .cons rfl rfl <| .cons rfl rfl <| .cons rfl rfl <| .nil) (.cons rfl rfl <| .nil)⟩
    · replace h := iF hc25 h
      refine PWc.exit ?_
      exact ⟨out24, (), h, Sub.of rfl (.cons rfl rfl <| .nil) (.cons rfl rfl <| .nil)⟩
  · rintro out4 _ h
    refine PWc.seq ?_
    refine PWc.region ?_
    refine PWl.step (LR.move rfl) rfl ?_
    replace h := iDet h
    obtain ⟨v33, hy34, h⟩ := h
    refine PWl.frz [7, 26] hK (.cons rfl <| .cons rfl <| .nil) rfl (by simp) ?_
    refine PWl.step (LR.rowN (dot_Sort_ok out4 v33 hy34) rfl Try.call83 rfl rfl rfl rfl) rfl ?_
    refine PWl.step (LR.assign rfl) rfl ?_
    refine PWl.nil ?_
    refine PWc.ret ?_
    replace h : _ = r0 := h
    subst h
    exact ⟨.inr rfl, 6, rfl, .inr ⟨27, _, rfl, (by simp), rfl⟩⟩

theorem kills_Keep_ok (l1 : List TDot) (c2 : List TPart) (r0 : List TDot) (h : (kills_Keep l1 c2).wp (· = r0)) : PRow Try.prog 71 [.d (.sl (List.map TDot.e l1)), .d (.sl (List.map TPart.e c2))] 38 2 (List.map TDot.e r0) := by
  refine PRow.intro (sl := [(0, _), (1, _)]) Try.func71 rfl Try.ntmps71 rfl rfl ?_
  intro ctx hK
  refine PWc.seq ?_
  refine PWc.region ?_
  refine PWl.step (LR.assignNilRow 38 2 rfl) rfl ?_
  refine PWl.nil ?_
  refine PWc.seq ?_
  refine PWc.region ?_
  refine PWl.step (LR.move rfl) rfl ?_
  refine PWl.step (LR.move rfl) rfl ?_
  replace h := iDet h
  obtain ⟨v3, hy4, h⟩ := h
  refine PWl.step (LR.rowN (kills_part_ok l1 c2 true v3 hy4) rfl Try.call122 rfl rfl rfl rfl) rfl ?_
  refine PWl.re (tl := [(0, _), (1, _), (5, _), (6, _), (7, _)]) (to := [(7, _)]) rfl (.cons rfl rfl <| .cons rfl rfl <| .cons rfl rfl <| .cons rfl rfl <| .cons rfl rfl <| .nil) (.cons rfl rfl <| .nil) ?_
  refine PWl.step (LR.assign rfl) rfl ?_
  refine PWl.nil ?_
  refine PWc.ret ?_
  replace h : _ = r0 := h
  subst h
  exact ⟨.inr rfl, 4, rfl, .inr ⟨7, _, rfl, (by simp), rfl⟩⟩

theorem outbox_Replay_ok (l1 : List TEvent) (dev2 : Int) (to3 : List TPart) (r0 : List TEvent) (h : (outbox_Replay l1 dev2 to3).wp (· = r0)) : PRow Try.prog 20 [.d (.sl (List.map TEvent.e l1)), .d (.v (.int .u16 dev2)), .d (.sl (List.map TPart.e to3))] 41 7 (List.map TEvent.e r0) := by
  refine PRow.intro (sl := [(0, _), (1, _), (2, _)]) Try.func20 rfl Try.ntmps20 rfl rfl ?_
  intro ctx hK
  refine PWc.seq ?_
  refine PWc.region ?_
  refine PWl.step (LR.assignNilRow 41 7 rfl) rfl ?_
  refine PWl.nil ?_
  refine PWc.seq ?_
  refine PWc.region ?_
  refine PWl.step (LR.move rfl) rfl ?_
  refine PWl.step (LR.lenMap (enc := TEvent.e) (L := l1) Try.underlying22 rfl) rfl ?_
  replace h := iNeed h
  obtain ⟨hy4, h⟩ := h
  refine PWl.makeT (enc := TEvent.e) (z := (⟨(⟨0, 0⟩ : TDot), 0, 0, 0, (⟨#[]⟩ : ByteArray), ([] : List TDot)⟩ : TEvent)) hy4 elem22 Try.zeroValue41 rfl rfl rfl rfl rfl rfl rfl rfl ?_
  refine PWl.step (LR.assign rfl) rfl ?_
  refine PWl.nil ?_
  refine PWc.seq ?_
  refine PWc.seq ?_
  refine PWc.region ?_
  refine PWl.step (LR.move rfl) rfl ?_
  refine PWl.step (LR.lenMap (enc := TEvent.e) (L := l1) Try.underlying22 rfl) rfl ?_
  refine PWl.step (LR.move rfl) rfl ?_
  refine PWl.nil ?_
  refine PWc.jn (iBind h) (fun (v5 : List TEvent) (_ : Unit) => ⟨37, [(7, .row 12 (List.length v5))], [(12, .row 41 7 (List.map TEvent.e v5))]⟩) (fun h => ?_) ?_
  · refine PWc.block ?_
    refine PWc.loopM (fun (⟨v22, v23⟩ : Int × List TEvent) (_ : Unit) => ⟨37, [(1, .d (.v (.int .u16 dev2))), (2, .d (.sl (List.map TPart.e to3))), (7, .row 12 (List.length v23)), (13, .d (.sl (List.map TEvent.e l1))), (14, .d (.v (.int .i64 (List.length l1 : Int)))), (15, .d (.v (.int .i64 v22)))], [(12, .row 41 7 (List.map TEvent.e v23))]⟩) () h (Sub.of rfl (.cons rfl rfl <| .cons rfl rfl <| .cons rfl (by first | rfl | (simp; done) | (congr 1; first | (simp; done) | (simp; omega))) <| .cons rfl rfl <| .cons rfl rfl <| .cons rfl rfl <| .nil) (.cons rfl rfl <| .nil)) ?_
    rintro N ⟨v22, v23⟩ _ h
    refine PWc.seq ?_
    refine PWc.region ?_
    refine PWl.step (LR.lss rfl rfl) rfl ?_
    refine PWl.nil ?_
    refine PWc.seq ?_
    refine PWc.cond rfl (fun hc24 => ?_) (fun hc24 => ?_)
    · replace h := iT hc24 h
      refine PWc.skip ?_
      refine PWc.seq ?_
      refine PWc.block ?_
      refine PWc.seq ?_
      refine PWc.region ?_
      refine PWl.step (LR.move rfl) rfl ?_
      replace h := iIdx h
      obtain ⟨x25, hy26, h⟩ := h
      refine PWl.step (LR.idxT (enc := TEvent.e) (L := l1) (y := x25) Try.underlying22 Try.sizeOf41 rfl rfl hy26 (fun _ => rfl)) rfl ?_
      refine PWl.step (LR.loadEpAgg (ys := [_, _, _, _, _, _, _]) Try.isAgg41 Try.sizeOf41 rfl rfl rfl) rfl ?_
      refine PWl.step (LR.allocZ (cs := [_, _, _, _, _, _, _]) Try.zeroValue41 rfl rfl rfl rfl) rfl ?_
      refine PWl.step (LR.assign rfl) rfl ?_
      refine PWl.step (LR.storeB (ns := [_, _, _, _, _, _, _]) Try.sizeOf41 rfl rfl rfl rfl rfl rfl rfl) rfl ?_
      refine PWl.nil ?_
      refine PWc.seq ?_
      refine PWc.region ?_
      refine PWl.step (LR.move rfl) rfl ?_
      refine PWl.step (LR.move rfl) rfl ?_
      refine PWl.step (LR.convInt Try.underlying36 (by rw [Try.underlying3]; rfl) rfl rfl) rfl ?_
      refine PWl.step (LR.addW rfl rfl) rfl ?_
      refine PWl.step (LR.build (ns := [_, _]) build38 rfl rfl rfl) rfl ?_
      refine PWl.step (LR.fieldRef Try.underlying41 rfl Try.sizeOf38 (by decide) rfl rfl) rfl ?_
      refine PWl.step (LR.storeB (ns := [_, _, _, _, _, _, _]) Try.sizeOf38 rfl rfl rfl rfl rfl rfl rfl) rfl ?_
      refine PWl.nil ?_
      refine PWc.seq ?_
      refine PWc.region ?_
      refine PWl.step (LR.fieldRef Try.underlying41 rfl Try.sizeOf39 (by decide) rfl rfl) rfl ?_
      refine PWl.step (LR.loadRef Try.isAgg39 rfl rfl rfl) rfl ?_
      refine PWl.step (LR.move rfl) rfl ?_
      refine PWl.re (tl := [(1, _), (2, _), (7, _), (8, _), (9, _), (13, _), (14, _), (15, _), (27, _), (28, _)]) (to := [(9, _), (12, _)]) rfl (.cons rfl rfl <| .cons rfl rfl <| .cons rfl rfl <| .cons rfl rfl <| .cons rfl rfl <| .cons rfl rfl <| .cons rfl rfl <| .cons rfl rfl <| .cons rfl rfl <| .cons rfl rfl <| .nil) (.cons rfl rfl <| .cons rfl rfl <| .nil) ?_
      replace h := iDet h
      obtain ⟨v27, hy28, h⟩ := h
      refine PWl.step (LR.rowN (kills_Keep_ok x25.kills to3 v27 hy28) rfl Try.call71 rfl rfl rfl rfl) rfl ?_
      refine PWl.step (LR.fieldRef Try.underlying41 rfl Try.sizeOf39 (by decide) rfl rfl) rfl ?_
      refine PWl.frz [29] hK (.cons rfl <| .nil) rfl (by simp) ?_
      refine PWl.step (LR.storeB (ns := [_, _, _, _, _, _, _]) Try.sizeOf39 rfl rfl rfl rfl rfl rfl rfl) rfl ?_
      refine PWl.nil ?_
      refine PWc.region ?_
      refine PWl.step (LR.move rfl) rfl ?_
      refine PWl.step (LR.move rfl) rfl ?_
      refine PWl.step (LR.loadRefAgg (ps := [_, _, _, _, _, _, _]) Try.isAgg41 Try.sizeOf41 rfl rfl rfl rfl) rfl ?_
      replace h := iIdx h
      obtain ⟨x29, hy30, h⟩ := h
      refine PWl.step (LR.idxRowT (L := v23) (y := x29) Try.underlying22 Try.sizeOf41 rfl rfl rfl hy30) rfl ?_
      refine PWl.step (LR.storeRpT (enc := TEvent.e) (L := v23) (a := x29) (b := (⟨(⟨dev2, (IntKind.u64.wrap ((IntKind.u64.wrap v22) + 1))⟩ : TDot), x25.kind, x25.cid, x25.field, x25.text, v27⟩ : TEvent)) Try.sizeOf41 rfl rfl rfl rfl rfl hy30.2 rfl rfl) rfl ?_
      refine PWl.nil ?_
      refine PWc.region ?_
      refine PWl.step (LR.addW rfl rfl) rfl ?_
      refine PWl.step (LR.move rfl) rfl ?_
      refine PWl.nil ?_
      exact ⟨((IntKind.i64.wrap (v22 + 1)), (List.set v23 (Int.toNat v22) ((⟨(⟨dev2, (IntKind.u64.wrap ((IntKind.u64.wrap v22) + 1))⟩ : TDot), x25.kind, x25.cid, x25.field, x25.text, v27⟩ : TEvent)))), (), h, Sub.of rfl (.cons rfl rfl <| .cons rfl rfl <| .cons rfl (by first | rfl | (simp; done) | (congr 1; first | (simp; done) | (simp; omega))) <| .cons rfl rfl <| .cons rfl rfl <| .cons rfl rfl <| .nil) (.cons rfl rfl <| .nil)⟩
    · replace h := iF hc24 h
      refine PWc.exit ?_
      exact ⟨v23, (), h, Sub.of rfl (.cons rfl rfl <| .nil) (.cons rfl rfl <| .nil)⟩
  · rintro v5 _ h
    refine PWc.seq ?_
    refine PWc.region ?_
    refine PWl.step (LR.move rfl) rfl ?_
    refine PWl.step (LR.assign rfl) rfl ?_
    refine PWl.nil ?_
    refine PWc.ret ?_
    replace h : _ = r0 := h
    subst h
    exact ⟨.inr rfl, 6, rfl, .inr ⟨12, _, rfl, (by simp), rfl⟩⟩
end Go.Proofs

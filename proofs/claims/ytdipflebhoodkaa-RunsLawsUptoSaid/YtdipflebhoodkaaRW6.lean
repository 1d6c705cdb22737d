/- Walks: written by program. -/
import Derived.Test.YtdipflebhoodkaaRFc
import Derived.Test.YtdipflebhoodkaaRSh
import Derived.Test.YtdipflebhoodkaaRSx
import Derived.Test.YtdipflebhoodkaaDr
import Derived.Test.YtdipflebhoodkaaRW5
namespace Go.Proofs
open Go.Ep
set_option maxHeartbeats 1000000
set_option maxRecDepth 100000
set_option linter.unusedVariables false
set_option linter.unusedSimpArgs false


theorem r06_Last_ok (l1 : List TRun) (r0 : Int) (h : (r06_Last l1).wp (· = r0)) : PFun Try.prog 73 [.d (.sl (List.map TRun.e l1))] (.d (.v (.int .u64 r0))) := by
  refine PFun.intro (sl := [(0, _)]) Try.func73 rfl Try.ntmps73 rfl rfl ?_
  intro ctx hK
  refine PWc.seq ?_
  refine PWc.region ?_
  refine PWl.step (LR.assign rfl) rfl ?_
  refine PWl.nil ?_
  refine PWc.seq ?_
  refine PWc.region ?_
  refine PWl.step (LR.move rfl) rfl ?_
  replace h := iDet h
  obtain ⟨v2, hy3, h⟩ := h
  refine PWl.step (LR.rowN (r06_Norm_ok l1 v2 hy3) rfl Try.call63 rfl rfl rfl rfl) rfl ?_
  refine PWl.step (LR.assign rfl) rfl ?_
  refine PWl.nil ?_
  refine PWc.seq ?_
  refine PWc.seq ?_
  refine PWc.region ?_
  refine PWl.step (LR.move rfl) rfl ?_
  refine PWl.step (LR.lenRow Try.underlying29 rfl) rfl ?_
  refine PWl.step (LR.eql rfl rfl) rfl ?_
  refine PWl.nil ?_
  refine PWc.cond rfl (fun hc4 => ?_) (fun hc4 => ?_)
  · replace h := iT hc4 h
    refine PWc.seq ?_
    refine PWc.region ?_
    refine PWl.step (LR.assign rfl) rfl ?_
    refine PWl.nil ?_
    refine PWc.ret ?_
    replace h : _ = r0 := h
    subst h
    exact ⟨.inr rfl, _, .cons (.tmp rfl rfl) <| .nil, rfl⟩
  · replace h := iF hc4 h
    refine PWc.skip ?_
    refine PWc.seq ?_
    refine PWc.region ?_
    refine PWl.step (LR.move rfl) rfl ?_
    refine PWl.step (LR.move rfl) rfl ?_
    refine PWl.step (LR.lenRow Try.underlying29 rfl) rfl ?_
    refine PWl.step (LR.subW rfl rfl) rfl ?_
    replace h := iIdx h
    obtain ⟨x5, hy6, h⟩ := h
    refine PWl.step (LR.idxRowT (L := v2) (y := x5) Try.underlying29 Try.sizeOf40 rfl rfl rfl hy6) rfl ?_
    refine PWl.step (LR.fieldRp Try.underlying40 rfl Try.sizeOf34 (by decide) rfl rfl) rfl ?_
    refine PWl.step (LR.loadRpF (enc := TRun.e) (L := v2) (y := x5) Try.isAgg34 rfl rfl hy6.2 rfl) rfl ?_
    refine PWl.step (LR.assign rfl) rfl ?_
    refine PWl.nil ?_
    refine PWc.ret ?_
    replace h : _ = r0 := h
    subst h
    exact ⟨.inr rfl, _, .cons (.tmp rfl rfl) <| .nil, rfl⟩

theorem r06_Of_ok (nums1 : List Int) (r0 : List TRun) (h : (r06_Of nums1).wp (· = r0)) : PFun Try.prog 75 [.d (.sl (List.map (eK .u64) nums1))] (.d (.sl (List.map TRun.e r0))) := by
  refine PFun.intro (sl := [(0, _)]) Try.func75 rfl Try.ntmps75 rfl rfl ?_
  intro ctx hK
  refine PWc.seq ?_
  refine PWc.region ?_
  refine PWl.step (LR.assignNilRow 40 2 rfl) rfl ?_
  refine PWl.nil ?_
  refine PWc.seq ?_
  refine PWc.region ?_
  refine PWl.step (LR.assignNilRow 40 2 rfl) rfl ?_
  refine PWl.nil ?_
  refine PWc.seq ?_
  refine PWc.seq ?_
  refine PWc.region ?_
  refine PWl.step (LR.assign rfl) rfl ?_
  refine PWl.nil ?_
  refine PWc.jn (iBind h) (fun (out2 : List TRun) (_ : Unit) => ⟨24, [(3, .d (.sl (List.map TRun.e out2)))], []⟩) (fun h => ?_) ?_
  · refine PWc.block ?_
    refine PWc.loopM (fun (⟨out19, i20⟩ : List TRun × Int) (_ : Unit) => ⟨24, [(0, .d (.sl (List.map (eK .u64) nums1))), (3, .d (.sl (List.map TRun.e out19))), (4, .d (.v (.int .i64 i20)))], []⟩) () h (Sub.trans (Sub.frz [3] hK rfl (by first | (simp; done) | (simp; omega) | omega) (AllRow.get (.cons rfl <| .nil))) <| Sub.of rfl (.cons rfl rfl <| .cons rfl rfl <| .cons rfl rfl <| .nil) (.nil)) ?_
    rintro N ⟨out19, i20⟩ _ h
    refine PWc.seq ?_
    refine PWc.seq ?_
    refine PWc.region ?_
    refine PWl.step (LR.move rfl) rfl ?_
    refine PWl.step (LR.move rfl) rfl ?_
    refine PWl.step (LR.lenMap (enc := (eK .u64)) (L := nums1) Try.underlying76 rfl) rfl ?_
    refine PWl.step (LR.lss rfl rfl) rfl ?_
    refine PWl.nil ?_
    refine PWc.cond rfl (fun hc21 => ?_) (fun hc21 => ?_)
    · replace h := iT hc21 h
      refine PWc.skip ?_
      refine PWc.seq ?_
      refine PWc.block ?_
      refine PWc.re (tl := [(0, _), (3, _), (4, _)]) (to := []) rfl (.cons rfl rfl <| .cons rfl rfl <| .cons rfl rfl <| .nil) (.nil) ?_
      refine PWc.regionE [⟨[11], [], [], [], [], [], []⟩, ⟨[12], [], [], [], [], [], []⟩, ⟨[13], [], [], [], [], [], []⟩, ⟨[14], [], [], [], [], [], []⟩, ⟨[15], [], [], [], [], [], []⟩, ⟨[16], [], [], [], [], [], []⟩, ⟨[17], [], [], [], [], [], []⟩, ⟨[18], [], [], [], [], [], []⟩, ⟨[19], [], [], [], [], [], []⟩, ⟨[20], [], [], [], [], [], []⟩, ⟨[21], [], [], [], [], [], []⟩, ⟨[22], [], [], [], [], [], []⟩, ⟨[3], [], [], [], [], [], []⟩] (by kernel_rfl) (by kernel_rfl) rfl ?_
      refine PQe.stepP (fun _ he ho => LR.move (he rfl rfl)) (.inl rfl) rfl ?_
      refine PQe.stepP (fun _ he ho => LR.move (he rfl rfl)) (.inl rfl) rfl ?_
      refine PQe.stepP (fun _ he ho => LR.move (he rfl rfl)) (.inl rfl) rfl ?_
      replace h := iIdx h
      obtain ⟨x22, hy23, h⟩ := h
      refine PQe.stepP (fun _ he ho => LR.idxT (enc := (eK .u64)) (L := nums1) (y := x22) Try.underlying76 Try.sizeOf34 (he rfl rfl) (he rfl rfl) hy23 (fun _ => rfl)) (.inl rfl) rfl ?_
      refine PQe.stepP (fun _ he ho => LR.loadEp Try.isAgg34 (he rfl rfl) rfl) (.inl rfl) rfl ?_
      refine PQe.stepP (fun _ he ho => LR.move (he rfl rfl)) (.inl rfl) rfl ?_
      refine PQe.stepP (fun _ he ho => LR.move (he rfl rfl)) (.inl rfl) rfl ?_
      replace h := iIdx h
      obtain ⟨x24, hy25, h⟩ := h
      refine PQe.stepP (fun _ he ho => LR.idxT (enc := (eK .u64)) (L := nums1) (y := x24) Try.underlying76 Try.sizeOf34 (he rfl rfl) (he rfl rfl) hy25 (fun _ => rfl)) (.inl rfl) rfl ?_
      refine PQe.stepP (fun _ he ho => LR.loadEp Try.isAgg34 (he rfl rfl) rfl) (.inl rfl) rfl ?_
      refine PQe.stepP (fun _ he ho => LR.build (ns := [_, _]) build40 rfl (evpE he rfl rfl) rfl) (.inl rfl) rfl ?_
      refine PQe.stepP (fun _ he ho => LR.buildSliceD [.tmp 20] elem29 rfl rfl (.cons (he rfl rfl) rfl rfl <| .nil) (by decide) (by decide)) (.inl rfl) rfl ?_
      replace h := iDet h
      obtain ⟨v26, hy27, h⟩ := h
      refine PQe.stepP (fun _ he ho => LR.callN (PRow.fun (r06_Join_ok out19 ([(⟨x22, x24⟩ : TRun)]) v26 hy27)) (he rfl rfl) Try.call68 (evsE he rfl rfl) rfl rfl rfl) (.inl rfl) rfl ?_
      refine PQe.stepP (fun _ he ho => LR.assign (he rfl rfl)) (.inl rfl) rfl ?_
      refine PQe.nil ?_
      refine PWc.region ?_
      refine PWl.step (LR.move rfl) rfl ?_
      refine PWl.step (LR.addW rfl rfl) rfl ?_
      refine PWl.step (LR.assign rfl) rfl ?_
      refine PWl.nil ?_
      exact ⟨(v26, (IntKind.i64.wrap (i20 + 1))), (), h, Sub.of rfl (.cons rfl rfl <| .cons rfl rfl <| .cons rfl rfl <| .nil) (.nil)⟩
    · replace h := iF hc21 h
      refine PWc.exit ?_
      exact ⟨out19, (), h, Sub.of rfl (.cons rfl rfl <| .nil) (.nil)⟩
  · rintro out2 _ h
    refine PWc.seq ?_
    refine PWc.region ?_
    refine PWl.step (LR.move rfl) rfl ?_
    refine PWl.step (LR.assign rfl) rfl ?_
    refine PWl.nil ?_
    refine PWc.ret ?_
    replace h : _ = r0 := h
    subst h
    exact ⟨.inr rfl, _, .cons (.tmp rfl rfl) <| .nil, rfl⟩

theorem l06_RunsTells_ok (l1 : List TRun) (n2 : Int) (nums3 : List Int) (r0 : Bool) (h : (l06_RunsTells l1 n2 nums3).wp (· = r0)) : PFun Try.prog 12 [.d (.sl (List.map TRun.e l1)), .d (.v (.int .u64 n2)), .d (.sl (List.map (eK .u64) nums3))] (.d (.v (.bool r0))) := by
  refine PFun.intro (sl := [(0, _), (1, _), (2, _)]) Try.func12 rfl Try.ntmps12 rfl rfl ?_
  intro ctx hK
  refine PWc.seq ?_
  refine PWc.region ?_
  refine PWl.step (LR.assign rfl) rfl ?_
  refine PWl.nil ?_
  refine PWc.seq ?_
  refine PWc.seq ?_
  refine PWc.jn (iBind h) (fun (v4 : Bool) (_ : Unit) => ⟨82, [(0, .d (.sl (List.map TRun.e l1))), (1, .d (.v (.int .u64 n2))), (2, .d (.sl (List.map (eK .u64) nums3))), (15, .d (.v (.bool v4)))], []⟩) (fun h => ?_) ?_
  · refine PWc.region ?_
    refine PWl.step (LR.move rfl) rfl ?_
    replace h := iDet h
    obtain ⟨v5, hy6, h⟩ := h
    refine PWl.step (LR.callN (l06_few_ok l1 v5 hy6) rfl Try.call22 rfl rfl rfl rfl) rfl ?_
    refine PWl.step (LR.not rfl) rfl ?_
    refine PWl.step (LR.move rfl) rfl ?_
    refine PWl.split (d := 11) rfl (fun hg7 => ?_) (fun hg7 => ?_)
    · replace h := iT hg7 h
      refine PWl.guardF rfl rfl rfl (by decide) ?_
      refine PWl.guardF rfl rfl rfl (by decide) ?_
      refine PWl.guardF rfl rfl rfl (by decide) ?_
      refine PWl.step (LR.pickT rfl rfl) rfl ?_
      refine PWl.nil ?_
      exact ⟨true, (), h, Sub.of rfl (.cons rfl rfl <| .cons rfl rfl <| .cons rfl rfl <| .cons rfl rfl <| .nil) (.nil)⟩
    · replace h := iF hg7 h
      refine PWl.guardT (LR.move rfl) rfl rfl rfl ?_
      refine PWl.guardT (LR.lenMap (enc := (eK .u64)) (L := nums3) Try.underlying76 rfl) rfl rfl rfl ?_
      refine PWl.guardT (LR.gtr rfl rfl) rfl rfl rfl ?_
      refine PWl.step (LR.pickF rfl rfl) rfl ?_
      refine PWl.nil ?_
      exact ⟨(decide (60 < (List.length nums3 : Int))), (), h, Sub.of rfl (.cons rfl rfl <| .cons rfl rfl <| .cons rfl rfl <| .cons rfl rfl <| .nil) (.nil)⟩
  · rintro v4 _ h
    refine PWc.cond rfl (fun hc8 => ?_) (fun hc8 => ?_)
    · replace h := iT hc8 h
      refine PWc.seq ?_
      refine PWc.region ?_
      replace h := iDet h
      obtain ⟨v9, hy10, h⟩ := h
      refine PWl.step (LR.callN (l06_works_ok v9 hy10) rfl Try.call23 rfl rfl rfl rfl) rfl ?_
      refine PWl.step (LR.assign rfl) rfl ?_
      refine PWl.nil ?_
      refine PWc.ret ?_
      replace h : _ = r0 := h
      subst h
      exact ⟨.inr rfl, _, .cons (.tmp rfl rfl) <| .nil, rfl⟩
    · replace h := iF hc8 h
      refine PWc.skip ?_
      refine PWc.seq ?_
      refine PWc.region ?_
      refine PWl.step (LR.move rfl) rfl ?_
      refine PWl.step (LR.move rfl) rfl ?_
      refine PWl.step (LR.build (ns := [_, _]) build40 rfl rfl rfl) rfl ?_
      refine PWl.step (LR.buildSliceD [.tmp 19] elem29 rfl rfl (.cons rfl rfl rfl <| .nil) (by decide) (by decide)) rfl ?_
      refine PWl.step (LR.assign rfl) rfl ?_
      refine PWl.nil ?_
      refine PWc.seq ?_
      refine PWc.jn (iBind h) (fun (v11 : Bool) (_ : Unit) => ⟨82, [(6, .d (.v (.bool v11)))], []⟩) (fun h => ?_) ?_
      · refine PWc.region ?_
        refine PWl.step (LR.move rfl) rfl ?_
        replace h := iDet h
        obtain ⟨v12, hy13, h⟩ := h
        refine PWl.step (LR.rowN (runs_Norm_ok l1 v12 hy13) rfl Try.call62 rfl rfl rfl rfl) rfl ?_
        refine PWl.step (LR.move rfl) rfl ?_
        replace h := iDet h
        obtain ⟨v14, hy15, h⟩ := h
        refine PWl.step (LR.rowN (r06_Norm_ok l1 v14 hy15) rfl Try.call63 rfl rfl rfl rfl) rfl ?_
        replace h := iDet h
        obtain ⟨v16, hy17, h⟩ := h
        refine PWl.frz [22] hK (.cons rfl <| .nil) rfl (by simp) ?_
        refine PWl.frz [24] hK (.cons rfl <| .nil) rfl (by simp) ?_
        refine PWl.step (LR.callN (r06_Eq_ok v12 v14 v16 hy17) rfl Try.call27 rfl rfl rfl rfl) rfl ?_
        refine PWl.step (LR.move rfl) rfl ?_
        refine PWl.split (d := 26) rfl (fun hg18 => ?_) (fun hg18 => ?_)
        · replace h := iT hg18 h
          refine PWl.guardT (LR.move rfl) rfl rfl rfl ?_
          replace h := iDet h
          obtain ⟨v19, hy20, h⟩ := h
          refine PWl.guardT (LR.callN (runs_Good_ok l1 v19 hy20) rfl Try.call64 rfl rfl rfl rfl) rfl rfl rfl ?_
          refine PWl.guardT (LR.move rfl) rfl rfl rfl ?_
          replace h := iDet h
          obtain ⟨v21, hy22, h⟩ := h
          refine PWl.guardT (LR.callN (r06_Good_ok l1 v21 hy22) rfl Try.call65 rfl rfl rfl rfl) rfl rfl rfl ?_
          refine PWl.guardT (LR.eqlBool Try.underlying4 rfl rfl) rfl rfl rfl ?_
          refine PWl.re (tl := [(0, _), (1, _), (2, _), (7, _), (26, _), (31, _)]) (to := []) rfl (.cons rfl rfl <| .cons rfl rfl <| .cons rfl rfl <| .cons rfl rfl <| .cons rfl rfl <| .cons rfl rfl <| .nil) (.nil) ?_
          refine PWl.step (LR.pickT rfl rfl) rfl ?_
          refine PWl.step (LR.move rfl) rfl ?_
          refine PWl.split (d := 33) rfl (fun hg23 => ?_) (fun hg23 => ?_)
          · replace h := iT hg23 h
            refine PWl.guardT (LR.move rfl) rfl rfl rfl ?_
            refine PWl.guardT (LR.move rfl) rfl rfl rfl ?_
            replace h := iDet h
            obtain ⟨v24, hy25, h⟩ := h
            refine PWl.guardT (LR.callN (runs_Has_ok l1 n2 v24 hy25) rfl Try.call66 rfl rfl rfl rfl) rfl rfl rfl ?_
            refine PWl.guardT (LR.move rfl) rfl rfl rfl ?_
            refine PWl.guardT (LR.move rfl) rfl rfl rfl ?_
            replace h := iDet h
            obtain ⟨v26, hy27, h⟩ := h
            refine PWl.guardT (LR.callN (r06_Has_ok l1 n2 v26 hy27) rfl Try.call26 rfl rfl rfl rfl) rfl rfl rfl ?_
            refine PWl.guardT (LR.eqlBool Try.underlying4 rfl rfl) rfl rfl rfl ?_
            refine PWl.step (LR.pickT rfl rfl) rfl ?_
            refine PWl.step (LR.move rfl) rfl ?_
            refine PWl.split (d := 42) rfl (fun hg28 => ?_) (fun hg28 => ?_)
            · replace h := iT hg28 h
              refine PWl.guardT (LR.move rfl) rfl rfl rfl ?_
              refine PWl.guardT (LR.move rfl) rfl rfl rfl ?_
              refine PWl.re (tl := [(0, _), (2, _), (7, _), (42, _), (43, _), (44, _)]) (to := []) rfl (.cons rfl rfl <| .cons rfl rfl <| .cons rfl rfl <| .cons rfl rfl <| .cons rfl rfl <| .cons rfl rfl <| .nil) (.nil) ?_
              replace h := iDet h
              obtain ⟨v29, hy30, h⟩ := h
              refine PWl.guardT (LR.rowN (runs_Add_ok l1 n2 v29 hy30) rfl Try.call67 rfl rfl rfl rfl) rfl rfl rfl ?_
              refine PWl.guardT (LR.move rfl) rfl rfl rfl ?_
              refine PWl.guardT (LR.move rfl) rfl rfl rfl ?_
              replace h := iDet h
              obtain ⟨v31, hy32, h⟩ := h
              refine PWl.guardT (LR.rowN (r06_Join_ok l1 ([(⟨n2, n2⟩ : TRun)]) v31 hy32) rfl Try.call68 rfl rfl rfl rfl) rfl rfl rfl ?_
              replace h := iDet h
              obtain ⟨v33, hy34, h⟩ := h
              refine PWl.frz [45] hK (.cons rfl <| .nil) rfl (by simp) ?_
              refine PWl.frz [48] hK (.cons rfl <| .nil) rfl (by simp) ?_
              refine PWl.guardT (LR.callN (r06_Eq_ok v29 v31 v33 hy34) rfl Try.call27 rfl rfl rfl rfl) rfl rfl rfl ?_
              refine PWl.step (LR.pickT rfl rfl) rfl ?_
              refine PWl.step (LR.move rfl) rfl ?_
              refine PWl.split (d := 51) rfl (fun hg35 => ?_) (fun hg35 => ?_)
              · replace h := iT hg35 h
                refine PWl.guardT (LR.move rfl) rfl rfl rfl ?_
                replace h := iDet h
                obtain ⟨v36, hy37, h⟩ := h
                refine PWl.guardT (LR.callN (runs_Size_ok l1 v36 hy37) rfl Try.call69 rfl rfl rfl rfl) rfl rfl rfl ?_
                refine PWl.guardT (LR.move rfl) rfl rfl rfl ?_
                replace h := iDet h
                obtain ⟨v38, hy39, h⟩ := h
                refine PWl.guardT (LR.callN (r06_Size_ok l1 v38 hy39) rfl Try.call25 rfl rfl rfl rfl) rfl rfl rfl ?_
                refine PWl.guardT (LR.eql rfl rfl) rfl rfl rfl ?_
                refine PWl.step (LR.pickT rfl rfl) rfl ?_
                refine PWl.step (LR.move rfl) rfl ?_
                refine PWl.re (tl := [(0, _), (2, _), (58, _)]) (to := []) rfl (.cons rfl rfl <| .cons rfl rfl <| .cons rfl rfl <| .nil) (.nil) ?_
                refine PWl.split (d := 58) rfl (fun hg40 => ?_) (fun hg40 => ?_)
                · replace h := iT hg40 h
                  refine PWl.guardT (LR.move rfl) rfl rfl rfl ?_
                  replace h := iDet h
                  obtain ⟨v41, hy42, h⟩ := h
                  refine PWl.guardT (LR.callN (runs_First_ok l1 v41 hy42) rfl Try.call70 rfl rfl rfl rfl) rfl rfl rfl ?_
                  refine PWl.guardT (LR.move rfl) rfl rfl rfl ?_
                  replace h := iDet h
                  obtain ⟨v43, hy44, h⟩ := h
                  refine PWl.guardT (LR.callN (r06_First_ok l1 v43 hy44) rfl Try.call71 rfl rfl rfl rfl) rfl rfl rfl ?_
                  refine PWl.guardT (LR.eql rfl rfl) rfl rfl rfl ?_
                  refine PWl.step (LR.pickT rfl rfl) rfl ?_
                  refine PWl.step (LR.move rfl) rfl ?_
                  refine PWl.split (d := 65) rfl (fun hg45 => ?_) (fun hg45 => ?_)
                  · replace h := iT hg45 h
                    refine PWl.guardT (LR.move rfl) rfl rfl rfl ?_
                    replace h := iDet h
                    obtain ⟨v46, hy47, h⟩ := h
                    refine PWl.guardT (LR.callN (runs_Last_ok l1 v46 hy47) rfl Try.call72 rfl rfl rfl rfl) rfl rfl rfl ?_
                    refine PWl.guardT (LR.move rfl) rfl rfl rfl ?_
                    replace h := iDet h
                    obtain ⟨v48, hy49, h⟩ := h
                    refine PWl.guardT (LR.callN (r06_Last_ok l1 v48 hy49) rfl Try.call73 rfl rfl rfl rfl) rfl rfl rfl ?_
                    refine PWl.guardT (LR.eql rfl rfl) rfl rfl rfl ?_
                    refine PWl.step (LR.pickT rfl rfl) rfl ?_
                    refine PWl.step (LR.move rfl) rfl ?_
                    refine PWl.split (d := 72) rfl (fun hg50 => ?_) (fun hg50 => ?_)
                    · replace h := iT hg50 h
                      refine PWl.guardT (LR.move rfl) rfl rfl rfl ?_
                      refine PWl.re (tl := [(2, _), (72, _), (73, _)]) (to := []) rfl (.cons rfl rfl <| .cons rfl rfl <| .cons rfl rfl <| .nil) (.nil) ?_
                      replace h := iDet h
                      obtain ⟨v51, hy52, h⟩ := h
                      refine PWl.guardT (LR.rowN (runs_Of_ok nums3 v51 hy52) rfl Try.call74 rfl rfl rfl rfl) rfl rfl rfl ?_
                      refine PWl.guardT (LR.move rfl) rfl rfl rfl ?_
                      replace h := iDet h
                      obtain ⟨v53, hy54, h⟩ := h
                      refine PWl.guardT (LR.callN (r06_Of_ok nums3 v53 hy54) rfl Try.call75 rfl rfl rfl rfl) rfl rfl rfl ?_
                      replace h := iDet h
                      obtain ⟨v55, hy56, h⟩ := h
                      refine PWl.frz [74] hK (.cons rfl <| .nil) rfl (by simp) ?_
                      refine PWl.guardT (LR.callN (r06_Eq_ok v51 v53 v55 hy56) rfl Try.call27 rfl rfl rfl rfl) rfl rfl rfl ?_
                      refine PWl.step (LR.pickT rfl rfl) rfl ?_
                      refine PWl.step (LR.move rfl) rfl ?_
                      refine PWl.split (d := 79) rfl (fun hg57 => ?_) (fun hg57 => ?_)
                      · replace h := iT hg57 h
                        replace h := iDet h
                        obtain ⟨v58, hy59, h⟩ := h
                        refine PWl.guardT (LR.callN (l06_works_ok v58 hy59) rfl Try.call23 rfl rfl rfl rfl) rfl rfl rfl ?_
                        refine PWl.step (LR.pickT rfl rfl) rfl ?_
                        refine PWl.step (LR.assign rfl) rfl ?_
                        refine PWl.nil ?_
                        exact ⟨v58, (), h, Sub.of rfl (.cons rfl rfl <| .nil) (.nil)⟩
                      · replace h := iF hg57 h
                        refine PWl.guardF rfl rfl rfl (by decide) ?_
                        refine PWl.step (LR.pickF rfl rfl) rfl ?_
                        refine PWl.step (LR.assign rfl) rfl ?_
                        refine PWl.nil ?_
                        exact ⟨false, (), h, Sub.of rfl (.cons rfl rfl <| .nil) (.nil)⟩
                    · replace h := iF hg50 h
                      refine PWl.guardF rfl rfl rfl (by decide) ?_
                      refine PWl.re (tl := [(2, _), (72, _), (73, _)]) (to := []) rfl (.cons rfl rfl <| .cons rfl rfl <| .cons rfl rfl <| .nil) (.nil) ?_
                      refine PWl.guardF rfl rfl rfl (by decide) ?_
                      refine PWl.guardF rfl rfl rfl (by decide) ?_
                      refine PWl.guardF rfl rfl rfl (by decide) ?_
                      refine PWl.guardF rfl rfl rfl (by decide) ?_
                      refine PWl.step (LR.pickF rfl rfl) rfl ?_
                      refine PWl.step (LR.move rfl) rfl ?_
                      refine PWl.guardF rfl rfl rfl (by decide) ?_
                      refine PWl.step (LR.pickF rfl rfl) rfl ?_
                      refine PWl.step (LR.assign rfl) rfl ?_
                      refine PWl.nil ?_
                      exact ⟨false, (), h, Sub.of rfl (.cons rfl rfl <| .nil) (.nil)⟩
                  · replace h := iF hg45 h
                    refine PWl.guardF rfl rfl rfl (by decide) ?_
                    refine PWl.guardF rfl rfl rfl (by decide) ?_
                    refine PWl.guardF rfl rfl rfl (by decide) ?_
                    refine PWl.guardF rfl rfl rfl (by decide) ?_
                    refine PWl.guardF rfl rfl rfl (by decide) ?_
                    refine PWl.step (LR.pickF rfl rfl) rfl ?_
                    refine PWl.step (LR.move rfl) rfl ?_
                    refine PWl.guardF rfl rfl rfl (by decide) ?_
                    refine PWl.guardF rfl rfl rfl (by decide) ?_
                    refine PWl.re (tl := [(2, _), (72, _), (74, _)]) (to := []) rfl (.cons rfl rfl <| .cons rfl rfl <| .cons rfl rfl <| .nil) (.nil) ?_
                    refine PWl.guardF rfl rfl rfl (by decide) ?_
                    refine PWl.guardF rfl rfl rfl (by decide) ?_
                    refine PWl.guardF rfl rfl rfl (by decide) ?_
                    refine PWl.step (LR.pickF rfl rfl) rfl ?_
                    refine PWl.step (LR.move rfl) rfl ?_
                    refine PWl.guardF rfl rfl rfl (by decide) ?_
                    refine PWl.step (LR.pickF rfl rfl) rfl ?_
                    refine PWl.step (LR.assign rfl) rfl ?_
                    refine PWl.nil ?_
                    exact ⟨false, (), h, Sub.of rfl (.cons rfl rfl <| .nil) (.nil)⟩
                · replace h := iF hg40 h
                  refine PWl.guardF rfl rfl rfl (by decide) ?_
                  refine PWl.guardF rfl rfl rfl (by decide) ?_
                  refine PWl.guardF rfl rfl rfl (by decide) ?_
                  refine PWl.guardF rfl rfl rfl (by decide) ?_
                  refine PWl.guardF rfl rfl rfl (by decide) ?_
                  refine PWl.step (LR.pickF rfl rfl) rfl ?_
                  refine PWl.step (LR.move rfl) rfl ?_
                  refine PWl.guardF rfl rfl rfl (by decide) ?_
                  refine PWl.guardF rfl rfl rfl (by decide) ?_
                  refine PWl.guardF rfl rfl rfl (by decide) ?_
                  refine PWl.guardF rfl rfl rfl (by decide) ?_
                  refine PWl.guardF rfl rfl rfl (by decide) ?_
                  refine PWl.step (LR.pickF rfl rfl) rfl ?_
                  refine PWl.step (LR.move rfl) rfl ?_
                  refine PWl.guardF rfl rfl rfl (by decide) ?_
                  refine PWl.guardF rfl rfl rfl (by decide) ?_
                  refine PWl.guardF rfl rfl rfl (by decide) ?_
                  refine PWl.re (tl := [(72, _), (74, _), (75, _)]) (to := []) rfl (.cons rfl rfl <| .cons rfl rfl <| .cons rfl rfl <| .nil) (.nil) ?_
                  refine PWl.guardF rfl rfl rfl (by decide) ?_
                  refine PWl.guardF rfl rfl rfl (by decide) ?_
                  refine PWl.step (LR.pickF rfl rfl) rfl ?_
                  refine PWl.step (LR.move rfl) rfl ?_
                  refine PWl.guardF rfl rfl rfl (by decide) ?_
                  refine PWl.step (LR.pickF rfl rfl) rfl ?_
                  refine PWl.step (LR.assign rfl) rfl ?_
                  refine PWl.nil ?_
                  exact ⟨false, (), h, Sub.of rfl (.cons rfl rfl <| .nil) (.nil)⟩
              · replace h := iF hg35 h
                refine PWl.guardF rfl rfl rfl (by decide) ?_
                refine PWl.guardF rfl rfl rfl (by decide) ?_
                refine PWl.guardF rfl rfl rfl (by decide) ?_
                refine PWl.guardF rfl rfl rfl (by decide) ?_
                refine PWl.guardF rfl rfl rfl (by decide) ?_
                refine PWl.step (LR.pickF rfl rfl) rfl ?_
                refine PWl.step (LR.move rfl) rfl ?_
                refine PWl.re (tl := [(0, _), (2, _), (58, _)]) (to := []) rfl (.cons rfl rfl <| .cons rfl rfl <| .cons rfl rfl <| .nil) (.nil) ?_
                refine PWl.guardF rfl rfl rfl (by decide) ?_
                refine PWl.guardF rfl rfl rfl (by decide) ?_
                refine PWl.guardF rfl rfl rfl (by decide) ?_
                refine PWl.guardF rfl rfl rfl (by decide) ?_
                refine PWl.guardF rfl rfl rfl (by decide) ?_
                refine PWl.step (LR.pickF rfl rfl) rfl ?_
                refine PWl.step (LR.move rfl) rfl ?_
                refine PWl.guardF rfl rfl rfl (by decide) ?_
                refine PWl.guardF rfl rfl rfl (by decide) ?_
                refine PWl.guardF rfl rfl rfl (by decide) ?_
                refine PWl.guardF rfl rfl rfl (by decide) ?_
                refine PWl.guardF rfl rfl rfl (by decide) ?_
                refine PWl.step (LR.pickF rfl rfl) rfl ?_
                refine PWl.step (LR.move rfl) rfl ?_
                refine PWl.guardF rfl rfl rfl (by decide) ?_
                refine PWl.guardF rfl rfl rfl (by decide) ?_
                refine PWl.guardF rfl rfl rfl (by decide) ?_
                refine PWl.guardF rfl rfl rfl (by decide) ?_
                refine PWl.re (tl := [(72, _), (74, _), (76, _)]) (to := []) rfl (.cons rfl rfl <| .cons rfl rfl <| .cons rfl rfl <| .nil) (.nil) ?_
                refine PWl.guardF rfl rfl rfl (by decide) ?_
                refine PWl.step (LR.pickF rfl rfl) rfl ?_
                refine PWl.step (LR.move rfl) rfl ?_
                refine PWl.guardF rfl rfl rfl (by decide) ?_
                refine PWl.step (LR.pickF rfl rfl) rfl ?_
                refine PWl.step (LR.assign rfl) rfl ?_
                refine PWl.nil ?_
                exact ⟨false, (), h, Sub.of rfl (.cons rfl rfl <| .nil) (.nil)⟩
            · replace h := iF hg28 h
              refine PWl.guardF rfl rfl rfl (by decide) ?_
              refine PWl.guardF rfl rfl rfl (by decide) ?_
              refine PWl.re (tl := [(0, _), (2, _), (7, _), (42, _), (43, _), (44, _)]) (to := []) rfl (.cons rfl rfl <| .cons rfl rfl <| .cons rfl rfl <| .cons rfl rfl <| .cons rfl rfl <| .cons rfl rfl <| .nil) (.nil) ?_
              refine PWl.guardF rfl rfl rfl (by decide) ?_
              refine PWl.guardF rfl rfl rfl (by decide) ?_
              refine PWl.guardF rfl rfl rfl (by decide) ?_
              refine PWl.guardF rfl rfl rfl (by decide) ?_
              refine PWl.guardF rfl rfl rfl (by decide) ?_
              refine PWl.step (LR.pickF rfl rfl) rfl ?_
              refine PWl.step (LR.move rfl) rfl ?_
              refine PWl.guardF rfl rfl rfl (by decide) ?_
              refine PWl.guardF rfl rfl rfl (by decide) ?_
              refine PWl.guardF rfl rfl rfl (by decide) ?_
              refine PWl.guardF rfl rfl rfl (by decide) ?_
              refine PWl.guardF rfl rfl rfl (by decide) ?_
              refine PWl.step (LR.pickF rfl rfl) rfl ?_
              refine PWl.step (LR.move rfl) rfl ?_
              refine PWl.guardF rfl rfl rfl (by decide) ?_
              refine PWl.re (tl := [(0, _), (2, _), (58, _), (59, _)]) (to := []) rfl (.cons rfl rfl <| .cons rfl rfl <| .cons rfl rfl <| .cons rfl rfl <| .nil) (.nil) ?_
              refine PWl.guardF rfl rfl rfl (by decide) ?_
              refine PWl.guardF rfl rfl rfl (by decide) ?_
              refine PWl.guardF rfl rfl rfl (by decide) ?_
              refine PWl.guardF rfl rfl rfl (by decide) ?_
              refine PWl.step (LR.pickF rfl rfl) rfl ?_
              refine PWl.step (LR.move rfl) rfl ?_
              refine PWl.guardF rfl rfl rfl (by decide) ?_
              refine PWl.guardF rfl rfl rfl (by decide) ?_
              refine PWl.guardF rfl rfl rfl (by decide) ?_
              refine PWl.guardF rfl rfl rfl (by decide) ?_
              refine PWl.guardF rfl rfl rfl (by decide) ?_
              refine PWl.step (LR.pickF rfl rfl) rfl ?_
              refine PWl.step (LR.move rfl) rfl ?_
              refine PWl.guardF rfl rfl rfl (by decide) ?_
              refine PWl.guardF rfl rfl rfl (by decide) ?_
              refine PWl.guardF rfl rfl rfl (by decide) ?_
              refine PWl.guardF rfl rfl rfl (by decide) ?_
              refine PWl.re (tl := [(72, _), (74, _), (76, _)]) (to := []) rfl (.cons rfl rfl <| .cons rfl rfl <| .cons rfl rfl <| .nil) (.nil) ?_
              refine PWl.guardF rfl rfl rfl (by decide) ?_
              refine PWl.step (LR.pickF rfl rfl) rfl ?_
              refine PWl.step (LR.move rfl) rfl ?_
              refine PWl.guardF rfl rfl rfl (by decide) ?_
              refine PWl.step (LR.pickF rfl rfl) rfl ?_
              refine PWl.step (LR.assign rfl) rfl ?_
              refine PWl.nil ?_
              exact ⟨false, (), h, Sub.of rfl (.cons rfl rfl <| .nil) (.nil)⟩
          · replace h := iF hg23 h
            refine PWl.guardF rfl rfl rfl (by decide) ?_
            refine PWl.guardF rfl rfl rfl (by decide) ?_
            refine PWl.guardF rfl rfl rfl (by decide) ?_
            refine PWl.guardF rfl rfl rfl (by decide) ?_
            refine PWl.guardF rfl rfl rfl (by decide) ?_
            refine PWl.guardF rfl rfl rfl (by decide) ?_
            refine PWl.guardF rfl rfl rfl (by decide) ?_
            refine PWl.step (LR.pickF rfl rfl) rfl ?_
            refine PWl.step (LR.move rfl) rfl ?_
            refine PWl.guardF rfl rfl rfl (by decide) ?_
            refine PWl.guardF rfl rfl rfl (by decide) ?_
            refine PWl.guardF rfl rfl rfl (by decide) ?_
            refine PWl.re (tl := [(0, _), (2, _), (7, _), (42, _), (45, _)]) (to := []) rfl (.cons rfl rfl <| .cons rfl rfl <| .cons rfl rfl <| .cons rfl rfl <| .cons rfl rfl <| .nil) (.nil) ?_
            refine PWl.guardF rfl rfl rfl (by decide) ?_
            refine PWl.guardF rfl rfl rfl (by decide) ?_
            refine PWl.guardF rfl rfl rfl (by decide) ?_
            refine PWl.guardF rfl rfl rfl (by decide) ?_
            refine PWl.step (LR.pickF rfl rfl) rfl ?_
            refine PWl.step (LR.move rfl) rfl ?_
            refine PWl.guardF rfl rfl rfl (by decide) ?_
            refine PWl.guardF rfl rfl rfl (by decide) ?_
            refine PWl.guardF rfl rfl rfl (by decide) ?_
            refine PWl.guardF rfl rfl rfl (by decide) ?_
            refine PWl.guardF rfl rfl rfl (by decide) ?_
            refine PWl.step (LR.pickF rfl rfl) rfl ?_
            refine PWl.step (LR.move rfl) rfl ?_
            refine PWl.guardF rfl rfl rfl (by decide) ?_
            refine PWl.guardF rfl rfl rfl (by decide) ?_
            refine PWl.guardF rfl rfl rfl (by decide) ?_
            refine PWl.re (tl := [(0, _), (2, _), (58, _), (60, _), (61, _)]) (to := []) rfl (.cons rfl rfl <| .cons rfl rfl <| .cons rfl rfl <| .cons rfl rfl <| .cons rfl rfl <| .nil) (.nil) ?_
            refine PWl.guardF rfl rfl rfl (by decide) ?_
            refine PWl.guardF rfl rfl rfl (by decide) ?_
            refine PWl.step (LR.pickF rfl rfl) rfl ?_
            refine PWl.step (LR.move rfl) rfl ?_
            refine PWl.guardF rfl rfl rfl (by decide) ?_
            refine PWl.guardF rfl rfl rfl (by decide) ?_
            refine PWl.guardF rfl rfl rfl (by decide) ?_
            refine PWl.guardF rfl rfl rfl (by decide) ?_
            refine PWl.guardF rfl rfl rfl (by decide) ?_
            refine PWl.step (LR.pickF rfl rfl) rfl ?_
            refine PWl.step (LR.move rfl) rfl ?_
            refine PWl.guardF rfl rfl rfl (by decide) ?_
            refine PWl.guardF rfl rfl rfl (by decide) ?_
            refine PWl.guardF rfl rfl rfl (by decide) ?_
            refine PWl.guardF rfl rfl rfl (by decide) ?_
            refine PWl.guardF rfl rfl rfl (by decide) ?_
            refine PWl.re (tl := [(72, _), (77, _)]) (to := []) rfl (.cons rfl rfl <| .cons rfl rfl <| .nil) (.nil) ?_
            refine PWl.step (LR.pickF rfl rfl) rfl ?_
            refine PWl.step (LR.move rfl) rfl ?_
            refine PWl.guardF rfl rfl rfl (by decide) ?_
            refine PWl.step (LR.pickF rfl rfl) rfl ?_
            refine PWl.step (LR.assign rfl) rfl ?_
            refine PWl.nil ?_
            exact ⟨false, (), h, Sub.of rfl (.cons rfl rfl <| .nil) (.nil)⟩
        · replace h := iF hg18 h
          refine PWl.guardF rfl rfl rfl (by decide) ?_
          refine PWl.guardF rfl rfl rfl (by decide) ?_
          refine PWl.guardF rfl rfl rfl (by decide) ?_
          refine PWl.guardF rfl rfl rfl (by decide) ?_
          refine PWl.guardF rfl rfl rfl (by decide) ?_
          refine PWl.re (tl := [(0, _), (1, _), (2, _), (7, _), (26, _), (31, _)]) (to := []) rfl (.cons rfl rfl <| .cons rfl rfl <| .cons rfl rfl <| .cons rfl rfl <| .cons rfl rfl <| .cons rfl rfl <| .nil) (.nil) ?_
          refine PWl.step (LR.pickF rfl rfl) rfl ?_
          refine PWl.step (LR.move rfl) rfl ?_
          refine PWl.guardF rfl rfl rfl (by decide) ?_
          refine PWl.guardF rfl rfl rfl (by decide) ?_
          refine PWl.guardF rfl rfl rfl (by decide) ?_
          refine PWl.guardF rfl rfl rfl (by decide) ?_
          refine PWl.guardF rfl rfl rfl (by decide) ?_
          refine PWl.guardF rfl rfl rfl (by decide) ?_
          refine PWl.guardF rfl rfl rfl (by decide) ?_
          refine PWl.step (LR.pickF rfl rfl) rfl ?_
          refine PWl.step (LR.move rfl) rfl ?_
          refine PWl.guardF rfl rfl rfl (by decide) ?_
          refine PWl.guardF rfl rfl rfl (by decide) ?_
          refine PWl.guardF rfl rfl rfl (by decide) ?_
          refine PWl.guardF rfl rfl rfl (by decide) ?_
          refine PWl.re (tl := [(0, _), (2, _), (7, _), (42, _), (45, _), (46, _)]) (to := []) rfl (.cons rfl rfl <| .cons rfl rfl <| .cons rfl rfl <| .cons rfl rfl <| .cons rfl rfl <| .cons rfl rfl <| .nil) (.nil) ?_
          refine PWl.guardF rfl rfl rfl (by decide) ?_
          refine PWl.guardF rfl rfl rfl (by decide) ?_
          refine PWl.guardF rfl rfl rfl (by decide) ?_
          refine PWl.step (LR.pickF rfl rfl) rfl ?_
          refine PWl.step (LR.move rfl) rfl ?_
          refine PWl.guardF rfl rfl rfl (by decide) ?_
          refine PWl.guardF rfl rfl rfl (by decide) ?_
          refine PWl.guardF rfl rfl rfl (by decide) ?_
          refine PWl.guardF rfl rfl rfl (by decide) ?_
          refine PWl.guardF rfl rfl rfl (by decide) ?_
          refine PWl.step (LR.pickF rfl rfl) rfl ?_
          refine PWl.step (LR.move rfl) rfl ?_
          refine PWl.guardF rfl rfl rfl (by decide) ?_
          refine PWl.guardF rfl rfl rfl (by decide) ?_
          refine PWl.guardF rfl rfl rfl (by decide) ?_
          refine PWl.re (tl := [(0, _), (2, _), (58, _), (60, _), (61, _)]) (to := []) rfl (.cons rfl rfl <| .cons rfl rfl <| .cons rfl rfl <| .cons rfl rfl <| .cons rfl rfl <| .nil) (.nil) ?_
          refine PWl.guardF rfl rfl rfl (by decide) ?_
          refine PWl.guardF rfl rfl rfl (by decide) ?_
          refine PWl.step (LR.pickF rfl rfl) rfl ?_
          refine PWl.step (LR.move rfl) rfl ?_
          refine PWl.guardF rfl rfl rfl (by decide) ?_
          refine PWl.guardF rfl rfl rfl (by decide) ?_
          refine PWl.guardF rfl rfl rfl (by decide) ?_
          refine PWl.guardF rfl rfl rfl (by decide) ?_
          refine PWl.guardF rfl rfl rfl (by decide) ?_
          refine PWl.step (LR.pickF rfl rfl) rfl ?_
          refine PWl.step (LR.move rfl) rfl ?_
          refine PWl.guardF rfl rfl rfl (by decide) ?_
          refine PWl.guardF rfl rfl rfl (by decide) ?_
          refine PWl.guardF rfl rfl rfl (by decide) ?_
          refine PWl.guardF rfl rfl rfl (by decide) ?_
          refine PWl.guardF rfl rfl rfl (by decide) ?_
          refine PWl.re (tl := [(72, _), (77, _)]) (to := []) rfl (.cons rfl rfl <| .cons rfl rfl <| .nil) (.nil) ?_
          refine PWl.step (LR.pickF rfl rfl) rfl ?_
          refine PWl.step (LR.move rfl) rfl ?_
          refine PWl.guardF rfl rfl rfl (by decide) ?_
          refine PWl.step (LR.pickF rfl rfl) rfl ?_
          refine PWl.step (LR.assign rfl) rfl ?_
          refine PWl.nil ?_
          exact ⟨false, (), h, Sub.of rfl (.cons rfl rfl <| .nil) (.nil)⟩
      · rintro v11 _ h
        refine PWc.ret ?_
        replace h : _ = r0 := h
        subst h
        exact ⟨.inr rfl, _, .cons (.tmp rfl rfl) <| .nil, rfl⟩

theorem l06_RunsOrder_ok (nums1 : List Int) (from2 : Int) (r0 : Bool) (h : (l06_RunsOrder nums1 from2).wp (· = r0)) : PFun Try.prog 13 [.d (.sl (List.map (eK .u64) nums1)), .d (.v (.int .u8 from2))] (.d (.v (.bool r0))) := by
  refine PFun.intro (sl := [(0, _), (1, _)]) Try.func13 rfl Try.ntmps13 rfl rfl ?_
  intro ctx hK
  refine PWc.seq ?_
  refine PWc.region ?_
  refine PWl.step (LR.assign rfl) rfl ?_
  refine PWl.nil ?_
  refine PWc.seq ?_
  refine PWc.seq ?_
  refine PWc.region ?_
  refine PWl.step (LR.move rfl) rfl ?_
  refine PWl.step (LR.lenMap (enc := (eK .u64)) (L := nums1) Try.underlying76 rfl) rfl ?_
  refine PWl.step (LR.gtr rfl rfl) rfl ?_
  refine PWl.nil ?_
  refine PWc.cond rfl (fun hc3 => ?_) (fun hc3 => ?_)
  · replace h := iT hc3 h
    refine PWc.seq ?_
    refine PWc.region ?_
    replace h := iDet h
    obtain ⟨v4, hy5, h⟩ := h
    refine PWl.step (LR.callN (l06_works_ok v4 hy5) rfl Try.call23 rfl rfl rfl rfl) rfl ?_
    refine PWl.step (LR.assign rfl) rfl ?_
    refine PWl.nil ?_
    refine PWc.ret ?_
    replace h : _ = r0 := h
    subst h
    exact ⟨.inr rfl, _, .cons (.tmp rfl rfl) <| .nil, rfl⟩
  · replace h := iF hc3 h
    refine PWc.skip ?_
    refine PWc.seq ?_
    refine PWc.region ?_
    refine PWl.step (LR.assignNilRow 40 2 rfl) rfl ?_
    refine PWl.step (LR.assignNilRow 40 2 rfl) rfl ?_
    refine PWl.nil ?_
    refine PWc.seq ?_
    refine PWc.seq ?_
    refine PWc.region ?_
    refine PWl.step (LR.assign rfl) rfl ?_
    refine PWl.nil ?_
    refine PWc.jn (iBind h) (fun (⟨a6, b7⟩ : List TRun × List TRun) (_ : Unit) => ⟨75, [(0, .d (.sl (List.map (eK .u64) nums1))), (5, .d (.sl (List.map TRun.e a6))), (6, .d (.sl (List.map TRun.e b7)))], []⟩) (fun h => ?_) ?_
    · refine PWc.block ?_
      refine PWc.loopM (fun (⟨a31, b32, i33⟩ : List TRun × List TRun × Int) (_ : Unit) => ⟨75, [(0, .d (.sl (List.map (eK .u64) nums1))), (1, .d (.v (.int .u8 from2))), (5, .d (.sl (List.map TRun.e a31))), (6, .d (.sl (List.map TRun.e b32))), (7, .d (.v (.int .i64 i33)))], []⟩) () h (Sub.trans (Sub.frz [5] hK rfl (by first | (simp; done) | (simp; omega) | omega) (AllRow.get (.cons rfl <| .nil))) <| Sub.trans (Sub.frz [6] hK rfl (by first | (simp; done) | (simp; omega) | omega) (AllRow.get (.cons rfl <| .nil))) <| Sub.of rfl (.cons rfl rfl <| .cons rfl rfl <| .cons rfl rfl <| .cons rfl rfl <| .cons rfl rfl <| .nil) (.nil)) ?_
      rintro N ⟨a31, b32, i33⟩ _ h
      refine PWc.seq ?_
      refine PWc.seq ?_
      refine PWc.region ?_
      refine PWl.step (LR.move rfl) rfl ?_
      refine PWl.step (LR.move rfl) rfl ?_
      refine PWl.step (LR.lenMap (enc := (eK .u64)) (L := nums1) Try.underlying76 rfl) rfl ?_
      refine PWl.step (LR.lss rfl rfl) rfl ?_
      refine PWl.nil ?_
      refine PWc.cond rfl (fun hc34 => ?_) (fun hc34 => ?_)
      · replace h := iT hc34 h
        refine PWc.skip ?_
        refine PWc.seq ?_
        refine PWc.block ?_
        refine PWc.seq ?_
        refine PWc.region ?_
        refine PWl.step (LR.move rfl) rfl ?_
        refine PWl.step (LR.move rfl) rfl ?_
        refine PWl.step (LR.move rfl) rfl ?_
        replace h := iIdx h
        obtain ⟨x35, hy36, h⟩ := h
        refine PWl.step (LR.idxT (enc := (eK .u64)) (L := nums1) (y := x35) Try.underlying76 Try.sizeOf34 rfl rfl hy36 (fun _ => rfl)) rfl ?_
        refine PWl.step (LR.loadEp Try.isAgg34 rfl rfl) rfl ?_
        replace h := iDet h
        obtain ⟨v37, hy38, h⟩ := h
        refine PWl.step (LR.rowN (runs_Add_ok a31 x35 v37 hy38) rfl Try.call67 rfl rfl rfl rfl) rfl ?_
        refine PWl.step (LR.assign rfl) rfl ?_
        refine PWl.nil ?_
        refine PWc.region ?_
        refine PWl.step (LR.move rfl) rfl ?_
        refine PWl.step (LR.move rfl) rfl ?_
        refine PWl.step (LR.move rfl) rfl ?_
        refine PWl.step (LR.lenMap (enc := (eK .u64)) (L := nums1) Try.underlying76 rfl) rfl ?_
        refine PWl.step (LR.subW rfl rfl) rfl ?_
        refine PWl.re (tl := [(0, _), (1, _), (5, _), (6, _), (7, _), (25, _), (26, _), (29, _)]) (to := [(24, _)]) rfl (.cons rfl rfl <| .cons rfl rfl <| .cons rfl rfl <| .cons rfl rfl <| .cons rfl rfl <| .cons rfl rfl <| .cons rfl rfl <| .cons rfl rfl <| .nil) (.cons rfl rfl <| .nil) ?_
        refine PWl.step (LR.move rfl) rfl ?_
        refine PWl.step (LR.subW rfl rfl) rfl ?_
        refine PWl.step (LR.move rfl) rfl ?_
        refine PWl.step (LR.convInt Try.underlying3 (by rw [Try.underlying5]; rfl) rfl rfl) rfl ?_
        refine PWl.step (LR.addW rfl rfl) rfl ?_
        refine PWl.step (LR.move rfl) rfl ?_
        refine PWl.step (LR.lenMap (enc := (eK .u64)) (L := nums1) Try.underlying76 rfl) rfl ?_
        replace h := iNeed h
        obtain ⟨hy39, h⟩ := h
        refine PWl.step (LR.rem rfl rfl hy39) rfl ?_
        replace h := iIdx h
        obtain ⟨x40, hy41, h⟩ := h
        refine PWl.step (LR.idxT (enc := (eK .u64)) (L := nums1) (y := x40) Try.underlying76 Try.sizeOf34 rfl rfl hy41 (fun _ => rfl)) rfl ?_
        refine PWl.step (LR.loadEp Try.isAgg34 rfl rfl) rfl ?_
        replace h := iDet h
        obtain ⟨v42, hy43, h⟩ := h
        refine PWl.step (LR.rowN (runs_Add_ok b32 x40 v42 hy43) rfl Try.call67 rfl rfl rfl rfl) rfl ?_
        refine PWl.step (LR.assign rfl) rfl ?_
        refine PWl.nil ?_
        refine PWc.region ?_
        refine PWl.step (LR.move rfl) rfl ?_
        refine PWl.re (tl := [(0, _), (1, _), (5, _), (6, _), (7, _), (17, _)]) (to := [(24, _), (40, _)]) rfl (.cons rfl rfl <| .cons rfl rfl <| .cons rfl rfl <| .cons rfl rfl <| .cons rfl rfl <| .cons rfl rfl <| .nil) (.cons rfl rfl <| .cons rfl rfl <| .nil) ?_
        refine PWl.step (LR.addW rfl rfl) rfl ?_
        refine PWl.step (LR.assign rfl) rfl ?_
        refine PWl.nil ?_
        exact ⟨(v37, v42, (IntKind.i64.wrap (i33 + 1))), (), h, Sub.trans (Sub.frz [5] hK rfl (by simp) (AllRow.get (.cons rfl <| .nil))) <| Sub.trans (Sub.frz [6] hK rfl (by simp) (AllRow.get (.cons rfl <| .nil))) <| Sub.of rfl (.cons rfl rfl <| .cons rfl rfl <| .cons rfl rfl <| .cons rfl rfl <| .cons rfl rfl <| .nil) (.nil)⟩
      · replace h := iF hc34 h
        refine PWc.exit ?_
        exact ⟨(a31, b32), (), h, Sub.of rfl (.cons rfl rfl <| .cons rfl rfl <| .cons rfl rfl <| .nil) (.nil)⟩
    · rintro ⟨a6, b7⟩ _ h
      refine PWc.seq ?_
      refine PWc.region ?_
      refine PWl.step (LR.move rfl) rfl ?_
      replace h := iDet h
      obtain ⟨v44, hy45, h⟩ := h
      refine PWl.step (LR.callN (runs_First_ok a6 v44 hy45) rfl Try.call70 rfl rfl rfl rfl) rfl ?_
      refine PWl.step (LR.assign rfl) rfl ?_
      refine PWl.nil ?_
      refine PWc.seq ?_
      refine PWc.jn (iBind h) (fun (v46 : Bool) (_ : Unit) => ⟨75, [(4, .d (.v (.bool v46)))], []⟩) (fun h => ?_) ?_
      · refine PWc.region ?_
        refine PWl.step (LR.move rfl) rfl ?_
        refine PWl.step (LR.move rfl) rfl ?_
        replace h := iDet h
        obtain ⟨v47, hy48, h⟩ := h
        refine PWl.step (LR.callN (r06_Eq_ok a6 b7 v47 hy48) rfl Try.call27 rfl rfl rfl rfl) rfl ?_
        refine PWl.step (LR.move rfl) rfl ?_
        refine PWl.split (d := 46) rfl (fun hg49 => ?_) (fun hg49 => ?_)
        · replace h := iT hg49 h
          refine PWl.guardT (LR.move rfl) rfl rfl rfl ?_
          replace h := iDet h
          obtain ⟨v50, hy51, h⟩ := h
          refine PWl.guardT (LR.rowN (runs_Of_ok nums1 v50 hy51) rfl Try.call74 rfl rfl rfl rfl) rfl rfl rfl ?_
          refine PWl.guardT (LR.move rfl) rfl rfl rfl ?_
          replace h := iDet h
          obtain ⟨v52, hy53, h⟩ := h
          refine PWl.frz [48] hK (.cons rfl <| .nil) rfl (by simp) ?_
          refine PWl.guardT (LR.callN (r06_Eq_ok v50 a6 v52 hy53) rfl Try.call27 rfl rfl rfl rfl) rfl rfl rfl ?_
          refine PWl.step (LR.pickT rfl rfl) rfl ?_
          refine PWl.step (LR.move rfl) rfl ?_
          refine PWl.split (d := 52) rfl (fun hg54 => ?_) (fun hg54 => ?_)
          · replace h := iT hg54 h
            refine PWl.guardT (LR.move rfl) rfl rfl rfl ?_
            replace h := iDet h
            obtain ⟨v55, hy56, h⟩ := h
            refine PWl.guardT (LR.callN (runs_Good_ok a6 v55 hy56) rfl Try.call64 rfl rfl rfl rfl) rfl rfl rfl ?_
            refine PWl.step (LR.pickT rfl rfl) rfl ?_
            refine PWl.re (tl := [(5, _), (8, _), (55, _)]) (to := []) rfl (.cons rfl rfl <| .cons rfl rfl <| .cons rfl rfl <| .nil) (.nil) ?_
            refine PWl.step (LR.move rfl) rfl ?_
            refine PWl.split (d := 56) rfl (fun hg57 => ?_) (fun hg57 => ?_)
            · replace h := iT hg57 h
              refine PWl.guardT (LR.move rfl) rfl rfl rfl ?_
              refine PWl.guardT (LR.move rfl) rfl rfl rfl ?_
              replace h := iDet h
              obtain ⟨v58, hy59, h⟩ := h
              refine PWl.guardT (LR.callN (runs_Has_ok a6 v44 v58 hy59) rfl Try.call66 rfl rfl rfl rfl) rfl rfl rfl ?_
              refine PWl.guardT (LR.not rfl) rfl rfl rfl ?_
              refine PWl.step (LR.pickT rfl rfl) rfl ?_
              refine PWl.step (LR.move rfl) rfl ?_
              refine PWl.split (d := 62) rfl (fun hg60 => ?_) (fun hg60 => ?_)
              · replace h := iT hg60 h
                refine PWl.guardT (LR.move rfl) rfl rfl rfl ?_
                refine PWl.guardT (LR.eql rfl rfl) rfl rfl rfl ?_
                refine PWl.guardT (LR.move rfl) rfl rfl rfl ?_
                refine PWl.split (d := 65) rfl (fun hg61 => ?_) (fun hg61 => ?_)
                · replace h := iT hg61 h
                  refine PWl.guardF rfl rfl rfl (by decide) ?_
                  refine PWl.guardF rfl rfl rfl (by decide) ?_
                  refine PWl.guardF rfl rfl rfl (by decide) ?_
                  refine PWl.guardF rfl rfl rfl (by decide) ?_
                  refine PWl.guardT (LR.pickT rfl rfl) rfl rfl rfl ?_
                  refine PWl.re (tl := [(62, _), (70, _)]) (to := []) rfl (.cons rfl rfl <| .cons rfl rfl <| .nil) (.nil) ?_
                  refine PWl.step (LR.pickT rfl rfl) rfl ?_
                  refine PWl.step (LR.move rfl) rfl ?_
                  replace h := iDet h
                  obtain ⟨v62, hy63, h⟩ := h
                  refine PWl.guardT (LR.callN (l06_works_ok v62 hy63) rfl Try.call23 rfl rfl rfl rfl) rfl rfl rfl ?_
                  refine PWl.step (LR.pickT rfl rfl) rfl ?_
                  refine PWl.step (LR.assign rfl) rfl ?_
                  refine PWl.nil ?_
                  exact ⟨v62, (), h, Sub.of rfl (.cons rfl rfl <| .nil) (.nil)⟩
                · replace h := iF hg61 h
                  refine PWl.guardT (LR.move rfl) rfl rfl rfl ?_
                  refine PWl.guardT (LR.move rfl) rfl rfl rfl ?_
                  refine PWl.guardT (LR.subW rfl rfl) rfl rfl rfl ?_
                  replace h := iDet h
                  obtain ⟨v64, hy65, h⟩ := h
                  refine PWl.guardT (LR.callN (runs_Has_ok a6 (IntKind.u64.wrap (v44 - 1)) v64 hy65) rfl Try.call66 rfl rfl rfl rfl) rfl rfl rfl ?_
                  refine PWl.guardT (LR.pickF rfl rfl) rfl rfl rfl ?_
                  refine PWl.re (tl := [(62, _), (70, _)]) (to := []) rfl (.cons rfl rfl <| .cons rfl rfl <| .nil) (.nil) ?_
                  refine PWl.step (LR.pickT rfl rfl) rfl ?_
                  refine PWl.step (LR.move rfl) rfl ?_
                  refine PWl.split (d := 72) rfl (fun hg66 => ?_) (fun hg66 => ?_)
                  · replace h := iT hg66 h
                    replace h := iDet h
                    obtain ⟨v67, hy68, h⟩ := h
                    refine PWl.guardT (LR.callN (l06_works_ok v67 hy68) rfl Try.call23 rfl rfl rfl rfl) rfl rfl rfl ?_
                    refine PWl.step (LR.pickT rfl rfl) rfl ?_
                    refine PWl.step (LR.assign rfl) rfl ?_
                    refine PWl.nil ?_
                    exact ⟨v67, (), h, Sub.of rfl (.cons rfl rfl <| .nil) (.nil)⟩
                  · replace h := iF hg66 h
                    refine PWl.guardF rfl rfl rfl (by decide) ?_
                    refine PWl.step (LR.pickF rfl rfl) rfl ?_
                    refine PWl.step (LR.assign rfl) rfl ?_
                    refine PWl.nil ?_
                    exact ⟨false, (), h, Sub.of rfl (.cons rfl rfl <| .nil) (.nil)⟩
              · replace h := iF hg60 h
                refine PWl.guardF rfl rfl rfl (by decide) ?_
                refine PWl.guardF rfl rfl rfl (by decide) ?_
                refine PWl.guardF rfl rfl rfl (by decide) ?_
                refine PWl.guardU rfl rfl rfl ?_
                refine PWl.guardU rfl rfl rfl ?_
                refine PWl.guardU rfl rfl rfl ?_
                refine PWl.guardU rfl rfl rfl ?_
                refine PWl.guardF rfl rfl rfl (by decide) ?_
                refine PWl.step (LR.pickF rfl rfl) rfl ?_
                refine PWl.re (tl := [(71, _)]) (to := []) rfl (.cons rfl rfl <| .nil) (.nil) ?_
                refine PWl.step (LR.move rfl) rfl ?_
                refine PWl.guardF rfl rfl rfl (by decide) ?_
                refine PWl.step (LR.pickF rfl rfl) rfl ?_
                refine PWl.step (LR.assign rfl) rfl ?_
                refine PWl.nil ?_
                exact ⟨false, (), h, Sub.of rfl (.cons rfl rfl <| .nil) (.nil)⟩
            · replace h := iF hg57 h
              refine PWl.guardF rfl rfl rfl (by decide) ?_
              refine PWl.guardF rfl rfl rfl (by decide) ?_
              refine PWl.guardF rfl rfl rfl (by decide) ?_
              refine PWl.guardF rfl rfl rfl (by decide) ?_
              refine PWl.step (LR.pickF rfl rfl) rfl ?_
              refine PWl.step (LR.move rfl) rfl ?_
              refine PWl.guardF rfl rfl rfl (by decide) ?_
              refine PWl.guardF rfl rfl rfl (by decide) ?_
              refine PWl.guardF rfl rfl rfl (by decide) ?_
              refine PWl.guardU rfl rfl rfl ?_
              refine PWl.guardU rfl rfl rfl ?_
              refine PWl.guardU rfl rfl rfl ?_
              refine PWl.guardU rfl rfl rfl ?_
              refine PWl.guardF rfl rfl rfl (by decide) ?_
              refine PWl.step (LR.pickF rfl rfl) rfl ?_
              refine PWl.step (LR.move rfl) rfl ?_
              refine PWl.re (tl := [(72, _)]) (to := []) rfl (.cons rfl rfl <| .nil) (.nil) ?_
              refine PWl.guardF rfl rfl rfl (by decide) ?_
              refine PWl.step (LR.pickF rfl rfl) rfl ?_
              refine PWl.step (LR.assign rfl) rfl ?_
              refine PWl.nil ?_
              exact ⟨false, (), h, Sub.of rfl (.cons rfl rfl <| .nil) (.nil)⟩
          · replace h := iF hg54 h
            refine PWl.guardF rfl rfl rfl (by decide) ?_
            refine PWl.guardF rfl rfl rfl (by decide) ?_
            refine PWl.step (LR.pickF rfl rfl) rfl ?_
            refine PWl.re (tl := [(5, _), (8, _), (55, _)]) (to := []) rfl (.cons rfl rfl <| .cons rfl rfl <| .cons rfl rfl <| .nil) (.nil) ?_
            refine PWl.step (LR.move rfl) rfl ?_
            refine PWl.guardF rfl rfl rfl (by decide) ?_
            refine PWl.guardF rfl rfl rfl (by decide) ?_
            refine PWl.guardF rfl rfl rfl (by decide) ?_
            refine PWl.guardF rfl rfl rfl (by decide) ?_
            refine PWl.step (LR.pickF rfl rfl) rfl ?_
            refine PWl.step (LR.move rfl) rfl ?_
            refine PWl.guardF rfl rfl rfl (by decide) ?_
            refine PWl.guardF rfl rfl rfl (by decide) ?_
            refine PWl.guardF rfl rfl rfl (by decide) ?_
            refine PWl.guardU rfl rfl rfl ?_
            refine PWl.guardU rfl rfl rfl ?_
            refine PWl.guardU rfl rfl rfl ?_
            refine PWl.guardU rfl rfl rfl ?_
            refine PWl.guardF rfl rfl rfl (by decide) ?_
            refine PWl.step (LR.pickF rfl rfl) rfl ?_
            refine PWl.step (LR.move rfl) rfl ?_
            refine PWl.guardF rfl rfl rfl (by decide) ?_
            refine PWl.re (tl := [(72, _), (73, _)]) (to := []) rfl (.cons rfl rfl <| .cons rfl rfl <| .nil) (.nil) ?_
            refine PWl.step (LR.pickF rfl rfl) rfl ?_
            refine PWl.step (LR.assign rfl) rfl ?_
            refine PWl.nil ?_
            exact ⟨false, (), h, Sub.of rfl (.cons rfl rfl <| .nil) (.nil)⟩
        · replace h := iF hg49 h
          refine PWl.guardF rfl rfl rfl (by decide) ?_
          refine PWl.guardF rfl rfl rfl (by decide) ?_
          refine PWl.guardF rfl rfl rfl (by decide) ?_
          refine PWl.guardF rfl rfl rfl (by decide) ?_
          refine PWl.step (LR.pickF rfl rfl) rfl ?_
          refine PWl.step (LR.move rfl) rfl ?_
          refine PWl.guardF rfl rfl rfl (by decide) ?_
          refine PWl.guardF rfl rfl rfl (by decide) ?_
          refine PWl.step (LR.pickF rfl rfl) rfl ?_
          refine PWl.step (LR.move rfl) rfl ?_
          refine PWl.re (tl := [(5, _), (8, _), (56, _)]) (to := []) rfl (.cons rfl rfl <| .cons rfl rfl <| .cons rfl rfl <| .nil) (.nil) ?_
          refine PWl.guardF rfl rfl rfl (by decide) ?_
          refine PWl.guardF rfl rfl rfl (by decide) ?_
          refine PWl.guardF rfl rfl rfl (by decide) ?_
          refine PWl.guardF rfl rfl rfl (by decide) ?_
          refine PWl.step (LR.pickF rfl rfl) rfl ?_
          refine PWl.step (LR.move rfl) rfl ?_
          refine PWl.guardF rfl rfl rfl (by decide) ?_
          refine PWl.guardF rfl rfl rfl (by decide) ?_
          refine PWl.guardF rfl rfl rfl (by decide) ?_
          refine PWl.guardU rfl rfl rfl ?_
          refine PWl.guardU rfl rfl rfl ?_
          refine PWl.guardU rfl rfl rfl ?_
          refine PWl.guardU rfl rfl rfl ?_
          refine PWl.guardF rfl rfl rfl (by decide) ?_
          refine PWl.step (LR.pickF rfl rfl) rfl ?_
          refine PWl.step (LR.move rfl) rfl ?_
          refine PWl.guardF rfl rfl rfl (by decide) ?_
          refine PWl.step (LR.pickF rfl rfl) rfl ?_
          refine PWl.re (tl := [(74, _)]) (to := []) rfl (.cons rfl rfl <| .nil) (.nil) ?_
          refine PWl.step (LR.assign rfl) rfl ?_
          refine PWl.nil ?_
          exact ⟨false, (), h, Sub.of rfl (.cons rfl rfl <| .nil) (.nil)⟩
      · rintro v46 _ h
        refine PWc.ret ?_
        replace h : _ = r0 := h
        subst h
        exact ⟨.inr rfl, _, .cons (.tmp rfl rfl) <| .nil, rfl⟩

theorem runs_Meet_ok (a1 : List TRun) (b2 : List TRun) (r0 : List TRun) (h : (runs_Meet a1 b2).wp (· = r0)) : PRow Try.prog 77 [.d (.sl (List.map TRun.e a1)), .d (.sl (List.map TRun.e b2))] 40 2 (List.map TRun.e r0) := by
  refine PRow.intro (sl := [(0, _), (1, _)]) Try.func77 rfl Try.ntmps77 rfl rfl ?_
  intro ctx hK
  refine PWc.seq ?_
  refine PWc.region ?_
  refine PWl.step (LR.assignNilRow 40 2 rfl) rfl ?_
  refine PWl.nil ?_
  refine PWc.seq ?_
  refine PWc.region ?_
  refine PWl.step (LR.move rfl) rfl ?_
  replace h := iDet h
  obtain ⟨v3, hy4, h⟩ := h
  refine PWl.step (LR.rowN (runs_Norm_ok a1 v3 hy4) rfl Try.call62 rfl rfl rfl rfl) rfl ?_
  refine PWl.step (LR.move rfl) rfl ?_
  replace h := iDet h
  obtain ⟨v5, hy6, h⟩ := h
  refine PWl.step (LR.rowN (runs_Norm_ok b2 v5 hy6) rfl Try.call62 rfl rfl rfl rfl) rfl ?_
  refine PWl.step (LR.assign rfl) rfl ?_
  refine PWl.step (LR.assign rfl) rfl ?_
  refine PWl.nil ?_
  refine PWc.seq ?_
  refine PWc.region ?_
  refine PWl.step (LR.assignNilRow 40 2 rfl) rfl ?_
  refine PWl.nil ?_
  refine PWc.seq ?_
  refine PWc.jn (iBind h) (fun (out7 : List TRun) (_ : Unit) => ⟨61, [(5, .row 5 (List.length out7))], [(5, .row 40 2 (List.map TRun.e out7))]⟩) (fun h => ?_) ?_
  · refine PWc.block ?_
    refine PWc.loopM (fun (⟨a53, b54, out55⟩ : List TRun × List TRun × List TRun) (_ : Unit) => ⟨61, [(0, .d (.sl (List.map TRun.e a53))), (1, .d (.sl (List.map TRun.e b54))), (5, .row 5 (List.length out55))], [(5, .row 40 2 (List.map TRun.e out55))]⟩) () h (Sub.trans (Sub.frz [0, 8] hK rfl (by simp) (AllRow.get (.cons rfl <| .cons rfl <| .nil))) <| Sub.trans (Sub.frz [1, 10] hK rfl (by simp) (AllRow.get (.cons rfl <| .cons rfl <| .nil))) <| Sub.of rfl (.cons rfl rfl <| .cons rfl rfl <| .cons rfl rfl <| .nil) (.cons rfl rfl <| .nil)) ?_
    rintro N ⟨a53, b54, out55⟩ _ h
    refine PWc.seq ?_
    refine PWc.seq ?_
    refine PWc.jn (iBind h) (fun (v56 : Bool) (_ : Unit) => ⟨61, [(0, .d (.sl (List.map TRun.e a53))), (1, .d (.sl (List.map TRun.e b54))), (5, .row 5 (List.length out55)), (18, .d (.v (.bool v56)))], [(5, .row 40 2 (List.map TRun.e out55))]⟩) (fun h => ?_) ?_
    · refine PWc.region ?_
      refine PWl.step (LR.move rfl) rfl ?_
      refine PWl.step (LR.lenMap (enc := TRun.e) (L := a53) Try.underlying29 rfl) rfl ?_
      refine PWl.step (LR.gtr rfl rfl) rfl ?_
      refine PWl.step (LR.move rfl) rfl ?_
      refine PWl.split (d := 14) rfl (fun hg57 => ?_) (fun hg57 => ?_)
      · replace h := iT hg57 h
        refine PWl.guardT (LR.move rfl) rfl rfl rfl ?_
        refine PWl.guardT (LR.lenMap (enc := TRun.e) (L := b54) Try.underlying29 rfl) rfl rfl rfl ?_
        refine PWl.guardT (LR.gtr rfl rfl) rfl rfl rfl ?_
        refine PWl.step (LR.pickT rfl rfl) rfl ?_
        refine PWl.nil ?_
        exact ⟨(decide (0 < (List.length b54 : Int))), (), h, Sub.of rfl (.cons rfl rfl <| .cons rfl rfl <| .cons rfl rfl <| .cons rfl rfl <| .nil) (.cons rfl rfl <| .nil)⟩
      · replace h := iF hg57 h
        refine PWl.guardF rfl rfl rfl (by decide) ?_
        refine PWl.guardF rfl rfl rfl (by decide) ?_
        refine PWl.guardF rfl rfl rfl (by decide) ?_
        refine PWl.step (LR.pickF rfl rfl) rfl ?_
        refine PWl.nil ?_
        exact ⟨false, (), h, Sub.of rfl (.cons rfl rfl <| .cons rfl rfl <| .cons rfl rfl <| .cons rfl rfl <| .nil) (.cons rfl rfl <| .nil)⟩
    · rintro v56 _ h
      refine PWc.cond rfl (fun hc58 => ?_) (fun hc58 => ?_)
      · replace h := iT hc58 h
        refine PWc.skip ?_
        refine PWc.block ?_
        refine PWc.seq ?_
        refine PWc.seq ?_
        refine PWc.re (tl := [(0, _), (1, _), (5, _)]) (to := [(5, _)]) rfl (.cons rfl rfl <| .cons rfl rfl <| .cons rfl rfl <| .nil) (.cons rfl rfl <| .nil) ?_
        refine PWc.regionE [⟨[19], [], [], [], [], [], []⟩, ⟨[20], [], [], [], [], [], []⟩, ⟨[21], [], [], [], [], [], []⟩, ⟨[22], [], [], [], [], [], []⟩, ⟨[23], [], [], [], [], [], []⟩, ⟨[24], [], [], [], [], [], []⟩, ⟨[25], [], [], [], [], [], []⟩, ⟨[26], [], [], [], [], [], []⟩, ⟨[27], [], [], [], [], [], []⟩, ⟨[28], [], [], [], [], [], []⟩, ⟨[29], [], [], [], [], [], []⟩, ⟨[30], [], [], [], [], [], []⟩, ⟨[31], [], [], [], [], [], []⟩, ⟨[32], [], [], [], [], [], []⟩, ⟨[33], [], [], [], [], [], []⟩, ⟨[34], [], [], [], [], [], []⟩, ⟨[35], [], [], [], [], [], []⟩, ⟨[36], [], [], [], [], [], []⟩, ⟨[37], [], [], [], [], [], []⟩, ⟨[6], [6], [], [6], [], [6], []⟩, ⟨[], [6], [6], [], [], [], []⟩] (by kernel_rfl) (by kernel_rfl) rfl ?_
        refine PQe.stepP (fun _ he ho => LR.move (he rfl rfl)) (.inl rfl) rfl ?_
        replace h := iIdx h
        obtain ⟨x59, hy60, h⟩ := h
        refine PQe.stepP (fun _ he ho => LR.idxT (enc := TRun.e) (L := a53) (y := x59) Try.underlying29 Try.sizeOf40 (he rfl rfl) (he rfl rfl) hy60 (fun _ => rfl)) (.inl rfl) rfl ?_
        refine PQe.stepP (fun _ he ho => LR.fieldEp Try.underlying40 rfl Try.sizeOf34 (by decide) rfl (he rfl rfl)) (.inl rfl) rfl ?_
        refine PQe.stepP (fun _ he ho => LR.loadEp Try.isAgg34 (he rfl rfl) rfl) (.inl rfl) rfl ?_
        refine PQe.stepP (fun _ he ho => LR.move (he rfl rfl)) (.inl rfl) rfl ?_
        replace h := iIdx h
        obtain ⟨x61, hy62, h⟩ := h
        refine PQe.stepP (fun _ he ho => LR.idxT (enc := TRun.e) (L := b54) (y := x61) Try.underlying29 Try.sizeOf40 (he rfl rfl) (he rfl rfl) hy62 (fun _ => rfl)) (.inl rfl) rfl ?_
        refine PQe.stepP (fun _ he ho => LR.fieldEp Try.underlying40 rfl Try.sizeOf34 (by decide) rfl (he rfl rfl)) (.inl rfl) rfl ?_
        refine PQe.stepP (fun _ he ho => LR.loadEp Try.isAgg34 (he rfl rfl) rfl) (.inl rfl) rfl ?_
        refine PQe.stepP (fun _ he ho => LR.maxI (he rfl rfl) (he rfl rfl)) (.inl rfl) rfl ?_
        refine PQe.stepP (fun _ he ho => LR.move (he rfl rfl)) (.inl rfl) rfl ?_
        replace h := iIdx h
        obtain ⟨x63, hy64, h⟩ := h
        refine PQe.stepP (fun _ he ho => LR.idxT (enc := TRun.e) (L := a53) (y := x63) Try.underlying29 Try.sizeOf40 (he rfl rfl) (he rfl rfl) hy64 (fun _ => rfl)) (.inl rfl) rfl ?_
        refine PQe.stepP (fun _ he ho => LR.fieldEp Try.underlying40 rfl Try.sizeOf34 (by decide) rfl (he rfl rfl)) (.inl rfl) rfl ?_
        refine PQe.stepP (fun _ he ho => LR.loadEp Try.isAgg34 (he rfl rfl) rfl) (.inl rfl) rfl ?_
        refine PQe.stepP (fun _ he ho => LR.move (he rfl rfl)) (.inl rfl) rfl ?_
        replace h := iIdx h
        obtain ⟨x65, hy66, h⟩ := h
        refine PQe.stepP (fun _ he ho => LR.idxT (enc := TRun.e) (L := b54) (y := x65) Try.underlying29 Try.sizeOf40 (he rfl rfl) (he rfl rfl) hy66 (fun _ => rfl)) (.inl rfl) rfl ?_
        refine PQe.stepP (fun _ he ho => LR.fieldEp Try.underlying40 rfl Try.sizeOf34 (by decide) rfl (he rfl rfl)) (.inl rfl) rfl ?_
        refine PQe.stepP (fun _ he ho => LR.loadEp Try.isAgg34 (he rfl rfl) rfl) (.inl rfl) rfl ?_
        refine PQe.stepP (fun _ he ho => LR.minI (he rfl rfl) (he rfl rfl)) (.inl rfl) rfl ?_
        refine PQe.stepP (fun _ he ho => LR.build (ns := [_, _]) build40 rfl (evpE he rfl rfl) rfl) (.inl rfl) rfl ?_
        refine PQe.stepN (fun _ he ho hf => LR.allocZ (cs := [_, _]) Try.zeroValue40 rfl rfl rfl hf) rfl (.inl rfl) rfl ?_
        refine PQe.stepS (fun _ he ho => LR.storeB (ns := [_, _]) Try.sizeOf40 (he rfl rfl) (he rfl rfl) rfl rfl (ho rfl rfl) rfl rfl) (.inl rfl) rfl ?_
        refine PQe.nil ?_
        refine PWc.seq ?_
        refine PWc.region ?_
        refine PWl.re (tl := [(0, _), (1, _), (5, _), (6, _)]) (to := [(5, _), (6, _)]) rfl (.cons rfl rfl <| .cons rfl rfl <| .cons rfl rfl <| .cons rfl rfl <| .nil) (.cons rfl rfl <| .cons rfl rfl <| .nil) ?_
        refine PWl.step (LR.fieldRef Try.underlying40 rfl Try.sizeOf34 (by decide) rfl rfl) rfl ?_
        refine PWl.step (LR.loadRef Try.isAgg34 rfl rfl rfl) rfl ?_
        refine PWl.step (LR.fieldRef Try.underlying40 rfl Try.sizeOf34 (by decide) rfl rfl) rfl ?_
        refine PWl.step (LR.loadRef Try.isAgg34 rfl rfl rfl) rfl ?_
        refine PWl.step (LR.leq rfl rfl) rfl ?_
        refine PWl.nil ?_
        refine PWc.jn (iBind h) (fun (out67 : List TRun) (_ : Unit) => ⟨61, [(0, .d (.sl (List.map TRun.e a53))), (1, .d (.sl (List.map TRun.e b54))), (5, .row 5 (List.length out67))], [(5, .row 40 2 (List.map TRun.e out67))]⟩) (fun h => ?_) ?_
        · refine PWc.cond rfl (fun hc68 => ?_) (fun hc68 => ?_)
          · replace h := iT hc68 h
            refine PWc.region ?_
            refine PWl.step (LR.move rfl) rfl ?_
            refine PWl.step (LR.loadRefAgg (ps := [_, _]) Try.isAgg40 Try.sizeOf40 rfl rfl rfl rfl) rfl ?_
            refine PWl.step (LR.buildSliceD [.tmp 44] elem29 rfl rfl (.cons rfl rfl rfl <| .nil) (by decide) (by decide)) rfl ?_
            replace h := iNeed h
            obtain ⟨hy69, h⟩ := h
            refine PWl.step (LR.appT (enc := TRun.e) (L := out55) (R := [(⟨(max x59.lo x61.lo), (min x63.hi x65.hi)⟩ : TRun)]) [5, 43] elem29 Try.underlying29 rfl rfl rfl (Src.slT (enc := TRun.e) (R := [(⟨(max x59.lo x61.lo), (min x63.hi x65.hi)⟩ : TRun)]) rfl (fun _ => rfl)) (fun _ => rfl) hy69 rfl rfl) rfl ?_
            refine PWl.step (LR.assign rfl) rfl ?_
            refine PWl.nil ?_
            exact ⟨(out55 ++ [(⟨(max x59.lo x61.lo), (min x63.hi x65.hi)⟩ : TRun)]), (), h, Sub.of rfl (.cons rfl rfl <| .cons rfl rfl <| .cons rfl (by first | rfl | (simp; done) | (congr 1; first | (simp; done) | (simp; omega))) <| .nil) (.cons rfl rfl <| .nil)⟩
          · replace h := iF hc68 h
            refine PWc.skip ?_
            exact ⟨out55, (), h, Sub.of rfl (.cons rfl rfl <| .cons rfl rfl <| .cons rfl rfl <| .nil) (.cons rfl rfl <| .nil)⟩
        · rintro out67 _ h
          refine PWc.seq ?_
          refine PWc.regionD (by kernel_rfl) (by kernel_rfl) ?_
          refine PQl.step (fun _ he ho => LR.move (he rfl rfl)) rfl ?_
          replace h := iIdx h
          obtain ⟨x70, hy71, h⟩ := h
          refine PQl.step (fun _ he ho => LR.idxT (enc := TRun.e) (L := a53) (y := x70) Try.underlying29 Try.sizeOf40 (he rfl rfl) (he rfl rfl) hy71 (fun _ => rfl)) rfl ?_
          refine PQl.step (fun _ he ho => LR.fieldEp Try.underlying40 rfl Try.sizeOf34 (by decide) rfl (he rfl rfl)) rfl ?_
          refine PQl.step (fun _ he ho => LR.loadEp Try.isAgg34 (he rfl rfl) rfl) rfl ?_
          refine PQl.step (fun _ he ho => LR.move (he rfl rfl)) rfl ?_
          replace h := iIdx h
          obtain ⟨x72, hy73, h⟩ := h
          refine PQl.step (fun _ he ho => LR.idxT (enc := TRun.e) (L := b54) (y := x72) Try.underlying29 Try.sizeOf40 (he rfl rfl) (he rfl rfl) hy73 (fun _ => rfl)) rfl ?_
          refine PQl.step (fun _ he ho => LR.fieldEp Try.underlying40 rfl Try.sizeOf34 (by decide) rfl (he rfl rfl)) rfl ?_
          refine PQl.step (fun _ he ho => LR.loadEp Try.isAgg34 (he rfl rfl) rfl) rfl ?_
          refine PQl.step (fun _ he ho => LR.lss (he rfl rfl) (he rfl rfl)) rfl ?_
          refine PQl.nil ?_
          refine PWc.cond rfl (fun hc74 => ?_) (fun hc74 => ?_)
          · replace h := iT hc74 h
            refine PWc.region ?_
            refine PWl.step (LR.move rfl) rfl ?_
            replace h := iNeed h
            obtain ⟨hy75, h⟩ := h
            refine PWl.step (LR.cutLT (enc := TRun.e) (L := a53) Try.underlying29 Try.sizeOf40 rfl (fun _ => rfl) rfl hy75) rfl ?_
            refine PWl.step (LR.assign rfl) rfl ?_
            refine PWl.nil ?_
            exact ⟨((List.drop (Int.toNat 1) (List.take (Int.toNat (List.length a53 : Int)) a53)), b54, out67), (), h, Sub.of rfl (.cons rfl rfl <| .cons rfl rfl <| .cons rfl rfl <| .nil) (.cons rfl rfl <| .nil)⟩
          · replace h := iF hc74 h
            refine PWc.region ?_
            refine PWl.step (LR.move rfl) rfl ?_
            replace h := iNeed h
            obtain ⟨hy76, h⟩ := h
            refine PWl.step (LR.cutLT (enc := TRun.e) (L := b54) Try.underlying29 Try.sizeOf40 rfl (fun _ => rfl) rfl hy76) rfl ?_
            refine PWl.step (LR.assign rfl) rfl ?_
            refine PWl.nil ?_
            exact ⟨(a53, (List.drop (Int.toNat 1) (List.take (Int.toNat (List.length b54 : Int)) b54)), out67), (), h, Sub.of rfl (.cons rfl rfl <| .cons rfl rfl <| .cons rfl rfl <| .nil) (.cons rfl rfl <| .nil)⟩
      · replace h := iF hc58 h
        refine PWc.exit ?_
        exact ⟨out55, (), h, Sub.of rfl (.cons rfl rfl <| .nil) (.cons rfl rfl <| .nil)⟩
  · rintro out7 _ h
    refine PWc.seq ?_
    refine PWc.region ?_
    refine PWl.step (LR.move rfl) rfl ?_
    refine PWl.step (LR.assign rfl) rfl ?_
    refine PWl.nil ?_
    refine PWc.ret ?_
    replace h : _ = r0 := h
    subst h
    exact ⟨.inr rfl, 4, rfl, .inr ⟨5, _, rfl, (by simp), rfl⟩⟩

theorem runs_rest_ok (l1 : List TRun) (r0 : List TRun) (h : (runs_rest l1).wp (· = r0)) : PRow Try.prog 114 [.d (.sl (List.map TRun.e l1))] 40 2 (List.map TRun.e r0) := by
  refine PRow.intro (sl := [(0, _)]) Try.func114 rfl Try.ntmps114 rfl rfl ?_
  intro ctx hK
  refine PWc.seq ?_
  refine PWc.region ?_
  refine PWl.step (LR.assignNilRow 40 2 rfl) rfl ?_
  refine PWl.nil ?_
  refine PWc.seq ?_
  refine PWc.region ?_
  refine PWl.step (LR.assignNilRow 40 2 rfl) rfl ?_
  refine PWl.nil ?_
  refine PWc.seq ?_
  refine PWc.region ?_
  refine PWl.step (LR.assign rfl) rfl ?_
  refine PWl.nil ?_
  refine PWc.seq ?_
  refine PWc.seq ?_
  refine PWc.region ?_
  refine PWl.step (LR.move rfl) rfl ?_
  replace h := iDet h
  obtain ⟨v2, hy3, h⟩ := h
  refine PWl.step (LR.rowN (runs_Norm_ok l1 v2 hy3) rfl Try.call62 rfl rfl rfl rfl) rfl ?_
  refine PWl.step (LR.lenRow Try.underlying29 rfl) rfl ?_
  refine PWl.step (LR.move rfl) rfl ?_
  refine PWl.nil ?_
  refine PWc.jn (iBind h) (fun (⟨at4, out5⟩ : Int × List TRun) (_ : Unit) => ⟨31, [(3, .row 3 (List.length out5)), (4, .d (.v (.int .u64 at4)))], [(3, .row 40 2 (List.map TRun.e out5))]⟩) (fun h => ?_) ?_
  · refine PWc.block ?_
    refine PWc.loopM (fun (⟨at17, v18, out19⟩ : Int × Int × List TRun) (_ : Unit) => ⟨31, [(3, .row 3 (List.length out19)), (4, .d (.v (.int .u64 at17))), (8, .row 8 (List.length v2)), (9, .d (.v (.int .i64 ((List.length v2) : Int)))), (10, .d (.v (.int .i64 v18)))], [(3, .row 40 2 (List.map TRun.e out19)), (8, .row 40 2 (List.map TRun.e v2))]⟩) () h (Sub.of rfl (.cons rfl rfl <| .cons rfl rfl <| .cons rfl rfl <| .cons rfl rfl <| .cons rfl rfl <| .nil) (.cons rfl rfl <| .cons rfl rfl <| .nil)) ?_
    rintro N ⟨at17, v18, out19⟩ _ h
    refine PWc.seq ?_
    refine PWc.region ?_
    refine PWl.step (LR.lss rfl rfl) rfl ?_
    refine PWl.nil ?_
    refine PWc.seq ?_
    refine PWc.cond rfl (fun hc20 => ?_) (fun hc20 => ?_)
    · replace h := iT hc20 h
      refine PWc.skip ?_
      refine PWc.seq ?_
      refine PWc.block ?_
      refine PWc.seq ?_
      refine PWc.region ?_
      replace h := iIdx h
      obtain ⟨x21, hy22, h⟩ := h
      refine PWl.step (LR.idxRowT (L := v2) (y := x21) Try.underlying29 Try.sizeOf40 rfl rfl rfl hy22) rfl ?_
      refine PWl.step (LR.loadRpT (enc := TRun.e) (L := v2) (y := x21) Try.isAgg40 Try.sizeOf40 rfl rfl hy22.2) rfl ?_
      refine PWl.step (LR.allocZ (cs := [_, _]) Try.zeroValue40 rfl rfl rfl rfl) rfl ?_
      refine PWl.step (LR.storeB (ns := [_, _]) Try.sizeOf40 rfl rfl rfl rfl rfl rfl rfl) rfl ?_
      refine PWl.nil ?_
      refine PWc.seq ?_
      refine PWc.region ?_
      refine PWl.step (LR.move rfl) rfl ?_
      refine PWl.step (LR.move rfl) rfl ?_
      refine PWl.step (LR.fieldRef Try.underlying40 rfl Try.sizeOf34 (by decide) rfl rfl) rfl ?_
      refine PWl.step (LR.loadRef Try.isAgg34 rfl rfl rfl) rfl ?_
      refine PWl.step (LR.subW rfl rfl) rfl ?_
      refine PWl.step (LR.build (ns := [_, _]) build40 rfl rfl rfl) rfl ?_
      refine PWl.step (LR.buildSliceD [.tmp 19] elem29 rfl rfl (.cons rfl rfl rfl <| .nil) (by decide) (by decide)) rfl ?_
      replace h := iNeed h
      obtain ⟨hy23, h⟩ := h
      refine PWl.step (LR.appT (enc := TRun.e) (L := out19) (R := [(⟨at17, (IntKind.u64.wrap (x21.lo - 1))⟩ : TRun)]) [3, 14] elem29 Try.underlying29 rfl rfl rfl (Src.slT (enc := TRun.e) (R := [(⟨at17, (IntKind.u64.wrap (x21.lo - 1))⟩ : TRun)]) rfl (fun _ => rfl)) (fun _ => rfl) hy23 rfl rfl) rfl ?_
      refine PWl.step (LR.assign rfl) rfl ?_
      refine PWl.nil ?_
      refine PWc.region ?_
      refine PWl.step (LR.fieldRef Try.underlying40 rfl Try.sizeOf34 (by decide) rfl rfl) rfl ?_
      refine PWl.step (LR.loadRef Try.isAgg34 rfl rfl rfl) rfl ?_
      refine PWl.step (LR.addW rfl rfl) rfl ?_
      refine PWl.re (tl := [(3, _), (4, _), (8, _), (9, _), (10, _), (24, _)]) (to := [(3, _), (8, _)]) rfl (.cons rfl rfl <| .cons rfl rfl <| .cons rfl rfl <| .cons rfl rfl <| .cons rfl rfl <| .cons rfl rfl <| .nil) (.cons rfl rfl <| .cons rfl rfl <| .nil) ?_
      refine PWl.step (LR.assign rfl) rfl ?_
      refine PWl.nil ?_
      refine PWc.region ?_
      refine PWl.step (LR.addW rfl rfl) rfl ?_
      refine PWl.step (LR.move rfl) rfl ?_
      refine PWl.nil ?_
      exact ⟨((IntKind.u64.wrap (x21.hi + 1)), (IntKind.i64.wrap (v18 + 1)), (out19 ++ [(⟨at17, (IntKind.u64.wrap (x21.lo - 1))⟩ : TRun)])), (), h, Sub.of rfl (.cons rfl (by first | rfl | (simp; done) | (congr 1; first | (simp; done) | (simp; omega))) <| .cons rfl rfl <| .cons rfl rfl <| .cons rfl rfl <| .cons rfl rfl <| .nil) (.cons rfl rfl <| .cons rfl rfl <| .nil)⟩
    · replace h := iF hc20 h
      refine PWc.exit ?_
      exact ⟨(at17, out19), (), h, Sub.of rfl (.cons rfl rfl <| .cons rfl rfl <| .nil) (.cons rfl rfl <| .nil)⟩
  · rintro ⟨at4, out5⟩ _ h
    refine PWc.seq ?_
    refine PWc.region ?_
    refine PWl.step (LR.move rfl) rfl ?_
    refine PWl.step (LR.move rfl) rfl ?_
    refine PWl.step (LR.build (ns := [_, _]) build40 rfl rfl rfl) rfl ?_
    refine PWl.step (LR.buildSliceD [.tmp 28] elem29 rfl rfl (.cons rfl rfl rfl <| .nil) (by decide) (by decide)) rfl ?_
    replace h := iNeed h
    obtain ⟨hy24, h⟩ := h
    refine PWl.step (LR.appT (enc := TRun.e) (L := out5) (R := [(⟨at4, 281474976710655⟩ : TRun)]) [3, 26] elem29 Try.underlying29 rfl rfl rfl (Src.slT (enc := TRun.e) (R := [(⟨at4, 281474976710655⟩ : TRun)]) rfl (fun _ => rfl)) (fun _ => rfl) hy24 rfl rfl) rfl ?_
    refine PWl.step (LR.assign rfl) rfl ?_
    refine PWl.nil ?_
    refine PWc.ret ?_
    replace h : _ = r0 := h
    subst h
    exact ⟨.inr rfl, 2, rfl, .inr ⟨3, _, rfl, (by simp), rfl⟩⟩
end Go.Proofs

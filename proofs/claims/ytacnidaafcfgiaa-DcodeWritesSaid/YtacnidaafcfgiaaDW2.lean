/- Walks: written by program. -/
import Derived.Test.YtacnidaafcfgiaaDFc
import Derived.Test.YtacnidaafcfgiaaDSh
import Derived.Test.YtacnidaafcfgiaaDSx
import Derived.Test.YtacnidaafcfgiaaTl
import Derived.Test.YtacnidaafcfgiaaSr
import Derived.Test.YtacnidaafcfgiaaDr
import Derived.Test.YtacnidaafcfgiaaOb
import Derived.Test.YtacnidaafcfgiaaOe
import Derived.Test.YtacnidaafcfgiaaLs
import Derived.Test.YtacnidaafcfgiaaTl
import Derived.Test.YtacnidaafcfgiaaStr
import Derived.Test.YtacnidaafcfgiaaPc
namespace Go.Proofs
open Go.Ep
set_option maxHeartbeats 1000000
set_option maxRecDepth 100000
set_option linter.unusedVariables false
set_option linter.unusedSimpArgs false


theorem ctx_told_ok (c1 : List TPart) (r0 : List (Int × List TRun)) (h : (ctx_told c1).wp (· = r0)) : PMap Try.prog 130 [.d (.sl (List.map TPart.e c1))] [.u16] false (encM kI (eL TRun.e) r0) := by
  refine PMap.intro (sl := [(0, _)]) Try.func130 rfl Try.ntmps130 rfl rfl ?_
  intro ctx hK
  refine PWc.seq ?_
  refine PWc.region ?_
  refine PWl.step (LR.assign rfl) rfl ?_
  refine PWl.nil ?_
  refine PWc.seq ?_
  refine PWc.region ?_
  refine PWl.step (LR.makeMap [.u16] false rfl) rfl ?_
  refine PWl.step (LR.assign rfl) rfl ?_
  refine PWl.nil ?_
  refine PWc.seq ?_
  refine PWc.seq ?_
  refine PWc.region ?_
  refine PWl.step (LR.move rfl) rfl ?_
  refine PWl.step (LR.lenMap (enc := TPart.e) (L := c1) Try.underlying24 rfl) rfl ?_
  refine PWl.step (LR.move rfl) rfl ?_
  refine PWl.nil ?_
  refine PWc.block ?_
  replace h := iNeed h
  obtain ⟨hy10, h⟩ := h
  have hN := hy10.1
  refine PWc.loopRows (bid := 0) (N := List.length c1) (mid := 6) (n := 28) (ks := [.u16]) (e := 114) (k := 2) (fun i => [(3, .mp 6), (7, .d (.sl (List.map TPart.e c1))), (8, .d (.v (.int .i64 (List.length c1 : Int)))), (9, .d (.v (.int .i64 (i : Int))))]) (fun i => rowsOf kI TRun.e (AL.grow [] ((List.take i c1).filterMap ctx_toldF))) [(3, .mp 6)] [] 0 hK (by decide) (fun i x hx id h => by simp only [List.mem_cons, List.not_mem_nil, or_false] at hx; rcases hx with rfl | rfl | rfl | rfl <;> first | (simp [PV.has] at h; done) | (simp [PV.has] at h; exact h.symm) | (simp [PV.has] at h; omega)) rfl (fun i => rowsOf_plain (fun x d hd => by simp only [TRun.e, List.mem_cons, List.not_mem_nil, or_false] at hd; rcases hd with rfl | rfl <;> exact ⟨_, rfl⟩) _) (Sub.of rfl (.cons rfl rfl <| .cons rfl rfl <| .cons rfl rfl <| .cons rfl rfl <| .nil) (.cons rfl rfl <| .nil)) (fun i hi => ?_) (encM kI (eL TRun.e) (AL.grow ([] : List (Int × List TRun)) (List.filterMap ctx_toldF c1))) (by simp only [List.take_length]; exact rowsM_of _) (fun ctx vm bs ck => ?_) (fun bs ck => ?_)
  · obtain ⟨p, hp⟩ : ∃ p, c1[i]? = some p := ⟨_, List.getElem?_eq_getElem hi⟩
    have hidx : (0 : Int) ≤ (i : Int) ∧ c1[(i : Int).toNat]? = some p := ⟨by omega, by simpa using hp⟩
    have htk := AL.grow_take hp ctx_toldF
    have hwi := wrapNat (i := i) (by omega)
    by_cases hd : 0 < p.dev
    · have hf : ctx_toldF p = some (p.dev, p.runs) := by simp [ctx_toldF, hd]
      have hbd := AL.grow_bound hy10 hp hf
      rw [hf] at htk
      rcases pfind_rows (eK := kI) (enc := TRun.e) kI_inj (p.dev) (AL.grow [] ((List.take i c1).filterMap ctx_toldF)) with ⟨j, l, h1, h2, h3, h4⟩ | ⟨h1, h2, h3⟩
      · simp only [h3] at hbd
        refine .found (nl := List.length l) (nl' := (List.length (l ++ p.runs))) (l := (List.map TRun.e l)) (l' := (List.map TRun.e (l ++ p.runs))) (by simp) (by simp) h2 (by rw [htk]; simp only [AL.grow, Option.toList, List.foldl] at h3 h4 ⊢; rw [h3]; exact h4 _) fun ctx vm bs ck hvm => ?_
        have hpf : pfind (kI (p.dev)) (keysP vm) 0 = some j := by rw [keysP_fst hvm]; exact h1
        have h : (M.bind (M.idx c1 (i : Int)) fun x2 => M.need ((List.length l + List.length x2.runs) * 16 ≤ 140737488355328) <| M.pure ()).wp (fun _ => True) := ⟨p, hidx, hbd, trivial⟩
        refine PWc.seq ?_
        refine PWc.region ?_
        refine PWl.step (LR.lss rfl rfl) rfl ?_
        refine PWl.nil ?_
        refine PWc.seq ?_
        refine PWc.condT (congrArg (fun b => some (PV.d (.v (.bool b)))) (decide_eq_true (Int.ofNat_lt.2 hi))) ?_
        refine PWc.skip ?_
        refine PWc.seq ?_
        refine PWc.block ?_
        refine PWc.seq ?_
        refine PWc.region ?_
        replace h := iIdx h
        obtain ⟨x2, hy3, h⟩ := h
        have hE := idxU hy3 hidx
        subst hE
        refine PWl.step (LR.idxT (enc := TPart.e) (L := c1) (y := x2) Try.underlying24 Try.sizeOf101 rfl rfl hy3 (fun _ => rfl)) rfl ?_
        refine PWl.step (LR.loadEpAgg (ys := [_, _]) Try.isAgg101 Try.sizeOf101 rfl rfl rfl) rfl ?_
        refine PWl.step (LR.allocZ (cs := [_, _]) Try.zeroValue101 rfl rfl rfl rfl) rfl ?_
        refine PWl.step (LR.storeB (ns := [_, _]) Try.sizeOf101 rfl rfl rfl rfl rfl rfl rfl) rfl ?_
        refine PWl.nil ?_
        refine PWc.seq ?_
        refine PWc.region ?_
        refine PWl.step (LR.fieldRef Try.underlying101 rfl Try.sizeOf28 (by decide) rfl rfl) rfl ?_
        refine PWl.step (LR.loadRef Try.isAgg28 rfl rfl rfl) rfl ?_
        refine PWl.step (LR.gtr rfl rfl) rfl ?_
        refine PWl.nil ?_
        refine PWc.condT (congrArg (fun b => some (PV.d (.v (.bool b)))) (decide_eq_true hd)) ?_
        refine PWc.re (tl := [(3, _), (5, _), (7, _), (8, _), (9, _)]) (to := [(5, _), (6, _), (50, _)]) rfl (.cons rfl rfl <| .cons rfl rfl <| .cons rfl rfl <| .cons rfl rfl <| .cons rfl rfl <| .nil) (.cons rfl rfl <| .cons rfl rfl <| .cons rfl rfl <| .nil) ?_
        refine PWc.regionE [⟨[16], [], [], [], [], [6], [], []⟩, ⟨[17], [], [], [], [], [5], [], []⟩, ⟨[18], [], [5], [], [], [], [], []⟩, ⟨[19], [], [], [], [], [6], [], []⟩, ⟨[20], [], [], [], [], [5], [], []⟩, ⟨[21], [], [5], [], [], [], [], []⟩, ⟨[22], [], [6], [], [], [50], [], []⟩, ⟨[23], [], [], [], [], [5], [], []⟩, ⟨[24], [], [5], [], [], [], [], []⟩, ⟨[22, 25], [6, 50], [6, 50], [], [(50, [22])], [50], [], [6]⟩, ⟨[], [6], [6, 50], [], [], [], [50], []⟩] (by kernel_rfl) (by kernel_rfl) rfl ?_
        refine PQe.stepP (fun _ he ho => LR.move (he rfl rfl)) (.inl rfl) rfl ?_
        refine PQe.stepP (fun _ he ho => LR.fieldRef Try.underlying101 rfl Try.sizeOf28 (by decide) rfl (he rfl rfl)) (.inl rfl) rfl ?_
        refine PQe.stepP (fun _ he ho => LR.loadRef Try.isAgg28 (he rfl rfl) (ho rfl rfl) rfl) (.inl rfl) rfl ?_
        refine PQe.stepP (fun _ he ho => LR.move (he rfl rfl)) (.inl rfl) rfl ?_
        refine PQe.stepP (fun _ he ho => LR.fieldRef Try.underlying101 rfl Try.sizeOf28 (by decide) rfl (he rfl rfl)) (.inl rfl) rfl ?_
        refine PQe.stepP (fun _ he ho => LR.loadRef Try.isAgg28 (he rfl rfl) (ho rfl rfl) rfl) (.inl rfl) rfl ?_
        refine PQe.stepP (fun _ he ho => LR.lookupP Try.underlying126 key126 (he rfl rfl) (ho rfl rfl) (he rfl rfl) rfl hpf rfl) (.inl rfl) rfl ?_
        refine PQe.stepP (fun _ he ho => LR.fieldRef Try.underlying101 rfl Try.sizeOf34 (by decide) rfl (he rfl rfl)) (.inl rfl) rfl ?_
        refine PQe.stepP (fun _ he ho => LR.loadRef Try.isAgg34 (he rfl rfl) (ho rfl rfl) rfl) (.inl rfl) rfl ?_
        replace h := iNeed h
        obtain ⟨hy4, h⟩ := h
        refine PQe.stepX [22] (fun _ he ho ha => LR.appP (enc := TRun.e) (L := l) (R := x2.runs) [22] elem34 Try.underlying34 (he rfl rfl) rfl (ho rfl rfl) (ho rfl rfl) rfl (fun _ h1 h2 => Src.slT (enc := TRun.e) (R := x2.runs) (evSame h1 h2 (he rfl rfl)) (fun _ => rfl)) (fun _ => rfl) hy4 rfl ha) rfl rfl (.inl rfl) rfl ?_
        refine PQe.stepS (fun _ he ho => LR.mapUpdateP Try.underlying126 key126 (he rfl rfl) (ho rfl rfl) (he rfl rfl) rfl rfl (he rfl rfl) hpf) (.inl rfl) rfl ?_
        refine PQe.nil ?_
        refine PWc.region ?_
        refine PWl.step (LR.addW rfl rfl) rfl ?_
        refine PWl.step (LR.move rfl) rfl ?_
        refine PWl.nil ?_
        exact ⟨rfl, Sub.of rfl (.cons rfl rfl <| .cons rfl rfl <| .cons rfl rfl <| .cons rfl (congrArg (fun z => PV.d (.v (.int .i64 z))) hwi) <| .nil) (.cons rfl rfl <| .cons rfl rfl <| .nil)⟩
      · simp only [h2, List.length_nil, Nat.zero_add] at hbd
        refine .fresh (q := 25) (nl' := (List.length p.runs)) (l' := (List.map TRun.e p.runs)) (by simp) (by decide) (by rw [htk]; simp only [AL.grow, Option.toList, List.foldl] at h2 h3 ⊢; rw [h2]; exact h3 _) fun ctx vm bs ck hvm => ?_
        have hpf : pfind (kI (p.dev)) (keysP vm) 0 = none := by rw [keysP_fst hvm]; exact h1
        have h : (M.bind (M.idx c1 (i : Int)) fun x5 => M.need (List.length x5.runs * 16 ≤ 140737488355328) <| M.pure ()).wp (fun _ => True) := ⟨p, hidx, hbd, trivial⟩
        refine PWc.seq ?_
        refine PWc.region ?_
        refine PWl.step (LR.lss rfl rfl) rfl ?_
        refine PWl.nil ?_
        refine PWc.seq ?_
        refine PWc.condT (congrArg (fun b => some (PV.d (.v (.bool b)))) (decide_eq_true (Int.ofNat_lt.2 hi))) ?_
        refine PWc.skip ?_
        refine PWc.seq ?_
        refine PWc.block ?_
        refine PWc.seq ?_
        refine PWc.region ?_
        replace h := iIdx h
        obtain ⟨x5, hy6, h⟩ := h
        have hE := idxU hy6 hidx
        subst hE
        refine PWl.step (LR.idxT (enc := TPart.e) (L := c1) (y := x5) Try.underlying24 Try.sizeOf101 rfl rfl hy6 (fun _ => rfl)) rfl ?_
        refine PWl.step (LR.loadEpAgg (ys := [_, _]) Try.isAgg101 Try.sizeOf101 rfl rfl rfl) rfl ?_
        refine PWl.step (LR.allocZ (cs := [_, _]) Try.zeroValue101 rfl rfl rfl rfl) rfl ?_
        refine PWl.step (LR.storeB (ns := [_, _]) Try.sizeOf101 rfl rfl rfl rfl rfl rfl rfl) rfl ?_
        refine PWl.nil ?_
        refine PWc.seq ?_
        refine PWc.region ?_
        refine PWl.step (LR.fieldRef Try.underlying101 rfl Try.sizeOf28 (by decide) rfl rfl) rfl ?_
        refine PWl.step (LR.loadRef Try.isAgg28 rfl rfl rfl) rfl ?_
        refine PWl.step (LR.gtr rfl rfl) rfl ?_
        refine PWl.nil ?_
        refine PWc.condT (congrArg (fun b => some (PV.d (.v (.bool b)))) (decide_eq_true hd)) ?_
        refine PWc.re (tl := [(3, _), (5, _), (7, _), (8, _), (9, _)]) (to := [(5, _), (6, _)]) rfl (.cons rfl rfl <| .cons rfl rfl <| .cons rfl rfl <| .cons rfl rfl <| .cons rfl rfl <| .nil) (.cons rfl rfl <| .cons rfl rfl <| .nil) ?_
        refine PWc.regionE [⟨[16], [], [], [], [], [6], [], []⟩, ⟨[17], [], [], [], [], [5], [], []⟩, ⟨[18], [], [5], [], [], [], [], []⟩, ⟨[19], [], [], [], [], [6], [], []⟩, ⟨[20], [], [], [], [], [5], [], []⟩, ⟨[21], [], [5], [], [], [], [], []⟩, ⟨[22], [], [6], [], [], [], [], []⟩, ⟨[23], [], [], [], [], [5], [], []⟩, ⟨[24], [], [5], [], [], [], [], []⟩, ⟨[25], [25], [], [25], [], [25], [], []⟩, ⟨[], [6], [6, 25], [], [], [], [25], []⟩] (by kernel_rfl) (by kernel_rfl) rfl ?_
        refine PQe.stepP (fun _ he ho => LR.move (he rfl rfl)) (.inl rfl) rfl ?_
        refine PQe.stepP (fun _ he ho => LR.fieldRef Try.underlying101 rfl Try.sizeOf28 (by decide) rfl (he rfl rfl)) (.inl rfl) rfl ?_
        refine PQe.stepP (fun _ he ho => LR.loadRef Try.isAgg28 (he rfl rfl) (ho rfl rfl) rfl) (.inl rfl) rfl ?_
        refine PQe.stepP (fun _ he ho => LR.move (he rfl rfl)) (.inl rfl) rfl ?_
        refine PQe.stepP (fun _ he ho => LR.fieldRef Try.underlying101 rfl Try.sizeOf28 (by decide) rfl (he rfl rfl)) (.inl rfl) rfl ?_
        refine PQe.stepP (fun _ he ho => LR.loadRef Try.isAgg28 (he rfl rfl) (ho rfl rfl) rfl) (.inl rfl) rfl ?_
        refine PQe.stepP (fun _ he ho => LR.lookupPN Try.underlying126 key126 (he rfl rfl) (ho rfl rfl) (he rfl rfl) rfl Try.zeroValue34 rfl hpf) (.inl rfl) rfl ?_
        refine PQe.stepP (fun _ he ho => LR.fieldRef Try.underlying101 rfl Try.sizeOf34 (by decide) rfl (he rfl rfl)) (.inl rfl) rfl ?_
        refine PQe.stepP (fun _ he ho => LR.loadRef Try.isAgg34 (he rfl rfl) (ho rfl rfl) rfl) (.inl rfl) rfl ?_
        replace h := iNeed h
        obtain ⟨hy7, h⟩ := h
        refine PQe.stepN (fun _ he ho hf => LR.appNilX (enc := TRun.e) (R := x5.runs) elem34 Try.underlying34 (he rfl rfl) hf (Src.slT (enc := TRun.e) (R := x5.runs) (evObjs (he rfl rfl)) (fun _ => rfl)) (fun _ => rfl) hy7 rfl (fresh_alone hf)) rfl (.inl rfl) rfl ?_
        refine PQe.stepS (fun _ he ho => LR.mapUpdatePN Try.underlying126 key126 (he rfl rfl) (ho rfl rfl) (he rfl rfl) rfl rfl (he rfl rfl) hpf) (.inl rfl) rfl ?_
        refine PQe.nil ?_
        refine PWc.region ?_
        refine PWl.step (LR.addW rfl rfl) rfl ?_
        refine PWl.step (LR.move rfl) rfl ?_
        refine PWl.nil ?_
        exact ⟨rfl, Sub.of rfl (.cons rfl rfl <| .cons rfl rfl <| .cons rfl rfl <| .cons rfl (congrArg (fun z => PV.d (.v (.int .i64 z))) hwi) <| .nil) (.cons rfl rfl <| .cons rfl rfl <| .nil)⟩
    · have hf : ctx_toldF p = none := by simp [ctx_toldF, hd]
      rw [hf] at htk
      refine .skip (by rw [htk]; rfl) fun ctx vm bs ck => ?_
      have h : (M.bind (M.idx c1 (i : Int)) fun x8 => M.pure ()).wp (fun _ => True) := ⟨p, hidx, trivial⟩
      refine PWc.seq ?_
      refine PWc.region ?_
      refine PWl.step (LR.lss rfl rfl) rfl ?_
      refine PWl.nil ?_
      refine PWc.seq ?_
      refine PWc.condT (congrArg (fun b => some (PV.d (.v (.bool b)))) (decide_eq_true (Int.ofNat_lt.2 hi))) ?_
      refine PWc.skip ?_
      refine PWc.seq ?_
      refine PWc.block ?_
      refine PWc.seq ?_
      refine PWc.region ?_
      replace h := iIdx h
      obtain ⟨x8, hy9, h⟩ := h
      have hE := idxU hy9 hidx
      subst hE
      refine PWl.step (LR.idxT (enc := TPart.e) (L := c1) (y := x8) Try.underlying24 Try.sizeOf101 rfl rfl hy9 (fun _ => rfl)) rfl ?_
      refine PWl.step (LR.loadEpAgg (ys := [_, _]) Try.isAgg101 Try.sizeOf101 rfl rfl rfl) rfl ?_
      refine PWl.step (LR.allocZ (cs := [_, _]) Try.zeroValue101 rfl rfl rfl rfl) rfl ?_
      refine PWl.step (LR.storeB (ns := [_, _]) Try.sizeOf101 rfl rfl rfl rfl rfl rfl rfl) rfl ?_
      refine PWl.nil ?_
      refine PWc.seq ?_
      refine PWc.region ?_
      refine PWl.step (LR.fieldRef Try.underlying101 rfl Try.sizeOf28 (by decide) rfl rfl) rfl ?_
      refine PWl.step (LR.loadRef Try.isAgg28 rfl rfl rfl) rfl ?_
      refine PWl.step (LR.gtr rfl rfl) rfl ?_
      refine PWl.nil ?_
      refine PWc.condF (congrArg (fun b => some (PV.d (.v (.bool b)))) (decide_eq_false hd)) ?_
      refine PWc.skip ?_
      refine PWc.region ?_
      refine PWl.step (LR.addW rfl rfl) rfl ?_
      refine PWl.step (LR.move rfl) rfl ?_
      refine PWl.nil ?_
      exact ⟨rfl, Sub.of rfl (.cons rfl rfl <| .cons rfl rfl <| .cons rfl rfl <| .cons rfl (congrArg (fun z => PV.d (.v (.int .i64 z))) hwi) <| .nil) (.cons rfl rfl <| .nil)⟩
  · have h : (M.pure ()).wp (fun _ => True) := trivial
    refine PWc.seq ?_
    refine PWc.region ?_
    refine PWl.step (LR.lss rfl rfl) rfl ?_
    refine PWl.nil ?_
    refine PWc.seq ?_
    refine PWc.condF (congrArg (fun b => some (PV.d (.v (.bool b)))) (decide_eq_false (by omega))) ?_
    refine PWc.exit ?_
    exact ⟨rfl, Sub.of rfl (.cons rfl rfl <| .nil) (.cons rfl rfl <| .nil)⟩
  · refine PWc.seq ?_
    refine PWc.region ?_
    refine PWl.step (LR.move rfl) rfl ?_
    refine PWl.step (LR.assign rfl) rfl ?_
    refine PWl.nil ?_
    refine PWc.ret ?_
    replace h : _ = r0 := h
    subst h
    exact ⟨.inr rfl, 2, 6, _, _, rfl, rfl, rfl⟩

theorem cmp_isNaN_uint64_ok (x1 : Int) (r0 : Bool) (h : (cmp_isNaN_uint64 x1).wp (· = r0)) : PFun Try.prog 172 [.d (.v (.int .u64 x1))] (.d (.v (.bool r0))) := by
  refine PFun.intro (sl := [(0, _)]) Try.func172 rfl Try.ntmps172 rfl rfl ?_
  intro ctx hK
  refine PWc.seq ?_
  refine PWc.region ?_
  refine PWl.step (LR.assign rfl) rfl ?_
  refine PWl.nil ?_
  refine PWc.seq ?_
  refine PWc.region ?_
  refine PWl.step (LR.move rfl) rfl ?_
  refine PWl.step (LR.move rfl) rfl ?_
  refine PWl.step (LR.neq rfl rfl) rfl ?_
  refine PWl.step (LR.assign rfl) rfl ?_
  refine PWl.nil ?_
  refine PWc.ret ?_
  replace h : _ = r0 := h
  subst h
  exact ⟨.inr rfl, _, .cons (.tmp rfl rfl) <| .nil, rfl⟩

theorem cmp_Compare_uint64_ok (x1 : Int) (y2 : Int) (r0 : Int) (h : (cmp_Compare_uint64 x1 y2).wp (· = r0)) : PFun Try.prog 143 [.d (.v (.int .u64 x1)), .d (.v (.int .u64 y2))] (.d (.v (.int .i64 r0))) := by
  refine PFun.intro (sl := [(0, _), (1, _)]) Try.func143 rfl Try.ntmps143 rfl rfl ?_
  intro ctx hK
  refine PWc.seq ?_
  refine PWc.region ?_
  refine PWl.step (LR.assign rfl) rfl ?_
  refine PWl.nil ?_
  refine PWc.seq ?_
  refine PWc.region ?_
  refine PWl.step (LR.move rfl) rfl ?_
  replace h := iDet h
  obtain ⟨v3, hy4, h⟩ := h
  refine PWl.step (LR.callN (cmp_isNaN_uint64_ok x1 v3 hy4) rfl Try.call172 rfl rfl rfl rfl) rfl ?_
  refine PWl.step (LR.assign rfl) rfl ?_
  refine PWl.nil ?_
  refine PWc.seq ?_
  refine PWc.region ?_
  refine PWl.step (LR.move rfl) rfl ?_
  replace h := iDet h
  obtain ⟨v5, hy6, h⟩ := h
  refine PWl.step (LR.callN (cmp_isNaN_uint64_ok y2 v5 hy6) rfl Try.call172 rfl rfl rfl rfl) rfl ?_
  refine PWl.step (LR.assign rfl) rfl ?_
  refine PWl.nil ?_
  refine PWc.seq ?_
  refine PWc.seq ?_
  refine PWc.region ?_
  refine PWl.step (LR.move rfl) rfl ?_
  refine PWl.nil ?_
  refine PWc.cond rfl (fun hc7 => ?_) (fun hc7 => ?_)
  · replace h := iT hc7 h
    refine PWc.seq ?_
    refine PWc.seq ?_
    refine PWc.region ?_
    refine PWl.step (LR.move rfl) rfl ?_
    refine PWl.nil ?_
    refine PWc.cond rfl (fun hc8 => ?_) (fun hc8 => ?_)
    · replace h := iT hc8 h
      refine PWc.seq ?_
      refine PWc.region ?_
      refine PWl.step (LR.assign rfl) rfl ?_
      refine PWl.nil ?_
      refine PWc.ret ?_
      replace h : _ = r0 := h
      subst h
      exact ⟨.inr rfl, _, .cons (.tmp rfl rfl) <| .nil, rfl⟩
    · replace h := iF hc8 h
      refine PWc.skip ?_
      refine PWc.seq ?_
      refine PWc.region ?_
      refine PWl.step (LR.assign rfl) rfl ?_
      refine PWl.nil ?_
      refine PWc.ret ?_
      replace h : _ = r0 := h
      subst h
      exact ⟨.inr rfl, _, .cons (.tmp rfl rfl) <| .nil, rfl⟩
  · replace h := iF hc7 h
    refine PWc.skip ?_
    refine PWc.seq ?_
    refine PWc.seq ?_
    refine PWc.region ?_
    refine PWl.step (LR.move rfl) rfl ?_
    refine PWl.nil ?_
    refine PWc.cond rfl (fun hc9 => ?_) (fun hc9 => ?_)
    · replace h := iT hc9 h
      refine PWc.seq ?_
      refine PWc.region ?_
      refine PWl.step (LR.assign rfl) rfl ?_
      refine PWl.nil ?_
      refine PWc.ret ?_
      replace h : _ = r0 := h
      subst h
      exact ⟨.inr rfl, _, .cons (.tmp rfl rfl) <| .nil, rfl⟩
    · replace h := iF hc9 h
      refine PWc.skip ?_
      refine PWc.seq ?_
      refine PWc.seq ?_
      refine PWc.region ?_
      refine PWl.step (LR.move rfl) rfl ?_
      refine PWl.step (LR.move rfl) rfl ?_
      refine PWl.step (LR.lss rfl rfl) rfl ?_
      refine PWl.nil ?_
      refine PWc.cond rfl (fun hc10 => ?_) (fun hc10 => ?_)
      · replace h := iT hc10 h
        refine PWc.seq ?_
        refine PWc.region ?_
        refine PWl.step (LR.assign rfl) rfl ?_
        refine PWl.nil ?_
        refine PWc.ret ?_
        replace h : _ = r0 := h
        subst h
        exact ⟨.inr rfl, _, .cons (.tmp rfl rfl) <| .nil, rfl⟩
      · replace h := iF hc10 h
        refine PWc.skip ?_
        refine PWc.seq ?_
        refine PWc.seq ?_
        refine PWc.region ?_
        refine PWl.step (LR.move rfl) rfl ?_
        refine PWl.step (LR.move rfl) rfl ?_
        refine PWl.step (LR.gtr rfl rfl) rfl ?_
        refine PWl.nil ?_
        refine PWc.cond rfl (fun hc11 => ?_) (fun hc11 => ?_)
        · replace h := iT hc11 h
          refine PWc.seq ?_
          refine PWc.region ?_
          refine PWl.step (LR.assign rfl) rfl ?_
          refine PWl.nil ?_
          refine PWc.ret ?_
          replace h : _ = r0 := h
          subst h
          exact ⟨.inr rfl, _, .cons (.tmp rfl rfl) <| .nil, rfl⟩
        · replace h := iF hc11 h
          refine PWc.skip ?_
          refine PWc.seq ?_
          refine PWc.region ?_
          refine PWl.step (LR.assign rfl) rfl ?_
          refine PWl.nil ?_
          refine PWc.ret ?_
          replace h : _ = r0 := h
          subst h
          exact ⟨.inr rfl, _, .cons (.tmp rfl rfl) <| .nil, rfl⟩

theorem runs_Norm_c1_ok (a1 : TRun) (b2 : TRun) (r0 : Int) (h : (runs_Norm_c1 a1 b2).wp (· = r0)) : PFun Try.prog 170 [.agg (List.map .d (TRun.e a1)), .agg (List.map .d (TRun.e b2))] (.d (.v (.int .i64 r0))) := by
  refine PFun.intro (sl := [(0, _), (1, _)]) Try.func170 rfl Try.ntmps170 rfl rfl ?_
  intro ctx hK
  refine PWc.seq ?_
  refine PWc.region ?_
  refine PWl.step (LR.box rfl rfl rfl rfl) rfl ?_
  refine PWl.step (LR.box rfl rfl rfl rfl) rfl ?_
  refine PWl.step (LR.assign rfl) rfl ?_
  refine PWl.nil ?_
  refine PWc.seq ?_
  refine PWc.region ?_
  refine PWl.step (LR.fieldRef Try.underlying114 rfl Try.sizeOf36 (by decide) rfl rfl) rfl ?_
  refine PWl.step (LR.loadRef Try.isAgg36 rfl rfl rfl) rfl ?_
  refine PWl.step (LR.fieldRef Try.underlying114 rfl Try.sizeOf36 (by decide) rfl rfl) rfl ?_
  refine PWl.step (LR.loadRef Try.isAgg36 rfl rfl rfl) rfl ?_
  replace h := iDet h
  obtain ⟨v3, hy4, h⟩ := h
  refine PWl.step (LR.callN (cmp_Compare_uint64_ok a1.lo b2.lo v3 hy4) rfl Try.call143 rfl rfl rfl rfl) rfl ?_
  refine PWl.step (LR.assign rfl) rfl ?_
  refine PWl.nil ?_
  refine PWc.ret ?_
  replace h : _ = r0 := h
  subst h
  exact ⟨.inr rfl, _, .cons (.tmp rfl rfl) <| .nil, rfl⟩

theorem runs_Norm_ok (l1 : List TRun) (r0 : List TRun) (h : (runs_Norm l1).wp (· = r0)) : PRow Try.prog 138 [.d (.sl (List.map TRun.e l1))] 114 2 (List.map TRun.e r0) := by
  refine PRow.intro (sl := [(0, _)]) Try.func138 rfl Try.ntmps138 rfl rfl ?_
  intro ctx hK
  refine PWc.seq ?_
  refine PWc.region ?_
  refine PWl.step (LR.assignNilRow 114 2 rfl) rfl ?_
  refine PWl.nil ?_
  refine PWc.seq ?_
  refine PWc.region ?_
  refine PWl.step (LR.assignNilRow 114 2 rfl) rfl ?_
  refine PWl.nil ?_
  refine PWc.seq ?_
  refine PWc.seq ?_
  refine PWc.region ?_
  refine PWl.step (LR.move rfl) rfl ?_
  refine PWl.step (LR.lenMap (enc := TRun.e) (L := l1) Try.underlying34 rfl) rfl ?_
  refine PWl.step (LR.move rfl) rfl ?_
  refine PWl.nil ?_
  refine PWc.jn (iBind h) (fun (some2 : List TRun) (_ : Unit) => ⟨78, [(3, .row 3 (List.length some2))], [(3, .row 114 2 (List.map TRun.e some2))]⟩) (fun h => ?_) ?_
  · refine PWc.block ?_
    refine PWc.loopM (fun (⟨v23, some24⟩ : Int × List TRun) (_ : Unit) => ⟨78, [(3, .row 3 (List.length some24)), (10, .d (.sl (List.map TRun.e l1))), (11, .d (.v (.int .i64 (List.length l1 : Int)))), (12, .d (.v (.int .i64 v23)))], [(3, .row 114 2 (List.map TRun.e some24))]⟩) () h (Sub.of rfl (.cons rfl rfl <| .cons rfl rfl <| .cons rfl rfl <| .cons rfl rfl <| .nil) (.cons rfl rfl <| .nil)) ?_
    rintro N ⟨v23, some24⟩ _ h
    refine PWc.seq ?_
    refine PWc.region ?_
    refine PWl.step (LR.lss rfl rfl) rfl ?_
    refine PWl.nil ?_
    refine PWc.seq ?_
    refine PWc.cond rfl (fun hc25 => ?_) (fun hc25 => ?_)
    · replace h := iT hc25 h
      refine PWc.skip ?_
      refine PWc.seq ?_
      refine PWc.jn (iBind h) (fun (some26 : List TRun) (_ : Unit) => ⟨78, [(3, .row 3 (List.length some26)), (10, .d (.sl (List.map TRun.e l1))), (11, .d (.v (.int .i64 (List.length l1 : Int)))), (12, .d (.v (.int .i64 v23)))], [(3, .row 114 2 (List.map TRun.e some26))]⟩) (fun h => ?_) ?_
      · refine PWc.block ?_
        refine PWc.seq ?_
        refine PWc.region ?_
        replace h := iIdx h
        obtain ⟨x27, hy28, h⟩ := h
        refine PWl.step (LR.idxT (enc := TRun.e) (L := l1) (y := x27) Try.underlying34 Try.sizeOf114 rfl rfl hy28 (fun _ => rfl)) rfl ?_
        refine PWl.step (LR.loadEpAgg (ys := [_, _]) Try.isAgg114 Try.sizeOf114 rfl rfl rfl) rfl ?_
        refine PWl.step (LR.allocZ (cs := [_, _]) Try.zeroValue114 rfl rfl rfl rfl) rfl ?_
        refine PWl.step (LR.storeB (ns := [_, _]) Try.sizeOf114 rfl rfl rfl rfl rfl rfl rfl) rfl ?_
        refine PWl.nil ?_
        refine PWc.seq ?_
        refine PWc.jn (iBind h) (fun (v29 : Bool) (_ : Unit) => ⟨78, [(3, .row 3 (List.length some24)), (5, .ref 5 0), (10, .d (.sl (List.map TRun.e l1))), (11, .d (.v (.int .i64 (List.length l1 : Int)))), (12, .d (.v (.int .i64 v23))), (30, .d (.v (.bool v29)))], [(3, .row 114 2 (List.map TRun.e some24)), (5, .cells 114 [.d (.v (.int .u64 x27.lo)), .d (.v (.int .u64 x27.hi))])]⟩) (fun h => ?_) ?_
        · refine PWc.region ?_
          refine PWl.step (LR.fieldRef Try.underlying114 rfl Try.sizeOf36 (by decide) rfl rfl) rfl ?_
          refine PWl.step (LR.loadRef Try.isAgg36 rfl rfl rfl) rfl ?_
          refine PWl.step (LR.gtr rfl rfl) rfl ?_
          refine PWl.step (LR.move rfl) rfl ?_
          refine PWl.split (d := 19) rfl (fun hg30 => ?_) (fun hg30 => ?_)
          · replace h := iT hg30 h
            refine PWl.guardT (LR.fieldRef Try.underlying114 rfl Try.sizeOf36 (by decide) rfl rfl) rfl rfl rfl ?_
            refine PWl.guardT (LR.loadRef Try.isAgg36 rfl rfl rfl) rfl rfl rfl ?_
            refine PWl.guardT (LR.fieldRef Try.underlying114 rfl Try.sizeOf36 (by decide) rfl rfl) rfl rfl rfl ?_
            refine PWl.guardT (LR.loadRef Try.isAgg36 rfl rfl rfl) rfl rfl rfl ?_
            refine PWl.guardT (LR.leq rfl rfl) rfl rfl rfl ?_
            refine PWl.step (LR.pickT rfl rfl) rfl ?_
            refine PWl.step (LR.move rfl) rfl ?_
            refine PWl.split (d := 26) rfl (fun hg31 => ?_) (fun hg31 => ?_)
            · replace h := iT hg31 h
              refine PWl.re (tl := [(3, _), (5, _), (10, _), (11, _), (12, _), (20, _), (21, _), (22, _), (23, _), (24, _), (26, _)]) (to := [(3, _), (5, _)]) rfl (.cons rfl rfl <| .cons rfl rfl <| .cons rfl rfl <| .cons rfl rfl <| .cons rfl rfl <| .cons rfl rfl <| .cons rfl rfl <| .cons rfl rfl <| .cons rfl rfl <| .cons rfl rfl <| .cons rfl rfl <| .nil) (.cons rfl rfl <| .cons rfl rfl <| .nil) ?_
              refine PWl.guardT (LR.fieldRef Try.underlying114 rfl Try.sizeOf36 (by decide) rfl rfl) rfl rfl rfl ?_
              refine PWl.guardT (LR.loadRef Try.isAgg36 rfl rfl rfl) rfl rfl rfl ?_
              refine PWl.guardT (LR.leq rfl rfl) rfl rfl rfl ?_
              refine PWl.step (LR.pickT rfl rfl) rfl ?_
              refine PWl.nil ?_
              exact ⟨(decide (x27.hi ≤ 281474976710655)), (), h, Sub.of rfl (.cons rfl rfl <| .cons rfl rfl <| .cons rfl rfl <| .cons rfl rfl <| .cons rfl rfl <| .cons rfl rfl <| .nil) (.cons rfl rfl <| .cons rfl rfl <| .nil)⟩
            · replace h := iF hg31 h
              refine PWl.re (tl := [(3, _), (5, _), (10, _), (11, _), (12, _), (20, _), (21, _), (22, _), (23, _), (24, _), (26, _)]) (to := [(3, _), (5, _)]) rfl (.cons rfl rfl <| .cons rfl rfl <| .cons rfl rfl <| .cons rfl rfl <| .cons rfl rfl <| .cons rfl rfl <| .cons rfl rfl <| .cons rfl rfl <| .cons rfl rfl <| .cons rfl rfl <| .cons rfl rfl <| .nil) (.cons rfl rfl <| .cons rfl rfl <| .nil) ?_
              refine PWl.guardF rfl rfl rfl (by decide) ?_
              refine PWl.guardF rfl rfl rfl (by decide) ?_
              refine PWl.guardF rfl rfl rfl (by decide) ?_
              refine PWl.step (LR.pickF rfl rfl) rfl ?_
              refine PWl.nil ?_
              exact ⟨false, (), h, Sub.of rfl (.cons rfl rfl <| .cons rfl rfl <| .cons rfl rfl <| .cons rfl rfl <| .cons rfl rfl <| .cons rfl rfl <| .nil) (.cons rfl rfl <| .cons rfl rfl <| .nil)⟩
          · replace h := iF hg30 h
            refine PWl.guardF rfl rfl rfl (by decide) ?_
            refine PWl.guardF rfl rfl rfl (by decide) ?_
            refine PWl.guardF rfl rfl rfl (by decide) ?_
            refine PWl.guardF rfl rfl rfl (by decide) ?_
            refine PWl.guardF rfl rfl rfl (by decide) ?_
            refine PWl.step (LR.pickF rfl rfl) rfl ?_
            refine PWl.step (LR.move rfl) rfl ?_
            refine PWl.guardF rfl rfl rfl (by decide) ?_
            refine PWl.re (tl := [(3, _), (5, _), (10, _), (11, _), (12, _), (20, _), (21, _), (22, _), (23, _), (24, _), (26, _), (27, _)]) (to := [(3, _), (5, _)]) rfl (.cons rfl rfl <| .cons rfl rfl <| .cons rfl rfl <| .cons rfl rfl <| .cons rfl rfl <| .cons rfl rfl <| .cons rfl rfl <| .cons rfl rfl <| .cons rfl rfl <| .cons rfl rfl <| .cons rfl rfl <| .cons rfl rfl <| .nil) (.cons rfl rfl <| .cons rfl rfl <| .nil) ?_
            refine PWl.guardF rfl rfl rfl (by decide) ?_
            refine PWl.guardF rfl rfl rfl (by decide) ?_
            refine PWl.step (LR.pickF rfl rfl) rfl ?_
            refine PWl.nil ?_
            exact ⟨false, (), h, Sub.of rfl (.cons rfl rfl <| .cons rfl rfl <| .cons rfl rfl <| .cons rfl rfl <| .cons rfl rfl <| .cons rfl rfl <| .nil) (.cons rfl rfl <| .cons rfl rfl <| .nil)⟩
        · rintro v29 _ h
          refine PWc.cond rfl (fun hc32 => ?_) (fun hc32 => ?_)
          · replace h := iT hc32 h
            refine PWc.region ?_
            refine PWl.step (LR.move rfl) rfl ?_
            refine PWl.step (LR.loadRefAgg (ps := [_, _]) Try.isAgg114 Try.sizeOf114 rfl rfl rfl rfl) rfl ?_
            refine PWl.step (LR.buildSliceD [.tmp 32] elem34 rfl rfl (.cons rfl rfl rfl <| .nil) (by decide) (by decide)) rfl ?_
            replace h := iNeed h
            obtain ⟨hy33, h⟩ := h
            refine PWl.step (LR.appT (enc := TRun.e) (L := some24) (R := [x27]) [3, 31] elem34 Try.underlying34 rfl rfl rfl (Src.slT (enc := TRun.e) (R := [x27]) rfl (fun _ => rfl)) (fun _ => rfl) hy33 rfl rfl) rfl ?_
            refine PWl.step (LR.assign rfl) rfl ?_
            refine PWl.nil ?_
            exact ⟨(some24 ++ [x27]), (), h, Sub.of rfl (.cons rfl rfl <| .cons rfl rfl <| .cons rfl rfl <| .cons rfl rfl <| .nil) (.cons rfl rfl <| .nil)⟩
          · replace h := iF hc32 h
            refine PWc.skip ?_
            exact ⟨some24, (), h, Sub.of rfl (.cons rfl rfl <| .cons rfl rfl <| .cons rfl rfl <| .cons rfl rfl <| .nil) (.cons rfl rfl <| .nil)⟩
      · rintro some26 _ h
        refine PWc.region ?_
        refine PWl.step (LR.addW rfl rfl) rfl ?_
        refine PWl.step (LR.move rfl) rfl ?_
        refine PWl.nil ?_
        exact ⟨((IntKind.i64.wrap (v23 + 1)), some26), (), h, Sub.of rfl (.cons rfl rfl <| .cons rfl rfl <| .cons rfl rfl <| .cons rfl rfl <| .nil) (.cons rfl rfl <| .nil)⟩
    · replace h := iF hc25 h
      refine PWc.exit ?_
      exact ⟨some24, (), h, Sub.of rfl (.cons rfl rfl <| .nil) (.cons rfl rfl <| .nil)⟩
  · rintro some2 _ h
    refine PWc.seq ?_
    refine PWc.region ?_
    refine PWl.step (LR.move rfl) rfl ?_
    replace h := iNeed h
    obtain ⟨hy35, h⟩ := h
    refine PWl.sortFn (encD := TRun.e) (enc := TRun.v) (l := some2) srt169_170 (fun _ => rfl) TRun.v1 (fun _ => rfl) rfl Try.call169 rfl rfl rfl (by simp) hy35 rfl (fun s34 hy36 hy37 => ?_)
    replace h := iSrt h s34 hy36 hy37
    have hy36l := hy36.length_eq
    refine PWl.nil ?_
    refine PWc.seq ?_
    refine PWc.region ?_
    refine PWl.step (LR.assignNilRow 114 2 rfl) rfl ?_
    refine PWl.nil ?_
    refine PWc.seq ?_
    refine PWc.seq ?_
    refine PWc.region ?_
    refine PWl.step (LR.move rfl) rfl ?_
    refine PWl.step (LR.lenRow Try.underlying34 rfl) rfl ?_
    refine PWl.step (LR.move rfl) rfl ?_
    refine PWl.nil ?_
    refine PWc.jn (iBind h) (fun (out38 : List TRun) (_ : Unit) => ⟨78, [(6, .row 6 (List.length out38))], [(6, .row 114 2 (List.map TRun.e out38))]⟩) (fun h => ?_) ?_
    · refine PWc.block ?_
      refine PWc.loopM (fun (⟨v69, out70⟩ : Int × List TRun) (_ : Unit) => ⟨78, [(6, .row 6 (List.length out70)), (38, .row 3 (List.length some2)), (39, .d (.v (.int .i64 ((List.length some2) : Int)))), (40, .d (.v (.int .i64 v69)))], [(3, .row 114 2 (List.map TRun.e s34)), (6, .row 114 2 (List.map TRun.e out70))]⟩) () h (Sub.of rfl (.cons rfl rfl <| .cons rfl (by first | rfl | (simp; done) | (congr 1; first | (simp; done) | (simp; omega))) <| .cons rfl rfl <| .cons rfl rfl <| .nil) (.cons rfl rfl <| .cons rfl rfl <| .nil)) ?_
      rintro N ⟨v69, out70⟩ _ h
      refine PWc.seq ?_
      refine PWc.region ?_
      refine PWl.step (LR.lss rfl rfl) rfl ?_
      refine PWl.nil ?_
      refine PWc.seq ?_
      refine PWc.cond rfl (fun hc71 => ?_) (fun hc71 => ?_)
      · replace h := iT hc71 h
        refine PWc.skip ?_
        refine PWc.seq ?_
        refine PWc.jn (iBind h) (fun (out72 : List TRun) (_ : Unit) => ⟨78, [(6, .row 6 (List.length out72)), (38, .row 3 (List.length some2)), (39, .d (.v (.int .i64 ((List.length some2) : Int)))), (40, .d (.v (.int .i64 v69)))], [(3, .row 114 2 (List.map TRun.e s34)), (6, .row 114 2 (List.map TRun.e out72))]⟩) (fun h => ?_) ?_
        · refine PWc.block ?_
          refine PWc.seq ?_
          refine PWc.region ?_
          replace h := iIdx h
          obtain ⟨x73, hy74, h⟩ := h
          refine PWl.step (LR.idxRowT (L := s34) (y := x73) Try.underlying34 Try.sizeOf114 rfl (by first | (simp; done) | (simp; omega) | omega) rfl hy74) rfl ?_
          refine PWl.step (LR.loadRpT (enc := TRun.e) (L := s34) (y := x73) Try.isAgg114 Try.sizeOf114 rfl rfl hy74.2) rfl ?_
          refine PWl.step (LR.allocZ (cs := [_, _]) Try.zeroValue114 rfl rfl rfl rfl) rfl ?_
          refine PWl.step (LR.storeB (ns := [_, _]) Try.sizeOf114 rfl rfl rfl rfl rfl rfl rfl) rfl ?_
          refine PWl.nil ?_
          refine PWc.seq ?_
          refine PWc.seq ?_
          refine PWc.region ?_
          refine PWl.step (LR.move rfl) rfl ?_
          refine PWl.step (LR.lenRow Try.underlying34 rfl) rfl ?_
          refine PWl.step (LR.subW rfl rfl) rfl ?_
          refine PWl.step (LR.assign rfl) rfl ?_
          refine PWl.nil ?_
          refine PWc.seq ?_
          refine PWc.jn (iBind h) (fun (v75 : Bool) (_ : Unit) => ⟨78, [(6, .row 6 (List.length out70)), (8, .ref 8 0), (9, .d (.v (.int .i64 ((IntKind.i64.wrap (((List.length out70) : Int) - 1)))))), (38, .row 3 (List.length some2)), (39, .d (.v (.int .i64 ((List.length some2) : Int)))), (40, .d (.v (.int .i64 v69))), (59, .d (.v (.bool v75)))], [(3, .row 114 2 (List.map TRun.e s34)), (6, .row 114 2 (List.map TRun.e out70)), (8, .cells 114 [.d (.v (.int .u64 x73.lo)), .d (.v (.int .u64 x73.hi))])]⟩) (fun h => ?_) ?_
          · refine PWc.regionD (by kernel_rfl) (by kernel_rfl) ?_
            refine PQl.step (fun _ he ho => LR.move (he rfl rfl)) rfl ?_
            refine PQl.step (fun _ he ho => LR.geq (he rfl rfl) (he rfl rfl)) rfl ?_
            refine PQl.step (fun _ he ho => LR.move (he rfl rfl)) rfl ?_
            refine PQl.split (d := 49) rfl (fun hg76 => ?_) (fun hg76 => ?_)
            · replace h := iT hg76 h
              refine PQl.guardT (fun _ he ho => LR.fieldRef Try.underlying114 rfl Try.sizeOf36 (by decide) rfl (he rfl rfl)) rfl rfl rfl ?_
              refine PQl.guardT (fun _ he ho => LR.loadRef Try.isAgg36 (he rfl rfl) (ho rfl) rfl) rfl rfl rfl ?_
              refine PQl.guardT (fun _ he ho => LR.move (he rfl rfl)) rfl rfl rfl ?_
              refine PQl.guardT (fun _ he ho => LR.move (he rfl rfl)) rfl rfl rfl ?_
              replace h := iIdx h
              obtain ⟨x77, hy78, h⟩ := h
              refine PQl.guardT (fun _ he ho => LR.idxRowT (L := out70) (y := x77) Try.underlying34 Try.sizeOf114 (he rfl rfl) rfl (he rfl rfl) hy78) rfl rfl rfl ?_
              refine PQl.guardT (fun _ he ho => LR.fieldRp Try.underlying114 rfl Try.sizeOf36 (by decide) rfl (he rfl rfl)) rfl rfl rfl ?_
              refine PQl.guardT (fun _ he ho => LR.loadRpF (enc := TRun.e) (L := out70) (y := x77) Try.isAgg36 (he rfl rfl) (ho rfl) hy78.2 rfl) rfl rfl rfl ?_
              refine PQl.guardT (fun _ he ho => LR.addW (he rfl rfl) (he rfl rfl)) rfl rfl rfl ?_
              refine PQl.guardT (fun _ he ho => LR.leq (he rfl rfl) (he rfl rfl)) rfl rfl rfl ?_
              refine PQl.step (fun _ he ho => LR.pickT (he rfl rfl) (he rfl rfl)) rfl ?_
              refine PQl.nil ?_
              exact ⟨(decide (x73.lo ≤ (IntKind.u64.wrap (x77.hi + 1)))), (), h, Sub.of rfl (.cons rfl rfl <| .cons rfl rfl <| .cons rfl rfl <| .cons rfl (by first | rfl | (simp; done) | (congr 1; first | (simp; done) | (simp; omega))) <| .cons rfl rfl <| .cons rfl rfl <| .cons rfl rfl <| .nil) (.cons rfl rfl <| .cons rfl rfl <| .cons rfl rfl <| .nil)⟩
            · replace h := iF hg76 h
              refine PQl.guardF rfl rfl rfl (by decide) ?_
              refine PQl.guardF rfl rfl rfl (by decide) ?_
              refine PQl.guardF rfl rfl rfl (by decide) ?_
              refine PQl.guardF rfl rfl rfl (by decide) ?_
              refine PQl.guardF rfl rfl rfl (by decide) ?_
              refine PQl.guardF rfl rfl rfl (by decide) ?_
              refine PQl.guardF rfl rfl rfl (by decide) ?_
              refine PQl.guardF rfl rfl rfl (by decide) ?_
              refine PQl.guardF rfl rfl rfl (by decide) ?_
              refine PQl.step (fun _ he ho => LR.pickF (he rfl rfl) (he rfl rfl)) rfl ?_
              refine PQl.nil ?_
              exact ⟨false, (), h, Sub.of rfl (.cons rfl rfl <| .cons rfl rfl <| .cons rfl rfl <| .cons rfl (by first | rfl | (simp; done) | (congr 1; first | (simp; done) | (simp; omega))) <| .cons rfl rfl <| .cons rfl rfl <| .cons rfl rfl <| .nil) (.cons rfl rfl <| .cons rfl rfl <| .cons rfl rfl <| .nil)⟩
          · rintro v75 _ h
            refine PWc.cond rfl (fun hc79 => ?_) (fun hc79 => ?_)
            · replace h := iT hc79 h
              refine PWc.seq ?_
              refine PWc.re (tl := [(6, _), (8, _), (9, _), (38, _), (39, _), (40, _)]) (to := [(3, _), (6, _), (8, _)]) rfl (.cons rfl rfl <| .cons rfl rfl <| .cons rfl rfl <| .cons rfl rfl <| .cons rfl rfl <| .cons rfl rfl <| .nil) (.cons rfl rfl <| .cons rfl rfl <| .cons rfl rfl <| .nil) ?_
              refine PWc.regionE [⟨[60], [], [], [], [], [6], [], []⟩, ⟨[61], [], [], [], [], [], [], []⟩, ⟨[62], [], [], [], [], [6], [], []⟩, ⟨[63], [], [], [], [], [], [], []⟩, ⟨[64], [], [], [], [], [6], [], []⟩, ⟨[65], [], [], [], [], [6], [], []⟩, ⟨[66], [], [6], [], [], [], [], []⟩, ⟨[67], [], [], [], [], [8], [], []⟩, ⟨[68], [], [8], [], [], [], [], []⟩, ⟨[69], [], [], [], [], [], [], []⟩, ⟨[70], [], [], [], [], [6], [], []⟩, ⟨[71], [], [], [], [], [6], [], []⟩, ⟨[], [6], [6], [], [], [], [], []⟩] (by kernel_rfl) (by kernel_rfl) rfl ?_
              refine PQe.stepP (fun _ he ho => LR.move (he rfl rfl)) (.inl rfl) rfl ?_
              refine PQe.stepP (fun _ he ho => LR.move (he rfl rfl)) (.inl rfl) rfl ?_
              refine PQe.stepP (fun _ he ho => LR.move (he rfl rfl)) (.inl rfl) rfl ?_
              refine PQe.stepP (fun _ he ho => LR.move (he rfl rfl)) (.inl rfl) rfl ?_
              replace h := iIdx h
              obtain ⟨x80, hy81, h⟩ := h
              refine PQe.stepP (fun _ he ho => LR.idxRowT (L := out70) (y := x80) Try.underlying34 Try.sizeOf114 (he rfl rfl) rfl (he rfl rfl) hy81) (.inl rfl) rfl ?_
              refine PQe.stepP (fun _ he ho => LR.fieldRp Try.underlying114 rfl Try.sizeOf36 (by decide) rfl (he rfl rfl)) (.inl rfl) rfl ?_
              refine PQe.stepP (fun _ he ho => LR.loadRpF (enc := TRun.e) (L := out70) (y := x80) Try.isAgg36 (he rfl rfl) (ho rfl rfl) hy81.2 rfl) (.inl rfl) rfl ?_
              refine PQe.stepP (fun _ he ho => LR.fieldRef Try.underlying114 rfl Try.sizeOf36 (by decide) rfl (he rfl rfl)) (.inl rfl) rfl ?_
              refine PQe.stepP (fun _ he ho => LR.loadRef Try.isAgg36 (he rfl rfl) (ho rfl rfl) rfl) (.inl rfl) rfl ?_
              refine PQe.stepP (fun _ he ho => LR.maxI (he rfl rfl) (he rfl rfl)) (.inl rfl) rfl ?_
              replace h := iIdx h
              obtain ⟨x82, hy83, h⟩ := h
              refine PQe.stepP (fun _ he ho => LR.idxRowT (L := out70) (y := x82) Try.underlying34 Try.sizeOf114 (he rfl rfl) rfl (he rfl rfl) hy83) (.inl rfl) rfl ?_
              refine PQe.stepP (fun _ he ho => LR.fieldRp Try.underlying114 rfl Try.sizeOf36 (by decide) rfl (he rfl rfl)) (.inl rfl) rfl ?_
              refine PQe.stepS (fun _ he ho => LR.storeRpT (enc := TRun.e) (L := out70) (a := x82) (b := (⟨x82.lo, (max x80.hi x73.hi)⟩ : TRun)) Try.sizeOf36 (he rfl rfl) (he rfl rfl) rfl rfl (ho rfl rfl) hy83.2 rfl rfl) (.inl rfl) rfl ?_
              refine PQe.nil ?_
              refine PWc.exit ?_
              exact ⟨(List.set out70 ((Int.toNat ((IntKind.i64.wrap (((List.length out70) : Int) - 1))))) (⟨x82.lo, (max x80.hi x73.hi)⟩ : TRun)), (), h, Sub.of rfl (.cons rfl (by first | rfl | (simp; done) | (congr 1; first | (simp; done) | (simp; omega))) <| .cons rfl (by first | rfl | (simp; done) | (congr 1; first | (simp; done) | (simp; omega))) <| .cons rfl rfl <| .cons rfl rfl <| .nil) (.cons rfl rfl <| .cons rfl rfl <| .nil)⟩
            · replace h := iF hc79 h
              refine PWc.skip ?_
              refine PWc.region ?_
              refine PWl.step (LR.move rfl) rfl ?_
              refine PWl.step (LR.loadRefAgg (ps := [_, _]) Try.isAgg114 Try.sizeOf114 rfl rfl rfl rfl) rfl ?_
              refine PWl.step (LR.buildSliceD [.tmp 73] elem34 rfl rfl (.cons rfl rfl rfl <| .nil) (by decide) (by decide)) rfl ?_
              replace h := iNeed h
              obtain ⟨hy84, h⟩ := h
              refine PWl.step (LR.appT (enc := TRun.e) (L := out70) (R := [x73]) [6, 72] elem34 Try.underlying34 rfl rfl rfl (Src.slT (enc := TRun.e) (R := [x73]) rfl (fun _ => rfl)) (fun _ => rfl) hy84 rfl rfl) rfl ?_
              refine PWl.step (LR.assign rfl) rfl ?_
              refine PWl.nil ?_
              exact ⟨(out70 ++ [x73]), (), h, Sub.of rfl (.cons rfl rfl <| .cons rfl (by first | rfl | (simp; done) | (congr 1; first | (simp; done) | (simp; omega))) <| .cons rfl rfl <| .cons rfl rfl <| .nil) (.cons rfl rfl <| .cons rfl rfl <| .nil)⟩
        · rintro out72 _ h
          refine PWc.region ?_
          refine PWl.step (LR.addW rfl rfl) rfl ?_
          refine PWl.step (LR.move rfl) rfl ?_
          refine PWl.nil ?_
          exact ⟨((IntKind.i64.wrap (v69 + 1)), out72), (), h, Sub.of rfl (.cons rfl rfl <| .cons rfl (by first | rfl | (simp; done) | (congr 1; first | (simp; done) | (simp; omega))) <| .cons rfl rfl <| .cons rfl rfl <| .nil) (.cons rfl rfl <| .cons rfl rfl <| .nil)⟩
      · replace h := iF hc71 h
        refine PWc.exit ?_
        exact ⟨out70, (), h, Sub.of rfl (.cons rfl rfl <| .nil) (.cons rfl rfl <| .nil)⟩
    · rintro out38 _ h
      refine PWc.seq ?_
      refine PWc.region ?_
      refine PWl.step (LR.move rfl) rfl ?_
      refine PWl.step (LR.assign rfl) rfl ?_
      refine PWl.nil ?_
      refine PWc.ret ?_
      replace h : _ = r0 := h
      subst h
      exact ⟨.inr rfl, 2, rfl, .inr ⟨6, _, rfl, (by simp), rfl⟩⟩

theorem ctx_Runs_ok (c1 : List TPart) (dev2 : Int) (r0 : List TRun) (h : (ctx_Runs c1 dev2).wp (· = r0)) : PRow Try.prog 92 [.d (.sl (List.map TPart.e c1)), .d (.v (.int .u16 dev2))] 114 2 (List.map TRun.e r0) := by
  refine PRow.intro (sl := [(0, _), (1, _)]) Try.func92 rfl Try.ntmps92 rfl rfl ?_
  intro ctx hK
  refine PWc.seq ?_
  refine PWc.region ?_
  refine PWl.step (LR.assignNilRow 114 2 rfl) rfl ?_
  refine PWl.nil ?_
  refine PWc.seq ?_
  refine PWc.region ?_
  refine PWl.step (LR.move rfl) rfl ?_
  replace h := iDet h
  obtain ⟨v3, hy4, h⟩ := h
  refine PWl.mapN (ctx_told_ok c1 v3 hy4) rfl Try.call130 rfl rfl rfl rfl rfl (fun bs5 ck5 _ => ?_)
  refine PWl.step (LR.move rfl) rfl ?_
  refine PWl.step (LR.getO (eV := (eL TRun.e)) (zv := ([] : List TRun)) (q := dev2) (m := v3) kI_inj Try.underlying126 key126 Try.zeroValue34 (zRd1 (.slice none 0 0) rfl) rfl rfl rfl rfl rfl rfl) rfl ?_
  replace h := iDet h
  obtain ⟨v6, hy7, h⟩ := h
  refine PWl.step (LR.rowN (runs_Norm_ok (AL.getZ v3 dev2 ([] : List TRun)) v6 hy7) rfl Try.call138 rfl rfl rfl rfl) rfl ?_
  refine PWl.re (tl := [(0, _), (1, _), (5, _), (6, _), (7, _), (8, _), (9, _)]) (to := [(6, _), (9, _)]) rfl (.cons rfl rfl <| .cons rfl rfl <| .cons rfl rfl <| .cons rfl rfl <| .cons rfl rfl <| .cons rfl rfl <| .cons rfl rfl <| .nil) (.cons rfl rfl <| .cons rfl rfl <| .nil) ?_
  refine PWl.step (LR.assign rfl) rfl ?_
  refine PWl.nil ?_
  refine PWc.ret ?_
  replace h : _ = r0 := h
  subst h
  exact ⟨.inr rfl, 4, rfl, .inr ⟨9, _, rfl, (by simp), rfl⟩⟩
end Go.Proofs

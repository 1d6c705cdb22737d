/- Texts that the walks and laws lean on, side by side. -/
import Derived.Test.YtfngolkgligbfaaGreatMmt2
import Derived.Test.YtfngolkgligbfaaGreatMmt3
import Derived.Test.YtfngolkgligbfaaGreatMmt4
import Derived.Test.YtfngolkgligbfaaGreatMmt5
import Derived.Test.YtfngolkgligbfaaGreatMmt7
import Derived.Test.YtfngolkgligbfaaGreatMmt9
import Derived.Test.YtfngolkgligbfaaGreatMmt10
set_option linter.unusedVariables false
set_option linter.unusedSimpArgs false
namespace Go.Proofs
open Go.Ep
set_option maxHeartbeats 1000000
set_option maxRecDepth 100000
set_option linter.unusedVariables false
set_option linter.unusedSimpArgs false


theorem r13_Same_ok (a1 : TEvent) (b2 : TEvent) (r0 : Bool) (h : (r13_Same a1 b2).wp (· = r0)) : PFun Tryz.prog 59 [.agg (List.map .d (TEvent.e a1)), .agg (List.map .d (TEvent.e b2))] (.d (.v (.bool r0))) := by
 refine fI (sl := [(0, _), (1, _)]) Tryz.func59 rfl Tryz.ntmps59 rfl rfl ?_;intro ctx hK;refine wQ ?_;refine wR ?_;refine wS (LR.box rfl rfl rfl rfl) rfl ?_;refine wS (LR.box rfl rfl rfl rfl) rfl ?_;refine wS (aS rfl) rfl ?_;refine wN ?_;refine wQ ?_;refine wJ (iBind h) (fun (v3 : Bool) (_ : Unit) => ⟨45, [(4, .d (.v (.bool v3)))], []⟩) (fun h => ?_) ?_
 ·refine wR ?_;refine wS (fR Tryz.underlying34 rfl Tryz.sizeOf31 (by decide) rfl rfl) rfl ?_;refine wS (lA (ps := [_, _]) Tryz.isAgg31 Tryz.sizeOf31 rfl rfl rfl rfl) rfl ?_;refine wS (fR Tryz.underlying34 rfl Tryz.sizeOf31 (by decide) rfl rfl) rfl ?_;refine wS (lA (ps := [_, _]) Tryz.isAgg31 Tryz.sizeOf31 rfl rfl rfl rfl) rfl ?_;refine wS (LR.eqlAgg rfl rfl rfl rfl eq31) rfl ?_;refine wS (mV rfl) rfl ?_;refine wL (d := 10) rfl (fun hg4 => ?_) (fun hg4 => ?_)
  ·replace h := iT hg4 h;refine wT (fR Tryz.underlying34 rfl Tryz.sizeOf5 (by decide) rfl rfl) rfl rfl rfl ?_;refine wT (lD Tryz.isAgg5 rfl rfl rfl) rfl rfl rfl ?_;refine wT (fR Tryz.underlying34 rfl Tryz.sizeOf5 (by decide) rfl rfl) rfl rfl rfl ?_;refine wT (lD Tryz.isAgg5 rfl rfl rfl) rfl rfl rfl ?_;refine wT (eQ rfl rfl) rfl rfl rfl ?_;refine wS (pT rfl rfl) rfl ?_;refine wS (mV rfl) rfl ?_;refine wL (d := 17) rfl (fun hg5 => ?_) (fun hg5 => ?_)
   ·replace h := iT hg5 h;refine wT (fR Tryz.underlying34 rfl Tryz.sizeOf29 (by decide) rfl rfl) rfl rfl rfl ?_;refine wE (tl := [(2, _), (3, _), (4, _), (17, _), (18, _)]) (to := [(2, _), (3, _)]) rfl (.c4 rfl rfl rfl rfl rfl rfl rfl rfl <| .cons rfl rfl <| .nil) (.c2 rfl rfl rfl rfl <| .nil) ?_;refine wT (lD Tryz.isAgg29 rfl rfl rfl) rfl rfl rfl ?_;refine wT (fR Tryz.underlying34 rfl Tryz.sizeOf29 (by decide) rfl rfl) rfl rfl rfl ?_;refine wT (lD Tryz.isAgg29 rfl rfl rfl) rfl rfl rfl ?_;refine wT (eQ rfl rfl) rfl rfl rfl ?_;refine wS (pT rfl rfl) rfl ?_;refine wS (mV rfl) rfl ?_;refine wL (d := 24) rfl (fun hg6 => ?_) (fun hg6 => ?_)
    ·replace h := iT hg6 h;refine wT (fR Tryz.underlying34 rfl Tryz.sizeOf5 (by decide) rfl rfl) rfl rfl rfl ?_;refine wT (lD Tryz.isAgg5 rfl rfl rfl) rfl rfl rfl ?_;refine wT (fR Tryz.underlying34 rfl Tryz.sizeOf5 (by decide) rfl rfl) rfl rfl rfl ?_;refine wT (lD Tryz.isAgg5 rfl rfl rfl) rfl rfl rfl ?_;refine wT (eQ rfl rfl) rfl rfl rfl ?_;refine wS (pT rfl rfl) rfl ?_;refine wS (mV rfl) rfl ?_;refine wL (d := 31) rfl (fun hg7 => ?_) (fun hg7 => ?_)
     ·replace h := iT hg7 h;refine wT (fR Tryz.underlying34 rfl Tryz.sizeOf9 (by decide) rfl rfl) rfl rfl rfl ?_;refine wE (tl := [(2, _), (3, _), (4, _), (31, _), (32, _)]) (to := [(2, _), (3, _)]) rfl (.c4 rfl rfl rfl rfl rfl rfl rfl rfl <| .cons rfl rfl <| .nil) (.c2 rfl rfl rfl rfl <| .nil) ?_;refine wT (lD Tryz.isAgg9 rfl rfl rfl) rfl rfl rfl ?_;refine wT (fR Tryz.underlying34 rfl Tryz.sizeOf9 (by decide) rfl rfl) rfl rfl rfl ?_;refine wT (lD Tryz.isAgg9 rfl rfl rfl) rfl rfl rfl ?_;refine wT (LR.eqlStr rfl rfl) rfl rfl rfl ?_;refine wS (pT rfl rfl) rfl ?_;refine wS (mV rfl) rfl ?_;refine wL (d := 38) rfl (fun hg8 => ?_) (fun hg8 => ?_)
      ·replace h := iT hg8 h;refine wT (fR Tryz.underlying34 rfl Tryz.sizeOf32 (by decide) rfl rfl) rfl rfl rfl ?_;refine wT (lD Tryz.isAgg32 rfl rfl rfl) rfl rfl rfl ?_;refine wT (fR Tryz.underlying34 rfl Tryz.sizeOf32 (by decide) rfl rfl) rfl rfl rfl ?_;refine wT (lD Tryz.isAgg32 rfl rfl rfl) rfl rfl rfl ?_;replace h := iDet h;obtain ⟨v9, hy10, h⟩ := h;refine wT (cN (r07_Same_ok a1.kills b2.kills v9 hy10) rfl Tryz.call146 rfl rfl rfl rfl) rfl rfl rfl ?_;refine wS (pT rfl rfl) rfl ?_;refine wS (aS rfl) rfl ?_;refine wN ?_;exact ⟨v9, (), h, sO rfl (.cons rfl rfl <| .nil) (.nil)⟩
      ·replace h := iF hg8 h;refine wF rfl rfl rfl (by decide) ?_;refine wF rfl rfl rfl (by decide) ?_;refine wF rfl rfl rfl (by decide) ?_;refine wF rfl rfl rfl (by decide) ?_;refine wF rfl rfl rfl (by decide) ?_;refine wS (pF rfl rfl) rfl ?_;refine wS (aS rfl) rfl ?_;refine wN ?_;exact ⟨false, (), h, sO rfl (.cons rfl rfl <| .nil) (.nil)⟩
     ·replace h := iF hg7 h;refine wF rfl rfl rfl (by decide) ?_;refine wE (tl := [(2, _), (3, _), (4, _), (31, _), (32, _)]) (to := [(2, _), (3, _)]) rfl (.c4 rfl rfl rfl rfl rfl rfl rfl rfl <| .cons rfl rfl <| .nil) (.c2 rfl rfl rfl rfl <| .nil) ?_;refine wF rfl rfl rfl (by decide) ?_;refine wF rfl rfl rfl (by decide) ?_;refine wF rfl rfl rfl (by decide) ?_;refine wF rfl rfl rfl (by decide) ?_;refine wS (pF rfl rfl) rfl ?_;refine wS (mV rfl) rfl ?_;refine wF rfl rfl rfl (by decide) ?_;refine wF rfl rfl rfl (by decide) ?_;refine wF rfl rfl rfl (by decide) ?_;refine wF rfl rfl rfl (by decide) ?_;refine wF rfl rfl rfl (by decide) ?_;refine wS (pF rfl rfl) rfl ?_;refine wS (aS rfl) rfl ?_;refine wN ?_;exact ⟨false, (), h, sO rfl (.cons rfl rfl <| .nil) (.nil)⟩
    ·replace h := iF hg6 h;refine wF rfl rfl rfl (by decide) ?_;refine wF rfl rfl rfl (by decide) ?_;refine wF rfl rfl rfl (by decide) ?_;refine wF rfl rfl rfl (by decide) ?_;refine wF rfl rfl rfl (by decide) ?_;refine wS (pF rfl rfl) rfl ?_;refine wS (mV rfl) rfl ?_;refine wF rfl rfl rfl (by decide) ?_;refine wF rfl rfl rfl (by decide) ?_;refine wE (tl := [(2, _), (3, _), (4, _), (31, _), (33, _)]) (to := [(2, _), (3, _)]) rfl (.c4 rfl rfl rfl rfl rfl rfl rfl rfl <| .cons rfl rfl <| .nil) (.c2 rfl rfl rfl rfl <| .nil) ?_;refine wF rfl rfl rfl (by decide) ?_;refine wF rfl rfl rfl (by decide) ?_;refine wF rfl rfl rfl (by decide) ?_;refine wS (pF rfl rfl) rfl ?_;refine wS (mV rfl) rfl ?_;refine wF rfl rfl rfl (by decide) ?_;refine wF rfl rfl rfl (by decide) ?_;refine wF rfl rfl rfl (by decide) ?_;refine wF rfl rfl rfl (by decide) ?_;refine wF rfl rfl rfl (by decide) ?_;refine wS (pF rfl rfl) rfl ?_;refine wS (aS rfl) rfl ?_;refine wN ?_;exact ⟨false, (), h, sO rfl (.cons rfl rfl <| .nil) (.nil)⟩
   ·replace h := iF hg5 h;refine wF rfl rfl rfl (by decide) ?_;refine wE (tl := [(2, _), (3, _), (4, _), (17, _), (18, _)]) (to := [(2, _), (3, _)]) rfl (.c4 rfl rfl rfl rfl rfl rfl rfl rfl <| .cons rfl rfl <| .nil) (.c2 rfl rfl rfl rfl <| .nil) ?_;refine wF rfl rfl rfl (by decide) ?_;refine wF rfl rfl rfl (by decide) ?_;refine wF rfl rfl rfl (by decide) ?_;refine wF rfl rfl rfl (by decide) ?_;refine wS (pF rfl rfl) rfl ?_;refine wS (mV rfl) rfl ?_;refine wF rfl rfl rfl (by decide) ?_;refine wF rfl rfl rfl (by decide) ?_;refine wF rfl rfl rfl (by decide) ?_;refine wF rfl rfl rfl (by decide) ?_;refine wF rfl rfl rfl (by decide) ?_;refine wS (pF rfl rfl) rfl ?_;refine wS (mV rfl) rfl ?_;refine wF rfl rfl rfl (by decide) ?_;refine wF rfl rfl rfl (by decide) ?_;refine wF rfl rfl rfl (by decide) ?_;refine wE (tl := [(2, _), (3, _), (4, _), (31, _), (33, _), (34, _)]) (to := [(2, _), (3, _)]) rfl (.c4 rfl rfl rfl rfl rfl rfl rfl rfl <| .c2 rfl rfl rfl rfl <| .nil) (.c2 rfl rfl rfl rfl <| .nil) ?_;refine wF rfl rfl rfl (by decide) ?_;refine wF rfl rfl rfl (by decide) ?_;refine wS (pF rfl rfl) rfl ?_;refine wS (mV rfl) rfl ?_;refine wF rfl rfl rfl (by decide) ?_;refine wF rfl rfl rfl (by decide) ?_;refine wF rfl rfl rfl (by decide) ?_;refine wF rfl rfl rfl (by decide) ?_;refine wF rfl rfl rfl (by decide) ?_;refine wS (pF rfl rfl) rfl ?_;refine wS (aS rfl) rfl ?_;refine wN ?_;exact ⟨false, (), h, sO rfl (.cons rfl rfl <| .nil) (.nil)⟩
  ·replace h := iF hg4 h;refine wF rfl rfl rfl (by decide) ?_;refine wF rfl rfl rfl (by decide) ?_;refine wF rfl rfl rfl (by decide) ?_;refine wF rfl rfl rfl (by decide) ?_;refine wF rfl rfl rfl (by decide) ?_;refine wS (pF rfl rfl) rfl ?_;refine wS (mV rfl) rfl ?_;refine wF rfl rfl rfl (by decide) ?_;refine wF rfl rfl rfl (by decide) ?_;refine wE (tl := [(2, _), (3, _), (4, _), (17, _), (19, _)]) (to := [(2, _), (3, _)]) rfl (.c4 rfl rfl rfl rfl rfl rfl rfl rfl <| .cons rfl rfl <| .nil) (.c2 rfl rfl rfl rfl <| .nil) ?_;refine wF rfl rfl rfl (by decide) ?_;refine wF rfl rfl rfl (by decide) ?_;refine wF rfl rfl rfl (by decide) ?_;refine wS (pF rfl rfl) rfl ?_;refine wS (mV rfl) rfl ?_;refine wF rfl rfl rfl (by decide) ?_;refine wF rfl rfl rfl (by decide) ?_;refine wF rfl rfl rfl (by decide) ?_;refine wF rfl rfl rfl (by decide) ?_;refine wF rfl rfl rfl (by decide) ?_;refine wS (pF rfl rfl) rfl ?_;refine wS (mV rfl) rfl ?_;refine wF rfl rfl rfl (by decide) ?_;refine wF rfl rfl rfl (by decide) ?_;refine wF rfl rfl rfl (by decide) ?_;refine wF rfl rfl rfl (by decide) ?_;refine wE (tl := [(2, _), (3, _), (4, _), (31, _), (33, _), (35, _)]) (to := [(2, _), (3, _)]) rfl (.c4 rfl rfl rfl rfl rfl rfl rfl rfl <| .c2 rfl rfl rfl rfl <| .nil) (.c2 rfl rfl rfl rfl <| .nil) ?_;refine wF rfl rfl rfl (by decide) ?_;refine wS (pF rfl rfl) rfl ?_;refine wS (mV rfl) rfl ?_;refine wF rfl rfl rfl (by decide) ?_;refine wF rfl rfl rfl (by decide) ?_;refine wF rfl rfl rfl (by decide) ?_;refine wF rfl rfl rfl (by decide) ?_;refine wF rfl rfl rfl (by decide) ?_;refine wS (pF rfl rfl) rfl ?_;refine wS (aS rfl) rfl ?_;refine wN ?_;exact ⟨false, (), h, sO rfl (.cons rfl rfl <| .nil) (.nil)⟩
 ·rintro v3 _ h;refine wX ?_;replace h : _ = r0 := h;subst h;exact ⟨.inr rfl, _, .cons (.tmp rfl rfl) <| .nil, rfl⟩

theorem r13_All_ok (a1 : List TEvent) (b2 : List TEvent) (r0 : Bool) (h : (r13_All a1 b2).wp (· = r0)) : PFun Tryz.prog 26 [.d (.sl (List.map TEvent.e a1)), .d (.sl (List.map TEvent.e b2))] (.d (.v (.bool r0))) := by
 refine fI (sl := [(0, _), (1, _)]) Tryz.func26 rfl Tryz.ntmps26 rfl rfl ?_;intro ctx hK;refine wQ ?_;refine wR ?_;refine wS (aS rfl) rfl ?_;refine wN ?_;refine wQ ?_;refine wQ ?_;refine wR ?_;refine wS (mV rfl) rfl ?_;refine wS (lM (enc := TEvent.e) (L := a1) Tryz.underlying22 rfl) rfl ?_;refine wS (mV rfl) rfl ?_;refine wS (lM (enc := TEvent.e) (L := b2) Tryz.underlying22 rfl) rfl ?_;refine wS (nQ rfl rfl) rfl ?_;refine wN ?_;refine wC rfl (fun hc3 => ?_) (fun hc3 => ?_)
 ·replace h := iT hc3 h;refine wQ ?_;refine wR ?_;refine wS (aS rfl) rfl ?_;refine wN ?_;refine wX ?_;replace h : _ = r0 := h;subst h;exact ⟨.inr rfl, _, .cons (.tmp rfl rfl) <| .nil, rfl⟩
 ·replace h := iF hc3 h;refine wK ?_;refine wQ ?_;refine wQ ?_;refine wR ?_;refine wS (aS rfl) rfl ?_;refine wN ?_;refine PWc.jnX (iBind h) (fun (_ : Unit) (_ : Unit) => ⟨27, [], []⟩) (fun h => ?_) ?_
  ·refine wB ?_;refine wM (fun (i21 : Int) (_ : Unit) => ⟨27, [(0, .d (.sl (List.map TEvent.e a1))), (1, .d (.sl (List.map TEvent.e b2))), (5, .d (.v (.int .i64 i21)))], []⟩) () h (sO rfl (.c2 rfl rfl rfl rfl <| .cons rfl rfl <| .nil) (.nil)) ?_;rintro N i21 _ h;refine wQ ?_;refine wQ ?_;refine wR ?_;refine wS (mV rfl) rfl ?_;refine wS (mV rfl) rfl ?_;refine wS (lM (enc := TEvent.e) (L := a1) Tryz.underlying22 rfl) rfl ?_;refine wS (LR.lss rfl rfl) rfl ?_;refine wN ?_;refine wC rfl (fun hc22 => ?_) (fun hc22 => ?_)
   ·replace h := iT hc22 h;refine wK ?_;refine wQ ?_;refine wB ?_;refine wQ ?_;refine wD (by kernel_rfl) (by kernel_rfl) ?_;refine qS (fun _ he ho => mV (he rfl rfl)) rfl ?_;refine qS (fun _ he ho => mV (he rfl rfl)) rfl ?_;replace h := iIdx h;obtain ⟨x23, hy24, h⟩ := h;refine qS (fun _ he ho => iX (enc := TEvent.e) (L := a1) (y := x23) Tryz.underlying22 Tryz.sizeOf34 (he rfl rfl) (he rfl rfl) hy24 (fun _ => rfl)) rfl ?_;refine qS (fun _ he ho => lE (ys := [_, _, _, _, _, _, _]) Tryz.isAgg34 Tryz.sizeOf34 (he rfl rfl) rfl rfl) rfl ?_;refine qS (fun _ he ho => mV (he rfl rfl)) rfl ?_;refine qS (fun _ he ho => mV (he rfl rfl)) rfl ?_;replace h := iIdx h;obtain ⟨x25, hy26, h⟩ := h;refine qS (fun _ he ho => iX (enc := TEvent.e) (L := b2) (y := x25) Tryz.underlying22 Tryz.sizeOf34 (he rfl rfl) (he rfl rfl) hy26 (fun _ => rfl)) rfl ?_;refine qS (fun _ he ho => lE (ys := [_, _, _, _, _, _, _]) Tryz.isAgg34 Tryz.sizeOf34 (he rfl rfl) rfl rfl) rfl ?_;replace h := iDet h;obtain ⟨v27, hy28, h⟩ := h;refine qS (fun _ he ho => cN (r13_Same_ok x23 x25 v27 hy28) (he rfl rfl) Tryz.call59 (evsE he rfl rfl) rfl rfl rfl) rfl ?_;refine qS (fun _ he ho => LR.not (he rfl rfl)) rfl ?_;refine qN ?_;refine wC rfl (fun hc29 => ?_) (fun hc29 => ?_)
    ·replace h := iT hc29 h;refine wQ ?_;refine wR ?_;refine wS (aS rfl) rfl ?_;refine wN ?_;refine wX ?_;replace h : _ = r0 := h;subst h;exact ⟨.inr rfl, _, .cons (.tmp rfl rfl) <| .nil, rfl⟩
    ·replace h := iF hc29 h;refine wK ?_;refine wR ?_;refine wS (mV rfl) rfl ?_;refine wS (LR.addW rfl rfl) rfl ?_;refine wS (aS rfl) rfl ?_;refine wN ?_;exact ⟨(IntKind.i64.wrap (i21 + 1)), (), h, sO rfl (.c2 rfl rfl rfl rfl <| .cons rfl rfl <| .nil) (.nil)⟩
   ·replace h := iF hc22 h;refine wZ ?_;exact ⟨(), (), h, sO rfl (.nil) (.nil)⟩
  ·rintro _ _ h;refine wQ ?_;refine wR ?_;refine wS (aS rfl) rfl ?_;refine wN ?_;refine wX ?_;replace h : _ = r0 := h;subst h;exact ⟨.inr rfl, _, .cons (.tmp rfl rfl) <| .nil, rfl⟩

theorem r20_Same_ok (a1 : TDelta) (b2 : TDelta) (r0 : Bool) (h : (r20_Same a1 b2).wp (· = r0)) : PFun Tryz.prog 76 [.agg (List.map .d (TDelta.e a1)), .agg (List.map .d (TDelta.e b2))] (.d (.v (.bool r0))) := by
 refine fI (sl := [(0, _), (1, _)]) Tryz.func76 rfl Tryz.ntmps76 rfl rfl ?_;intro ctx hK;refine wQ ?_;refine wR ?_;refine wS (LR.box rfl rfl rfl rfl) rfl ?_;refine wS (LR.box rfl rfl rfl rfl) rfl ?_;refine wS (aS rfl) rfl ?_;refine wN ?_;refine wQ ?_;refine wJ (iBind h) (fun (v3 : Bool) (_ : Unit) => ⟨24, [(4, .d (.v (.bool v3)))], []⟩) (fun h => ?_) ?_
 ·refine wR ?_;refine wS (fR Tryz.underlying49 rfl Tryz.sizeOf42 (by decide) rfl rfl) rfl ?_;refine wS (lD Tryz.isAgg42 rfl rfl rfl) rfl ?_;refine wS (fR Tryz.underlying49 rfl Tryz.sizeOf42 (by decide) rfl rfl) rfl ?_;refine wS (lD Tryz.isAgg42 rfl rfl rfl) rfl ?_;replace h := iDet h;obtain ⟨v4, hy5, h⟩ := h;refine wS (cN (r09_Same_ok a1.from_ b2.from_ v4 hy5) rfl Tryz.call113 rfl rfl rfl rfl) rfl ?_;refine wS (mV rfl) rfl ?_;refine wL (d := 10) rfl (fun hg6 => ?_) (fun hg6 => ?_)
  ·replace h := iT hg6 h;refine wT (fR Tryz.underlying49 rfl Tryz.sizeOf42 (by decide) rfl rfl) rfl rfl rfl ?_;refine wT (lD Tryz.isAgg42 rfl rfl rfl) rfl rfl rfl ?_;refine wT (fR Tryz.underlying49 rfl Tryz.sizeOf42 (by decide) rfl rfl) rfl rfl rfl ?_;refine wT (lD Tryz.isAgg42 rfl rfl rfl) rfl rfl rfl ?_;replace h := iDet h;obtain ⟨v7, hy8, h⟩ := h;refine wT (cN (r09_Same_ok a1.to_ b2.to_ v7 hy8) rfl Tryz.call113 rfl rfl rfl rfl) rfl rfl rfl ?_;refine wS (pT rfl rfl) rfl ?_;refine wS (mV rfl) rfl ?_;refine wL (d := 17) rfl (fun hg9 => ?_) (fun hg9 => ?_)
   ·replace h := iT hg9 h;refine wT (fR Tryz.underlying49 rfl Tryz.sizeOf22 (by decide) rfl rfl) rfl rfl rfl ?_;refine wE (tl := [(3, _), (4, _), (17, _), (18, _)]) (to := [(2, _), (3, _)]) rfl (.c4 rfl rfl rfl rfl rfl rfl rfl rfl <| .nil) (.c2 rfl rfl rfl rfl <| .nil) ?_;refine wT (lD Tryz.isAgg22 rfl rfl rfl) rfl rfl rfl ?_;refine wT (fR Tryz.underlying49 rfl Tryz.sizeOf22 (by decide) rfl rfl) rfl rfl rfl ?_;refine wT (lD Tryz.isAgg22 rfl rfl rfl) rfl rfl rfl ?_;replace h := iDet h;obtain ⟨v10, hy11, h⟩ := h;refine wT (cN (r13_All_ok a1.events b2.events v10 hy11) rfl Tryz.call26 rfl rfl rfl rfl) rfl rfl rfl ?_;refine wS (pT rfl rfl) rfl ?_;refine wS (aS rfl) rfl ?_;refine wN ?_;exact ⟨v10, (), h, sO rfl (.cons rfl rfl <| .nil) (.nil)⟩
   ·replace h := iF hg9 h;refine wF rfl rfl rfl (by decide) ?_;refine wE (tl := [(3, _), (4, _), (17, _), (18, _)]) (to := [(3, _)]) rfl (.c4 rfl rfl rfl rfl rfl rfl rfl rfl <| .nil) (.cons rfl rfl <| .nil) ?_;refine wF rfl rfl rfl (by decide) ?_;refine wF rfl rfl rfl (by decide) ?_;refine wF rfl rfl rfl (by decide) ?_;refine wF rfl rfl rfl (by decide) ?_;refine wS (pF rfl rfl) rfl ?_;refine wS (aS rfl) rfl ?_;refine wN ?_;exact ⟨false, (), h, sO rfl (.cons rfl rfl <| .nil) (.nil)⟩
  ·replace h := iF hg6 h;refine wF rfl rfl rfl (by decide) ?_;refine wF rfl rfl rfl (by decide) ?_;refine wF rfl rfl rfl (by decide) ?_;refine wF rfl rfl rfl (by decide) ?_;refine wF rfl rfl rfl (by decide) ?_;refine wS (pF rfl rfl) rfl ?_;refine wS (mV rfl) rfl ?_;refine wF rfl rfl rfl (by decide) ?_;refine wF rfl rfl rfl (by decide) ?_;refine wE (tl := [(3, _), (4, _), (17, _), (19, _)]) (to := [(3, _)]) rfl (.c4 rfl rfl rfl rfl rfl rfl rfl rfl <| .nil) (.cons rfl rfl <| .nil) ?_;refine wF rfl rfl rfl (by decide) ?_;refine wF rfl rfl rfl (by decide) ?_;refine wF rfl rfl rfl (by decide) ?_;refine wS (pF rfl rfl) rfl ?_;refine wS (aS rfl) rfl ?_;refine wN ?_;exact ⟨false, (), h, sO rfl (.cons rfl rfl <| .nil) (.nil)⟩
 ·rintro v3 _ h;refine wX ?_;replace h : _ = r0 := h;subst h;exact ⟨.inr rfl, _, .cons (.tmp rfl rfl) <| .nil, rfl⟩

theorem r27_Same_ok (a1 : TMsg) (b2 : TMsg) (r0 : Bool) (h : (r27_Same a1 b2).wp (· = r0)) : PFun Tryz.prog 34 [.agg (List.map .d (TMsg.e a1)), .agg (List.map .d (TMsg.e b2))] (.d (.v (.bool r0))) := by
 refine fI (sl := [(0, _), (1, _)]) Tryz.func34 rfl Tryz.ntmps34 rfl rfl ?_;intro ctx hK;refine wQ ?_;refine wR ?_;refine wS (LR.box rfl rfl rfl rfl) rfl ?_;refine wS (LR.box rfl rfl rfl rfl) rfl ?_;refine wS (aS rfl) rfl ?_;refine wN ?_;refine wQ ?_;refine wQ ?_;refine wJ (iBind h) (fun (v3 : Bool) (_ : Unit) => ⟨64, [(2, .ref 2 0), (3, .ref 3 0), (44, .d (.v (.bool v3)))], [(2, .cells 51 [.d (.v (.int .u8 a1.kind)), .d (.v (.int .u8 a1.slot)), .d (.v (.int .u64 a1.try_)), .d (.v (.int .u16 a1.dev)), .d (.v (.int .u64 a1.epoch)), .d (.v (.int .u8 a1.why)), .d (.sl (List.map TPart.e a1.have_)), .d (.sl (List.map TPart.e a1.front)), .d (.sl (List.map TPart.e a1.delta.from_)), .d (.sl (List.map TPart.e a1.delta.to_)), .d (.sl (List.map TEvent.e a1.delta.events))]), (3, .cells 51 [.d (.v (.int .u8 b2.kind)), .d (.v (.int .u8 b2.slot)), .d (.v (.int .u64 b2.try_)), .d (.v (.int .u16 b2.dev)), .d (.v (.int .u64 b2.epoch)), .d (.v (.int .u8 b2.why)), .d (.sl (List.map TPart.e b2.have_)), .d (.sl (List.map TPart.e b2.front)), .d (.sl (List.map TPart.e b2.delta.from_)), .d (.sl (List.map TPart.e b2.delta.to_)), .d (.sl (List.map TEvent.e b2.delta.events))])]⟩) (fun h => ?_) ?_
 ·refine wR ?_;refine wS (fR Tryz.underlying51 rfl Tryz.sizeOf5 (by decide) rfl rfl) rfl ?_;refine wS (lD Tryz.isAgg5 rfl rfl rfl) rfl ?_;refine wS (fR Tryz.underlying51 rfl Tryz.sizeOf5 (by decide) rfl rfl) rfl ?_;refine wS (lD Tryz.isAgg5 rfl rfl rfl) rfl ?_;refine wS (nQ rfl rfl) rfl ?_;refine wS (mV rfl) rfl ?_;refine wL (d := 10) rfl (fun hg4 => ?_) (fun hg4 => ?_)
  ·replace h := iT hg4 h;refine wF rfl rfl rfl (by decide) ?_;refine wF rfl rfl rfl (by decide) ?_;refine wF rfl rfl rfl (by decide) ?_;refine wF rfl rfl rfl (by decide) ?_;refine wF rfl rfl rfl (by decide) ?_;refine wS (pT rfl rfl) rfl ?_;refine wS (mV rfl) rfl ?_;refine wF rfl rfl rfl (by decide) ?_;refine wF rfl rfl rfl (by decide) ?_;refine wE (tl := [(2, _), (3, _), (17, _), (19, _)]) (to := [(2, _), (3, _)]) rfl (.c4 rfl rfl rfl rfl rfl rfl rfl rfl <| .nil) (.c2 rfl rfl rfl rfl <| .nil) ?_;refine wF rfl rfl rfl (by decide) ?_;refine wF rfl rfl rfl (by decide) ?_;refine wF rfl rfl rfl (by decide) ?_;refine wS (pT rfl rfl) rfl ?_;refine wS (mV rfl) rfl ?_;refine wF rfl rfl rfl (by decide) ?_;refine wF rfl rfl rfl (by decide) ?_;refine wF rfl rfl rfl (by decide) ?_;refine wF rfl rfl rfl (by decide) ?_;refine wF rfl rfl rfl (by decide) ?_;refine wS (pT rfl rfl) rfl ?_;refine wS (mV rfl) rfl ?_;refine wF rfl rfl rfl (by decide) ?_;refine wF rfl rfl rfl (by decide) ?_;refine wF rfl rfl rfl (by decide) ?_;refine wF rfl rfl rfl (by decide) ?_;refine wF rfl rfl rfl (by decide) ?_;refine wE (tl := [(2, _), (3, _), (31, _), (36, _)]) (to := [(2, _), (3, _)]) rfl (.c4 rfl rfl rfl rfl rfl rfl rfl rfl <| .nil) (.c2 rfl rfl rfl rfl <| .nil) ?_;refine wS (pT rfl rfl) rfl ?_;refine wS (mV rfl) rfl ?_;refine wF rfl rfl rfl (by decide) ?_;refine wF rfl rfl rfl (by decide) ?_;refine wF rfl rfl rfl (by decide) ?_;refine wF rfl rfl rfl (by decide) ?_;refine wF rfl rfl rfl (by decide) ?_;refine wS (pT rfl rfl) rfl ?_;refine wN ?_;exact ⟨true, (), h, sO rfl (.c2 rfl rfl rfl rfl <| .cons rfl rfl <| .nil) (.c2 rfl rfl rfl rfl <| .nil)⟩
  ·replace h := iF hg4 h;refine wT (fR Tryz.underlying51 rfl Tryz.sizeOf5 (by decide) rfl rfl) rfl rfl rfl ?_;refine wT (lD Tryz.isAgg5 rfl rfl rfl) rfl rfl rfl ?_;refine wT (fR Tryz.underlying51 rfl Tryz.sizeOf5 (by decide) rfl rfl) rfl rfl rfl ?_;refine wT (lD Tryz.isAgg5 rfl rfl rfl) rfl rfl rfl ?_;refine wT (nQ rfl rfl) rfl rfl rfl ?_;refine wS (pF rfl rfl) rfl ?_;refine wS (mV rfl) rfl ?_;refine wL (d := 17) rfl (fun hg5 => ?_) (fun hg5 => ?_)
   ·replace h := iT hg5 h;refine wF rfl rfl rfl (by decide) ?_;refine wE (tl := [(2, _), (3, _), (17, _), (18, _)]) (to := [(2, _), (3, _)]) rfl (.c4 rfl rfl rfl rfl rfl rfl rfl rfl <| .nil) (.c2 rfl rfl rfl rfl <| .nil) ?_;refine wF rfl rfl rfl (by decide) ?_;refine wF rfl rfl rfl (by decide) ?_;refine wF rfl rfl rfl (by decide) ?_;refine wF rfl rfl rfl (by decide) ?_;refine wS (pT rfl rfl) rfl ?_;refine wS (mV rfl) rfl ?_;refine wF rfl rfl rfl (by decide) ?_;refine wF rfl rfl rfl (by decide) ?_;refine wF rfl rfl rfl (by decide) ?_;refine wF rfl rfl rfl (by decide) ?_;refine wF rfl rfl rfl (by decide) ?_;refine wS (pT rfl rfl) rfl ?_;refine wS (mV rfl) rfl ?_;refine wF rfl rfl rfl (by decide) ?_;refine wF rfl rfl rfl (by decide) ?_;refine wF rfl rfl rfl (by decide) ?_;refine wF rfl rfl rfl (by decide) ?_;refine wE (tl := [(2, _), (3, _), (31, _), (33, _), (35, _)]) (to := [(2, _), (3, _)]) rfl (.c4 rfl rfl rfl rfl rfl rfl rfl rfl <| .cons rfl rfl <| .nil) (.c2 rfl rfl rfl rfl <| .nil) ?_;refine wF rfl rfl rfl (by decide) ?_;refine wS (pT rfl rfl) rfl ?_;refine wS (mV rfl) rfl ?_;refine wF rfl rfl rfl (by decide) ?_;refine wF rfl rfl rfl (by decide) ?_;refine wF rfl rfl rfl (by decide) ?_;refine wF rfl rfl rfl (by decide) ?_;refine wF rfl rfl rfl (by decide) ?_;refine wS (pT rfl rfl) rfl ?_;refine wN ?_;exact ⟨true, (), h, sO rfl (.c2 rfl rfl rfl rfl <| .cons rfl rfl <| .nil) (.c2 rfl rfl rfl rfl <| .nil)⟩
   ·replace h := iF hg5 h;refine wT (fR Tryz.underlying51 rfl Tryz.sizeOf29 (by decide) rfl rfl) rfl rfl rfl ?_;refine wE (tl := [(2, _), (3, _), (17, _), (18, _)]) (to := [(2, _), (3, _)]) rfl (.c4 rfl rfl rfl rfl rfl rfl rfl rfl <| .nil) (.c2 rfl rfl rfl rfl <| .nil) ?_;refine wT (lD Tryz.isAgg29 rfl rfl rfl) rfl rfl rfl ?_;refine wT (fR Tryz.underlying51 rfl Tryz.sizeOf29 (by decide) rfl rfl) rfl rfl rfl ?_;refine wT (lD Tryz.isAgg29 rfl rfl rfl) rfl rfl rfl ?_;refine wT (nQ rfl rfl) rfl rfl rfl ?_;refine wS (pF rfl rfl) rfl ?_;refine wS (mV rfl) rfl ?_;refine wL (d := 24) rfl (fun hg6 => ?_) (fun hg6 => ?_)
    ·replace h := iT hg6 h;refine wF rfl rfl rfl (by decide) ?_;refine wF rfl rfl rfl (by decide) ?_;refine wF rfl rfl rfl (by decide) ?_;refine wF rfl rfl rfl (by decide) ?_;refine wF rfl rfl rfl (by decide) ?_;refine wS (pT rfl rfl) rfl ?_;refine wS (mV rfl) rfl ?_;refine wF rfl rfl rfl (by decide) ?_;refine wF rfl rfl rfl (by decide) ?_;refine wF rfl rfl rfl (by decide) ?_;refine wE (tl := [(2, _), (3, _), (31, _), (33, _), (34, _)]) (to := [(2, _), (3, _)]) rfl (.c4 rfl rfl rfl rfl rfl rfl rfl rfl <| .cons rfl rfl <| .nil) (.c2 rfl rfl rfl rfl <| .nil) ?_;refine wF rfl rfl rfl (by decide) ?_;refine wF rfl rfl rfl (by decide) ?_;refine wS (pT rfl rfl) rfl ?_;refine wS (mV rfl) rfl ?_;refine wF rfl rfl rfl (by decide) ?_;refine wF rfl rfl rfl (by decide) ?_;refine wF rfl rfl rfl (by decide) ?_;refine wF rfl rfl rfl (by decide) ?_;refine wF rfl rfl rfl (by decide) ?_;refine wS (pT rfl rfl) rfl ?_;refine wN ?_;exact ⟨true, (), h, sO rfl (.c2 rfl rfl rfl rfl <| .cons rfl rfl <| .nil) (.c2 rfl rfl rfl rfl <| .nil)⟩
    ·replace h := iF hg6 h;refine wT (fR Tryz.underlying51 rfl Tryz.sizeOf28 (by decide) rfl rfl) rfl rfl rfl ?_;refine wT (lD Tryz.isAgg28 rfl rfl rfl) rfl rfl rfl ?_;refine wT (fR Tryz.underlying51 rfl Tryz.sizeOf28 (by decide) rfl rfl) rfl rfl rfl ?_;refine wT (lD Tryz.isAgg28 rfl rfl rfl) rfl rfl rfl ?_;refine wT (nQ rfl rfl) rfl rfl rfl ?_;refine wS (pF rfl rfl) rfl ?_;refine wS (mV rfl) rfl ?_;refine wL (d := 31) rfl (fun hg7 => ?_) (fun hg7 => ?_)
     ·replace h := iT hg7 h;refine wF rfl rfl rfl (by decide) ?_;refine wF rfl rfl rfl (by decide) ?_;refine wE (tl := [(2, _), (3, _), (31, _), (33, _)]) (to := [(2, _), (3, _)]) rfl (.c4 rfl rfl rfl rfl rfl rfl rfl rfl <| .nil) (.c2 rfl rfl rfl rfl <| .nil) ?_;refine wF rfl rfl rfl (by decide) ?_;refine wF rfl rfl rfl (by decide) ?_;refine wF rfl rfl rfl (by decide) ?_;refine wS (pT rfl rfl) rfl ?_;refine wS (mV rfl) rfl ?_;refine wF rfl rfl rfl (by decide) ?_;refine wF rfl rfl rfl (by decide) ?_;refine wF rfl rfl rfl (by decide) ?_;refine wF rfl rfl rfl (by decide) ?_;refine wF rfl rfl rfl (by decide) ?_;refine wS (pT rfl rfl) rfl ?_;refine wN ?_;exact ⟨true, (), h, sO rfl (.c2 rfl rfl rfl rfl <| .cons rfl rfl <| .nil) (.c2 rfl rfl rfl rfl <| .nil)⟩
     ·replace h := iF hg7 h;refine wT (fR Tryz.underlying51 rfl Tryz.sizeOf29 (by decide) rfl rfl) rfl rfl rfl ?_;refine wT (lD Tryz.isAgg29 rfl rfl rfl) rfl rfl rfl ?_;refine wE (tl := [(2, _), (3, _), (31, _), (33, _)]) (to := [(2, _), (3, _)]) rfl (.c4 rfl rfl rfl rfl rfl rfl rfl rfl <| .nil) (.c2 rfl rfl rfl rfl <| .nil) ?_;refine wT (fR Tryz.underlying51 rfl Tryz.sizeOf29 (by decide) rfl rfl) rfl rfl rfl ?_;refine wT (lD Tryz.isAgg29 rfl rfl rfl) rfl rfl rfl ?_;refine wT (nQ rfl rfl) rfl rfl rfl ?_;refine wS (pF rfl rfl) rfl ?_;refine wS (mV rfl) rfl ?_;refine wL (d := 38) rfl (fun hg8 => ?_) (fun hg8 => ?_)
      ·replace h := iT hg8 h;refine wF rfl rfl rfl (by decide) ?_;refine wF rfl rfl rfl (by decide) ?_;refine wF rfl rfl rfl (by decide) ?_;refine wF rfl rfl rfl (by decide) ?_;refine wF rfl rfl rfl (by decide) ?_;refine wS (pT rfl rfl) rfl ?_;refine wN ?_;exact ⟨true, (), h, sO rfl (.c2 rfl rfl rfl rfl <| .cons rfl rfl <| .nil) (.c2 rfl rfl rfl rfl <| .nil)⟩
      ·replace h := iF hg8 h;refine wT (fR Tryz.underlying51 rfl Tryz.sizeOf5 (by decide) rfl rfl) rfl rfl rfl ?_;refine wT (lD Tryz.isAgg5 rfl rfl rfl) rfl rfl rfl ?_;refine wT (fR Tryz.underlying51 rfl Tryz.sizeOf5 (by decide) rfl rfl) rfl rfl rfl ?_;refine wT (lD Tryz.isAgg5 rfl rfl rfl) rfl rfl rfl ?_;refine wT (nQ rfl rfl) rfl rfl rfl ?_;refine wS (pF rfl rfl) rfl ?_;refine wN ?_;exact ⟨(!decide (a1.why = b2.why)), (), h, sO rfl (.c2 rfl rfl rfl rfl <| .cons rfl rfl <| .nil) (.c2 rfl rfl rfl rfl <| .nil)⟩
 ·rintro v3 _ h;refine wC rfl (fun hc9 => ?_) (fun hc9 => ?_)
  ·replace h := iT hc9 h;refine wQ ?_;refine wR ?_;refine wS (aS rfl) rfl ?_;refine wN ?_;refine wX ?_;replace h : _ = r0 := h;subst h;exact ⟨.inr rfl, _, .cons (.tmp rfl rfl) <| .nil, rfl⟩
  ·replace h := iF hc9 h;refine wK ?_;refine wQ ?_;refine wJ (iBind h) (fun (v10 : Bool) (_ : Unit) => ⟨64, [(4, .d (.v (.bool v10)))], []⟩) (fun h => ?_) ?_
   ·refine wR ?_;refine wS (fR Tryz.underlying51 rfl Tryz.sizeOf42 (by decide) rfl rfl) rfl ?_;refine wS (lD Tryz.isAgg42 rfl rfl rfl) rfl ?_;refine wS (fR Tryz.underlying51 rfl Tryz.sizeOf42 (by decide) rfl rfl) rfl ?_;refine wS (lD Tryz.isAgg42 rfl rfl rfl) rfl ?_;replace h := iDet h;obtain ⟨v11, hy12, h⟩ := h;refine wS (cN (r09_Same_ok a1.have_ b2.have_ v11 hy12) rfl Tryz.call113 rfl rfl rfl rfl) rfl ?_;refine wS (mV rfl) rfl ?_;refine wL (d := 50) rfl (fun hg13 => ?_) (fun hg13 => ?_)
    ·replace h := iT hg13 h;refine wT (fR Tryz.underlying51 rfl Tryz.sizeOf42 (by decide) rfl rfl) rfl rfl rfl ?_;refine wT (lD Tryz.isAgg42 rfl rfl rfl) rfl rfl rfl ?_;refine wT (fR Tryz.underlying51 rfl Tryz.sizeOf42 (by decide) rfl rfl) rfl rfl rfl ?_;refine wT (lD Tryz.isAgg42 rfl rfl rfl) rfl rfl rfl ?_;replace h := iDet h;obtain ⟨v14, hy15, h⟩ := h;refine wT (cN (r09_Same_ok a1.front b2.front v14 hy15) rfl Tryz.call113 rfl rfl rfl rfl) rfl rfl rfl ?_;refine wS (pT rfl rfl) rfl ?_;refine wS (mV rfl) rfl ?_;refine wL (d := 57) rfl (fun hg16 => ?_) (fun hg16 => ?_)
     ·replace h := iT hg16 h;refine wT (fR Tryz.underlying51 rfl Tryz.sizeOf49 (by decide) rfl rfl) rfl rfl rfl ?_;refine wT (lA (ps := [_, _, _]) Tryz.isAgg49 Tryz.sizeOf49 rfl rfl rfl rfl) rfl rfl rfl ?_;refine wT (fR Tryz.underlying51 rfl Tryz.sizeOf49 (by decide) rfl rfl) rfl rfl rfl ?_;refine wE (tl := [(57, _), (59, _), (60, _)]) (to := [(3, _)]) rfl (.c2 rfl rfl rfl rfl <| .cons rfl rfl <| .nil) (.cons rfl rfl <| .nil) ?_;refine wT (lA (ps := [_, _, _]) Tryz.isAgg49 Tryz.sizeOf49 rfl rfl rfl rfl) rfl rfl rfl ?_;replace h := iDet h;obtain ⟨v17, hy18, h⟩ := h;refine wT (cN (r20_Same_ok a1.delta b2.delta v17 hy18) rfl Tryz.call76 rfl rfl rfl rfl) rfl rfl rfl ?_;refine wS (pT rfl rfl) rfl ?_;refine wS (aS rfl) rfl ?_;refine wN ?_;exact ⟨v17, (), h, sO rfl (.cons rfl rfl <| .nil) (.nil)⟩
     ·replace h := iF hg16 h;refine wF rfl rfl rfl (by decide) ?_;refine wF rfl rfl rfl (by decide) ?_;refine wF rfl rfl rfl (by decide) ?_;refine wE (tl := [(57, _), (59, _), (60, _)]) (to := []) rfl (.c2 rfl rfl rfl rfl <| .cons rfl rfl <| .nil) (.nil) ?_;refine wF rfl rfl rfl (by decide) ?_;refine wF rfl rfl rfl (by decide) ?_;refine wS (pF rfl rfl) rfl ?_;refine wS (aS rfl) rfl ?_;refine wN ?_;exact ⟨false, (), h, sO rfl (.cons rfl rfl <| .nil) (.nil)⟩
    ·replace h := iF hg13 h;refine wF rfl rfl rfl (by decide) ?_;refine wF rfl rfl rfl (by decide) ?_;refine wF rfl rfl rfl (by decide) ?_;refine wF rfl rfl rfl (by decide) ?_;refine wF rfl rfl rfl (by decide) ?_;refine wS (pF rfl rfl) rfl ?_;refine wS (mV rfl) rfl ?_;refine wF rfl rfl rfl (by decide) ?_;refine wF rfl rfl rfl (by decide) ?_;refine wF rfl rfl rfl (by decide) ?_;refine wF rfl rfl rfl (by decide) ?_;refine wE (tl := [(57, _), (59, _), (61, _)]) (to := []) rfl (.c2 rfl rfl rfl rfl <| .cons rfl rfl <| .nil) (.nil) ?_;refine wF rfl rfl rfl (by decide) ?_;refine wS (pF rfl rfl) rfl ?_;refine wS (aS rfl) rfl ?_;refine wN ?_;exact ⟨false, (), h, sO rfl (.cons rfl rfl <| .nil) (.nil)⟩
   ·rintro v10 _ h;refine wX ?_;replace h : _ = r0 := h;subst h;exact ⟨.inr rfl, _, .cons (.tmp rfl rfl) <| .nil, rfl⟩

theorem r27_ToHub_ok (kind1 : Int) (r0 : Bool) (h : (r27_ToHub kind1).wp (· = r0)) : PFun Tryz.prog 36 [.d (.v (.int .u8 kind1))] (.d (.v (.bool r0))) := by
 refine fI (sl := [(0, _)]) Tryz.func36 rfl Tryz.ntmps36 rfl rfl ?_;intro ctx hK;refine wQ ?_;refine wR ?_;refine wS (aS rfl) rfl ?_;refine wN ?_;refine wQ ?_;refine wJ (iBind h) (fun (v2 : Bool) (_ : Unit) => ⟨21, [(2, .d (.v (.bool v2)))], []⟩) (fun h => ?_) ?_
 ·refine wR ?_;refine wS (mV rfl) rfl ?_;refine wS (eQ rfl rfl) rfl ?_;refine wS (mV rfl) rfl ?_;refine wL (d := 5) rfl (fun hg3 => ?_) (fun hg3 => ?_)
  ·replace h := iT hg3 h;refine wF rfl rfl rfl (by decide) ?_;refine wF rfl rfl rfl (by decide) ?_;refine wS (pT rfl rfl) rfl ?_;refine wS (mV rfl) rfl ?_;refine wF rfl rfl rfl (by decide) ?_;refine wF rfl rfl rfl (by decide) ?_;refine wS (pT rfl rfl) rfl ?_;refine wS (mV rfl) rfl ?_;refine wF rfl rfl rfl (by decide) ?_;refine wF rfl rfl rfl (by decide) ?_;refine wS (pT rfl rfl) rfl ?_;refine wS (mV rfl) rfl ?_;refine wF rfl rfl rfl (by decide) ?_;refine wF rfl rfl rfl (by decide) ?_;refine wS (pT rfl rfl) rfl ?_;refine wE (tl := [(2, _), (20, _)]) (to := []) rfl (.c2 rfl rfl rfl rfl <| .nil) (.nil) ?_;refine wS (aS rfl) rfl ?_;refine wN ?_;exact ⟨true, (), h, sO rfl (.cons rfl rfl <| .nil) (.nil)⟩
  ·replace h := iF hg3 h;refine wT (mV rfl) rfl rfl rfl ?_;refine wT (eQ rfl rfl) rfl rfl rfl ?_;refine wS (pF rfl rfl) rfl ?_;refine wS (mV rfl) rfl ?_;refine wL (d := 9) rfl (fun hg4 => ?_) (fun hg4 => ?_)
   ·replace h := iT hg4 h;refine wF rfl rfl rfl (by decide) ?_;refine wF rfl rfl rfl (by decide) ?_;refine wS (pT rfl rfl) rfl ?_;refine wS (mV rfl) rfl ?_;refine wF rfl rfl rfl (by decide) ?_;refine wF rfl rfl rfl (by decide) ?_;refine wS (pT rfl rfl) rfl ?_;refine wS (mV rfl) rfl ?_;refine wF rfl rfl rfl (by decide) ?_;refine wF rfl rfl rfl (by decide) ?_;refine wE (tl := [(2, _), (17, _), (19, _)]) (to := []) rfl (.c2 rfl rfl rfl rfl <| .cons rfl rfl <| .nil) (.nil) ?_;refine wS (pT rfl rfl) rfl ?_;refine wS (aS rfl) rfl ?_;refine wN ?_;exact ⟨true, (), h, sO rfl (.cons rfl rfl <| .nil) (.nil)⟩
   ·replace h := iF hg4 h;refine wT (mV rfl) rfl rfl rfl ?_;refine wT (eQ rfl rfl) rfl rfl rfl ?_;refine wS (pF rfl rfl) rfl ?_;refine wS (mV rfl) rfl ?_;refine wL (d := 13) rfl (fun hg5 => ?_) (fun hg5 => ?_)
    ·replace h := iT hg5 h;refine wF rfl rfl rfl (by decide) ?_;refine wF rfl rfl rfl (by decide) ?_;refine wS (pT rfl rfl) rfl ?_;refine wS (mV rfl) rfl ?_;refine wF rfl rfl rfl (by decide) ?_;refine wE (tl := [(2, _), (17, _), (18, _)]) (to := []) rfl (.c2 rfl rfl rfl rfl <| .cons rfl rfl <| .nil) (.nil) ?_;refine wF rfl rfl rfl (by decide) ?_;refine wS (pT rfl rfl) rfl ?_;refine wS (aS rfl) rfl ?_;refine wN ?_;exact ⟨true, (), h, sO rfl (.cons rfl rfl <| .nil) (.nil)⟩
    ·replace h := iF hg5 h;refine wT (mV rfl) rfl rfl rfl ?_;refine wT (eQ rfl rfl) rfl rfl rfl ?_;refine wS (pF rfl rfl) rfl ?_;refine wS (mV rfl) rfl ?_;refine wL (d := 17) rfl (fun hg6 => ?_) (fun hg6 => ?_)
     ·replace h := iT hg6 h;refine wE (tl := [(0, _), (2, _), (17, _)]) (to := []) rfl (.c2 rfl rfl rfl rfl <| .cons rfl rfl <| .nil) (.nil) ?_;refine wF rfl rfl rfl (by decide) ?_;refine wF rfl rfl rfl (by decide) ?_;refine wS (pT rfl rfl) rfl ?_;refine wS (aS rfl) rfl ?_;refine wN ?_;exact ⟨true, (), h, sO rfl (.cons rfl rfl <| .nil) (.nil)⟩
     ·replace h := iF hg6 h;refine wE (tl := [(0, _), (2, _), (17, _)]) (to := []) rfl (.c2 rfl rfl rfl rfl <| .cons rfl rfl <| .nil) (.nil) ?_;refine wT (mV rfl) rfl rfl rfl ?_;refine wT (eQ rfl rfl) rfl rfl rfl ?_;refine wS (pF rfl rfl) rfl ?_;refine wS (aS rfl) rfl ?_;refine wN ?_;exact ⟨(decide (kind1 = 8)), (), h, sO rfl (.cons rfl rfl <| .nil) (.nil)⟩
 ·rintro v2 _ h;refine wX ?_;replace h : _ = r0 := h;subst h;exact ⟨.inr rfl, _, .cons (.tmp rfl rfl) <| .nil, rfl⟩

theorem l27_MsgTells_ok (a1 : TMsg) (b2 : TMsg) (kind3 : Int) (r0 : Bool) (h : (l27_MsgTells a1 b2 kind3).wp (· = r0)) : PFun Tryz.prog 4 [.agg (List.map .d (TMsg.e a1)), .agg (List.map .d (TMsg.e b2)), .d (.v (.int .u8 kind3))] (.d (.v (.bool r0))) := by
 refine fI (sl := [(0, _), (1, _), (2, _)]) Tryz.func4 rfl Tryz.ntmps4 rfl rfl ?_;intro ctx hK;refine wQ ?_;refine wR ?_;refine wS (LR.box rfl rfl rfl rfl) rfl ?_;refine wS (LR.box rfl rfl rfl rfl) rfl ?_;refine wS (aS rfl) rfl ?_;refine wN ?_;refine wQ ?_;refine wQ ?_;refine wJ (iBind h) (fun (v4 : Bool) (_ : Unit) => ⟨47, [(2, .d (.v (.int .u8 kind3))), (3, .ref 3 0), (4, .ref 4 0), (14, .d (.v (.bool v4)))], [(3, .cells 51 [.d (.v (.int .u8 a1.kind)), .d (.v (.int .u8 a1.slot)), .d (.v (.int .u64 a1.try_)), .d (.v (.int .u16 a1.dev)), .d (.v (.int .u64 a1.epoch)), .d (.v (.int .u8 a1.why)), .d (.sl (List.map TPart.e a1.have_)), .d (.sl (List.map TPart.e a1.front)), .d (.sl (List.map TPart.e a1.delta.from_)), .d (.sl (List.map TPart.e a1.delta.to_)), .d (.sl (List.map TEvent.e a1.delta.events))]), (4, .cells 51 [.d (.v (.int .u8 b2.kind)), .d (.v (.int .u8 b2.slot)), .d (.v (.int .u64 b2.try_)), .d (.v (.int .u16 b2.dev)), .d (.v (.int .u64 b2.epoch)), .d (.v (.int .u8 b2.why)), .d (.sl (List.map TPart.e b2.have_)), .d (.sl (List.map TPart.e b2.front)), .d (.sl (List.map TPart.e b2.delta.from_)), .d (.sl (List.map TPart.e b2.delta.to_)), .d (.sl (List.map TEvent.e b2.delta.events))])]⟩) (fun h => ?_) ?_
 ·refine wR ?_;refine wS (lA (ps := [_, _, _, _, _, _, _, _, _, _, _]) Tryz.isAgg51 Tryz.sizeOf51 rfl rfl rfl rfl) rfl ?_;replace h := iDet h;obtain ⟨v5, hy6, h⟩ := h;refine wS (cN (r27_Few_ok a1 v5 hy6) rfl Tryz.call29 rfl rfl rfl rfl) rfl ?_;refine wS (LR.not rfl) rfl ?_;refine wS (mV rfl) rfl ?_;refine wL (d := 10) rfl (fun hg7 => ?_) (fun hg7 => ?_)
  ·replace h := iT hg7 h;refine wF rfl rfl rfl (by decide) ?_;refine wF rfl rfl rfl (by decide) ?_;refine wF rfl rfl rfl (by decide) ?_;refine wS (pT rfl rfl) rfl ?_;refine wN ?_;exact ⟨true, (), h, sO rfl (.c4 rfl rfl rfl rfl rfl rfl rfl rfl <| .nil) (.c2 rfl rfl rfl rfl <| .nil)⟩
  ·replace h := iF hg7 h;refine wT (lA (ps := [_, _, _, _, _, _, _, _, _, _, _]) Tryz.isAgg51 Tryz.sizeOf51 rfl rfl rfl rfl) rfl rfl rfl ?_;replace h := iDet h;obtain ⟨v8, hy9, h⟩ := h;refine wT (cN (r27_Few_ok b2 v8 hy9) rfl Tryz.call29 rfl rfl rfl rfl) rfl rfl rfl ?_;refine wT (LR.not rfl) rfl rfl rfl ?_;refine wS (pF rfl rfl) rfl ?_;refine wN ?_;exact ⟨(!v8), (), h, sO rfl (.c4 rfl rfl rfl rfl rfl rfl rfl rfl <| .nil) (.c2 rfl rfl rfl rfl <| .nil)⟩
 ·rintro v4 _ h;refine wC rfl (fun hc10 => ?_) (fun hc10 => ?_)
  ·replace h := iT hc10 h;refine wQ ?_;refine wR ?_;replace h := iDet h;obtain ⟨v11, hy12, h⟩ := h;refine wS (cN (l27_works_ok v11 hy12) rfl Tryz.call30 rfl rfl rfl rfl) rfl ?_;refine wS (aS rfl) rfl ?_;refine wN ?_;refine wX ?_;replace h : _ = r0 := h;subst h;exact ⟨.inr rfl, _, .cons (.tmp rfl rfl) <| .nil, rfl⟩
  ·replace h := iF hc10 h;refine wK ?_;refine wQ ?_;refine wJ (iBind h) (fun (v13 : Bool) (_ : Unit) => ⟨47, [(6, .d (.v (.bool v13)))], []⟩) (fun h => ?_) ?_
   ·refine wD (by kernel_rfl) (by kernel_rfl) ?_;refine qS (fun _ he ho => lA (ps := [_, _, _, _, _, _, _, _, _, _, _]) Tryz.isAgg51 Tryz.sizeOf51 (he rfl rfl) (ho rfl) rfl rfl) rfl ?_;replace h := iDet h;obtain ⟨v14, hy15, h⟩ := h;refine qS (fun _ he ho => cN (msg_Good_ok a1 v14 hy15) (he rfl rfl) Tryz.call31 (evsE he rfl rfl) rfl rfl rfl) rfl ?_;refine qS (fun _ he ho => lA (ps := [_, _, _, _, _, _, _, _, _, _, _]) Tryz.isAgg51 Tryz.sizeOf51 (he rfl rfl) (ho rfl) rfl rfl) rfl ?_;replace h := iDet h;obtain ⟨v16, hy17, h⟩ := h;refine qS (fun _ he ho => cN (r27_Good_ok a1 v16 hy17) (he rfl rfl) Tryz.call32 (evsE he rfl rfl) rfl rfl rfl) rfl ?_;refine qS (fun _ he ho => LR.eqlBool Tryz.underlying4 (he rfl rfl) (he rfl rfl)) rfl ?_;refine qS (fun _ he ho => mV (he rfl rfl)) rfl ?_;refine PQl.split (d := 21) rfl (fun hg18 => ?_) (fun hg18 => ?_)
    ·replace h := iT hg18 h;refine qT (fun _ he ho => lA (ps := [_, _, _, _, _, _, _, _, _, _, _]) Tryz.isAgg51 Tryz.sizeOf51 (he rfl rfl) (ho rfl) rfl rfl) rfl rfl rfl ?_;replace h := iDet h;obtain ⟨v19, hy20, h⟩ := h;refine qT (fun _ he ho => cN (msg_Good_ok b2 v19 hy20) (he rfl rfl) Tryz.call31 (evsE he rfl rfl) rfl rfl rfl) rfl rfl rfl ?_;refine qT (fun _ he ho => lA (ps := [_, _, _, _, _, _, _, _, _, _, _]) Tryz.isAgg51 Tryz.sizeOf51 (he rfl rfl) (ho rfl) rfl rfl) rfl rfl rfl ?_;replace h := iDet h;obtain ⟨v21, hy22, h⟩ := h;refine qT (fun _ he ho => cN (r27_Good_ok b2 v21 hy22) (he rfl rfl) Tryz.call32 (evsE he rfl rfl) rfl rfl rfl) rfl rfl rfl ?_;refine qT (fun _ he ho => LR.eqlBool Tryz.underlying4 (he rfl rfl) (he rfl rfl)) rfl rfl rfl ?_;refine qS (fun _ he ho => pT (he rfl rfl) (he rfl rfl)) rfl ?_;refine qS (fun _ he ho => mV (he rfl rfl)) rfl ?_;refine PQl.split (d := 28) rfl (fun hg23 => ?_) (fun hg23 => ?_)
     ·replace h := iT hg23 h;refine qT (fun _ he ho => lA (ps := [_, _, _, _, _, _, _, _, _, _, _]) Tryz.isAgg51 Tryz.sizeOf51 (he rfl rfl) (ho rfl) rfl rfl) rfl rfl rfl ?_;refine qT (fun _ he ho => lA (ps := [_, _, _, _, _, _, _, _, _, _, _]) Tryz.isAgg51 Tryz.sizeOf51 (he rfl rfl) (ho rfl) rfl rfl) rfl rfl rfl ?_;replace h := iDet h;obtain ⟨v24, hy25, h⟩ := h;refine qT (fun _ he ho => cN (msg_Same_ok a1 b2 v24 hy25) (he rfl rfl) Tryz.call33 (evsE he rfl rfl) rfl rfl rfl) rfl rfl rfl ?_;refine qT (fun _ he ho => lA (ps := [_, _, _, _, _, _, _, _, _, _, _]) Tryz.isAgg51 Tryz.sizeOf51 (he rfl rfl) (ho rfl) rfl rfl) rfl rfl rfl ?_;refine qT (fun _ he ho => lA (ps := [_, _, _, _, _, _, _, _, _, _, _]) Tryz.isAgg51 Tryz.sizeOf51 (he rfl rfl) (ho rfl) rfl rfl) rfl rfl rfl ?_;replace h := iDet h;obtain ⟨v26, hy27, h⟩ := h;refine qT (fun _ he ho => cN (r27_Same_ok a1 b2 v26 hy27) (he rfl rfl) Tryz.call34 (evsE he rfl rfl) rfl rfl rfl) rfl rfl rfl ?_;refine qT (fun _ he ho => LR.eqlBool Tryz.underlying4 (he rfl rfl) (he rfl rfl)) rfl rfl rfl ?_;refine qS (fun _ he ho => pT (he rfl rfl) (he rfl rfl)) rfl ?_;refine qS (fun _ he ho => mV (he rfl rfl)) rfl ?_;refine PQl.split (d := 37) rfl (fun hg28 => ?_) (fun hg28 => ?_)
      ·replace h := iT hg28 h;refine qT (fun _ he ho => mV (he rfl rfl)) rfl rfl rfl ?_;replace h := iDet h;obtain ⟨v29, hy30, h⟩ := h;refine qT (fun _ he ho => cN (msg_ToHub_ok kind3 v29 hy30) (he rfl rfl) Tryz.call35 (evsE he rfl rfl) rfl rfl rfl) rfl rfl rfl ?_;refine qT (fun _ he ho => mV (he rfl rfl)) rfl rfl rfl ?_;replace h := iDet h;obtain ⟨v31, hy32, h⟩ := h;refine qT (fun _ he ho => cN (r27_ToHub_ok kind3 v31 hy32) (he rfl rfl) Tryz.call36 (evsE he rfl rfl) rfl rfl rfl) rfl rfl rfl ?_;refine qT (fun _ he ho => LR.eqlBool Tryz.underlying4 (he rfl rfl) (he rfl rfl)) rfl rfl rfl ?_;refine qS (fun _ he ho => pT (he rfl rfl) (he rfl rfl)) rfl ?_;refine qS (fun _ he ho => mV (he rfl rfl)) rfl ?_;refine PQl.split (d := 44) rfl (fun hg33 => ?_) (fun hg33 => ?_)
       ·replace h := iT hg33 h;refine PQl.keep (tl := [(44, _)]) rfl (.cons rfl rfl <| .nil) ?_;replace h := iDet h;obtain ⟨v34, hy35, h⟩ := h;refine qT (fun _ he ho => cN (l27_works_ok v34 hy35) (he rfl rfl) Tryz.call30 (evsE he rfl rfl) rfl rfl rfl) rfl rfl rfl ?_;refine qS (fun _ he ho => pT (he rfl rfl) (he rfl rfl)) rfl ?_;refine qS (fun _ he ho => aS (he rfl rfl)) rfl ?_;refine qN ?_;exact ⟨v34, (), h, sO rfl (.cons rfl rfl <| .nil) (.nil)⟩
       ·replace h := iF hg33 h;refine PQl.keep (tl := [(44, _)]) rfl (.cons rfl rfl <| .nil) ?_;refine qF rfl rfl rfl (by decide) ?_;refine qS (fun _ he ho => pF (he rfl rfl) (he rfl rfl)) rfl ?_;refine qS (fun _ he ho => aS (he rfl rfl)) rfl ?_;refine qN ?_;exact ⟨false, (), h, sO rfl (.cons rfl rfl <| .nil) (.nil)⟩
      ·replace h := iF hg28 h;refine qF rfl rfl rfl (by decide) ?_;refine qF rfl rfl rfl (by decide) ?_;refine qF rfl rfl rfl (by decide) ?_;refine qF rfl rfl rfl (by decide) ?_;refine qF rfl rfl rfl (by decide) ?_;refine qS (fun _ he ho => pF (he rfl rfl) (he rfl rfl)) rfl ?_;refine qS (fun _ he ho => mV (he rfl rfl)) rfl ?_;refine qF rfl rfl rfl (by decide) ?_;refine PQl.keep (tl := [(44, _), (45, _)]) rfl (.c2 rfl rfl rfl rfl <| .nil) ?_;refine qS (fun _ he ho => pF (he rfl rfl) (he rfl rfl)) rfl ?_;refine qS (fun _ he ho => aS (he rfl rfl)) rfl ?_;refine qN ?_;exact ⟨false, (), h, sO rfl (.cons rfl rfl <| .nil) (.nil)⟩
     ·replace h := iF hg23 h;refine qF rfl rfl rfl (by decide) ?_;refine qF rfl rfl rfl (by decide) ?_;refine qF rfl rfl rfl (by decide) ?_;refine qF rfl rfl rfl (by decide) ?_;refine qF rfl rfl rfl (by decide) ?_;refine qF rfl rfl rfl (by decide) ?_;refine qF rfl rfl rfl (by decide) ?_;refine qS (fun _ he ho => pF (he rfl rfl) (he rfl rfl)) rfl ?_;refine qS (fun _ he ho => mV (he rfl rfl)) rfl ?_;refine qF rfl rfl rfl (by decide) ?_;refine qF rfl rfl rfl (by decide) ?_;refine qF rfl rfl rfl (by decide) ?_;refine qF rfl rfl rfl (by decide) ?_;refine qF rfl rfl rfl (by decide) ?_;refine qS (fun _ he ho => pF (he rfl rfl) (he rfl rfl)) rfl ?_;refine qS (fun _ he ho => mV (he rfl rfl)) rfl ?_;refine qF rfl rfl rfl (by decide) ?_;refine qS (fun _ he ho => pF (he rfl rfl) (he rfl rfl)) rfl ?_;refine PQl.keep (tl := [(46, _)]) rfl (.cons rfl rfl <| .nil) ?_;refine qS (fun _ he ho => aS (he rfl rfl)) rfl ?_;refine qN ?_;exact ⟨false, (), h, sO rfl (.cons rfl rfl <| .nil) (.nil)⟩
    ·replace h := iF hg18 h;refine qF rfl rfl rfl (by decide) ?_;refine qF rfl rfl rfl (by decide) ?_;refine qF rfl rfl rfl (by decide) ?_;refine qF rfl rfl rfl (by decide) ?_;refine qF rfl rfl rfl (by decide) ?_;refine qS (fun _ he ho => pF (he rfl rfl) (he rfl rfl)) rfl ?_;refine qS (fun _ he ho => mV (he rfl rfl)) rfl ?_;refine qF rfl rfl rfl (by decide) ?_;refine qF rfl rfl rfl (by decide) ?_;refine qF rfl rfl rfl (by decide) ?_;refine qF rfl rfl rfl (by decide) ?_;refine qF rfl rfl rfl (by decide) ?_;refine qF rfl rfl rfl (by decide) ?_;refine qF rfl rfl rfl (by decide) ?_;refine qS (fun _ he ho => pF (he rfl rfl) (he rfl rfl)) rfl ?_;refine qS (fun _ he ho => mV (he rfl rfl)) rfl ?_;refine qF rfl rfl rfl (by decide) ?_;refine qF rfl rfl rfl (by decide) ?_;refine qF rfl rfl rfl (by decide) ?_;refine qF rfl rfl rfl (by decide) ?_;refine qF rfl rfl rfl (by decide) ?_;refine qS (fun _ he ho => pF (he rfl rfl) (he rfl rfl)) rfl ?_;refine qS (fun _ he ho => mV (he rfl rfl)) rfl ?_;refine qF rfl rfl rfl (by decide) ?_;refine qS (fun _ he ho => pF (he rfl rfl) (he rfl rfl)) rfl ?_;refine qS (fun _ he ho => aS (he rfl rfl)) rfl ?_;refine qN ?_;exact ⟨false, (), h, sO rfl (.cons rfl rfl <| .nil) (.nil)⟩
   ·rintro v13 _ h;refine wX ?_;replace h : _ = r0 := h;subst h;exact ⟨.inr rfl, _, .cons (.tmp rfl rfl) <| .nil, rfl⟩
end Go.Proofs

namespace Go.Ep
open Go

theorem wI64 {n : Int} (h : -9223372036854775808 ≤ n) (h' : n ≤ 9223372036854775807) : IntKind.i64.wrap n = n := by simp [IntKind.wrap, IntKind.bits, IntKind.signed]; omega
theorem wU64 {n : Int} (h : 0 ≤ n) (h' : n ≤ 18446744073709551615) : IntKind.u64.wrap n = n := by simp [IntKind.wrap, IntKind.bits, IntKind.signed]; omega
theorem wU16 {n : Int} (h : 0 ≤ n) (h' : n ≤ 65535) : IntKind.u16.wrap n = n := by simp [IntKind.wrap, IntKind.bits, IntKind.signed]; omega
theorem wSucc {i : Nat} (h : i < 9223372036854775807) : IntKind.i64.wrap ((i : Int) + 1) = ((i + 1 : Nat) : Int) := by rw [wI64 (by omega) (by omega)]; rfl
namespace M
variable {α β σ ρ τ ε : Type}
theorem cond_dec (p : Prop) [Decidable p] (x y : M α) : cond (decide p) x y = if p then x else y := by by_cases h : p <;> simp [h]
theorem loopL {body : σ → M (Step σ ρ)} (l : List ε) (mk : Nat → τ → σ) (f : τ → ε → τ) (g : τ → M ρ)
    (I : Nat → τ → Prop) (h1 : ∀ (i : Nat) (x : ε) (t : τ), l[i]? = some x → i < l.length → I i t → body (mk i t) = pure (.next (mk (i + 1) (f t x))) ∧ I (i + 1) (f t x))
    (h2 : ∀ t, I l.length t → body (mk l.length t) = (g t).bind fun r => pure (.done r)) (t0 : τ) (h0 : I 0 t0) : loop body (mk 0 t0) = g (l.foldl f t0) := by
  have key : ∀ k i t, i + k = l.length → I i t → loop body (mk i t) = g ((l.drop i).foldl f t) := by
    intro k
    induction k with
    | zero =>
      intro i t hi hI;have : i = l.length := by omega
      subst this;rw [loop_eq, h2 t hI, List.drop_length]
      rfl
    | succ k ih =>
      intro i t hi hI;have hlt : i < l.length := by omega
      obtain ⟨h3, h4⟩ := h1 i l[i] t (List.getElem?_eq_getElem hlt) hlt hI;rw [loop_next h3, ih (i + 1) _ (by omega) h4, List.drop_eq_getElem_cons hlt]
      rfl
  simpa using key l.length 0 t0 (by omega) h0
theorem loopF {body : σ → M (Step σ ρ)} (l : List ε) (mk : Nat → σ) (p : Nat → ε → Bool) (r : Nat → ε → ρ) (d : M ρ)
    (h1 : ∀ (i : Nat) (x : ε), l[i]? = some x → i < l.length → body (mk i) = if p i x then pure (.done (r i x)) else pure (.next (mk (i + 1))))
    (h2 : body (mk l.length) = d.bind fun r => pure (.done r)) : loop body (mk 0) = match (l.zipIdx).find? (fun y => p y.2 y.1) with | some y => pure (r y.2 y.1) | none => d := by
  have key : ∀ k i, i + k = l.length → loop body (mk i) = match ((l.drop i).zipIdx i).find? (fun y => p y.2 y.1) with | some y => pure (r y.2 y.1) | none => d := by
    intro k
    induction k with
    | zero =>
      intro i hi;have : i = l.length := by omega
      subst this;rw [loop_eq, h2, List.drop_length]
      rfl
    | succ k ih =>
      intro i hi;have hlt : i < l.length := by omega
      have h3 := h1 i l[i] (List.getElem?_eq_getElem hlt) hlt;rw [List.drop_eq_getElem_cons hlt, List.zipIdx_cons, List.find?_cons]
      by_cases hp : p i l[i] = true
      · rw [if_pos hp] at h3;rw [loop_done h3];simp [hp]
      · rw [if_neg hp] at h3;rw [loop_next h3, ih (i + 1) (by omega)];simp [hp]
  simpa using key l.length 0 (by omega)
theorem loopAll {body : σ → M (Step σ ρ)} (l : List ε) (mk : Nat → σ) (p : Nat → ε → Bool) (r1 r2 : ρ)
    (h1 : ∀ (i : Nat) (x : ε), l[i]? = some x → i < l.length → body (mk i) = if p i x then pure (.next (mk (i + 1))) else pure (.done r2))
    (h2 : body (mk l.length) = pure (.done r1)) : loop body (mk 0) = pure (if l.zipIdx.all (fun y => p y.2 y.1) then r1 else r2) := by
  have key : ∀ k i, i + k = l.length → loop body (mk i) = pure (if ((l.drop i).zipIdx i).all (fun y => p y.2 y.1) then r1 else r2) := by
    intro k
    induction k with
    | zero =>
      intro i hi;have : i = l.length := by omega
      subst this;rw [loop_done h2, List.drop_length]
      rfl
    | succ k ih =>
      intro i hi;have hlt : i < l.length := by omega
      have h3 := h1 i l[i] (List.getElem?_eq_getElem hlt) hlt;rw [List.drop_eq_getElem_cons hlt, List.zipIdx_cons, List.all_cons]
      by_cases hp : p i l[i] = true
      · rw [if_pos hp] at h3;rw [loop_next h3, ih (i + 1) (by omega), hp, Bool.true_and]
      · rw [if_neg hp] at h3;rw [loop_done h3];simp [hp]
  have := key l.length 0 (by omega);rw [List.drop_zero] at this;exact this

def came {ε : Type} (m : List ε) (L : List Nat) : List ε := L.filterMap fun i => m[i]?
theorem came_snoc {m : List ε} {L : List Nat} {i : Nat} {y : ε} (h : m[i]? = some y) : came m (L ++ [i]) = came m L ++ [y] := by simp [came, h]
theorem all_perm {n : Nat} {L : List Nat} (hn : L.Nodup) (hb : ∀ i ∈ L, i < n) (ha : ∀ i, i < n → i ∈ L) : L.Perm (List.range n) := by
  refine (List.perm_ext_iff_of_nodup hn List.nodup_range).2 fun i => ?_
  rw [List.mem_range];exact ⟨hb i, ha i⟩
theorem came_perm {m : List ε} {L : List Nat} (hn : L.Nodup) (hb : ∀ i ∈ L, i < m.length) (ha : ∀ i, i < m.length → i ∈ L) : (came m L).Perm m := by
  have h1 := (all_perm hn hb ha).filterMap fun i => m[i]?
  have h2 : (List.range m.length).filterMap (fun i => m[i]?) = m := by
    apply List.ext_getElem?;intro i;clear h1 hn hb ha;have : (List.range m.length).filterMap (fun i => m[i]?) = m := by
      induction m with
      | nil => rfl
      | cons x r ih =>
        rw [List.length_cons, List.range_succ_eq_map, List.filterMap_cons];simp only [List.getElem?_cons_zero, List.filterMap_map]
        congr 1
    rw [this]
  rw [h2] at h1;exact h1
theorem nodup_len {n : Nat} {L : List Nat} (hn : L.Nodup) (hb : ∀ i ∈ L, i < n) : L.length ≤ n := by
  have := List.Nodup.length_le_of_subset hn (l₂ := List.range n) (fun i hi => List.mem_range.2 (hb i hi));simpa using this

theorem full {n : Nat} {L : List Nat} (hn : L.Nodup) (hb : ∀ i ∈ L, i < n) (hl : n ≤ L.length) : ∀ i, i < n → i ∈ L := by
  intro i hi;refine Classical.byContradiction fun hni => ?_
  have := nodup_len (n := n) (L := i :: L) (List.nodup_cons.2 ⟨hni, hn⟩) (fun j hj => by
    rcases List.mem_cons.1 hj with rfl | hj
    · exact hi
    · exact hb j hj)
  simp at this;omega
theorem loopM {body : σ → M (Step σ ρ)} (m : List ε) (mk : List Nat → τ → σ) (f : τ → ε → M τ) (g : τ → M ρ) (I : List ε → τ → Prop) (Q : ρ → Prop)
    (hb : ∀ L t, (∀ i ∈ L, i < m.length) → body (mk L t) = need (∀ i ∈ L, i < m.length) ((nxt m.length L).bind fun o => match o with
      | none => (g t).bind fun r => pure (.done r)
      | some i => (idx m (Int.ofNat i)).bind fun y => (f t y).bind fun t' => pure (.next (mk (L ++ [i]) t'))))
    (hs : ∀ l t y, I l t → l.length < m.length → y ∈ m → ∃ t', f t y = pure t' ∧ I (l ++ [y]) t') (he : ∀ l t, l.Perm m → I l t → (g t).wp Q) (t0 : τ) (h0 : I [] t0) : (loop body (mk [] t0)).wp Q := by
  have key : ∀ k L t, L.length + k = m.length → L.Nodup → (∀ i ∈ L, i < m.length) → I (came m L) t → loopP body Q (mk L t) := by
    intro k
    induction k with
    | zero =>
      intro L t hk hn hlt hI;refine loopP_in ?_;rw [hb L t hlt];have hall : ∀ i, i < m.length → i ∈ L := fun i hi => full hn hlt (by omega) i hi
      refine ⟨hlt, ⟨⟨none, hall⟩, fun o ho => ?_⟩⟩
      cases o with
      | none =>
        have := he _ t (came_perm hn hlt hall) hI;exact this
      | some i => exact absurd (hall i ho.1) ho.2
    | succ k ih =>
      intro L t hk hn hlt hI;refine loopP_in ?_;rw [hb L t hlt];have hex : ∃ i, i < m.length ∧ i ∉ L := by
        refine Classical.byContradiction fun hno => ?_
        have hall : ∀ i, i < m.length → i ∈ L := fun i hi => Classical.byContradiction fun h => hno ⟨i, hi, h⟩
        have := (all_perm hn hlt hall).length_eq;simp at this;omega
      obtain ⟨i0, hi0⟩ := hex;refine ⟨hlt, ⟨⟨some i0, hi0⟩, fun o ho => ?_⟩⟩
      cases o with
      | none => exact absurd (ho i0 hi0.1) hi0.2
      | some i =>
        have hi := List.getElem?_eq_getElem ho.1;obtain ⟨t', h1, h2⟩ := hs (came m L) t m[i] hI (by have := List.length_filterMap_le (fun i => m[i]?) L; unfold came; omega) (List.getElem_mem ho.1);show ((idx m (Int.ofNat i)).bind _).wp _;rw [show (Int.ofNat i) = (i : Int) from rfl, idx_nat hi, pure_bind, h1, pure_bind];refine ih (L ++ [i]) t' (by simp; omega) ?_ ?_ (by rw [came_snoc hi]; exact h2)
        · rw [List.nodup_append];refine ⟨hn, by simp, fun a ha b hb' => ?_⟩;rw [List.mem_singleton.1 hb'];intro e;exact ho.2 (e ▸ ha)
        · intro j hj;rcases List.mem_append.1 hj with hj | hj
          · exact hlt j hj
          · rw [List.mem_singleton.1 hj]; exact ho.1
  exact key m.length [] t0 (by simp) List.nodup_nil (by simp) h0

theorem loopN {body : σ → M (Step σ ρ)} (n : Nat) (mk : List Nat → τ → σ) (I : List Nat → τ → Prop) (Q : ρ → Prop)
    (h : ∀ L t, I L t → L.Nodup → (∀ i ∈ L, i < n) → ∃ K : Option Nat → M (Step σ ρ), body (mk L t) = need (∀ i ∈ L, i < n) ((nxt n L).bind K) ∧ ((∀ i, i < n → i ∈ L) → (K none).wp (Step.post (fun _ => False) Q)) ∧
      ∀ i, i < n → i ∉ L → ∃ t', K (some i) = pure (.next (mk (L ++ [i]) t')) ∧ I (L ++ [i]) t') (t0 : τ) (h0 : I [] t0) : (loop body (mk [] t0)).wp Q := by
  have key : ∀ k L t, L.length + k = n → L.Nodup → (∀ i ∈ L, i < n) → I L t → loopP body Q (mk L t) := by
    intro k
    induction k with
    | zero =>
      intro L t hk hn hlt hI;obtain ⟨K, h1, h2, h3⟩ := h L t hI hn hlt;refine loopP_in ?_;rw [h1];have hall : ∀ i, i < n → i ∈ L := full hn hlt (by omega);refine ⟨hlt, ⟨⟨none, hall⟩, fun o ho => ?_⟩⟩
      cases o with
      | none => exact (K none).mono (fun a ha => by cases a with | next s => exact ha.elim | done r => exact ha) (h2 hall)
      | some i => exact absurd (hall i ho.1) ho.2
    | succ k ih =>
      intro L t hk hn hlt hI;obtain ⟨K, h1, h2, h3⟩ := h L t hI hn hlt;refine loopP_in ?_;rw [h1];have hex : ∃ i, i < n ∧ i ∉ L := by
        refine Classical.byContradiction fun hno => ?_
        have hall : ∀ i, i < n → i ∈ L := fun i hi => Classical.byContradiction fun h => hno ⟨i, hi, h⟩
        have := (all_perm hn hlt hall).length_eq;simp at this;omega
      obtain ⟨i0, hi0⟩ := hex;refine ⟨hlt, ⟨⟨some i0, hi0⟩, fun o ho => ?_⟩⟩
      cases o with
      | none => exact absurd (ho i0 hi0.1) hi0.2
      | some i =>
        obtain ⟨t', h4, h5⟩ := h3 i ho.1 ho.2;show (K (some i)).wp _;rw [h4];refine ih (L ++ [i]) t' (by simp; omega) ?_ ?_ h5
        · rw [List.nodup_append];refine ⟨hn, by simp, fun a ha b hb' => ?_⟩;rw [List.mem_singleton.1 hb'];intro e;exact ho.2 (e ▸ ha)
        · intro j hj;rcases List.mem_append.1 hj with hj | hj
          · exact hlt j hj
          · rw [List.mem_singleton.1 hj]; exact ho.1
  exact key n [] t0 (by simp) List.nodup_nil (by simp) h0
end M

namespace AL
variable {κ ν : Type} [DecidableEq κ]
theorem get_set (m : List (κ × ν)) (k q : κ) (v : ν) : get (set m k v) q = if k = q then some v else get m q := by
  induction m with
  | nil => simp [set, get]
  | cons x r ih =>
    obtain ⟨a, u⟩ := x
    by_cases h : a = k
    · subst h; simp only [set, if_true, get]; split <;> rfl
    · simp only [set, h, if_false, get, ih]
      by_cases h2 : a = q
      · subst h2; simp [Ne.symm h]
      · simp [h2]
theorem getZ_set (m : List (κ × ν)) (k q : κ) (v z : ν) : getZ (set m k v) q z = if k = q then v else getZ m q z := by
  unfold getZ; rw [get_set]; split <;> rfl
theorem keys_set (m : List (κ × ν)) (k : κ) (v : ν) : (set m k v).map (·.1) = if k ∈ m.map (·.1) then m.map (·.1) else m.map (·.1) ++ [k] := by
  induction m with
  | nil => simp [set]
  | cons x r ih =>
    obtain ⟨a, u⟩ := x
    by_cases h : a = k
    · subst h; simp [set]
    · simp only [set, h, if_false, List.map_cons, ih, List.mem_cons, Ne.symm h, false_or]
      split <;> simp
theorem nodup_set {m : List (κ × ν)} (h : (m.map (·.1)).Nodup) (k : κ) (v : ν) : ((set m k v).map (·.1)).Nodup := by
  rw [keys_set]
  split
  · exact h
  · rename_i hk
    rw [List.nodup_append];refine ⟨h, by simp, fun a ha b hb => ?_⟩;rw [List.mem_singleton.1 hb];intro e; exact hk (e ▸ ha)
theorem get_none {m : List (κ × ν)} {k : κ} : get m k = none ↔ k ∉ m.map (·.1) := by
  induction m with
  | nil => simp [get]
  | cons x r ih =>
    obtain ⟨a, u⟩ := x
    by_cases h : a = k
    · subst h; simp [get]
    · simp [get, h, ih, Ne.symm h]
theorem get_mem {m : List (κ × ν)} {k : κ} {v : ν} (h : get m k = some v) : (k, v) ∈ m := by
  induction m with
  | nil => simp [get] at h
  | cons x r ih =>
    obtain ⟨a, u⟩ := x
    by_cases e : a = k
    · subst e; simp [get] at h; subst h; simp
    · simp only [get, e, if_false] at h; exact List.mem_cons_of_mem _ (ih h)
theorem mem_get {m : List (κ × ν)} (hn : (m.map (·.1)).Nodup) {k : κ} {v : ν} (h : (k, v) ∈ m) : get m k = some v := by
  induction m with
  | nil => simp at h
  | cons x r ih =>
    obtain ⟨a, u⟩ := x;simp only [List.map_cons, List.nodup_cons] at hn;rcases List.mem_cons.1 h with e | h
    · cases e; simp [get]
    · have : a ≠ k := fun e => hn.1 (e ▸ List.mem_map.2 ⟨(k, v), h, rfl⟩)
      simp only [get, this, if_false]; exact ih hn.2 h
theorem len_set (m : List (κ × ν)) (k : κ) (v : ν) : (set m k v).length ≤ m.length + 1 := by
  induction m with
  | nil => simp [set]
  | cons x r ih =>
    obtain ⟨a, u⟩ := x;unfold set
    split
    · simp
    · simpa using ih
end AL
end Go.Ep

namespace Go.Ep.M.V
open Go

def goodD (d : TDot) : Bool := decide (1 ≤ d.dev) && (decide (1 ≤ d.n) && decide (d.n ≤ 281474976710655))
theorem goodD_iff {d : TDot} : goodD d = true ↔ 1 ≤ d.dev ∧ 1 ≤ d.n ∧ d.n ≤ 281474976710655 := by simp [goodD]
theorem dot_Good_eq (d : TDot) : dot_Good d = pure (goodD d) := by
  unfold dot_Good;rw [cond_pure_and, cond_pure_and, pure_bind];refine congrArg pure ?_;rw [Bool.eq_iff_iff, goodD_iff];simp only [Bool.and_eq_true, decide_eq_true_eq];omega
theorem r07_Good_eq (d : TDot) : r07_Good d = pure (goodD d) := by
  unfold r07_Good;rw [cond_pure_and, cond_pure_and, pure_bind];refine congrArg pure ?_;rw [Bool.eq_iff_iff, goodD_iff];simp only [Bool.and_eq_true, decide_eq_true_eq];omega
theorem r07_Same_eq (a b : List TDot) (h : a.length ≤ 1000000000000) : r07_Same a b = pure (decide (a = b)) := by
  unfold r07_Same
  by_cases hl : (a.length : Int) = b.length
  · simp only [hl, decide_true, Bool.not_true, cond_false];have := loopAll (body := r07_Same_l0 a b) a (fun i => (i : Int)) (fun i x => decide (b[i]? = some x)) (.brk ()) (.ret false) (fun i x hx hi => by
      have hb : i < b.length := by omega
      unfold r07_Same_l0;rw [idx_nat hx, idx_nat (List.getElem?_eq_getElem hb), wSucc (by omega)];simp only [pure_bind, List.getElem?_eq_getElem hb, Option.some.injEq];have : decide ((i : Int) < (a.length : Int)) = true := by simpa using hi
      rw [this, cond_true]
      by_cases he : b[i] = x
      · subst he; simp
      · rw [if_neg (by simpa using he)];have : (decide (x.dev = b[i].dev) && decide (x.n = b[i].n)) = false := by
          rw [Bool.eq_false_iff];intro hc;simp at hc;apply he
          cases x; cases hh : b[i]; simp_all
        rw [this]; rfl) (by
      unfold r07_Same_l0;simp)
    rw [show (0 : Int) = ((0 : Nat) : Int) from rfl, this]
    by_cases he : a = b
    · subst he;rw [if_pos]
      · simp [pure_bind, exk_brk]
      · rw [List.all_eq_true];intro ⟨x, i⟩ hx;rw [List.mk_mem_zipIdx_iff_getElem?] at hx;simpa using hx
    · rw [if_neg]
      · simp [he, pure_bind, exk_ret]
      · intro hall;rw [List.all_eq_true] at hall;apply he;apply List.ext_getElem (by omega);intro i h1 h2;have := hall (a[i], i) (by rw [List.mk_mem_zipIdx_iff_getElem?]; exact List.getElem?_eq_getElem h1);simp [h2] at this;exact this.symm
  · have hne : a ≠ b := fun e => hl (by rw [e])
    simp [hl, hne]

def ofV : List TDot → Int → Int
  | [], _ => 0
  | d :: r, dev => if d.dev = dev ∧ goodD d = true then max d.n (ofV r dev) else ofV r dev
theorem ofV_range (v : List TDot) (dev : Int) : 0 ≤ ofV v dev ∧ ofV v dev ≤ 281474976710655 := by
  induction v with
  | nil => simp [ofV]
  | cons d r ih =>
    simp only [ofV]
    split
    · rename_i h; have := goodD_iff.1 h.2; omega
    · exact ih
theorem ofV_pos {v : List TDot} {dev : Int} : 0 < ofV v dev ↔ ∃ d ∈ v, d.dev = dev ∧ goodD d = true := by
  induction v with
  | nil => simp [ofV]
  | cons d r ih =>
    simp only [ofV, List.mem_cons, exists_eq_or_imp]
    split
    · rename_i h
      have := goodD_iff.1 h.2
      constructor
      · intro _; exact .inl h
      · intro _; omega
    · rename_i h
      rw [ih]
      constructor
      · exact .inr
      · rintro (hh | hh)
        · exact absurd hh h
        · exact hh
def insI : List Int → Int → List Int
  | [], k => [k]
  | a :: r, k => if k < a then k :: a :: r else if k = a then a :: r else a :: insI r k
theorem mem_insI {l : List Int} {k q : Int} : q ∈ insI l k ↔ q = k ∨ q ∈ l := by
  induction l with
  | nil => simp [insI]
  | cons a r ih =>
    unfold insI
    split
    · simp
    · split
      · rename_i h; subst h; simp
      · simp only [List.mem_cons, ih]; constructor
        · rintro (h | h | h) <;> simp [h]
        · rintro (h | h | h) <;> simp [h]
theorem insI_sorted {l : List Int} (h : l.Pairwise (· < ·)) (k : Int) : (insI l k).Pairwise (· < ·) := by
  induction l with
  | nil => simp [insI]
  | cons a r ih =>
    obtain ⟨h1, h2⟩ := List.pairwise_cons.1 h;unfold insI
    split
    · rename_i hk
      refine List.pairwise_cons.2 ⟨fun x hx => ?_, h⟩;rcases List.mem_cons.1 hx with rfl | hx
      · exact hk
      · have := h1 x hx; omega
    · split
      · exact h
      · refine List.pairwise_cons.2 ⟨fun x hx => ?_, ih h2⟩;rcases mem_insI.1 hx with rfl | hx
        · omega
        · exact h1 x hx
theorem len_insI (l : List Int) (k : Int) : (insI l k).length ≤ l.length + 1 := by
  induction l with
  | nil => simp [insI]
  | cons a r ih => unfold insI; split <;> try split
                   all_goals simp_all
def devStep (l : List Int) (d : TDot) : List Int := if goodD d then insI l d.dev else l
def devsL (v : List TDot) : List Int := v.foldl devStep []
theorem devs_gen (v : List TDot) : ∀ l : List Int, l.Pairwise (· < ·) → (v.foldl devStep l).Pairwise (· < ·) ∧ (∀ k, k ∈ v.foldl devStep l ↔ k ∈ l ∨ ∃ d ∈ v, d.dev = k ∧ goodD d = true) ∧ (v.foldl devStep l).length ≤ l.length + v.length := by
  induction v with
  | nil => intro l h; simp [h]
  | cons d r ih =>
    intro l h;simp only [List.foldl_cons];unfold devStep
    split
    · rename_i hg
      obtain ⟨h1, h2, h3⟩ := ih _ (insI_sorted h d.dev);refine ⟨h1, fun k => ?_, ?_⟩
      · have := h2 k;unfold devStep at this;rw [this, mem_insI]
        constructor
        · rintro ((rfl | h) | ⟨e, he, h⟩)
          · exact .inr ⟨d, by simp, rfl, hg⟩
          · exact .inl h
          · exact .inr ⟨e, by simp [he], h⟩
        · rintro (h | ⟨e, he, h⟩)
          · exact .inl (.inr h)
          · rcases List.mem_cons.1 he with rfl | he
            · exact .inl (.inl h.1.symm)
            · exact .inr ⟨e, he, h⟩
      · have := len_insI l d.dev; simp only [List.length_cons]; unfold devStep at h3; omega
    · rename_i hg
      obtain ⟨h1, h2, h3⟩ := ih _ h;refine ⟨h1, fun k => ?_, ?_⟩
      · have := h2 k;unfold devStep at this;rw [this]
        constructor
        · rintro (h | ⟨e, he, h⟩)
          · exact .inl h
          · exact .inr ⟨e, by simp [he], h⟩
        · rintro (h | ⟨e, he, h⟩)
          · exact .inl h
          · rcases List.mem_cons.1 he with rfl | he
            · exact absurd h.2 hg
            · exact .inr ⟨e, he, h⟩
      · simp only [List.length_cons]; unfold devStep at h3; omega
theorem devs_sorted (v : List TDot) : (devsL v).Pairwise (· < ·) := (devs_gen v [] List.Pairwise.nil).1
theorem mem_devs {v : List TDot} {k : Int} : k ∈ devsL v ↔ 0 < ofV v k := by rw [ofV_pos]; simpa [devsL] using (devs_gen v [] List.Pairwise.nil).2.1 k
theorem len_devs (v : List TDot) : (devsL v).length ≤ v.length := by simpa [devsL] using (devs_gen v [] List.Pairwise.nil).2.2
def toldStep (m : List (Int × Int)) (d : TDot) : List (Int × Int) := if goodD d then AL.set m d.dev (max (AL.getZ m d.dev 0) d.n) else m
def toldM (v : List TDot) : List (Int × Int) := v.foldl toldStep []
theorem told_gen (v : List TDot) : ∀ m : List (Int × Int), (m.map (·.1)).Nodup → ((v.foldl toldStep m).map (·.1)).Nodup ∧ ((∀ k, 0 ≤ AL.getZ m k 0) → ∀ k, AL.getZ (v.foldl toldStep m) k 0 = max (AL.getZ m k 0) (ofV v k)) ∧ (v.foldl toldStep m).length ≤ m.length + v.length ∧ (∀ k, k ∈ (v.foldl toldStep m).map (·.1) → k ∈ m.map (·.1) ∨ 0 < ofV v k) := by
  induction v with
  | nil =>
    intro m h;refine ⟨h, fun h0 k => ?_, by simp, fun k hk => .inl hk⟩;have := h0 k;simp only [List.foldl_nil, ofV];omega
  | cons d r ih =>
    intro m h;simp only [List.foldl_cons]
    by_cases hg : goodD d = true
    · have hd := goodD_iff.1 hg;have e : toldStep m d = AL.set m d.dev (max (AL.getZ m d.dev 0) d.n) := by simp [toldStep, hg]
      rw [e];obtain ⟨h1, h2, h3, h4⟩ := ih _ (AL.nodup_set h d.dev (max (AL.getZ m d.dev 0) d.n));refine ⟨h1, fun h0 k => ?_, ?_, fun k hk => ?_⟩
      · rw [h2 (fun q => by rw [AL.getZ_set]; have := h0 q; have := h0 d.dev; split <;> omega), AL.getZ_set];simp only [ofV]
        by_cases hk : d.dev = k
        · subst hk;simp only [if_true, hg, and_self];omega
        · simp [hk]
      · have := AL.len_set m d.dev (max (AL.getZ m d.dev 0) d.n);simp only [List.length_cons]; omega
      · simp only [ofV];rcases h4 k hk with h5 | h5
        · rw [AL.keys_set] at h5
          split at h5
          · exact .inl h5
          · rcases List.mem_append.1 h5 with h5 | h5
            · exact .inl h5
            · right
              rw [List.mem_singleton.1 h5, if_pos ⟨rfl, hg⟩];omega
        · right; split <;> omega
    · have e : toldStep m d = m := by simp [toldStep, hg]
      rw [e];obtain ⟨h1, h2, h3, h4⟩ := ih m h;have e2 : ∀ k, ofV (d :: r) k = ofV r k := fun k => by simp only [ofV]; rw [if_neg (fun hh => hg hh.2)]
      exact ⟨h1, fun h0 k => by rw [h2 h0, e2], by simp only [List.length_cons]; omega, fun k hk => by rw [e2]; exact h4 k hk⟩
theorem told_nodup (v : List TDot) : ((toldM v).map (·.1)).Nodup := (told_gen v [] (by simp)).1
theorem told_get (v : List TDot) (k : Int) : AL.getZ (toldM v) k 0 = ofV v k := by
  have := (told_gen v [] (by simp)).2.1 (fun _ => Int.le_refl _) k;have h2 := ofV_range v k;rw [toldM, this];show max 0 (ofV v k) = _;omega
theorem told_len (v : List TDot) : (toldM v).length ≤ v.length := by simpa [toldM] using (told_gen v [] (by simp)).2.2.1
theorem told_mem {v : List TDot} {k n : Int} (h : (k, n) ∈ toldM v) : n = ofV v k ∧ 0 < n := by
  have h1 := AL.mem_get (told_nodup v) h;have h2 : AL.getZ (toldM v) k 0 = n := by simp [AL.getZ, h1]
  rw [told_get] at h2;have h3 := (told_gen v [] (by simp)).2.2.2 k (List.mem_map.2 ⟨_, h, rfl⟩);simp at h3;omega
def updM (h : Int × Int → Int) (m : List (Int × Int)) (L : List Nat) : List (Int × Int) := m.zipIdx.map fun y => if y.2 ∈ L then (y.1.1, h y.1) else y.1
theorem updM_get {h : Int × Int → Int} {m : List (Int × Int)} {L : List Nat} {i : Nat} : (updM h m L)[i]? = (m[i]?).map fun e => if i ∈ L then (e.1, h e) else e := by
  unfold updM;rw [List.getElem?_map, List.getElem?_zipIdx]
  cases m[i]? <;> simp
theorem updM_len {h : Int × Int → Int} {m : List (Int × Int)} {L : List Nat} : (updM h m L).length = m.length := by simp [updM]
theorem set_at {m : List (Int × Int)} (hn : (m.map (·.1)).Nodup) {i : Nat} {e : Int × Int} (hi : m[i]? = some e) (v : Int) : AL.set m e.1 v = m.set i (e.1, v) := by
  induction m generalizing i with
  | nil => simp at hi
  | cons x r ih =>
    obtain ⟨a, u⟩ := x;simp only [List.map_cons, List.nodup_cons] at hn
    cases i with
    | zero => simp at hi; subst hi; simp [AL.set]
    | succ i =>
      simp only [List.getElem?_cons_succ] at hi;have : a ≠ e.1 := fun he => hn.1 (he ▸ List.mem_map.2 ⟨e, List.mem_of_getElem? hi, rfl⟩)
      simp only [AL.set, this, if_false, List.set_cons_succ];rw [ih hn.2 hi]
theorem updM_keys {h : Int × Int → Int} {m : List (Int × Int)} {L : List Nat} : (updM h m L).map (·.1) = m.map (·.1) := by
  apply List.ext_getElem?;intro i;rw [List.getElem?_map, updM_get, List.getElem?_map]
  cases m[i]? with
  | none => rfl
  | some e => simp only [Option.map_some]; split <;> rfl
theorem updM_snoc {h : Int × Int → Int} {m : List (Int × Int)} (hn : (m.map (·.1)).Nodup) {L : List Nat} {i : Nat} {e : Int × Int} (hi : m[i]? = some e) (hL : i ∉ L) : AL.set (updM h m L) e.1 (h e) = updM h m (L ++ [i]) := by
  have h1 : (updM h m L)[i]? = some e := by rw [updM_get, hi]; simp [hL]
  rw [set_at (by rw [updM_keys]; exact hn) h1];apply List.ext_getElem?;intro j;rw [List.getElem?_set, updM_len, updM_get, updM_get]
  by_cases hj : i = j
  · subst hj;have := (List.getElem?_eq_some_iff.1 hi).1;rw [if_pos rfl, if_pos this, hi];simp
  · rw [if_neg hj];have : j ∈ L ++ [i] ↔ j ∈ L := by simp; exact fun e => absurd e.symm hj
    simp only [this]
theorem updM_all {h : Int × Int → Int} {m : List (Int × Int)} {L : List Nat} (hL : ∀ i, i < m.length → i ∈ L) : updM h m L = m.map fun e => (e.1, h e) := by
  apply List.ext_getElem?;intro i;rw [updM_get, List.getElem?_map]
  cases hm : m[i]? with
  | none => rfl
  | some e => simp [hL i (List.getElem?_eq_some_iff.1 hm).1]
theorem told_at {v : List TDot} {k : Int} (h : 0 < ofV v k) : (k, ofV v k) ∈ toldM v := by
  have h1 : AL.getZ (toldM v) k 0 = ofV v k := told_get v k;unfold AL.getZ at h1
  cases hg : AL.get (toldM v) k with
  | none => rw [hg] at h1; simp at h1; omega
  | some n => rw [hg] at h1; simp at h1; subst h1; exact AL.get_mem hg

def cmpD (a b : TDot) : Int := if a = b then 0 else if ltDot a b then -1 else 1
theorem r07_Cmp_eq (a b : TDot) : r07_Cmp a b = pure (cmpD a b) := by
  unfold r07_Cmp cmpD;have h1 : (decide (a.dev = b.dev) && decide (a.n = b.n)) = decide (a = b) := by
    rw [Bool.eq_iff_iff]; cases a; cases b; simp
  have h2 : (cond (decide (a.dev < b.dev)) (pure true) (cond (decide (a.dev = b.dev)) (pure (decide (a.n < b.n))) (pure false)) : M Bool) = pure (ltDot a b) := by
    rw [cond_pure_and, cond_pure_or]; rfl
  rw [h1, h2, cond_dec, pure_bind]
  split
  · rfl
  · cases ltDot a b <;> rfl
theorem cmpD_neg {a b : TDot} : cmpD a b < 0 ↔ ltDot a b = true := by
  unfold cmpD
  split
  · rename_i h; subst h; simp [ltDot]
  · split <;> simp_all
theorem cmpD_pos {a b : TDot} : 0 < cmpD a b ↔ ltDot b a = true := by
  unfold cmpD
  by_cases h : a = b
  · subst h; simp [ltDot]
  · rw [if_neg h]
    cases a; cases b
    simp only [TDot.mk.injEq] at h;simp only [ltDot, Bool.or_eq_true, Bool.and_eq_true, decide_eq_true_eq]
    split <;> omega
theorem r07_Put_eq (l : List TDot) (d : TDot) (h : l.length ≤ 1000000000000) : r07_Put l d = pure ((l.filter fun x => ltDot x d) ++ [d] ++ (l.filter fun x => ltDot d x)) := by
  unfold r07_Put;have c0 : ∀ o : List TDot, o.length ≤ 1000000000000 → True := fun _ _ => trivial
  have h1 := loopL (body := r07_Put_l0 l d) l (fun i (o : List TDot) => ((i : Int), o)) (fun o x => if ltDot x d then o ++ [x] else o) (fun o => pure o) (fun i o => o.length ≤ i) (fun i x o hx hi ho => by
    have h1 : decide ((i : Int) < (l.length : Int)) = true := by simpa using hi
    unfold r07_Put_l0;simp only [h1, cond_true, idx_nat hx, pure_bind, r07_Cmp_eq, det_pure, wSucc (show i < 9223372036854775807 by omega), cond_dec, cmpD_neg]
    split
    · rw [need_true (by simp; omega)]; exact ⟨rfl, by simp; omega⟩
    · exact ⟨rfl, by omega⟩) (fun o _ => by unfold r07_Put_l0; simp [pure_bind]) [] (by simp)
  have h2 : ∀ o0 : List TDot, o0.length ≤ 1000000000001 → loop (r07_Put_l1 l d) (0, o0) = pure (l.foldl (fun o x => if ltDot d x then o ++ [x] else o) o0) := fun o0 ho0 => by
    have := loopL (body := r07_Put_l1 l d) l (fun i (o : List TDot) => ((i : Int), o)) (fun o x => if ltDot d x then o ++ [x] else o) (fun o => pure o) (fun i o => o.length ≤ o0.length + i) (fun i x o hx hi ho => by
      have h1 : decide ((i : Int) < (l.length : Int)) = true := by simpa using hi
      unfold r07_Put_l1;simp only [h1, cond_true, idx_nat hx, pure_bind, r07_Cmp_eq, det_pure, wSucc (show i < 9223372036854775807 by omega), cond_dec, cmpD_pos]
      split
      · rw [need_true (by simp; omega)]; exact ⟨rfl, by simp; omega⟩
      · exact ⟨rfl, by omega⟩) (fun o _ => by unfold r07_Put_l1; simp [pure_bind]) o0 (by simp)
    exact this
  have hf : ∀ (p : TDot → Bool) (l o : List TDot), l.foldl (fun o x => if p x then o ++ [x] else o) o = o ++ l.filter p := by
    intro p l
    induction l with
    | nil => simp
    | cons x r ih =>
      intro o;rw [List.foldl_cons, ih, List.filter_cons]
      split <;> simp
  rw [show ((0 : Int), ([] : List TDot)) = (((0 : Nat) : Int), []) from rfl, h1, hf, pure_bind, need_true, h2, hf, pure_bind]
  · rfl
  · have := List.length_filter_le (fun x => ltDot x d) l; simp; omega
  · have := List.length_filter_le (fun x => ltDot x d) l; simp; omega
def ones (l : List Int) : List TDot := l.map fun k => ⟨k, 1⟩
theorem put_ones {l : List Int} (h : l.Pairwise (· < ·)) (k : Int) : ((ones l).filter fun x => ltDot x ⟨k, 1⟩) ++ [⟨k, 1⟩] ++ ((ones l).filter fun x => ltDot ⟨k, 1⟩ x) = ones (insI l k) := by
  induction l with
  | nil => rfl
  | cons a r ih =>
    obtain ⟨h1, h2⟩ := List.pairwise_cons.1 h;have i2 := ih h2;unfold insI
    by_cases c1 : k < a
    · rw [if_pos c1];have e1 : (ones (a :: r)).filter (fun x => ltDot x ⟨k, 1⟩) = [] := by
        rw [List.filter_eq_nil_iff];intro x hx;simp only [ones, List.map_cons, List.mem_cons, List.mem_map] at hx;rcases hx with rfl | ⟨b, hb, rfl⟩
        · simp [ltDot]; omega
        · have := h1 b hb; simp [ltDot]; omega
      have e2 : (ones (a :: r)).filter (fun x => ltDot ⟨k, 1⟩ x) = ones (a :: r) := by
        rw [List.filter_eq_self];intro x hx;simp only [ones, List.map_cons, List.mem_cons, List.mem_map] at hx;rcases hx with rfl | ⟨b, hb, rfl⟩
        · simp [ltDot]; omega
        · have := h1 b hb; simp [ltDot]; omega
      rw [e1, e2]; rfl
    · rw [if_neg c1]
      by_cases c2 : k = a
      · subst c2;rw [if_pos rfl];have e1 : (ones (k :: r)).filter (fun x => ltDot x ⟨k, 1⟩) = [] := by
          rw [List.filter_eq_nil_iff];intro x hx;simp only [ones, List.map_cons, List.mem_cons, List.mem_map] at hx;rcases hx with rfl | ⟨b, hb, rfl⟩
          · simp [ltDot]
          · have := h1 b hb; simp [ltDot]; omega
        have e2 : (ones (k :: r)).filter (fun x => ltDot ⟨k, 1⟩ x) = ones r := by
          show List.filter _ (⟨k, 1⟩ :: ones r) = _;rw [List.filter_cons, if_neg (by simp [ltDot]), List.filter_eq_self];intro x hx;simp only [ones, List.mem_map] at hx;obtain ⟨b, hb, rfl⟩ := hx;have := h1 b hb; simp [ltDot]; omega
        rw [e1, e2]; rfl
      · rw [if_neg c2];show (List.filter _ (⟨a, 1⟩ :: ones r)) ++ _ ++ (List.filter _ (⟨a, 1⟩ :: ones r)) = ⟨a, 1⟩ :: ones (insI r k);rw [List.filter_cons, if_pos (by simp [ltDot]; omega), List.filter_cons, if_neg (by simp [ltDot]; omega), ← i2]
        rfl
theorem equal_eq (a b : List TDot) (h : a.length ≤ 1000000000000) : slices_Equal_sl_Dot_Dot a b = pure (decide (a = b)) := by
  have e : slices_Equal_sl_Dot_Dot a b = r07_Same a b := rfl;rw [e, r07_Same_eq a b h]
theorem dot_Same_eq (a b : List TDot) (h : a.length ≤ 1000000000000) : dot_Same a b = pure (decide (a = b)) := by
  unfold dot_Same;rw [equal_eq a b h, det_pure, pure_bind]
end Go.Ep.M.V


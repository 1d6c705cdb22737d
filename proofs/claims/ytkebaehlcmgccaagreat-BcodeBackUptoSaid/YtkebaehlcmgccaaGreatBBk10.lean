/- Side texts. -/
import Derived.Test.YtkebaehlcmgccaaGreatBBk2
import Derived.Test.YtkebaehlcmgccaaGreatBBk3
import Derived.Test.YtkebaehlcmgccaaGreatBBk4
import Derived.Test.YtkebaehlcmgccaaGreatBBk5
import Derived.Test.YtkebaehlcmgccaaGreatBBk6
import Derived.Test.YtkebaehlcmgccaaGreatBBk7
import Derived.Test.YtkebaehlcmgccaaGreatBBk8
import Derived.Test.YtkebaehlcmgccaaGreatBBk9
set_option linter.unusedVariables false
set_option linter.unusedSimpArgs false
namespace Go.Proofs
open Go.Ep Tryz
set_option maxHeartbeats 1000000
set_option maxRecDepth 100000
set_option linter.unusedVariables false
set_option linter.unusedSimpArgs false


theorem jM (d1:DL) (l2:List LA) (rest3:List Int) (r0:Bool) (h:(uq d1 l2 rest3).wp (· = r0)):PFun prog 4 [.agg (List.map .d (DL.e d1)),.d (.sl (List.map LA.e l2)),.d (.sl (List.map (eK .u8) rest3))] (.d (.v (.bool r0))):=by
 refine fI (sl:=[(0,_),(1,_),(2,_)]) func4 rfl ntmps4 rfl rfl ?_;intro ctx hK;refine wQ<|wR<|ws (LR.box rfl rfl rfl rfl)<|wa ?_;refine wN<|wQ<|wQ ?_;refine wJ (zG h) (fun (v4:Bool) (_:Unit)=>⟨79,[(1,.d (.sl (List.map LA.e l2))),(2,.d (.sl (List.map (eK .u8) rest3))),(3,.ref 3 0),(26,.d (.v (.bool v4)))],[(3,.cells 34 [.d (.sl (List.map PT.e d1.from_)),.d (.sl (List.map PT.e d1.to_)),.d (.sl (List.map EV.e d1.events))])]⟩) (fun h=>?_) ?_
 ·refine wR<|ws (lA (ps:=[_,_,_]) isAgg34 sizeOf34 rfl rfl rfl rfl) ?_;obtain ⟨v5,hy6,h⟩:=zH h;refine xN (vna d1 v5 hy6) call17<|ws (LR.not rfl)<|wm ?_;refine xG (d:=17) h rfl (fun _ h=>?_) (fun _ h=>?_)
  ·refine wf<|wf<|wf<|ws (pT rfl rfl)<|wm ?_;refine wf<|wf<|wf<|ws (pT rfl rfl)<|wN ?_;exact ⟨true,(),h,sP⟩
  ·refine wt (mV rfl) ?_;obtain ⟨v8,hy9,h⟩:=zH h;refine wt (cN (voa l2 20 v8 hy9) rfl call18 rfl rfl rfl rfl)<|wt (eQ rfl rfl)<|ws (pF rfl rfl)<|wm ?_;refine xG (d:=22) h rfl (fun _ h=>?_) (fun _ h=>?_)
   ·refine wf<|wf<|wf<|ws (pT rfl rfl)<|wN ?_;exact ⟨true,(),h,sP⟩
   ·refine wt (lA (ps:=[_,_,_]) isAgg34 sizeOf34 rfl rfl rfl rfl) ?_;obtain ⟨v11,hy12,h⟩:=zH h;refine wt (cN (xta d1 v11 hy12) rfl call19 rfl rfl rfl rfl)<|wt (LR.not rfl)<|ws (pF rfl rfl)<|wN ?_;exact ⟨(!v11),(),h,sP⟩
 ·rintro v4 _ h;refine xD h rfl (fun _ h=>?_) (fun _ h=>?_)
  ·refine wQ<|wR ?_;obtain ⟨v14,hy15,h⟩:=zH h;refine xN (jH v14 hy15) call5<|wa ?_;refine wN<|wX ?_;cases h;exact xT
  ·refine wK<|wQ<|wR<|wm ?_;obtain ⟨v16,hy17,h⟩:=zH h;refine xN (u2a l2 v16 hy17) call20<|ws (LR.allocZ (cs:=[_,_]) zeroValue44 rfl rfl rfl rfl)<|ws (sB (ns:=[_,_]) sizeOf44 rfl rfl rfl rfl rfl rfl rfl)<|wN<|wQ<|wz (tl:=[(2,_),(3,_),(7,_)]) (to:=[(3,_),(7,_)]) ?_;refine PWc.regionE [⟨[31],[],[],[],[],[7],[],[]⟩,⟨[32],[],[7],[],[],[],[],[]⟩,{ws:=[33]},⟨[34],[],[],[],[],[7],[],[]⟩,⟨[35],[],[7],[],[],[],[],[]⟩,⟨[36],[20720,20721,20722],[],[20720,20721,20722],[],[20720],[20721,20722],[]⟩,⟨[30],[],[],[],[],[20720],[],[]⟩,⟨[37],[],[],[],[],[20720],[],[]⟩,{ws:=[38]},⟨[8],[],[],[],[],[20720],[],[]⟩,{ws:=[9]}] (by kernel_rfl) (by kernel_rfl) rfl ?_;refine kp (fun _ U W=>fR underlying44 rfl sizeOf31 (by decide) rfl U) ?_;refine kp (fun _ U W=>lD isAgg31 U (W rfl rfl) rfl) ?_;obtain ⟨v18,hy19,h⟩:=zH h;refine kp (fun _ U W=>cN (PRow.fun (XF v16.ctx v18 hy19)) U call22 (wd (fun a b=>U a b) rfl rfl) rfl rfl rfl) ?_;refine kp (fun _ U W=>fR underlying44 rfl sizeOf32 (by decide) rfl U) ?_;refine kp (fun _ U W=>lD isAgg32 U (W rfl rfl) rfl) ?_;obtain ⟨y20,hy21,h⟩:=zH h;rcases y20 with z22 | z23
   ·replace h:=iSumL h;exact False.elim h
   ·replace h:=iSumR h;refine PQe.callObj [(12,20720),(30241,20721),(30242,20722)] [] [12,30241,30242] (wh v18 v16.l (.inr z23) hy21) hK (fun _ U=>⟨U rfl rfl,wd U rfl rfl⟩) call21 (by first | rfl | (simp;done) | (simp [PV.nilD,PV.ren,rn];omega)) (.nil) rfl rfl rfl rfl (.inl rfl) rfl ?_;refine km ?_;refine kp (fun _ U W=>LR.extract U rfl) ?_;refine kp (fun _ U W=>LR.extract U rfl) ?_;refine kp (fun _ U W=>aS U) ?_;refine kp (fun _ U W=>aS U)<|PQe.nil<|wQ<|wz (tl:=[(2,_),(3,_),(8,_)]) (to:=[(3,_),(20720,_),(20721,_),(20722,_)]) ?_;refine wR<|wm ?_;obtain ⟨y24,hy25,h⟩:=zH h;refine ws (LR.callObjS [(100,20720),(101,20721),(102,20722)] [] [100,101,102] [] [(100,.cells 106 [.d (.sl (List.map PT.e z23.1)),.mp 101,.mp 102]),(101,.mapH z23.2.1 [.u16,.u64] true (yA DT.k EV.e z23.2.2.1)),(102,.mapH z23.2.2.2.1 [.u16,.u64] true (yA DT.k EV.e z23.2.2.2.2))] (YX z23.1 z23.2.1 z23.2.2.1 z23.2.2.2.1 z23.2.2.2.2 y24 hy25) hK rfl call16 rfl (by first | rfl | (simp;done) | (simp [PV.nilD,PV.ren,rn];omega)) (by repeat' first | constructor | (congr 1;first | (simp;done) | (simp;omega) | omega)) (.nil) (.cons rfl<|.cons rfl<|.cons rfl<|.nil) (by repeat' first | constructor | (congr 1;first | (simp;done) | (simp;omega) | omega)) rfl rfl rfl rfl rfl rfl) ?_;obtain ⟨y26,hy27,h⟩:=zH h;rcases y26 with z28 | z29
    ·replace h:=iSumL h;exact False.elim h
    ·replace h:=iSumR h;refine xO [(20480,20840),(20481,20841),(20482,20842)] [] [20480,20481,20482] (Uq y24 (.inr z29) hy27) call12<|wy (tl:=[(2,_),(3,_),(8,_),(42,_)]) (to:=[(3,_),(20720,_),(20721,_),(20722,_),(20840,_),(20841,_),(20842,_)]) ?_;refine wm ?_;refine ws (LR.extract rfl rfl)<|ws (LR.extract rfl rfl)<|wa ?_;refine wa ?_;refine wN<|wQ<|wR<|ws (LR.allocR (cs:=[_]) zeroValue58 rfl rfl rfl rfl)<|PWl.sub (Sub.ownNil (id:=12) (j:=0) (id':=30240) (e:=5) (k:=1) rfl rfl rfl rfl)<|wN<|wQ<|wz (tl:=[(2,_),(3,_),(8,_),(10,_),(11,_),(12,_)]) (to:=[(3,_),(12,_),(20720,_),(20721,_),(20722,_),(20840,_),(20841,_),(20842,_),(30240,_)]) ?_;refine wR<|ws (lA (ps:=[_,_,_]) isAgg34 sizeOf34 rfl rfl rfl rfl) ?_;obtain ⟨y30,hy31,h⟩:=zH h;refine xO [(100,12),(101,30240)] [] [100,101] (VO d1 ([]:List Int) y30 hy31) call23<|wN<|wQ<|wz (tl:=[(2,_),(3,_),(8,_),(10,_),(11,_),(12,_)]) (to:=[(3,_),(12,_),(20720,_),(20721,_),(20722,_),(20840,_),(20841,_),(20842,_),(30240,_)]) ?_;refine wR ?_;obtain ⟨y32,hy33,h⟩:=zH h;refine xO [(100,12),(101,30240),(9,47)] [] [100,101,9] (xi y30 y32 hy33) call24<|wy (tl:=[(2,_),(3,_),(8,_),(10,_),(11,_),(47,_)]) (to:=[(3,_),(47,_),(20720,_),(20721,_),(20722,_),(20840,_),(20841,_),(20842,_)]) ?_;refine wm ?_;obtain ⟨hy34,h⟩:=zw h;refine ws (LR.appT (enc:=(eK .u8)) (L:=y32.2) (R:=rest3) [47] YN underlying22 rfl rfl rfl (Src.slT (enc:=(eK .u8)) (R:=rest3) rfl (fun _=>rfl)) (fun _=>rfl) hy34 rfl rfl) ?_;obtain ⟨y35,hy36,h⟩:=zH h;refine PWl.frz [49] hK (.cons rfl<|.nil) rfl (by simp) ?_;refine xO [(7,50)] [] [7] (XJ (y32.2 ++ rest3) y35 hy36) call6<|wy (tl:=[(2,_),(3,_),(8,_),(10,_),(11,_),(50,_)]) (to:=[(3,_),(50,_),(20720,_),(20721,_),(20722,_),(20840,_),(20841,_),(20842,_)]) ?_;refine wa ?_;refine wN<|wQ<|wz (tl:=[(2,_),(3,_),(8,_),(10,_),(11,_),(13,_)]) (to:=[(3,_),(50,_),(20720,_),(20721,_),(20722,_),(20840,_),(20841,_),(20842,_)]) ?_;refine wJ (zG h) (fun (v37:Bool) (_:Unit)=>⟨79,[(6,.d (.v (.bool v37)))],[]⟩) (fun h=>?_) ?_
     ·refine PWc.regionE [{ws:=[51]},{ws:=[52]},{ws:=[53]},⟨[54],[],[],[],[],[20720],[],[]⟩,⟨[55],[],[],[],[],[20840],[],[]⟩,⟨[56],[],[20720,20721,20722,20840,20841,20842],[],[],[],[],[]⟩,{ws:=[57]},{ws:=[58]},⟨[59],[],[],[],[],[50],[],[]⟩,⟨[60],[50],[50],[],[],[],[],[]⟩,⟨[61],[],[3],[],[],[],[],[]⟩,{ws:=[62]},{ws:=[63]},{ws:=[64]},⟨[65],[],[],[],[],[50],[],[]⟩,⟨[66],[50],[50],[],[],[],[],[]⟩,{ws:=[67]},{ws:=[68]},{ws:=[69]},⟨[70],[],[],[],[],[50],[],[]⟩,⟨[71],[50],[50],[],[],[],[],[]⟩,{ws:=[72]},{ws:=[73]},{ws:=[74]},{ws:=[75]},{ws:=[76]},{ws:=[77]},{ws:=[78]},{ws:=[6]}] (by kernel_rfl) (by kernel_rfl) rfl<|km ?_;refine kp (fun _ U W=>eQ U U)<|km ?_;refine PQe.split (d:=53) rfl (fun hg38=>?_) (fun hg38=>?_)
      ·replace h:=iT hg38 h;refine PQe.stepP (fun _ U W=>mV (U rfl rfl)) (.inr ⟨_,_,_,rfl,rfl,rfl⟩) rfl ?_;refine PQe.stepP (fun _ U W=>mV (U rfl rfl)) (.inr ⟨_,_,_,rfl,rfl,rfl⟩) rfl ?_;obtain ⟨y39,hy40,h⟩:=zH h;refine PQe.callObjS [(100,20720),(101,20840),(102,20721),(103,20722),(104,20841),(105,20842)] [] [100,101,102,103,104,105] [] [(100,.cells 106 [.d (.sl (List.map PT.e z23.1)),.mp 102,.mp 103]),(101,.cells 106 [.d (.sl (List.map PT.e z29.2.1)),.mp 104,.mp 105]),(102,.mapH z23.2.1 [.u16,.u64] true (yA DT.k EV.e z23.2.2.1)),(103,.mapH z23.2.2.2.1 [.u16,.u64] true (yA DT.k EV.e z23.2.2.2.2)),(104,.mapH z29.2.2.1 [.u16,.u64] true (yA DT.k EV.e z29.2.2.2.1)),(105,.mapH z29.2.2.2.2.1 [.u16,.u64] true (yA DT.k EV.e z29.2.2.2.2.2))] (qh z23.1 z29.2.1 z23.2.1 z23.2.2.1 z23.2.2.2.1 z23.2.2.2.2 z29.2.2.1 z29.2.2.2.1 z29.2.2.2.2.1 z29.2.2.2.2.2 y39 hy40) hK (fun _ U=>⟨U rfl rfl,wd U rfl rfl⟩) call25 (by first | rfl | (simp;done) | (simp [PV.nilD,PV.ren,rn];omega)) (by repeat' first | constructor | (congr 1;first | (simp;done) | (simp;omega) | omega)) (.nil) (.cons rfl<|.cons rfl<|.cons rfl<|.cons rfl<|.cons rfl<|.cons rfl<|.nil) (by repeat' first | constructor | (congr 1;first | (simp;done) | (simp;omega) | omega)) rfl rfl rfl rfl rfl rfl (.inr ⟨_,_,_,rfl,rfl,rfl⟩) rfl ?_;refine kp (fun _ U W=>pT U U)<|km ?_;refine PQe.split (d:=58) rfl (fun hg41=>?_) (fun hg41=>?_)
       ·replace h:=iT hg41 h;refine PQe.stepP (fun _ U W=>mV (U rfl rfl)) (.inr ⟨_,_,_,rfl,rfl,rfl⟩) rfl ?_;obtain ⟨y42,hy43,h⟩:=zH h;refine PQe.callObj [(100,50)] [] [100] (jL y35.1 y35.2 y42 hy43) hK (fun _ U=>⟨U rfl rfl,wd U rfl rfl⟩) call8 (by first | rfl | (simp;done) | (simp [PV.nilD,PV.ren,rn];omega)) (.cons (by first | rfl | (congr 1;first | (simp;done) | (simp;omega) | omega))<|.nil) rfl rfl rfl rfl (.inr ⟨_,_,_,rfl,rfl,rfl⟩) rfl ?_;refine PQe.stepP (fun _ U W=>lA (ps:=[_,_,_]) isAgg34 sizeOf34 (U rfl rfl) (W rfl rfl) rfl rfl) (.inr ⟨_,_,_,rfl,rfl,rfl⟩) rfl ?_;obtain ⟨v44,hy45,h⟩:=zH h;refine PQe.stepP (fun _ U W=>cN (xma y42.1 d1 v44 hy45) (U rfl rfl) call7 (wd U rfl rfl) rfl rfl rfl) (.inr ⟨_,_,_,rfl,rfl,rfl⟩) rfl ?_;refine kp (fun _ U W=>pT U U)<|km ?_;refine PQe.split (d:=64) rfl (fun hg46=>?_) (fun hg46=>?_)
        ·replace h:=iT hg46 h;refine PQe.stepP (fun _ U W=>mV (U rfl rfl)) (.inr ⟨_,_,_,rfl,rfl,rfl⟩) rfl ?_;obtain ⟨y47,hy48,h⟩:=zH h;refine PQe.callObj [(100,50)] [] [100] (zR y42.2.1 y42.2.2 y47 hy48) hK (fun _ U=>⟨U rfl rfl,wd U rfl rfl⟩) call26 (by first | rfl | (simp;done) | (simp [PV.nilD,PV.ren,rn];omega)) (.cons (by first | rfl | (congr 1;first | (simp;done) | (simp;omega) | omega))<|.nil) rfl rfl rfl rfl (.inr ⟨_,_,_,rfl,rfl,rfl⟩) rfl ?_;refine PQe.stepP (fun _ U W=>eQ (U rfl rfl) (U rfl rfl)) (.inr ⟨_,_,_,rfl,rfl,rfl⟩) rfl ?_;refine kp (fun _ U W=>pT U U)<|km ?_;refine PQe.split (d:=69) rfl (fun hg49=>?_) (fun hg49=>?_)
         ·replace h:=iT hg49 h;refine PQe.stepP (fun _ U W=>mV (U rfl rfl)) (.inr ⟨_,_,_,rfl,rfl,rfl⟩) rfl ?_;obtain ⟨y50,hy51,h⟩:=zH h;refine PQe.callObj [(100,50)] [] [100] (yu y47.2.1 y47.2.2 y50 hy51) hK (fun _ U=>⟨U rfl rfl,wd U rfl rfl⟩) call27 (by first | rfl | (simp;done) | (simp [PV.nilD,PV.ren,rn];omega)) (.cons (by first | rfl | (congr 1;first | (simp;done) | (simp;omega) | omega))<|.nil) rfl rfl rfl rfl (.inr ⟨_,_,_,rfl,rfl,rfl⟩) rfl ?_;refine PQe.stepP (fun _ U W=>mV (U rfl rfl)) (.inr ⟨_,_,_,rfl,rfl,rfl⟩) rfl ?_;refine PQe.stepP (fun _ U W=>lM (enc:=(eK .u8)) (L:=rest3) underlying22 (U rfl rfl)) (.inr ⟨_,_,_,rfl,rfl,rfl⟩) rfl ?_;refine PQe.stepP (fun _ U W=>eQ (U rfl rfl) (U rfl rfl)) (.inr ⟨_,_,_,rfl,rfl,rfl⟩) rfl ?_;refine kp (fun _ U W=>pT U U)<|km ?_;refine PQe.split (d:=76) rfl (fun hg52=>?_) (fun hg52=>?_)
          ·replace h:=iT hg52 h;obtain ⟨v53,hy54,h⟩:=zH h;refine PQe.stepP (fun _ U W=>cN (jH v53 hy54) (U rfl rfl) call5 (wd U rfl rfl) rfl rfl rfl) (.inr ⟨_,_,_,rfl,rfl,rfl⟩) rfl ?_;refine kp (fun _ U W=>pT U U) ?_;refine kp (fun _ U W=>aS U)<|PQe.nil ?_;exact ⟨v53,(),h,sP⟩
          ·replace h:=iF hg52 h;refine kx ?_;refine kp (fun _ U W=>pF U U) ?_;refine kp (fun _ U W=>aS U)<|PQe.nil ?_;exact ⟨false,(),h,sP⟩
         ·replace h:=iF hg49 h;refine kx<|kx<|kx<|kx<|kx ?_;refine kp (fun _ U W=>pF U U)<|km ?_;refine kx ?_;refine kp (fun _ U W=>pF U U) ?_;refine kp (fun _ U W=>aS U)<|PQe.nil ?_;exact ⟨false,(),h,sP⟩
        ·replace h:=iF hg46 h;refine kx<|kx<|kx ?_;refine kp (fun _ U W=>pF U U)<|km ?_;refine kx<|kx<|kx<|kx<|kx ?_;refine kp (fun _ U W=>pF U U)<|km ?_;refine kx ?_;refine kp (fun _ U W=>pF U U) ?_;refine kp (fun _ U W=>aS U)<|PQe.nil ?_;exact ⟨false,(),h,sP⟩
       ·replace h:=iF hg41 h;refine kx<|kx<|kx<|kx ?_;refine kp (fun _ U W=>pF U U)<|km ?_;refine kx<|kx<|kx ?_;refine kp (fun _ U W=>pF U U)<|km ?_;refine kx<|kx<|kx<|kx<|kx ?_;refine kp (fun _ U W=>pF U U)<|km ?_;refine kx ?_;refine kp (fun _ U W=>pF U U) ?_;refine kp (fun _ U W=>aS U)<|PQe.nil ?_;exact ⟨false,(),h,sP⟩
      ·replace h:=iF hg38 h;refine kx<|kx<|kx ?_;refine kp (fun _ U W=>pF U U)<|km ?_;refine kx<|kx<|kx<|kx ?_;refine kp (fun _ U W=>pF U U)<|km ?_;refine kx<|kx<|kx ?_;refine kp (fun _ U W=>pF U U)<|km ?_;refine kx<|kx<|kx<|kx<|kx ?_;refine kp (fun _ U W=>pF U U)<|km ?_;refine kx ?_;refine kp (fun _ U W=>pF U U) ?_;refine kp (fun _ U W=>aS U)<|PQe.nil ?_;exact ⟨false,(),h,sP⟩
     ·rintro v37 _ h;refine wX ?_;cases h;exact xT
end Go.Proofs

namespace Go.Ep
open Go

theorem Xi {n:Int} (h:-9223372036854775808 <= n) (h':n <= 9223372036854775807):IntKind.i64.wrap n = n:=by simp [IntKind.wrap,IntKind.bits,IntKind.signed];omega
theorem VV {n:Int} (h:0 <= n) (h':n <= 18446744073709551615):IntKind.u64.wrap n = n:=by simp [IntKind.wrap,IntKind.bits,IntKind.signed];omega
theorem wU16 {n:Int} (h:0 <= n) (h':n <= 65535):IntKind.u16.wrap n = n:=by simp [IntKind.wrap,IntKind.bits,IntKind.signed];omega
theorem wU8 {n:Int} (h:0 <= n) (h':n <= 255):IntKind.u8.wrap n = n:=by simp [IntKind.wrap,IntKind.bits,IntKind.signed];omega
theorem zo {i:Nat} (h:i < 9223372036854775807):IntKind.i64.wrap ((i:Int) + 1) = ((i + 1:Nat):Int):=by rw [Xi (by omega) (by omega)];rfl
namespace M
variable {α β σ ρ τ ε:Type}
theorem yb (p:Prop) [Decidable p] (x y:M α):cond (decide p) x y = if p then x else y:=by by_cases h:p <;> simp [h]
theorem uu {body:σ -> M (Step σ ρ)} (l:List ε) (mk:Nat -> τ -> σ) (f:τ -> ε -> τ) (g:τ -> M ρ)
  (I:Nat -> τ -> Prop) (h1:∀ (i:Nat) (x:ε) (t:τ),l[i]? = some x -> i < l.length -> I i t -> body (mk i t) = pure (.next (mk (i + 1) (f t x))) /\ I (i + 1) (f t x))
  (h2:∀ t,I l.length t -> body (mk l.length t) = (g t).bind fun r=>pure (.done r)) (t0:τ) (h0:I 0 t0):loop body (mk 0 t0) = g (l.foldl f t0):=by
 have key:∀ k i t,i + k = l.length -> I i t -> loop body (mk i t) = g ((l.drop i).foldl f t):=by
  intro k
  induction k with
  | zero=>
   intro i t hi hI;have:i = l.length:=by omega
   subst this;rw [JK,h2 t hI,List.drop_length]
   rfl
  | succ k ih=>
   intro i t hi hI;have hlt:i < l.length:=by omega
   obtain ⟨h3,h4⟩:=h1 i l[i] t (List.getElem?_eq_getElem hlt) hlt hI;rw [zl h3,ih (i + 1) _ (by omega) h4,List.drop_eq_getElem_cons hlt]
   rfl
 simpa using key l.length 0 t0 (by omega) h0
theorem loopF {body:σ -> M (Step σ ρ)} (l:List ε) (mk:Nat -> σ) (p:Nat -> ε -> Bool) (r:Nat -> ε -> ρ) (d:M ρ)
  (h1:∀ (i:Nat) (x:ε),l[i]? = some x -> i < l.length -> body (mk i) = if p i x then pure (.done (r i x)) else pure (.next (mk (i + 1))))
  (h2:body (mk l.length) = d.bind fun r=>pure (.done r)):loop body (mk 0) = match (l.zipIdx).find? (fun y=>p y.2 y.1) with | some y=>pure (r y.2 y.1) | none=>d:=by
 have key:∀ k i,i + k = l.length -> loop body (mk i) = match ((l.drop i).zipIdx i).find? (fun y=>p y.2 y.1) with | some y=>pure (r y.2 y.1) | none=>d:=by
  intro k
  induction k with
  | zero=>
   intro i hi;have:i = l.length:=by omega
   subst this;rw [JK,h2,List.drop_length]
   rfl
  | succ k ih=>
   intro i hi;have hlt:i < l.length:=by omega
   have h3:=h1 i l[i] (List.getElem?_eq_getElem hlt) hlt;rw [List.drop_eq_getElem_cons hlt,List.zipIdx_cons,List.find?_cons]
   by_cases hp:p i l[i] = true
   ·rw [if_pos hp] at h3;rw [zY h3];simp [hp]
   ·rw [if_neg hp] at h3;rw [zl h3,ih (i + 1) (by omega)];simp [hp]
 simpa using key l.length 0 (by omega)
theorem xX {body:σ -> M (Step σ ρ)} (l:List ε) (mk:Nat -> σ) (p:Nat -> ε -> Bool) (r1 r2:ρ)
  (h1:∀ (i:Nat) (x:ε),l[i]? = some x -> i < l.length -> body (mk i) = if p i x then pure (.next (mk (i + 1))) else pure (.done r2))
  (h2:body (mk l.length) = pure (.done r1)):loop body (mk 0) = pure (if l.zipIdx.all (fun y=>p y.2 y.1) then r1 else r2):=by
 have key:∀ k i,i + k = l.length -> loop body (mk i) = pure (if ((l.drop i).zipIdx i).all (fun y=>p y.2 y.1) then r1 else r2):=by
  intro k
  induction k with
  | zero=>
   intro i hi;have:i = l.length:=by omega
   subst this;rw [zY h2,List.drop_length]
   rfl
  | succ k ih=>
   intro i hi;have hlt:i < l.length:=by omega
   have h3:=h1 i l[i] (List.getElem?_eq_getElem hlt) hlt;rw [List.drop_eq_getElem_cons hlt,List.zipIdx_cons,List.all_cons]
   by_cases hp:p i l[i] = true
   ·rw [if_pos hp] at h3;rw [zl h3,ih (i + 1) (by omega),hp,Bool.true_and]
   ·rw [if_neg hp] at h3;rw [zY h3];simp [hp]
 have:=key l.length 0 (by omega);rw [List.drop_zero] at this;exact this

def came {ε:Type} (m:List ε) (L:List Nat):List ε:=L.filterMap fun i=>m[i]?
theorem u3a {m:List ε} {L:List Nat} {i:Nat} {y:ε} (h:m[i]? = some y):came m (L ++ [i]) = came m L ++ [y]:=by simp [came,h]
theorem zPa {n:Nat} {L:List Nat} (hn:L.Nodup) (hb:∀ i ∈ L,i < n) (ha:∀ i,i < n -> i ∈ L):L.Perm (List.range n):=by
 refine (List.perm_ext_iff_of_nodup hn List.nodup_range).2 fun i=>?_
 rw [List.mem_range];exact ⟨hb i,ha i⟩
theorem u4a {m:List ε} {L:List Nat} (hn:L.Nodup) (hb:∀ i ∈ L,i < m.length) (ha:∀ i,i < m.length -> i ∈ L):(came m L).Perm m:=by
 have h1:=(zPa hn hb ha).filterMap fun i=>m[i]?
 have h2:(List.range m.length).filterMap (fun i=>m[i]?) = m:=by
  apply List.ext_getElem?;intro i;clear h1 hn hb ha;have:(List.range m.length).filterMap (fun i=>m[i]?) = m:=by
   induction m with
   | nil=>rfl
   | cons x r ih=>
    rw [List.length_cons,List.range_succ_eq_map,List.filterMap_cons];simp only [List.getElem?_cons_zero,List.filterMap_map]
    congr 1
  rw [this]
 rw [h2] at h1;exact h1
theorem u5a {n:Nat} {L:List Nat} (hn:L.Nodup) (hb:∀ i ∈ L,i < n):L.length <= n:=by
 have:=List.Nodup.length_le_of_subset hn (l₂:=List.range n) (fun i hi=>List.mem_range.2 (hb i hi));simpa using this

theorem full {n:Nat} {L:List Nat} (hn:L.Nodup) (hb:∀ i ∈ L,i < n) (hl:n <= L.length):∀ i,i < n -> i ∈ L:=by
 intro i hi;refine Classical.byContradiction fun hni=>?_
 have:=u5a (n:=n) (L:=i :: L) (List.nodup_cons.2 ⟨hni,hn⟩) (fun j hj=>by
  rcases List.mem_cons.1 hj with rfl | hj
  ·exact hi
  ·exact hb j hj)
 simp at this;omega
theorem loopM {body:σ -> M (Step σ ρ)} (m:List ε) (mk:List Nat -> τ -> σ) (f:τ -> ε -> M τ) (g:τ -> M ρ) (I:List ε -> τ -> Prop) (Q:ρ -> Prop)
  (hb:∀ L t,(∀ i ∈ L,i < m.length) -> body (mk L t) = yW (∀ i ∈ L,i < m.length) ((nxt m.length L).bind fun o=>match o with
   | none=>(g t).bind fun r=>pure (.done r)
   | some i=>(idx m (Int.ofNat i)).bind fun y=>(f t y).bind fun t'=>pure (.next (mk (L ++ [i]) t'))))
  (hs:∀ l t y,I l t -> l.length < m.length -> y ∈ m -> ∃ t',f t y = pure t' /\ I (l ++ [y]) t') (he:∀ l t,l.Perm m -> I l t -> (g t).wp Q) (t0:τ) (h0:I [] t0):(loop body (mk [] t0)).wp Q:=by
 have key:∀ k L t,L.length + k = m.length -> L.Nodup -> (∀ i ∈ L,i < m.length) -> I (came m L) t -> qZ body Q (mk L t):=by
  intro k
  induction k with
  | zero=>
   intro L t hk hn hlt hI;refine Yk ?_;rw [hb L t hlt];have hall:∀ i,i < m.length -> i ∈ L:=fun i hi=>full hn hlt (by omega) i hi
   refine ⟨hlt,⟨⟨none,hall⟩,fun o ho=>?_⟩⟩
   cases o with
   | none=>
    have:=he _ t (u4a hn hlt hall) hI;exact this
   | some i=>exact absurd (hall i ho.1) ho.2
  | succ k ih=>
   intro L t hk hn hlt hI;refine Yk ?_;rw [hb L t hlt];have hex:∃ i,i < m.length /\ i ∉ L:=by
    refine Classical.byContradiction fun hno=>?_
    have hall:∀ i,i < m.length -> i ∈ L:=fun i hi=>Classical.byContradiction fun h=>hno ⟨i,hi,h⟩
    have:=(zPa hn hlt hall).length_eq;simp at this;omega
   obtain ⟨i0,hi0⟩:=hex;refine ⟨hlt,⟨⟨some i0,hi0⟩,fun o ho=>?_⟩⟩
   cases o with
   | none=>exact absurd (ho i0 hi0.1) hi0.2
   | some i=>
    have hi:=List.getElem?_eq_getElem ho.1;obtain ⟨t',h1,h2⟩:=hs (came m L) t m[i] hI (by have:=List.length_filterMap_le (fun i=>m[i]?) L;unfold came;omega) (List.getElem_mem ho.1);show ((idx m (Int.ofNat i)).bind _).wp _;rw [show (Int.ofNat i) = (i:Int) from rfl,zF hi,zA,h1,zA];refine ih (L ++ [i]) t' (by simp;omega) ?_ ?_ (by rw [u3a hi];exact h2)
    ·rw [List.nodup_append];refine ⟨hn,by simp,fun a ha b hb'=>?_⟩;rw [List.mem_singleton.1 hb'];intro e;exact ho.2 (e ▸ ha)
    ·intro j hj;rcases List.mem_append.1 hj with hj | hj
     ·exact hlt j hj
     ·rw [List.mem_singleton.1 hj];exact ho.1
 exact key m.length [] t0 (by simp) List.nodup_nil (by simp) h0

theorem loopN {body:σ -> M (Step σ ρ)} (n:Nat) (mk:List Nat -> τ -> σ) (I:List Nat -> τ -> Prop) (Q:ρ -> Prop)
  (h:∀ L t,I L t -> L.Nodup -> (∀ i ∈ L,i < n) -> ∃ K:Option Nat -> M (Step σ ρ),body (mk L t) = yW (∀ i ∈ L,i < n) ((nxt n L).bind K) /\ ((∀ i,i < n -> i ∈ L) -> (K none).wp (Step.post (fun _=>False) Q)) /\
   ∀ i,i < n -> i ∉ L -> ∃ t',K (some i) = pure (.next (mk (L ++ [i]) t')) /\ I (L ++ [i]) t') (t0:τ) (h0:I [] t0):(loop body (mk [] t0)).wp Q:=by
 have key:∀ k L t,L.length + k = n -> L.Nodup -> (∀ i ∈ L,i < n) -> I L t -> qZ body Q (mk L t):=by
  intro k
  induction k with
  | zero=>
   intro L t hk hn hlt hI;obtain ⟨K,h1,h2,h3⟩:=h L t hI hn hlt;refine Yk ?_;rw [h1];have hall:∀ i,i < n -> i ∈ L:=full hn hlt (by omega);refine ⟨hlt,⟨⟨none,hall⟩,fun o ho=>?_⟩⟩
   cases o with
   | none=>exact (K none).mono (fun a ha=>by cases a with | next s=>exact ha.elim | done r=>exact ha) (h2 hall)
   | some i=>exact absurd (hall i ho.1) ho.2
  | succ k ih=>
   intro L t hk hn hlt hI;obtain ⟨K,h1,h2,h3⟩:=h L t hI hn hlt;refine Yk ?_;rw [h1];have hex:∃ i,i < n /\ i ∉ L:=by
    refine Classical.byContradiction fun hno=>?_
    have hall:∀ i,i < n -> i ∈ L:=fun i hi=>Classical.byContradiction fun h=>hno ⟨i,hi,h⟩
    have:=(zPa hn hlt hall).length_eq;simp at this;omega
   obtain ⟨i0,hi0⟩:=hex;refine ⟨hlt,⟨⟨some i0,hi0⟩,fun o ho=>?_⟩⟩
   cases o with
   | none=>exact absurd (ho i0 hi0.1) hi0.2
   | some i=>
    obtain ⟨t',h4,h5⟩:=h3 i ho.1 ho.2;show (K (some i)).wp _;rw [h4];refine ih (L ++ [i]) t' (by simp;omega) ?_ ?_ h5
    ·rw [List.nodup_append];refine ⟨hn,by simp,fun a ha b hb'=>?_⟩;rw [List.mem_singleton.1 hb'];intro e;exact ho.2 (e ▸ ha)
    ·intro j hj;rcases List.mem_append.1 hj with hj | hj
     ·exact hlt j hj
     ·rw [List.mem_singleton.1 hj];exact ho.1
 exact key n [] t0 (by simp) List.nodup_nil (by simp) h0
end M

namespace AL
variable {κ ν:Type} [DecidableEq κ]
theorem get_set (m:List (κ × ν)) (k q:κ) (v:ν):get (set m k v) q = if k = q then some v else get m q:=by
 induction m with
 | nil=>simp [set,get]
 | cons x r ih=>
  obtain ⟨a,u⟩:=x
  by_cases h:a = k
  ·subst h;simp only [set,if_true,get];split <;> rfl
  ·simp only [set,h,if_false,get,ih]
   by_cases h2:a = q
   ·subst h2;simp [Ne.symm h]
   ·simp [h2]
theorem getZ_set (m:List (κ × ν)) (k q:κ) (v z:ν):getZ (set m k v) q z = if k = q then v else getZ m q z:=by
 unfold getZ;rw [get_set];split <;> rfl
theorem keys_set (m:List (κ × ν)) (k:κ) (v:ν):(set m k v).map (·.1) = if k ∈ m.map (·.1) then m.map (·.1) else m.map (·.1) ++ [k]:=by
 induction m with
 | nil=>simp [set]
 | cons x r ih=>
  obtain ⟨a,u⟩:=x
  by_cases h:a = k
  ·subst h;simp [set]
  ·simp only [set,h,if_false,List.map_cons,ih,List.mem_cons,Ne.symm h,false_or]
   split <;> simp
theorem nodup_set {m:List (κ × ν)} (h:(m.map (·.1)).Nodup) (k:κ) (v:ν):((set m k v).map (·.1)).Nodup:=by
 rw [keys_set]
 split
 ·exact h
 ·rename_i hk
  rw [List.nodup_append];refine ⟨h,by simp,fun a ha b hb=>?_⟩;rw [List.mem_singleton.1 hb];intro e;exact hk (e ▸ ha)
theorem get_none {m:List (κ × ν)} {k:κ}:get m k = none ↔ k ∉ m.map (·.1):=by
 induction m with
 | nil=>simp [get]
 | cons x r ih=>
  obtain ⟨a,u⟩:=x
  by_cases h:a = k
  ·subst h;simp [get]
  ·simp [get,h,ih,Ne.symm h]
theorem get_mem {m:List (κ × ν)} {k:κ} {v:ν} (h:get m k = some v):(k,v) ∈ m:=by
 induction m with
 | nil=>simp [get] at h
 | cons x r ih=>
  obtain ⟨a,u⟩:=x
  by_cases e:a = k
  ·subst e;simp [get] at h;subst h;simp
  ·simp only [get,e,if_false] at h;exact List.mem_cons_of_mem _ (ih h)
theorem mem_get {m:List (κ × ν)} (hn:(m.map (·.1)).Nodup) {k:κ} {v:ν} (h:(k,v) ∈ m):get m k = some v:=by
 induction m with
 | nil=>simp at h
 | cons x r ih=>
  obtain ⟨a,u⟩:=x;simp only [List.map_cons,List.nodup_cons] at hn;rcases List.mem_cons.1 h with e | h
  ·cases e;simp [get]
  ·have:a ≠ k:=fun e=>hn.1 (e ▸ List.mem_map.2 ⟨(k,v),h,rfl⟩)
   simp only [get,this,if_false];exact ih hn.2 h
theorem len_set (m:List (κ × ν)) (k:κ) (v:ν):(set m k v).length <= m.length + 1:=by
 induction m with
 | nil=>simp [set]
 | cons x r ih=>
  obtain ⟨a,u⟩:=x;unfold set
  split
  ·simp
  ·simpa using ih
end AL
end Go.Ep

namespace Go.Ep
open Go

def Jd (d:DT):Bool:=decide (0 < d.dev) && (decide (0 < d.n) && decide (d.n <= 281474976710655))

def Je (d:DT):Option (Int × List RN):=if Jd d then some (d.dev,[⟨d.n,d.n⟩]) else none

def u6a (l1:List DT):M (List PT):=
 M.yW (AL.growOK 16 (l1.length) (List.filterMap Je l1)) <|
 M.bind (M.det (uQ ((AL.grow ([]:List (Int × List RN)) (List.filterMap Je l1))))) fun v17=>
 M.pure v17

def xR (n1:Int):M (List PT):=
 cond (decide (n1 < 0))
  M.fail
  (M.bind (cond ((decide (0 < ((IntKind.i64.wrap (n1 - (IntKind.i64.wrap (0 - 0))))))))
   (M.yW (0 < ((IntKind.i64.wrap (n1 - (IntKind.i64.wrap (0 - 0))))) /\ ((IntKind.i64.wrap (n1 - (IntKind.i64.wrap (0 - 0))))) * 32 <= 140737488355328) <|
   M.yW ((0:Int) <= 0 /\ (0:Int) <= 0 /\ 0 <= (List.length ((List.replicate (Int.toNat ((IntKind.i64.wrap (n1 - (IntKind.i64.wrap (0 - 0)))))) (⟨0,([]:List RN)⟩:PT))):Int)) <|
   M.pure ((List.take (Int.toNat 0) ((List.replicate (Int.toNat ((IntKind.i64.wrap (n1 - (IntKind.i64.wrap (0 - 0)))))) (⟨0,([]:List RN)⟩:PT))))))
   (M.pure ([]))) (fun v3=>
  M.pure v3))

def ze (slices1:List (List PT)):Int × Int -> M (M.Step (Int × Int) Int):=fun ⟨size13,v14⟩=>
 cond ((decide (v14 < (slices1.length:Int))))
  (M.bind (M.idx slices1 v14) fun x16=>
  cond ((decide (((IntKind.i64.wrap (size13 + (x16.length:Int)))) < 0)))
   M.fail
   (M.pure (.next (((IntKind.i64.wrap (size13 + (x16.length:Int))),(IntKind.i64.wrap (v14 + 1)))))))
  (M.pure (.done size13))

def zf (slices1:List (List PT)):Int × List PT -> M (M.Step (Int × List PT) (List PT)):=fun ⟨v32,v33⟩=>
 cond ((decide (v32 < (slices1.length:Int))))
  (M.bind (M.idx slices1 v32) fun x35=>
  M.yW ((v33.length + x35.length) * 32 <= 140737488355328) <|
  M.pure (.next (((IntKind.i64.wrap (v32 + 1)),(v33 ++ x35)))))
  (M.pure (.done v33))

def xj (slices1:List (List PT)):M (List PT):=
 M.bind (M.loop (ze slices1) (0,0)) (fun size2=>
 M.bind (M.det (xR size2)) fun v19=>
 M.bind (M.loop (zf slices1) (0,v19)) (fun v21=>
 M.pure v21))

def jl (a1:List PT) (b2:List PT):M (List PT):=
 M.bind (M.det (xj ([a1,b2]))) fun v3=>
 M.bind (M.det (uH v3)) fun v5=>
 M.pure v5

def zQa (c1:List PT) (l2:List DT):M (List PT):=
 M.bind (M.det (u6a l2)) fun v3=>
 M.bind (M.det (jl c1 v3)) fun v5=>
 M.pure v5

def VP (e1:EV) (c2:List PT):M EV:=
 M.bind (M.det (yk e1)) fun v3=>
 M.bind (M.det (ZN c2 v3.dot)) fun v5=>
 M.bind (cond v5
  (M.pure ([]:List DT))
  (M.pure v3.kills)) (fun e7=>
 M.pure (⟨v3.dot,v3.kind,v3.cid,v3.field,v3.text,e7⟩:EV))

def XZ (e1:EV) (cv2:Int) (cv3:Int):M Bool:=
 M.bind (cond (decide (e1.cid = cv2))
  (M.pure (decide (e1.field = cv3)))
  (M.pure false)) (fun v4=>
 M.pure v4)

def yT (l1:List EV) (cv2:Int) (cv3:Int):Int × List EV -> M (M.Step (Int × List EV) (List EV)):=fun ⟨v27,some28⟩=>
 cond ((decide (v27 < (l1.length:Int))))
  (M.bind (M.bind (M.idx l1 v27) fun x31=>
  M.bind (cond (decide (x31.kind = 1))
   (M.bind (M.det (XZ x31 cv2 cv3)) fun v35=>
   M.pure v35)
   (M.pure false)) (fun v33=>
  cond v33
   (M.yW ((some28.length + List.length ([x31])) * 80 <= 140737488355328) <|
   M.pure (some28 ++ [x31]))
   (M.pure some28))) (fun some30=>
  M.pure (.next (((IntKind.i64.wrap (v27 + 1)),some30)))))
  (M.pure (.done some28))

def vo (l1:List EV) (cv2:Int) (cv3:Int):M (List DT):=
 M.bind (M.loop (yT l1 cv2 cv3) (0,([]:List EV))) (fun some4=>
 M.bind (M.det (vN some4)) fun v39=>
 M.pure v39)

def Wl (l1:List EV) (cid2:Int) (f3:Int):M (List DT):=
 M.bind (M.det (vo l1 cid2 f3)) fun v4=>
 M.pure v4

def Zz (e1:EV) (cv2:Int):M Bool:=
 M.pure (decide (e1.cid = cv2))

def yK (l1:List EV) (cv2:Int):Int × List EV -> M (M.Step (Int × List EV) (List EV)):=fun ⟨v26,some27⟩=>
 cond ((decide (v26 < (l1.length:Int))))
  (M.bind (M.bind (M.idx l1 v26) fun x30=>
  M.bind (cond (decide (x30.kind = 1))
   (M.bind (M.det (Zz x30 cv2)) fun v34=>
   M.pure v34)
   (M.pure false)) (fun v32=>
  cond v32
   (M.yW ((some27.length + List.length ([x30])) * 80 <= 140737488355328) <|
   M.pure (some27 ++ [x30]))
   (M.pure some27))) (fun some29=>
  M.pure (.next (((IntKind.i64.wrap (v26 + 1)),some29)))))
  (M.pure (.done some27))

def vP (l1:List EV) (cv2:Int):M (List DT):=
 M.bind (M.loop (yK l1 cv2) (0,([]:List EV))) (fun some3=>
 M.bind (M.det (vN some3)) fun v38=>
 M.pure v38)

def YA (l1:List EV) (cid2:Int):M (List DT):=
 M.bind (M.det (vP l1 cid2)) fun v3=>
 M.pure v3

def Xy (m2:List (DT × EV)):List Nat × List EV -> M (M.Step (List Nat × List EV) (List EV)):=fun ⟨seen30,out31⟩=>
 M.yW (∀ i ∈ seen30,i < m2.length)<|M.bind (M.nxt (m2.length) seen30) fun o=>match o with
 | none=>
  M.pure (.done out31)
 | some j32=>
  M.bind (M.idx m2 (Int.ofNat j32)) fun kv36=>
  M.bind (M.det (yk kv36.2)) fun v38=>
  M.yW ((out31.length + List.length ([v38])) * 80 <= 140737488355328) <|
  M.pure (.next ((seen30 ++ [j32]),(out31 ++ [v38])))

def YB (nl1:Bool) (m2:List (DT × EV)):M (List EV):=
 M.bind (M.bind (M.loop (Xy m2) ([],([]:List EV))) (fun out6=>
 M.pure out6)) (fun out3=>
 M.yW (out3.length < 4611686018427387904)<|M.bind (M.srt Xn out3) fun s42=>
 M.pure s42)

def yP (ctx_1:List PT) (nl2:Bool) (m3:List (DT × EV)) (nl4:Bool) (m5:List (DT × EV)):M (List EV):=
 M.bind (M.det (YB nl2 m3)) fun y6=>
 M.pure y6

def Xa (e1:EV) (ctx_2:List PT) (nl3:Bool) (m4:List (DT × EV)) (nl5:Bool) (m6:List (DT × EV)):M (EV × Int):=
 M.bind (M.bind (M.det (wH (⟨e1.dot,e1.kind,e1.cid,e1.field,e1.text,([]:List DT)⟩:EV))) fun v8=>
 cond (!v8)
  (M.pure (.ret ((((⟨(⟨0,0⟩:DT),0,0,0,(⟨#[]⟩:ByteArray),([]:List DT)⟩:EV),1)))))
  (M.bind (M.det (ZN ctx_2 e1.dot)) fun v11=>
  cond v11
   (M.pure (.ret ((((⟨(⟨0,0⟩:DT),0,0,0,(⟨#[]⟩:ByteArray),([]:List DT)⟩:EV),7)))))
   (cond (decide (e1.kind = 1))
    (M.bind (M.det (yP ctx_2 nl3 m4 nl5 m6)) fun y15=>
    M.bind (M.det (Wl y15 e1.cid e1.field)) fun v17=>
    M.pure (.brk v17))
    (M.bind (M.det (yP ctx_2 nl3 m4 nl5 m6)) fun y19=>
    M.bind (M.det (YA y19 e1.cid)) fun v21=>
    M.pure (.brk v21))))) (M.exk (fun e7=>
 cond ((decide (256 < (e7.length:Int))))
  (M.pure (((⟨(⟨0,0⟩:DT),0,0,0,(⟨#[]⟩:ByteArray),([]:List DT)⟩:EV),3)))
  (M.pure ((⟨e1.dot,e1.kind,e1.cid,e1.field,e1.text,e7⟩:EV),0))))

def yv (e1:EV):Int × (List (DT × EV)) -> M (M.Step (Int × (List (DT × EV))) (List (DT × EV))):=fun ⟨v26,v27⟩=>
 cond ((decide (v26 < (e1.kills.length:Int))))
  (M.bind (M.idx e1.kills v26) fun x29=>
  M.pure (.next (((IntKind.i64.wrap (v26 + 1)),(AL.del v27 x29)))))
  (M.pure (.done v27))

def xS (e1:EV) (ctx_2:List PT) (nl3:Bool) (m4:List (DT × EV)) (nl5:Bool) (m6:List (DT × EV)):M (Int × List PT × Bool × (List (DT × EV)) × Bool × (List (DT × EV))):=
 M.bind (M.det (wH e1)) fun v7=>
 cond (!v7)
  (M.pure (1,ctx_2,nl3,m4,nl5,m6))
  (M.bind (M.det (ZN ctx_2 e1.dot)) fun v10=>
  cond v10
   (M.pure (7,ctx_2,nl3,m4,nl5,m6))
   (M.bind (M.det (vN ([e1]))) fun v13=>
   M.bind (M.det (zQa ctx_2 v13)) fun v15=>
   M.bind (M.loop (yv e1) (0,m4)) (fun v17=>
   M.bind (cond (decide (e1.kind = 1))
    (M.bind (M.det (vv e1 nl3 v17)) fun y36=>
    M.pure (nl5,m6,y36.1,y36.2))
    (M.bind (M.det (vv e1 nl5 m6)) fun y38=>
    M.pure (y38.1,y38.2,nl3,v17))) (fun ⟨nl31,v32,nl33,v34⟩=>
   M.pure (0,v15,nl33,v34,nl31,v32)))))

def uC (ctx_1:List PT) (nl2:Bool) (m3:List (DT × EV)) (nl4:Bool) (m5:List (DT × EV)):M (List EV):=
 M.bind (M.det (YB nl4 m5)) fun y6=>
 M.pure y6

def vb (l1:List EV) (c2:List PT) (nl3:Bool):Int × (List (DT × EV)) -> M (M.Step (Int × (List (DT × EV))) (Bool × (List (DT × EV)))):=fun ⟨v23,v24⟩=>
 cond ((decide (v23 < (l1.length:Int))))
  (M.bind (M.bind (M.idx l1 v23) fun x27=>
  cond (AL.has v24 x27.dot)
   (M.bind (M.det (VP x27 c2)) fun v30=>
   M.yW (AL.has v24 x27.dot = true) <|
   M.pure (AL.set v24 x27.dot v30))
   (M.pure v24)) (fun v26=>
  M.pure (.next (((IntKind.i64.wrap (v23 + 1)),v26)))))
  (M.pure (.done (nl3,v24)))

def Xz (l1:List EV) (c2:List PT) (nl3:Bool) (m4:List (DT × EV)):M (Bool × (List (DT × EV))):=
 M.loop (vb l1 c2 nl3) (0,m4)

def yY (y7:List EV) (c1:List PT):Int × Int × (List (DT × EV)) -> M (M.Step (Int × Int × (List (DT × EV))) (Int × (List (DT × EV)))):=fun ⟨n30,v31,v32⟩=>
 cond ((decide (v31 < ((y7.length):Int))))
  (M.bind (M.bind (M.idx y7 v31) fun x36=>
  M.bind (M.det (ZN c1 x36.dot)) fun v38=>
  cond v38
   (M.pure (((IntKind.i64.wrap (n30 + 1)),(AL.del v32 x36.dot))))
   (M.pure (n30,v32))) (fun ⟨n34,v35⟩=>
  M.pure (.next ((n34,(IntKind.i64.wrap (v31 + 1)),v35)))))
  (M.pure (.done (n30,v32)))

def Ya (c1:List PT) (ctx_2:List PT) (nl3:Bool) (m4:List (DT × EV)) (nl5:Bool) (m6:List (DT × EV)):M (Int × Bool × (List (DT × EV)) × Bool × (List (DT × EV))):=
 M.bind (M.det (uC ctx_2 nl3 m4 nl5 m6)) fun y7=>
 M.bind (M.loop (yY y7 c1) (0,0,m6)) (fun ⟨n9,v10⟩=>
 M.bind (M.det (yP ctx_2 nl3 m4 nl5 v10)) fun y41=>
 M.bind (M.det (Xz y41 c1 nl3 m4)) fun y43=>
 M.pure (n9,y43.1,y43.2,nl5,v10))

def WA (c1:List PT) (ctx_2:List PT) (nl3:Bool) (m4:List (DT × EV)) (nl5:Bool) (m6:List (DT × EV)):M (List PT):=
 M.bind (M.det (jl ctx_2 c1)) fun v7=>
 M.pure v7
end Go.Ep

namespace Go.Ep.M.V
open Go

def zt (d:DT):Bool:=decide (1 <= d.dev) && (decide (1 <= d.n) && decide (d.n <= 281474976710655))
theorem xv {d:DT}:zt d = true ↔ 1 <= d.dev /\ 1 <= d.n /\ d.n <= 281474976710655:=by simp [zt]
theorem ZY (d:DT):Zt d = pure (zt d):=by
 unfold Zt;rw [zh,zh,zA];refine congrArg pure ?_;rw [Bool.eq_iff_iff,xv];simp only [Bool.and_eq_true,decide_eq_true_eq];omega
theorem ZZ (d:DT):Zx d = pure (zt d):=by
 unfold Zx;rw [zh,zh,zA];refine congrArg pure ?_;rw [Bool.eq_iff_iff,xv];simp only [Bool.and_eq_true,decide_eq_true_eq];omega
theorem Jg (a b:List DT) (h:a.length <= 1000000000000):Vk a b = pure (decide (a = b)):=by
 unfold Vk
 by_cases hl:(a.length:Int) = b.length
 ·simp only [hl,decide_true,Bool.not_true,cond_false];have:=xX (body:=Yr a b) a (fun i=>(i:Int)) (fun i x=>decide (b[i]? = some x)) (.brk ()) (.ret false) (fun i x hx hi=>by
   have hb:i < b.length:=by omega
   unfold Yr;rw [zF hx,zF (List.getElem?_eq_getElem hb),zo (by omega)];simp only [zA,List.getElem?_eq_getElem hb,Option.some.injEq];have:decide ((i:Int) < (a.length:Int)) = true:=by simpa using hi
   rw [this,cond_true]
   by_cases he:b[i] = x
   ·subst he;simp
   ·rw [if_neg (by simpa using he)];have:(decide (x.dev = b[i].dev) && decide (x.n = b[i].n)) = false:=by
     rw [Bool.eq_false_iff];intro hc;simp at hc;apply he
     cases x;cases hh:b[i];simp_all
    rw [this];rfl) (by
   unfold Yr;simp)
  rw [show (0:Int) = ((0:Nat):Int) from rfl,this]
  by_cases he:a = b
  ·subst he;rw [if_pos]
   ·simp [zA,YF]
   ·rw [List.all_eq_true];intro ⟨x,i⟩ hx;rw [List.mk_mem_zipIdx_iff_getElem?] at hx;simpa using hx
  ·rw [if_neg]
   ·simp [he,zA,JJ]
   ·intro hall;rw [List.all_eq_true] at hall;apply he;apply List.ext_getElem (by omega);intro i h1 h2;have:=hall (a[i],i) (by rw [List.mk_mem_zipIdx_iff_getElem?];exact List.getElem?_eq_getElem h1);simp [h2] at this;exact this.symm
 ·have hne:a ≠ b:=fun e=>hl (by rw [e])
  simp [hl,hne]

def ofV : List DT -> Int -> Int
 | [],_=>0
 | d :: r,dev=>if d.dev = dev /\ zt d = true then max d.n (ofV r dev) else ofV r dev
theorem u7a (v:List DT) (dev:Int):0 <= ofV v dev /\ ofV v dev <= 281474976710655:=by
 induction v with
 | nil=>simp [ofV]
 | cons d r ih=>
  simp only [ofV]
  split
  ·rename_i h;have:=xv.1 h.2;omega
  ·exact ih
theorem ofV_pos {v:List DT} {dev:Int}:0 < ofV v dev ↔ ∃ d ∈ v,d.dev = dev /\ zt d = true:=by
 induction v with
 | nil=>simp [ofV]
 | cons d r ih=>
  simp only [ofV,List.mem_cons,exists_eq_or_imp]
  split
  ·rename_i h
   have:=xv.1 h.2
   constructor
   ·intro _;exact .inl h
   ·intro _;omega
  ·rename_i h
   rw [ih]
   constructor
   ·exact .inr
   ·rintro (hh | hh)
    ·exact absurd hh h
    ·exact hh
def qV : List Int -> Int -> List Int
 | [],k=>[k]
 | a :: r,k=>if k < a then k :: a :: r else if k = a then a :: r else a :: qV r k
theorem jm {l:List Int} {k q:Int}:q ∈ qV l k ↔ q = k \/ q ∈ l:=by
 induction l with
 | nil=>simp [qV]
 | cons a r ih=>
  unfold qV
  split
  ·simp
  ·split
   ·rename_i h;subst h;simp
   ·simp only [List.mem_cons,ih];constructor
    ·rintro (h | h | h) <;> simp [h]
    ·rintro (h | h | h) <;> simp [h]
theorem Za {l:List Int} (h:l.Pairwise (· < ·)) (k:Int):(qV l k).Pairwise (· < ·):=by
 induction l with
 | nil=>simp [qV]
 | cons a r ih=>
  obtain ⟨h1,h2⟩:=List.pairwise_cons.1 h;unfold qV
  split
  ·rename_i hk
   refine List.pairwise_cons.2 ⟨fun x hx=>?_,h⟩;rcases List.mem_cons.1 hx with rfl | hx
   ·exact hk
   ·have:=h1 x hx;omega
  ·split
   ·exact h
   ·refine List.pairwise_cons.2 ⟨fun x hx=>?_,ih h2⟩;rcases jm.1 hx with rfl | hx
    ·omega
    ·exact h1 x hx
theorem UE (l : List Int) (k : Int) : (qV l k).length <= l.length + 1 := by
  induction l with
  | nil => simp [qV]
  | cons a r ih => unfold qV; split <;> try split
                   all_goals simp_all
def XK (l:List Int) (d:DT):List Int:=if zt d then qV l d.dev else l
def devsL (v:List DT):List Int:=v.foldl XK []
theorem UF (v:List DT):∀ l:List Int,l.Pairwise (· < ·) -> (v.foldl XK l).Pairwise (· < ·) /\ (∀ k,k ∈ v.foldl XK l ↔ k ∈ l \/ ∃ d ∈ v,d.dev = k /\ zt d = true) /\ (v.foldl XK l).length <= l.length + v.length:=by
 induction v with
 | nil=>intro l h;simp [h]
 | cons d r ih=>
  intro l h;simp only [List.foldl_cons];unfold XK
  split
  ·rename_i hg
   obtain ⟨h1,h2,h3⟩:=ih _ (Za h d.dev);refine ⟨h1,fun k=>?_,?_⟩
   ·have:=h2 k;unfold XK at this;rw [this,jm]
    constructor
    ·rintro ((rfl | h) | ⟨e,he,h⟩)
     ·exact .inr ⟨d,by simp,rfl,hg⟩
     ·exact .inl h
     ·exact .inr ⟨e,by simp [he],h⟩
    ·rintro (h | ⟨e,he,h⟩)
     ·exact .inl (.inr h)
     ·rcases List.mem_cons.1 he with rfl | he
      ·exact .inl (.inl h.1.symm)
      ·exact .inr ⟨e,he,h⟩
   ·have:=UE l d.dev;simp only [List.length_cons];unfold XK at h3;omega
  ·rename_i hg
   obtain ⟨h1,h2,h3⟩:=ih _ h;refine ⟨h1,fun k=>?_,?_⟩
   ·have:=h2 k;unfold XK at this;rw [this]
    constructor
    ·rintro (h | ⟨e,he,h⟩)
     ·exact .inl h
     ·exact .inr ⟨e,by simp [he],h⟩
    ·rintro (h | ⟨e,he,h⟩)
     ·exact .inl h
     ·rcases List.mem_cons.1 he with rfl | he
      ·exact absurd h.2 hg
      ·exact .inr ⟨e,he,h⟩
   ·simp only [List.length_cons];unfold XK at h3;omega
theorem vA {v:List DT} {k:Int}:k ∈ devsL v ↔ 0 < ofV v k:=by rw [ofV_pos];simpa [devsL] using (UF v [] List.Pairwise.nil).2.1 k
def uv (m:List (Int × Int)) (d:DT):List (Int × Int):=if zt d then AL.set m d.dev (max (AL.getZ m d.dev 0) d.n) else m
def uZ (v:List DT):List (Int × Int):=v.foldl uv []
theorem zRa (v:List DT):∀ m:List (Int × Int),(m.map (·.1)).Nodup -> ((v.foldl uv m).map (·.1)).Nodup /\ ((∀ k,0 <= AL.getZ m k 0) -> ∀ k,AL.getZ (v.foldl uv m) k 0 = max (AL.getZ m k 0) (ofV v k)) /\ (v.foldl uv m).length <= m.length + v.length /\ (∀ k,k ∈ (v.foldl uv m).map (·.1) -> k ∈ m.map (·.1) \/ 0 < ofV v k):=by
 induction v with
 | nil=>
  intro m h;refine ⟨h,fun h0 k=>?_,by simp,fun k hk=>.inl hk⟩;have:=h0 k;simp only [List.foldl_nil,ofV];omega
 | cons d r ih=>
  intro m h;simp only [List.foldl_cons]
  by_cases hg:zt d = true
  ·have hd:=xv.1 hg;have e:uv m d = AL.set m d.dev (max (AL.getZ m d.dev 0) d.n):=by simp [uv,hg]
   rw [e];obtain ⟨h1,h2,h3,h4⟩:=ih _ (AL.nodup_set h d.dev (max (AL.getZ m d.dev 0) d.n));refine ⟨h1,fun h0 k=>?_,?_,fun k hk=>?_⟩
   ·rw [h2 (fun q=>by rw [AL.getZ_set];have:=h0 q;have:=h0 d.dev;split <;> omega),AL.getZ_set];simp only [ofV]
    by_cases hk:d.dev = k
    ·subst hk;simp only [if_true,hg,and_self];omega
    ·simp [hk]
   ·have:=AL.len_set m d.dev (max (AL.getZ m d.dev 0) d.n);simp only [List.length_cons];omega
   ·simp only [ofV];rcases h4 k hk with h5 | h5
    ·rw [AL.keys_set] at h5
     split at h5
     ·exact .inl h5
     ·rcases List.mem_append.1 h5 with h5 | h5
      ·exact .inl h5
      ·right
       rw [List.mem_singleton.1 h5,if_pos ⟨rfl,hg⟩];omega
    ·right;split <;> omega
  ·have e:uv m d = m:=by simp [uv,hg]
   rw [e];obtain ⟨h1,h2,h3,h4⟩:=ih m h;have e2:∀ k,ofV (d :: r) k = ofV r k:=fun k=>by simp only [ofV];rw [if_neg (fun hh=>hg hh.2)]
   exact ⟨h1,fun h0 k=>by rw [h2 h0,e2],by simp only [List.length_cons];omega,fun k hk=>by rw [e2];exact h4 k hk⟩
theorem ZF (v:List DT):((uZ v).map (·.1)).Nodup:=(zRa v [] (by simp)).1
theorem uL (v:List DT) (k:Int):AL.getZ (uZ v) k 0 = ofV v k:=by
 have:=(zRa v [] (by simp)).2.1 (fun _=>Int.le_refl _) k;have h2:=u7a v k;rw [uZ,this];show max 0 (ofV v k) = _;omega
theorem XL {v:List DT} {k n:Int} (h:(k,n) ∈ uZ v):n = ofV v k /\ 0 < n:=by
 have h1:=AL.mem_get (ZF v) h;have h2:AL.getZ (uZ v) k 0 = n:=by simp [AL.getZ,h1]
 rw [uL] at h2;have h3:=(zRa v [] (by simp)).2.2.2 k (List.mem_map.2 ⟨_,h,rfl⟩);simp at h3;omega
def yna (h:Int × Int -> Int) (m:List (Int × Int)) (L:List Nat):List (Int × Int):=m.zipIdx.map fun y=>if y.2 ∈ L then (y.1.1,h y.1) else y.1
theorem uw {h:Int × Int -> Int} {m:List (Int × Int)} {L:List Nat} {i:Nat}:(yna h m L)[i]? = (m[i]?).map fun e=>if i ∈ L then (e.1,h e) else e:=by
 unfold yna;rw [List.getElem?_map,List.getElem?_zipIdx]
 cases m[i]? <;> simp
theorem zSa {h:Int × Int -> Int} {m:List (Int × Int)} {L:List Nat}:(yna h m L).length = m.length:=by simp [yna]
theorem set_at {m:List (Int × Int)} (hn:(m.map (·.1)).Nodup) {i:Nat} {e:Int × Int} (hi:m[i]? = some e) (v:Int):AL.set m e.1 v = m.set i (e.1,v):=by
 induction m generalizing i with
 | nil=>simp at hi
 | cons x r ih=>
  obtain ⟨a,u⟩:=x;simp only [List.map_cons,List.nodup_cons] at hn
  cases i with
  | zero=>simp at hi;subst hi;simp [AL.set]
  | succ i=>
   simp only [List.getElem?_cons_succ] at hi;have:a ≠ e.1:=fun he=>hn.1 (he ▸ List.mem_map.2 ⟨e,List.mem_of_getElem? hi,rfl⟩)
   simp only [AL.set,this,if_false,List.set_cons_succ];rw [ih hn.2 hi]
theorem Jh {h:Int × Int -> Int} {m:List (Int × Int)} {L:List Nat}:(yna h m L).map (·.1) = m.map (·.1):=by
 apply List.ext_getElem?;intro i;rw [List.getElem?_map,uw,List.getElem?_map]
 cases m[i]? with
 | none=>rfl
 | some e=>simp only [Option.map_some];split <;> rfl
def QH (a b:DT):Int:=if a = b then 0 else if zP a b then -1 else 1
theorem Yb (a b:DT):Yo a b = pure (QH a b):=by
 unfold Yo QH;have h1:(decide (a.dev = b.dev) && decide (a.n = b.n)) = decide (a = b):=by
  rw [Bool.eq_iff_iff];cases a;cases b;simp
 have h2:(cond (decide (a.dev < b.dev)) (pure true) (cond (decide (a.dev = b.dev)) (pure (decide (a.n < b.n))) (pure false)):M Bool) = pure (zP a b):=by
  rw [zh,yJa];rfl
 rw [h1,h2,yb,zA]
 split
 ·rfl
 ·cases zP a b <;> rfl
theorem XM {a b:DT}:QH a b < 0 ↔ zP a b = true:=by
 unfold QH
 split
 ·rename_i h;subst h;simp [zP]
 ·split <;> simp_all
theorem cmpD_pos {a b:DT}:0 < QH a b ↔ zP b a = true:=by
 unfold QH
 by_cases h:a = b
 ·subst h;simp [zP]
 ·rw [if_neg h]
  cases a;cases b
  simp only [DT.mk.injEq] at h;simp only [zP,Bool.or_eq_true,Bool.and_eq_true,decide_eq_true_eq]
  split <;> omega
theorem Ur (l:List DT) (d:DT) (h:l.length <= 1000000000000):Yp l d = pure ((l.filter fun x=>zP x d) ++ [d] ++ (l.filter fun x=>zP d x)):=by
 unfold Yp;have c0:∀ o:List DT,o.length <= 1000000000000 -> True:=fun _ _=>trivial
 have h1:=uu (body:=WS l d) l (fun i (o:List DT)=>((i:Int),o)) (fun o x=>if zP x d then o ++ [x] else o) (fun o=>pure o) (fun i o=>o.length <= i) (fun i x o hx hi ho=>by
  have h1:decide ((i:Int) < (l.length:Int)) = true:=by simpa using hi
  unfold WS;simp only [h1,cond_true,zF hx,zA,Yb,zB,zo (show i < 9223372036854775807 by omega),yb,XM]
  split
  ·rw [zD (by simp;omega)];exact ⟨rfl,by simp;omega⟩
  ·exact ⟨rfl,by omega⟩) (fun o _=>by unfold WS;simp [zA]) [] (by simp)
 have h2:∀ o0:List DT,o0.length <= 1000000000001 -> loop (YO l d) (0,o0) = pure (l.foldl (fun o x=>if zP d x then o ++ [x] else o) o0):=fun o0 ho0=>by
  have:=uu (body:=YO l d) l (fun i (o:List DT)=>((i:Int),o)) (fun o x=>if zP d x then o ++ [x] else o) (fun o=>pure o) (fun i o=>o.length <= o0.length + i) (fun i x o hx hi ho=>by
   have h1:decide ((i:Int) < (l.length:Int)) = true:=by simpa using hi
   unfold YO;simp only [h1,cond_true,zF hx,zA,Yb,zB,zo (show i < 9223372036854775807 by omega),yb,cmpD_pos]
   split
   ·rw [zD (by simp;omega)];exact ⟨rfl,by simp;omega⟩
   ·exact ⟨rfl,by omega⟩) (fun o _=>by unfold YO;simp [zA]) o0 (by simp)
  exact this
 have hf:∀ (p:DT -> Bool) (l o:List DT),l.foldl (fun o x=>if p x then o ++ [x] else o) o = o ++ l.filter p:=by
  intro p l
  induction l with
  | nil=>simp
  | cons x r ih=>
   intro o;rw [List.foldl_cons,ih,List.filter_cons]
   split <;> simp
 rw [show ((0:Int),([]:List DT)) = (((0:Nat):Int),[]) from rfl,h1,hf,zA,zD,h2,hf,zA]
 ·rfl
 ·have:=List.length_filter_le (fun x=>zP x d) l;simp;omega
 ·have:=List.length_filter_le (fun x=>zP x d) l;simp;omega
def Wt (l:List Int):List DT:=l.map fun k=>⟨k,1⟩
theorem wla {l:List Int} (h:l.Pairwise (· < ·)) (k:Int):((Wt l).filter fun x=>zP x ⟨k,1⟩) ++ [⟨k,1⟩] ++ ((Wt l).filter fun x=>zP ⟨k,1⟩ x) = Wt (qV l k):=by
 induction l with
 | nil=>rfl
 | cons a r ih=>
  obtain ⟨h1,h2⟩:=List.pairwise_cons.1 h;have i2:=ih h2;unfold qV
  by_cases c1:k < a
  ·rw [if_pos c1];have e1:(Wt (a :: r)).filter (fun x=>zP x ⟨k,1⟩) = []:=by
    rw [List.filter_eq_nil_iff];intro x hx;simp only [Wt,List.map_cons,List.mem_cons,List.mem_map] at hx;rcases hx with rfl | ⟨b,hb,rfl⟩
    ·simp [zP];omega
    ·have:=h1 b hb;simp [zP];omega
   have e2:(Wt (a :: r)).filter (fun x=>zP ⟨k,1⟩ x) = Wt (a :: r):=by
    rw [List.filter_eq_self];intro x hx;simp only [Wt,List.map_cons,List.mem_cons,List.mem_map] at hx;rcases hx with rfl | ⟨b,hb,rfl⟩
    ·simp [zP];omega
    ·have:=h1 b hb;simp [zP];omega
   rw [e1,e2];rfl
  ·rw [if_neg c1]
   by_cases c2:k = a
   ·subst c2;rw [if_pos rfl];have e1:(Wt (k :: r)).filter (fun x=>zP x ⟨k,1⟩) = []:=by
     rw [List.filter_eq_nil_iff];intro x hx;simp only [Wt,List.map_cons,List.mem_cons,List.mem_map] at hx;rcases hx with rfl | ⟨b,hb,rfl⟩
     ·simp [zP]
     ·have:=h1 b hb;simp [zP];omega
    have e2:(Wt (k :: r)).filter (fun x=>zP ⟨k,1⟩ x) = Wt r:=by
     show List.filter _ (⟨k,1⟩ :: Wt r) = _;rw [List.filter_cons,if_neg (by simp [zP]),List.filter_eq_self];intro x hx;simp only [Wt,List.mem_map] at hx;obtain ⟨b,hb,rfl⟩:=hx;have:=h1 b hb;simp [zP];omega
    rw [e1,e2];rfl
   ·rw [if_neg c2];show (List.filter _ (⟨a,1⟩ :: Wt r)) ++ _ ++ (List.filter _ (⟨a,1⟩ :: Wt r)) = ⟨a,1⟩ :: Wt (qV r k);rw [List.filter_cons,if_pos (by simp [zP];omega),List.filter_cons,if_neg (by simp [zP];omega),<- i2]
    rfl
theorem equal_eq (a b:List DT) (h:a.length <= 1000000000000):ya a b = pure (decide (a = b)):=by
 have e:ya a b = Vk a b:=rfl;rw [e,Jg a b h]
theorem xza (a b:List DT) (h:a.length <= 1000000000000):jh a b = pure (decide (a = b)):=by
 unfold jh;rw [equal_eq a b h,zB,zA]
end Go.Ep.M.V

namespace Go.Ep.M.R
open Go

def Xb (x:RN):Bool:=decide (1 <= x.lo) && (decide (x.lo <= x.hi) && decide (x.hi <= 281474976710655))
theorem zg {x:RN}:Xb x = true ↔ 1 <= x.lo /\ x.lo <= x.hi /\ x.hi <= 281474976710655:=by simp [Xb]
def inR (n:Int) (x:RN):Bool:=Xb x && (decide (x.lo <= n) && decide (n <= x.hi))
theorem yj {n:Int} {x:RN}:inR n x = true ↔ (1 <= x.lo /\ x.lo <= x.hi /\ x.hi <= 281474976710655) /\ x.lo <= n /\ n <= x.hi:=by simp [inR,Xb]
def yS (l:List RN) (n:Int):Bool:=l.any (inR n)
theorem vB {l:List RN} {n:Int}:yS l n = true ↔ ∃ x ∈ l,Xb x = true /\ x.lo <= n /\ n <= x.hi:=by
 unfold yS;rw [List.any_eq_true];simp [inR]
@[simp] theorem zTa (n:Int):yS [] n = false:=rfl
theorem xw (x:RN) (l:List RN) (n:Int):yS (x :: l) n = (inR n x || yS l n):=rfl
theorem ux (a b:List RN) (n:Int):yS (a ++ b) n = (yS a n || yS b n):=by simp [yS]
theorem vc (x:RN) (n:Int):yS [x] n = inR n x:=by simp [yS]
theorem u8a {a b:List RN} (h:a.Perm b) (n:Int):yS a n = yS b n:=by
 rw [Bool.eq_iff_iff,vB,vB];simp only [h.mem_iff]
theorem x0a (l:List RN) (n:Int):yS (l.filter Xb) n = yS l n:=by
 rw [Bool.eq_iff_iff,vB,vB];simp only [List.mem_filter];exact ⟨fun ⟨x,⟨h1,_⟩,h3⟩=>⟨x,h1,h3⟩,fun ⟨x,h1,h2,h3⟩=>⟨x,⟨h1,h2⟩,h2,h3⟩⟩
theorem QI {l:List RN} {n:Int} (h:yS l n = true):1 <= n /\ n <= 281474976710655:=by
 obtain ⟨x,_,h2,h3,h4⟩:=vB.1 h;have:=zg.1 h2;omega

def Nf : List RN -> Prop
 | []=>True
 | x :: r=>Xb x = true /\ (∀ y ∈ r,x.hi + 1 < y.lo) /\ Nf r
theorem Nf.may {l:List RN} (h:Nf l):∀ x ∈ l,Xb x = true:=by
 induction l with
 | nil=>simp
 | cons y r ih=>
  intro x hx;rcases List.mem_cons.1 hx with rfl | hx
  ·exact h.1
  ·exact ih h.2.2 x hx
theorem XN {l:List RN} {z:RN}:Nf (l ++ [z]) ↔ Nf l /\ Xb z = true /\ ∀ p ∈ l,p.hi + 1 < z.lo:=by
 induction l with
 | nil=>simp [Nf]
 | cons x r ih=>
  simp only [List.cons_append,Nf,ih,List.mem_append,List.mem_cons,List.not_mem_nil,or_false]
  constructor
  ·rintro ⟨h1,h2,h3,h4,h5⟩;refine ⟨⟨h1,fun y hy=>h2 y (.inl hy),h3⟩,h4,fun p hp=>?_⟩;rcases hp with rfl | hp
   ·exact h2 z (.inr rfl)
   ·exact h5 p hp
  ·rintro ⟨⟨h1,h2,h3⟩,h4,h5⟩;refine ⟨h1,fun y hy=>?_,h3,h4,fun p hp=>h5 p (.inr hp)⟩;rcases hy with hy | rfl
   ·exact h2 y hy
   ·exact h5 x (.inl rfl)
theorem Ji {x:RN} {r:List RN} (h:Nf (x :: r)) {n:Int} (hn:yS r n = true):x.hi + 1 < n:=by
 obtain ⟨y,h1,_,h3,_⟩:=vB.1 hn;have:=h.2.1 y h1;omega
theorem zUa {x:RN} {r:List RN} (h:Nf (x :: r)):yS (x :: r) x.lo = true:=by
 rw [xw];have:=zg.1 h.1;rw [Bool.or_eq_true];exact .inl (yj.2 ⟨this,by omega,by omega⟩)
theorem zVa {x:RN} {r:List RN} (h:Nf (x :: r)) {n:Int} (hn:yS (x :: r) n = true):x.lo <= n:=by
 rw [xw,Bool.or_eq_true] at hn;rcases hn with hn | hn
 ·exact (yj.1 hn).2.1
 ·have:=Ji h hn;have:=zg.1 h.1;omega
theorem x1a {x:RN} {r:List RN} (h:Nf (x :: r)) {n:Int} (h1:x.lo <= n):yS (x :: r) n = true ↔ n <= x.hi \/ yS r n = true:=by
 rw [xw,Bool.or_eq_true,yj];have:=zg.1 h.1
 constructor
 ·rintro (h2 | h2)
  ·exact .inl h2.2.2
  ·exact .inr h2
 ·rintro (h2 | h2)
  ·exact .inl ⟨this,h1,h2⟩
  ·exact .inr h2
theorem UG : ∀ {a b:List RN},Nf a -> Nf b -> (∀ n,yS a n = yS b n) -> a = b
 | [],[],_,_,_=>rfl
 | [],y :: s,_,hb,h=>by have:=h y.lo;rw [zUa hb] at this;simp at this
 | x :: r,[],ha,_,h=>by have:=h x.lo;rw [zUa ha] at this;simp at this
 | x :: r,y :: s,ha,hb,h=>by
  have h1:x.lo = y.lo:=by
   have h2:=zVa hb (by rw [<- h];exact zUa ha);have h3:=zVa ha (by rw [h];exact zUa hb);omega
  have hx:=zg.1 ha.1;have hy:=zg.1 hb.1;have hle:∀ {x y:RN} {r s:List RN},Nf (x :: r) -> Nf (y :: s) -> (∀ n,yS (x :: r) n = yS (y :: s) n) -> x.lo = y.lo -> y.hi <= x.hi:=by
   intro x y r s ha hb h h1;have hx:=zg.1 ha.1;refine Classical.byContradiction fun hc=>?_
   have h2:yS (y :: s) (x.hi + 1) = true:=(x1a hb (by omega)).2 (.inl (by omega));rw [<- h,x1a ha (by omega)] at h2;rcases h2 with h2 | h2
   ·omega
   ·have:=Ji ha h2;omega
  have h2:x.hi = y.hi:=by
   have:=hle ha hb h h1;have:=hle hb ha (fun n=>(h n).symm) h1.symm;omega
  have he:x = y:=by cases x;cases y;simp_all
  subst he;rw [UG ha.2.2 hb.2.2 fun n=>?_];rw [Bool.eq_iff_iff];have h3:=h n
  constructor
  ·intro hn;have:=Ji ha hn;have h4:yS (x :: r) n = true:=(x1a ha (by omega)).2 (.inr hn);rw [h3,x1a hb (by omega)] at h4;rcases h4 with h4 | h4
   ·omega
   ·exact h4
  ·intro hn;have:=Ji hb hn;have h4:yS (x :: s) n = true:=(x1a hb (by omega)).2 (.inr hn);rw [<- h3,x1a ha (by omega)] at h4;rcases h4 with h4 | h4
   ·omega
   ·exact h4

def putS (n:Int) (s:Bool × List Int) (x:Int):Bool × List Int:=
 let t:=if s.1 = false /\ n <= x then (true,s.2 ++ [n]) else s
 if x = n then t else (t.1,t.2 ++ [x])
def putP (l:List Int) (n:Int):List Int:=let t:=l.foldl (putS n) (false,[]);if t.1 then t.2 else t.2 ++ [n]
abbrev Up (l:List Int):Prop:=l.Pairwise (· < ·)
theorem Jj {l:List Int} {z:Int}:Up (l ++ [z]) ↔ Up l /\ ∀ p ∈ l,p < z:=by
 unfold Up;rw [List.pairwise_append];simp
theorem UH (n:Int):∀ (l:List Int) (s:Bool × List Int),Up l -> Up s.2 -> (∀ p ∈ s.2,∀ x ∈ l,p < x \/ (p = n /\ s.1 = true /\ p <= x)) -> (s.1 = true -> n ∈ s.2) -> (s.1 = false -> ∀ p ∈ s.2,p < n) ->
  Up (l.foldl (putS n) s).2 /\ (∀ m,m ∈ (l.foldl (putS n) s).2 ↔ m ∈ s.2 \/ (m ∈ l /\ m ≠ n) \/ (m = n /\ (l.foldl (putS n) s).1 = true)) /\ ((l.foldl (putS n) s).1 = false -> ∀ p ∈ (l.foldl (putS n) s).2,p < n) /\ (l.foldl (putS n) s).2.length <= s.2.length + l.length + (if s.1 then 0 else 1) /\ ((l.foldl (putS n) s).1 = false -> (l.foldl (putS n) s).2.length <= s.2.length + l.length)
 | [],s,_,hs,_,h2,h3=>by
  refine ⟨hs,fun m=>?_,h3,by simp,by simp⟩;simp only [List.foldl_nil,List.not_mem_nil,false_and,false_or];exact ⟨fun h=>.inl h,fun h=>h.elim id fun ⟨e,h⟩=>e ▸ h2 h⟩
 | x :: r,(d,out),hl,hs,h1,h2,h3=>by
  rw [List.foldl_cons];have hl':=List.pairwise_cons.1 hl;simp only at hs h1 h2 h3
  by_cases hc:d = false /\ n <= x
  ·obtain ⟨rfl,hnx⟩:=hc
   by_cases hx:x = n
   ·have e:putS n (false,out) x = (true,out ++ [n]):=by simp [putS,hx]
    rw [e];obtain ⟨i1,i2,i3,i4,i5⟩:=UH n r (true,out ++ [n]) hl'.2 (Jj.2 ⟨hs,h3 rfl⟩) (fun p hp y hy=>by
     have:=hl'.1 y hy;rcases List.mem_append.1 hp with hp | hp
     ·have:=h3 rfl p hp;left;omega
     ·simp at hp;left;omega) (fun _=>by simp) (fun h=>by cases h)
    refine ⟨i1,fun m=>?_,i3,?_,?_⟩
    ·rw [i2];simp only [List.mem_append,List.mem_cons,List.not_mem_nil,or_false]
     constructor
     ·rintro ((h | h) | h | h)
      ·exact .inl h
      ·refine .inr (.inr ⟨h,?_⟩)
       cases hb:(r.foldl (putS n) (true,out ++ [n])).1 with
       | true=>rfl
       | false=>have:=i3 hb n ((i2 n).2 (.inl (by simp)));omega
      ·exact .inr (.inl ⟨.inr h.1,h.2⟩)
      ·exact .inr (.inr h)
     ·rintro (h | ⟨h | h,h'⟩ | h)
      ·exact .inl (.inl h)
      ·exact absurd (h.trans hx) h'
      ·exact .inr (.inl ⟨h,h'⟩)
      ·exact .inr (.inr h)
    ·simp at i4 ⊢;omega
    ·intro hf;have:=i5 hf;simp at this ⊢;omega
   ·have e:putS n (false,out) x = (true,out ++ [n] ++ [x]):=by simp [putS,hx,hnx]
    rw [e];obtain ⟨i1,i2,i3,i4,i5⟩:=UH n r (true,out ++ [n] ++ [x]) hl'.2 (Jj.2 ⟨Jj.2 ⟨hs,h3 rfl⟩,fun p hp=>by
     rcases List.mem_append.1 hp with hp | hp
     ·have:=h3 rfl p hp;omega
     ·simp at hp;omega⟩) (fun p hp y hy=>by
     have:=hl'.1 y hy;simp only [List.mem_append,List.mem_singleton] at hp;rcases hp with (hp | hp) | hp
     ·have:=h3 rfl p hp;left;omega
     ·left;omega
     ·left;omega) (fun _=>by simp) (fun h=>by cases h)
    refine ⟨i1,fun m=>?_,i3,?_,?_⟩
    ·rw [i2];simp only [List.mem_append,List.mem_cons,List.not_mem_nil,or_false]
     constructor
     ·rintro (((h | h) | h) | h | h)
      ·exact .inl h
      ·refine .inr (.inr ⟨h,?_⟩)
       cases hb:(r.foldl (putS n) (true,out ++ [n] ++ [x])).1 with
       | true=>rfl
       | false=>have:=i3 hb n ((i2 n).2 (.inl (by simp)));omega
      ·exact .inr (.inl ⟨.inl h,fun e=>hx (h.symm.trans e)⟩)
      ·exact .inr (.inl ⟨.inr h.1,h.2⟩)
      ·exact .inr (.inr h)
     ·rintro (h | ⟨h | h,h'⟩ | h)
      ·exact .inl (.inl (.inl h))
      ·exact .inl (.inr h)
      ·exact .inr (.inl ⟨h,h'⟩)
      ·exact .inr (.inr h)
    ·simp at i4 ⊢;omega
    ·intro hf;have:=i5 hf;simp at this ⊢;exfalso;have:=i3 hf n ((i2 n).2 (.inl (by simp)));omega
  ·by_cases hx:x = n
   ·have hd:d = true:=by cases d with | true=>rfl | false=>exact absurd ⟨rfl,by omega⟩ hc
    subst hd;have e:putS n (true,out) x = (true,out):=by simp [putS,hx]
    rw [e];obtain ⟨i1,i2,i3,i4,i5⟩:=UH n r (true,out) hl'.2 hs (fun p hp y hy=>h1 p hp y (List.mem_cons_of_mem _ hy)) h2 h3;refine ⟨i1,fun m=>?_,i3,?_,?_⟩
    ·rw [i2];simp only [List.mem_cons]
     constructor
     ·rintro (h | h | h)
      ·exact .inl h
      ·exact .inr (.inl ⟨.inr h.1,h.2⟩)
      ·exact .inr (.inr h)
     ·rintro (h | ⟨h | h,h'⟩ | h)
      ·exact .inl h
      ·exact absurd (h.trans hx) h'
      ·exact .inr (.inl ⟨h,h'⟩)
      ·exact .inr (.inr h)
    ·simp at i4 ⊢;omega
    ·intro hf;have:=i5 hf;simp at this ⊢;omega
   ·have e:putS n (d,out) x = (d,out ++ [x]):=by
     unfold putS;simp only [hc,if_false,hx]
    rw [e];have hlt:d = false -> x < n:=fun h=>by
     have:¬ n <= x:=fun h'=>hc ⟨h,h'⟩
     omega
    obtain ⟨i1,i2,i3,i4,i5⟩:=UH n r (d,out ++ [x]) hl'.2 (Jj.2 ⟨hs,fun p hp=>by
     rcases h1 p hp x (by simp) with h | h
     ·exact h
     ·omega⟩) (fun p hp y hy=>by
     rcases List.mem_append.1 hp with hp | hp
     ·exact h1 p hp y (List.mem_cons_of_mem _ hy)
     ·simp at hp;have:=hl'.1 y hy;left;omega) (fun h=>List.mem_append_left _ (h2 h)) (fun h p hp=>by
     rcases List.mem_append.1 hp with hp | hp
     ·exact h3 h p hp
     ·simp at hp;rw [hp];exact hlt h)
    refine ⟨i1,fun m=>?_,i3,?_,?_⟩
    ·rw [i2];simp only [List.mem_append,List.mem_cons,List.not_mem_nil,or_false]
     constructor
     ·rintro ((h | h) | h | h)
      ·exact .inl h
      ·exact .inr (.inl ⟨.inl h,fun e=>hx (h.symm.trans e)⟩)
      ·exact .inr (.inl ⟨.inr h.1,h.2⟩)
      ·exact .inr (.inr h)
     ·rintro (h | ⟨h | h,h'⟩ | h)
      ·exact .inl (.inl h)
      ·exact .inl (.inr h)
      ·exact .inr (.inl ⟨h,h'⟩)
      ·exact .inr (.inr h)
    ·simp at i4 ⊢;omega
    ·intro hf;have:=i5 hf;simp at this ⊢;omega
theorem Us {l:List Int} (h:Up l) (n:Int):Up (putP l n) /\ (∀ m,m ∈ putP l n ↔ m ∈ l \/ m = n) /\ (putP l n).length <= l.length + 1:=by
 obtain ⟨i1,i2,i3,i4,i5⟩:=UH n l (false,[]) h (by simp [Up]) (by simp) (by simp) (by simp);unfold putP;simp only
 cases hb:(l.foldl (putS n) (false,[])).1 with
 | true=>
  simp only [if_true];refine ⟨i1,fun m=>?_,by simpa using i4⟩;rw [i2,hb];simp only [List.not_mem_nil,false_or,and_true]
  constructor
  ·rintro (h | h)
   ·exact .inl h.1
   ·exact .inr h
  ·rintro (h | h)
   ·by_cases e:m = n
    ·exact .inr e
    ·exact .inl ⟨h,e⟩
   ·exact .inr h
 | false=>
  have:=i5 hb;rw [if_neg (by simp)];refine ⟨Jj.2 ⟨i1,i3 hb⟩,fun m=>?_,by simp at this ⊢;omega⟩;simp only [List.mem_append,List.mem_singleton,i2,hb,List.not_mem_nil,false_or]
  constructor
  ·rintro ((h | h) | h)
   ·exact .inl h.1
   ·cases h.2
   ·exact .inr h
  ·rintro (h | h)
   ·by_cases e:m = n
    ·exact .inr e
    ·exact .inl (.inl ⟨h,e⟩)
   ·exact .inr h
def ptS (out:List Int) (x:RN):List Int:=if Xb x then putP (putP out x.lo) (x.hi + 1) else out
def zWa (l:List RN):List Int:=l.foldl ptS []
theorem zXa : ∀ (l:List RN) (out:List Int),Up out -> Up (l.foldl ptS out) /\ (∀ m,m ∈ l.foldl ptS out ↔ m ∈ out \/ ∃ x ∈ l,Xb x = true /\ (m = x.lo \/ m = x.hi + 1)) /\ (l.foldl ptS out).length <= out.length + 2 * l.length
 | [],out,h=>⟨h,fun m=>by simp,by simp⟩
 | x :: r,out,h=>by
  rw [List.foldl_cons];obtain ⟨j1,j2,j3⟩:=Us h x.lo;obtain ⟨k1,k2,k3⟩:=Us j1 (x.hi + 1)
  by_cases hm:Xb x = true
  ·have e:ptS out x = putP (putP out x.lo) (x.hi + 1):=by simp [ptS,hm]
   rw [e];obtain ⟨i1,i2,i3⟩:=zXa r _ k1;refine ⟨i1,fun m=>?_,by simp;omega⟩;rw [i2,k2,j2]
   constructor
   ·rintro (((h | h) | h) | ⟨y,h1,h2⟩)
    ·exact .inl h
    ·exact .inr ⟨x,by simp,hm,.inl h⟩
    ·exact .inr ⟨x,by simp,hm,.inr h⟩
    ·exact .inr ⟨y,by simp [h1],h2⟩
   ·rintro (h | ⟨y,h1,h2,h3⟩)
    ·exact .inl (.inl (.inl h))
    ·rcases List.mem_cons.1 h1 with rfl | h1
     ·rcases h3 with h3 | h3
      ·exact .inl (.inl (.inr h3))
      ·exact .inl (.inr h3)
     ·exact .inr ⟨y,h1,h2,h3⟩
  ·have e:ptS out x = out:=by simp [ptS,hm]
   rw [e];obtain ⟨i1,i2,i3⟩:=zXa r _ h;refine ⟨i1,fun m=>?_,by simp;omega⟩;rw [i2]
   constructor
   ·rintro (h | ⟨y,h1,h2⟩)
    ·exact .inl h
    ·exact .inr ⟨y,by simp [h1],h2⟩
   ·rintro (h | ⟨y,h1,h2,h3⟩)
    ·exact .inl h
    ·rcases List.mem_cons.1 h1 with rfl | h1
     ·exact absurd h2 hm
     ·exact .inr ⟨y,h1,h2,h3⟩
theorem QJ (l:List RN):Up (zWa l) /\ (∀ m,m ∈ zWa l ↔ ∃ x ∈ l,Xb x = true /\ (m = x.lo \/ m = x.hi + 1)) /\ (zWa l).length <= 2 * l.length:=by
 obtain ⟨h1,h2,h3⟩:=zXa l [] (by simp [Up]);exact ⟨h1,fun m=>by rw [zWa,h2];simp,by simpa [zWa] using h3⟩

def wma (out:List RN) (p:Int) (z:RN -> RN) (x:RN):List RN:=match out.getLast? with
 | some y=>if y.hi + 1 = p then out.dropLast ++ [z y] else out ++ [x]
 | none=>out ++ [x]
def wna (op:Bool -> Bool -> Bool) (a b:List RN) (out:List RN) (pq:Int × Int):List RN:=
 if op (yS a pq.1) (yS b pq.1) then wma out pq.1 (fun y=>⟨y.lo,pq.2 - 1⟩) ⟨pq.1,pq.2 - 1⟩ else out
def wY (l:List Int):List (Int × Int):=l.zip l.tail
def YH (op:Bool -> Bool -> Bool) (a b:List RN):List RN:=(wY (zWa (a ++ b))).foldl (wna op a b) []

theorem vra (p:Int) (z:RN -> RN) (x:RN):wma [] p z x = [x]:=rfl
theorem Jk (l:List RN) (y:RN) (p:Int) (z:RN -> RN) (x:RN):wma (l ++ [y]) p z x = if y.hi + 1 = p then l ++ [z y] else l ++ [y] ++ [x]:=by simp [wma]
theorem xU {α:Type} (l:List α):l = [] \/ ∃ r y,l = r ++ [y]:=by
 rcases List.eq_nil_or_concat l with h | ⟨r,y,h⟩
 ·exact .inl h
 ·exact .inr ⟨r,y,by simpa using h⟩

theorem zYa (op:Bool -> Bool -> Bool) (a b:List RN):∀ (P:List Int) (p:Int) (out:List RN),Up (p :: P) -> (∀ q ∈ p :: P,1 <= q /\ q <= 281474976710656) -> Nf out -> (∀ y ∈ out,y.hi < p) ->
  Nf ((wY (p :: P)).foldl (wna op a b) out) /\ (∀ n,yS ((wY (p :: P)).foldl (wna op a b) out) n = true ↔ yS out n = true \/ ∃ pq ∈ wY (p :: P),pq.1 <= n /\ n < pq.2 /\ op (yS a pq.1) (yS b pq.1) = true) /\ ((wY (p :: P)).foldl (wna op a b) out).length <= out.length + P.length
 | [],p,out,_,_,h,_=>by simp [wY,h]
 | q :: P,p,out,hu,hr,h,hy=>by
  have e:wY (p :: q :: P) = (p,q) :: wY (q :: P):=rfl;rw [e,List.foldl_cons];have hu':=List.pairwise_cons.1 hu;have hpq:p < q:=hu'.1 q (by simp);have hp:=hr p (by simp);have hq:=hr q (by simp);have step:Nf (wna op a b out (p,q)) /\ (∀ n,yS (wna op a b out (p,q)) n = true ↔ yS out n = true \/ (p <= n /\ n < q /\ op (yS a p) (yS b p) = true)) /\ (∀ y ∈ wna op a b out (p,q),y.hi < q) /\ (wna op a b out (p,q)).length <= out.length + 1:=by
   unfold wna;simp only
   by_cases hop:op (yS a p) (yS b p) = true
   ·rw [if_pos hop];rcases xU out with rfl | ⟨l,y,rfl⟩
    ·rw [vra];have hm:Xb (⟨p,q - 1⟩:RN) = true:=zg.2 ⟨hp.1,by simp only;omega,by simp only;omega⟩;refine ⟨⟨hm,by simp,trivial⟩,fun n=>?_,fun y hy=>?_,by simp⟩
     ·rw [vc,yj];have:=zg.1 hm;simp only at this ⊢;simp only [zTa,Bool.false_eq_true,false_or,hop,and_true];omega
     ·simp at hy;subst hy;simp only;omega
    ·rw [Jk];obtain ⟨n1,n2,n3⟩:=XN.1 h;have hym:=zg.1 n2;have hyp:=hy y (by simp)
     by_cases hadj:y.hi + 1 = p
     ·rw [if_pos hadj];have hm:Xb (⟨y.lo,q - 1⟩:RN) = true:=zg.2 ⟨hym.1,by simp only;omega,by simp only;omega⟩;refine ⟨XN.2 ⟨n1,hm,n3⟩,fun n=>?_,fun z hz=>?_,by simp⟩
      ·rw [ux,ux,vc,vc,Bool.or_eq_true,Bool.or_eq_true,yj,yj];have:=zg.1 hm;simp only at this ⊢;simp only [hop,and_true]
       constructor
       ·rintro (h | h)
        ·exact .inl (.inl h)
        ·by_cases hc:n <= y.hi
         ·exact .inl (.inr ⟨hym,h.2.1,hc⟩)
         ·right;omega
       ·rintro ((h | h) | h)
        ·exact .inl h
        ·right;omega
        ·right;omega
      ·rcases List.mem_append.1 hz with hz | hz
       ·have:=hy z (by simp [hz]);omega
       ·simp at hz;subst hz;simp only;omega
     ·rw [if_neg hadj];have hm:Xb (⟨p,q - 1⟩:RN) = true:=zg.2 ⟨hp.1,by simp only;omega,by simp only;omega⟩;refine ⟨XN.2 ⟨h,hm,fun z hz=>?_⟩,fun n=>?_,fun z hz=>?_,by simp⟩
      ·simp only;rcases List.mem_append.1 hz with hz | hz
       ·have:=n3 z hz;omega
       ·simp at hz;subst hz;omega
      ·rw [ux (l ++ [y]),vc,Bool.or_eq_true,yj];have:=zg.1 hm;simp only at this ⊢;simp only [hop,and_true]
       constructor
       ·rintro (h | h)
        ·exact .inl h
        ·right;omega
       ·rintro (h | h)
        ·exact .inl h
        ·right;omega
      ·rcases List.mem_append.1 hz with hz | hz
       ·have:=hy z hz;omega
       ·simp at hz;subst hz;simp only;omega
   ·rw [if_neg hop];refine ⟨h,fun n=>?_,fun y hy'=>by have:=hy y hy';omega,by omega⟩;exact ⟨fun h=>.inl h,fun h=>h.elim id fun h=>absurd h.2.2 hop⟩
  obtain ⟨s1,s2,s3,s4⟩:=step;obtain ⟨i1,i2,i3⟩:=zYa op a b P q _ hu'.2 (fun z hz=>hr z (List.mem_cons_of_mem _ hz)) s1 s3;refine ⟨i1,fun n=>?_,by simp;omega⟩;rw [i2,s2];simp only [List.mem_cons,exists_eq_or_imp]
  constructor
  ·rintro ((h | h) | h)
   ·exact .inl h
   ·exact .inr (.inl h)
   ·exact .inr (.inr h)
  ·rintro (h | h | h)
   ·exact .inl (.inl h)
   ·exact .inl (.inr h)
   ·exact .inr h

theorem Ut : ∀ {P:List Int},Up P -> ∀ pq ∈ wY P,pq.1 ∈ P /\ pq.2 ∈ P /\ pq.1 < pq.2 /\ ∀ m ∈ P,m <= pq.1 \/ pq.2 <= m
 | [],_,pq,h=>by simp [wY] at h
 | [p],_,pq,h=>by simp [wY] at h
 | p :: q :: P,hu,pq,h=>by
  have e:wY (p :: q :: P) = (p,q) :: wY (q :: P):=rfl;rw [e] at h;have hu':=List.pairwise_cons.1 hu;rcases List.mem_cons.1 h with rfl | h
  ·refine ⟨by simp,by simp,hu'.1 q (by simp),fun m hm=>?_⟩;rcases List.mem_cons.1 hm with rfl | hm
   ·simp
   ·right
    rcases List.mem_cons.1 hm with rfl | hm
    ·simp
    ·have:=(List.pairwise_cons.1 hu'.2).1 m hm;simp only;omega
  ·obtain ⟨h1,h2,h3,h4⟩:=Ut hu'.2 pq h;refine ⟨List.mem_cons_of_mem _ h1,List.mem_cons_of_mem _ h2,h3,fun m hm=>?_⟩;rcases List.mem_cons.1 hm with rfl | hm
   ·left;have:=hu'.1 _ h1;omega
   ·exact h4 m hm
theorem QK : ∀ {P:List Int},Up P -> ∀ {u v n:Int},u ∈ P -> v ∈ P -> u <= n -> n < v -> ∃ pq ∈ wY P,pq.1 <= n /\ n < pq.2
 | [],_,_,_,_,h,_,_,_=>by simp at h
 | [p],_,u,v,n,h1,h2,h3,h4=>by simp at h1 h2;omega
 | p :: q :: P,hu,u,v,n,h1,h2,h3,h4=>by
  have e:wY (p :: q :: P) = (p,q) :: wY (q :: P):=rfl;have hu':=List.pairwise_cons.1 hu
  by_cases hc:n < q
  ·refine ⟨(p,q),by rw [e];simp,?_,hc⟩;rcases List.mem_cons.1 h1 with rfl | h1
   ·exact h3
   ·have:q <= u:=by
     rcases List.mem_cons.1 h1 with rfl | h1
     ·omega
     ·have:=(List.pairwise_cons.1 hu'.2).1 u h1;omega
    simp only;omega
  ·have hv:v ∈ q :: P:=by
    rcases List.mem_cons.1 h2 with rfl | h2
    ·have:=hu'.1 q (by simp);omega
    ·exact h2
   obtain ⟨pq,h5,h6⟩:=QK hu'.2 (u:=q) (by simp) hv (by omega) h4;exact ⟨pq,by rw [e];exact List.mem_cons_of_mem _ h5,h6⟩
theorem u9a (P:List Int):(wY P).length = P.length - 1:=by simp [wY]

theorem XO {l:List RN} {P:List Int} (hP:∀ x ∈ l,Xb x = true -> x.lo ∈ P /\ x.hi + 1 ∈ P) {p q n:Int} (h1:∀ m ∈ P,m <= p \/ q <= m) (h2:p <= n) (h3:n < q):yS l n = yS l p:=by
 rw [Bool.eq_iff_iff,vB,vB]
 constructor
 ·rintro ⟨x,hx,hm,h4,h5⟩;obtain ⟨h6,h7⟩:=hP x hx hm;have:=h1 _ h6;have:=h1 _ h7;exact ⟨x,hx,hm,by omega,by omega⟩
 ·rintro ⟨x,hx,hm,h4,h5⟩;obtain ⟨h6,h7⟩:=hP x hx hm;have:=h1 _ h6;have:=h1 _ h7;exact ⟨x,hx,hm,by omega,by omega⟩
theorem zp (op:Bool -> Bool -> Bool) (h0:op false false = false) (a b:List RN):Nf (YH op a b) /\ (∀ n,yS (YH op a b) n = op (yS a n) (yS b n)) /\ (YH op a b).length <= 2 * (a.length + b.length):=by
 obtain ⟨p1,p2,p3⟩:=QJ (a ++ b);have hrange:∀ q ∈ zWa (a ++ b),1 <= q /\ q <= 281474976710656:=fun q hq=>by
  obtain ⟨x,_,h2,h3⟩:=(p2 q).1 hq;have:=zg.1 h2;omega
 have main:Nf (YH op a b) /\ (∀ n,yS (YH op a b) n = true ↔ ∃ pq ∈ wY (zWa (a ++ b)),pq.1 <= n /\ n < pq.2 /\ op (yS a pq.1) (yS b pq.1) = true) /\ (YH op a b).length <= (zWa (a ++ b)).length:=by
  unfold YH
  generalize hP:zWa (a ++ b) = P at p1 hrange
  cases P with
  | nil=>simp [wY,Nf]
  | cons p P=>
   obtain ⟨i1,i2,i3⟩:=zYa op a b P p [] p1 hrange trivial (by simp);exact ⟨i1,fun n=>by rw [i2];simp,by simp at i3 ⊢;omega⟩
 obtain ⟨m1,m2,m3⟩:=main;refine ⟨m1,fun n=>?_,by simp at p3;omega⟩;have hPa:∀ x ∈ a,Xb x = true -> x.lo ∈ zWa (a ++ b) /\ x.hi + 1 ∈ zWa (a ++ b):=fun x hx hm=>⟨(p2 _).2 ⟨x,by simp [hx],hm,.inl rfl⟩,(p2 _).2 ⟨x,by simp [hx],hm,.inr rfl⟩⟩
 have hPb:∀ x ∈ b,Xb x = true -> x.lo ∈ zWa (a ++ b) /\ x.hi + 1 ∈ zWa (a ++ b):=fun x hx hm=>⟨(p2 _).2 ⟨x,by simp [hx],hm,.inl rfl⟩,(p2 _).2 ⟨x,by simp [hx],hm,.inr rfl⟩⟩
 rw [Bool.eq_iff_iff,m2]
 constructor
 ·rintro ⟨pq,h1,h2,h3,h4⟩;obtain ⟨_,_,_,h5⟩:=Ut p1 pq h1
  rwa [XO hPa h5 h2 h3,XO hPb h5 h2 h3]
 ·intro h;have hex:∃ u ∈ zWa (a ++ b),∃ v ∈ zWa (a ++ b),u <= n /\ n < v:=by
   cases ha:yS a n with
   | true=>
    obtain ⟨x,h1,h2,h3,h4⟩:=vB.1 ha;exact ⟨_,(hPa x h1 h2).1,_,(hPa x h1 h2).2,h3,by omega⟩
   | false=>
    cases hb:yS b n with
    | true=>
     obtain ⟨x,h1,h2,h3,h4⟩:=vB.1 hb;exact ⟨_,(hPb x h1 h2).1,_,(hPb x h1 h2).2,h3,by omega⟩
    | false=>rw [ha,hb,h0] at h;cases h
  obtain ⟨u,hu,v,hv,h1,h2⟩:=hex;obtain ⟨pq,h3,h4,h5⟩:=QK p1 hu hv h1 h2;obtain ⟨_,_,_,h6⟩:=Ut p1 pq h3;exact ⟨pq,h3,h4,h5,by rwa [<- XO hPa h6 h4 h5,<- XO hPb h6 h4 h5]⟩

def nrm (l:List RN):List RN:=YH (· || ·) l []
theorem Xc (l:List RN):Nf (nrm l):=(zp _ rfl l []).1
theorem vd (l:List RN) (n:Int):yS (nrm l) n = yS l n:=by rw [nrm,(zp _ rfl l []).2.1];simp
theorem Zb (l:List RN):(nrm l).length <= 2 * l.length:=by
 have:=(zp (· || ·) rfl l []).2.2;rw [List.length_nil,Nat.add_zero] at this;exact this
theorem nrm_of {l r:List RN} (h:Nf r) (h2:∀ n,yS r n = yS l n):r = nrm l:=UG h (Xc l) fun n=>by rw [h2,vd]
theorem zZa {l:List RN} (h:Nf l):nrm l = l:=(nrm_of h fun _=>rfl).symm


theorem ZAa (x y:RN):(decide (x.lo = y.lo) && decide (x.hi = y.hi)) = decide (x = y):=by
 rw [Bool.eq_iff_iff]
 cases x;cases y
 simp
theorem eqLoop {body:Int -> M (Step Int (Ex Unit Bool))} (a b:List RN) (hl:a.length = b.length) (hn:a.length <= 1000000000000)
  (hb:∀ i:Int,body i = cond (decide (i < (a.length:Int))) (M.bind (M.idx a i) fun x=>M.bind (M.idx b i) fun y=>cond (!(decide (x.lo = y.lo) && decide (x.hi = y.hi))) (M.pure (.done (.ret false))) (M.pure (.next (IntKind.i64.wrap (i + 1))))) (M.pure (.done (.brk ())))) :
  M.bind (M.loop body 0) (M.exk fun _=>M.pure true) = pure (decide (a = b)):=by
 have:=xX (body:=body) a (fun i=>(i:Int)) (fun i x=>decide (b[i]? = some x)) (.brk ()) (.ret false) (fun i x hx hi=>by
  have hb':i < b.length:=by omega
  rw [hb,zF hx,zF (List.getElem?_eq_getElem hb'),zo (by omega)];simp only [zA,List.getElem?_eq_getElem hb',Option.some.injEq,ZAa];have:decide ((i:Int) < (a.length:Int)) = true:=by simpa using hi
  rw [this,cond_true]
  by_cases he:b[i] = x
  ·subst he;simp
  ·rw [if_neg (by simpa using he)];have:decide (x = b[i]) = false:=by simpa using fun h=>he h.symm
   rw [this];rfl) (by rw [hb];simp)
 rw [show (0:Int) = ((0:Nat):Int) from rfl,this]
 by_cases he:a = b
 ·subst he;rw [if_pos]
  ·simp [zA,YF]
  ·rw [List.all_eq_true];intro ⟨x,i⟩ hx;rw [List.mk_mem_zipIdx_iff_getElem?] at hx;simpa using hx
 ·rw [if_neg]
  ·simp [he,zA,JJ]
  ·intro hall;rw [List.all_eq_true] at hall;apply he;apply List.ext_getElem (by omega);intro i h1 h2;have:=hall (a[i],i) (by rw [List.mk_mem_zipIdx_iff_getElem?];exact List.getElem?_eq_getElem h1);simp [h2] at this;exact this.symm
theorem req_eq (a b:List RN) (h:a.length <= 1000000000000):wZa a b = pure (decide (a = b)):=by
 unfold wZa
 by_cases hl:(a.length:Int) = b.length
 ·simp only [hl,decide_true,Bool.not_true,cond_false];exact eqLoop a b (by omega) h fun i=>rfl
 ·have hne:a ≠ b:=fun e=>hl (by rw [e])
  simp [hl,hne]
theorem seq_eq (a b:List RN) (h:a.length <= 1000000000000):yZ a b = pure (decide (a = b)):=by
 unfold yZ
 by_cases hl:(a.length:Int) = b.length
 ·simp only [hl,decide_true,Bool.not_true,cond_false];exact eqLoop a b (by omega) h fun i=>rfl
 ·have hne:a ≠ b:=fun e=>hl (by rw [e])
  simp [hl,hne]

theorem ZBa (x:RN):JP x = pure (Xb x):=by
 unfold JP;rw [zh,zh,zA]
 rfl
theorem x2a (l:List RN) (n:Int) (h:l.length <= 1000000000000):Ue l n = pure (yS l n):=by
 unfold Ue;have:=xX (body:=WN l n) l (fun i=>(i:Int)) (fun _ x=>!inR n x) (.brk ()) (.ret true) (fun i x hx hi=>by
  unfold WN;have h1:decide ((i:Int) < (l.length:Int)) = true:=by simpa using hi
  simp only [h1,cond_true,zF hx,zA,ZBa,zB,zo (show i < 9223372036854775807 by omega),zh];unfold inR
  cases Xb x <;> cases decide (x.lo <= n) <;> cases decide (n <= x.hi) <;> rfl) (by unfold WN;simp)
 rw [show (0:Int) = ((0:Nat):Int) from rfl,this,zA];have e:l.zipIdx.all (fun y=>!inR n y.1) = !yS l n:=by
  unfold yS;rw [Bool.eq_iff_iff];simp only [List.all_eq_true,Bool.not_eq_true',List.any_eq_false]
  constructor
  ·intro h x hx;obtain ⟨i,hi,he⟩:=List.getElem_of_mem hx;have:=h (x,i) (by rw [List.mk_mem_zipIdx_iff_getElem?];rw [List.getElem?_eq_getElem hi,he]);simpa using this
  ·intro h y hy;have:=List.fst_mem_of_mem_zipIdx hy;have:=h _ this;simpa using this
 simp only [e]
 cases yS l n <;> rfl
theorem ZCa (l:List Int) (n:Int) (h:l.length <= 100000000000):JQ l n = pure (putP l n):=by
 unfold JQ;have:=uu (body:=WO l n) l (fun i (t:Bool × List Int)=>(t.1,(i:Int),t.2)) (putS n) (fun t=>pure t) (fun i t=>t.2.length <= 2 * i) (fun i x t hx hi hI=>by
  obtain ⟨d,out⟩:=t;simp only at hI;have h1:decide ((i:Int) < (l.length:Int)) = true:=by simpa using hi
  refine ⟨?_,?_⟩
  ·unfold WO putS;simp only [h1,cond_true,zF hx,zA,zo (show i < 9223372036854775807 by omega)]
   cases d with
   | true=>
    by_cases hc:x = n
    ·simp [hc,zA]
    ·simp only [Bool.not_true,cond_false,zA,hc,decide_false,Bool.not_false,cond_true,if_false];rw [zD (by simp;omega)];simp [zA]
   | false=>
    by_cases hc1:n <= x
    ·simp only [Bool.not_false,cond_true,zA,hc1,decide_true];rw [zD (by simp;omega),zA]
     by_cases hc:x = n
     ·simp [hc,zA]
     ·simp only [hc,decide_false,Bool.not_false,cond_true];rw [zD (by simp;omega)];simp [zA]
    ·simp only [Bool.not_false,cond_true,zA,hc1,decide_false,cond_false];have hc:x ≠ n:=by omega
     simp only [hc,decide_false,Bool.not_false,cond_true];rw [zD (by simp;omega)];simp [zA]
  ·unfold putS;simp only
   split <;> split <;> simp <;> omega) (fun t _=>by unfold WO;simp [zA]) (false,[]) (by simp)
 rw [show ((false,(0:Int),([]:List Int)):Bool × Int × List Int) = (false,((0:Nat):Int),[]) from rfl,this,zA];unfold putP;have hlen:(l.foldl (putS n) (false,[])).2.length <= 2 * l.length:=by
  have:∀ (l:List Int) (s:Bool × List Int),(l.foldl (putS n) s).2.length <= s.2.length + 2 * l.length:=by
   intro l
   induction l with
   | nil=>intro s;simp
   | cons x r ih=>
    intro s;rw [List.foldl_cons];have:=ih (putS n s x);have h2:(putS n s x).2.length <= s.2.length + 2:=by
     unfold putS;simp only
     split <;> split <;> simp
    simp;omega
  simpa using this l (false,[])
 generalize l.foldl (putS n) (false,[]) = t at hlen
 obtain ⟨d,out⟩:=t
 cases d with
 | true=>rfl
 | false=>
  simp only [Bool.not_false,cond_true];rw [zD (by simp at hlen ⊢;omega)]
  rfl
theorem rpts_eq (a b:List RN) (h:a.length + b.length <= 10000000000):WP a b = pure (zWa (a ++ b)):=by
 unfold WP;rw [zD (by simp;omega),zD (by simp;omega)];have hup:∀ i,Up (((a ++ b).take i).foldl ptS []) /\ (((a ++ b).take i).foldl ptS []).length <= 2 * (a ++ b).length:=fun i=>by
  obtain ⟨h1,_,h3⟩:=zXa ((a ++ b).take i) [] (by simp [Up]);refine ⟨h1,?_⟩;have:((a ++ b).take i).length <= (a ++ b).length:=by simp;omega
  simp only [List.length_nil,Nat.zero_add] at h3;omega
 have:=uu (body:=uk a b) (a ++ b) (fun i (t:List Int)=>(t,(i:Int))) ptS (fun t=>pure t) (fun i t=>t = ((a ++ b).take i).foldl ptS []) (fun i x t hx hi hI=>by
  have h1:decide ((i:Int) < ((a ++ b).length:Int)) = true:=decide_eq_true (by omega);have hlen:(a ++ b).length <= 10000000000:=by simp;omega
  obtain ⟨u1,u2⟩:=hup i;rw [<- hI] at u1 u2;refine ⟨?_,?_⟩
  ·unfold uk ptS;simp only [List.nil_append,h1,cond_true,zF hx,zA,zo (show i < 9223372036854775807 by omega),ZBa,zB]
   cases hm:Xb x with
   | false=>simp [zA]
   | true=>
    have hm':=zg.1 hm;have hp:=Us u1 x.lo;rw [cond_true,ZCa _ _ (by omega),zB,zA,VV (by omega) (by omega),ZCa _ _ (by omega),zB];simp [zA]
  ·rw [List.take_add_one,hx];simp [hI]) (fun t _=>by unfold uk;simp [zA]) [] (by simp)
 rw [show (([]:List Int),(0:Int)) = ([],((0:Nat):Int)) from rfl,this];simp only [zA]
 rfl
theorem yoa {P:List Int} {i:Nat} {pq:Int × Int} (h:(wY P)[i]? = some pq):P[i]? = some pq.1 /\ P[i + 1]? = some pq.2:=by
 unfold wY at h;rw [List.getElem?_zip_eq_some] at h;obtain ⟨h1,h2⟩:=h;rw [List.getElem?_tail] at h2;exact ⟨h1,h2⟩
theorem VQ (op:Bool -> Bool -> Bool) (how:Int) (hop:∀ x y,op x y = if how = 2 then (x && !y) else if how = 1 then (x && y) else (x || y)) (_h0:op false false = false) (a b:List RN) (h:a.length + b.length <= 10000000000):Uf a b how = pure (YH op a b):=by
 unfold Uf;rw [rpts_eq a b h,zB,zA];obtain ⟨p1,p2,p3⟩:=QJ (a ++ b);have hrange:∀ q ∈ zWa (a ++ b),1 <= q /\ q <= 281474976710656:=fun q hq=>by
  obtain ⟨x,_,h2,h3⟩:=(p2 q).1 hq;have:=zg.1 h2;omega
 unfold YH
 generalize zWa (a ++ b) = P at p1 hrange p3
 simp only [List.length_append] at p3;have hinv:∀ i,i <= (wY P).length -> Nf (((wY P).take i).foldl (wna op a b) []) /\ (((wY P).take i).foldl (wna op a b) []).length <= P.length:=fun i hi=>by
  cases P with
  | nil=>simp [wY,Nf]
  | cons p P=>
   have key:(wY (p :: P)).take i = wY (p :: P.take i):=by
    unfold wY;simp only [List.tail_cons];clear hi p1 hrange p3
    induction i generalizing p P with
    | zero=>simp
    | succ i ih=>
     cases P with
     | nil=>simp
     | cons q P=>
      simp only [List.zip_cons_cons,List.take_succ_cons];rw [ih q P]
   rw [key];have hsub:(p :: P.take i).Sublist (p :: P):=List.Sublist.cons_cons _ (List.take_sublist _ _);obtain ⟨i1,_,i3⟩:=zYa op a b (P.take i) p [] (List.Pairwise.sublist hsub p1) (fun q hq=>hrange q (hsub.subset hq)) trivial (by simp);refine ⟨i1,?_⟩;simp at i3 ⊢;omega
 have:=uu (body:=WQ P a b how) (wY P) (fun i (t:List RN)=>((i:Int),t)) (wna op a b) (fun t=>pure t) (fun i t=>i <= (wY P).length /\ t = ((wY P).take i).foldl (wna op a b) []) (fun i pq t hx hi hI=>by
  obtain ⟨hI1,hI⟩:=hI;obtain ⟨g1,g2⟩:=yoa hx;have hlt:i + 1 < P.length:=(List.getElem?_eq_some_iff.1 g2).1;have hPl:P.length <= 20000000000:=by omega
  have h1:decide (((i + 1:Nat):Int) < (P.length:Int)) = true:=by rw [decide_eq_true_eq];omega
  obtain ⟨v1,v2⟩:=hinv i hI1;rw [<- hI] at v1 v2;refine ⟨?_,by omega,by rw [List.take_add_one,hx];simp [hI]⟩;unfold WQ wna;have e2:idx P ((i + 1:Nat):Int) = pure pq.2:=zF g2;have hq:=hrange pq.2 (List.mem_of_getElem? g2);simp only [zo (show i < 9223372036854775807 by omega),h1,cond_true,zF g1,e2,zA,x2a a pq.1 (by omega),x2a b pq.1 (by omega),zB];rw [hop];have hin:∀ (x y:Bool),(M.bind (cond x (M.pure true) (M.pure y)) fun in97=>M.bind (cond (decide (how = 1)) (M.bind (cond x (M.pure y) (M.pure false)) fun in101=>M.pure in101) (M.pure in97)) fun in99=>cond (decide (how = 2)) (M.bind (cond x (M.pure (!y)) (M.pure false)) fun in105=>M.pure in105) (M.pure in99)) = pure (if how = 2 then (x && !y) else if how = 1 then (x && y) else (x || y)):=by
   intro x y
   by_cases c2:how = 2
   ·subst c2;cases x <;> cases y <;> rfl
   ·by_cases c1:how = 1
    ·subst c1;cases x <;> cases y <;> rfl
    ·simp only [c1,c2,decide_false,cond_false,if_false]
     cases x <;> cases y <;> rfl
  have hin':=hin (yS a pq.1) (yS b pq.1)
  generalize (if how = 2 then (yS a pq.1 && !yS b pq.1) else if how = 1 then (yS a pq.1 && yS b pq.1) else (yS a pq.1 || yS b pq.1)) = inn at hin'
  -- the three steps are one
  have assoc:∀ (K:Bool -> M (List RN)),(M.bind (cond (yS a pq.1) (M.pure true) (M.pure (yS b pq.1))) fun in97=>M.bind (cond (decide (how = 1)) (M.bind (cond (yS a pq.1) (M.pure (yS b pq.1)) (M.pure false)) fun in101=>M.pure in101) (M.pure in97)) fun in99=>M.bind (cond (decide (how = 2)) (M.bind (cond (yS a pq.1) (M.pure (!yS b pq.1)) (M.pure false)) fun in105=>M.pure in105) (M.pure in99)) K) = K inn:=by
   intro K;have:=congrArg (fun m=>M.bind m K) hin';exact this
  rw [assoc]
  cases inn with
  | false=>rfl
  | true=>
   simp only [cond_true,if_true];rcases xU t with rfl | ⟨l,y,rfl⟩
   ·have e:decide ((0:Int) <= IntKind.i64.wrap (((([]:List RN).length:Nat):Int) - 1)) = false:=by
     rw [Xi (by simp) (by simp)];simp
    rw [e];simp only [cond_false,zA];rw [zD (by simp),VV (by omega) (by omega)]
    rfl
   ·have hy:=(XN.1 v1).2.1;have hym:=zg.1 hy;have e0:IntKind.i64.wrap ((((l ++ [y]).length:Nat):Int) - 1) = (l.length:Int):=by
     simp only [List.length_append,List.length_singleton] at v2 ⊢;rw [Xi (by omega) (by omega)];omega
    have e1:idx (l ++ [y]) (l.length:Int) = pure y:=zF (by simp);have e3:decide ((0:Int) <= (l.length:Int)) = true:=by simp
    rw [e0,e3];simp only [cond_true,e1,zA,VV (show 0 <= y.hi + 1 by omega) (by omega),VV (show 0 <= pq.2 - 1 by omega) (by omega)];rw [Jk]
    by_cases hc:y.hi + 1 = pq.1
    ·simp only [hc,decide_true,cond_true,if_true,Int.toNat_natCast];have:(l ++ [y]).set l.length (⟨y.lo,pq.2 - 1⟩:RN) = l ++ [⟨y.lo,pq.2 - 1⟩]:=by simp
     rw [this]
     rfl
    ·simp only [hc,decide_false,cond_false,if_false];rw [zD (by simp only [List.length_append,List.length_singleton] at v2 ⊢;omega)]
     rfl) (fun t _=>by
  unfold WQ;have e:decide (IntKind.i64.wrap (((wY P).length:Int) + 1) < (P.length:Int)) = false:=by
   rw [u9a,Xi (by omega) (by omega)];simp;omega
  simp only [e,cond_false,zA]) [] ⟨Nat.zero_le _,by simp⟩
 rw [show ((0:Int),([]:List RN)) = (((0:Nat):Int),[]) from rfl,this];simp only [zA]

theorem woa (a b:List RN) (h:a.length + b.length <= 10000000000):Vg a b = pure (YH (· || ·) a b):=by
 unfold Vg;rw [VQ (· || ·) 0 (fun x y=>by simp) rfl a b h,zB,zA]
theorem rmeet_eq (a b:List RN) (h:a.length + b.length <= 10000000000):jT a b = pure (YH (· && ·) a b):=by
 unfold jT;rw [VQ (· && ·) 1 (fun x y=>by simp) rfl a b h,zB,zA]
theorem ZDa (a b:List RN) (h:a.length + b.length <= 10000000000):Vh a b = pure (YH (fun x y=>x && !y) a b):=by
 unfold Vh;rw [VQ (fun x y=>x && !y) 2 (fun x y=>by simp) rfl a b h,zB,zA]

def ypa (out:List RN) (x:RN):List RN:=match out.getLast? with
 | some y=>if x.lo <= y.hi + 1 then out.dropLast ++ [⟨y.lo,max y.hi x.hi⟩] else out ++ [x]
 | none=>out ++ [x]
theorem zaa (x:RN):ypa [] x = [x]:=rfl
theorem Jl (l:List RN) (y x:RN):ypa (l ++ [y]) x = if x.lo <= y.hi + 1 then l ++ [⟨y.lo,max y.hi x.hi⟩] else l ++ [y] ++ [x]:=by simp [ypa]
theorem vsa {out:List RN} {x:RN} (h:Nf out) (hx:Xb x = true) (hlo:∀ y ∈ out,y.lo <= x.lo):Nf (ypa out x) /\ (∀ n,yS (ypa out x) n = (yS out n || inR n x)) /\ (∀ y ∈ ypa out x,y.lo <= x.lo) /\ (ypa out x).length <= out.length + 1:=by
 have hxm:=zg.1 hx;rcases xU out with rfl | ⟨l,y,rfl⟩
 ·rw [zaa];exact ⟨⟨hx,by simp,trivial⟩,fun n=>by rw [vc];simp,by simp,by simp⟩
 ·rw [Jl];obtain ⟨n1,n2,n3⟩:=XN.1 h;have hym:=zg.1 n2;have hyx:=hlo y (by simp)
  by_cases hc:x.lo <= y.hi + 1
  ·rw [if_pos hc];have hm:Xb (⟨y.lo,max y.hi x.hi⟩:RN) = true:=zg.2 ⟨hym.1,by simp only;omega,by simp only;omega⟩;refine ⟨XN.2 ⟨n1,hm,n3⟩,fun n=>?_,fun z hz=>?_,by simp⟩
   ·rw [ux,ux,vc,vc,Bool.or_assoc]
    congr 1
    rw [Bool.eq_iff_iff,Bool.or_eq_true,yj,yj,yj];have:=zg.1 hm;simp only at this ⊢;omega
   ·rcases List.mem_append.1 hz with hz | hz
    ·exact hlo z (by simp [hz])
    ·simp at hz;subst hz;exact hyx
  ·rw [if_neg hc];refine ⟨XN.2 ⟨h,hx,fun z hz=>?_⟩,fun n=>by rw [ux (l ++ [y]),vc],fun z hz=>?_,by simp⟩
   ·rcases List.mem_append.1 hz with hz | hz
    ·have:=n3 z hz;omega
    ·simp at hz;subst hz;omega
   ·rcases List.mem_append.1 hz with hz | hz
    ·exact hlo z hz
    ·simp at hz;subst hz;exact Int.le_refl _
theorem Jm : ∀ (s out:List RN),Nf out -> (∀ x ∈ s,Xb x = true) -> s.Pairwise (fun x y=>x.lo <= y.lo) -> (∀ y ∈ out,∀ x ∈ s,y.lo <= x.lo) -> Nf (s.foldl ypa out) /\ (∀ n,yS (s.foldl ypa out) n = (yS out n || yS s n)) /\ (s.foldl ypa out).length <= out.length + s.length
 | [],out,h,_,_,_=>⟨h,by simp,by simp⟩
 | x :: r,out,h,hm,hp,hlo=>by
  obtain ⟨a1,a2,a3,a4⟩:=vsa h (hm x (by simp)) fun y hy=>hlo y hy x (by simp)
  obtain ⟨p1,p2⟩:=List.pairwise_cons.1 hp;obtain ⟨i1,i2,i3⟩:=Jm r _ a1 (fun y hy=>hm y (List.mem_cons_of_mem _ hy)) p2 fun y hy z hz=>by
   have:=a3 y hy;have:=p1 z hz;omega
  refine ⟨i1,fun n=>?_,by simp;omega⟩;rw [List.foldl_cons,i2,a2,xw,Bool.or_assoc]

theorem ZEa {l:List RN} {Q:List RN -> Prop} (h:∀ s,s.Perm l -> s.Pairwise (fun x y=>x.lo <= y.lo) -> Q s):(srt qa l).wp Q:=by
 refine ⟨⟨l.mergeSort (fun x y=>decide (x.lo <= y.lo)),List.mergeSort_perm _ _,?_⟩,fun s ⟨h1,h2⟩=>h s h1 (h2.imp fun {x y} h=>?_)⟩
 ·refine (List.pairwise_mergeSort (fun a b c h1 h2=>?_) (fun a b=>?_) l).imp fun {x y} h=>?_
  ·simp only [decide_eq_true_eq] at h1 h2 ⊢;omega
  ·simp only [Bool.or_eq_true,decide_eq_true_eq];omega
  ·simp only [decide_eq_true_eq] at h;unfold qa;simp only [decide_eq_false_iff_not];omega
 ·unfold qa at h;simp only [decide_eq_false_iff_not] at h;omega
theorem Uu (l:List RN) (h:l.length <= 1000000000000):xu l = pure (nrm l):=by
 unfold xu;have h1:=uu (body:=uO l) l (fun i (t:List RN)=>((i:Int),t)) (fun t x=>if Xb x then t ++ [x] else t) (fun t=>pure t) (fun i t=>t.length <= i) (fun i x t hx hi hI=>by
  have h1:decide ((i:Int) < (l.length:Int)) = true:=by simpa using hi
  refine ⟨?_,by split <;> (try simp only [List.length_append,List.length_singleton]) <;> omega⟩;unfold uO;simp only [h1,cond_true,zF hx,zA,zo (show i < 9223372036854775807 by omega)];have e:(cond (decide (0 < x.lo)) (cond (decide (x.lo <= x.hi)) (M.pure (decide (x.hi <= 281474976710655))) (M.pure false)) (M.pure false):M Bool) = pure (Xb x):=by
   rw [zh,zh];refine congrArg pure ?_;rw [Bool.eq_iff_iff,zg];simp only [Bool.and_eq_true,decide_eq_true_eq];omega
  rw [e,zA]
  cases hm:Xb x with
  | false=>simp [zA]
  | true=>
   rw [cond_true,zD (by simp;omega)];simp [zA]) (fun t _=>by unfold uO;simp [zA]) [] (by simp)
 have hf:∀ (l t:List RN),l.foldl (fun t x=>if Xb x then t ++ [x] else t) t = t ++ l.filter Xb:=by
  intro l
  induction l with
  | nil=>simp
  | cons x r ih=>
   intro t;rw [List.foldl_cons,ih]
   cases hm:Xb x <;> simp [hm]
 rw [hf,List.nil_append] at h1;have h1':loop (uO l) (0,[]) = pure (l.filter Xb):=h1;have hfl:(l.filter Xb).length <= l.length:=List.length_filter_le _ _;rw [h1',zA,zD (by omega)];refine ZJ (ZEa fun s hs hp=>?_);have hsl:=hs.length_eq;have hmay:∀ x ∈ s,Xb x = true:=fun x hx=>(List.mem_filter.1 (hs.mem_iff.1 hx)).2
 have hpre:∀ i,Nf ((s.take i).foldl ypa []) /\ ((s.take i).foldl ypa []).length <= i /\ ∀ x,s[i]? = some x -> ∀ y ∈ (s.take i).foldl ypa [],y.lo <= x.lo:=fun i=>by
  obtain ⟨i1,i2,i3⟩:=Jm (s.take i) [] trivial (fun x hx=>hmay x (List.mem_of_mem_take hx)) (List.Pairwise.sublist (List.take_sublist _ _) hp) (by simp);refine ⟨i1,by simp at i3;omega,fun x hx y hy=>?_⟩;have hmy:=zg.1 (i1.may y hy);have:yS ((s.take i).foldl ypa []) y.lo = true:=vB.2 ⟨y,hy,i1.may y hy,by omega,by omega⟩;rw [i2] at this;simp only [zTa,Bool.false_or] at this;obtain ⟨z,hz,_,h3,_⟩:=vB.1 this
  -- z is ahead of x; y begins where one of those ahead begins
  have hall:∀ (s out:List RN),(∀ y ∈ s.foldl ypa out,(∃ z ∈ out,y.lo = z.lo) \/ ∃ z ∈ s,y.lo = z.lo):=by
   intro s
   induction s with
   | nil=>intro out y hy;exact .inl ⟨y,hy,rfl⟩
   | cons a r ih=>
    intro out y hy;rcases ih _ y hy with ⟨z,hz,e⟩ | ⟨z,hz,e⟩
    ·rcases xU out with rfl | ⟨q,w,rfl⟩
     ·rw [zaa] at hz;simp at hz;subst hz;exact .inr ⟨z,by simp,e⟩
     ·rw [Jl] at hz
      split at hz
      ·rcases List.mem_append.1 hz with hz | hz
       ·exact .inl ⟨z,by simp [hz],e⟩
       ·simp at hz;subst hz;exact .inl ⟨w,by simp,e⟩
      ·rcases List.mem_append.1 hz with hz | hz
       ·exact .inl ⟨z,hz,e⟩
       ·simp at hz;subst hz;exact .inr ⟨z,by simp,e⟩
    ·exact .inr ⟨z,by simp [hz],e⟩
  rcases hall _ _ y hy with ⟨z,hz,_⟩ | ⟨z,hz,e⟩
  ·simp at hz
  ·obtain ⟨j,hj,hje⟩:=List.getElem_of_mem hz;have hlt:=(List.getElem?_eq_some_iff.1 hx).1;have hji:j < i:=by simp at hj;omega
   have:=List.pairwise_iff_getElem.1 hp j i (by omega) hlt hji;rw [List.getElem_take] at hje;have hxe:s[i] = x:=by rw [List.getElem?_eq_getElem hlt] at hx;simpa using hx
   rw [hje,hxe] at this;omega
 have h2:=uu (body:=uP (l.filter Xb) s) s (fun i (t:List RN)=>((i:Int),t)) ypa (fun t=>pure t) (fun i t=>t = (s.take i).foldl ypa []) (fun i x t hx hi hI=>by
  obtain ⟨v1,v2,v3⟩:=hpre i;have v3:=v3 x hx;rw [<- hI] at v1 v2 v3;have hxm:=zg.1 (hmay x (List.mem_of_getElem? hx));have h1:decide ((i:Int) < ((l.filter Xb).length:Int)) = true:=by simp;omega
  refine ⟨?_,by rw [List.take_add_one,hx];simp [hI]⟩;unfold uP;simp only [h1,cond_true,zF hx,zA,zo (show i < 9223372036854775807 by omega)];rcases xU t with rfl | ⟨q,y,rfl⟩
  ·have e:decide ((0:Int) <= IntKind.i64.wrap (((([]:List RN).length:Nat):Int) - 1)) = false:=by
    rw [Xi (by simp) (by simp)];simp
   rw [e];simp only [cond_false,zA];rw [zD (by simp),zaa]
   rfl
  ·have hy:=(XN.1 v1).2.1;have hym:=zg.1 hy;have e0:IntKind.i64.wrap ((((q ++ [y]).length:Nat):Int) - 1) = (q.length:Int):=by
    simp only [List.length_append,List.length_singleton] at v2 ⊢;rw [Xi (by omega) (by omega)];omega
   have e1:idx (q ++ [y]) (q.length:Int) = pure y:=zF (by simp);have e3:decide ((0:Int) <= (q.length:Int)) = true:=by simp
   rw [e0,e3];simp only [cond_true,e1,zA,VV (show 0 <= y.hi + 1 by omega) (by omega)];rw [Jl]
   by_cases hc:x.lo <= y.hi + 1
   ·simp only [hc,decide_true,cond_true,if_true,Int.toNat_natCast];have:(q ++ [y]).set q.length (⟨y.lo,max y.hi x.hi⟩:RN) = q ++ [⟨y.lo,max y.hi x.hi⟩]:=by simp
    rw [this]
    rfl
   ·simp only [hc,decide_false,cond_false,if_false];rw [zD (by simp only [List.length_append,List.length_singleton] at v2 ⊢;omega)]
    rfl) (fun t _=>by
  unfold uP;have e:decide ((s.length:Int) < ((l.filter Xb).length:Int)) = false:=by simp;omega
  simp only [e,cond_false,zA]) [] (by simp)
 show (M.bind (M.loop (uP (l.filter Xb) s) (0,[])) fun out38=>M.pure out38).wp (· = nrm l);rw [show ((0:Int),([]:List RN)) = (((0:Nat):Int),[]) from rfl,h2];obtain ⟨i1,i2,_⟩:=Jm s [] trivial hmay hp (by simp);exact nrm_of i1 fun n=>by rw [i2,u8a hs,x0a];simp
def Wt (nums:List Int):List RN:=nums.map fun n=>⟨n,n⟩
def ZFa (x y:Int):Int:=if x < y then -1 else if y < x then 1 else 0
theorem ZGa (x y:Int):yn x y = pure (ZFa x y):=by
 unfold yn wq ZFa;simp only [decide_true,Bool.not_true,zB,zA,cond_false,yb]
 split
 ·rfl
 ·split <;> rfl
theorem ZHa (x:RN) (n:Int):ZM x n = pure (ZFa x.hi n):=by
 unfold ZM;rw [ZGa,zB,zA]
def zba : List RN -> Int -> Nat
 | [],_=>0
 | x :: r,n=>if x.hi < n then zba r n + 1 else 0
theorem yqa : ∀ {v:List RN} {n:Int} {c:Nat},c <= v.length -> (∀ (k:Nat) (x:RN),k < c -> v[k]? = some x -> x.hi < n) -> (∀ (k:Nat) (x:RN),c <= k -> v[k]? = some x -> n <= x.hi) -> c = zba v n
 | [],n,c,h,_,_=>by simp at h;simp [zba,h]
 | x :: r,n,0,_,_,h2=>by
  have:=h2 0 x (by omega) rfl;simp only [zba];rw [if_neg (by omega)]
 | x :: r,n,c + 1,h,h1,h2=>by
  have:=h1 0 x (by omega) rfl;simp only [zba];rw [if_pos this,<- yqa (v:=r) (n:=n) (c:=c) (by simpa using h) (fun k y hk hy=>h1 (k + 1) y (by omega) (by simpa using hy)) (fun k y hk hy=>h2 (k + 1) y (by omega) (by simpa using hy))]
theorem ZIa {v:List RN} (h:Nf v):∀ {i j:Nat} {x y:RN},i < j -> v[i]? = some x -> v[j]? = some y -> x.hi < y.hi:=by
 induction v with
 | nil=>intro i j x y _ hx;simp at hx
 | cons z r ih=>
  intro i j x y hij hx hy
  cases j with
  | zero=>omega
  | succ j=>
   have hyr:r[j]? = some y:=by simpa using hy
   have hym:=List.mem_of_getElem? hyr
   cases i with
   | zero=>
    simp at hx;subst hx;have:=h.2.1 y hym;have:=zg.1 (h.2.2.may y hym);omega
   | succ i=>exact ih h.2.2 (show i < j by omega) (by simpa using hx) hyr
theorem bs_loop (v:List RN) (n:Int) (hv:Nf v) (hl:v.length <= 1000000000000):loop (zU v n) (0,(v.length:Int)) = pure (zba v n:Int):=by
 refine ZJ (wWa (fun s=>∃ i j:Nat,s = ((i:Int),(j:Int)) /\ i <= j /\ j <= v.length /\ (∀ (k:Nat) (x:RN),k < i -> v[k]? = some x -> x.hi < n) /\ (∀ (k:Nat) (x:RN),j <= k -> v[k]? = some x -> n <= x.hi)) (fun s=>(s.2 - s.1).toNat) ?_ _ ⟨0,v.length,rfl,Nat.zero_le _,Nat.le_refl _,fun k x hk=>absurd hk (Nat.not_lt_zero _),fun k x hk hx=>absurd (List.getElem?_eq_some_iff.1 hx).1 (Nat.not_lt.2 hk)⟩);rintro _ ⟨i,j,rfl,hij,hj,h1,h2⟩;unfold zU;simp only [yb]
 by_cases hc:(i:Int) < j
 ·rw [if_pos hc];have e:IntKind.i64.wrap (Int.fdiv (IntKind.u64.wrap (IntKind.i64.wrap ((i:Int) + j))) (2 ^ 1)) = (((i + j) / 2:Nat):Int):=by
   rw [Xi (n:=(i:Int) + j) (by omega) (by omega),VV (by omega) (by omega),Int.fdiv_eq_ediv_of_nonneg _ (by decide)];have:((i:Int) + j) / 2 ^ 1 = (((i + j) / 2:Nat):Int):=by omega
   rw [this,Xi (by omega) (by omega)]
  have hm:(i + j) / 2 < v.length:=by omega
  rw [e];simp only [zF (List.getElem?_eq_getElem hm),zA,ZHa,zB,zo (show (i + j) / 2 < 9223372036854775807 by omega)]
  by_cases hlt:v[(i + j) / 2].hi < n
  ·have:ZFa v[(i + j) / 2].hi n < 0:=by unfold ZFa;rw [if_pos hlt];decide
   rw [if_pos this];refine ⟨⟨(i + j) / 2 + 1,j,rfl,by omega,hj,fun k x hk hx=>?_,h2⟩,?_⟩
   ·by_cases e:k = (i + j) / 2
    ·subst e;rw [List.getElem?_eq_getElem hm] at hx;cases hx;exact hlt
    ·have:=ZIa hv (show k < (i + j) / 2 by omega) hx (List.getElem?_eq_getElem hm);omega
   ·simp only;omega
  ·have:¬ ZFa v[(i + j) / 2].hi n < 0:=by unfold ZFa;rw [if_neg hlt];split <;> decide
   rw [if_neg this];refine ⟨⟨i,(i + j) / 2,rfl,by omega,by omega,h1,fun k x hk hx=>?_⟩,?_⟩
   ·by_cases e:k = (i + j) / 2
    ·subst e;rw [List.getElem?_eq_getElem hm] at hx;cases hx;omega
    ·have:=ZIa hv (show (i + j) / 2 < k by omega) (List.getElem?_eq_getElem hm) hx;omega
   ·simp only;omega
 ·rw [if_neg hc];have hij':i = j:=by omega
  subst hij';show (i:Int) = (zba v n:Int)
  rw [<- yqa hj h1 h2]
def hitB (v:List RN) (n:Int):Bool:=match v[zba v n]? with | some x=>decide (ZFa x.hi n = 0) | none=>false
theorem bs_eq (v:List RN) (n:Int) (hv:Nf v) (hl:v.length <= 1000000000000):zN v n = pure ((zba v n:Int),hitB v n):=by
 unfold zN hitB;rw [bs_loop v n hv hl,zA]
 by_cases hc:zba v n < v.length
 ·have:decide ((zba v n:Int) < (v.length:Int)) = true:=by simpa using hc
  rw [this,cond_true,zF (List.getElem?_eq_getElem hc)];simp only [zA,ZHa,zB,List.getElem?_eq_getElem hc]
 ·have:decide ((zba v n:Int) < (v.length:Int)) = false:=by simpa using hc
  rw [this,cond_false,zA,List.getElem?_eq_none (by omega)]
theorem wpa : ∀ {v:List RN} (n:Int),Nf v -> yS v n = (match v[zba v n]? with | some x=>decide (x.lo <= n) | none=>false)
 | [],n,_=>rfl
 | x :: r,n,h=>by
  by_cases hc:x.hi < n
  ·simp only [zba,if_pos hc,List.getElem?_cons_succ];rw [<- wpa n h.2.2,xw];have:inR n x = false:=by
    rw [Bool.eq_false_iff];intro h;have:=(yj.1 h).2.2;omega
   rw [this,Bool.false_or]
  ·simp only [zba,if_neg hc,List.getElem?_cons_zero];rw [Bool.eq_iff_iff,decide_eq_true_eq]
   constructor
   ·exact zVa h
   ·intro hle;exact (x1a h hle).2 (.inl (by omega))
theorem has_eq (l:List RN) (n:Int) (h:l.length <= 100000000000):jX l n = pure (yS l n):=by
 unfold jX;have hl:=Zb l;rw [Uu l (by omega),zB,zA,bs_eq _ n (Xc l) (by omega),zB,zA,<- vd l n,wpa n (Xc l)]
 generalize nrm l = v
 by_cases hc:zba v n < v.length
 ·have:decide ((zba v n:Int) < (v.length:Int)) = true:=by simpa using hc
  simp only [this,cond_true,zF (List.getElem?_eq_getElem hc),zA,List.getElem?_eq_getElem hc]
 ·have:decide ((zba v n:Int) < (v.length:Int)) = false:=by simpa using hc
  simp only [this,cond_false,zA,List.getElem?_eq_none (show v.length <= zba v n by omega)]

theorem ZJa (A B:List RN) (hA:Nf A) (hB:Nf B) (hl:A.length + B.length <= 1000000000000):(loop Zv (A,B,[])).wp fun r=>Nf r /\ ∀ n,yS r n = (yS A n && yS B n):=by
 refine wWa (fun s:List RN × List RN × List RN=>Nf s.1 /\ Nf s.2.1 /\ Nf s.2.2 /\ (∀ y ∈ s.2.2,∀ x ∈ s.1,∀ z ∈ s.2.1,y.hi + 1 < max x.lo z.lo) /\ (∀ n,(yS s.2.2 n || (yS s.1 n && yS s.2.1 n)) = (yS A n && yS B n)) /\ s.2.2.length + s.1.length + s.2.1.length <= A.length + B.length) (fun s=>s.1.length + s.2.1.length) ?_ (A,B,[]) ⟨hA,hB,(trivial:Nf []),by simp,by simp,by simp⟩;rintro ⟨a,b,out⟩ ⟨h1,h2,h3,h4,h5,h6⟩;simp only at h1 h2 h3 h4 h5 h6;unfold Zv
 cases a with
 | nil=>exact ⟨h3,fun n=>by rw [<- h5];simp⟩
 | cons x r=>
  cases b with
  | nil=>
   have e1:decide ((0:Int) < ((x :: r).length:Int)) = true:=by simp only [List.length_cons,decide_eq_true_eq];omega
   simp only [e1,cond_true];exact ⟨h3,fun n=>by rw [<- h5];simp⟩
  | cons z q=>
   have hx:=zg.1 h1.1;have hz:=zg.1 h2.1;have e1:decide ((0:Int) < ((x :: r).length:Int)) = true:=by simp only [List.length_cons,decide_eq_true_eq];omega
   have e2:decide ((0:Int) < ((z :: q).length:Int)) = true:=by simp only [List.length_cons,decide_eq_true_eq];omega
   simp only [e1,e2,cond_true,zA,YM (l:=x :: r) (i:=0) (y:=x) (by omega) rfl,YM (l:=z :: q) (i:=0) (y:=z) (by omega) rfl]
   -- the new list
   have hout:∃ out',(cond (decide (max x.lo z.lo <= min x.hi z.hi)) (M.yW ((out.length + List.length [(⟨max x.lo z.lo,min x.hi z.hi⟩:RN)]) * 16 <= 140737488355328) (M.pure (out ++ [⟨max x.lo z.lo,min x.hi z.hi⟩]))) (M.pure out)) = M.pure out' /\ Nf out' /\ (∀ n,yS out' n = (yS out n || (inR n x && inR n z))) /\ (∀ y ∈ out',y ∈ out \/ y.hi = min x.hi z.hi) /\ out'.length <= out.length + 1:=by
    by_cases hc:max x.lo z.lo <= min x.hi z.hi
    ·refine ⟨out ++ [⟨max x.lo z.lo,min x.hi z.hi⟩],?_,XN.2 ⟨h3,zg.2 ⟨by simp only;omega,hc,by simp only;omega⟩,fun y hy=>h4 y hy x (by simp) z (by simp)⟩,fun n=>?_,fun y hy=>?_,by simp⟩
     ·rw [decide_eq_true hc,cond_true,zD];simp at h6 ⊢;omega
     ·rw [ux,vc]
      congr 1
      rw [Bool.eq_iff_iff,Bool.and_eq_true,yj,yj,yj];simp only;omega
     ·rcases List.mem_append.1 hy with hy | hy
      ·exact .inl hy
      ·simp at hy;subst hy;exact .inr rfl
    ·refine ⟨out,by rw [decide_eq_false hc];rfl,h3,fun n=>?_,fun y hy=>.inl hy,by omega⟩;have:(inR n x && inR n z) = false:=by
      rw [Bool.eq_false_iff];intro h;rw [Bool.and_eq_true,yj,yj] at h;omega
     rw [this,Bool.or_false]
   obtain ⟨out',o1,o2,o3,o4,o5⟩:=hout;have hh:∀ n,yS out' n = (yS out n || (inR n x && inR n z)):=o3;rw [o1];simp only [zA,yb]
   by_cases hc:x.hi < z.hi
   ·rw [if_pos hc,zD ⟨by omega,by simp only [List.length_cons];omega,by omega⟩];have ed:List.drop (Int.toNat 1) (List.take (Int.toNat ((x :: r).length:Int)) (x :: r)) = r:=by simp
    rw [ed];refine ⟨⟨h1.2.2,h2,o2,fun y hy x' hx' z' hz'=>?_,fun n=>?_,by simp at h6 ⊢;omega⟩,by simp only [List.length_cons];omega⟩
    ·rcases o4 y hy with hy | hy
     ·have:=h4 y hy x' (List.mem_cons_of_mem _ hx') z' hz';omega
     ·have:=h1.2.1 x' hx';omega
    ·simp only;rw [hh,<- h5,xw x,xw z,Bool.or_assoc]
     congr 1
     have hxq:(inR n x && yS q n) = false:=by
      rw [Bool.eq_false_iff];intro h;rw [Bool.and_eq_true,yj] at h;have:=Ji h2 h.2;omega
     cases hv1:inR n x <;> cases hv2:inR n z <;> cases hv3:yS r n <;> cases hv4:yS q n <;> simp_all
   ·rw [if_neg hc,zD ⟨by omega,by simp only [List.length_cons];omega,by omega⟩];have ed:List.drop (Int.toNat 1) (List.take (Int.toNat ((z :: q).length:Int)) (z :: q)) = q:=by simp
    rw [ed];refine ⟨⟨h1,h2.2.2,o2,fun y hy x' hx' z' hz'=>?_,fun n=>?_,by simp at h6 ⊢;omega⟩,by simp only [List.length_cons];omega⟩
    ·rcases o4 y hy with hy | hy
     ·have:=h4 y hy x' hx' z' (List.mem_cons_of_mem _ hz');omega
     ·have:=h2.2.1 z' hz';omega
    ·simp only;rw [hh,<- h5,xw x,xw z,Bool.or_assoc]
     congr 1
     have hxq:(inR n z && yS r n) = false:=by
      rw [Bool.eq_false_iff];intro h;rw [Bool.and_eq_true,yj] at h;have:=Ji h1 h.2;omega
     cases hv1:inR n x <;> cases hv2:inR n z <;> cases hv3:yS r n <;> cases hv4:yS q n <;> simp_all
theorem meetN_eq (a b:List RN) (ha:a.length <= 100000000000) (hb:b.length <= 100000000000):Vl a b = pure (YH (· && ·) a b):=by
 unfold Vl;have la:=Zb a;have lb:=Zb b;rw [Uu a (by omega),zB,zA,Uu b (by omega),zB,zA];refine ZJ ((loop Zv (nrm a,nrm b,[])).mono (fun r ⟨h1,h2⟩=>?_) (ZJa (nrm a) (nrm b) (Xc a) (Xc b) (by omega)));obtain ⟨s1,s2,_⟩:=zp (· && ·) rfl a b;exact UG h1 s1 fun n=>by rw [h2,s2,vd,vd]

def qi : Int -> List RN -> List RN
 | at_,[]=>[⟨at_,281474976710655⟩]
 | at_,x :: r=>⟨at_,x.lo - 1⟩ :: qi (x.hi + 1) r
theorem ZKa (l:List RN) (p:Int):(qi p l).length = l.length + 1:=by
 induction l generalizing p with
 | nil=>rfl
 | cons x r ih=>simp [qi,ih]
theorem yra : ∀ (l:List RN) (p:Int),Nf l -> 1 <= p -> (∀ x ∈ l,p <= x.lo) -> ∀ n,yS (qi p l) n = true ↔ p <= n /\ n <= 281474976710655 /\ yS l n = false
 | [],p,_,hp,_,n=>by
  rw [qi,vc,yj];simp only [zTa,and_true];omega
 | x :: r,p,h,hp,hlo,n=>by
  have hx:=zg.1 h.1;have:=hlo x (by simp);rw [qi,xw,Bool.or_eq_true,yra r (x.hi + 1) h.2.2 (by omega) (fun y hy=>by have:=h.2.1 y hy;omega) n,yj];simp only;have hr:yS (x :: r) n = false ↔ (n < x.lo \/ x.hi < n) /\ yS r n = false:=by
   rw [xw,Bool.or_eq_false_iff];refine and_congr_left fun _=>?_
   rw [Bool.eq_false_iff,ne_eq,yj];omega
  rw [hr];have hrl:n < x.lo -> yS r n = false:=fun hn=>by
   rw [Bool.eq_false_iff];intro h2;have:=Ji h h2;omega
  constructor
  ·rintro (h2 | h2)
   ·exact ⟨h2.2.1,by omega,.inl (by omega),hrl (by omega)⟩
   ·exact ⟨by omega,h2.2.1,.inr (by omega),h2.2.2⟩
  ·rintro ⟨h2,h3,h4,h5⟩;rcases h4 with h4 | h4
   ·left;omega
   ·right;exact ⟨by omega,h3,h5⟩
theorem rest_eq (l:List RN) (h:l.length <= 100000000000):Vm l = pure (qi 1 (nrm l)):=by
 unfold Vm;have hl:=Zb l;have hn:=Xc l;rw [Uu l (by omega),zB,zA]
 generalize nrm l = v at hl hn
 have h1:=uu (body:=Zw v) v (fun i (t:Int × List RN)=>(t.1,(i:Int),t.2)) (fun t x=>(x.hi + 1,t.2 ++ [⟨t.1,x.lo - 1⟩])) (fun t=>pure t) (fun i t=>t.2.length = i) (fun i x t hx hi hI=>by
  have h1:decide ((i:Int) < (v.length:Int)) = true:=by simpa using hi
  have hm:=zg.1 (hn.may x (List.mem_of_getElem? hx));refine ⟨?_,by simp [hI]⟩;unfold Zw;simp only [h1,cond_true,zF hx,zA,zo (show i < 9223372036854775807 by omega),VV (show 0 <= x.lo - 1 by omega) (by omega),VV (show 0 <= x.hi + 1 by omega) (by omega)];rw [zD (by simp;omega)]) (fun t _=>by unfold Zw;simp [zA]) (1,[]) rfl
 rw [show ((1:Int),(0:Int),([]:List RN)) = (1,((0:Nat):Int),[]) from rfl,h1];simp only [zA];have hf:∀ (l:List RN) (t:Int × List RN),(l.foldl (fun (t:Int × List RN) x=>(x.hi + 1,t.2 ++ [(⟨t.1,x.lo - 1⟩:RN)])) t).2 ++ [⟨(l.foldl (fun (t:Int × List RN) x=>(x.hi + 1,t.2 ++ [(⟨t.1,x.lo - 1⟩:RN)])) t).1,281474976710655⟩] = t.2 ++ qi t.1 l /\ (l.foldl (fun (t:Int × List RN) x=>(x.hi + 1,t.2 ++ [(⟨t.1,x.lo - 1⟩:RN)])) t).2.length = t.2.length + l.length:=by
  intro l
  induction l with
  | nil=>intro t;exact ⟨rfl,by simp⟩
  | cons x r ih=>
   intro t;rw [List.foldl_cons];obtain ⟨i1,i2⟩:=ih (x.hi + 1,t.2 ++ [⟨t.1,x.lo - 1⟩]);exact ⟨by rw [i1];simp [qi],by rw [i2];simp;omega⟩
 obtain ⟨f1,f2⟩:=hf v (1,[])
 generalize v.foldl (fun (t:Int × List RN) x=>(x.hi + 1,t.2 ++ [(⟨t.1,x.lo - 1⟩:RN)])) (1,[]) = t at f1 f2
 obtain ⟨p,out⟩:=t;simp only [List.length_nil] at f1 f2 ⊢;rw [zD (by simp;omega),f1]
 rfl
theorem minus_eq (a b:List RN) (ha:a.length <= 10000000000) (hb:b.length <= 10000000000):YQ a b = pure (YH (fun x y=>x && !y) a b):=by
 unfold YQ;have lb:=Zb b;have lr:=ZKa (nrm b) 1;rw [rest_eq b (by omega),zB,zA,meetN_eq a _ (by omega) (by omega),zB,zA];refine congrArg pure ?_;obtain ⟨s1,s2,_⟩:=zp (· && ·) rfl a (qi 1 (nrm b));obtain ⟨t1,t2,_⟩:=zp (fun x y=>x && !y) rfl a b;refine UG s1 t1 fun n=>?_
 rw [s2,t2,<- vd b]
 cases hh:yS a n with
 | false=>rfl
 | true=>
  have:=QI hh;rw [Bool.true_and,Bool.true_and,Bool.eq_iff_iff,yra (nrm b) 1 (Xc b) (by omega) (fun x hx=>(zg.1 ((Xc b).may x hx)).1) n];simp only [Bool.not_eq_true'];exact ⟨fun h=>h.2.2,fun h=>⟨this.1,this.2,h⟩⟩

theorem UI (l:List Int):(Wt l).length = l.length:=by simp [Wt]
end Go.Ep.M.R


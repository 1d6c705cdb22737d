/- Side texts. -/
import Derived.Test.YtoilkhcaggjlmaaGreatADs2
import Derived.Test.YtoilkhcaggjlmaaGreatADs3
import Derived.Test.YtoilkhcaggjlmaaGreatADs4
import Derived.Test.YtoilkhcaggjlmaaGreatADs5
import Derived.Test.YtoilkhcaggjlmaaGreatADs6
set_option linter.unusedVariables false
set_option linter.unusedSimpArgs false
namespace Go.Proofs
open Go.Ep Tryz
set_option maxHeartbeats 1000000
set_option maxRecDepth 100000
set_option linter.unusedVariables false
set_option linter.unusedSimpArgs false
theorem Zl(l1:List RN)(r0:List RN)(h:(wq l1).wp (·=r0)):PRow prog 81 [.d (.sl (List.map RN.e l1))] 80 2 (List.map RN.e r0):=by
 refine PRow.intro (sl:=[(0,_)]) func81 rfl ntmps81 rfl rfl ?_;intro ctx hK;refine wQ<|wR<|ws (aR 80 2 rfl)<|wN<|wQ<|wR<|ws (aR 80 2 rfl)<|wN<|wQ ?_;refine wQ<|wR<|wm ?_;refine ws (lM (enc:=RN.e) (L:=l1) underlying54 rfl)<|wm ?_;refine wN ?_;refine wJ (zH h) (fun(some2:List RN) (_:Unit)=>⟨78,[(3,.row 3 (some2.length))],[(3,.row 80 2 (List.map RN.e some2))]⟩) (fun h=>?_) ?_
 ·refine wB<|wM (fun(⟨v23,some24⟩:Int×List RN) (_:Unit)=>⟨78,[(3,.row 3 (some24.length)),(10,.d (.sl (List.map RN.e l1))),(11,.d (.v (.int .i64 (l1.length:Int)))),(12,.d (.v (.int .i64 v23)))],[(3,.row 80 2 (List.map RN.e some24))]⟩) () h (sP) ?_;rintro N ⟨v23,some24⟩ _ h;refine wQ<|wR<|ws (LR.lss rfl rfl)<|wN<|wQ ?_;refine xD h rfl (fun _ h=>?_) (fun _ h=>?_)
  ·refine wK<|wQ ?_;refine wJ (zH h) (fun(some26:List RN) (_:Unit)=>⟨78,[(3,.row 3 (some26.length)),(10,.d (.sl (List.map RN.e l1))),(11,.d (.v (.int .i64 (l1.length:Int)))),(12,.d (.v (.int .i64 v23)))],[(3,.row 80 2 (List.map RN.e some26))]⟩) (fun h=>?_) ?_
   ·refine wB<|wQ<|wR ?_;obtain⟨x27,hy28,h⟩:=yK h;refine ws (iX (enc:=RN.e) (L:=l1) (y:=x27) underlying54 sizeOf80 rfl rfl hy28 (fun _=>rfl))<|ws (lE (ys:=[_,_]) isAgg80 sizeOf80 rfl rfl rfl)<|ws (LR.allocZ (cs:=[_,_]) zeroValue80 rfl rfl rfl rfl)<|ws (sB (ns:=[_,_]) sizeOf80 rfl rfl rfl rfl rfl rfl rfl)<|wN<|wQ ?_;refine wJ (zH h) (fun(v29:Bool) (_:Unit)=>⟨78,[(3,.row 3 (some24.length)),(5,.ref 5 0),(10,.d (.sl (List.map RN.e l1))),(11,.d (.v (.int .i64 (l1.length:Int)))),(12,.d (.v (.int .i64 v23))),(30,.d (.v (.bool v29)))],[(3,.row 80 2 (List.map RN.e some24)),(5,.cells 80 [.d (.v (.int .u64 x27.lo)),.d (.v (.int .u64 x27.hi))])]⟩) (fun h=>?_) ?_
    ·refine wR<|ws (fR underlying80 rfl sizeOf23 (by decide) rfl rfl)<|ws (lD isAgg23 rfl rfl rfl)<|ws (LR.gtr rfl rfl)<|wm ?_;refine xG (d:=19) h rfl (fun _ h=>?_) (fun _ h=>?_)
     ·refine wt (fR underlying80 rfl sizeOf23 (by decide) rfl rfl)<|wt (lD isAgg23 rfl rfl rfl)<|wt (fR underlying80 rfl sizeOf23 (by decide) rfl rfl)<|wt (lD isAgg23 rfl rfl rfl)<|wt (LR.leq rfl rfl)<|ws (pT rfl rfl)<|wm ?_;refine xG (d:=26) h rfl (fun _ h=>?_) (fun _ h=>?_)
      ·refine wy (tl:=[(3,_),(5,_),(10,_),(11,_),(12,_),(20,_),(21,_),(22,_),(23,_),(24,_),(26,_)]) (to:=[(3,_),(5,_)]) ?_;refine wt (fR underlying80 rfl sizeOf23 (by decide) rfl rfl)<|wt (lD isAgg23 rfl rfl rfl)<|wt (LR.leq rfl rfl)<|ws (pT rfl rfl)<|wN ?_;exact⟨(decide (x27.hi<=281474976710655)),(),h,sP⟩
      ·refine wy (tl:=[(3,_),(5,_),(10,_),(11,_),(12,_),(20,_),(21,_),(22,_),(23,_),(24,_),(26,_)]) (to:=[(3,_),(5,_)]) ?_;refine wf<|wf<|wf<|ws (pF rfl rfl)<|wN ?_;exact⟨false,(),h,sP⟩
     ·refine wf<|wf<|wf<|wf<|wf<|ws (pF rfl rfl)<|wm ?_;refine wf<|wy (tl:=[(3,_),(5,_),(10,_),(11,_),(12,_),(20,_),(21,_),(22,_),(23,_),(24,_),(26,_),(27,_)]) (to:=[(3,_),(5,_)]) ?_;refine wf<|wf<|ws (pF rfl rfl)<|wN ?_;exact⟨false,(),h,sP⟩
    ·rintro v29 _ h;refine xD h rfl (fun _ h=>?_) (fun _ h=>?_)
     ·refine wR<|wm ?_;refine ws (lA (ps:=[_,_]) isAgg80 sizeOf80 rfl rfl rfl rfl)<|ws (LR.buildSliceD [.tmp 32] vO rfl rfl (.cons rfl rfl rfl<|.nil) (by decide) (by decide)) ?_;obtain⟨hy33,h⟩:=zp h;refine ws (LR.appT (enc:=RN.e) (L:=some24) (R:=[x27]) [3,31] vO underlying54 rfl rfl rfl (Src.slT (enc:=RN.e) (R:=[x27]) rfl (fun _=>rfl)) (fun _=>rfl) hy33 rfl rfl)<|wa ?_;refine wN ?_;exact⟨(some24++[x27]),(),h,sP⟩
     ·refine wK ?_;exact⟨some24,(),h,sP⟩
   ·rintro some26 _ h;refine wR<|ws (LR.addW rfl rfl)<|wm ?_;refine wN ?_;exact⟨((IntKind.i64.wrap (v23+1)),some26),(),h,sP⟩
  ·refine wZ ?_;exact⟨some24,(),h,sP⟩
 ·rintro some2 _ h;refine wQ<|wR<|wm ?_;obtain⟨hy35,h⟩:=zp h;refine PWl.sortFn (encD:=RN.e) (enc:=RN.v) (l:=some2) zaa (fun _=>rfl) RN.v1 (fun _=>rfl) rfl call102 rfl rfl rfl (by simp) hy35 rfl (fun s34 hy36 hy37=>?_);replace h:=iSrt h s34 hy36 hy37;have hy36l:=hy36.length_eq;refine wN<|wQ<|wR<|ws (aR 80 2 rfl)<|wN<|wQ<|wQ<|wR<|wm ?_;refine ws (LR.lenRow underlying54 rfl)<|wm ?_;refine wN ?_;refine wJ (zH h) (fun(out38:List RN) (_:Unit)=>⟨78,[(6,.row 6 (out38.length))],[(6,.row 80 2 (List.map RN.e out38))]⟩) (fun h=>?_) ?_
  ·refine wB ?_;refine wM (fun(⟨v69,out70⟩:Int×List RN) (_:Unit)=>⟨78,[(6,.row 6 (out70.length)),(38,.row 3 (some2.length)),(39,.d (.v (.int .i64 (some2.length:Int)))),(40,.d (.v (.int .i64 v69)))],[(3,.row 80 2 (List.map RN.e s34)),(6,.row 80 2 (List.map RN.e out70))]⟩) () h (sO rfl (.cons rfl rfl<|.cons rfl (by first | rfl | (simp;done) | (congr 1;first | (simp;done) | (simp;omega) | omega))<|.c2 rfl rfl rfl rfl<|.nil) (.c2 rfl rfl rfl rfl<|.nil)) ?_;rintro N ⟨v69,out70⟩ _ h;refine wQ<|wR<|ws (LR.lss rfl rfl)<|wN<|wQ ?_;refine xD h rfl (fun _ h=>?_) (fun _ h=>?_)
   ·refine wK<|wQ ?_;refine wJ (zH h) (fun(out72:List RN) (_:Unit)=>⟨78,[(6,.row 6 (out72.length)),(38,.row 3 (some2.length)),(39,.d (.v (.int .i64 (some2.length:Int)))),(40,.d (.v (.int .i64 v69)))],[(3,.row 80 2 (List.map RN.e s34)),(6,.row 80 2 (List.map RN.e out72))]⟩) (fun h=>?_) ?_
    ·refine wB<|wQ<|wR ?_;obtain⟨x73,hy74,h⟩:=yK h;refine ws (LR.idxRowT (L:=s34) (y:=x73) underlying54 sizeOf80 rfl (by first | (simp;done) | (simp;omega) | omega) rfl hy74) ?_;refine ws (LR.loadRpT (enc:=RN.e) (L:=s34) (y:=x73) isAgg80 sizeOf80 rfl rfl hy74.2)<|ws (LR.allocZ (cs:=[_,_]) zeroValue80 rfl rfl rfl rfl)<|ws (sB (ns:=[_,_]) sizeOf80 rfl rfl rfl rfl rfl rfl rfl)<|wN<|wQ<|wQ<|wR<|wm ?_;refine ws (LR.lenRow underlying54 rfl)<|ws (LR.subW rfl rfl)<|wa ?_;refine wN<|wQ ?_;refine wJ (zH h) (fun(v75:Bool) (_:Unit)=>⟨78,[(6,.row 6 (out70.length)),(8,.ref 8 0),(9,.d (.v (.int .i64 ((IntKind.i64.wrap ((out70.length:Int) - 1)))))),(38,.row 3 (some2.length)),(39,.d (.v (.int .i64 (some2.length:Int)))),(40,.d (.v (.int .i64 v69))),(59,.d (.v (.bool v75)))],[(3,.row 80 2 (List.map RN.e s34)),(6,.row 80 2 (List.map RN.e out70)),(8,.cells 80 [.d (.v (.int .u64 x73.lo)),.d (.v (.int .u64 x73.hi))])]⟩) (fun h=>?_) ?_
     ·refine wD (by kernel_rfl) (by kernel_rfl)<|qm ?_;refine qs (fun _ U W=>LR.geq U U)<|qm ?_;refine xQ (d:=49) h rfl (fun _ h=>?_) (fun _ h=>?_)
      ·refine qt (fun _ U W=>fR underlying80 rfl sizeOf23 (by decide) rfl U) ?_;refine qt (fun _ U W=>lD isAgg23 U (W rfl) rfl) ?_;refine qt (fun _ U W=>mV U) ?_;refine qt (fun _ U W=>mV U) ?_;obtain⟨x77,hy78,h⟩:=yK h;refine qt (fun _ U W=>LR.idxRowT (L:=out70) (y:=x77) underlying54 sizeOf80 U rfl U hy78) ?_;refine qt (fun _ U W=>LR.fieldRp underlying80 rfl sizeOf23 (by decide) rfl U) ?_;refine qt (fun _ U W=>LR.loadRpF (enc:=RN.e) (L:=out70) (y:=x77) isAgg23 U (W rfl) hy78.2 rfl) ?_;refine qt (fun _ U W=>LR.addW U U) ?_;refine qt (fun _ U W=>LR.leq U U) ?_;refine qs (fun _ U W=>pT U U)<|qN ?_;exact⟨(decide (x73.lo<=(IntKind.u64.wrap (x77.hi+1)))),(),h,sO rfl (.c2 rfl rfl rfl rfl<|.cons rfl rfl<|.cons rfl (by first | rfl | (simp;done) | (congr 1;first | (simp;done) | (simp;omega) | omega))<|.c2 rfl rfl rfl rfl<|.cons rfl rfl<|.nil) (.c2 rfl rfl rfl rfl<|.cons rfl rfl<|.nil)⟩
      ·refine kF<|kF<|kF<|kF<|kF<|kF<|kF<|kF<|kF ?_;refine qs (fun _ U W=>pF U U)<|qN ?_;exact⟨false,(),h,sO rfl (.c2 rfl rfl rfl rfl<|.cons rfl rfl<|.cons rfl (by first | rfl | (simp;done) | (congr 1;first | (simp;done) | (simp;omega) | omega))<|.c2 rfl rfl rfl rfl<|.cons rfl rfl<|.nil) (.c2 rfl rfl rfl rfl<|.cons rfl rfl<|.nil)⟩
     ·rintro v75 _ h;refine xD h rfl (fun _ h=>?_) (fun _ h=>?_)
      ·refine wQ<|wz (tl:=[(6,_),(8,_),(9,_),(38,_),(39,_),(40,_)]) (to:=[(3,_),(6,_),(8,_)]) ?_;refine PWc.regionE [⟨[60],[],[],[],[],[6],[],[]⟩,{ws:=[61]},⟨[62],[],[],[],[],[6],[],[]⟩,{ws:=[63]},⟨[64],[],[],[],[],[6],[],[]⟩,⟨[65],[],[],[],[],[6],[],[]⟩,⟨[66],[],[6],[],[],[],[],[]⟩,⟨[67],[],[],[],[],[8],[],[]⟩,⟨[68],[],[8],[],[],[],[],[]⟩,{ws:=[69]},⟨[70],[],[],[],[],[6],[],[]⟩,⟨[71],[],[],[],[],[6],[],[]⟩,⟨[],[6],[6],[],[],[],[],[]⟩] (by kernel_rfl) (by kernel_rfl) rfl<|km ?_;refine km ?_;refine km ?_;refine km ?_;obtain⟨x80,hy81,h⟩:=yK h;refine kp (fun _ U W=>LR.idxRowT (L:=out70) (y:=x80) underlying54 sizeOf80 U rfl U hy81) ?_;refine kp (fun _ U W=>LR.fieldRp underlying80 rfl sizeOf23 (by decide) rfl U) ?_;refine kp (fun _ U W=>LR.loadRpF (enc:=RN.e) (L:=out70) (y:=x80) isAgg23 U (W rfl rfl) hy81.2 rfl) ?_;refine kp (fun _ U W=>fR underlying80 rfl sizeOf23 (by decide) rfl U) ?_;refine kp (fun _ U W=>lD isAgg23 U (W rfl rfl) rfl) ?_;refine kp (fun _ U W=>LR.maxI U U) ?_;obtain⟨x82,hy83,h⟩:=yK h;refine kp (fun _ U W=>LR.idxRowT (L:=out70) (y:=x82) underlying54 sizeOf80 U rfl U hy83) ?_;refine kp (fun _ U W=>LR.fieldRp underlying80 rfl sizeOf23 (by decide) rfl U) ?_;refine ks (fun _ U W=>LR.storeRpT (enc:=RN.e) (L:=out70) (a:=x82) (b:=(⟨x82.lo,(max x80.hi x73.hi)⟩:RN)) sizeOf23 U U rfl rfl (W rfl rfl) hy83.2 rfl rfl)<|PQe.nil<|wZ ?_;exact⟨(List.set out70 ((Int.toNat ((IntKind.i64.wrap ((out70.length:Int) - 1))))) (⟨x82.lo,(max x80.hi x73.hi)⟩:RN)),(),h,sO rfl (.cons rfl (by first | rfl | (simp;done) | (congr 1;first | (simp;done) | (simp;omega) | omega))<|.cons rfl (by first | rfl | (simp;done) | (congr 1;first | (simp;done) | (simp;omega) | omega))<|.c2 rfl rfl rfl rfl<|.nil) (.c2 rfl rfl rfl rfl<|.nil)⟩
      ·refine wK<|wR<|wm ?_;refine ws (lA (ps:=[_,_]) isAgg80 sizeOf80 rfl rfl rfl rfl)<|ws (LR.buildSliceD [.tmp 73] vO rfl rfl (.cons rfl rfl rfl<|.nil) (by decide) (by decide)) ?_;obtain⟨hy84,h⟩:=zp h;refine ws (LR.appT (enc:=RN.e) (L:=out70) (R:=[x73]) [6,72] vO underlying54 rfl rfl rfl (Src.slT (enc:=RN.e) (R:=[x73]) rfl (fun _=>rfl)) (fun _=>rfl) hy84 rfl rfl)<|wa ?_;refine wN ?_;exact⟨(out70++[x73]),(),h,sO rfl (.cons rfl rfl<|.cons rfl (by first | rfl | (simp;done) | (congr 1;first | (simp;done) | (simp;omega) | omega))<|.c2 rfl rfl rfl rfl<|.nil) (.c2 rfl rfl rfl rfl<|.nil)⟩
    ·rintro out72 _ h;refine wR<|ws (LR.addW rfl rfl)<|wm ?_;refine wN ?_;exact⟨((IntKind.i64.wrap (v69+1)),out72),(),h,sO rfl (.cons rfl rfl<|.cons rfl (by first | rfl | (simp;done) | (congr 1;first | (simp;done) | (simp;omega) | omega))<|.c2 rfl rfl rfl rfl<|.nil) (.c2 rfl rfl rfl rfl<|.nil)⟩
   ·refine wZ ?_;exact⟨out70,(),h,sP⟩
  ·rintro out38 _ h;refine wQ<|wR<|wm ?_;refine wa ?_;refine wN<|wX ?_;cases h;exact⟨.inr rfl,2,rfl,.inr ⟨6,_,rfl,(by simp),rfl⟩⟩
theorem Yo(x1:RN)(n2:Int)(r0:Int)(h:(vo x1 n2).wp (·=r0)):PFun prog 83 [.agg (List.map .d (RN.e x1)),.d (.v (.int .u64 n2))] (.d (.v (.int .i64 r0))):=by
 refine fI (sl:=[(0,_),(1,_)]) func83 rfl ntmps83 rfl rfl ?_;intro ctx hK;refine wQ<|wR<|ws (LR.box rfl rfl rfl rfl)<|wa ?_;refine wN<|wQ<|wR<|ws (fR underlying80 rfl sizeOf23 (by decide) rfl rfl)<|ws (lD isAgg23 rfl rfl rfl)<|wm ?_;obtain⟨v3,hy4,h⟩:=za h;refine xN (vA x1.hi n2 v3 hy4) call84<|wa ?_;refine wN<|wX ?_;cases h;exact xT
theorem yG(x1:List RN)(target2:Int)(r0:Int×Bool)(h:(zL x1 target2).wp (·=r0)):PFun prog 82 [.d (.sl (List.map RN.e x1)),.d (.v (.int .u64 target2)),.d (.v (.func (.func 83) #[] #[]))] (.tup [.d (.v (.int .i64 r0.1)),.d (.v (.bool r0.2))]):=by
 refine fI (sl:=[(0,_),(1,_),(2,_)]) func82 rfl ntmps82 rfl rfl ?_;intro ctx hK;refine wQ<|wR<|wa ?_;refine wa ?_;refine wN<|wQ<|wR<|wm ?_;refine ws (lM (enc:=RN.e) (L:=x1) underlying54 rfl)<|wa ?_;refine wN<|wQ<|wR<|wm ?_;refine wa ?_;refine wa ?_;refine wN<|wQ ?_;refine wJ (zH h) (fun(i3:Int) (_:Unit)=>⟨49,[(0,.d (.sl (List.map RN.e x1))),(1,.d (.v (.int .u64 target2))),(2,.d (.v (.func (.func 83) #[] #[]))),(8,.d (.v (.int .i64 (x1.length:Int)))),(9,.d (.v (.int .i64 i3)))],[]⟩) (fun h=>?_) ?_
 ·refine wB<|wM (fun(⟨i18,j19⟩:Int×Int) (_:Unit)=>⟨49,[(0,.d (.sl (List.map RN.e x1))),(1,.d (.v (.int .u64 target2))),(2,.d (.v (.func (.func 83) #[] #[]))),(8,.d (.v (.int .i64 (x1.length:Int)))),(9,.d (.v (.int .i64 i18))),(10,.d (.v (.int .i64 j19)))],[]⟩) () h (sP) ?_;rintro N ⟨i18,j19⟩ _ h;refine wQ<|wQ<|wR<|wm ?_;refine wm ?_;refine ws (LR.lss rfl rfl)<|wN ?_;refine xD h rfl (fun _ h=>?_) (fun _ h=>?_)
  ·refine wK<|wB<|wQ<|wR<|wm ?_;refine wm ?_;refine ws (LR.addW rfl rfl) ?_;refine ws (LR.convInt underlying118 (by rw[underlying3];rfl) rfl rfl) ?_;refine ws (LR.shr rfl rfl (by decide) rfl) ?_;refine ws (LR.convInt underlying3 (by rw[underlying118];rfl) rfl rfl) ?_;refine wa ?_;refine wN<|wQ<|wR<|wm ?_;refine wm ?_;refine wm ?_;obtain⟨x21,hy22,h⟩:=yK h;refine ws (iX (enc:=RN.e) (L:=x1) (y:=x21) underlying54 sizeOf80 rfl rfl hy22 (fun _=>rfl))<|ws (lE (ys:=[_,_]) isAgg80 sizeOf80 rfl rfl rfl)<|wy (tl:=[(0,_),(1,_),(2,_),(8,_),(9,_),(10,_),(11,_),(24,_),(28,_)]) (to:=[]) ?_;refine wm ?_;obtain⟨v23,hy24,h⟩:=za h;refine xN (Yo x21 target2 v23 hy24) call83<|ws (LR.lss rfl rfl)<|wN ?_;refine xD h rfl (fun _ h=>?_) (fun _ h=>?_)
   ·refine wR<|wm ?_;refine ws (LR.addW rfl rfl)<|wa ?_;refine wN ?_;exact⟨((IntKind.i64.wrap (((IntKind.i64.wrap ((Int.fdiv ((IntKind.u64.wrap (IntKind.i64.wrap (i18+j19)))) (2 ^ 1)))))+1)),j19),(),h,sP⟩
   ·refine wR<|wm ?_;refine wa ?_;refine wN ?_;exact⟨(i18,(IntKind.i64.wrap ((Int.fdiv ((IntKind.u64.wrap (IntKind.i64.wrap (i18+j19)))) (2 ^ 1))))),(),h,sP⟩
  ·refine wZ ?_;exact⟨i18,(),h,sP⟩
 ·rintro i3 _ h;refine wQ ?_;refine wJ (zH h) (fun(v26:Bool) (_:Unit)=>⟨49,[(6,.d (.v (.int .i64 i3))),(7,.d (.v (.bool v26)))],[]⟩) (fun h=>?_) ?_
  ·refine wR<|wm ?_;refine wm ?_;refine wm ?_;refine ws (LR.lss rfl rfl)<|wm ?_;refine xG (d:=39) h rfl (fun _ h=>?_) (fun _ h=>?_)
   ·refine wt (mV rfl)<|wt (mV rfl)<|wt (mV rfl) ?_;obtain⟨x28,hy29,h⟩:=yK h;refine wt (iX (enc:=RN.e) (L:=x1) (y:=x28) underlying54 sizeOf80 rfl rfl hy29 (fun _=>rfl))<|wt (lE (ys:=[_,_]) isAgg80 sizeOf80 rfl rfl rfl)<|wt (mV rfl) ?_;obtain⟨v30,hy31,h⟩:=za h;refine wt (cN (Yo x28 target2 v30 hy31) rfl call83 rfl rfl rfl rfl)<|wt (eQ rfl rfl)<|ws (pT rfl rfl)<|wa ?_;refine wy (tl:=[(6,_),(48,_)]) (to:=[]) ?_;refine wa ?_;refine wN ?_;exact⟨(decide (v30=0)),(),h,sP⟩
   ·refine wf<|wf<|wf<|wf<|wf<|wf<|wf<|wf<|ws (pF rfl rfl) ?_;refine wa ?_;refine wy (tl:=[(6,_),(48,_)]) (to:=[]) ?_;refine wa ?_;refine wN ?_;exact⟨false,(),h,sP⟩
  ·rintro v26 _ h;refine wX ?_;cases h;exact⟨.inr rfl,_,.cons (.tmp rfl rfl)<|.cons (.tmp rfl rfl)<|.nil,rfl⟩
theorem qY(l1:List RN)(n2:Int)(r0:Bool)(h:(Wn l1 n2).wp (·=r0)):PFun prog 55 [.d (.sl (List.map RN.e l1)),.d (.v (.int .u64 n2))] (.d (.v (.bool r0))):=by
 refine fI (sl:=[(0,_),(1,_)]) func55 rfl ntmps55 rfl rfl ?_;intro ctx hK;refine wQ<|wR<|wa ?_;refine wN<|wQ<|wR<|wm ?_;obtain⟨v3,hy4,h⟩:=za h;refine ws (LR.rowN (Zl l1 v3 hy4) rfl call81 rfl rfl rfl rfl)<|wa ?_;refine wN<|wQ<|wR<|wm ?_;refine wm ?_;obtain⟨v5,hy6,h⟩:=za h;refine PWl.frz [0,8,10] hK (.cons rfl<|.cons rfl<|.cons rfl<|.nil) rfl (by simp) ?_;refine xN (yG v3 n2 v5 hy6) call82<|wm ?_;refine ws (LR.extract rfl rfl)<|ws (LR.extract rfl rfl)<|wa ?_;refine wa ?_;refine wN<|wQ ?_;refine wJ (zH h) (fun(v7:Bool) (_:Unit)=>⟨28,[(4,.d (.v (.bool v7)))],[]⟩) (fun h=>?_) ?_
 ·refine wR<|wm ?_;refine wm ?_;refine ws (lM (enc:=RN.e) (L:=v3) underlying54 rfl)<|ws (LR.lss rfl rfl)<|wm ?_;refine xG (d:=19) h rfl (fun _ h=>?_) (fun _ h=>?_)
  ·refine wt (mV rfl)<|wy (tl:=[(1,_),(4,_),(5,_),(19,_),(20,_)]) (to:=[]) ?_;refine wt (mV rfl) ?_;obtain⟨x9,hy10,h⟩:=yK h;refine wt (iX (enc:=RN.e) (L:=v3) (y:=x9) underlying54 sizeOf80 rfl rfl hy10 (fun _=>rfl))<|wt (fE underlying80 rfl sizeOf23 (by decide) rfl rfl)<|wt (LR.loadEp isAgg23 rfl rfl)<|wt (mV rfl)<|wt (LR.leq rfl rfl)<|ws (pT rfl rfl)<|wa ?_;refine wN ?_;exact⟨(decide (x9.lo<=n2)),(),h,sP⟩
  ·refine wf<|wy (tl:=[(1,_),(4,_),(5,_),(19,_),(20,_)]) (to:=[]) ?_;refine wf<|wf<|wf<|wf<|wf<|wf<|ws (pF rfl rfl)<|wa ?_;refine wN ?_;exact⟨false,(),h,sP⟩
 ·rintro v7 _ h;refine wX ?_;cases h;exact xT
theorem Vd(c1:List PT)(r0:List (Int×List RN))(h:(XT c1).wp (·=r0)):PMap prog 66 [.d (.sl (List.map PT.e c1))] [.u16] false (zI kI (eL RN.e) r0):=by
 refine PMap.intro (sl:=[(0,_)]) func66 rfl ntmps66 rfl rfl ?_;intro ctx hK;refine wQ<|wR<|wa ?_;refine wN<|wQ<|wR<|ws (LR.makeMap [.u16] false rfl)<|wa ?_;refine wN<|wQ<|wQ<|wR<|wm ?_;refine ws (lM (enc:=PT.e) (L:=c1) underlying30 rfl)<|wm ?_;refine wN<|wB ?_;obtain⟨hy10,h⟩:=zp h;have hN:=hy10.1;refine PWc.loopRows (bid:=0) (N:=c1.length) (mid:=6) (n:=28) (ks:=[.u16]) (e:=80) (k:=2) (fun i=>[(3,.mp 6),(7,.d (.sl (List.map PT.e c1))),(8,.d (.v (.int .i64 (c1.length:Int)))),(9,.d (.v (.int .i64 (i:Int))))]) (fun i=>wH kI RN.e (AL.grow [] ((List.take i c1).filterMap ze))) [(3,.mp 6)] [] 0 hK (by decide) (fun i x hx id h=>by simp only[List.mem_cons,List.not_mem_nil,or_false] at hx;rcases hx with rfl | rfl | rfl | rfl <;> first | (simp[PV.has] at h;done) | (simp[PV.has] at h;exact h.symm) | (simp[PV.has] at h;omega)) rfl (fun i=>WX (fun x d hd=>by simp only[RN.e,List.mem_cons,List.not_mem_nil,or_false] at hd;rcases hd with rfl | rfl <;> exact⟨_,rfl⟩) _) (sP) (fun i hi=>?_) (zI kI (eL RN.e) (AL.grow ([]:List (Int×List RN)) (List.filterMap ze c1))) (by simp only[List.take_length];exact Qj _) (fun ctx vm bs ck=>?_) (fun bs ck=>?_)
 ·obtain⟨p,hp⟩:∃ p,c1[i]?=some p:=⟨_,List.getElem?_eq_getElem hi⟩
  have hidx:(0:Int)<=(i:Int)/\c1[(i:Int).toNat]?=some p:=⟨by omega,by simpa using hp⟩
  have htk:=AL.grow_take hp ze;have hwi:=Vc (i:=i) (by omega)
  by_cases hd:0 < p.dev
  ·have hf:ze p=some (p.dev,p.runs):=by simp[ze,hd]
   have hbd:=AL.grow_bound hy10 hp hf;rw[hf] at htk;rcases WG (eK:=kI) (enc:=RN.e) yJa (p.dev) (AL.grow [] ((List.take i c1).filterMap ze)) with⟨j,l,h1,h2,h3,h4⟩ | ⟨h1,h2,h3⟩
   ·simp only[h3] at hbd;refine .found (nl:=l.length) (nl':=(List.length (l++p.runs))) (l:=(List.map RN.e l)) (l':=(List.map RN.e (l++p.runs))) (by simp) (by simp) h2 (by rw[htk];simp only[AL.grow,Option.toList,List.foldl] at h3 h4 ⊢;rw[h3];exact h4 _) fun ctx vm bs ck hvm=>?_
    have hpf:yY (kI (p.dev)) (vn vm) 0=some j:=by rw[Xb hvm];exact h1
    have h:(M.bind (M.idx c1 (i:Int)) fun x2=>M.yo ((l.length+x2.runs.length)*16<=140737488355328)<|M.pure ()).wp (fun _=>True):=⟨p,hidx,hbd,trivial⟩
    refine wQ<|wR<|ws (LR.lss rfl rfl)<|wN<|wQ<|PWc.condT (congrArg (fun b=>some (PV.d (.v (.bool b)))) (decide_eq_true (Int.ofNat_lt.2 hi)))<|wK<|wQ<|wB ?_;refine wQ<|wR ?_;obtain⟨x2,hy3,h⟩:=yK h;have hE:=idxU hy3 hidx;subst hE;refine ws (iX (enc:=PT.e) (L:=c1) (y:=x2) underlying30 sizeOf56 rfl rfl hy3 (fun _=>rfl))<|ws (lE (ys:=[_,_]) isAgg56 sizeOf56 rfl rfl rfl)<|ws (LR.allocZ (cs:=[_,_]) zeroValue56 rfl rfl rfl rfl)<|ws (sB (ns:=[_,_]) sizeOf56 rfl rfl rfl rfl rfl rfl rfl)<|wN<|wQ<|wR<|ws (fR underlying56 rfl sizeOf22 (by decide) rfl rfl)<|ws (lD isAgg22 rfl rfl rfl) ?_;refine ws (LR.gtr rfl rfl)<|wN<|PWc.condT (congrArg (fun b=>some (PV.d (.v (.bool b)))) (decide_eq_true hd))<|wz (tl:=[(3,_),(5,_),(7,_),(8,_),(9,_)]) (to:=[(5,_),(6,_),(50,_)]) ?_;refine PWc.regionE [⟨[16],[],[],[],[],[6],[],[]⟩,⟨[17],[],[],[],[],[5],[],[]⟩,⟨[18],[],[5],[],[],[],[],[]⟩,⟨[19],[],[],[],[],[6],[],[]⟩,⟨[20],[],[],[],[],[5],[],[]⟩,⟨[21],[],[5],[],[],[],[],[]⟩,⟨[22],[],[6],[],[],[50],[],[]⟩,⟨[23],[],[],[],[],[5],[],[]⟩,⟨[24],[],[5],[],[],[],[],[]⟩,⟨[22,25],[6,50],[6,50],[],[(50,[22])],[50],[],[6]⟩,⟨[],[6],[6,50],[],[],[],[50],[]⟩] (by kernel_rfl) (by kernel_rfl) rfl<|km ?_;refine kp (fun _ U W=>fR underlying56 rfl sizeOf22 (by decide) rfl U) ?_;refine kp (fun _ U W=>lD isAgg22 U (W rfl rfl) rfl)<|km ?_;refine kp (fun _ U W=>fR underlying56 rfl sizeOf22 (by decide) rfl U) ?_;refine kp (fun _ U W=>lD isAgg22 U (W rfl rfl) rfl) ?_;refine kp (fun _ U W=>LR.lookupP underlying91 jF U (W rfl rfl) U rfl hpf rfl) ?_;refine kp (fun _ U W=>fR underlying56 rfl sizeOf54 (by decide) rfl U) ?_;refine kp (fun _ U W=>lD isAgg54 U (W rfl rfl) rfl) ?_;obtain⟨hy4,h⟩:=zp h;refine PQe.stepX [22] (fun _ U W ha=>LR.appP (enc:=RN.e) (L:=l) (R:=x2.runs) [22] vO underlying54 (U rfl rfl) rfl (W rfl rfl) (W rfl rfl) rfl (fun _ h1 h2=>Src.slT (enc:=RN.e) (R:=x2.runs) (yha h1 h2 (U rfl rfl)) (fun _=>rfl)) (fun _=>rfl) hy4 rfl ha) rfl rfl (.inl rfl) rfl ?_;refine ks (fun _ U W=>LR.mapUpdateP underlying91 jF U (W rfl rfl) U rfl rfl U hpf)<|PQe.nil<|wR<|ws (LR.addW rfl rfl)<|wm ?_;refine wN ?_;exact⟨rfl,sO rfl (.c2 rfl rfl rfl rfl<|.cons rfl rfl<|.cons rfl (congrArg (fun z=>PV.d (.v (.int .i64 z))) hwi)<|.nil) (.c2 rfl rfl rfl rfl<|.nil)⟩
   ·simp only[h2,List.length_nil,Nat.zero_add] at hbd;refine .fresh (q:=25) (nl':=p.runs.length) (l':=(List.map RN.e p.runs)) (by simp) (by decide) (by rw[htk];simp only[AL.grow,Option.toList,List.foldl] at h2 h3 ⊢;rw[h2];exact h3 _) fun ctx vm bs ck hvm=>?_
    have hpf:yY (kI (p.dev)) (vn vm) 0=none:=by rw[Xb hvm];exact h1
    have h:(M.bind (M.idx c1 (i:Int)) fun x5=>M.yo (x5.runs.length*16<=140737488355328)<|M.pure ()).wp (fun _=>True):=⟨p,hidx,hbd,trivial⟩
    refine wQ<|wR<|ws (LR.lss rfl rfl)<|wN<|wQ<|PWc.condT (congrArg (fun b=>some (PV.d (.v (.bool b)))) (decide_eq_true (Int.ofNat_lt.2 hi)))<|wK<|wQ<|wB ?_;refine wQ<|wR ?_;obtain⟨x5,hy6,h⟩:=yK h;have hE:=idxU hy6 hidx;subst hE;refine ws (iX (enc:=PT.e) (L:=c1) (y:=x5) underlying30 sizeOf56 rfl rfl hy6 (fun _=>rfl))<|ws (lE (ys:=[_,_]) isAgg56 sizeOf56 rfl rfl rfl)<|ws (LR.allocZ (cs:=[_,_]) zeroValue56 rfl rfl rfl rfl)<|ws (sB (ns:=[_,_]) sizeOf56 rfl rfl rfl rfl rfl rfl rfl)<|wN<|wQ<|wR<|ws (fR underlying56 rfl sizeOf22 (by decide) rfl rfl)<|ws (lD isAgg22 rfl rfl rfl) ?_;refine ws (LR.gtr rfl rfl)<|wN<|PWc.condT (congrArg (fun b=>some (PV.d (.v (.bool b)))) (decide_eq_true hd))<|wz (tl:=[(3,_),(5,_),(7,_),(8,_),(9,_)]) (to:=[(5,_),(6,_)]) ?_;refine PWc.regionE [⟨[16],[],[],[],[],[6],[],[]⟩,⟨[17],[],[],[],[],[5],[],[]⟩,⟨[18],[],[5],[],[],[],[],[]⟩,⟨[19],[],[],[],[],[6],[],[]⟩,⟨[20],[],[],[],[],[5],[],[]⟩,⟨[21],[],[5],[],[],[],[],[]⟩,⟨[22],[],[6],[],[],[],[],[]⟩,⟨[23],[],[],[],[],[5],[],[]⟩,⟨[24],[],[5],[],[],[],[],[]⟩,⟨[25],[25],[],[25],[],[25],[],[]⟩,⟨[],[6],[6,25],[],[],[],[25],[]⟩] (by kernel_rfl) (by kernel_rfl) rfl<|km ?_;refine kp (fun _ U W=>fR underlying56 rfl sizeOf22 (by decide) rfl U) ?_;refine kp (fun _ U W=>lD isAgg22 U (W rfl rfl) rfl)<|km ?_;refine kp (fun _ U W=>fR underlying56 rfl sizeOf22 (by decide) rfl U) ?_;refine kp (fun _ U W=>lD isAgg22 U (W rfl rfl) rfl) ?_;refine kp (fun _ U W=>LR.lookupPN underlying91 jF U (W rfl rfl) U rfl zeroValue54 rfl hpf) ?_;refine kp (fun _ U W=>fR underlying56 rfl sizeOf54 (by decide) rfl U) ?_;refine kp (fun _ U W=>lD isAgg54 U (W rfl rfl) rfl) ?_;obtain⟨hy7,h⟩:=zp h;refine PQe.stepN (fun _ U W hf=>LR.appNilX (enc:=RN.e) (R:=x5.runs) vO underlying54 (U rfl rfl) hf (Src.slT (enc:=RN.e) (R:=x5.runs) (evObjs (U rfl rfl)) (fun _=>rfl)) (fun _=>rfl) hy7 rfl (Vb hf)) rfl (.inl rfl) rfl ?_;refine ks (fun _ U W=>LR.mapUpdatePN underlying91 jF U (W rfl rfl) U rfl rfl U hpf)<|PQe.nil<|wR<|ws (LR.addW rfl rfl)<|wm ?_;refine wN ?_;exact⟨rfl,sO rfl (.c2 rfl rfl rfl rfl<|.cons rfl rfl<|.cons rfl (congrArg (fun z=>PV.d (.v (.int .i64 z))) hwi)<|.nil) (.c2 rfl rfl rfl rfl<|.nil)⟩
  ·have hf:ze p=none:=by simp[ze,hd]
   rw[hf] at htk;refine .skip (by rw[htk];rfl) fun ctx vm bs ck=>?_
   have h:(M.bind (M.idx c1 (i:Int)) fun x8=>M.pure ()).wp (fun _=>True):=⟨p,hidx,trivial⟩
   refine wQ<|wR<|ws (LR.lss rfl rfl)<|wN<|wQ<|PWc.condT (congrArg (fun b=>some (PV.d (.v (.bool b)))) (decide_eq_true (Int.ofNat_lt.2 hi)))<|wK<|wQ<|wB ?_;refine wQ<|wR ?_;obtain⟨x8,hy9,h⟩:=yK h;have hE:=idxU hy9 hidx;subst hE;refine ws (iX (enc:=PT.e) (L:=c1) (y:=x8) underlying30 sizeOf56 rfl rfl hy9 (fun _=>rfl))<|ws (lE (ys:=[_,_]) isAgg56 sizeOf56 rfl rfl rfl)<|ws (LR.allocZ (cs:=[_,_]) zeroValue56 rfl rfl rfl rfl)<|ws (sB (ns:=[_,_]) sizeOf56 rfl rfl rfl rfl rfl rfl rfl)<|wN<|wQ<|wR<|ws (fR underlying56 rfl sizeOf22 (by decide) rfl rfl)<|ws (lD isAgg22 rfl rfl rfl) ?_;refine ws (LR.gtr rfl rfl)<|wN<|PWc.condF (congrArg (fun b=>some (PV.d (.v (.bool b)))) (decide_eq_false hd))<|wK<|wR<|ws (LR.addW rfl rfl)<|wm ?_;refine wN ?_;exact⟨rfl,sO rfl (.c2 rfl rfl rfl rfl<|.cons rfl rfl<|.cons rfl (congrArg (fun z=>PV.d (.v (.int .i64 z))) hwi)<|.nil) (.cons rfl rfl<|.nil)⟩
 ·have h:(M.pure ()).wp (fun _=>True):=trivial;refine wQ<|wR<|ws (LR.lss rfl rfl)<|wN<|wQ<|PWc.condF (congrArg (fun b=>some (PV.d (.v (.bool b)))) (decide_eq_false (by omega))) ?_;refine wZ ?_;exact⟨rfl,sP⟩
 ·refine wQ<|wR<|wm ?_;refine wa ?_;refine wN<|wX ?_;cases h;exact⟨.inr rfl,2,6,_,_,rfl,rfl,rfl⟩
theorem qZ(c1:List PT)(dev2:Int)(r0:List RN)(h:(Wo c1 dev2).wp (·=r0)):PRow prog 56 [.d (.sl (List.map PT.e c1)),.d (.v (.int .u16 dev2))] 80 2 (List.map RN.e r0):=by
 refine PRow.intro (sl:=[(0,_),(1,_)]) func56 rfl ntmps56 rfl rfl ?_;intro ctx hK;refine wQ<|wR<|ws (aR 80 2 rfl)<|wN<|wQ<|wR<|wm ?_;obtain⟨v3,hy4,h⟩:=za h;refine PWl.mapN (Vd c1 v3 hy4) rfl call66 rfl rfl rfl rfl rfl (fun bs5 ck5 _=>?_);refine wm ?_;refine ws (LR.getO (eV:=(eL RN.e)) (zv:=([]:List RN)) (q:=dev2) (m:=v3) yJa underlying91 jF zeroValue54 (zRd1 (.slice none 0 0) rfl) rfl rfl rfl rfl rfl rfl) ?_;obtain⟨v6,hy7,h⟩:=za h;refine ws (LR.rowN (Zl (AL.getZ v3 dev2 ([]:List RN)) v6 hy7) rfl call81 rfl rfl rfl rfl)<|wy (tl:=[(0,_),(1,_),(5,_),(6,_),(7,_),(8,_),(9,_)]) (to:=[(6,_),(9,_)]) ?_;refine wa ?_;refine wN<|wX ?_;cases h;exact⟨.inr rfl,4,rfl,.inr ⟨9,_,rfl,(by simp),rfl⟩⟩
theorem vi(c1:List PT)(d2:DT)(r0:Bool)(h:(uY c1 d2).wp (·=r0)):PFun prog 25 [.d (.sl (List.map PT.e c1)),.agg (List.map .d (DT.e d2))] (.d (.v (.bool r0))):=by
 refine fI (sl:=[(0,_),(1,_)]) func25 rfl ntmps25 rfl rfl ?_;intro ctx hK;refine wQ<|wR<|ws (LR.box rfl rfl rfl rfl)<|wa ?_;refine wN<|wQ ?_;refine wJ (zH h) (fun(v3:Bool) (_:Unit)=>⟨17,[(4,.d (.v (.bool v3)))],[]⟩) (fun h=>?_) ?_
 ·refine wD (by kernel_rfl) (by kernel_rfl) ?_;refine qs (fun _ U W=>fR underlying25 rfl sizeOf22 (by decide) rfl U) ?_;refine qs (fun _ U W=>lD isAgg22 U (W rfl) rfl) ?_;refine qs (fun _ U W=>LR.gtr U U)<|qm ?_;refine xQ (d:=8) h rfl (fun _ h=>?_) (fun _ h=>?_)
  ·refine qt (fun _ U W=>mV U) ?_;refine qt (fun _ U W=>fR underlying25 rfl sizeOf22 (by decide) rfl U) ?_;refine qt (fun _ U W=>lD isAgg22 U (W rfl) rfl) ?_;obtain⟨v5,hy6,h⟩:=za h;refine qt (fun _ U W=>cN (PRow.fun (qZ c1 d2.dev v5 hy6)) U call56 (xh (fun a b=>U a b) rfl rfl) rfl rfl rfl) ?_;refine qt (fun _ U W=>fR underlying25 rfl sizeOf23 (by decide) rfl U) ?_;refine qt (fun _ U W=>lD isAgg23 U (W rfl) rfl) ?_;obtain⟨v7,hy8,h⟩:=za h;refine qt (fun _ U W=>cN (qY v5 d2.n v7 hy8) U call55 (xh (fun a b=>U a b) rfl rfl) rfl rfl rfl) ?_;refine qs (fun _ U W=>pT U U) ?_;refine qs (fun _ U W=>aS U)<|qN ?_;exact⟨v7,(),h,sP⟩
  ·refine kF<|kF<|kF<|kF<|kF<|kF<|kF ?_;refine qs (fun _ U W=>pF U U) ?_;refine qs (fun _ U W=>aS U)<|qN ?_;exact⟨false,(),h,sP⟩
 ·rintro v3 _ h;refine wX ?_;cases h;exact xT
theorem vB(row1:List DT)(r0:List DT)(h:(zj row1).wp (·=r0)):PObj prog 88 [.row 100 (row1.length)] [(100,.row 25 2 (List.map DT.e row1))] [] (.row 100 (r0.length)) (fun _:Unit=>[(100,.row 25 2 (List.map DT.e r0))]):=by
 refine PObj.intro (sl:=[(0,_)]) func88 rfl ntmps88 rfl rfl rfl ?_;intro ctx hK pv;refine wQ<|wR<|ws (aR 25 2 rfl)<|wN<|wQ<|wQ<|wR<|wm ?_;refine ws (LR.lenRow underlying26 rfl)<|ws (LR.lss rfl rfl)<|wN ?_;refine xD h rfl (fun _ h=>?_) (fun _ h=>?_)
 ·refine wQ<|wR<|wm ?_;refine wy (tl:=[(0,_),(6,_),(7,_),(8,_),(9,_)]) (to:=[(100,_)]) ?_;refine wa ?_;refine wN<|wX ?_;cases h;exact EndsO.mk () (.inr rfl) (sO (tl:=[(2,_)]) (to:=[(100,_)]) rfl (.cons rfl (by first | rfl | (simp;done) | (congr 1;first | (simp;done) | (simp;omega) | omega))<|.nil) (.cons rfl rfl<|.nil)) (.cons (.tmp rfl)<|.nil) rfl rfl
 ·refine wK<|wQ<|wQ<|wR<|wa ?_;refine wN ?_;refine PWc.jnX (zH h) (fun(_:Unit) (_:Unit)=>⟨61,[(0,.row 100 (row1.length))],[(100,.row 25 2 (List.map DT.e row1))]⟩) (fun h=>?_) ?_
  ·refine wB<|wM (fun(k148:Int) (_:Unit)=>⟨61,[(0,.row 100 (row1.length)),(3,.d (.v (.int .i64 k148)))],[(100,.row 25 2 (List.map DT.e row1))]⟩) () h (sP) ?_;rintro N k148 _ h;refine wQ<|wQ<|wR<|wm ?_;refine wm ?_;refine ws (LR.lenRow underlying26 rfl)<|ws (LR.lss rfl rfl)<|wN ?_;refine xD h rfl (fun _ h=>?_) (fun _ h=>?_)
   ·refine wK<|wQ ?_;refine PWc.jnX (zH h) (fun(_:Unit) (_:Unit)=>⟨61,[(0,.row 100 (row1.length)),(3,.d (.v (.int .i64 k148)))],[(100,.row 25 2 (List.map DT.e row1))]⟩) (fun h=>?_) ?_
    ·refine wB<|wQ<|wD (by kernel_rfl) (by kernel_rfl)<|qm ?_;refine qm ?_;obtain⟨x150,hy151,h⟩:=yK h;refine qs (fun _ U W=>LR.idxRowT (L:=row1) (y:=x150) underlying26 sizeOf25 U rfl U hy151) ?_;refine qs (fun _ U W=>LR.loadRpT (enc:=DT.e) (L:=row1) (y:=x150) isAgg25 sizeOf25 U (W rfl) hy151.2)<|qm ?_;refine qm ?_;refine qs (fun _ U W=>LR.subW U U) ?_;obtain⟨x152,hy153,h⟩:=yK h;refine qs (fun _ U W=>LR.idxRowT (L:=row1) (y:=x152) underlying26 sizeOf25 U rfl U hy153) ?_;refine qs (fun _ U W=>LR.loadRpT (enc:=DT.e) (L:=row1) (y:=x152) isAgg25 sizeOf25 U (W rfl) hy153.2) ?_;refine qs (fun _ U W=>LR.eqlAgg U U rfl rfl eq25)<|qN ?_;refine xD h rfl (fun _ h=>?_) (fun _ h=>?_)
     ·refine wQ<|wR<|wm ?_;refine wm ?_;obtain⟨hy155,h⟩:=zp h;refine ws (LR.pieceRowT (enc:=DT.e) (L:=row1) underlying26 sizeOf25 rfl rfl rfl rfl hy155)<|wa ?_;refine wN<|wQ<|wQ<|wR<|wa ?_;refine wN ?_;refine wJ (zH h) (fun(⟨k156,v157⟩:Int×List DT) (_:Unit)=>⟨61,[(0,.row 100 (v157.length)),(3,.d (.v (.int .i64 k156)))],[(100,.row 25 2 (List.map DT.e v157))]⟩) (fun h=>?_) ?_
      ·refine wB<|wM (fun(⟨k197,k2_198,v199⟩:Int×Int×List DT) (_:Unit)=>⟨61,[(0,.row 100 (v199.length)),(3,.d (.v (.int .i64 k197))),(4,.pc 100 (Int.toNat k148) (row1.length - Int.toNat k148) 2),(5,.d (.v (.int .i64 k2_198)))],[(100,.row 25 2 (List.map DT.e v199))]⟩) () h (sP) ?_;rintro N ⟨k197,k2_198,v199⟩ _ h;refine wQ<|wQ<|wR<|wm ?_;refine wm ?_;refine ws (LR.lenPc underlying26 rfl)<|ws (LR.lss rfl rfl)<|wN ?_;refine xD h rfl (fun _ h=>?_) (fun _ h=>?_)
       ·refine wK<|wQ ?_;refine wJ (zH h) (fun(⟨k201,v202⟩:Int×List DT) (_:Unit)=>⟨61,[(0,.row 100 (v202.length)),(3,.d (.v (.int .i64 k201))),(4,.pc 100 (Int.toNat k148) (row1.length - Int.toNat k148) 2),(5,.d (.v (.int .i64 k2_198)))],[(100,.row 25 2 (List.map DT.e v202))]⟩) (fun h=>?_) ?_
        ·refine wB<|wQ<|wD (by kernel_rfl) (by kernel_rfl)<|qm ?_;refine qm ?_;obtain⟨hy205,h⟩:=zp h;obtain⟨x203,hy204,h⟩:=yK h;have hy206:True/\v199[((Int.toNat k148)+Int.toNat k2_198)]?=some x203:=⟨trivial,hy204.2⟩
         refine qs (fun _ U W=>LR.idxPc underlying26 sizeOf25 U U hy205) ?_;refine qs (fun _ U W=>LR.loadRpT (enc:=DT.e) (L:=v199) (y:=x203) isAgg25 sizeOf25 U (W rfl) hy206.2)<|qm ?_;refine qm ?_;refine qs (fun _ U W=>LR.subW U U) ?_;obtain⟨hy209,h⟩:=zp h;obtain⟨x207,hy208,h⟩:=yK h;have hy210:True/\v199[((Int.toNat k148)+Int.toNat (IntKind.i64.wrap (k2_198 - 1)))]?=some x207:=⟨trivial,hy208.2⟩
         refine qs (fun _ U W=>LR.idxPc underlying26 sizeOf25 U U hy209) ?_;refine qs (fun _ U W=>LR.loadRpT (enc:=DT.e) (L:=v199) (y:=x207) isAgg25 sizeOf25 U (W rfl) hy210.2) ?_;refine qs (fun _ U W=>LR.neqAgg U U rfl rfl eq25)<|qN ?_;refine xD h rfl (fun _ h=>?_) (fun _ h=>?_)
         ·refine wQ<|wR<|wm ?_;refine wm ?_;refine wm ?_;refine wy (tl:=[(0,_),(3,_),(4,_),(5,_),(45,_),(46,_),(47,_)]) (to:=[(100,_)]) ?_;refine wm ?_;obtain⟨hy214,h⟩:=zp h;obtain⟨x212,hy213,h⟩:=yK h;have hy215:True/\v199[((Int.toNat k148)+Int.toNat k2_198)]?=some x212:=⟨trivial,hy213.2⟩
          refine ws (LR.idxPc underlying26 sizeOf25 rfl rfl hy214)<|ws (LR.loadRpT (enc:=DT.e) (L:=v199) (y:=x212) isAgg25 sizeOf25 rfl rfl hy215.2) ?_;obtain⟨x216,hy217,h⟩:=yK h;refine ws (LR.idxRowT (L:=v199) (y:=x216) underlying26 sizeOf25 rfl rfl rfl hy217)<|ws (LR.storeRpT (enc:=DT.e) (L:=v199) (a:=x216) (b:=x212) sizeOf25 rfl rfl rfl rfl rfl hy217.2 rfl rfl)<|wN<|wR<|wm ?_;refine ws (LR.addW rfl rfl)<|wa ?_;refine wN ?_;exact⟨((IntKind.i64.wrap (k197+1)),(List.set v199 (Int.toNat k197) x212)),(),h,sO rfl (.cons rfl (by first | rfl | (simp;done) | (congr 1;first | (simp;done) | (simp;omega) | omega))<|.c2 rfl rfl rfl rfl<|.cons rfl rfl<|.nil) (.cons rfl rfl<|.nil)⟩
         ·refine wK ?_;exact⟨(k197,v199),(),h,sP⟩
        ·rintro⟨k201,v202⟩ _ h;refine wR<|wm ?_;refine ws (LR.addW rfl rfl)<|wa ?_;refine wN ?_;exact⟨(k201,(IntKind.i64.wrap (k2_198+1)),v202),(),h,sP⟩
       ·refine wZ ?_;exact⟨(k197,v199),(),h,sP⟩
      ·rintro⟨k156,v157⟩ _ h;refine wQ<|wR<|wm ?_;refine wm ?_;obtain⟨hy218,h⟩:=zp h;refine ws (LR.pieceRowT (enc:=DT.e) (L:=v157) underlying26 sizeOf25 rfl rfl rfl rfl hy218) ?_;obtain⟨hy219,h⟩:=zp h;refine ws (LR.clearPcT (enc:=DT.e) (L:=v157) (z:=(⟨0,0⟩:DT)) underlying26 rfl rfl zeroValue25 rfl rfl rfl rfl hy219 rfl)<|wN<|wQ<|wR<|wm ?_;refine wm ?_;obtain⟨hy220,h⟩:=zp h;refine ws (LR.cutRowT (enc:=DT.e) (L:=(List.take (Int.toNat k156) v157++List.replicate (v157.length - Int.toNat k156) (⟨0,0⟩:DT)++List.drop ((Int.toNat k156)+(v157.length - Int.toNat k156)) v157)) [0,54,56,57] underlying26 sizeOf25 rfl (by first | (simp;done) | (simp;omega) | omega) rfl rfl hy220 rfl) ?_;refine wa ?_;refine wN<|wX ?_;cases h;exact EndsO.mk () (.inr rfl) (sO (tl:=[(2,_)]) (to:=[(100,_)]) rfl (.cons rfl (by first | rfl | (simp;done) | (congr 1;first | (simp;done) | (simp;omega) | omega))<|.nil) (.cons rfl rfl<|.nil)) (.cons (.tmp rfl)<|.nil) rfl rfl
     ·refine wK ?_;exact⟨(),(),h,sP⟩
    ·rintro _ _ h;refine wR<|wm ?_;refine ws (LR.addW rfl rfl)<|wa ?_;refine wN ?_;exact⟨(IntKind.i64.wrap (k148+1)),(),h,sP⟩
   ·refine wZ ?_;exact⟨(),(),h,sP⟩
  ·rintro _ _ h;refine wQ<|wR<|wm ?_;refine wa ?_;refine wN<|wX ?_;cases h;exact EndsO.mk () (.inr rfl) (sO (tl:=[(2,_)]) (to:=[(100,_)]) rfl (.cons rfl (by first | rfl | (simp;done) | (congr 1;first | (simp;done) | (simp;omega) | omega))<|.nil) (.cons rfl rfl<|.nil)) (.cons (.tmp rfl)<|.nil) rfl rfl
theorem qa(l1:List DT)(r0:List DT)(h:(Wp l1).wp (·=r0)):PRow prog 62 [.d (.sl (List.map DT.e l1))] 25 2 (List.map DT.e r0):=by
 refine PRow.intro (sl:=[(0,_)]) func62 rfl ntmps62 rfl rfl ?_;intro ctx hK;refine wQ<|wR<|ws (aR 25 2 rfl)<|wN<|wQ<|wR<|wm ?_;obtain⟨v2,hy3,h⟩:=za h;refine ws (LR.rowN (yZ l1 v2 hy3) rfl call86 rfl rfl rfl rfl)<|wa ?_;refine wN<|wQ<|wR<|wm ?_;obtain⟨hy5,h⟩:=zp h;refine PWl.sortFn (encD:=DT.e) (enc:=DT.v) (l:=v2) srt87_69 (fun _=>rfl) DT.v1 (fun _=>rfl) rfl call87 rfl rfl rfl (by simp) hy5 rfl (fun s4 hy6 hy7=>?_);replace h:=iSrt h s4 hy6 hy7;have hy6l:=hy6.length_eq;refine wN<|wQ<|wR<|wm ?_;obtain⟨y8,hy9,h⟩:=za h;refine xO [(100,5)] [3,5,6,8] [100] (vB s4 y8 hy9) call88<|wy (tl:=[(0,_),(4,_),(7,_),(9,_)]) (to:=[(5,_)]) ?_;refine wa ?_;refine wN<|wX ?_;cases h;exact⟨.inr rfl,2,rfl,.inr ⟨5,_,rfl,(by simp),rfl⟩⟩
end Go.Proofs
namespace Go.Ep
open Go.RowKit
section
variable{P:Program}{ctx:Ctx}{Q:PQ}{s:PState}
variable{dst:Option Tmp}{ty:TypeId}{pos:String}{after:Array Edge}{gd:Option (Nat×Bool)}
theorem EpRd.of{w:World}{g:zR}{S:Nat->Prop}{ds:List DV}{u:Value}(h:Rd w g S (.ep ds 0) u):EpRd w S ds u:=by
 cases h with
 | ep _ b off _ c hS hb hc hr=>exact⟨b,off,c,rfl,hS,hb,hc,hr⟩
theorem EpRd.rd{w:World}{g:zR}{S:Nat->Prop}{ds:List DV}{u:Value}(h:EpRd w S ds u):Rd w g S (.ep ds 0) u:=by
 obtain⟨b,off,c,rfl,hS,hb,hc,hr⟩:=h;exact .ep ds b off 0 c hS hb hc hr
theorem LR.makeClo{f:FuncId}{xs:List Operand}{cs:List (List DV)}(hps:s.evs xs=some (cs.map fun ds=>PV.ep ds 0)) :
  Local P ctx ⟨dst,.makeFunc (.func f) #[] xs.toArray,ty,pos,after,gd⟩ s (s.putD dst (.clo f cs)):=
 zD (o:=⟨dst,.makeFunc (.func f) #[] xs.toArray,ty,pos,after,gd⟩) fun a w g hg=>by
  obtain⟨hl,hrd⟩:=VR hps hg;refine⟨.func (.func f) #[] (xs.map a.eval).toArray,by simp[execOp,Instr.makeFunc],.clo f cs _ (by simpa using hl) fun i ds u h1 h2=>EpRd.of (hrd i (.ep ds 0) u (by rw[List.getElem?_map,h1];rfl) h2)⟩
theorem LR.callC{x:Operand}{xs:List Operand}{ats:Array TypeId}{f:FuncId}{cs:List (List DV)}{ps qs ps':List PV}{r:PV}(hc:PFun P f ps' r)(hx:s.ev x=some (.clo f cs))(he:∀ args w,(callFunc f args).run P w=.ok (.enter f args) w)
  (hps:s.evs xs=some qs) (hq:qs.map PV.nilD=ps) (hd:PV.isData.isDataL ps=true) (hp':ps'=ps++cs.map fun ds=>PV.ep ds 0) (hr:r.isData=true) :
  Local P ctx ⟨dst,.call ⟨.value x,xs.toArray,ats⟩,ty,pos,after,gd⟩ s (s.putD dst r):=
 wP (o:=⟨dst,.call ⟨.value x,xs.toArray,ats⟩,ty,pos,after,gd⟩) fun a w g hg=>by
  subst hq;obtain⟨hlen,hreal⟩:=Wg hps (xi hd) hg;have h:=hg.ev hx
  generalize hv:a.eval x=v at h
  cases h with
  | clo _ _ us hl hh=>
   refine⟨f,_,(by simp[execOp,resolve,Deferred.ofValue,invoke,hv,he]:(execOp a.eval ⟨dst,.call ⟨.value x,xs.toArray,ats⟩,ty,pos,after,gd⟩).run P w=.ok (.enter f ((xs.map a.eval)++us).toArray) w),?_⟩;subst hp';refine(hc w (zZ ctx g s.objs) _ (by simp[hl] at hlen ⊢;omega) (fun i p v hp hu=>?_)).mono fun e w' ⟨u,he,hb,hru⟩=>⟨u,he,g,?_⟩
   ·rw[List.getElem?_append] at hp hu;rw[List.length_map,hlen] at hp
    split at hp
    ·rename_i hlt
     rw[if_pos hlt] at hu;rw[List.getElem?_map] at hp
     cases hq:qs[i]? with
     | none=>simp[hq] at hp
     | some q=>simp[hq] at hp;subst hp;exact(hreal i q v hq hu).nilD
    ·rename_i hlt
     rw[if_neg hlt] at hu;rw[List.getElem?_map] at hp
     cases hq:cs[i - (xs.map a.eval).length]? with
     | none=>rw[hq] at hp;cases hp
     | some ds=>rw[hq] at hp;cases hp;exact(hh _ ds v hq hu).rd
   ·exact(hg.below hb).put dst ((hru.data hr g).keep ⟨Nat.le_refl _,fun _ _ _=>rfl⟩ (fun b hb' _=>XH hg hb') (fun _ _=>rfl))
end
section
variable{ctx:Ctx}{s:PState}
def PState.frzR(s:PState)(id:Nat)(ds:List DV)(js:List Nat):PState:={ n:=s.n,sl:=(s.sets (.ep ds 0) js).sl,objs:=uL id s.objs }
inductive AllRef (s:PState) (id:Nat):List Nat->Prop
 | nil:AllRef s id []
 | cons {j:Nat} {js:List Nat} (h:s.at j=some (.ref id 0)) (r:AllRef s id js):AllRef s id (j::js)
theorem AllRef.get{id:Nat}{js:List Nat}(h:AllRef s id js):∀ j∈js,s.at j=some (.ref id 0):=by
 induction h with
 | nil=>intro j hj;cases hj
 | cons h _ ih=>
  intro j hj;rcases List.mem_cons.1 hj with rfl | hj
  ·exact h
  ·exact ih j hj
theorem Sub.frzR{id:Nat}{T:TypeId}{cs:List PV}(ds:List DV)(js:List Nat)(hK:∀ b,ctx.K b->ctx.S b)(hl:look s.objs id=some (.cells T cs))(hcs:cs=ds.map PV.d)(hjs:AllRef s id js):Sub ctx s (s.frzR id ds js):=by
 rintro a w ⟨g,h⟩;have hF:∀ b,zZ ctx g s.objs b->zZ ctx g (uL id s.objs) b:=fun b ⟨h1,h2⟩=>⟨h1,fun j o m hj hg=>by
  rw[yb] at hj
  split at hj
  ·cases hj
  ·exact h2 j o m hj hg⟩
 have hst:zx w w (zZ ctx g s.objs):=⟨Nat.le_refl _,fun _ _ _=>rfl⟩
 have hlk:∀ {j:Nat} {o:Ob},look (uL id s.objs) j=some o->j≠id/\look s.objs j=some o:=fun {j o} hj=>by
  rw[yb] at hj
  split at hj
  ·cases hj
  ·rename_i hne;exact⟨hne,hj⟩
 refine⟨g,⟨h.defers,h.size,?_,?_,?_,?_,h.os,h.tape,h.output,h.grows,h.keep⟩⟩
 ·intro i p hp;have old:s.at i=some p->Rd w g (zZ ctx g (uL id s.objs)) p (a.tmps.getD i undef):=fun hq=>(h.slots i p hq).keep hst (fun b hb _=>hF b hb) (fun _ _=>rfl)
  have hp':(s.sets (.ep ds 0) js).at i=some p:=Xw (by rw[We];exact Yp (s:=s.frzR id ds js) hp) (xI (s:=s.frzR id ds js) hp);rcases Wf _ js s i p hp' with⟨h1,rfl⟩ | h2
  ·have hr:=h.slots i _ (hjs.get i h1);have hob:=h.objs id _ hl;show Rd w g (zZ ctx g (uL id s.objs)) (.ep ds 0) (a.tmps.getD i undef)
   generalize hv:a.tmps.getD i undef=v at hr
   cases hr with
   | ref _ _ blk n hgi=>
    cases hob with
    | cells _ _ blk' n' us hgi' hh hlen hr' _=>
     rw[hgi] at hgi'
     cases hgi'
     have hown:=h.own id _ blk n hl hgi;have hfree:zZ ctx g (uL id s.objs) blk:=⟨hown.2.elim .inr fun hh=>.inl (hK _ hh),fun j o m hj hgj=>by
      obtain⟨hne,hj'⟩:=hlk hj;exact hne (h.inj j id o _ blk m n hj' hl hgj hgi)⟩
     subst hcs;rw[List.length_map] at hlen;refine .ep ds blk 0 0 (fun j=>us.getD j undef) hfree hown.1 (fun j hj=>?_) (fun j x hx=>?_)
     ·rw[zP hh,Nat.zero_add];have:j < us.length:=by omega
      simp[this]
     ·have hj:j < us.length:=by rw[<- hlen];exact(List.getElem?_eq_some_iff.1 hx).1
      have hu:us[j]?=some us[j]:=List.getElem?_eq_getElem hj;have e:us.getD j undef=us[j]:=by simp[hj]
      show DRd w _ x (us.getD j undef);rw[e];have:=hr' j (.d x) _ (by rw[List.getElem?_map,hx];rfl) hu
      cases this with
      | d hd=>exact hd.keep hst (fun b hb _=>hF b hb)
  ·exact old h2
 ·intro j o hj;obtain⟨_,hj'⟩:=hlk hj;exact(h.objs j o hj').keep hst (fun b hb _=>hF b hb) (fun _ _ _=>rfl) rfl (fun _ _=>rfl)
 ·intro i j oi oj b n m hi hj;exact h.inj i j oi oj b n m (hlk hi).2 (hlk hj).2
 ·intro j o b n hj;exact h.own j o b n (hlk hj).2
end
inductive LendL (s:PState):List PV->List PV->Prop
 | nil:LendL s [] []
 | data {q p:PV} {qs ps:List PV} (h:q.nilD=p) (hd:p.isData=true) (t:LendL s qs ps):LendL s (q::qs) (p::ps)
 | row {id n k:Nat} {e:TypeId} {l:List (List DV)} {qs ps:List PV} (hl:look s.objs id=some (.row e k l)) (hn:l.length=n) (t:LendL s qs ps):LendL s (.row id n::qs) (.d (.sl l)::ps)
 | nest {id id2 n k:Nat} {e T:TypeId} {l:List (List DV)} {qs ps:List PV} (h2:look s.objs id2=some (.cells T [.row id n])) (hl:look s.objs id=some (.row e k l)) (hn:l.length=n) (t:LendL s qs ps):LendL s (.pa id2 0 1::qs) (.d (.sl [[.sl l]])::ps)
section
variable{P:Program}{ctx:Ctx}{Q:PQ}{s:PState}
variable{dst:Option Tmp}{ty:TypeId}{pos:String}{after:Array Edge}{gd:Option (Nat×Bool)}
def LentS(ctx:Ctx)(g:zR)(s:PState)(b:Nat):Prop:=zZ ctx g s.objs b\/∃ id o n,look s.objs id=some o/\g id=some (b,n)
theorem yja{g:zR}{a:Act}{w:World}(hg:RelG ctx g s a w){id n k:Nat}{e:TypeId}{l:List (List DV)}{v:Value}(hlk:look s.objs id=some (.row e k l))(hn:l.length=n)(hq:Rd w g (zZ ctx g s.objs) (.row id n) v):DRd w (LentS ctx g s) (.sl l) v:=by
 have hst:zx w w (zZ ctx g s.objs):=⟨Nat.le_refl _,fun _ _ _=>rfl⟩
 have hob:=hg.objs id _ hlk
 cases hob with
 | rowNil _ _ hgn=>
  cases hq with
  | row _ _ blk cap hgi=>rw[hgn] at hgi;cases hgi
  | rowNil=>exact .nil none 0 (Nat.zero_le _) (fun _=>rfl)
 | row _ _ _ blk' cap' cur hgi hh hlc hcap hcs hkk hr'=>
  cases hq with
  | rowNil _ hgn=>rw[hgn] at hgi;cases hgi
  | row _ _ blk cap hgi'=>
   rw[hgi] at hgi'
   cases hgi'
   subst hn;have hown:=hg.own id _ blk' cap' hlk hgi;refine .sl l blk' 0 cap' k (fun i j=>cur.getD (i*k+j) undef) hlc hcap (.inr ⟨id,_,cap',hlk,hgi⟩) hown.1 hkk ?_ ?_
   ·intro i j hi hj;have hlt:i*k+j < cur.length:=by rw[hcs];exact vL (by omega) hj
    rw[zP hh];simp[hlt]
   ·intro i cs j x hi hx;obtain⟨u,hu,hd⟩:=hr' i cs j x hi hx;have e:cur.getD (i*k+j) undef=u:=by simp[List.getD,hu]
    show DRd w _ x (cur.getD (i*k+j) undef);rw[e];exact hd.keep hst (fun b hb _=>.inl hb)
theorem LendL.rd{g:zR}{a:Act}{w:World}(hg:RelG ctx g s a w){qs ps:List PV}(h:LendL s qs ps):∀ (vs:List Value),qs.length=vs.length->(∀ (i:Nat) (q:PV) (v:Value),qs[i]?=some q->vs[i]?=some v->Rd w g (zZ ctx g s.objs) q v) ->
  ps.length=vs.length/\∀ (i:Nat) (p:PV) (v:Value),ps[i]?=some p->vs[i]?=some v->Rd w g0 (LentS ctx g s) p v:=by
 have hst:zx w w (zZ ctx g s.objs):=⟨Nat.le_refl _,fun _ _ _=>rfl⟩
 induction h with
 | nil=>intro vs hl _;exact⟨hl,fun i p v hp=>by simp at hp⟩
 | @data q p qs ps h hd _ ih=>
  intro vs hl hr
  cases vs with
  | nil=>simp at hl
  | cons v vs=>
   obtain⟨h1,h2⟩:=ih vs (by simpa using hl) (fun i q u hq hu=>hr (i+1) q u (by simpa using hq) (by simpa using hu));refine⟨by simp[h1],fun i p' u hp hu=>?_⟩
   cases i with
   | zero=>
    simp at hp hu;subst hp;subst hu;subst h;exact(((hr 0 q v rfl rfl).nilD).data hd g0).keep hst (fun b hb _=>.inl hb) (fun _ _=>rfl)
   | succ i=>exact h2 i p' u (by simpa using hp) (by simpa using hu)
 | @row id n k e l qs ps hlk hn _ ih=>
  intro vs hl hr
  cases vs with
  | nil=>simp at hl
  | cons v vs=>
   obtain⟨h1,h2⟩:=ih vs (by simpa using hl) (fun i q u hq hu=>hr (i+1) q u (by simpa using hq) (by simpa using hu));refine⟨by simp[h1],fun i p' u hp hu=>?_⟩
   cases i with
   | succ i=>exact h2 i p' u (by simpa using hp) (by simpa using hu)
   | zero=>
    simp at hp hu;subst hp;subst hu;exact .d (yja hg hlk hn (hr 0 (.row id n) v rfl rfl))
 | @nest id id2 n k e T l qs ps h2 hlk hn _ ih=>
  intro vs hl hr
  cases vs with
  | nil=>simp at hl
  | cons v vs=>
   obtain⟨h1,h2'⟩:=ih vs (by simpa using hl) (fun i q u hq hu=>hr (i+1) q u (by simpa using hq) (by simpa using hu));refine⟨by simp[h1],fun i p' u hp hu=>?_⟩
   cases i with
   | succ i=>exact h2' i p' u (by simpa using hp) (by simpa using hu)
   | zero=>
    simp at hp hu;subst hp;subst hu;have hq:=hr 0 (.pa id2 0 1) v rfl rfl
    cases hg.objs id2 _ h2 with
    | cells _ _ blk' n' us h' hh hlen hr' ho=>
     cases hq with
     | pa _ _ _ blk c hgi=>
      rw[h'] at hgi
      cases hgi
      match us,hlen with
      | [u],_=>
       have hd:=yja hg hlk hn (hr' 0 (.row id n) u rfl rfl);refine .d (.sl [[.sl l]] blk' 0 1 1 (fun _ _=>u) (by simp) (by decide) (.inr ⟨id2,_,n',h2,h'⟩) (hg.own id2 _ blk' n' h2 h').1 ?_ ?_ ?_)
       ·intro i cs hi
        cases i with
        | zero=>simp at hi;subst hi;rfl
        | succ i=>simp at hi
       ·intro i j hi hj;obtain rfl:i=0:=by simpa using hi
        obtain rfl:j=0:=by omega
        rw[zP hh];rfl
       ·intro i cs j x hi hx
        cases i with
        | succ i=>simp at hi
        | zero=>
         simp at hi;subst hi
         cases j with
         | succ j=>simp at hx
         | zero=>simp at hx;subst hx;exact hd
def PV.flat : PV->Bool
 | .d (.v _)=>true
 | .agg cs=>cs.all fun | .d (.v _)=>true | _=>false
 | _=>false
theorem Rd.flat{w:World}{g g':zR}{S S':Nat->Prop}{p:PV}{u:Value}(hf:p.flat=true)(h:Rd w g S p u):Rd w g' S' p u:=by
 cases h with
 | d hd=>cases hd with
  | v _ h=>exact .d (.v _ h)
  | _=>simp[PV.flat] at hf
 | agg cs us hl h h1=>
  simp only[PV.flat,List.all_eq_true] at hf;refine .agg cs us hl (fun i p u hp hu=>?_) h1;have hp':=hf p (List.mem_of_getElem? hp);have hi:=h i p u hp hu
  cases hi with
  | d hd=>cases hd with
   | v _ h=>exact .d (.v _ h)
   | _=>simp at hp'
  | _=>simp at hp'
 | _=>simp[PV.flat] at hf
theorem LR.callLendAt{x:Operand}{xs:List Operand}{ats:Array TypeId}{f:FuncId}{ps qs:List PV}{r:PV}(hc:∀ a w g,RelG ctx g s a w->FunAt P f ps r w (LentS ctx g s))(hx:s.ev x=some (.d (.v (.func (.func f) #[] #[]))))(he:∀ args w,(callFunc f args).run P w=.ok (.enter f args) w)
  (hps:s.evs xs=some qs) (hq:LendL s qs ps) (hf:r.flat=true) :
  Local P ctx ⟨dst,.call ⟨.value x,xs.toArray,ats⟩,ty,pos,after,gd⟩ s (s.putD dst r):=
 wP (o:=⟨dst,.call ⟨.value x,xs.toArray,ats⟩,ty,pos,after,gd⟩) fun a w g hg=>by
  obtain⟨hlen,hreal⟩:=VR hps hg;obtain⟨h1,h2⟩:=hq.rd hg _ hlen hreal;refine⟨f,_,xW (o:=⟨dst,.call ⟨.value x,xs.toArray,ats⟩,ty,pos,after,gd⟩) rfl (Xu hg hx) he w,?_⟩;rw[List.map_toArray];exact(hc a w g hg _ h1 h2).mono fun e w' ⟨u,he,hb,hru⟩=>⟨u,he,g,(hg.below hb).put dst (hru.flat hf)⟩
theorem LR.callLend{x:Operand}{xs:List Operand}{ats:Array TypeId}{f:FuncId}{ps qs:List PV}{z:Value}(hc:PFun P f ps (.d (.v z)))(hx:s.ev x=some (.d (.v (.func (.func f) #[] #[]))))(he:∀ args w,(callFunc f args).run P w=.ok (.enter f args) w)
  (hps:s.evs xs=some qs) (hq:LendL s qs ps) :
  Local P ctx ⟨dst,.call ⟨.value x,xs.toArray,ats⟩,ty,pos,after,gd⟩ s (s.putD dst (.d (.v z))):=LR.callLendAt (fun _ w g _=>hc w (LentS ctx g s)) hx he hps hq rfl
end
end Go.Ep
namespace Go.Proofs
open Go.Ep Tryz
set_option maxHeartbeats 1000000
set_option maxRecDepth 100000
set_option linter.unusedVariables false
set_option linter.unusedSimpArgs false
theorem vX(l1:List EV)(r0:List DT)(h:(vg l1).wp (·=r0)):PRow prog 30 [.d (.sl (List.map EV.e l1))] 25 2 (List.map DT.e r0):=by
 refine PRow.intro (sl:=[(0,_)]) func30 rfl ntmps30 rfl rfl ?_;intro ctx hK;refine wQ<|wR<|ws (aR 25 2 rfl)<|wN<|wQ<|wR<|ws (aR 25 2 rfl)<|wN<|wQ ?_;refine wQ<|wR<|wm ?_;refine ws (lM (enc:=EV.e) (L:=l1) underlying32 rfl)<|wm ?_;refine wN ?_;refine wJ (zH h) (fun(out2:List DT) (_:Unit)=>⟨23,[(3,.row 3 (out2.length))],[(3,.row 25 2 (List.map DT.e out2))]⟩) (fun h=>?_) ?_
 ·refine wB<|wM (fun(⟨v15,out16⟩:Int×List DT) (_:Unit)=>⟨23,[(3,.row 3 (out16.length)),(6,.d (.sl (List.map EV.e l1))),(7,.d (.v (.int .i64 (l1.length:Int)))),(8,.d (.v (.int .i64 v15)))],[(3,.row 25 2 (List.map DT.e out16))]⟩) () h (sP) ?_;rintro N ⟨v15,out16⟩ _ h;refine wQ<|wR<|ws (LR.lss rfl rfl)<|wN<|wQ ?_;refine xD h rfl (fun _ h=>?_) (fun _ h=>?_)
  ·refine wK<|wQ<|wB<|wQ<|wR ?_;obtain⟨x18,hy19,h⟩:=yK h;refine ws (iX (enc:=EV.e) (L:=l1) (y:=x18) underlying32 sizeOf28 rfl rfl hy19 (fun _=>rfl))<|ws (lE (ys:=[_,_,_,_,_,_,_]) isAgg28 sizeOf28 rfl rfl rfl)<|ws (LR.allocZ (cs:=[_,_,_,_,_,_,_]) zeroValue28 rfl rfl rfl rfl)<|ws (sB (ns:=[_,_,_,_,_,_,_]) sizeOf28 rfl rfl rfl rfl rfl rfl rfl)<|wN<|wz (tl:=[(3,_),(5,_),(6,_),(7,_),(8,_)]) (to:=[(3,_),(5,_)]) ?_;refine PWc.regionE [⟨[12],[],[],[],[],[3],[],[]⟩,⟨[13],[],[],[],[],[5],[],[]⟩,⟨[14],[],[5],[],[],[],[],[]⟩,{ws:=[15]},⟨[3,12,16],[3],[3],[],[(3,[3,12])],[3],[],[]⟩,⟨[17],[],[],[],[],[5],[],[]⟩,⟨[18],[],[5],[],[],[],[],[]⟩,⟨[3,12,16,19],[3],[3],[],[(3,[3,12,16])],[3],[],[]⟩,⟨[3],[],[],[],[],[3],[],[]⟩] (by kernel_rfl) (by kernel_rfl) rfl<|km ?_;refine kp (fun _ U W=>fR underlying28 rfl sizeOf25 (by decide) rfl U) ?_;refine kp (fun _ U W=>lA (ps:=[_,_]) isAgg25 sizeOf25 U (W rfl rfl) rfl rfl) ?_;refine kp (fun _ U W=>LR.buildSliceD [.tmp 14] uO rfl rfl (.cons U rfl rfl<|.nil) (by decide) (by decide)) ?_;obtain⟨hy20,h⟩:=zp h;refine PQe.stepA [3,12] (fun _ U W ha=>LR.appT (enc:=DT.e) (L:=out16) (R:=[x18.dot]) [3,12] uO underlying26 (U rfl rfl) rfl (W rfl rfl) (Src.slT (enc:=DT.e) (R:=[x18.dot]) (U rfl rfl) (fun _=>rfl)) (fun _=>rfl) hy20 rfl ha) rfl (.inl rfl) rfl ?_;refine kp (fun _ U W=>fR underlying28 rfl sizeOf26 (by decide) rfl U) ?_;refine kp (fun _ U W=>lD isAgg26 U (W rfl rfl) rfl) ?_;obtain⟨hy21,h⟩:=zp h;refine PQe.stepA [3,12,16] (fun _ U W ha=>LR.appT (enc:=DT.e) (L:=(out16++[x18.dot])) (R:=x18.kills) [3,12,16] uO underlying26 (U rfl rfl) rfl (W rfl rfl) (Src.slT (enc:=DT.e) (R:=x18.kills) (U rfl rfl) (fun _=>rfl)) (fun _=>rfl) hy21 rfl ha) rfl (.inl rfl) rfl ?_;refine kp (fun _ U W=>aS U)<|PQe.nil<|wR<|ws (LR.addW rfl rfl)<|wm ?_;refine wN ?_;exact⟨((IntKind.i64.wrap (v15+1)),((out16++[x18.dot])++x18.kills)),(),h,sP⟩
  ·refine wZ ?_;exact⟨out16,(),h,sP⟩
 ·rintro out2 _ h;refine wQ<|wR<|wm ?_;obtain⟨v22,hy23,h⟩:=za h;refine PWl.frz [3,21] hK (.cons rfl<|.cons rfl<|.nil) rfl (by simp) ?_;refine ws (LR.rowN (qa out2 v22 hy23) rfl call62 rfl rfl rfl rfl)<|wa ?_;refine wN<|wX ?_;cases h;exact⟨.inr rfl,2,rfl,.inr ⟨22,_,rfl,(by simp),rfl⟩⟩
theorem Yx(e1:EV)(cv2:Int)(cv3:Int)(r0:Bool)(h:(vH e1 cv2 cv3).wp (·=r0)):PFun prog 58 [.agg (List.map .d (EV.e e1)),.ep ((eK .u64) cv2) 0,.ep ((eK .u8) cv3) 0] (.d (.v (.bool r0))):=by
 refine fI (sl:=[(0,_),(1,_),(2,_)]) func58 rfl ntmps58 rfl rfl ?_;intro ctx hK;refine wQ<|wR<|ws (LR.box rfl rfl rfl rfl)<|wa ?_;refine wN<|wQ ?_;refine wJ (zH h) (fun(v4:Bool) (_:Unit)=>⟨15,[(4,.d (.v (.bool v4)))],[]⟩) (fun h=>?_) ?_
 ·refine wR<|ws (fR underlying28 rfl sizeOf23 (by decide) rfl rfl)<|ws (lD isAgg23 rfl rfl rfl)<|ws (LR.loadEp isAgg23 rfl rfl)<|ws (eQ rfl rfl)<|wm ?_;refine xG (d:=9) h rfl (fun _ h=>?_) (fun _ h=>?_)
  ·refine wt (fR underlying28 rfl sizeOf5 (by decide) rfl rfl)<|wt (lD isAgg5 rfl rfl rfl)<|wt (LR.loadEp isAgg5 rfl rfl)<|wt (eQ rfl rfl)<|ws (pT rfl rfl)<|wa ?_;refine wN ?_;exact⟨(decide (e1.field=cv3)),(),h,sP⟩
  ·refine wf<|wf<|wf<|wf<|ws (pF rfl rfl)<|wa ?_;refine wN ?_;exact⟨false,(),h,sP⟩
 ·rintro v4 _ h;refine wX ?_;cases h;exact xT
theorem uZ(l1:List EV)(cv2:Int)(cv3:Int)(r0:List DT)(h:(xC l1 cv2 cv3).wp (·=r0)):PRow prog 57 [.d (.sl (List.map EV.e l1)),.clo 58 [(eK .u64) cv2,(eK .u8) cv3]] 25 2 (List.map DT.e r0):=by
 refine PRow.intro (sl:=[(0,_),(1,_)]) func57 rfl ntmps57 rfl rfl ?_;intro ctx hK;refine wQ<|wR<|ws (aR 25 2 rfl)<|wN<|wQ<|wR<|ws (aR 28 7 rfl)<|wN<|wQ ?_;refine wQ<|wR<|wm ?_;refine ws (lM (enc:=EV.e) (L:=l1) underlying32 rfl)<|wm ?_;refine wN ?_;refine wJ (zH h) (fun(some4:List EV) (_:Unit)=>⟨29,[(5,.row 5 (some4.length))],[(5,.row 28 7 (List.map EV.e some4))]⟩) (fun h=>?_) ?_
 ·refine wB<|wM (fun(⟨v27,some28⟩:Int×List EV) (_:Unit)=>⟨29,[(1,.clo 58 [(eK .u64) cv2,(eK .u8) cv3]),(5,.row 5 (some28.length)),(8,.d (.sl (List.map EV.e l1))),(9,.d (.v (.int .i64 (l1.length:Int)))),(10,.d (.v (.int .i64 v27)))],[(5,.row 28 7 (List.map EV.e some28))]⟩) () h (sP) ?_;rintro N ⟨v27,some28⟩ _ h;refine wQ<|wR<|ws (LR.lss rfl rfl)<|wN<|wQ ?_;refine xD h rfl (fun _ h=>?_) (fun _ h=>?_)
  ·refine wK<|wQ ?_;refine wJ (zH h) (fun(some30:List EV) (_:Unit)=>⟨29,[(1,.clo 58 [(eK .u64) cv2,(eK .u8) cv3]),(5,.row 5 (some30.length)),(8,.d (.sl (List.map EV.e l1))),(9,.d (.v (.int .i64 (l1.length:Int)))),(10,.d (.v (.int .i64 v27)))],[(5,.row 28 7 (List.map EV.e some30))]⟩) (fun h=>?_) ?_
   ·refine wB<|wQ<|wR ?_;obtain⟨x31,hy32,h⟩:=yK h;refine ws (iX (enc:=EV.e) (L:=l1) (y:=x31) underlying32 sizeOf28 rfl rfl hy32 (fun _=>rfl))<|ws (lE (ys:=[_,_,_,_,_,_,_]) isAgg28 sizeOf28 rfl rfl rfl)<|ws (LR.allocZ (cs:=[_,_,_,_,_,_,_]) zeroValue28 rfl rfl rfl rfl)<|ws (sB (ns:=[_,_,_,_,_,_,_]) sizeOf28 rfl rfl rfl rfl rfl rfl rfl)<|wN<|wQ ?_;refine wJ (zH h) (fun(v33:Bool) (_:Unit)=>⟨29,[(1,.clo 58 [(eK .u64) cv2,(eK .u8) cv3]),(5,.row 5 (some28.length)),(7,.ref 7 0),(8,.d (.sl (List.map EV.e l1))),(9,.d (.v (.int .i64 (l1.length:Int)))),(10,.d (.v (.int .i64 v27))),(21,.d (.v (.bool v33)))],[(5,.row 28 7 (List.map EV.e some28)),(7,.cells 28 [.d (.v (.int .u16 x31.dot.dev)),.d (.v (.int .u64 x31.dot.n)),.d (.v (.int .u8 x31.kind)),.d (.v (.int .u64 x31.cid)),.d (.v (.int .u8 x31.field)),.d (.v (.string x31.text)),.d (.sl (List.map DT.e x31.kills))])]⟩) (fun h=>?_) ?_
    ·refine wR<|ws (fR underlying28 rfl sizeOf5 (by decide) rfl rfl)<|ws (lD isAgg5 rfl rfl rfl)<|ws (eQ rfl rfl)<|wm ?_;refine xG (d:=17) h rfl (fun _ h=>?_) (fun _ h=>?_)
     ·refine wt (mV rfl)<|wt (lA (ps:=[_,_,_,_,_,_,_]) isAgg28 sizeOf28 rfl rfl rfl rfl) ?_;obtain⟨v35,hy36,h⟩:=za h;refine wt (LR.callC (Yx x31 cv2 cv3 v35 hy36) rfl call58 rfl rfl rfl rfl rfl)<|ws (pT rfl rfl)<|wN ?_;exact⟨v35,(),h,sP⟩
     ·refine wf<|wf<|wf<|ws (pF rfl rfl)<|wN ?_;exact⟨false,(),h,sP⟩
    ·rintro v33 _ h;refine xD h rfl (fun _ h=>?_) (fun _ h=>?_)
     ·refine wR<|wm ?_;refine ws (lA (ps:=[_,_,_,_,_,_,_]) isAgg28 sizeOf28 rfl rfl rfl rfl)<|ws (LR.buildSliceD [.tmp 23] xA rfl rfl (.cons rfl rfl rfl<|.nil) (by decide) (by decide)) ?_;obtain⟨hy38,h⟩:=zp h;refine ws (LR.appT (enc:=EV.e) (L:=some28) (R:=[x31]) [5,22] xA underlying32 rfl rfl rfl (Src.slT (enc:=EV.e) (R:=[x31]) rfl (fun _=>rfl)) (fun _=>rfl) hy38 rfl rfl)<|wa ?_;refine wN ?_;exact⟨(some28++[x31]),(),h,sP⟩
     ·refine wK ?_;exact⟨some28,(),h,sP⟩
   ·rintro some30 _ h;refine wR<|ws (LR.addW rfl rfl)<|wm ?_;refine wN ?_;exact⟨((IntKind.i64.wrap (v27+1)),some30),(),h,sP⟩
  ·refine wZ ?_;exact⟨some28,(),h,sP⟩
 ·rintro some4 _ h;refine wQ<|wR<|wm ?_;obtain⟨v39,hy40,h⟩:=za h;refine PWl.frz [5,27] hK (.cons rfl<|.cons rfl<|.nil) rfl (by simp) ?_;refine ws (LR.rowN (vX some4 v39 hy40) rfl call30 rfl rfl rfl rfl)<|wa ?_;refine wN<|wX ?_;cases h;exact⟨.inr rfl,4,rfl,.inr ⟨28,_,rfl,(by simp),rfl⟩⟩
theorem jR(l1:List EV)(cid2:Int)(f3:Int)(r0:List DT)(h:(ui l1 cid2 f3).wp (·=r0)):PRow prog 26 [.d (.sl (List.map EV.e l1)),.d (.v (.int .u64 cid2)),.d (.v (.int .u8 f3))] 25 2 (List.map DT.e r0):=by
 refine PRow.intro (sl:=[(0,_),(1,_),(2,_)]) func26 rfl ntmps26 rfl rfl ?_;intro ctx hK;refine wQ<|wR<|ws (LR.box rfl rfl rfl rfl)<|ws (LR.box rfl rfl rfl rfl)<|ws (aR 25 2 rfl)<|wN<|wQ<|wR<|wm ?_;refine PWl.sub (Sub.frzR (id:=4) ((eK .u64) cid2) [4] hK rfl rfl (.cons rfl<|.nil))<|PWl.sub (Sub.frzR (id:=5) ((eK .u8) f3) [5] hK rfl rfl (.cons rfl<|.nil))<|ws (LR.makeClo (cs:=[(eK .u64) cid2,(eK .u8) f3]) rfl)<|wy (tl:=[(6,_),(7,_),(8,_)]) (to:=[(6,_)]) ?_;obtain⟨v4,hy5,h⟩:=za h;refine ws (LR.rowN (uZ l1 cid2 f3 v4 hy5) rfl call57 rfl rfl rfl rfl)<|wy (tl:=[(7,_),(8,_),(9,_)]) (to:=[(9,_)]) ?_;refine wa ?_;refine wN<|wX ?_;cases h;exact⟨.inr rfl,6,rfl,.inr ⟨9,_,rfl,(by simp),rfl⟩⟩
theorem Zm(e1:EV)(cv2:Int)(r0:Bool)(h:(xn e1 cv2).wp (·=r0)):PFun prog 59 [.agg (List.map .d (EV.e e1)),.ep ((eK .u64) cv2) 0] (.d (.v (.bool r0))):=by
 refine fI (sl:=[(0,_),(1,_)]) func59 rfl ntmps59 rfl rfl ?_;intro ctx hK;refine wQ<|wR<|ws (LR.box rfl rfl rfl rfl)<|wa ?_;refine wN<|wQ<|wR<|ws (fR underlying28 rfl sizeOf23 (by decide) rfl rfl)<|ws (lD isAgg23 rfl rfl rfl)<|ws (LR.loadEp isAgg23 rfl rfl)<|ws (eQ rfl rfl)<|wa ?_;refine wN<|wX ?_;cases h;exact xT
theorem vw(l1:List EV)(cv2:Int)(r0:List DT)(h:(yp l1 cv2).wp (·=r0)):PRow prog 57 [.d (.sl (List.map EV.e l1)),.clo 59 [(eK .u64) cv2]] 25 2 (List.map DT.e r0):=by
 refine PRow.intro (sl:=[(0,_),(1,_)]) func57 rfl ntmps57 rfl rfl ?_;intro ctx hK;refine wQ<|wR<|ws (aR 25 2 rfl)<|wN<|wQ<|wR<|ws (aR 28 7 rfl)<|wN<|wQ ?_;refine wQ<|wR<|wm ?_;refine ws (lM (enc:=EV.e) (L:=l1) underlying32 rfl)<|wm ?_;refine wN ?_;refine wJ (zH h) (fun(some3:List EV) (_:Unit)=>⟨29,[(5,.row 5 (some3.length))],[(5,.row 28 7 (List.map EV.e some3))]⟩) (fun h=>?_) ?_
 ·refine wB<|wM (fun(⟨v26,some27⟩:Int×List EV) (_:Unit)=>⟨29,[(1,.clo 59 [(eK .u64) cv2]),(5,.row 5 (some27.length)),(8,.d (.sl (List.map EV.e l1))),(9,.d (.v (.int .i64 (l1.length:Int)))),(10,.d (.v (.int .i64 v26)))],[(5,.row 28 7 (List.map EV.e some27))]⟩) () h (sP) ?_;rintro N ⟨v26,some27⟩ _ h;refine wQ<|wR<|ws (LR.lss rfl rfl)<|wN<|wQ ?_;refine xD h rfl (fun _ h=>?_) (fun _ h=>?_)
  ·refine wK<|wQ ?_;refine wJ (zH h) (fun(some29:List EV) (_:Unit)=>⟨29,[(1,.clo 59 [(eK .u64) cv2]),(5,.row 5 (some29.length)),(8,.d (.sl (List.map EV.e l1))),(9,.d (.v (.int .i64 (l1.length:Int)))),(10,.d (.v (.int .i64 v26)))],[(5,.row 28 7 (List.map EV.e some29))]⟩) (fun h=>?_) ?_
   ·refine wB<|wQ<|wR ?_;obtain⟨x30,hy31,h⟩:=yK h;refine ws (iX (enc:=EV.e) (L:=l1) (y:=x30) underlying32 sizeOf28 rfl rfl hy31 (fun _=>rfl))<|ws (lE (ys:=[_,_,_,_,_,_,_]) isAgg28 sizeOf28 rfl rfl rfl)<|ws (LR.allocZ (cs:=[_,_,_,_,_,_,_]) zeroValue28 rfl rfl rfl rfl)<|ws (sB (ns:=[_,_,_,_,_,_,_]) sizeOf28 rfl rfl rfl rfl rfl rfl rfl)<|wN<|wQ ?_;refine wJ (zH h) (fun(v32:Bool) (_:Unit)=>⟨29,[(1,.clo 59 [(eK .u64) cv2]),(5,.row 5 (some27.length)),(7,.ref 7 0),(8,.d (.sl (List.map EV.e l1))),(9,.d (.v (.int .i64 (l1.length:Int)))),(10,.d (.v (.int .i64 v26))),(21,.d (.v (.bool v32)))],[(5,.row 28 7 (List.map EV.e some27)),(7,.cells 28 [.d (.v (.int .u16 x30.dot.dev)),.d (.v (.int .u64 x30.dot.n)),.d (.v (.int .u8 x30.kind)),.d (.v (.int .u64 x30.cid)),.d (.v (.int .u8 x30.field)),.d (.v (.string x30.text)),.d (.sl (List.map DT.e x30.kills))])]⟩) (fun h=>?_) ?_
    ·refine wR<|ws (fR underlying28 rfl sizeOf5 (by decide) rfl rfl)<|ws (lD isAgg5 rfl rfl rfl)<|ws (eQ rfl rfl)<|wm ?_;refine xG (d:=17) h rfl (fun _ h=>?_) (fun _ h=>?_)
     ·refine wt (mV rfl)<|wt (lA (ps:=[_,_,_,_,_,_,_]) isAgg28 sizeOf28 rfl rfl rfl rfl) ?_;obtain⟨v34,hy35,h⟩:=za h;refine wt (LR.callC (Zm x30 cv2 v34 hy35) rfl call59 rfl rfl rfl rfl rfl)<|ws (pT rfl rfl)<|wN ?_;exact⟨v34,(),h,sP⟩
     ·refine wf<|wf<|wf<|ws (pF rfl rfl)<|wN ?_;exact⟨false,(),h,sP⟩
    ·rintro v32 _ h;refine xD h rfl (fun _ h=>?_) (fun _ h=>?_)
     ·refine wR<|wm ?_;refine ws (lA (ps:=[_,_,_,_,_,_,_]) isAgg28 sizeOf28 rfl rfl rfl rfl)<|ws (LR.buildSliceD [.tmp 23] xA rfl rfl (.cons rfl rfl rfl<|.nil) (by decide) (by decide)) ?_;obtain⟨hy37,h⟩:=zp h;refine ws (LR.appT (enc:=EV.e) (L:=some27) (R:=[x30]) [5,22] xA underlying32 rfl rfl rfl (Src.slT (enc:=EV.e) (R:=[x30]) rfl (fun _=>rfl)) (fun _=>rfl) hy37 rfl rfl)<|wa ?_;refine wN ?_;exact⟨(some27++[x30]),(),h,sP⟩
     ·refine wK ?_;exact⟨some27,(),h,sP⟩
   ·rintro some29 _ h;refine wR<|ws (LR.addW rfl rfl)<|wm ?_;refine wN ?_;exact⟨((IntKind.i64.wrap (v26+1)),some29),(),h,sP⟩
  ·refine wZ ?_;exact⟨some27,(),h,sP⟩
 ·rintro some3 _ h;refine wQ<|wR<|wm ?_;obtain⟨v38,hy39,h⟩:=za h;refine PWl.frz [5,27] hK (.cons rfl<|.cons rfl<|.nil) rfl (by simp) ?_;refine ws (LR.rowN (vX some3 v38 hy39) rfl call30 rfl rfl rfl rfl)<|wa ?_;refine wN<|wX ?_;cases h;exact⟨.inr rfl,4,rfl,.inr ⟨28,_,rfl,(by simp),rfl⟩⟩
theorem Ve(l1:List EV)(cid2:Int)(r0:List DT)(h:(wv l1 cid2).wp (·=r0)):PRow prog 27 [.d (.sl (List.map EV.e l1)),.d (.v (.int .u64 cid2))] 25 2 (List.map DT.e r0):=by
 refine PRow.intro (sl:=[(0,_),(1,_)]) func27 rfl ntmps27 rfl rfl ?_;intro ctx hK;refine wQ<|wR<|ws (LR.box rfl rfl rfl rfl)<|ws (aR 25 2 rfl)<|wN<|wQ<|wR<|wm ?_;refine PWl.sub (Sub.frzR (id:=3) ((eK .u64) cid2) [3] hK rfl rfl (.cons rfl<|.nil))<|ws (LR.makeClo (cs:=[(eK .u64) cid2]) rfl)<|wy (tl:=[(4,_),(5,_),(6,_)]) (to:=[(4,_)]) ?_;obtain⟨v3,hy4,h⟩:=za h;refine ws (LR.rowN (vw l1 cid2 v3 hy4) rfl call57 rfl rfl rfl rfl)<|wy (tl:=[(5,_),(6,_),(7,_)]) (to:=[(7,_)]) ?_;refine wa ?_;refine wN<|wX ?_;cases h;exact⟨.inr rfl,4,rfl,.inr ⟨7,_,rfl,(by simp),rfl⟩⟩
theorem WY(m1:List (Int×List RN))(r0:List PT)(h:(uj m1).wp (·=r0)):PRow prog 65 [.md [.u16] false (zI kI (eL RN.e) m1)] 56 2 (List.map PT.e r0):=by
 refine PRow.intro (sl:=[(0,_)]) func65 rfl ntmps65 rfl rfl ?_;intro ctx hK;refine wQ<|wR<|ws (aR 56 2 rfl)<|wN<|wQ<|wR<|ws (aR 56 2 rfl)<|wN<|wQ ?_;refine wQ<|wR<|wm ?_;refine PWl.rangeD underlying91 rfl rfl rfl (fun bs2 ck2 hbl2 hbn2=>?_);refine wN ?_;refine wJ (zH h) (fun(c3:List PT) (_:Unit)=>⟨27,[(3,.row 3 (c3.length))],[(3,.row 56 2 (List.map PT.e c3))]⟩) (fun h=>?_) ?_
 ·refine wB<|wM (fun(⟨seen28,c29⟩:List Nat×List PT) (_:Unit)=>⟨27,[(3,.row 3 (c29.length)),(7,.ref 7 0)],[(3,.row 56 2 (List.map PT.e c29)),(7,.iterD [.u16] false (zI kI (eL RN.e) m1) bs2 ck2 seen28)]⟩) () h (sP) ?_;rintro N ⟨seen28,c29⟩ _ h;refine wQ<|wR ?_;obtain⟨hy40,h⟩:=zp h;replace h:=iNxt h;refine PWl.nextD rfl rfl (nxtD hy40) rfl (fun hy31=>?_) (fun j30 hy32 hy33=>?_)
  ·replace h:=h.1 (nxtA hy31);refine ws (LR.extract rfl rfl)<|wN<|wQ<|PWc.condF rfl<|wZ ?_;exact⟨c29,(),h,sP⟩
  ·replace h:=h.2 j30 (nxtB hy32) hy33;refine ws (LR.extract rfl rfl)<|wN<|wQ<|PWc.condT rfl<|wK<|wB<|wQ<|wR ?_;obtain⟨kv34,hy35,h⟩:=yK h;refine ws (LR.entryD rfl rfl (UV hy35) rfl rfl)<|ws (LR.extract rfl rfl)<|ws (LR.extract rfl rfl)<|wa ?_;refine wa ?_;refine wN<|wQ<|wR<|wm ?_;obtain⟨v36,hy37,h⟩:=za h;refine ws (LR.rowN (Zl kv34.2 v36 hy37) rfl call81 rfl rfl rfl rfl)<|wa ?_;refine wN<|wQ<|wR<|wm ?_;refine ws (LR.lenRow underlying54 rfl)<|ws (LR.gtr rfl rfl)<|wN ?_;refine xD h rfl (fun _ h=>?_) (fun _ h=>?_)
   ·refine wR<|wm ?_;refine wm ?_;refine wm ?_;refine PWl.frz [5,14,15,20] hK (.cons rfl<|.cons rfl<|.cons rfl<|.cons rfl<|.nil) rfl (by simp) ?_;refine ws (LR.build (ns:=[_,_]) qR rfl rfl rfl)<|ws (LR.buildSliceD [.tmp 21] VU rfl rfl (.cons rfl rfl rfl<|.nil) (by decide) (by decide)) ?_;obtain⟨hy39,h⟩:=zp h;refine ws (LR.appT (enc:=PT.e) (L:=c29) (R:=[(⟨kv34.1,v36⟩:PT)]) [3,18] VU underlying30 rfl rfl rfl (Src.slT (enc:=PT.e) (R:=[(⟨kv34.1,v36⟩:PT)]) rfl (fun _=>rfl)) (fun _=>rfl) hy39 rfl rfl)<|wy (tl:=[(7,_),(23,_)]) (to:=[(3,_),(7,_)]) ?_;refine wa ?_;refine wN ?_;exact⟨((seen28++[j30]),(c29++[(⟨kv34.1,v36⟩:PT)])),(),h,sP⟩
   ·refine wK ?_;exact⟨((seen28++[j30]),c29),(),h,sP⟩
 ·rintro c3 _ h;refine wQ<|wR<|wm ?_;obtain⟨hy42,h⟩:=zp h;refine PWl.sortFnR (encD:=PT.e) (enc:=RawTPart.v) (lt:=UY) (R:=RawTPart.R) (l:=c3) srt89_90 RawTPart.raw rlt89 (fun _=>rfl) (fun _=>rfl) rfl call89 rfl rfl rfl (by simp) hy42 rfl (fun s41 hy43 hy44=>?_);replace h:=iSrt h s41 hy43 hy44;have hy43l:=hy43.length_eq;refine wN<|wQ<|wR<|wm ?_;refine wa ?_;refine wN<|wX ?_;cases h;exact⟨.inr rfl,2,rfl,.inr ⟨3,_,rfl,(by first | (simp;done) | (simp;omega) | omega),rfl⟩⟩
theorem ZK(c1:List PT)(r0:List PT)(h:(ZC c1).wp (·=r0)):PRow prog 33 [.d (.sl (List.map PT.e c1))] 56 2 (List.map PT.e r0):=by
 refine PRow.intro (sl:=[(0,_)]) func33 rfl ntmps33 rfl rfl ?_;intro ctx hK;refine wQ<|wR<|ws (aR 56 2 rfl)<|wN<|wQ<|wR<|wm ?_;obtain⟨v2,hy3,h⟩:=za h;refine PWl.mapN (Vd c1 v2 hy3) rfl call66 rfl rfl rfl rfl rfl (fun bs4 ck4 _=>?_);obtain⟨v5,hy6,h⟩:=za h;refine PWl.frzM [4] hK (.cons rfl<|.nil) rfl<|ws (LR.rowN (WY v2 v5 hy6) rfl call65 rfl rfl rfl rfl)<|wy (tl:=[(0,_),(3,_),(4,_),(5,_)]) (to:=[(5,_)]) ?_;refine wa ?_;refine wN<|wX ?_;cases h;exact⟨.inr rfl,2,rfl,.inr ⟨5,_,rfl,(by simp),rfl⟩⟩
theorem vy(n1:Int)(r0:List PT)(h:(yI n1).wp (·=r0)):PRow prog 85 [.d (.v (.slice none 0 0)),.d (.v (.int .i64 n1))] 56 2 (List.map PT.e r0):=by
 refine PRow.intro (sl:=[(0,_),(1,_)]) func85 rfl ntmps85 rfl rfl ?_;intro ctx hK;refine wQ<|wR<|ws (aR 56 2 rfl)<|wN<|wQ<|wQ<|wR<|wm ?_;refine ws (LR.lss rfl rfl)<|wN ?_;refine xD h rfl (fun _ h=>?_) (fun _ h=>?_)
 ·exact h.elim
 ·refine wK<|wQ<|wQ<|wR<|wm ?_;refine wm ?_;refine ws (LR.capNil underlying30 rfl)<|wm ?_;refine ws (LR.lenNil underlying30 rfl)<|ws (LR.subW rfl rfl)<|ws (LR.subW rfl rfl)<|wa ?_;refine wN<|wQ<|wR<|wm ?_;refine ws (LR.gtr rfl rfl)<|wN ?_;refine wJ (zH h) (fun(v3:List PT) (_:Unit)=>⟨27,[(0,.row 22 (v3.length))],[(22,.row 56 2 (List.map PT.e v3))]⟩) (fun h=>?_) ?_
  ·refine xD h rfl (fun _ h=>?_) (fun _ h=>?_)
   ·refine wR<|wm ?_;refine wm ?_;refine ws (LR.capNil underlying30 rfl)<|ws (LR.sliceNil underlying30 sizeOf56 rfl rfl)<|wm ?_;obtain⟨hy5,h⟩:=zp h;refine ws (LR.appMakeT (enc:=PT.e) (z:=(⟨0,([]:List RN)⟩:PT)) hy5 VU underlying3 zeroValue56 rfl rfl rfl rfl rfl rfl rfl)<|wy (tl:=[(0,_),(22,_)]) (to:=[(22,_)]) ?_;refine wm ?_;refine ws (LR.lenNil underlying30 rfl) ?_;obtain⟨hy6,h⟩:=zp h;refine ws (LR.cutRowT (enc:=PT.e) (L:=(List.replicate (Int.toNat ((IntKind.i64.wrap (n1 - (IntKind.i64.wrap (0 - 0)))))) (⟨0,([]:List RN)⟩:PT))) [22] underlying30 sizeOf56 rfl (by first | (simp;done) | (simp;omega) | omega) rfl rfl hy6 rfl) ?_;refine wa ?_;refine wN ?_;exact⟨(List.take (Int.toNat 0) ((List.replicate (Int.toNat ((IntKind.i64.wrap (n1 - (IntKind.i64.wrap (0 - 0)))))) (⟨0,([]:List RN)⟩:PT)))),(),h,sO rfl (.cons rfl (by first | rfl | (simp;done) | (congr 1;first | (simp;done) | (simp;omega) | omega))<|.nil) (.cons rfl rfl<|.nil)⟩
   ·refine wK ?_;exact⟨[],(),h,Sub.trans (Sub.nilRow 0 22 56 2 rfl rfl)<|sP⟩
  ·rintro v3 _ h;refine wQ<|wR<|wm ?_;refine wa ?_;refine wN<|wX ?_;cases h;exact⟨.inr rfl,4,rfl,.inr ⟨22,_,rfl,(by simp),rfl⟩⟩
theorem ua(slices1:List (List PT))(r0:List PT)(h:(yV slices1).wp (·=r0)):PRow prog 60 [.d (.sl (List.map (eL PT.e) slices1))] 56 2 (List.map PT.e r0):=by
 refine PRow.intro (sl:=[(0,_)]) func60 rfl ntmps60 rfl rfl ?_;intro ctx hK;refine wQ<|wR<|ws (aR 56 2 rfl)<|wN<|wQ<|wR<|wa ?_;refine wN<|wQ<|wQ<|wR<|wm ?_;refine ws (lM (enc:=(eL PT.e)) (L:=slices1) underlying110 rfl)<|wm ?_;refine wN ?_;refine wJ (zH h) (fun(size2:Int) (_:Unit)=>⟨36,[(0,.d (.sl (List.map (eL PT.e) slices1))),(3,.d (.v (.int .i64 size2)))],[]⟩) (fun h=>?_) ?_
 ·refine wB<|wM (fun(⟨size13,v14⟩:Int×Int) (_:Unit)=>⟨36,[(0,.d (.sl (List.map (eL PT.e) slices1))),(3,.d (.v (.int .i64 size13))),(9,.d (.sl (List.map (eL PT.e) slices1))),(10,.d (.v (.int .i64 (slices1.length:Int)))),(11,.d (.v (.int .i64 v14)))],[]⟩) () h (sP) ?_;rintro N ⟨size13,v14⟩ _ h;refine wQ<|wR<|ws (LR.lss rfl rfl)<|wN<|wQ ?_;refine xD h rfl (fun _ h=>?_) (fun _ h=>?_)
  ·refine wK<|wQ<|wB<|wQ<|wR ?_;obtain⟨x16,hy17,h⟩:=yK h;refine ws (iX (enc:=(eL PT.e)) (L:=slices1) (y:=x16) underlying110 sizeOf30 rfl rfl hy17 (fun _=>rfl))<|ws (LR.loadEp isAgg30 rfl rfl)<|wa ?_;refine wN<|wQ<|wR<|wm ?_;refine wm ?_;refine ws (lM (enc:=PT.e) (L:=x16) underlying30 rfl)<|ws (LR.addW rfl rfl)<|wa ?_;refine wN<|wQ<|wR<|wm ?_;refine ws (LR.lss rfl rfl)<|wN ?_;refine xD h rfl (fun _ h=>?_) (fun _ h=>?_)
   ·exact h.elim
   ·refine wK<|wR<|ws (LR.addW rfl rfl)<|wm ?_;refine wN ?_;exact⟨((IntKind.i64.wrap (size13+(x16.length:Int))),(IntKind.i64.wrap (v14+1))),(),h,sP⟩
  ·refine wZ ?_;exact⟨size13,(),h,sP⟩
 ·rintro size2 _ h;refine wQ<|wR<|wm ?_;obtain⟨v19,hy20,h⟩:=za h;refine ws (LR.rowT (vy size2 v19 hy20) rfl call85 rfl rfl rfl)<|wa ?_;refine wN<|wQ<|wQ<|wR<|wm ?_;refine ws (lM (enc:=(eL PT.e)) (L:=slices1) underlying110 rfl)<|wm ?_;refine wN ?_;refine wJ (zH h) (fun(v21:List PT) (_:Unit)=>⟨36,[(6,.row 24 (v21.length))],[(24,.row 56 2 (List.map PT.e v21))]⟩) (fun h=>?_) ?_
  ·refine wB<|wM (fun(⟨v32,v33⟩:Int×List PT) (_:Unit)=>⟨36,[(6,.row 24 (v33.length)),(25,.d (.sl (List.map (eL PT.e) slices1))),(26,.d (.v (.int .i64 (slices1.length:Int)))),(27,.d (.v (.int .i64 v32)))],[(24,.row 56 2 (List.map PT.e v33))]⟩) () h (sP) ?_;rintro N ⟨v32,v33⟩ _ h;refine wQ<|wR<|ws (LR.lss rfl rfl)<|wN<|wQ ?_;refine xD h rfl (fun _ h=>?_) (fun _ h=>?_)
   ·refine wK<|wQ<|wB<|wQ<|wR ?_;obtain⟨x35,hy36,h⟩:=yK h;refine ws (iX (enc:=(eL PT.e)) (L:=slices1) (y:=x35) underlying110 sizeOf30 rfl rfl hy36 (fun _=>rfl))<|ws (LR.loadEp isAgg30 rfl rfl)<|wa ?_;refine wN<|wR<|wm ?_;refine wm ?_;obtain⟨hy37,h⟩:=zp h;refine ws (LR.appT (enc:=PT.e) (L:=v33) (R:=x35) [6,31] VU underlying30 rfl rfl rfl (Src.slT (enc:=PT.e) (R:=x35) rfl (fun _=>rfl)) (fun _=>rfl) hy37 rfl rfl)<|wa ?_;refine wN<|wR<|ws (LR.addW rfl rfl)<|wm ?_;refine wN ?_;exact⟨((IntKind.i64.wrap (v32+1)),(v33++x35)),(),h,sP⟩
   ·refine wZ ?_;exact⟨v33,(),h,sP⟩
  ·rintro v21 _ h;refine wQ<|wR<|wm ?_;refine wa ?_;refine wN<|wX ?_;cases h;exact⟨.inr rfl,2,rfl,.inr ⟨24,_,rfl,(by simp),rfl⟩⟩
theorem Vf(a1:List PT)(b2:List PT)(r0:List PT)(h:(XU a1 b2).wp (·=r0)):PRow prog 28 [.d (.sl (List.map PT.e a1)),.d (.sl (List.map PT.e b2))] 56 2 (List.map PT.e r0):=by
 refine PRow.intro (sl:=[(0,_),(1,_)]) func28 rfl ntmps28 rfl rfl ?_;intro ctx hK;refine wQ<|wR<|ws (aR 56 2 rfl)<|wN<|wQ<|wR<|wm ?_;refine wm ?_;refine ws (LR.buildSliceD [.tmp 5,.tmp 6] elem110 rfl rfl (.cons rfl rfl rfl<|.cons rfl rfl rfl<|.nil) (by decide) (by decide)) ?_;obtain⟨v3,hy4,h⟩:=za h;refine ws (LR.rowN (ua ([a1,b2]) v3 hy4) rfl call60 rfl rfl rfl rfl) ?_;obtain⟨v5,hy6,h⟩:=za h;refine PWl.frz [8] hK (.cons rfl<|.nil) rfl (by simp) ?_;refine ws (LR.rowN (ZK v3 v5 hy6) rfl call33 rfl rfl rfl rfl)<|wy (tl:=[(0,_),(1,_),(5,_),(6,_),(7,_),(8,_),(9,_)]) (to:=[(9,_)]) ?_;refine wa ?_;refine wN<|wX ?_;cases h;exact⟨.inr rfl,4,rfl,.inr ⟨9,_,rfl,(by simp),rfl⟩⟩
theorem yka(l1:List DT)(r0:List PT)(h:(Qc l1).wp (·=r0)):PRow prog 61 [.d (.sl (List.map DT.e l1))] 56 2 (List.map PT.e r0):=by
 refine PRow.intro (sl:=[(0,_)]) func61 rfl ntmps61 rfl rfl ?_;intro ctx hK;refine wQ<|wR<|ws (aR 56 2 rfl)<|wN<|wQ<|wR<|ws (LR.makeMap [.u16] false rfl)<|wa ?_;refine wN<|wQ<|wQ<|wR<|wm ?_;refine ws (lM (enc:=DT.e) (L:=l1) underlying26 rfl)<|wm ?_;refine wN<|wB ?_;obtain⟨hy16,h⟩:=zp h;have hN:=hy16.1;refine PWc.loopRows (bid:=0) (N:=l1.length) (mid:=6) (n:=32) (ks:=[.u16]) (e:=80) (k:=2) (fun i=>[(3,.mp 6),(7,.d (.sl (List.map DT.e l1))),(8,.d (.v (.int .i64 (l1.length:Int)))),(9,.d (.v (.int .i64 (i:Int))))]) (fun i=>wH kI RN.e (AL.grow [] ((List.take i l1).filterMap xp))) [(3,.mp 6)] [] 0 hK (by decide) (fun i x hx id h=>by simp only[List.mem_cons,List.not_mem_nil,or_false] at hx;rcases hx with rfl | rfl | rfl | rfl <;> first | (simp[PV.has] at h;done) | (simp[PV.has] at h;exact h.symm) | (simp[PV.has] at h;omega)) rfl (fun i=>WX (fun x d hd=>by simp only[RN.e,List.mem_cons,List.not_mem_nil,or_false] at hd;rcases hd with rfl | rfl <;> exact⟨_,rfl⟩) _) (sP) (fun i hi=>?_) (zI kI (eL RN.e) (AL.grow ([]:List (Int×List RN)) (List.filterMap xp l1))) (by simp only[List.take_length];exact Qj _) (fun ctx vm bs ck=>?_) (fun bs ck=>?_)
 ·obtain⟨p,hp⟩:∃ p,l1[i]?=some p:=⟨_,List.getElem?_eq_getElem hi⟩
  have hidx:(0:Int)<=(i:Int)/\l1[(i:Int).toNat]?=some p:=⟨by omega,by simpa using hp⟩
  have htk:=AL.grow_take hp xp;have hwi:=Vc (i:=i) (by omega)
  by_cases hd:uk p=true
  ·have hf:xp p=some (p.dev,[(⟨p.n,p.n⟩:RN)]):=by simp[xp,hd]
   have hgood:(xM p).wp (·=true):=by rw[WW];exact hd
   have hbd:=AL.grow_bound hy16 hp hf;rw[hf] at htk;rcases WG (eK:=kI) (enc:=RN.e) yJa (p.dev) (AL.grow [] ((List.take i l1).filterMap xp)) with⟨j,l,h1,h2,h3,h4⟩ | ⟨h1,h2,h3⟩
   ·simp only[h3] at hbd;refine .found (nl:=l.length) (nl':=(List.length (l++[(⟨p.n,p.n⟩:RN)]))) (l:=(List.map RN.e l)) (l':=(List.map RN.e (l++[(⟨p.n,p.n⟩:RN)]))) (by simp) (by simp) h2 (by rw[htk];simp only[AL.grow,Option.toList,List.foldl] at h3 h4 ⊢;rw[h3];exact h4 _) fun ctx vm bs ck hvm=>?_
    have hpf:yY (kI (p.dev)) (vn vm) 0=some j:=by rw[Xb hvm];exact h1
    have h:(M.bind (M.idx l1 (i:Int)) fun x2=>M.bind (M.det (xM x2)) fun v4=>M.yo ((l.length+List.length ([(⟨x2.n,x2.n⟩:RN)]))*16<=140737488355328)<|M.pure ()).wp (fun _=>True):=⟨p,hidx,_,hgood,hbd,trivial⟩
    refine wQ<|wR<|ws (LR.lss rfl rfl)<|wN<|wQ<|PWc.condT (congrArg (fun b=>some (PV.d (.v (.bool b)))) (decide_eq_true (Int.ofNat_lt.2 hi)))<|wK<|wQ<|wB ?_;refine wQ<|wR ?_;obtain⟨x2,hy3,h⟩:=yK h;have hE:=idxU hy3 hidx;subst hE;refine ws (iX (enc:=DT.e) (L:=l1) (y:=x2) underlying26 sizeOf25 rfl rfl hy3 (fun _=>rfl))<|ws (lE (ys:=[_,_]) isAgg25 sizeOf25 rfl rfl rfl)<|ws (LR.allocZ (cs:=[_,_]) zeroValue25 rfl rfl rfl rfl)<|ws (sB (ns:=[_,_]) sizeOf25 rfl rfl rfl rfl rfl rfl rfl)<|wN<|wQ<|wR<|ws (lA (ps:=[_,_]) isAgg25 sizeOf25 rfl rfl rfl rfl) ?_;obtain⟨v4,hy5,h⟩:=za h;have hEd:=detU hy5 hgood;refine xN (wc x2 v4 hy5) call51<|wN<|PWc.condT (congrArg (fun b=>some (PV.d (.v (.bool b)))) hEd)<|wz (tl:=[(3,_),(5,_),(7,_),(8,_),(9,_)]) (to:=[(5,_),(6,_),(50,_)]) ?_;refine PWc.regionE [⟨[15],[],[],[],[],[6],[],[]⟩,⟨[16],[],[],[],[],[5],[],[]⟩,⟨[17],[],[5],[],[],[],[],[]⟩,⟨[18],[],[],[],[],[6],[],[]⟩,⟨[19],[],[],[],[],[5],[],[]⟩,⟨[20],[],[5],[],[],[],[],[]⟩,⟨[21],[],[6],[],[],[50],[],[]⟩,⟨[22],[],[],[],[],[5],[],[]⟩,⟨[23],[],[5],[],[],[],[],[]⟩,⟨[24],[],[],[],[],[5],[],[]⟩,⟨[25],[],[5],[],[],[],[],[]⟩,{ws:=[26]},{ws:=[27]},⟨[21,28],[6,50],[6,50],[],[(50,[21])],[50],[],[6]⟩,⟨[],[6],[6,50],[],[],[],[50],[]⟩] (by kernel_rfl) (by kernel_rfl) rfl<|km ?_;refine kp (fun _ U W=>fR underlying25 rfl sizeOf22 (by decide) rfl U) ?_;refine kp (fun _ U W=>lD isAgg22 U (W rfl rfl) rfl)<|km ?_;refine kp (fun _ U W=>fR underlying25 rfl sizeOf22 (by decide) rfl U) ?_;refine kp (fun _ U W=>lD isAgg22 U (W rfl rfl) rfl) ?_;refine kp (fun _ U W=>LR.lookupP underlying91 jF U (W rfl rfl) U rfl hpf rfl) ?_;refine kp (fun _ U W=>fR underlying25 rfl sizeOf23 (by decide) rfl U) ?_;refine kp (fun _ U W=>lD isAgg23 U (W rfl rfl) rfl) ?_;refine kp (fun _ U W=>fR underlying25 rfl sizeOf23 (by decide) rfl U) ?_;refine kp (fun _ U W=>lD isAgg23 U (W rfl rfl) rfl) ?_;refine kp (fun _ U W=>LR.build (ns:=[_,_]) jE rfl (evpE (fun a b=>U a b) rfl rfl) rfl) ?_;refine kp (fun _ U W=>LR.buildSliceD [.tmp 26] vO rfl rfl (.cons U rfl rfl<|.nil) (by decide) (by decide)) ?_;obtain⟨hy6,h⟩:=zp h;refine PQe.stepX [21] (fun _ U W ha=>LR.appP (enc:=RN.e) (L:=l) (R:=[(⟨x2.n,x2.n⟩:RN)]) [21] vO underlying54 (U rfl rfl) rfl (W rfl rfl) (W rfl rfl) rfl (fun _ h1 h2=>Src.slT (enc:=RN.e) (R:=[(⟨x2.n,x2.n⟩:RN)]) (yha h1 h2 (U rfl rfl)) (fun _=>rfl)) (fun _=>rfl) hy6 rfl ha) rfl rfl (.inl rfl) rfl ?_;refine ks (fun _ U W=>LR.mapUpdateP underlying91 jF U (W rfl rfl) U rfl rfl U hpf)<|PQe.nil<|wR<|ws (LR.addW rfl rfl)<|wm ?_;refine wN ?_;exact⟨rfl,sO rfl (.c2 rfl rfl rfl rfl<|.cons rfl rfl<|.cons rfl (congrArg (fun z=>PV.d (.v (.int .i64 z))) hwi)<|.nil) (.c2 rfl rfl rfl rfl<|.nil)⟩
   ·simp only[h2,List.length_nil,Nat.zero_add] at hbd;refine .fresh (q:=28) (nl':=(List.length ([(⟨p.n,p.n⟩:RN)]))) (l':=(List.map RN.e ([(⟨p.n,p.n⟩:RN)]))) (by simp) (by decide) (by rw[htk];simp only[AL.grow,Option.toList,List.foldl] at h2 h3 ⊢;rw[h2];exact h3 _) fun ctx vm bs ck hvm=>?_
    have hpf:yY (kI (p.dev)) (vn vm) 0=none:=by rw[Xb hvm];exact h1
    have h:(M.bind (M.idx l1 (i:Int)) fun x7=>M.bind (M.det (xM x7)) fun v9=>M.yo (List.length ([(⟨x7.n,x7.n⟩:RN)])*16<=140737488355328)<|M.pure ()).wp (fun _=>True):=⟨p,hidx,_,hgood,hbd,trivial⟩
    refine wQ<|wR<|ws (LR.lss rfl rfl)<|wN<|wQ<|PWc.condT (congrArg (fun b=>some (PV.d (.v (.bool b)))) (decide_eq_true (Int.ofNat_lt.2 hi)))<|wK<|wQ<|wB ?_;refine wQ<|wR ?_;obtain⟨x7,hy8,h⟩:=yK h;have hE:=idxU hy8 hidx;subst hE;refine ws (iX (enc:=DT.e) (L:=l1) (y:=x7) underlying26 sizeOf25 rfl rfl hy8 (fun _=>rfl))<|ws (lE (ys:=[_,_]) isAgg25 sizeOf25 rfl rfl rfl)<|ws (LR.allocZ (cs:=[_,_]) zeroValue25 rfl rfl rfl rfl)<|ws (sB (ns:=[_,_]) sizeOf25 rfl rfl rfl rfl rfl rfl rfl)<|wN<|wQ<|wR<|ws (lA (ps:=[_,_]) isAgg25 sizeOf25 rfl rfl rfl rfl) ?_;obtain⟨v9,hy10,h⟩:=za h;have hEd:=detU hy10 hgood;refine xN (wc x7 v9 hy10) call51<|wN<|PWc.condT (congrArg (fun b=>some (PV.d (.v (.bool b)))) hEd)<|wz (tl:=[(3,_),(5,_),(7,_),(8,_),(9,_)]) (to:=[(5,_),(6,_)]) ?_;refine PWc.regionE [⟨[15],[],[],[],[],[6],[],[]⟩,⟨[16],[],[],[],[],[5],[],[]⟩,⟨[17],[],[5],[],[],[],[],[]⟩,⟨[18],[],[],[],[],[6],[],[]⟩,⟨[19],[],[],[],[],[5],[],[]⟩,⟨[20],[],[5],[],[],[],[],[]⟩,⟨[21],[],[6],[],[],[],[],[]⟩,⟨[22],[],[],[],[],[5],[],[]⟩,⟨[23],[],[5],[],[],[],[],[]⟩,⟨[24],[],[],[],[],[5],[],[]⟩,⟨[25],[],[5],[],[],[],[],[]⟩,{ws:=[26]},{ws:=[27]},⟨[28],[28],[],[28],[],[28],[],[]⟩,⟨[],[6],[6,28],[],[],[],[28],[]⟩] (by kernel_rfl) (by kernel_rfl) rfl<|km ?_;refine kp (fun _ U W=>fR underlying25 rfl sizeOf22 (by decide) rfl U) ?_;refine kp (fun _ U W=>lD isAgg22 U (W rfl rfl) rfl)<|km ?_;refine kp (fun _ U W=>fR underlying25 rfl sizeOf22 (by decide) rfl U) ?_;refine kp (fun _ U W=>lD isAgg22 U (W rfl rfl) rfl) ?_;refine kp (fun _ U W=>LR.lookupPN underlying91 jF U (W rfl rfl) U rfl zeroValue54 rfl hpf) ?_;refine kp (fun _ U W=>fR underlying25 rfl sizeOf23 (by decide) rfl U) ?_;refine kp (fun _ U W=>lD isAgg23 U (W rfl rfl) rfl) ?_;refine kp (fun _ U W=>fR underlying25 rfl sizeOf23 (by decide) rfl U) ?_;refine kp (fun _ U W=>lD isAgg23 U (W rfl rfl) rfl) ?_;refine kp (fun _ U W=>LR.build (ns:=[_,_]) jE rfl (evpE (fun a b=>U a b) rfl rfl) rfl) ?_;refine kp (fun _ U W=>LR.buildSliceD [.tmp 26] vO rfl rfl (.cons U rfl rfl<|.nil) (by decide) (by decide)) ?_;obtain⟨hy11,h⟩:=zp h;refine PQe.stepN (fun _ U W hf=>LR.appNilX (enc:=RN.e) (R:=[(⟨x7.n,x7.n⟩:RN)]) vO underlying54 (U rfl rfl) hf (Src.slT (enc:=RN.e) (R:=[(⟨x7.n,x7.n⟩:RN)]) (evObjs (U rfl rfl)) (fun _=>rfl)) (fun _=>rfl) hy11 rfl (Vb hf)) rfl (.inl rfl) rfl ?_;refine ks (fun _ U W=>LR.mapUpdatePN underlying91 jF U (W rfl rfl) U rfl rfl U hpf)<|PQe.nil<|wR<|ws (LR.addW rfl rfl)<|wm ?_;refine wN ?_;exact⟨rfl,sO rfl (.c2 rfl rfl rfl rfl<|.cons rfl rfl<|.cons rfl (congrArg (fun z=>PV.d (.v (.int .i64 z))) hwi)<|.nil) (.c2 rfl rfl rfl rfl<|.nil)⟩
  ·have hf:xp p=none:=by simp[xp,hd]
   have hgood:(xM p).wp (·=false):=by rw[WW];exact Bool.eq_false_iff.2 hd
   rw[hf] at htk;refine .skip (by rw[htk];rfl) fun ctx vm bs ck=>?_
   have h:(M.bind (M.idx l1 (i:Int)) fun x12=>M.bind (M.det (xM x12)) fun v14=>M.pure ()).wp (fun _=>True):=⟨p,hidx,_,hgood,trivial⟩
   refine wQ<|wR<|ws (LR.lss rfl rfl)<|wN<|wQ<|PWc.condT (congrArg (fun b=>some (PV.d (.v (.bool b)))) (decide_eq_true (Int.ofNat_lt.2 hi)))<|wK<|wQ<|wB ?_;refine wQ<|wR ?_;obtain⟨x12,hy13,h⟩:=yK h;have hE:=idxU hy13 hidx;subst hE;refine ws (iX (enc:=DT.e) (L:=l1) (y:=x12) underlying26 sizeOf25 rfl rfl hy13 (fun _=>rfl))<|ws (lE (ys:=[_,_]) isAgg25 sizeOf25 rfl rfl rfl)<|ws (LR.allocZ (cs:=[_,_]) zeroValue25 rfl rfl rfl rfl)<|ws (sB (ns:=[_,_]) sizeOf25 rfl rfl rfl rfl rfl rfl rfl)<|wN<|wQ<|wR<|ws (lA (ps:=[_,_]) isAgg25 sizeOf25 rfl rfl rfl rfl) ?_;obtain⟨v14,hy15,h⟩:=za h;have hEd:=detU hy15 hgood;refine xN (wc x12 v14 hy15) call51<|wN<|PWc.condF (congrArg (fun b=>some (PV.d (.v (.bool b)))) hEd)<|wK<|wR<|ws (LR.addW rfl rfl)<|wm ?_;refine wN ?_;exact⟨rfl,sO rfl (.c2 rfl rfl rfl rfl<|.cons rfl rfl<|.cons rfl (congrArg (fun z=>PV.d (.v (.int .i64 z))) hwi)<|.nil) (.cons rfl rfl<|.nil)⟩
 ·have h:(M.pure ()).wp (fun _=>True):=trivial;refine wQ<|wR<|ws (LR.lss rfl rfl)<|wN<|wQ<|PWc.condF (congrArg (fun b=>some (PV.d (.v (.bool b)))) (decide_eq_false (by omega))) ?_;refine wZ ?_;exact⟨rfl,sP⟩
 ·refine wQ<|wR<|wm ?_;obtain⟨v17,hy18,h⟩:=za h;refine PWl.frzM [3,30] hK (.cons rfl<|.cons rfl<|.nil) rfl<|ws (LR.rowN (WY ((AL.grow ([]:List (Int×List RN)) (List.filterMap xp l1))) v17 hy18) rfl call65 rfl rfl rfl rfl)<|wa ?_;refine wN<|wX ?_;cases h;exact⟨.inr rfl,2,rfl,.inr ⟨31,_,rfl,(by simp),rfl⟩⟩
theorem UZ(c1:List PT)(l2:List DT)(r0:List PT)(h:(VW c1 l2).wp (·=r0)):PRow prog 29 [.d (.sl (List.map PT.e c1)),.d (.sl (List.map DT.e l2))] 56 2 (List.map PT.e r0):=by
 refine PRow.intro (sl:=[(0,_),(1,_)]) func29 rfl ntmps29 rfl rfl ?_;intro ctx hK;refine wQ<|wR<|ws (aR 56 2 rfl)<|wN<|wQ<|wR<|wm ?_;refine wm ?_;obtain⟨v3,hy4,h⟩:=za h;refine ws (LR.rowN (yka l2 v3 hy4) rfl call61 rfl rfl rfl rfl) ?_;obtain⟨v5,hy6,h⟩:=za h;refine PWl.frz [7] hK (.cons rfl<|.nil) rfl (by simp) ?_;refine ws (LR.rowN (Vf c1 v3 v5 hy6) rfl call28 rfl rfl rfl rfl)<|wy (tl:=[(0,_),(1,_),(5,_),(6,_),(7,_),(8,_)]) (to:=[(8,_)]) ?_;refine wa ?_;refine wN<|wX ?_;cases h;exact⟨.inr rfl,4,rfl,.inr ⟨8,_,rfl,(by simp),rfl⟩⟩
theorem UJ(e1:EV)(c2:List PT)(r0:EV)(h:(ZD e1 c2).wp (·=r0)):PFun prog 64 [.agg (List.map .d (EV.e e1)),.d (.sl (List.map PT.e c2))] (.agg (List.map .d (EV.e r0))):=by
 refine fI (sl:=[(0,_),(1,_)]) func64 rfl ntmps64 rfl rfl ?_;intro ctx hK;refine wQ<|wR<|ws (LR.box rfl rfl rfl rfl)<|ws (LR.allocZ (cs:=[_,_,_,_,_,_,_]) zeroValue28 rfl rfl rfl rfl)<|wN<|wQ<|wR<|ws (lA (ps:=[_,_,_,_,_,_,_]) isAgg28 sizeOf28 rfl rfl rfl rfl) ?_;obtain⟨v3,hy4,h⟩:=za h;refine xN (xv e1 v3 hy4) call63<|ws (sB (ns:=[_,_,_,_,_,_,_]) sizeOf28 rfl rfl rfl rfl rfl rfl rfl)<|wN<|wQ<|wQ<|wR<|wm ?_;refine ws (fR underlying28 rfl sizeOf25 (by decide) rfl rfl)<|ws (lA (ps:=[_,_]) isAgg25 sizeOf25 rfl rfl rfl rfl) ?_;obtain⟨v5,hy6,h⟩:=za h;refine xN (vi c2 v3.dot v5 hy6) call25<|wN ?_;refine wJ (zH h) (fun(e7:List DT) (_:Unit)=>⟨13,[(2,.ref 2 0),(4,.ref 4 0)],[(2,.cells 28 [.d (.v (.int .u16 v3.dot.dev)),.d (.v (.int .u64 v3.dot.n)),.d (.v (.int .u8 v3.kind)),.d (.v (.int .u64 v3.cid)),.d (.v (.int .u8 v3.field)),.d (.v (.string v3.text)),.d (.sl (List.map DT.e e7))]),(4,.cells 28 [.d (.v (.int .u16 0)),.d (.v (.int .u64 0)),.d (.v (.int .u8 0)),.d (.v (.int .u64 0)),.d (.v (.int .u8 0)),.d (.v (.string (⟨#[]⟩:ByteArray))),.d (.sl (List.map DT.e ([]:List DT)))])]⟩) (fun h=>?_) ?_
 ·refine xD h rfl (fun _ h=>?_) (fun _ h=>?_)
  ·refine wR<|ws (fR underlying28 rfl sizeOf26 (by decide) rfl rfl)<|ws (sB (ns:=[_,_,_,_,_,_,_]) sizeOf26 rfl rfl rfl rfl rfl rfl rfl)<|PWl.sub (Sub.nilCell (id:=2) (j:=6) rfl rfl)<|wN ?_;exact⟨([]:List DT),(),h,sP⟩
  ·refine wK ?_;exact⟨v3.kills,(),h,sP⟩
 ·rintro e7 _ h;refine wQ<|wR<|ws (lA (ps:=[_,_,_,_,_,_,_]) isAgg28 sizeOf28 rfl rfl rfl rfl)<|ws (sB (ns:=[_,_,_,_,_,_,_]) sizeOf28 rfl rfl rfl rfl rfl rfl rfl)<|wN<|wX ?_;cases h;exact⟨.inr rfl,_,.cons (.agg isAgg28 sizeOf28 rfl rfl rfl rfl)<|.nil,rfl⟩
theorem vz(d1:DT)(r0:Bool)(h:(uQ d1).wp (·=r0)):PFun prog 41 [.agg (List.map .d (DT.e d1))] (.d (.v (.bool r0))):=by
 refine fI (sl:=[(0,_)]) func41 rfl ntmps41 rfl rfl ?_;intro ctx hK;refine wQ<|wR<|ws (LR.box rfl rfl rfl rfl)<|wa ?_;refine wN<|wQ ?_;refine wJ (zH h) (fun(v2:Bool) (_:Unit)=>⟨16,[(2,.d (.v (.bool v2)))],[]⟩) (fun h=>?_) ?_
 ·refine wR<|ws (fR underlying25 rfl sizeOf22 (by decide) rfl rfl)<|ws (lD isAgg22 rfl rfl rfl)<|ws (LR.geq rfl rfl)<|wm ?_;refine xG (d:=6) h rfl (fun _ h=>?_) (fun _ h=>?_)
  ·refine wt (fR underlying25 rfl sizeOf23 (by decide) rfl rfl)<|wt (lD isAgg23 rfl rfl rfl)<|wt (LR.geq rfl rfl)<|ws (pT rfl rfl)<|wm ?_;refine xG (d:=11) h rfl (fun _ h=>?_) (fun _ h=>?_)
   ·refine wt (fR underlying25 rfl sizeOf23 (by decide) rfl rfl)<|wt (lD isAgg23 rfl rfl rfl)<|wt (LR.lss rfl rfl)<|ws (pT rfl rfl)<|wa ?_;refine wN ?_;exact⟨(decide (d1.n < 281474976710656)),(),h,sP⟩
   ·refine wf<|wf<|wf<|ws (pF rfl rfl)<|wa ?_;refine wN ?_;exact⟨false,(),h,sP⟩
  ·refine wf<|wf<|wf<|ws (pF rfl rfl)<|wm ?_;refine wf<|wf<|wf<|ws (pF rfl rfl)<|wa ?_;refine wN ?_;exact⟨false,(),h,sP⟩
 ·rintro v2 _ h;refine wX ?_;cases h;exact xT
theorem Ua(x1:RN)(r0:Bool)(h:(VX x1).wp (·=r0)):PFun prog 78 [.agg (List.map .d (RN.e x1))] (.d (.v (.bool r0))):=by
 refine fI (sl:=[(0,_)]) func78 rfl ntmps78 rfl rfl ?_;intro ctx hK;refine wQ<|wR<|ws (LR.box rfl rfl rfl rfl)<|wa ?_;refine wN<|wQ ?_;refine wJ (zH h) (fun(v2:Bool) (_:Unit)=>⟨18,[(2,.d (.v (.bool v2)))],[]⟩) (fun h=>?_) ?_
 ·refine wR<|ws (fR underlying80 rfl sizeOf23 (by decide) rfl rfl)<|ws (lD isAgg23 rfl rfl rfl)<|ws (LR.geq rfl rfl)<|wm ?_;refine xG (d:=6) h rfl (fun _ h=>?_) (fun _ h=>?_)
  ·refine wt (fR underlying80 rfl sizeOf23 (by decide) rfl rfl)<|wt (lD isAgg23 rfl rfl rfl)<|wt (fR underlying80 rfl sizeOf23 (by decide) rfl rfl)<|wt (lD isAgg23 rfl rfl rfl)<|wt (LR.leq rfl rfl)<|ws (pT rfl rfl)<|wm ?_;refine xG (d:=13) h rfl (fun _ h=>?_) (fun _ h=>?_)
   ·refine wt (fR underlying80 rfl sizeOf23 (by decide) rfl rfl)<|wt (lD isAgg23 rfl rfl rfl)<|wt (LR.leq rfl rfl)<|ws (pT rfl rfl)<|wa ?_;refine wN ?_;exact⟨(decide (x1.hi<=281474976710655)),(),h,sP⟩
   ·refine wf<|wf<|wf<|ws (pF rfl rfl)<|wa ?_;refine wN ?_;exact⟨false,(),h,sP⟩
  ·refine wf<|wf<|wf<|wf<|wf<|ws (pF rfl rfl)<|wm ?_;refine wf<|wf<|wf<|ws (pF rfl rfl)<|wa ?_;refine wN ?_;exact⟨false,(),h,sP⟩
 ·rintro v2 _ h;refine wX ?_;cases h;exact xT
theorem WH(l1:List RN)(n2:Int)(r0:Bool)(h:(WD l1 n2).wp (·=r0)):PFun prog 48 [.d (.sl (List.map RN.e l1)),.d (.v (.int .u64 n2))] (.d (.v (.bool r0))):=by
 refine fI (sl:=[(0,_),(1,_)]) func48 rfl ntmps48 rfl rfl ?_;intro ctx hK;refine wQ<|wR<|wa ?_;refine wN<|wQ<|wQ<|wR<|wa ?_;refine wN ?_;refine PWc.jnX (zH h) (fun(_:Unit) (_:Unit)=>⟨35,[],[]⟩) (fun h=>?_) ?_
 ·refine wB<|wM (fun(i30:Int) (_:Unit)=>⟨35,[(0,.d (.sl (List.map RN.e l1))),(1,.d (.v (.int .u64 n2))),(5,.d (.v (.int .i64 i30)))],[]⟩) () h (sP) ?_;rintro N i30 _ h;refine wQ<|wQ<|wR<|wm ?_;refine wm ?_;refine ws (lM (enc:=RN.e) (L:=l1) underlying54 rfl)<|ws (LR.lss rfl rfl)<|wN ?_;refine xD h rfl (fun _ h=>?_) (fun _ h=>?_)
  ·refine wK<|wQ<|wB<|wQ ?_;refine wJ (zH h) (fun(v32:Bool) (_:Unit)=>⟨35,[(0,.d (.sl (List.map RN.e l1))),(1,.d (.v (.int .u64 n2))),(5,.d (.v (.int .i64 i30))),(34,.d (.v (.bool v32)))],[]⟩) (fun h=>?_) ?_
   ·refine wR<|wm ?_;refine wm ?_;obtain⟨x33,hy34,h⟩:=yK h;refine ws (iX (enc:=RN.e) (L:=l1) (y:=x33) underlying54 sizeOf80 rfl rfl hy34 (fun _=>rfl))<|ws (lE (ys:=[_,_]) isAgg80 sizeOf80 rfl rfl rfl) ?_;obtain⟨v35,hy36,h⟩:=za h;refine xN (Ua x33 v35 hy36) call78<|wm ?_;refine xG (d:=17) h rfl (fun _ h=>?_) (fun _ h=>?_)
    ·refine wt (mV rfl)<|wt (mV rfl) ?_;obtain⟨x38,hy39,h⟩:=yK h;refine wt (iX (enc:=RN.e) (L:=l1) (y:=x38) underlying54 sizeOf80 rfl rfl hy39 (fun _=>rfl))<|wt (fE underlying80 rfl sizeOf23 (by decide) rfl rfl)<|wt (LR.loadEp isAgg23 rfl rfl)<|wt (mV rfl)<|wt (LR.leq rfl rfl)<|wy (tl:=[(0,_),(1,_),(5,_),(17,_),(18,_),(19,_),(20,_),(21,_),(22,_),(23,_),(24,_)]) (to:=[]) ?_;refine ws (pT rfl rfl)<|wm ?_;refine xG (d:=26) h rfl (fun _ h=>?_) (fun _ h=>?_)
     ·refine wt (mV rfl)<|wt (mV rfl)<|wt (mV rfl) ?_;obtain⟨x41,hy42,h⟩:=yK h;refine wt (iX (enc:=RN.e) (L:=l1) (y:=x41) underlying54 sizeOf80 rfl rfl hy42 (fun _=>rfl))<|wt (fE underlying80 rfl sizeOf23 (by decide) rfl rfl)<|wt (LR.loadEp isAgg23 rfl rfl)<|wt (LR.leq rfl rfl)<|ws (pT rfl rfl)<|wN ?_;exact⟨(decide (n2<=x41.hi)),(),h,sP⟩
     ·refine wf<|wf<|wf<|wf<|wf<|wf<|wf<|ws (pF rfl rfl)<|wN ?_;exact⟨false,(),h,sP⟩
    ·refine wf<|wf<|wf<|wf<|wf<|wf<|wf<|wy (tl:=[(0,_),(1,_),(5,_),(17,_),(18,_),(19,_),(20,_),(21,_),(22,_),(23,_),(24,_)]) (to:=[]) ?_;refine ws (pF rfl rfl)<|wm ?_;refine wf<|wf<|wf<|wf<|wf<|wf<|wf<|ws (pF rfl rfl)<|wN ?_;exact⟨false,(),h,sP⟩
   ·rintro v32 _ h;refine xD h rfl (fun _ h=>?_) (fun _ h=>?_)
    ·refine wQ<|wR<|wa ?_;refine wN<|wX ?_;cases h;exact xT
    ·refine wK<|wR<|wm ?_;refine ws (LR.addW rfl rfl)<|wa ?_;refine wN ?_;exact⟨(IntKind.i64.wrap (i30+1)),(),h,sP⟩
  ·refine wZ ?_;exact⟨(),(),h,sP⟩
 ·rintro _ _ h;refine wQ<|wR<|wa ?_;refine wN<|wX ?_;cases h;exact xT
theorem Ub(l1:List Int)(n2:Int)(r0:List Int)(h:(VY l1 n2).wp (·=r0)):PRow prog 143 [.d (.sl (List.map (eK .u64) l1)),.d (.v (.int .u64 n2))] 23 1 (List.map (eK .u64) r0):=by
 refine PRow.intro (sl:=[(0,_),(1,_)]) func143 rfl ntmps143 rfl rfl ?_;intro ctx hK;refine wQ<|wR<|ws (aR 23 1 rfl)<|wN<|wQ<|wR<|ws (aR 23 1 rfl)<|wN<|wQ ?_;refine wR<|wa ?_;refine wN<|wQ<|wQ<|wR<|wa ?_;refine wN ?_;refine wJ (zH h) (fun(⟨done3,out4⟩:Bool×List Int) (_:Unit)=>⟨48,[(1,.d (.v (.int .u64 n2))),(5,.row 5 (out4.length)),(6,.d (.v (.bool done3)))],[(5,.row 23 1 (List.map (eK .u64) out4))]⟩) (fun h=>?_) ?_
 ·refine wB<|wM (fun(⟨done43,i44,out45⟩:Bool×Int×List Int) (_:Unit)=>⟨48,[(0,.d (.sl (List.map (eK .u64) l1))),(1,.d (.v (.int .u64 n2))),(5,.row 5 (out45.length)),(6,.d (.v (.bool done43))),(7,.d (.v (.int .i64 i44)))],[(5,.row 23 1 (List.map (eK .u64) out45))]⟩) () h (sP) ?_;rintro N ⟨done43,i44,out45⟩ _ h;refine wQ<|wQ<|wR<|wm ?_;refine wm ?_;refine ws (lM (enc:=(eK .u64)) (L:=l1) underlying141 rfl)<|ws (LR.lss rfl rfl)<|wN ?_;refine xD h rfl (fun _ h=>?_) (fun _ h=>?_)
  ·refine wK<|wQ ?_;refine wJ (zH h) (fun(⟨done47,out48⟩:Bool×List Int) (_:Unit)=>⟨48,[(0,.d (.sl (List.map (eK .u64) l1))),(1,.d (.v (.int .u64 n2))),(5,.row 5 (out48.length)),(6,.d (.v (.bool done47))),(7,.d (.v (.int .i64 i44)))],[(5,.row 23 1 (List.map (eK .u64) out48))]⟩) (fun h=>?_) ?_
   ·refine wB<|wQ<|wQ ?_;refine wJ (zH h) (fun(v49:Bool) (_:Unit)=>⟨48,[(0,.d (.sl (List.map (eK .u64) l1))),(1,.d (.v (.int .u64 n2))),(5,.row 5 (out45.length)),(6,.d (.v (.bool done43))),(7,.d (.v (.int .i64 i44))),(23,.d (.v (.bool v49)))],[(5,.row 23 1 (List.map (eK .u64) out45))]⟩) (fun h=>?_) ?_
    ·refine wR<|wm ?_;refine ws (LR.not rfl)<|wm ?_;refine xG (d:=16) h rfl (fun _ h=>?_) (fun _ h=>?_)
     ·refine wt (mV rfl)<|wt (mV rfl) ?_;obtain⟨x51,hy52,h⟩:=yK h;refine wt (iX (enc:=(eK .u64)) (L:=l1) (y:=x51) underlying141 sizeOf23 rfl rfl hy52 (fun _=>rfl))<|wt (LR.loadEp isAgg23 rfl rfl)<|wt (mV rfl)<|wt (LR.geq rfl rfl)<|ws (pT rfl rfl)<|wN ?_;exact⟨(decide (n2<=x51)),(),h,sP⟩
     ·refine wf<|wf<|wf<|wf<|wf<|wf<|ws (pF rfl rfl)<|wN ?_;exact⟨false,(),h,sP⟩
    ·rintro v49 _ h;refine wJ (zH h) (fun(⟨done53,out54⟩:Bool×List Int) (_:Unit)=>⟨48,[(0,.d (.sl (List.map (eK .u64) l1))),(1,.d (.v (.int .u64 n2))),(5,.row 5 (out54.length)),(6,.d (.v (.bool done53))),(7,.d (.v (.int .i64 i44)))],[(5,.row 23 1 (List.map (eK .u64) out54))]⟩) (fun h=>?_) ?_
     ·refine xD h rfl (fun _ h=>?_) (fun _ h=>?_)
      ·refine wQ<|wR<|wm ?_;refine wm ?_;refine ws (LR.buildSliceD [.tmp 25] WB rfl rfl (.cons rfl rfl rfl<|.nil) (by decide) (by decide)) ?_;obtain⟨hy56,h⟩:=zp h;refine ws (LR.appT (enc:=(eK .u64)) (L:=out45) (R:=[n2]) [5,24] WB underlying141 rfl rfl rfl (Src.slT (enc:=(eK .u64)) (R:=[n2]) rfl (fun _=>rfl)) (fun _=>rfl) hy56 rfl rfl)<|wa ?_;refine wN<|wR<|wa ?_;refine wN ?_;exact⟨(true,(out45++[n2])),(),h,sP⟩
      ·refine wK ?_;exact⟨(done43,out45),(),h,sP⟩
     ·rintro⟨done53,out54⟩ _ h;refine wQ<|wR<|wm ?_;refine wm ?_;obtain⟨x57,hy58,h⟩:=yK h;refine ws (iX (enc:=(eK .u64)) (L:=l1) (y:=x57) underlying141 sizeOf23 rfl rfl hy58 (fun _=>rfl))<|ws (LR.loadEp isAgg23 rfl rfl)<|wm ?_;refine ws (nQ rfl rfl)<|wN ?_;refine xD h rfl (fun _ h=>?_) (fun _ h=>?_)
      ·refine wR<|wm ?_;refine wm ?_;refine wm ?_;obtain⟨x60,hy61,h⟩:=yK h;refine ws (iX (enc:=(eK .u64)) (L:=l1) (y:=x60) underlying141 sizeOf23 rfl rfl hy61 (fun _=>rfl))<|ws (LR.loadEp isAgg23 rfl rfl)<|ws (LR.buildSliceD [.tmp 38] WB rfl rfl (.cons rfl rfl rfl<|.nil) (by decide) (by decide)) ?_;obtain⟨hy62,h⟩:=zp h;refine ws (LR.appT (enc:=(eK .u64)) (L:=out54) (R:=[x60]) [5,34] WB underlying141 rfl rfl rfl (Src.slT (enc:=(eK .u64)) (R:=[x60]) rfl (fun _=>rfl)) (fun _=>rfl) hy62 rfl rfl)<|wa ?_;refine wN ?_;exact⟨(done53,(out54++[x60])),(),h,sP⟩
      ·refine wK ?_;exact⟨(done53,out54),(),h,sP⟩
   ·rintro⟨done47,out48⟩ _ h;refine wR<|wm ?_;refine ws (LR.addW rfl rfl)<|wa ?_;refine wN ?_;exact⟨(done47,(IntKind.i64.wrap (i44+1)),out48),(),h,sP⟩
  ·refine wZ ?_;exact⟨(done43,out45),(),h,sP⟩
 ·rintro⟨done3,out4⟩ _ h;refine wQ<|wQ<|wR<|wm ?_;refine ws (LR.not rfl)<|wN ?_;refine wJ (zH h) (fun(out63:List Int) (_:Unit)=>⟨48,[(5,.row 5 (out63.length))],[(5,.row 23 1 (List.map (eK .u64) out63))]⟩) (fun h=>?_) ?_
  ·refine xD h rfl (fun _ h=>?_) (fun _ h=>?_)
   ·refine wR<|wm ?_;refine wm ?_;refine ws (LR.buildSliceD [.tmp 44] WB rfl rfl (.cons rfl rfl rfl<|.nil) (by decide) (by decide)) ?_;obtain⟨hy65,h⟩:=zp h;refine ws (LR.appT (enc:=(eK .u64)) (L:=out4) (R:=[n2]) [5,43] WB underlying141 rfl rfl rfl (Src.slT (enc:=(eK .u64)) (R:=[n2]) rfl (fun _=>rfl)) (fun _=>rfl) hy65 rfl rfl)<|wa ?_;refine wN ?_;exact⟨(out4++[n2]),(),h,sP⟩
   ·refine wK ?_;exact⟨out4,(),h,sP⟩
  ·rintro out63 _ h;refine wQ<|wR<|wm ?_;refine wa ?_;refine wN<|wX ?_;cases h;exact⟨.inr rfl,4,rfl,.inr ⟨5,_,rfl,(by simp),rfl⟩⟩
theorem jS(a1:List RN)(b2:List RN)(r0:List Int)(h:(YL a1 b2).wp (·=r0)):PFun prog 120 [.d (.sl (List.map RN.e a1)),.d (.sl (List.map RN.e b2))] (.d (.sl (List.map (eK .u64) r0))):=by
 refine fI (sl:=[(0,_),(1,_)]) func120 rfl ntmps120 rfl rfl ?_;intro ctx hK;refine wQ<|wR<|ws (aR 23 1 rfl)<|wN<|wQ<|wR<|ws (aR 23 1 rfl)<|wN<|wQ ?_;refine wR<|ws (LR.buildSlice [] vO rfl rfl (.nil) (by decide) (by decide) rfl)<|wm ?_;obtain⟨hy3,h⟩:=zp h;refine ws (LR.appT (enc:=RN.e) (L:=([]:List RN)) (R:=a1) [8] vO underlying54 rfl (by first | (simp;done) | (simp;omega) | omega) rfl (Src.slT (enc:=RN.e) (R:=a1) rfl (fun _=>rfl)) (fun _=>rfl) hy3 rfl rfl) ?_;refine wm ?_;obtain⟨hy4,h⟩:=zp h;refine ws (LR.appT (enc:=RN.e) (L:=(([]:List RN)++a1)) (R:=b2) [10] vO underlying54 rfl rfl rfl (Src.slT (enc:=RN.e) (R:=b2) rfl (fun _=>rfl)) (fun _=>rfl) hy4 rfl rfl)<|wa ?_;refine wN<|wQ<|wQ<|wR<|wa ?_;refine wN ?_;refine wJ (zH h) (fun(out5:List Int) (_:Unit)=>⟨40,[(5,.d (.sl (List.map (eK .u64) out5)))],[]⟩) (fun h=>?_) ?_
 ·refine wB ?_;refine wM (fun(⟨out38,i39⟩:List Int×Int) (_:Unit)=>⟨40,[(5,.d (.sl (List.map (eK .u64) out38))),(6,.row 8 ((List.length ((([]:List RN)++a1)++b2)))),(7,.d (.v (.int .i64 i39)))],[(8,.row 80 2 (List.map RN.e (((([]:List RN)++a1)++b2))))]⟩) () h (Sub.trans (Sub.frz [5] hK rfl (by first | (simp;done) | (simp;omega) | omega) (AllRow.get (.cons rfl<|.nil)))<|sO rfl (.cons rfl rfl<|.cons rfl (by first | rfl | (simp;done) | (congr 1;first | (simp;done) | (simp;omega) | omega))<|.cons rfl rfl<|.nil) (.cons rfl rfl<|.nil)) ?_;rintro N ⟨out38,i39⟩ _ h;refine wQ<|wQ<|wR<|wm ?_;refine wm ?_;refine ws (LR.lenRow underlying54 rfl)<|ws (LR.lss rfl rfl)<|wN ?_;refine xD h rfl (fun _ h=>?_) (fun _ h=>?_)
  ·refine wK<|wQ ?_;refine wJ (zH h) (fun(out41:List Int) (_:Unit)=>⟨40,[(5,.d (.sl (List.map (eK .u64) out41))),(6,.row 8 ((List.length ((([]:List RN)++a1)++b2)))),(7,.d (.v (.int .i64 i39)))],[(8,.row 80 2 (List.map RN.e (((([]:List RN)++a1)++b2))))]⟩) (fun h=>?_) ?_
   ·refine wB<|wQ<|wR<|wm ?_;refine wm ?_;obtain⟨x42,hy43,h⟩:=yK h;refine ws (LR.idxRowT (L:=((([]:List RN)++a1)++b2)) (y:=x42) underlying54 sizeOf80 rfl (by first | (simp;done) | (simp;omega) | omega) rfl hy43) ?_;refine ws (LR.loadRpT (enc:=RN.e) (L:=((([]:List RN)++a1)++b2)) (y:=x42) isAgg80 sizeOf80 rfl rfl hy43.2) ?_;obtain⟨v44,hy45,h⟩:=za h;refine xN (Ua x42 v44 hy45) call78<|wN ?_;refine xD h rfl (fun _ h=>?_) (fun _ h=>?_)
    ·refine wQ<|wR<|wm ?_;refine wm ?_;refine wm ?_;obtain⟨x47,hy48,h⟩:=yK h;refine ws (LR.idxRowT (L:=((([]:List RN)++a1)++b2)) (y:=x47) underlying54 sizeOf80 rfl (by first | (simp;done) | (simp;omega) | omega) rfl hy48) ?_;refine ws (LR.fieldRp underlying80 rfl sizeOf23 (by decide) rfl rfl)<|ws (LR.loadRpF (enc:=RN.e) (L:=((([]:List RN)++a1)++b2)) (y:=x47) isAgg23 rfl rfl hy48.2 rfl) ?_;obtain⟨v49,hy50,h⟩:=za h;refine ws (LR.rowN (Ub out38 x47.lo v49 hy50) rfl call143 rfl rfl rfl rfl)<|wa ?_;refine wN<|wR<|wm ?_;refine wy (tl:=[(5,_),(6,_),(7,_),(31,_)]) (to:=[(8,_),(30,_)]) ?_;refine wm ?_;refine wm ?_;obtain⟨x51,hy52,h⟩:=yK h;refine ws (LR.idxRowT (L:=((([]:List RN)++a1)++b2)) (y:=x51) underlying54 sizeOf80 rfl (by first | (simp;done) | (simp;omega) | omega) rfl hy52) ?_;refine ws (LR.fieldRp underlying80 rfl sizeOf23 (by decide) rfl rfl)<|ws (LR.loadRpF (enc:=RN.e) (L:=((([]:List RN)++a1)++b2)) (y:=x51) isAgg23 rfl rfl hy52.2 rfl)<|ws (LR.addW rfl rfl) ?_;obtain⟨v53,hy54,h⟩:=za h;refine PWl.frz [5,31] hK (.cons rfl<|.cons rfl<|.nil) rfl (by simp) ?_;refine ws (LR.rowN (Ub v49 (IntKind.u64.wrap (x51.hi+1)) v53 hy54) rfl call143 rfl rfl rfl rfl)<|wa ?_;refine wN ?_;exact⟨v53,(),h,Sub.trans (Sub.frz [5,38] hK rfl (by simp) (AllRow.get (.cons rfl<|.cons rfl<|.nil)))<|sO rfl (.cons rfl rfl<|.cons rfl (by first | rfl | (simp;done) | (congr 1;first | (simp;done) | (simp;omega) | omega))<|.cons rfl rfl<|.nil) (.cons rfl rfl<|.nil)⟩
    ·refine wK ?_;exact⟨out38,(),h,sO rfl (.cons rfl rfl<|.cons rfl (by first | rfl | (simp;done) | (congr 1;first | (simp;done) | (simp;omega) | omega))<|.cons rfl rfl<|.nil) (.cons rfl rfl<|.nil)⟩
   ·rintro out41 _ h;refine wR<|wm ?_;refine ws (LR.addW rfl rfl)<|wa ?_;refine wN ?_;exact⟨(out41,(IntKind.i64.wrap (i39+1))),(),h,sO rfl (.cons rfl rfl<|.cons rfl (by first | rfl | (simp;done) | (congr 1;first | (simp;done) | (simp;omega) | omega))<|.cons rfl rfl<|.nil) (.cons rfl rfl<|.nil)⟩
  ·refine wZ ?_;exact⟨out38,(),h,sP⟩
 ·rintro out5 _ h;refine wQ<|wR<|wm ?_;refine wa ?_;refine wN<|wX ?_;cases h;exact xT
theorem WI(a1:List RN)(b2:List RN)(how3:Int)(r0:List RN)(h:(WE a1 b2 how3).wp (·=r0)):PRow prog 101 [.d (.sl (List.map RN.e a1)),.d (.sl (List.map RN.e b2)),.d (.v (.int .i64 how3))] 80 2 (List.map RN.e r0):=by
 refine PRow.intro (sl:=[(0,_),(1,_),(2,_)]) func101 rfl ntmps101 rfl rfl ?_;intro ctx hK;refine wQ<|wR<|ws (aR 80 2 rfl)<|wN<|wQ<|wR<|wm ?_;refine wm ?_;obtain⟨v4,hy5,h⟩:=za h;refine xN (jS a1 b2 v4 hy5) call120<|wa ?_;refine wN<|wQ<|wR<|ws (aR 80 2 rfl)<|wN<|wQ<|wQ<|wR<|wa ?_;refine wN ?_;refine wJ (zH h) (fun(out6:List RN) (_:Unit)=>⟨100,[(8,.row 8 (out6.length))],[(8,.row 80 2 (List.map RN.e out6))]⟩) (fun h=>?_) ?_
 ·refine wB<|wM (fun(⟨i85,out86⟩:Int×List RN) (_:Unit)=>⟨100,[(0,.d (.sl (List.map RN.e a1))),(1,.d (.sl (List.map RN.e b2))),(2,.d (.v (.int .i64 how3))),(7,.d (.sl (List.map (eK .u64) v4))),(8,.row 8 (out86.length)),(9,.d (.v (.int .i64 i85)))],[(8,.row 80 2 (List.map RN.e out86))]⟩) () h (sP) ?_;rintro N ⟨i85,out86⟩ _ h;refine wQ<|wQ<|wR<|wm ?_;refine ws (LR.addW rfl rfl)<|wm ?_;refine ws (lM (enc:=(eK .u64)) (L:=v4) underlying141 rfl)<|ws (LR.lss rfl rfl)<|wN ?_;refine xD h rfl (fun _ h=>?_) (fun _ h=>?_)
  ·refine wK<|wQ ?_;refine wJ (zH h) (fun(out88:List RN) (_:Unit)=>⟨100,[(0,.d (.sl (List.map RN.e a1))),(1,.d (.sl (List.map RN.e b2))),(2,.d (.v (.int .i64 how3))),(7,.d (.sl (List.map (eK .u64) v4))),(8,.row 8 (out88.length)),(9,.d (.v (.int .i64 i85)))],[(8,.row 80 2 (List.map RN.e out88))]⟩) (fun h=>?_) ?_
   ·refine wB<|wQ<|wD (by kernel_rfl) (by kernel_rfl)<|qm ?_;refine qm ?_;refine qm ?_;obtain⟨x89,hy90,h⟩:=yK h;refine qs (fun _ U W=>iX (enc:=(eK .u64)) (L:=v4) (y:=x89) underlying141 sizeOf23 U U hy90 (fun _=>rfl)) ?_;refine qs (fun _ U W=>LR.loadEp isAgg23 U rfl) ?_;obtain⟨v91,hy92,h⟩:=za h;refine qs (fun _ U W=>cN (WH a1 x89 v91 hy92) U call48 (xh (fun a b=>U a b) rfl rfl) rfl rfl rfl)<|qm ?_;refine qm ?_;refine qm ?_;obtain⟨x93,hy94,h⟩:=yK h;refine qs (fun _ U W=>iX (enc:=(eK .u64)) (L:=v4) (y:=x93) underlying141 sizeOf23 U U hy94 (fun _=>rfl)) ?_;refine qs (fun _ U W=>LR.loadEp isAgg23 U rfl) ?_;obtain⟨v95,hy96,h⟩:=za h;refine qs (fun _ U W=>cN (WH b2 x93 v95 hy96) U call48 (xh (fun a b=>U a b) rfl rfl) rfl rfl rfl) ?_;refine qs (fun _ U W=>aS U) ?_;refine qs (fun _ U W=>aS U)<|qN<|wQ<|wz (tl:=[(0,_),(1,_),(2,_),(7,_),(8,_),(9,_),(10,_),(11,_)]) (to:=[(8,_)]) ?_;refine wJ (zH h) (fun(in97:Bool) (_:Unit)=>⟨100,[(0,.d (.sl (List.map RN.e a1))),(1,.d (.sl (List.map RN.e b2))),(2,.d (.v (.int .i64 how3))),(7,.d (.sl (List.map (eK .u64) v4))),(8,.row 8 (out86.length)),(9,.d (.v (.int .i64 i85))),(10,.d (.v (.bool v91))),(11,.d (.v (.bool v95))),(12,.d (.v (.bool in97)))],[(8,.row 80 2 (List.map RN.e out86))]⟩) (fun h=>?_) ?_
    ·refine wR<|wm ?_;refine wm ?_;refine xG (d:=37) h rfl (fun _ h=>?_) (fun _ h=>?_)
     ·refine wf<|ws (pT rfl rfl)<|wa ?_;refine wN ?_;exact⟨true,(),h,sP⟩
     ·refine wt (mV rfl)<|ws (pF rfl rfl)<|wa ?_;refine wN ?_;exact⟨v95,(),h,sP⟩
    ·rintro in97 _ h;refine wQ<|wQ<|wR<|wm ?_;refine ws (eQ rfl rfl)<|wN ?_;refine wJ (zH h) (fun(in99:Bool) (_:Unit)=>⟨100,[(0,.d (.sl (List.map RN.e a1))),(1,.d (.sl (List.map RN.e b2))),(2,.d (.v (.int .i64 how3))),(7,.d (.sl (List.map (eK .u64) v4))),(8,.row 8 (out86.length)),(9,.d (.v (.int .i64 i85))),(10,.d (.v (.bool v91))),(11,.d (.v (.bool v95))),(12,.d (.v (.bool in99)))],[(8,.row 80 2 (List.map RN.e out86))]⟩) (fun h=>?_) ?_
     ·refine xD h rfl (fun _ h=>?_) (fun _ h=>?_)
      ·refine wJ (zH h) (fun(in101:Bool) (_:Unit)=>⟨100,[(0,.d (.sl (List.map RN.e a1))),(1,.d (.sl (List.map RN.e b2))),(2,.d (.v (.int .i64 how3))),(7,.d (.sl (List.map (eK .u64) v4))),(8,.row 8 (out86.length)),(9,.d (.v (.int .i64 i85))),(10,.d (.v (.bool v91))),(11,.d (.v (.bool v95))),(12,.d (.v (.bool in101)))],[(8,.row 80 2 (List.map RN.e out86))]⟩) (fun h=>?_) ?_
       ·refine wR<|wm ?_;refine wm ?_;refine xG (d:=43) h rfl (fun _ h=>?_) (fun _ h=>?_)
        ·refine wt (mV rfl)<|ws (pT rfl rfl)<|wa ?_;refine wN ?_;exact⟨v95,(),h,sP⟩
        ·refine wf<|ws (pF rfl rfl)<|wa ?_;refine wN ?_;exact⟨false,(),h,sP⟩
       ·rintro in101 _ h;exact⟨in101,(),h,sP⟩
      ·refine wK ?_;exact⟨in97,(),h,sP⟩
     ·rintro in99 _ h;refine wQ<|wQ<|wR<|wm ?_;refine ws (eQ rfl rfl)<|wN ?_;refine wJ (zH h) (fun(in103:Bool) (_:Unit)=>⟨100,[(0,.d (.sl (List.map RN.e a1))),(1,.d (.sl (List.map RN.e b2))),(2,.d (.v (.int .i64 how3))),(7,.d (.sl (List.map (eK .u64) v4))),(8,.row 8 (out86.length)),(9,.d (.v (.int .i64 i85))),(12,.d (.v (.bool in103)))],[(8,.row 80 2 (List.map RN.e out86))]⟩) (fun h=>?_) ?_
      ·refine xD h rfl (fun _ h=>?_) (fun _ h=>?_)
       ·refine wJ (zH h) (fun(in105:Bool) (_:Unit)=>⟨100,[(0,.d (.sl (List.map RN.e a1))),(1,.d (.sl (List.map RN.e b2))),(2,.d (.v (.int .i64 how3))),(7,.d (.sl (List.map (eK .u64) v4))),(8,.row 8 (out86.length)),(9,.d (.v (.int .i64 i85))),(12,.d (.v (.bool in105)))],[(8,.row 80 2 (List.map RN.e out86))]⟩) (fun h=>?_) ?_
        ·refine wR<|wm ?_;refine wm ?_;refine xG (d:=49) h rfl (fun _ h=>?_) (fun _ h=>?_)
         ·refine wt (mV rfl)<|wt (LR.not rfl)<|ws (pT rfl rfl)<|wa ?_;refine wN ?_;exact⟨(!v95),(),h,sP⟩
         ·refine wf<|wf<|ws (pF rfl rfl)<|wa ?_;refine wN ?_;exact⟨false,(),h,sP⟩
        ·rintro in105 _ h;exact⟨in105,(),h,sP⟩
       ·refine wK ?_;exact⟨in99,(),h,sP⟩
      ·rintro in103 _ h;refine wQ<|wR<|wm ?_;refine ws (LR.lenRow underlying54 rfl)<|ws (LR.subW rfl rfl)<|wa ?_;refine wN<|wQ ?_;refine wJ (zH h) (fun(v107:Bool) (_:Unit)=>⟨100,[(0,.d (.sl (List.map RN.e a1))),(1,.d (.sl (List.map RN.e b2))),(2,.d (.v (.int .i64 how3))),(7,.d (.sl (List.map (eK .u64) v4))),(8,.row 8 (out86.length)),(9,.d (.v (.int .i64 i85))),(12,.d (.v (.bool in103))),(13,.d (.v (.int .i64 ((IntKind.i64.wrap ((out86.length:Int) - 1)))))),(73,.d (.v (.bool v107)))],[(8,.row 80 2 (List.map RN.e out86))]⟩) (fun h=>?_) ?_
       ·refine wD (by kernel_rfl) (by kernel_rfl)<|qm ?_;refine qm ?_;refine xQ (d:=57) h rfl (fun _ h=>?_) (fun _ h=>?_)
        ·refine qt (fun _ U W=>mV U) ?_;refine qt (fun _ U W=>LR.geq U U) ?_;refine qs (fun _ U W=>pT U U)<|qm ?_;refine xQ (d:=61) h rfl (fun _ h=>?_) (fun _ h=>?_)
         ·refine qt (fun _ U W=>mV U) ?_;refine qt (fun _ U W=>mV U) ?_;obtain⟨x110,hy111,h⟩:=yK h;refine qt (fun _ U W=>LR.idxRowT (L:=out86) (y:=x110) underlying54 sizeOf80 U rfl U hy111) ?_;refine qt (fun _ U W=>LR.fieldRp underlying80 rfl sizeOf23 (by decide) rfl U) ?_;refine qt (fun _ U W=>LR.loadRpF (enc:=RN.e) (L:=out86) (y:=x110) isAgg23 U (W rfl) hy111.2 rfl) ?_;refine qt (fun _ U W=>LR.addW U U) ?_;refine qt (fun _ U W=>mV U) ?_;refine qt (fun _ U W=>mV U) ?_;obtain⟨x112,hy113,h⟩:=yK h;refine qt (fun _ U W=>iX (enc:=(eK .u64)) (L:=v4) (y:=x112) underlying141 sizeOf23 U U hy113 (fun _=>rfl)) ?_;refine qt (fun _ U W=>LR.loadEp isAgg23 U rfl) ?_;refine qt (fun _ U W=>eQ U U) ?_;refine qs (fun _ U W=>pT U U)<|qN ?_;exact⟨(decide ((IntKind.u64.wrap (x110.hi+1))=x112)),(),h,sP⟩
         ·refine kF<|kF<|kF<|kF<|kF<|kF<|kF<|kF<|kF ?_;refine kF<|kF ?_;refine qs (fun _ U W=>pF U U)<|qN ?_;exact⟨false,(),h,sP⟩
        ·refine kF<|kF ?_;refine qs (fun _ U W=>pF U U)<|qm ?_;refine kF<|kF<|kF<|kF<|kF<|kF<|kF<|kF<|kF ?_;refine kF<|kF ?_;refine qs (fun _ U W=>pF U U)<|qN ?_;exact⟨false,(),h,sP⟩
       ·rintro v107 _ h;refine xD h rfl (fun _ h=>?_) (fun _ h=>?_)
        ·refine wR<|wm ?_;refine wm ?_;refine wm ?_;refine wm ?_;refine ws (LR.addW rfl rfl) ?_;obtain⟨x115,hy116,h⟩:=yK h;refine ws (iX (enc:=(eK .u64)) (L:=v4) (y:=x115) underlying141 sizeOf23 rfl rfl hy116 (fun _=>rfl))<|ws (LR.loadEp isAgg23 rfl rfl)<|ws (LR.subW rfl rfl) ?_;obtain⟨x117,hy118,h⟩:=yK h;refine ws (LR.idxRowT (L:=out86) (y:=x117) underlying54 sizeOf80 rfl rfl rfl hy118)<|ws (LR.fieldRp underlying80 rfl sizeOf23 (by decide) rfl rfl)<|ws (LR.storeRpT (enc:=RN.e) (L:=out86) (a:=x117) (b:=(⟨x117.lo,(IntKind.u64.wrap (x115 - 1))⟩:RN)) sizeOf23 rfl rfl rfl rfl rfl hy118.2 rfl rfl)<|wN ?_;exact⟨(List.set out86 ((Int.toNat ((IntKind.i64.wrap ((out86.length:Int) - 1))))) ((⟨x117.lo,(IntKind.u64.wrap (x115 - 1))⟩:RN))),(),h,sO rfl (.c4 rfl rfl rfl rfl rfl rfl rfl rfl<|.cons rfl (by first | rfl | (simp;done) | (congr 1;first | (simp;done) | (simp;omega) | omega))<|.cons rfl rfl<|.nil) (.cons rfl rfl<|.nil)⟩
        ·refine wQ<|wR<|wm ?_;refine wN ?_;refine xD h rfl (fun _ h=>?_) (fun _ h=>?_)
         ·refine wz (tl:=[(0,_),(1,_),(2,_),(7,_),(8,_),(9,_)]) (to:=[(8,_)]) ?_;refine PWc.regionE [⟨[85],[],[],[],[],[8],[],[]⟩,{ws:=[86]},{ws:=[87]},{ws:=[88]},{ws:=[89]},{ws:=[90]},{ws:=[91]},{ws:=[92]},{ws:=[93]},{ws:=[94]},{ws:=[95]},{ws:=[96]},{ws:=[97]},⟨[8,85,98],[8],[8],[],[(8,[8,85])],[8],[],[]⟩,⟨[8],[],[],[],[],[8],[],[]⟩] (by kernel_rfl) (by kernel_rfl) rfl<|km ?_;refine km ?_;refine km ?_;obtain⟨x120,hy121,h⟩:=yK h;refine kp (fun _ U W=>iX (enc:=(eK .u64)) (L:=v4) (y:=x120) underlying141 sizeOf23 U U hy121 (fun _=>rfl)) ?_;refine kp (fun _ U W=>LR.loadEp isAgg23 U rfl)<|km ?_;refine km ?_;refine kp (fun _ U W=>LR.addW U U) ?_;obtain⟨x122,hy123,h⟩:=yK h;refine kp (fun _ U W=>iX (enc:=(eK .u64)) (L:=v4) (y:=x122) underlying141 sizeOf23 U U hy123 (fun _=>rfl)) ?_;refine kp (fun _ U W=>LR.loadEp isAgg23 U rfl) ?_;refine kp (fun _ U W=>LR.subW U U) ?_;refine kp (fun _ U W=>LR.build (ns:=[_,_]) jE rfl (evpE (fun a b=>U a b) rfl rfl) rfl) ?_;refine kp (fun _ U W=>LR.buildSliceD [.tmp 96] vO rfl rfl (.cons U rfl rfl<|.nil) (by decide) (by decide)) ?_;obtain⟨hy124,h⟩:=zp h;refine PQe.stepA [8,85] (fun _ U W ha=>LR.appT (enc:=RN.e) (L:=out86) (R:=[(⟨x120,(IntKind.u64.wrap (x122 - 1))⟩:RN)]) [8,85] vO underlying54 (U rfl rfl) rfl (W rfl rfl) (Src.slT (enc:=RN.e) (R:=[(⟨x120,(IntKind.u64.wrap (x122 - 1))⟩:RN)]) (U rfl rfl) (fun _=>rfl)) (fun _=>rfl) hy124 rfl ha) rfl (.inl rfl) rfl ?_;refine kp (fun _ U W=>aS U)<|PQe.nil ?_;exact⟨(out86++[(⟨x120,(IntKind.u64.wrap (x122 - 1))⟩:RN)]),(),h,sO rfl (.c4 rfl rfl rfl rfl rfl rfl rfl rfl<|.cons rfl (by first | rfl | (simp;done) | (congr 1;first | (simp;done) | (simp;omega) | omega))<|.cons rfl rfl<|.nil) (.cons rfl rfl<|.nil)⟩
         ·refine wK ?_;exact⟨out86,(),h,sP⟩
   ·rintro out88 _ h;refine wR<|wm ?_;refine ws (LR.addW rfl rfl)<|wa ?_;refine wN ?_;exact⟨((IntKind.i64.wrap (i85+1)),out88),(),h,sP⟩
  ·refine wZ ?_;exact⟨out86,(),h,sP⟩
 ·rintro out6 _ h;refine wQ<|wR<|wm ?_;refine wa ?_;refine wN<|wX ?_;cases h;exact⟨.inr rfl,6,rfl,.inr ⟨8,_,rfl,(by simp),rfl⟩⟩
theorem Vg(a1:List RN)(b2:List RN)(r0:List RN)(h:(XV a1 b2).wp (·=r0)):PRow prog 79 [.d (.sl (List.map RN.e a1)),.d (.sl (List.map RN.e b2))] 80 2 (List.map RN.e r0):=by
 refine PRow.intro (sl:=[(0,_),(1,_)]) func79 rfl ntmps79 rfl rfl ?_;intro ctx hK;refine wQ<|wR<|ws (aR 80 2 rfl)<|wN<|wQ<|wR<|wm ?_;refine wm ?_;obtain⟨v3,hy4,h⟩:=za h;refine ws (LR.rowN (WI a1 b2 0 v3 hy4) rfl call101 rfl rfl rfl rfl)<|wy (tl:=[(0,_),(1,_),(5,_),(6,_),(7,_)]) (to:=[(7,_)]) ?_;refine wa ?_;refine wN<|wX ?_;cases h;exact⟨.inr rfl,4,rfl,.inr ⟨7,_,rfl,(by simp),rfl⟩⟩
theorem Yy(c1:List PT)(dev2:Int)(r0:List RN)(h:(YN c1 dev2).wp (·=r0)):PFun prog 49 [.d (.sl (List.map PT.e c1)),.d (.v (.int .u16 dev2))] (.d (.sl (List.map RN.e r0))):=by
 refine fI (sl:=[(0,_),(1,_)]) func49 rfl ntmps49 rfl rfl ?_;intro ctx hK;refine wQ<|wR<|ws (aR 80 2 rfl)<|wN<|wQ<|wR<|ws (aR 80 2 rfl)<|wN<|wQ ?_;refine wQ<|wR<|wa ?_;refine wN ?_;refine wJ (zH h) (fun(out3:List RN) (_:Unit)=>⟨32,[(5,.d (.sl (List.map RN.e out3)))],[]⟩) (fun h=>?_) ?_
 ·refine wB ?_;refine wM (fun(⟨out28,i29⟩:List RN×Int) (_:Unit)=>⟨32,[(0,.d (.sl (List.map PT.e c1))),(1,.d (.v (.int .u16 dev2))),(5,.d (.sl (List.map RN.e out28))),(6,.d (.v (.int .i64 i29)))],[]⟩) () h (Sub.trans (Sub.frz [5] hK rfl (by first | (simp;done) | (simp;omega) | omega) (AllRow.get (.cons rfl<|.nil)))<|sP) ?_;rintro N ⟨out28,i29⟩ _ h;refine wQ<|wQ<|wR<|wm ?_;refine wm ?_;refine ws (lM (enc:=PT.e) (L:=c1) underlying30 rfl)<|ws (LR.lss rfl rfl)<|wN ?_;refine xD h rfl (fun _ h=>?_) (fun _ h=>?_)
  ·refine wK<|wQ ?_;refine wJ (zH h) (fun(out31:List RN) (_:Unit)=>⟨32,[(0,.d (.sl (List.map PT.e c1))),(1,.d (.v (.int .u16 dev2))),(5,.d (.sl (List.map RN.e out31))),(6,.d (.v (.int .i64 i29)))],[]⟩) (fun h=>?_) ?_
   ·refine wB<|wQ ?_;refine wJ (zH h) (fun(v32:Bool) (_:Unit)=>⟨32,[(0,.d (.sl (List.map PT.e c1))),(1,.d (.v (.int .u16 dev2))),(5,.d (.sl (List.map RN.e out28))),(6,.d (.v (.int .i64 i29))),(23,.d (.v (.bool v32)))],[]⟩) (fun h=>?_) ?_
    ·refine wR<|wm ?_;refine wm ?_;obtain⟨x33,hy34,h⟩:=yK h;refine ws (iX (enc:=PT.e) (L:=c1) (y:=x33) underlying30 sizeOf56 rfl rfl hy34 (fun _=>rfl))<|ws (fE underlying56 rfl sizeOf22 (by decide) rfl rfl)<|ws (LR.loadEp isAgg22 rfl rfl)<|wm ?_;refine ws (eQ rfl rfl)<|wm ?_;refine xG (d:=20) h rfl (fun _ h=>?_) (fun _ h=>?_)
     ·refine wt (mV rfl)<|wt (nQ rfl rfl)<|ws (pT rfl rfl)<|wN ?_;exact⟨(!decide (dev2=0)),(),h,sP⟩
     ·refine wf<|wf<|ws (pF rfl rfl)<|wN ?_;exact⟨false,(),h,sP⟩
    ·rintro v32 _ h;refine xD h rfl (fun _ h=>?_) (fun _ h=>?_)
     ·refine wR<|wm ?_;refine wm ?_;refine wm ?_;obtain⟨x37,hy38,h⟩:=yK h;refine ws (iX (enc:=PT.e) (L:=c1) (y:=x37) underlying30 sizeOf56 rfl rfl hy38 (fun _=>rfl))<|ws (fE underlying56 rfl sizeOf54 (by decide) rfl rfl)<|ws (LR.loadEp isAgg54 rfl rfl) ?_;obtain⟨v39,hy40,h⟩:=za h;refine ws (LR.rowN (Vg out28 x37.runs v39 hy40) rfl call79 rfl rfl rfl rfl)<|wa ?_;refine wN ?_;exact⟨v39,(),h,Sub.trans (Sub.frz [5,30] hK rfl (by simp) (AllRow.get (.cons rfl<|.cons rfl<|.nil)))<|sP⟩
     ·refine wK ?_;exact⟨out28,(),h,sP⟩
   ·rintro out31 _ h;refine wR<|wm ?_;refine ws (LR.addW rfl rfl)<|wa ?_;refine wN ?_;exact⟨(out31,(IntKind.i64.wrap (i29+1))),(),h,sP⟩
  ·refine wZ ?_;exact⟨out28,(),h,sP⟩
 ·rintro out3 _ h;refine wQ<|wR<|wm ?_;refine wa ?_;refine wN<|wX ?_;cases h;exact xT
theorem YW(a1:DT)(b2:DT)(r0:Int)(h:(Yu a1 b2).wp (·=r0)):PFun prog 74 [.agg (List.map .d (DT.e a1)),.agg (List.map .d (DT.e b2))] (.d (.v (.int .i64 r0))):=by
 refine fI (sl:=[(0,_),(1,_)]) func74 rfl ntmps74 rfl rfl ?_;intro ctx hK;refine wQ<|wR<|ws (LR.box rfl rfl rfl rfl)<|ws (LR.box rfl rfl rfl rfl)<|wa ?_;refine wN<|wQ<|wQ<|wR<|ws (lA (ps:=[_,_]) isAgg25 sizeOf25 rfl rfl rfl rfl)<|ws (lA (ps:=[_,_]) isAgg25 sizeOf25 rfl rfl rfl rfl)<|ws (LR.eqlAgg rfl rfl rfl rfl eq25)<|wN ?_;refine xD h rfl (fun _ h=>?_) (fun _ h=>?_)
 ·refine wQ<|wR<|wa ?_;refine wN<|wX ?_;cases h;exact xT
 ·refine wK<|wQ<|wQ ?_;refine wJ (zH h) (fun(v4:Bool) (_:Unit)=>⟨27,[(26,.d (.v (.bool v4)))],[]⟩) (fun h=>?_) ?_
  ·refine wR<|ws (fR underlying25 rfl sizeOf22 (by decide) rfl rfl)<|ws (lD isAgg22 rfl rfl rfl)<|ws (fR underlying25 rfl sizeOf22 (by decide) rfl rfl)<|ws (lD isAgg22 rfl rfl rfl)<|ws (LR.lss rfl rfl)<|wm ?_;refine xG (d:=13) h rfl (fun _ h=>?_) (fun _ h=>?_)
   ·refine wf<|wf<|wf<|wf<|wf<|wf<|wy (tl:=[(2,_),(3,_),(13,_),(19,_)]) (to:=[(2,_),(3,_)]) ?_;refine wu<|wu<|wu<|wu<|wu<|wf<|ws (pT rfl rfl)<|wN ?_;exact⟨true,(),h,sP⟩
   ·refine wt (fR underlying25 rfl sizeOf22 (by decide) rfl rfl)<|wt (lD isAgg22 rfl rfl rfl)<|wt (fR underlying25 rfl sizeOf22 (by decide) rfl rfl)<|wt (lD isAgg22 rfl rfl rfl)<|wt (eQ rfl rfl)<|wt (mV rfl)<|wy (tl:=[(2,_),(3,_),(13,_),(19,_)]) (to:=[(2,_),(3,_)]) ?_;refine xG (d:=19) h rfl (fun _ h=>?_) (fun _ h=>?_)
    ·refine wt (fR underlying25 rfl sizeOf23 (by decide) rfl rfl)<|wt (lD isAgg23 rfl rfl rfl)<|wt (fR underlying25 rfl sizeOf23 (by decide) rfl rfl)<|wt (lD isAgg23 rfl rfl rfl)<|wt (LR.lss rfl rfl)<|wt (pT rfl rfl)<|ws (pF rfl rfl)<|wN ?_;exact⟨(decide (a1.n < b2.n)),(),h,sP⟩
    ·refine wf<|wf<|wf<|wf<|wf<|wt (pF rfl rfl)<|ws (pF rfl rfl)<|wN ?_;exact⟨false,(),h,sP⟩
  ·rintro v4 _ h;refine xD h rfl (fun _ h=>?_) (fun _ h=>?_)
   ·refine wQ<|wR<|wa ?_;refine wN<|wX ?_;cases h;exact xT
   ·refine wK<|wQ<|wR<|wa ?_;refine wN<|wX ?_;cases h;exact xT
end Go.Proofs

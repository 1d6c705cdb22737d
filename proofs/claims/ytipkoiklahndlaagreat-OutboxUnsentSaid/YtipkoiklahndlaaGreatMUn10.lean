/- Texts that the walks and laws lean on, side by side. -/
import Derived.Test.YtipkoiklahndlaaGreatMUn2
import Derived.Test.YtipkoiklahndlaaGreatMUn3
import Derived.Test.YtipkoiklahndlaaGreatMUn4
import Derived.Test.YtipkoiklahndlaaGreatMUn5
import Derived.Test.YtipkoiklahndlaaGreatMUn6
import Derived.Test.YtipkoiklahndlaaGreatMUn7
import Derived.Test.YtipkoiklahndlaaGreatMUn8
import Derived.Test.YtipkoiklahndlaaGreatMUn9
set_option linter.unusedVariables false
set_option linter.unusedSimpArgs false
namespace Go.Proofs
open Go.Ep Tryz
set_option maxHeartbeats 1000000
set_option maxRecDepth 100000
set_option linter.unusedVariables false
set_option linter.unusedSimpArgs false


theorem xBa (a1:List TEvent) (b2:List TEvent) (r0:Bool) (h:(XR a1 b2).wp (· = r0)):PFun prog 24 [.d (.sl (List.map TEvent.e a1)),.d (.sl (List.map TEvent.e b2))] (.d (.v (.bool r0))):=by
 refine fI (sl:=[(0,_),(1,_)]) func24 rfl ntmps24 rfl rfl ?_;intro ctx hK;refine wQ<|wR<|wa ?_;refine wN<|wQ<|wQ<|wR<|wm ?_;refine ws (lM (enc:=TEvent.e) (L:=a1) underlying24 rfl)<|wm ?_;refine ws (lM (enc:=TEvent.e) (L:=b2) underlying24 rfl)<|ws (nQ rfl rfl)<|wN ?_;refine wC rfl (fun hc3=>?_) (fun hc3=>?_)
 ·replace h:=iT hc3 h;refine wQ<|wR<|wa ?_;refine wN<|wX ?_;cases h;exact ⟨.inr rfl,_,.cons (.tmp rfl rfl)<|.nil,rfl⟩
 ·replace h:=iF hc3 h;refine wK<|wQ<|wQ<|wR<|wa ?_;refine wN ?_;refine PWc.jnX (zG h) (fun (_:Unit) (_:Unit)=>⟨27,[],[]⟩) (fun h=>?_) ?_
  ·refine wB<|wM (fun (i21:Int) (_:Unit)=>⟨27,[(0,.d (.sl (List.map TEvent.e a1))),(1,.d (.sl (List.map TEvent.e b2))),(5,.d (.v (.int .i64 i21)))],[]⟩) () h (sP) ?_;rintro N i21 _ h;refine wQ<|wQ<|wR<|wm ?_;refine wm ?_;refine ws (lM (enc:=TEvent.e) (L:=a1) underlying24 rfl)<|ws (LR.lss rfl rfl)<|wN ?_;refine wC rfl (fun hc22=>?_) (fun hc22=>?_)
   ·replace h:=iT hc22 h;refine wK<|wQ<|wB<|wQ<|wD (by kernel_rfl) (by kernel_rfl) ?_;refine qs (fun _ he ho=>mV (he rfl rfl)) ?_;refine qs (fun _ he ho=>mV (he rfl rfl)) ?_;obtain ⟨x23,hy24,h⟩:=iIdx h;refine qs (fun _ he ho=>iX (enc:=TEvent.e) (L:=a1) (y:=x23) underlying24 sizeOf69 (he rfl rfl) (he rfl rfl) hy24 (fun _=>rfl)) ?_;refine qs (fun _ he ho=>lE (ys:=[_,_,_,_,_,_,_]) isAgg69 sizeOf69 (he rfl rfl) rfl rfl) ?_;refine qs (fun _ he ho=>mV (he rfl rfl)) ?_;refine qs (fun _ he ho=>mV (he rfl rfl)) ?_;obtain ⟨x25,hy26,h⟩:=iIdx h;refine qs (fun _ he ho=>iX (enc:=TEvent.e) (L:=b2) (y:=x25) underlying24 sizeOf69 (he rfl rfl) (he rfl rfl) hy26 (fun _=>rfl)) ?_;refine qs (fun _ he ho=>lE (ys:=[_,_,_,_,_,_,_]) isAgg69 sizeOf69 (he rfl rfl) rfl rfl) ?_;obtain ⟨v27,hy28,h⟩:=iDet h;refine qs (fun _ he ho=>cN (UY x23 x25 v27 hy28) (he rfl rfl) call69 (evsE he rfl rfl) rfl rfl rfl) ?_;refine qs (fun _ he ho=>LR.not (he rfl rfl))<|qN ?_;refine wC rfl (fun hc29=>?_) (fun hc29=>?_)
    ·replace h:=iT hc29 h;refine wQ<|wR<|wa ?_;refine wN<|wX ?_;cases h;exact ⟨.inr rfl,_,.cons (.tmp rfl rfl)<|.nil,rfl⟩
    ·replace h:=iF hc29 h;refine wK<|wR<|wm ?_;refine ws (LR.addW rfl rfl)<|wa ?_;refine wN ?_;exact ⟨(IntKind.i64.wrap (i21 + 1)),(),h,sP⟩
   ·replace h:=iF hc22 h;refine wZ ?_;exact ⟨(),(),h,sP⟩
  ·rintro _ _ h;refine wQ<|wR<|wa ?_;refine wN<|wX ?_;cases h;exact ⟨.inr rfl,_,.cons (.tmp rfl rfl)<|.nil,rfl⟩

theorem wY (e1:TEvent) (cv2:Int) (cv3:List TPart) (r0:Bool) (h:(yR e1 cv2 cv3).wp (· = r0)):PFun prog 81 [.agg (List.map .d (TEvent.e e1)),.ep ((eK .u16) cv2) 0,.ep ((eL TPart.e) cv3) 0] (.d (.v (.bool r0))):=by
 refine fI (sl:=[(0,_),(1,_),(2,_)]) func81 rfl ntmps81 rfl rfl ?_;intro ctx hK;refine wQ<|wR<|ws (LR.box rfl rfl rfl rfl)<|wa ?_;refine wN<|wQ ?_;refine wJ (zG h) (fun (v4:Bool) (_:Unit)=>⟨16,[(4,.d (.v (.bool v4)))],[]⟩) (fun h=>?_) ?_
 ·refine wR<|ws (fR underlying69 rfl sizeOf66 (by decide) rfl rfl)<|ws (fR underlying66 rfl sizeOf50 (by decide) rfl rfl)<|ws (lD isAgg50 rfl rfl rfl)<|ws (LR.loadEp isAgg50 rfl rfl)<|ws (nQ rfl rfl)<|wm ?_;refine wL (d:=10) rfl (fun hg5=>?_) (fun hg5=>?_)
  ·replace h:=iT hg5 h;refine wf<|wf<|wf<|wf<|ws (pT rfl rfl)<|wa ?_;refine wN ?_;exact ⟨true,(),h,sP⟩
  ·replace h:=iF hg5 h;refine wt (LR.loadEp isAgg23 rfl rfl)<|wt (fR underlying69 rfl sizeOf66 (by decide) rfl rfl)<|wt (lA (ps:=[_,_]) isAgg66 sizeOf66 rfl rfl rfl rfl) ?_;obtain ⟨v6,hy7,h⟩:=iDet h;refine wt (cN (jg cv3 e1.dot v6 hy7) rfl call82 rfl rfl rfl rfl)<|ws (pF rfl rfl)<|wa ?_;refine wN ?_;exact ⟨v6,(),h,sP⟩
 ·rintro v4 _ h;refine wX ?_;cases h;exact ⟨.inr rfl,_,.cons (.tmp rfl rfl)<|.nil,rfl⟩

theorem yS (s1:List TEvent) (cv2:Int) (cv3:List TPart) (r0:Int) (h:(zP s1 cv2 cv3).wp (· = r0)):PFun prog 141 [.d (.sl (List.map TEvent.e s1)),.clo 81 [(eK .u16) cv2,(eL TPart.e) cv3]] (.d (.v (.int .i64 r0))):=by
 refine fI (sl:=[(0,_),(1,_)]) func141 rfl ntmps141 rfl rfl ?_;intro ctx hK;refine wQ<|wR<|wa ?_;refine wN<|wQ<|wQ<|wR<|wm ?_;refine ws (lM (enc:=TEvent.e) (L:=s1) underlying24 rfl)<|wm ?_;refine wN ?_;refine PWc.jnX (zG h) (fun (_:Unit) (_:Unit)=>⟨19,[],[]⟩) (fun h=>?_) ?_
 ·refine wB<|wM (fun (v17:Int) (_:Unit)=>⟨19,[(0,.d (.sl (List.map TEvent.e s1))),(1,.clo 81 [(eK .u16) cv2,(eL TPart.e) cv3]),(7,.d (.v (.int .i64 (List.length s1:Int)))),(8,.d (.v (.int .i64 v17)))],[]⟩) () h (sP) ?_;rintro N v17 _ h;refine wQ<|wR<|ws (LR.lss rfl rfl)<|wN<|wQ ?_;refine wC rfl (fun hc18=>?_) (fun hc18=>?_)
  ·replace h:=iT hc18 h;refine wK<|wQ<|wB<|wQ<|wR<|wm ?_;refine wa ?_;refine wN<|wQ<|wR<|wm ?_;refine wm ?_;refine wm ?_;obtain ⟨x19,hy20,h⟩:=iIdx h;refine ws (iX (enc:=TEvent.e) (L:=s1) (y:=x19) underlying24 sizeOf69 rfl rfl hy20 (fun _=>rfl))<|ws (lE (ys:=[_,_,_,_,_,_,_]) isAgg69 sizeOf69 rfl rfl rfl) ?_;obtain ⟨v21,hy22,h⟩:=iDet h;refine ws (LR.callC (wY x19 cv2 cv3 v21 hy22) rfl call81 rfl rfl rfl rfl rfl)<|wN ?_;refine wC rfl (fun hc23=>?_) (fun hc23=>?_)
   ·replace h:=iT hc23 h;refine wQ<|wR<|wm ?_;refine wa ?_;refine wN<|wX ?_;cases h;exact ⟨.inr rfl,_,.cons (.tmp rfl rfl)<|.nil,rfl⟩
   ·replace h:=iF hc23 h;refine wK<|wR<|ws (LR.addW rfl rfl)<|wm ?_;refine wN ?_;exact ⟨(IntKind.i64.wrap (v17 + 1)),(),h,sP⟩
  ·replace h:=iF hc18 h;refine wZ ?_;exact ⟨(),(),h,sP⟩
 ·rintro _ _ h;refine wQ<|wR<|wa ?_;refine wN<|wX ?_;cases h;exact ⟨.inr rfl,_,.cons (.tmp rfl rfl)<|.nil,rfl⟩

theorem zh (cv1:Int) (cv2:List TPart) (row3:List TEvent) (r0:List TEvent) (h:(zH cv1 cv2 row3).wp (· = r0)):PObj prog 80 [.row 100 (List.length row3),.clo 81 [(eK .u16) cv1,(eL TPart.e) cv2]] [(100,.row 69 7 (List.map TEvent.e row3))] [] (.row 100 (List.length r0)) (fun _:Unit=>[(100,.row 69 7 (List.map TEvent.e r0))]):=by
 refine PObj.intro (sl:=[(0,_),(1,_)]) func80 rfl ntmps80 rfl rfl rfl ?_;intro ctx hK pv;refine wQ<|wR<|ws (aR 69 7 rfl)<|wN<|wQ<|wR<|wm ?_;refine wm ?_;obtain ⟨v4,hy5,h⟩:=iDet h;refine ws (LR.callLend (yS row3 cv1 cv2 v4 hy5) rfl call141 rfl (.row rfl (by simp)<|.data rfl rfl<|.nil)) ?_;refine wa ?_;refine wN<|wQ<|wQ<|wR<|wm ?_;refine ws (eQ rfl rfl)<|wN ?_;refine wC rfl (fun hc6=>?_) (fun hc6=>?_)
 ·replace h:=iT hc6 h;refine wQ<|wR<|wm ?_;refine wy (tl:=[(0,_),(1,_),(5,_),(8,_),(9,_),(10,_),(11,_),(12,_),(13,_)]) (to:=[(100,_)]) ?_;refine wa ?_;refine wN<|wX ?_;cases h;exact EndsO.mk () (.inr rfl) (sO (tl:=[(4,_)]) (to:=[(100,_)]) rfl (.cons rfl (by first | rfl | (simp;done) | (congr 1;first | (simp;done) | (simp;omega) | omega))<|.nil) (.cons rfl rfl<|.nil)) (.cons (.tmp rfl)<|.nil) rfl rfl
 ·replace h:=iF hc6 h;refine wK<|wQ<|wQ<|wR<|wm ?_;refine ws (LR.addW rfl rfl)<|wa ?_;refine wN ?_;refine wJ (zG h) (fun (⟨i7,v8⟩:Int × List TEvent) (_:Unit)=>⟨42,[(0,.row 100 (List.length v8)),(5,.d (.v (.int .i64 i7)))],[(100,.row 69 7 (List.map TEvent.e v8))]⟩) (fun h=>?_) ?_
  ·refine wB<|wM (fun (⟨i32,j33,v34⟩:Int × Int × List TEvent) (_:Unit)=>⟨42,[(0,.row 100 (List.length v34)),(1,.clo 81 [(eK .u16) cv1,(eL TPart.e) cv2]),(5,.d (.v (.int .i64 i32))),(6,.d (.v (.int .i64 j33)))],[(100,.row 69 7 (List.map TEvent.e v34))]⟩) () h (sP) ?_;rintro N ⟨i32,j33,v34⟩ _ h;refine wQ<|wQ<|wR<|wm ?_;refine wm ?_;refine ws (LR.lenRow underlying24 rfl)<|ws (LR.lss rfl rfl)<|wN ?_;refine wC rfl (fun hc35=>?_) (fun hc35=>?_)
   ·replace h:=iT hc35 h;refine wK<|wQ ?_;refine wJ (zG h) (fun (⟨i36,v37⟩:Int × List TEvent) (_:Unit)=>⟨42,[(0,.row 100 (List.length v37)),(1,.clo 81 [(eK .u16) cv1,(eL TPart.e) cv2]),(5,.d (.v (.int .i64 i36))),(6,.d (.v (.int .i64 j33)))],[(100,.row 69 7 (List.map TEvent.e v37))]⟩) (fun h=>?_) ?_
    ·refine wB<|wQ<|wR<|wm ?_;refine wm ?_;obtain ⟨x38,hy39,h⟩:=iIdx h;refine ws (LR.idxRowT (L:=v34) (y:=x38) underlying24 sizeOf69 rfl rfl rfl hy39)<|ws (LR.loadRpT (enc:=TEvent.e) (L:=v34) (y:=x38) isAgg69 sizeOf69 rfl rfl hy39.2)<|ws (LR.allocZ (cs:=[_,_,_,_,_,_,_]) zeroValue69 rfl rfl rfl rfl)<|ws (sB (ns:=[_,_,_,_,_,_,_]) sizeOf69 rfl rfl rfl rfl rfl rfl rfl)<|wN<|wQ<|wR<|wm ?_;refine ws (lA (ps:=[_,_,_,_,_,_,_]) isAgg69 sizeOf69 rfl rfl rfl rfl) ?_;obtain ⟨v40,hy41,h⟩:=iDet h;refine ws (LR.callC (wY x38 cv1 cv2 v40 hy41) rfl call81 rfl rfl rfl rfl rfl)<|ws (LR.not rfl)<|wN ?_;refine wC rfl (fun hc42=>?_) (fun hc42=>?_)
     ·replace h:=iT hc42 h;refine wQ<|wR<|wm ?_;refine wm ?_;refine ws (lA (ps:=[_,_,_,_,_,_,_]) isAgg69 sizeOf69 rfl rfl rfl rfl) ?_;obtain ⟨x43,hy44,h⟩:=iIdx h;refine ws (LR.idxRowT (L:=v34) (y:=x43) underlying24 sizeOf69 rfl rfl rfl hy44)<|wy (tl:=[(0,_),(1,_),(5,_),(6,_),(32,_),(33,_)]) (to:=[(100,_)]) ?_;refine ws (LR.storeRpT (enc:=TEvent.e) (L:=v34) (a:=x43) (b:=x38) sizeOf69 rfl rfl rfl rfl rfl hy44.2 rfl rfl)<|wN<|wR<|wm ?_;refine ws (LR.addW rfl rfl)<|wa ?_;refine wN ?_;exact ⟨((IntKind.i64.wrap (i32 + 1)),(List.set v34 (Int.toNat i32) x38)),(),h,sO rfl (.cons rfl (by first | rfl | (simp;done) | (congr 1;first | (simp;done) | (simp;omega) | omega))<|.c2 rfl rfl rfl rfl<|.cons rfl rfl<|.nil) (.cons rfl rfl<|.nil)⟩
     ·replace h:=iF hc42 h;refine wK ?_;exact ⟨(i32,v34),(),h,sP⟩
    ·rintro ⟨i36,v37⟩ _ h;refine wR<|wm ?_;refine ws (LR.addW rfl rfl)<|wa ?_;refine wN ?_;exact ⟨(i36,(IntKind.i64.wrap (j33 + 1)),v37),(),h,sP⟩
   ·replace h:=iF hc35 h;refine wZ ?_;exact ⟨(i32,v34),(),h,sP⟩
  ·rintro ⟨i7,v8⟩ _ h;refine wQ<|wR<|wm ?_;refine wm ?_;obtain ⟨hy45,h⟩:=zk h;refine ws (LR.pieceRowT (enc:=TEvent.e) (L:=v8) underlying24 sizeOf69 rfl rfl rfl rfl hy45) ?_;obtain ⟨hy46,h⟩:=zk h;refine ws (LR.clearPcT (enc:=TEvent.e) (L:=v8) (z:=(⟨(⟨0,0⟩:TDot),0,0,0,(⟨#[]⟩:ByteArray),([]:List TDot)⟩:TEvent)) underlying24 rfl rfl zeroValue69 rfl rfl rfl rfl hy46 rfl)<|wN<|wQ<|wR<|wm ?_;refine wm ?_;obtain ⟨hy47,h⟩:=zk h;refine ws (LR.cutRowT (enc:=TEvent.e) (L:=(List.take (Int.toNat i7) v8 ++ List.replicate (List.length v8 - Int.toNat i7) (⟨(⟨0,0⟩:TDot),0,0,0,(⟨#[]⟩:ByteArray),([]:List TDot)⟩:TEvent) ++ List.drop ((Int.toNat i7) + (List.length v8 - Int.toNat i7)) v8)) [0,36,38,39] underlying24 sizeOf69 rfl (by first | (simp;done) | (simp;omega) | omega) rfl rfl hy47 rfl) ?_;refine wa ?_;refine wN<|wX ?_;cases h;exact EndsO.mk () (.inr rfl) (sO (tl:=[(4,_)]) (to:=[(100,_)]) rfl (.cons rfl (by first | rfl | (simp;done) | (congr 1;first | (simp;done) | (simp;omega) | omega))<|.nil) (.cons rfl rfl<|.nil)) (.cons (.tmp rfl)<|.nil) rfl rfl

theorem vV (dev1:Int) (had2:List TPart) (r0:List TEvent) (h:(yk dev1 had2).wp (· = r0)):PRow prog 25 [.d (.v (.pointer none)),.d (.v (.int .u16 dev1)),.d (.sl (List.map TPart.e had2))] 69 7 (List.map TEvent.e r0):=by
 refine PRow.intro (sl:=[(0,_),(1,_),(2,_)]) func25 rfl ntmps25 rfl rfl ?_;intro ctx hK;refine wQ<|wR<|ws (LR.box rfl rfl rfl rfl)<|ws (LR.box rfl rfl rfl rfl)<|ws (aR 69 7 rfl)<|wN<|wQ<|wR<|wm ?_;obtain ⟨v3,hy4,h⟩:=iDet h;refine ws (LR.rowN (Yz v3 hy4) rfl call35 rfl rfl rfl rfl)<|PWl.sub (Sub.frzR (id:=4) ((eK .u16) dev1) [4] hK rfl rfl (.cons rfl<|.nil))<|PWl.sub (Sub.frzR (id:=5) ((eL TPart.e) had2) [5] hK rfl rfl (.cons rfl<|.nil))<|ws (LR.makeClo (cs:=[(eK .u16) dev1,(eL TPart.e) had2]) rfl)<|wy (tl:=[(6,_),(8,_),(9,_)]) (to:=[(6,_),(8,_)]) ?_;obtain ⟨y5,hy6,h⟩:=iDet h;refine ws (LR.callObj [(100,8)] [8] [100] (zh dev1 had2 v3 y5 hy6) hK rfl call80 rfl (by first | rfl | (simp;done) | (simp [PV.nilD,PV.ren,rn];omega)) (.cons (by first | rfl | (congr 1;first | (simp;done) | (simp;omega) | omega))<|.nil) rfl rfl rfl rfl) ?_;refine wy (tl:=[(9,_),(10,_)]) (to:=[(8,_)]) ?_;refine wa ?_;refine wN<|wX ?_;cases h;exact ⟨.inr rfl,6,rfl,.inr ⟨8,_,rfl,(by simp),rfl⟩⟩


theorem XA (dev1:Int) (had2:List TPart) (l3:List TEvent) (r0:List TPart) (h:(ur dev1 had2 l3).wp (· = r0)):PFun prog 22 [.d (.v (.pointer none)),.d (.v (.int .u16 dev1)),.d (.sl (List.map TPart.e had2)),.d (.sl (List.map TEvent.e l3))] (.d (.sl (List.map TPart.e r0))):=by
 refine fI (sl:=[(0,_),(1,_),(2,_),(3,_)]) func22 rfl ntmps22 rfl rfl ?_;intro ctx hK;refine wQ<|wR<|ws (aR 81 2 rfl)<|wN<|wQ<|wQ<|wR<|wm ?_;refine ws (lM (enc:=TEvent.e) (L:=l3) underlying24 rfl)<|ws (eQ rfl rfl)<|wN ?_;refine wC rfl (fun hc4=>?_) (fun hc4=>?_)
 ·replace h:=iT hc4 h;refine wQ<|wR<|wy (tl:=[(0,_),(1,_),(2,_),(3,_),(12,_),(13,_),(14,_)]) (to:=[]) ?_;refine ws (aR 81 2 rfl)<|wN<|wX ?_;cases h;exact ⟨.inr rfl,_,.cons (.row rfl rfl (by first | (simp;done) | (simp;omega) | omega))<|.nil,rfl⟩
 ·replace h:=iF hc4 h;refine wK<|wQ<|wz (tl:=[(0,_),(1,_),(2,_),(3,_)]) (to:=[]) ?_;refine PWc.regionE [{ws:=[15]},{ws:=[16]},{ws:=[17]},{ws:=[18]},{ws:=[19]},{ws:=[20]},{ws:=[21]},{ws:=[22]},{ws:=[23]},{ws:=[24]},{ws:=[25]},{ws:=[26]},{ws:=[27]},{ws:=[28]},{ws:=[29]},{ws:=[30]},⟨[31],[31],[],[31],[],[31],[],[]⟩,⟨[9],[],[],[],[],[31],[],[]⟩] (by kernel_rfl) (by kernel_rfl) rfl ?_;refine kp (fun _ he ho=>mV (he rfl rfl)) ?_;obtain ⟨v5,hy6,h⟩:=iDet h;refine kp (fun _ he ho=>cN (PRow.fun (Yy v5 hy6)) (he rfl rfl) call34 (evsE he rfl rfl) rfl rfl rfl) ?_;refine kp (fun _ he ho=>mV (he rfl rfl)) ?_;obtain ⟨v7,hy8,h⟩:=iDet h;refine kp (fun _ he ho=>cN (PRow.fun (Ua v5 dev1 v7 hy8)) (he rfl rfl) call72 (evsE he rfl rfl) rfl rfl rfl) ?_;refine kp (fun _ he ho=>mV (he rfl rfl)) ?_;refine kp (fun _ he ho=>mV (he rfl rfl)) ?_;refine kp (fun _ he ho=>mV (he rfl rfl)) ?_;refine kp (fun _ he ho=>lM (enc:=TEvent.e) (L:=l3) underlying24 (he rfl rfl)) ?_;refine kp (fun _ he ho=>LR.subW (he rfl rfl) (he rfl rfl)) ?_;obtain ⟨x9,hy10,h⟩:=iIdx h;refine kp (fun _ he ho=>iX (enc:=TEvent.e) (L:=l3) (y:=x9) underlying24 sizeOf69 (he rfl rfl) (he rfl rfl) hy10 (fun _=>rfl)) ?_;refine kp (fun _ he ho=>fE underlying69 rfl sizeOf66 (by decide) rfl (he rfl rfl)) ?_;refine kp (fun _ he ho=>fE underlying66 rfl sizeOf64 (by decide) rfl (he rfl rfl)) ?_;refine kp (fun _ he ho=>LR.loadEp isAgg64 (he rfl rfl) rfl) ?_;refine kp (fun _ he ho=>LR.build (ns:=[_,_]) ZF rfl (evpE he rfl rfl) rfl) ?_;refine kp (fun _ he ho=>LR.buildSliceD [.tmp 28] JH rfl rfl (.cons (he rfl rfl) rfl rfl<|.nil) (by decide) (by decide)) ?_;obtain ⟨v11,hy12,h⟩:=iDet h;refine kp (fun _ he ho=>cN (PRow.fun (VK ([(⟨dev1,x9.dot.n⟩:TDot)]) v11 hy12)) (he rfl rfl) call73 (evsE he rfl rfl) rfl rfl rfl) ?_;obtain ⟨v13,hy14,h⟩:=iDet h;refine PQe.stepN (fun _ he ho hf=>LR.rowN (UZ v7 v11 v13 hy14) (he rfl rfl) call71 (evsE he rfl rfl) rfl rfl hf) rfl (.inl rfl) rfl ?_;refine kp (fun _ he ho=>aS (he rfl rfl))<|PQe.nil<|wQ<|wQ<|wR<|wy (tl:=[(0,_),(1,_),(2,_),(9,_)]) (to:=[(31,_)]) ?_;refine wm ?_;refine wm ?_;refine wm ?_;obtain ⟨v15,hy16,h⟩:=iDet h;refine ws (LR.rowN (vV dev1 had2 v15 hy16) rfl call25 rfl rfl rfl rfl)<|ws (LR.lenRow underlying24 rfl)<|wm ?_;refine wN ?_;refine wJ (zG h) (fun (c17:List TPart) (_:Unit)=>⟨49,[(9,.d (.sl (List.map TPart.e c17)))],[]⟩) (fun h=>?_) ?_
  ·refine wB<|wM (fun (⟨c34,v35⟩:List TPart × Int) (_:Unit)=>⟨49,[(9,.d (.sl (List.map TPart.e c34))),(35,.row 35 (List.length v15)),(36,.d (.v (.int .i64 ((List.length v15):Int)))),(37,.d (.v (.int .i64 v35)))],[(35,.row 69 7 (List.map TEvent.e v15))]⟩) () h (Sub.trans (Sub.frz [9] hK rfl (by simp) (AllRow.get (.cons rfl<|.nil)))<|sP) ?_;rintro N ⟨c34,v35⟩ _ h;refine wQ<|wR<|ws (LR.lss rfl rfl)<|wN<|wQ ?_;refine wC rfl (fun hc36=>?_) (fun hc36=>?_)
   ·replace h:=iT hc36 h;refine wK<|wQ<|wB<|wQ<|wR ?_;obtain ⟨x37,hy38,h⟩:=iIdx h;refine ws (LR.idxRowT (L:=v15) (y:=x37) underlying24 sizeOf69 rfl rfl rfl hy38)<|ws (LR.loadRpT (enc:=TEvent.e) (L:=v15) (y:=x37) isAgg69 sizeOf69 rfl rfl hy38.2)<|ws (LR.allocZ (cs:=[_,_,_,_,_,_,_]) zeroValue69 rfl rfl rfl rfl)<|ws (sB (ns:=[_,_,_,_,_,_,_]) sizeOf69 rfl rfl rfl rfl rfl rfl rfl)<|wN<|wR<|wm ?_;refine ws (fR underlying69 rfl sizeOf66 (by decide) rfl rfl)<|ws (lA (ps:=[_,_]) isAgg66 sizeOf66 rfl rfl rfl rfl)<|ws (LR.buildSliceD [.tmp 43] vJ rfl rfl (.cons rfl rfl rfl<|.nil) (by decide) (by decide)) ?_;obtain ⟨v39,hy40,h⟩:=iDet h;refine ws (LR.rowN (QL ([x37.dot]) v39 hy40) rfl call75 rfl rfl rfl rfl) ?_;obtain ⟨v41,hy42,h⟩:=iDet h;refine PWl.frz [45] hK (.cons rfl<|.nil) rfl (by simp) ?_;refine ws (LR.rowN (VL c34 v39 v41 hy42) rfl call74 rfl rfl rfl rfl)<|wa ?_;refine wN<|wR<|ws (LR.addW rfl rfl)<|wm ?_;refine wN ?_;exact ⟨(v41,(IntKind.i64.wrap (v35 + 1))),(),h,Sub.trans (Sub.frz [9,46] hK rfl (by simp) (AllRow.get (.cons rfl<|.cons rfl<|.nil)))<|sP⟩
   ·replace h:=iF hc36 h;refine wZ ?_;exact ⟨c34,(),h,sP⟩
  ·rintro c17 _ h;refine wQ<|wR<|wm ?_;refine wa ?_;refine wN<|wX ?_;cases h;exact ⟨.inr rfl,_,.cons (.tmp rfl rfl)<|.nil,rfl⟩

theorem ua (dev1:Int) (had2:List TPart) (ctx_3:List TPart) (nl4:Bool) (m5:List (TDot × TEvent)) (nl6:Bool) (m7:List (TDot × TEvent)) (r0:List TEvent) (h:(xD dev1 had2 ctx_3 nl4 m5 nl6 m7).wp (· = r0)):PObj prog 25 [.ref 100 0,.d (.v (.int .u16 dev1)),.d (.sl (List.map TPart.e had2))] [(100,.cells 98 [.d (.sl (List.map TPart.e ctx_3)),.mp 101,.mp 102]),(101,.mapH nl4 [.u16,.u64] true (encM TDot.k TEvent.e m5)),(102,.mapH nl6 [.u16,.u64] true (encM TDot.k TEvent.e m7))] [100,101,102] (.d (.sl (List.map TEvent.e r0))) (fun _:Unit=>[(100,.cells 98 [.d (.sl (List.map TPart.e ctx_3)),.mp 101,.mp 102]),(101,.mapH nl4 [.u16,.u64] true (encM TDot.k TEvent.e m5)),(102,.mapH nl6 [.u16,.u64] true (encM TDot.k TEvent.e m7))]):=by
 refine PObj.intro (sl:=[(0,_),(1,_),(2,_)]) func25 rfl ntmps25 rfl rfl rfl ?_;intro ctx hK pv;refine wQ<|wR<|ws (LR.box rfl rfl rfl rfl)<|ws (LR.box rfl rfl rfl rfl)<|ws (aR 69 7 rfl)<|wN<|wQ<|wR<|wm ?_;obtain ⟨y8,hy9,h⟩:=iDet h;refine ws (LR.callObjS [(100,100),(101,101),(102,102),(14,8)] [] [100,101,102,14] [(14,.row 69 7 (List.map TEvent.e y8))] [(100,.cells 98 [.d (.sl (List.map TPart.e ctx_3)),.mp 101,.mp 102]),(101,.mapH nl4 [.u16,.u64] true (encM TDot.k TEvent.e m5)),(102,.mapH nl6 [.u16,.u64] true (encM TDot.k TEvent.e m7))] (WL ctx_3 nl4 m5 nl6 m7 y8 hy9) hK rfl call35 rfl (by first | rfl | (simp;done) | (simp [PV.nilD,PV.ren,rn];omega)) (by repeat' first | constructor | (congr 1;first | (simp;done) | (simp;omega) | omega)) (.cons rfl<|.nil) (.cons rfl<|.cons rfl<|.cons rfl<|.nil) (by repeat' first | constructor | (congr 1;first | (simp;done) | (simp;omega) | omega)) rfl rfl rfl rfl rfl rfl) ?_;refine wy (tl:=[(4,_),(5,_),(6,_),(8,_)]) (to:=[(4,_),(5,_),(6,_),(8,_),(100,_),(101,_),(102,_),(1100,_),(1101,_),(1102,_)]) ?_;refine PWl.sub (Sub.frzR (id:=4) ((eK .u16) dev1) [4] hK rfl rfl (.cons rfl<|.nil))<|PWl.sub (Sub.frzR (id:=5) ((eL TPart.e) had2) [5] hK rfl rfl (.cons rfl<|.nil))<|ws (LR.makeClo (cs:=[(eK .u16) dev1,(eL TPart.e) had2]) rfl)<|wy (tl:=[(6,_),(8,_),(9,_)]) (to:=[(6,_),(8,_),(100,_),(101,_),(102,_),(1100,_),(1101,_),(1102,_)]) ?_;obtain ⟨y10,hy11,h⟩:=iDet h;refine ws (LR.callObj [(100,8)] [8] [100] (zh dev1 had2 y8 y10 hy11) hK rfl call80 rfl (by first | rfl | (simp;done) | (simp [PV.nilD,PV.ren,rn];omega)) (.cons (by first | rfl | (congr 1;first | (simp;done) | (simp;omega) | omega))<|.nil) rfl rfl rfl rfl) ?_;refine wy (tl:=[(6,_),(10,_)]) (to:=[(6,_),(8,_),(100,_),(101,_),(102,_),(1100,_),(1101,_),(1102,_)]) ?_;refine wy (tl:=[(10,_)]) (to:=[(8,_),(100,_),(101,_),(102,_),(1100,_),(1101,_),(1102,_)]) ?_;refine wa ?_;refine wN<|wX ?_;cases h;exact EndsO.mk () (.inr rfl) (Sub.trans (Sub.frz [6,10] hK rfl (by simp) (AllRow.get (.cons rfl<|.cons rfl<|.nil)))<|sP (tl:=[(6,_)]) (to:=[(100,_),(101,_),(102,_),(1100,_),(1101,_),(1102,_)])) (.cons (.tmp rfl)<|.nil) rfl rfl

theorem WR (dev1:Int) (had2:List TPart) (l3:List TEvent) (ctx_4:List TPart) (nl5:Bool) (m6:List (TDot × TEvent)) (nl7:Bool) (m8:List (TDot × TEvent)) (r0:List TPart) (h:(xE dev1 had2 l3 ctx_4 nl5 m6 nl7 m8).wp (· = r0)):PObj prog 22 [.ref 100 0,.d (.v (.int .u16 dev1)),.d (.sl (List.map TPart.e had2)),.d (.sl (List.map TEvent.e l3))] [(100,.cells 98 [.d (.sl (List.map TPart.e ctx_4)),.mp 101,.mp 102]),(101,.mapH nl5 [.u16,.u64] true (encM TDot.k TEvent.e m6)),(102,.mapH nl7 [.u16,.u64] true (encM TDot.k TEvent.e m8))] [100,101,102] (.d (.sl (List.map TPart.e r0))) (fun _:Unit=>[(100,.cells 98 [.d (.sl (List.map TPart.e ctx_4)),.mp 101,.mp 102]),(101,.mapH nl5 [.u16,.u64] true (encM TDot.k TEvent.e m6)),(102,.mapH nl7 [.u16,.u64] true (encM TDot.k TEvent.e m8))]):=by
 refine PObj.intro (sl:=[(0,_),(1,_),(2,_),(3,_)]) func22 rfl ntmps22 rfl rfl rfl ?_;intro ctx hK pv;refine wQ<|wR<|ws (aR 81 2 rfl)<|wN<|wQ<|wQ<|wR<|wm ?_;refine ws (lM (enc:=TEvent.e) (L:=l3) underlying24 rfl)<|ws (eQ rfl rfl)<|wN ?_;refine wC rfl (fun hc9=>?_) (fun hc9=>?_)
 ·replace h:=iT hc9 h;refine wQ<|wR<|wy (tl:=[(0,_),(1,_),(2,_),(3,_),(12,_),(13,_),(14,_)]) (to:=[(100,_),(101,_),(102,_),(1100,_),(1101,_),(1102,_)]) ?_;refine ws (aR 81 2 rfl)<|wN<|wX ?_;cases h;exact EndsO.mk () (.inr rfl) (Sub.trans (Sub.frz [8] hK rfl (by first | (simp;done) | (simp;omega) | omega) (AllRow.get (.cons rfl<|.nil)))<|sP (tl:=[(8,_)]) (to:=[(100,_),(101,_),(102,_),(1100,_),(1101,_),(1102,_)])) (.cons (.tmp rfl)<|.nil) rfl rfl
 ·replace h:=iF hc9 h;refine wK<|wQ<|wz (tl:=[(0,_),(1,_),(2,_),(3,_)]) (to:=[(100,_),(101,_),(102,_),(1100,_),(1101,_),(1102,_)]) ?_;refine PWc.regionE [⟨[15],[],[],[],[],[100],[],[]⟩,⟨[16],[],[100,101,102],[],[],[],[],[]⟩,{ws:=[17]},{ws:=[18]},{ws:=[19]},{ws:=[20]},{ws:=[21]},{ws:=[22]},{ws:=[23]},{ws:=[24]},{ws:=[25]},{ws:=[26]},{ws:=[27]},{ws:=[28]},{ws:=[29]},{ws:=[30]},⟨[31],[31],[],[31],[],[31],[],[]⟩,⟨[9],[],[],[],[],[31],[],[]⟩] (by kernel_rfl) (by kernel_rfl) rfl ?_;refine kp (fun _ he ho=>mV (he rfl rfl)) ?_;obtain ⟨y10,hy11,h⟩:=iDet h;refine PQe.callObjS [(100,100),(101,101),(102,102)] [] [100,101,102] [] [(100,.cells 98 [.d (.sl (List.map TPart.e ctx_4)),.mp 101,.mp 102]),(101,.mapH nl5 [.u16,.u64] true (encM TDot.k TEvent.e m6)),(102,.mapH nl7 [.u16,.u64] true (encM TDot.k TEvent.e m8))] (WK ctx_4 nl5 m6 nl7 m8 y10 hy11) hK (fun _ he=>⟨he rfl rfl,evsE he rfl rfl⟩) call34 (by first | rfl | (simp;done) | (simp [PV.nilD,PV.ren,rn];omega)) (by repeat' first | constructor | (congr 1;first | (simp;done) | (simp;omega) | omega)) (.nil) (.cons rfl<|.cons rfl<|.cons rfl<|.nil) (by repeat' first | constructor | (congr 1;first | (simp;done) | (simp;omega) | omega)) rfl rfl rfl rfl rfl rfl (.inl rfl) rfl ?_;refine kp (fun _ he ho=>mV (he rfl rfl)) ?_;obtain ⟨v12,hy13,h⟩:=iDet h;refine kp (fun _ he ho=>cN (PRow.fun (Ua y10 dev1 v12 hy13)) (he rfl rfl) call72 (evsE he rfl rfl) rfl rfl rfl) ?_;refine kp (fun _ he ho=>mV (he rfl rfl)) ?_;refine kp (fun _ he ho=>mV (he rfl rfl)) ?_;refine kp (fun _ he ho=>mV (he rfl rfl)) ?_;refine kp (fun _ he ho=>lM (enc:=TEvent.e) (L:=l3) underlying24 (he rfl rfl)) ?_;refine kp (fun _ he ho=>LR.subW (he rfl rfl) (he rfl rfl)) ?_;obtain ⟨x14,hy15,h⟩:=iIdx h;refine kp (fun _ he ho=>iX (enc:=TEvent.e) (L:=l3) (y:=x14) underlying24 sizeOf69 (he rfl rfl) (he rfl rfl) hy15 (fun _=>rfl)) ?_;refine kp (fun _ he ho=>fE underlying69 rfl sizeOf66 (by decide) rfl (he rfl rfl)) ?_;refine kp (fun _ he ho=>fE underlying66 rfl sizeOf64 (by decide) rfl (he rfl rfl)) ?_;refine kp (fun _ he ho=>LR.loadEp isAgg64 (he rfl rfl) rfl) ?_;refine kp (fun _ he ho=>LR.build (ns:=[_,_]) ZF rfl (evpE he rfl rfl) rfl) ?_;refine kp (fun _ he ho=>LR.buildSliceD [.tmp 28] JH rfl rfl (.cons (he rfl rfl) rfl rfl<|.nil) (by decide) (by decide)) ?_;obtain ⟨v16,hy17,h⟩:=iDet h;refine kp (fun _ he ho=>cN (PRow.fun (VK ([(⟨dev1,x14.dot.n⟩:TDot)]) v16 hy17)) (he rfl rfl) call73 (evsE he rfl rfl) rfl rfl rfl) ?_;obtain ⟨v18,hy19,h⟩:=iDet h;refine PQe.stepN (fun _ he ho hf=>LR.rowN (UZ v12 v16 v18 hy19) (he rfl rfl) call71 (evsE he rfl rfl) rfl rfl hf) rfl (.inl rfl) rfl ?_;refine kp (fun _ he ho=>aS (he rfl rfl))<|PQe.nil<|wQ<|wQ<|wz (tl:=[(0,_),(1,_),(2,_),(9,_)]) (to:=[(31,_),(100,_),(101,_),(102,_),(1100,_),(1101,_),(1102,_)]) ?_;refine wR<|wm ?_;refine wm ?_;refine wm ?_;obtain ⟨y20,hy21,h⟩:=iDet h;refine ws (LR.callObjS [(100,100),(101,101),(102,102)] [] [100,101,102] [] [(100,.cells 98 [.d (.sl (List.map TPart.e ctx_4)),.mp 101,.mp 102]),(101,.mapH nl5 [.u16,.u64] true (encM TDot.k TEvent.e m6)),(102,.mapH nl7 [.u16,.u64] true (encM TDot.k TEvent.e m8))] (ua dev1 had2 ctx_4 nl5 m6 nl7 m8 y20 hy21) hK rfl call25 rfl (by first | rfl | (simp;done) | (simp [PV.nilD,PV.ren,rn];omega)) (by repeat' first | constructor | (congr 1;first | (simp;done) | (simp;omega) | omega)) (.nil) (.cons rfl<|.cons rfl<|.cons rfl<|.nil) (by repeat' first | constructor | (congr 1;first | (simp;done) | (simp;omega) | omega)) rfl rfl rfl rfl rfl rfl) ?_;refine wy (tl:=[(9,_),(35,_)]) (to:=[(31,_),(100,_),(101,_),(102,_),(1100,_),(1101,_),(1102,_)]) ?_;refine ws (lM (enc:=TEvent.e) (L:=y20) underlying24 rfl)<|wm ?_;refine wN ?_;refine wJ (zG h) (fun (c22:List TPart) (_:Unit)=>⟨49,[(9,.d (.sl (List.map TPart.e c22)))],[(100,.cells 98 [.d (.sl (List.map TPart.e ctx_4)),.mp 101,.mp 102]),(101,.mapH nl5 [.u16,.u64] true (encM TDot.k TEvent.e m6)),(102,.mapH nl7 [.u16,.u64] true (encM TDot.k TEvent.e m8)),(1100,.pin 100 (pv 100)),(1101,.pin 101 (pv 101)),(1102,.pin 102 (pv 102))]⟩) (fun h=>?_) ?_
  ·refine wB<|wM (fun (⟨c39,v40⟩:List TPart × Int) (_:Unit)=>⟨49,[(9,.d (.sl (List.map TPart.e c39))),(35,.d (.sl (List.map TEvent.e y20))),(36,.d (.v (.int .i64 (List.length y20:Int)))),(37,.d (.v (.int .i64 v40)))],[(100,.cells 98 [.d (.sl (List.map TPart.e ctx_4)),.mp 101,.mp 102]),(101,.mapH nl5 [.u16,.u64] true (encM TDot.k TEvent.e m6)),(102,.mapH nl7 [.u16,.u64] true (encM TDot.k TEvent.e m8)),(1100,.pin 100 (pv 100)),(1101,.pin 101 (pv 101)),(1102,.pin 102 (pv 102))]⟩) () h (Sub.trans (Sub.frz [9] hK rfl (by simp) (AllRow.get (.cons rfl<|.nil)))<|sP) ?_;rintro N ⟨c39,v40⟩ _ h;refine wQ<|wR<|ws (LR.lss rfl rfl)<|wN<|wQ ?_;refine wC rfl (fun hc41=>?_) (fun hc41=>?_)
   ·replace h:=iT hc41 h;refine wK<|wQ<|wB<|wQ<|wR ?_;obtain ⟨x42,hy43,h⟩:=iIdx h;refine ws (iX (enc:=TEvent.e) (L:=y20) (y:=x42) underlying24 sizeOf69 rfl rfl hy43 (fun _=>rfl))<|ws (lE (ys:=[_,_,_,_,_,_,_]) isAgg69 sizeOf69 rfl rfl rfl)<|ws (LR.allocZ (cs:=[_,_,_,_,_,_,_]) zeroValue69 rfl rfl rfl rfl)<|ws (sB (ns:=[_,_,_,_,_,_,_]) sizeOf69 rfl rfl rfl rfl rfl rfl rfl)<|wN<|wR<|wm ?_;refine ws (fR underlying69 rfl sizeOf66 (by decide) rfl rfl)<|ws (lA (ps:=[_,_]) isAgg66 sizeOf66 rfl rfl rfl rfl)<|ws (LR.buildSliceD [.tmp 43] vJ rfl rfl (.cons rfl rfl rfl<|.nil) (by decide) (by decide)) ?_;obtain ⟨v44,hy45,h⟩:=iDet h;refine ws (LR.rowN (QL ([x42.dot]) v44 hy45) rfl call75 rfl rfl rfl rfl) ?_;obtain ⟨v46,hy47,h⟩:=iDet h;refine PWl.frz [45] hK (.cons rfl<|.nil) rfl (by simp) ?_;refine ws (LR.rowN (VL c39 v44 v46 hy47) rfl call74 rfl rfl rfl rfl)<|wa ?_;refine wN<|wR<|ws (LR.addW rfl rfl)<|wm ?_;refine wN ?_;exact ⟨(v46,(IntKind.i64.wrap (v40 + 1))),(),h,Sub.trans (Sub.frz [9,46] hK rfl (by simp) (AllRow.get (.cons rfl<|.cons rfl<|.nil)))<|sP⟩
   ·replace h:=iF hc41 h;refine wZ ?_;exact ⟨c39,(),h,sP⟩
  ·rintro c22 _ h;refine wQ<|wR<|wm ?_;refine wa ?_;refine wN<|wX ?_;cases h;exact EndsO.mk () (.inr rfl) (sP (tl:=[(8,_)]) (to:=[(100,_),(101,_),(102,_),(1100,_),(1101,_),(1102,_)])) (.cons (.tmp rfl)<|.nil) rfl rfl

theorem XY (l1:List L18Act) (dev2:Int) (had3:List TPart) (r0:Bool) (h:(xX l1 dev2 had3).wp (· = r0)):PFun prog 4 [.d (.sl (List.map L18Act.e l1)),.d (.v (.int .u16 dev2)),.d (.sl (List.map TPart.e had3))] (.d (.v (.bool r0))):=by
 refine fI (sl:=[(0,_),(1,_),(2,_)]) func4 rfl ntmps4 rfl rfl ?_;intro ctx hK;refine wQ<|wR<|wa ?_;refine wN<|wQ<|wQ ?_;refine wJ (zG h) (fun (v4:Bool) (_:Unit)=>⟨79,[(0,.d (.sl (List.map L18Act.e l1))),(1,.d (.v (.int .u16 dev2))),(2,.d (.sl (List.map TPart.e had3))),(18,.d (.v (.bool v4)))],[]⟩) (fun h=>?_) ?_
 ·refine wR<|wm ?_;obtain ⟨v5,hy6,h⟩:=iDet h;refine ws (cN (y7a l1 20 v5 hy6) rfl call8 rfl rfl rfl rfl)<|ws (eQ rfl rfl)<|wm ?_;refine wL (d:=14) rfl (fun hg7=>?_) (fun hg7=>?_)
  ·replace h:=iT hg7 h;refine wf<|wf<|wf<|ws (pT rfl rfl)<|wN ?_;exact ⟨true,(),h,sP⟩
  ·replace h:=iF hg7 h;refine wt (mV rfl) ?_;obtain ⟨v8,hy9,h⟩:=iDet h;refine wt (cN (jb had3 v8 hy9) rfl call19 rfl rfl rfl rfl)<|wt (LR.not rfl)<|ws (pF rfl rfl)<|wN ?_;exact ⟨(!v8),(),h,sP⟩
 ·rintro v4 _ h;refine wC rfl (fun hc10=>?_) (fun hc10=>?_)
  ·replace h:=iT hc10 h;refine wQ<|wR ?_;obtain ⟨v11,hy12,h⟩:=iDet h;refine ws (cN (VI v11 hy12) rfl call20 rfl rfl rfl rfl)<|wa ?_;refine wN<|wX ?_;cases h;exact ⟨.inr rfl,_,.cons (.tmp rfl rfl)<|.nil,rfl⟩
  ·replace h:=iF hc10 h;refine wK<|wQ<|wR<|wm ?_;obtain ⟨v13,hy14,h⟩:=iDet h;refine ws (cN (wEa l1 v13 hy14) rfl call10 rfl rfl rfl rfl)<|ws (LR.allocZ (cs:=[_,_]) zeroValue32 rfl rfl rfl rfl)<|ws (sB (ns:=[_,_]) sizeOf32 rfl rfl rfl rfl rfl rfl rfl)<|wN<|wQ<|wz (tl:=[(1,_),(2,_),(7,_)]) (to:=[(7,_)]) ?_;refine PWc.regionE [⟨[23],[],[],[],[],[7],[],[]⟩,⟨[24],[],[7],[],[],[],[],[]⟩,{ws:=[25]},⟨[26],[],[],[],[],[7],[],[]⟩,⟨[27],[],[7],[],[],[],[],[]⟩,⟨[28],[20560,20561,20562],[],[20560,20561,20562],[],[20560],[20561,20562],[]⟩,⟨[22],[],[],[],[],[20560],[],[]⟩,⟨[29],[],[],[],[],[20560],[],[]⟩,{ws:=[30]},⟨[8],[],[],[],[],[20560],[],[]⟩,{ws:=[9]}] (by kernel_rfl) (by kernel_rfl) rfl ?_;refine kp (fun _ he ho=>fR underlying32 rfl sizeOf23 (by decide) rfl (he rfl rfl)) ?_;refine kp (fun _ he ho=>lD isAgg23 (he rfl rfl) (ho rfl rfl) rfl) ?_;obtain ⟨v15,hy16,h⟩:=iDet h;refine kp (fun _ he ho=>cN (PRow.fun (zRa v13.ctx v15 hy16)) (he rfl rfl) call12 (evsE he rfl rfl) rfl rfl rfl) ?_;refine kp (fun _ he ho=>fR underlying32 rfl sizeOf24 (by decide) rfl (he rfl rfl)) ?_;refine kp (fun _ he ho=>lD isAgg24 (he rfl rfl) (ho rfl rfl) rfl) ?_;obtain ⟨y17,hy18,h⟩:=iDet h;rcases y17 with z19 | z52
   ·replace h:=iSumL h;refine PQe.callObj [] [] [] (XH v15 v13.l (.inl z19) hy18) hK (fun _ he=>⟨he rfl rfl,evsE he rfl rfl⟩) call11 (by first | rfl | (simp;done) | (simp [PV.nilD,PV.ren,rn];omega)) (.nil) rfl rfl rfl rfl (.inl rfl) rfl ?_;refine kp (fun _ he ho=>mV (he rfl rfl)) ?_;refine kp (fun _ he ho=>LR.extract (he rfl rfl) rfl) ?_;refine kp (fun _ he ho=>LR.extract (he rfl rfl) rfl) ?_;refine kp (fun _ he ho=>aS (he rfl rfl)) ?_;refine kp (fun _ he ho=>aS (he rfl rfl))<|PQe.nil<|wQ<|wQ<|wz (tl:=[(1,_),(2,_),(7,_),(8,_),(9,_)]) (to:=[(7,_)]) ?_;refine wR<|wa ?_;refine wN ?_;refine PWc.jnX (zG h) (fun (_:Unit) (_:Unit)=>⟨79,[(1,.d (.v (.int .u16 dev2))),(2,.d (.sl (List.map TPart.e had3))),(7,.ref 7 0),(8,.d (.v (.pointer none))),(9,.d (.v (.int .i64 1)))],[(7,.cells 32 [.d (.sl (List.map TPart.e v13.ctx)),.d (.sl (List.map TEvent.e v13.l))])]⟩) (fun h=>?_) ?_
    ·refine wB<|wM (fun (i41:Int) (_:Unit)=>⟨79,[(1,.d (.v (.int .u16 dev2))),(2,.d (.sl (List.map TPart.e had3))),(7,.ref 7 0),(8,.d (.v (.pointer none))),(9,.d (.v (.int .i64 1))),(10,.d (.v (.int .i64 i41)))],[(7,.cells 32 [.d (.sl (List.map TPart.e v13.ctx)),.d (.sl (List.map TEvent.e v13.l))])]⟩) () h (sP) ?_;rintro N i41 _ h;refine wQ<|wQ<|wR<|wm ?_;refine ws (fR underlying32 rfl sizeOf24 (by decide) rfl rfl)<|ws (lD isAgg24 rfl rfl rfl)<|ws (lM (enc:=TEvent.e) (L:=v13.l) underlying24 rfl)<|ws (LR.leq rfl rfl)<|wN ?_;refine wC rfl (fun hc42=>?_) (fun hc42=>?_)
     ·replace h:=iT hc42 h;refine wK<|wQ<|wB<|wQ<|wz (tl:=[(1,_),(2,_),(7,_),(8,_),(9,_),(10,_)]) (to:=[(7,_)]) ?_;refine PWc.regionE [{ws:=[38]},{ws:=[39]},{ws:=[40]},⟨[41],[],[],[],[],[7],[],[]⟩,⟨[42],[],[7],[],[],[],[],[]⟩,{ws:=[43]},{ws:=[44]},{ws:=[45]},⟨[46],[],[7],[],[],[],[],[]⟩,{ws:=[47]},{ws:=[48]},⟨[49],[],[],[],[],[7],[],[]⟩,⟨[50],[],[7],[],[],[],[],[]⟩,{ws:=[51]},{ws:=[52]},{ws:=[53]},{ws:=[54]},{ws:=[55]}] (by kernel_rfl) (by kernel_rfl) rfl ?_;refine kp (fun _ he ho=>mV (he rfl rfl)) ?_;refine kp (fun _ he ho=>mV (he rfl rfl)) ?_;refine kp (fun _ he ho=>mV (he rfl rfl)) ?_;refine kp (fun _ he ho=>fR underlying32 rfl sizeOf24 (by decide) rfl (he rfl rfl)) ?_;refine kp (fun _ he ho=>lD isAgg24 (he rfl rfl) (ho rfl rfl) rfl) ?_;refine kp (fun _ he ho=>mV (he rfl rfl)) ?_;obtain ⟨hy43,h⟩:=zk h;refine kp (fun _ he ho=>LR.cutHT (enc:=TEvent.e) (L:=v13.l) underlying24 sizeOf69 (he rfl rfl) (fun _=>rfl) (he rfl rfl) hy43) ?_;obtain ⟨v44,hy45,h⟩:=iDet h;refine kp (fun _ he ho=>cN (XA dev2 had3 ((List.drop (Int.toNat 0) (List.take (Int.toNat i41) v13.l))) v44 hy45) (he rfl rfl) call22 (evsE he rfl rfl) rfl rfl rfl) ?_;refine kp (fun _ he ho=>lA (ps:=[_,_]) isAgg32 sizeOf32 (he rfl rfl) (ho rfl rfl) rfl rfl) ?_;refine kp (fun _ he ho=>mV (he rfl rfl)) ?_;refine kp (fun _ he ho=>mV (he rfl rfl)) ?_;refine kp (fun _ he ho=>fR underlying32 rfl sizeOf24 (by decide) rfl (he rfl rfl)) ?_;refine kp (fun _ he ho=>lD isAgg24 (he rfl rfl) (ho rfl rfl) rfl) ?_;refine kp (fun _ he ho=>mV (he rfl rfl)) ?_;obtain ⟨hy46,h⟩:=zk h;refine kp (fun _ he ho=>LR.cutHT (enc:=TEvent.e) (L:=v13.l) underlying24 sizeOf69 (he rfl rfl) (fun _=>rfl) (he rfl rfl) hy46) ?_;obtain ⟨v47,hy48,h⟩:=iDet h;refine kp (fun _ he ho=>cN (PRow.fun (WQ v13 dev2 had3 ((List.drop (Int.toNat 0) (List.take (Int.toNat i41) v13.l))) v47 hy48)) (he rfl rfl) call23 (evsE he rfl rfl) rfl rfl rfl) ?_;obtain ⟨v49,hy50,h⟩:=iDet h;refine kp (fun _ he ho=>cN (QI v44 v47 v49 hy50) (he rfl rfl) call21 (evsE he rfl rfl) rfl rfl rfl) ?_;refine kp (fun _ he ho=>LR.not (he rfl rfl))<|PQe.nil ?_;refine wC rfl (fun hc51=>?_) (fun hc51=>?_)
      ·replace h:=iT hc51 h;refine wQ<|wR<|wy (tl:=[]) (to:=[]) ?_;refine wa ?_;refine wN<|wX ?_;cases h;exact ⟨.inr rfl,_,.cons (.tmp rfl rfl)<|.nil,rfl⟩
      ·replace h:=iF hc51 h;refine wK<|wR<|wy (tl:=[(1,_),(2,_),(7,_),(8,_),(9,_),(10,_)]) (to:=[(7,_)]) ?_;refine wm ?_;refine ws (LR.addW rfl rfl)<|wa ?_;refine wN ?_;exact ⟨(IntKind.i64.wrap (i41 + 1)),(),h,sP⟩
     ·replace h:=iF hc42 h;refine wZ ?_;exact ⟨(),(),h,sP⟩
    ·rintro _ _ h;refine wQ<|wz (tl:=[(1,_),(2,_),(7,_),(8,_),(9,_)]) (to:=[(7,_)]) ?_;refine PWc.regionE [{ws:=[56]},{ws:=[57]},{ws:=[58]},{ws:=[59]},{ws:=[60]},{ws:=[61]},{ws:=[62]},{ws:=[63]},{ws:=[64]},{ws:=[65]},{ws:=[66]},{ws:=[67]},{ws:=[68]},{ws:=[69]},{ws:=[70]},{ws:=[71]},{ws:=[72]},{ws:=[73]},{ws:=[74]},{ws:=[75]},{ws:=[76]},{ws:=[77]},{ws:=[78]},{ws:=[6]}] (by kernel_rfl) (by kernel_rfl) rfl ?_;refine kp (fun _ he ho=>mV (he rfl rfl)) ?_;refine kp (fun _ he ho=>eQ (he rfl rfl) (he rfl rfl)) ?_;refine kp (fun _ he ho=>mV (he rfl rfl))<|kx<|kx<|kx<|kx<|kx<|kx<|kx<|kx ?_;refine kx ?_;refine kp (fun _ he ho=>pF (he rfl rfl) (he rfl rfl)) ?_;refine kp (fun _ he ho=>mV (he rfl rfl))<|kx<|kx<|kx<|kx<|kx ?_;refine kp (fun _ he ho=>pF (he rfl rfl) (he rfl rfl)) ?_;refine kp (fun _ he ho=>mV (he rfl rfl))<|kx ?_;refine kp (fun _ he ho=>pF (he rfl rfl) (he rfl rfl)) ?_;refine kp (fun _ he ho=>aS (he rfl rfl))<|PQe.nil<|wX ?_;cases h;exact ⟨.inr rfl,_,.cons (.tmp rfl rfl)<|.nil,rfl⟩
   ·replace h:=iSumR h;refine PQe.callObj [(12,20560),(30241,20561),(30242,20562)] [] [12,30241,30242] (XH v15 v13.l (.inr z52) hy18) hK (fun _ he=>⟨he rfl rfl,evsE he rfl rfl⟩) call11 (by first | rfl | (simp;done) | (simp [PV.nilD,PV.ren,rn];omega)) (.nil) rfl rfl rfl rfl (.inl rfl) rfl ?_;refine kp (fun _ he ho=>mV (he rfl rfl)) ?_;refine kp (fun _ he ho=>LR.extract (he rfl rfl) rfl) ?_;refine kp (fun _ he ho=>LR.extract (he rfl rfl) rfl) ?_;refine kp (fun _ he ho=>aS (he rfl rfl)) ?_;refine kp (fun _ he ho=>aS (he rfl rfl))<|PQe.nil<|wQ<|wQ<|wz (tl:=[(1,_),(2,_),(7,_),(8,_),(9,_)]) (to:=[(7,_),(20560,_),(20561,_),(20562,_)]) ?_;refine wR<|wa ?_;refine wN ?_;refine PWc.jnX (zG h) (fun (_:Unit) (_:Unit)=>⟨79,[(1,.d (.v (.int .u16 dev2))),(2,.d (.sl (List.map TPart.e had3))),(7,.ref 7 0),(8,.ref 20560 0),(9,.d (.v (.int .i64 0)))],[(7,.cells 32 [.d (.sl (List.map TPart.e v13.ctx)),.d (.sl (List.map TEvent.e v13.l))]),(20560,.cells 98 [.d (.sl (List.map TPart.e z52.1)),.mp 20561,.mp 20562]),(20561,.mapH z52.2.1 [.u16,.u64] true (encM TDot.k TEvent.e z52.2.2.1)),(20562,.mapH z52.2.2.2.1 [.u16,.u64] true (encM TDot.k TEvent.e z52.2.2.2.2))]⟩) (fun h=>?_) ?_
    ·refine wB<|wM (fun (i74:Int) (_:Unit)=>⟨79,[(1,.d (.v (.int .u16 dev2))),(2,.d (.sl (List.map TPart.e had3))),(7,.ref 7 0),(8,.ref 20560 0),(9,.d (.v (.int .i64 0))),(10,.d (.v (.int .i64 i74)))],[(7,.cells 32 [.d (.sl (List.map TPart.e v13.ctx)),.d (.sl (List.map TEvent.e v13.l))]),(20560,.cells 98 [.d (.sl (List.map TPart.e z52.1)),.mp 20561,.mp 20562]),(20561,.mapH z52.2.1 [.u16,.u64] true (encM TDot.k TEvent.e z52.2.2.1)),(20562,.mapH z52.2.2.2.1 [.u16,.u64] true (encM TDot.k TEvent.e z52.2.2.2.2))]⟩) () h (sP) ?_;rintro N i74 _ h;refine wQ<|wQ<|wR<|wm ?_;refine ws (fR underlying32 rfl sizeOf24 (by decide) rfl rfl)<|ws (lD isAgg24 rfl rfl rfl)<|ws (lM (enc:=TEvent.e) (L:=v13.l) underlying24 rfl)<|ws (LR.leq rfl rfl)<|wN ?_;refine wC rfl (fun hc75=>?_) (fun hc75=>?_)
     ·replace h:=iT hc75 h;refine wK<|wQ<|wB<|wQ<|wz (tl:=[(1,_),(2,_),(7,_),(8,_),(9,_),(10,_)]) (to:=[(7,_),(20560,_),(20561,_),(20562,_)]) ?_;refine PWc.regionE [⟨[38],[],[],[],[],[20560],[],[]⟩,{ws:=[39]},{ws:=[40]},⟨[41],[],[],[],[],[7],[],[]⟩,⟨[42],[],[7],[],[],[],[],[]⟩,{ws:=[43]},{ws:=[44]},⟨[45],[],[20560,20561,20562],[],[],[],[],[]⟩,⟨[46],[],[7],[],[],[],[],[]⟩,{ws:=[47]},{ws:=[48]},⟨[49],[],[],[],[],[7],[],[]⟩,⟨[50],[],[7],[],[],[],[],[]⟩,{ws:=[51]},{ws:=[52]},{ws:=[53]},{ws:=[54]},{ws:=[55]}] (by kernel_rfl) (by kernel_rfl) rfl ?_;refine kp (fun _ he ho=>mV (he rfl rfl)) ?_;refine kp (fun _ he ho=>mV (he rfl rfl)) ?_;refine kp (fun _ he ho=>mV (he rfl rfl)) ?_;refine kp (fun _ he ho=>fR underlying32 rfl sizeOf24 (by decide) rfl (he rfl rfl)) ?_;refine kp (fun _ he ho=>lD isAgg24 (he rfl rfl) (ho rfl rfl) rfl) ?_;refine kp (fun _ he ho=>mV (he rfl rfl)) ?_;obtain ⟨hy76,h⟩:=zk h;refine kp (fun _ he ho=>LR.cutHT (enc:=TEvent.e) (L:=v13.l) underlying24 sizeOf69 (he rfl rfl) (fun _=>rfl) (he rfl rfl) hy76) ?_;obtain ⟨y77,hy78,h⟩:=iDet h;refine PQe.callObjS [(100,20560),(101,20561),(102,20562)] [] [100,101,102] [] [(100,.cells 98 [.d (.sl (List.map TPart.e z52.1)),.mp 101,.mp 102]),(101,.mapH z52.2.1 [.u16,.u64] true (encM TDot.k TEvent.e z52.2.2.1)),(102,.mapH z52.2.2.2.1 [.u16,.u64] true (encM TDot.k TEvent.e z52.2.2.2.2))] (WR dev2 had3 ((List.drop (Int.toNat 0) (List.take (Int.toNat i74) v13.l))) z52.1 z52.2.1 z52.2.2.1 z52.2.2.2.1 z52.2.2.2.2 y77 hy78) hK (fun _ he=>⟨he rfl rfl,evsE he rfl rfl⟩) call22 (by first | rfl | (simp;done) | (simp [PV.nilD,PV.ren,rn];omega)) (by repeat' first | constructor | (congr 1;first | (simp;done) | (simp;omega) | omega)) (.nil) (.cons rfl<|.cons rfl<|.cons rfl<|.nil) (by repeat' first | constructor | (congr 1;first | (simp;done) | (simp;omega) | omega)) rfl rfl rfl rfl rfl rfl (.inl rfl) rfl ?_;refine kp (fun _ he ho=>lA (ps:=[_,_]) isAgg32 sizeOf32 (he rfl rfl) (ho rfl rfl) rfl rfl) ?_;refine kp (fun _ he ho=>mV (he rfl rfl)) ?_;refine kp (fun _ he ho=>mV (he rfl rfl)) ?_;refine kp (fun _ he ho=>fR underlying32 rfl sizeOf24 (by decide) rfl (he rfl rfl)) ?_;refine kp (fun _ he ho=>lD isAgg24 (he rfl rfl) (ho rfl rfl) rfl) ?_;refine kp (fun _ he ho=>mV (he rfl rfl)) ?_;obtain ⟨hy79,h⟩:=zk h;refine kp (fun _ he ho=>LR.cutHT (enc:=TEvent.e) (L:=v13.l) underlying24 sizeOf69 (he rfl rfl) (fun _=>rfl) (he rfl rfl) hy79) ?_;obtain ⟨v80,hy81,h⟩:=iDet h;refine kp (fun _ he ho=>cN (PRow.fun (WQ v13 dev2 had3 ((List.drop (Int.toNat 0) (List.take (Int.toNat i74) v13.l))) v80 hy81)) (he rfl rfl) call23 (evsE he rfl rfl) rfl rfl rfl) ?_;obtain ⟨v82,hy83,h⟩:=iDet h;refine kp (fun _ he ho=>cN (QI y77 v80 v82 hy83) (he rfl rfl) call21 (evsE he rfl rfl) rfl rfl rfl) ?_;refine kp (fun _ he ho=>LR.not (he rfl rfl))<|PQe.nil ?_;refine wC rfl (fun hc84=>?_) (fun hc84=>?_)
      ·replace h:=iT hc84 h;refine wQ<|wz (tl:=[]) (to:=[]) ?_;refine wR<|wa ?_;refine wN<|wX ?_;cases h;exact ⟨.inr rfl,_,.cons (.tmp rfl rfl)<|.nil,rfl⟩
      ·replace h:=iF hc84 h;refine wK<|wz (tl:=[(1,_),(2,_),(7,_),(8,_),(9,_),(10,_)]) (to:=[(7,_),(20560,_),(20561,_),(20562,_)]) ?_;refine wR<|wm ?_;refine ws (LR.addW rfl rfl)<|wa ?_;refine wN ?_;exact ⟨(IntKind.i64.wrap (i74 + 1)),(),h,sP⟩
     ·replace h:=iF hc75 h;refine wZ ?_;exact ⟨(),(),h,sP⟩
    ·rintro _ _ h;refine wQ<|wz (tl:=[(1,_),(2,_),(7,_),(8,_),(9,_)]) (to:=[(7,_),(20560,_),(20561,_),(20562,_)]) ?_;refine wJ (zG h) (fun (v85:Bool) (_:Unit)=>⟨79,[(6,.d (.v (.bool v85)))],[]⟩) (fun h=>?_) ?_
     ·refine PWc.regionE [{ws:=[56]},{ws:=[57]},{ws:=[58]},⟨[59],[],[],[],[],[20560],[],[]⟩,{ws:=[60]},{ws:=[61]},⟨[62],[],[20560,20561,20562],[],[],[],[],[]⟩,⟨[63],[],[7],[],[],[],[],[]⟩,{ws:=[64]},{ws:=[65]},{ws:=[66]},{ws:=[67]},{ws:=[68]},{ws:=[69]},{ws:=[70]},{ws:=[71]},{ws:=[72]},{ws:=[73]},{ws:=[74]},{ws:=[75]},{ws:=[76]},{ws:=[77]},{ws:=[78]},{ws:=[6]}] (by kernel_rfl) (by kernel_rfl) rfl ?_;refine kp (fun _ he ho=>mV (he rfl rfl)) ?_;refine kp (fun _ he ho=>eQ (he rfl rfl) (he rfl rfl)) ?_;refine kp (fun _ he ho=>mV (he rfl rfl)) ?_;refine PQe.stepP (fun _ he ho=>mV (he rfl rfl)) (.inr ⟨_,_,_,rfl,rfl,rfl⟩) rfl ?_;refine PQe.stepP (fun _ he ho=>mV (he rfl rfl)) (.inr ⟨_,_,_,rfl,rfl,rfl⟩) rfl ?_;refine PQe.stepP (fun _ he ho=>mV (he rfl rfl)) (.inr ⟨_,_,_,rfl,rfl,rfl⟩) rfl ?_;obtain ⟨y86,hy87,h⟩:=iDet h;refine PQe.callObjS [(100,20560),(101,20561),(102,20562)] [] [100,101,102] [] [(100,.cells 98 [.d (.sl (List.map TPart.e z52.1)),.mp 101,.mp 102]),(101,.mapH z52.2.1 [.u16,.u64] true (encM TDot.k TEvent.e z52.2.2.1)),(102,.mapH z52.2.2.2.1 [.u16,.u64] true (encM TDot.k TEvent.e z52.2.2.2.2))] (ua dev2 had3 z52.1 z52.2.1 z52.2.2.1 z52.2.2.2.1 z52.2.2.2.2 y86 hy87) hK (fun _ he=>⟨he rfl rfl,evsE he rfl rfl⟩) call25 (by first | rfl | (simp;done) | (simp [PV.nilD,PV.ren,rn];omega)) (by repeat' first | constructor | (congr 1;first | (simp;done) | (simp;omega) | omega)) (.nil) (.cons rfl<|.cons rfl<|.cons rfl<|.nil) (by repeat' first | constructor | (congr 1;first | (simp;done) | (simp;omega) | omega)) rfl rfl rfl rfl rfl rfl (.inr ⟨_,_,_,rfl,rfl,rfl⟩) rfl ?_;refine PQe.stepP (fun _ he ho=>lA (ps:=[_,_]) isAgg32 sizeOf32 (he rfl rfl) (ho rfl rfl) rfl rfl) (.inr ⟨_,_,_,rfl,rfl,rfl⟩) rfl ?_;refine PQe.stepP (fun _ he ho=>mV (he rfl rfl)) (.inr ⟨_,_,_,rfl,rfl,rfl⟩) rfl ?_;refine PQe.stepP (fun _ he ho=>mV (he rfl rfl)) (.inr ⟨_,_,_,rfl,rfl,rfl⟩) rfl ?_;obtain ⟨v88,hy89,h⟩:=iDet h;refine PQe.stepP (fun _ he ho=>cN (PRow.fun (WP v13 dev2 had3 v88 hy89)) (he rfl rfl) call26 (evsE he rfl rfl) rfl rfl rfl) (.inr ⟨_,_,_,rfl,rfl,rfl⟩) rfl ?_;obtain ⟨v90,hy91,h⟩:=iDet h;refine PQe.stepP (fun _ he ho=>cN (xBa y86 v88 v90 hy91) (he rfl rfl) call24 (evsE he rfl rfl) rfl rfl rfl) (.inr ⟨_,_,_,rfl,rfl,rfl⟩) rfl ?_;refine kp (fun _ he ho=>pT (he rfl rfl) (he rfl rfl)) ?_;refine kp (fun _ he ho=>mV (he rfl rfl)) ?_;refine PQe.split (d:=69) rfl (fun hg92=>?_) (fun hg92=>?_)
      ·replace h:=iT hg92 h;refine PQe.stepP (fun _ he ho=>mV (he rfl rfl)) (.inr ⟨_,_,_,rfl,rfl,rfl⟩) rfl ?_;refine PQe.stepP (fun _ he ho=>mV (he rfl rfl)) (.inr ⟨_,_,_,rfl,rfl,rfl⟩) rfl ?_;obtain ⟨v93,hy94,h⟩:=iDet h;refine PQe.stepP (fun _ he ho=>cN (PRow.fun (vV dev2 had3 v93 hy94)) (he rfl rfl) call25 (evsE he rfl rfl) rfl rfl rfl) (.inr ⟨_,_,_,rfl,rfl,rfl⟩) rfl ?_;refine PQe.stepP (fun _ he ho=>lM (enc:=TEvent.e) (L:=v93) underlying24 (he rfl rfl)) (.inr ⟨_,_,_,rfl,rfl,rfl⟩) rfl ?_;refine PQe.stepP (fun _ he ho=>eQ (he rfl rfl) (he rfl rfl)) (.inr ⟨_,_,_,rfl,rfl,rfl⟩) rfl ?_;refine kp (fun _ he ho=>pT (he rfl rfl) (he rfl rfl)) ?_;refine kp (fun _ he ho=>mV (he rfl rfl)) ?_;refine PQe.split (d:=76) rfl (fun hg95=>?_) (fun hg95=>?_)
       ·replace h:=iT hg95 h;obtain ⟨v96,hy97,h⟩:=iDet h;refine PQe.stepP (fun _ he ho=>cN (VI v96 hy97) (he rfl rfl) call20 (evsE he rfl rfl) rfl rfl rfl) (.inr ⟨_,_,_,rfl,rfl,rfl⟩) rfl ?_;refine kp (fun _ he ho=>pT (he rfl rfl) (he rfl rfl)) ?_;refine kp (fun _ he ho=>aS (he rfl rfl))<|PQe.nil ?_;exact ⟨v96,(),h,sP⟩
       ·replace h:=iF hg95 h;refine kx ?_;refine kp (fun _ he ho=>pF (he rfl rfl) (he rfl rfl)) ?_;refine kp (fun _ he ho=>aS (he rfl rfl))<|PQe.nil ?_;exact ⟨false,(),h,sP⟩
      ·replace h:=iF hg92 h;refine kx<|kx<|kx<|kx<|kx ?_;refine kp (fun _ he ho=>pF (he rfl rfl) (he rfl rfl)) ?_;refine kp (fun _ he ho=>mV (he rfl rfl))<|kx ?_;refine kp (fun _ he ho=>pF (he rfl rfl) (he rfl rfl)) ?_;refine kp (fun _ he ho=>aS (he rfl rfl))<|PQe.nil ?_;exact ⟨false,(),h,sP⟩
     ·rintro v85 _ h;refine wX ?_;cases h;exact ⟨.inr rfl,_,.cons (.tmp rfl rfl)<|.nil,rfl⟩

end Go.Proofs

namespace Go.Ep
open Go

theorem wI64 {n:Int} (h:-9223372036854775808 ≤ n) (h':n ≤ 9223372036854775807):IntKind.i64.wrap n = n:=by simp [IntKind.wrap,IntKind.bits,IntKind.signed];omega
theorem wU64 {n:Int} (h:0 ≤ n) (h':n ≤ 18446744073709551615):IntKind.u64.wrap n = n:=by simp [IntKind.wrap,IntKind.bits,IntKind.signed];omega
theorem wU16 {n:Int} (h:0 ≤ n) (h':n ≤ 65535):IntKind.u16.wrap n = n:=by simp [IntKind.wrap,IntKind.bits,IntKind.signed];omega
theorem wU8 {n:Int} (h:0 ≤ n) (h':n ≤ 255):IntKind.u8.wrap n = n:=by simp [IntKind.wrap,IntKind.bits,IntKind.signed];omega
theorem zf {i:Nat} (h:i < 9223372036854775807):IntKind.i64.wrap ((i:Int) + 1) = ((i + 1:Nat):Int):=by rw [wI64 (by omega) (by omega)];rfl
namespace M
variable {α β σ ρ τ ε:Type}
theorem yH (p:Prop) [Decidable p] (x y:M α):cond (decide p) x y = if p then x else y:=by by_cases h:p <;> simp [h]
theorem ww {body:σ → M (Step σ ρ)} (l:List ε) (mk:Nat → τ → σ) (f:τ → ε → τ) (g:τ → M ρ)
  (I:Nat → τ → Prop) (h1:∀ (i:Nat) (x:ε) (t:τ),l[i]? = some x → i < l.length → I i t → body (mk i t) = pure (.next (mk (i + 1) (f t x))) ∧ I (i + 1) (f t x))
  (h2:∀ t,I l.length t → body (mk l.length t) = (g t).bind fun r=>pure (.done r)) (t0:τ) (h0:I 0 t0):loop body (mk 0 t0) = g (l.foldl f t0):=by
 have key:∀ k i t,i + k = l.length → I i t → loop body (mk i t) = g ((l.drop i).foldl f t):=by
  intro k
  induction k with
  | zero=>
   intro i t hi hI;have:i = l.length:=by omega
   subst this;rw [UB,h2 t hI,List.drop_length]
   rfl
  | succ k ih=>
   intro i t hi hI;have hlt:i < l.length:=by omega
   obtain ⟨h3,h4⟩:=h1 i l[i] t (List.getElem?_eq_getElem hlt) hlt hI;rw [zi h3,ih (i + 1) _ (by omega) h4,List.drop_eq_getElem_cons hlt]
   rfl
 simpa using key l.length 0 t0 (by omega) h0
theorem loopF {body:σ → M (Step σ ρ)} (l:List ε) (mk:Nat → σ) (p:Nat → ε → Bool) (r:Nat → ε → ρ) (d:M ρ)
  (h1:∀ (i:Nat) (x:ε),l[i]? = some x → i < l.length → body (mk i) = if p i x then pure (.done (r i x)) else pure (.next (mk (i + 1))))
  (h2:body (mk l.length) = d.bind fun r=>pure (.done r)):loop body (mk 0) = match (l.zipIdx).find? (fun y=>p y.2 y.1) with | some y=>pure (r y.2 y.1) | none=>d:=by
 have key:∀ k i,i + k = l.length → loop body (mk i) = match ((l.drop i).zipIdx i).find? (fun y=>p y.2 y.1) with | some y=>pure (r y.2 y.1) | none=>d:=by
  intro k
  induction k with
  | zero=>
   intro i hi;have:i = l.length:=by omega
   subst this;rw [UB,h2,List.drop_length]
   rfl
  | succ k ih=>
   intro i hi;have hlt:i < l.length:=by omega
   have h3:=h1 i l[i] (List.getElem?_eq_getElem hlt) hlt;rw [List.drop_eq_getElem_cons hlt,List.zipIdx_cons,List.find?_cons]
   by_cases hp:p i l[i] = true
   ·rw [if_pos hp] at h3;rw [zj h3];simp [hp]
   ·rw [if_neg hp] at h3;rw [zi h3,ih (i + 1) (by omega)];simp [hp]
 simpa using key l.length 0 (by omega)
theorem xP {body:σ → M (Step σ ρ)} (l:List ε) (mk:Nat → σ) (p:Nat → ε → Bool) (r1 r2:ρ)
  (h1:∀ (i:Nat) (x:ε),l[i]? = some x → i < l.length → body (mk i) = if p i x then pure (.next (mk (i + 1))) else pure (.done r2))
  (h2:body (mk l.length) = pure (.done r1)):loop body (mk 0) = pure (if l.zipIdx.all (fun y=>p y.2 y.1) then r1 else r2):=by
 have key:∀ k i,i + k = l.length → loop body (mk i) = pure (if ((l.drop i).zipIdx i).all (fun y=>p y.2 y.1) then r1 else r2):=by
  intro k
  induction k with
  | zero=>
   intro i hi;have:i = l.length:=by omega
   subst this;rw [zj h2,List.drop_length]
   rfl
  | succ k ih=>
   intro i hi;have hlt:i < l.length:=by omega
   have h3:=h1 i l[i] (List.getElem?_eq_getElem hlt) hlt;rw [List.drop_eq_getElem_cons hlt,List.zipIdx_cons,List.all_cons]
   by_cases hp:p i l[i] = true
   ·rw [if_pos hp] at h3;rw [zi h3,ih (i + 1) (by omega),hp,Bool.true_and]
   ·rw [if_neg hp] at h3;rw [zj h3];simp [hp]
 have:=key l.length 0 (by omega);rw [List.drop_zero] at this;exact this

def came {ε:Type} (m:List ε) (L:List Nat):List ε:=L.filterMap fun i=>m[i]?
theorem wHa {m:List ε} {L:List Nat} {i:Nat} {y:ε} (h:m[i]? = some y):came m (L ++ [i]) = came m L ++ [y]:=by simp [came,h]
theorem Jl {n:Nat} {L:List Nat} (hn:L.Nodup) (hb:∀ i ∈ L,i < n) (ha:∀ i,i < n → i ∈ L):L.Perm (List.range n):=by
 refine (List.perm_ext_iff_of_nodup hn List.nodup_range).2 fun i=>?_
 rw [List.mem_range];exact ⟨hb i,ha i⟩
theorem wIa {m:List ε} {L:List Nat} (hn:L.Nodup) (hb:∀ i ∈ L,i < m.length) (ha:∀ i,i < m.length → i ∈ L):(came m L).Perm m:=by
 have h1:=(Jl hn hb ha).filterMap fun i=>m[i]?
 have h2:(List.range m.length).filterMap (fun i=>m[i]?) = m:=by
  apply List.ext_getElem?;intro i;clear h1 hn hb ha;have:(List.range m.length).filterMap (fun i=>m[i]?) = m:=by
   induction m with
   | nil=>rfl
   | cons x r ih=>
    rw [List.length_cons,List.range_succ_eq_map,List.filterMap_cons];simp only [List.getElem?_cons_zero,List.filterMap_map]
    congr 1
  rw [this]
 rw [h2] at h1;exact h1
theorem wJa {n:Nat} {L:List Nat} (hn:L.Nodup) (hb:∀ i ∈ L,i < n):L.length ≤ n:=by
 have:=List.Nodup.length_le_of_subset hn (l₂:=List.range n) (fun i hi=>List.mem_range.2 (hb i hi));simpa using this

theorem full {n:Nat} {L:List Nat} (hn:L.Nodup) (hb:∀ i ∈ L,i < n) (hl:n ≤ L.length):∀ i,i < n → i ∈ L:=by
 intro i hi;refine Classical.byContradiction fun hni=>?_
 have:=wJa (n:=n) (L:=i :: L) (List.nodup_cons.2 ⟨hni,hn⟩) (fun j hj=>by
  rcases List.mem_cons.1 hj with rfl | hj
  ·exact hi
  ·exact hb j hj)
 simp at this;omega
theorem loopM {body:σ → M (Step σ ρ)} (m:List ε) (mk:List Nat → τ → σ) (f:τ → ε → M τ) (g:τ → M ρ) (I:List ε → τ → Prop) (Q:ρ → Prop)
  (hb:∀ L t,(∀ i ∈ L,i < m.length) → body (mk L t) = need (∀ i ∈ L,i < m.length) ((nxt m.length L).bind fun o=>match o with
   | none=>(g t).bind fun r=>pure (.done r)
   | some i=>(idx m (Int.ofNat i)).bind fun y=>(f t y).bind fun t'=>pure (.next (mk (L ++ [i]) t'))))
  (hs:∀ l t y,I l t → l.length < m.length → y ∈ m → ∃ t',f t y = pure t' ∧ I (l ++ [y]) t') (he:∀ l t,l.Perm m → I l t → (g t).wp Q) (t0:τ) (h0:I [] t0):(loop body (mk [] t0)).wp Q:=by
 have key:∀ k L t,L.length + k = m.length → L.Nodup → (∀ i ∈ L,i < m.length) → I (came m L) t → jK body Q (mk L t):=by
  intro k
  induction k with
  | zero=>
   intro L t hk hn hlt hI;refine ZE ?_;rw [hb L t hlt];have hall:∀ i,i < m.length → i ∈ L:=fun i hi=>full hn hlt (by omega) i hi
   refine ⟨hlt,⟨⟨none,hall⟩,fun o ho=>?_⟩⟩
   cases o with
   | none=>
    have:=he _ t (wIa hn hlt hall) hI;exact this
   | some i=>exact absurd (hall i ho.1) ho.2
  | succ k ih=>
   intro L t hk hn hlt hI;refine ZE ?_;rw [hb L t hlt];have hex:∃ i,i < m.length ∧ i ∉ L:=by
    refine Classical.byContradiction fun hno=>?_
    have hall:∀ i,i < m.length → i ∈ L:=fun i hi=>Classical.byContradiction fun h=>hno ⟨i,hi,h⟩
    have:=(Jl hn hlt hall).length_eq;simp at this;omega
   obtain ⟨i0,hi0⟩:=hex;refine ⟨hlt,⟨⟨some i0,hi0⟩,fun o ho=>?_⟩⟩
   cases o with
   | none=>exact absurd (ho i0 hi0.1) hi0.2
   | some i=>
    have hi:=List.getElem?_eq_getElem ho.1;obtain ⟨t',h1,h2⟩:=hs (came m L) t m[i] hI (by have:=List.length_filterMap_le (fun i=>m[i]?) L;unfold came;omega) (List.getElem_mem ho.1);show ((idx m (Int.ofNat i)).bind _).wp _;rw [show (Int.ofNat i) = (i:Int) from rfl,zF hi,zA,h1,zA];refine ih (L ++ [i]) t' (by simp;omega) ?_ ?_ (by rw [wHa hi];exact h2)
    ·rw [List.nodup_append];refine ⟨hn,by simp,fun a ha b hb'=>?_⟩;rw [List.mem_singleton.1 hb'];intro e;exact ho.2 (e ▸ ha)
    ·intro j hj;rcases List.mem_append.1 hj with hj | hj
     ·exact hlt j hj
     ·rw [List.mem_singleton.1 hj];exact ho.1
 exact key m.length [] t0 (by simp) List.nodup_nil (by simp) h0

theorem loopN {body:σ → M (Step σ ρ)} (n:Nat) (mk:List Nat → τ → σ) (I:List Nat → τ → Prop) (Q:ρ → Prop)
  (h:∀ L t,I L t → L.Nodup → (∀ i ∈ L,i < n) → ∃ K:Option Nat → M (Step σ ρ),body (mk L t) = need (∀ i ∈ L,i < n) ((nxt n L).bind K) ∧ ((∀ i,i < n → i ∈ L) → (K none).wp (Step.post (fun _=>False) Q)) ∧
   ∀ i,i < n → i ∉ L → ∃ t',K (some i) = pure (.next (mk (L ++ [i]) t')) ∧ I (L ++ [i]) t') (t0:τ) (h0:I [] t0):(loop body (mk [] t0)).wp Q:=by
 have key:∀ k L t,L.length + k = n → L.Nodup → (∀ i ∈ L,i < n) → I L t → jK body Q (mk L t):=by
  intro k
  induction k with
  | zero=>
   intro L t hk hn hlt hI;obtain ⟨K,h1,h2,h3⟩:=h L t hI hn hlt;refine ZE ?_;rw [h1];have hall:∀ i,i < n → i ∈ L:=full hn hlt (by omega);refine ⟨hlt,⟨⟨none,hall⟩,fun o ho=>?_⟩⟩
   cases o with
   | none=>exact (K none).mono (fun a ha=>by cases a with | next s=>exact ha.elim | done r=>exact ha) (h2 hall)
   | some i=>exact absurd (hall i ho.1) ho.2
  | succ k ih=>
   intro L t hk hn hlt hI;obtain ⟨K,h1,h2,h3⟩:=h L t hI hn hlt;refine ZE ?_;rw [h1];have hex:∃ i,i < n ∧ i ∉ L:=by
    refine Classical.byContradiction fun hno=>?_
    have hall:∀ i,i < n → i ∈ L:=fun i hi=>Classical.byContradiction fun h=>hno ⟨i,hi,h⟩
    have:=(Jl hn hlt hall).length_eq;simp at this;omega
   obtain ⟨i0,hi0⟩:=hex;refine ⟨hlt,⟨⟨some i0,hi0⟩,fun o ho=>?_⟩⟩
   cases o with
   | none=>exact absurd (ho i0 hi0.1) hi0.2
   | some i=>
    obtain ⟨t',h4,h5⟩:=h3 i ho.1 ho.2;show (K (some i)).wp _;rw [h4];refine ih (L ++ [i]) t' (by simp;omega) ?_ ?_ h5
    ·rw [List.nodup_append];refine ⟨hn,by simp,fun a ha b hb'=>?_⟩;rw [List.mem_singleton.1 hb'];intro e;exact ho.2 (e ▸ ha)
    ·intro j hj;rcases List.mem_append.1 hj with hj | hj
     ·exact hlt j hj
     ·rw [List.mem_singleton.1 hj];exact ho.1
 exact key n [] t0 (by simp) List.nodup_nil (by simp) h0
end M

namespace AL
variable {κ ν:Type} [DecidableEq κ]
theorem get_set (m:List (κ × ν)) (k q:κ) (v:ν):get (set m k v) q = if k = q then some v else get m q:=by
 induction m with
 | nil=>simp [set,get]
 | cons x r ih=>
  obtain ⟨a,u⟩:=x
  by_cases h:a = k
  ·subst h;simp only [set,if_true,get];split <;> rfl
  ·simp only [set,h,if_false,get,ih]
   by_cases h2:a = q
   ·subst h2;simp [Ne.symm h]
   ·simp [h2]
theorem getZ_set (m:List (κ × ν)) (k q:κ) (v z:ν):getZ (set m k v) q z = if k = q then v else getZ m q z:=by
 unfold getZ;rw [get_set];split <;> rfl
theorem keys_set (m:List (κ × ν)) (k:κ) (v:ν):(set m k v).map (·.1) = if k ∈ m.map (·.1) then m.map (·.1) else m.map (·.1) ++ [k]:=by
 induction m with
 | nil=>simp [set]
 | cons x r ih=>
  obtain ⟨a,u⟩:=x
  by_cases h:a = k
  ·subst h;simp [set]
  ·simp only [set,h,if_false,List.map_cons,ih,List.mem_cons,Ne.symm h,false_or]
   split <;> simp
theorem nodup_set {m:List (κ × ν)} (h:(m.map (·.1)).Nodup) (k:κ) (v:ν):((set m k v).map (·.1)).Nodup:=by
 rw [keys_set]
 split
 ·exact h
 ·rename_i hk
  rw [List.nodup_append];refine ⟨h,by simp,fun a ha b hb=>?_⟩;rw [List.mem_singleton.1 hb];intro e;exact hk (e ▸ ha)
theorem get_none {m:List (κ × ν)} {k:κ}:get m k = none ↔ k ∉ m.map (·.1):=by
 induction m with
 | nil=>simp [get]
 | cons x r ih=>
  obtain ⟨a,u⟩:=x
  by_cases h:a = k
  ·subst h;simp [get]
  ·simp [get,h,ih,Ne.symm h]
theorem get_mem {m:List (κ × ν)} {k:κ} {v:ν} (h:get m k = some v):(k,v) ∈ m:=by
 induction m with
 | nil=>simp [get] at h
 | cons x r ih=>
  obtain ⟨a,u⟩:=x
  by_cases e:a = k
  ·subst e;simp [get] at h;subst h;simp
  ·simp only [get,e,if_false] at h;exact List.mem_cons_of_mem _ (ih h)
theorem mem_get {m:List (κ × ν)} (hn:(m.map (·.1)).Nodup) {k:κ} {v:ν} (h:(k,v) ∈ m):get m k = some v:=by
 induction m with
 | nil=>simp at h
 | cons x r ih=>
  obtain ⟨a,u⟩:=x;simp only [List.map_cons,List.nodup_cons] at hn;rcases List.mem_cons.1 h with e | h
  ·cases e;simp [get]
  ·have:a ≠ k:=fun e=>hn.1 (e ▸ List.mem_map.2 ⟨(k,v),h,rfl⟩)
   simp only [get,this,if_false];exact ih hn.2 h
theorem len_set (m:List (κ × ν)) (k:κ) (v:ν):(set m k v).length ≤ m.length + 1:=by
 induction m with
 | nil=>simp [set]
 | cons x r ih=>
  obtain ⟨a,u⟩:=x;unfold set
  split
  ·simp
  ·simpa using ih
end AL
end Go.Ep

namespace Go.Ep.M.V
open Go

def zp (d:TDot):Bool:=decide (1 ≤ d.dev) && (decide (1 ≤ d.n) && decide (d.n ≤ 281474976710655))
theorem yT {d:TDot}:zp d = true ↔ 1 ≤ d.dev ∧ 1 ≤ d.n ∧ d.n ≤ 281474976710655:=by simp [zp]
theorem ZW (d:TDot):yy d = pure (zp d):=by
 unfold yy;rw [zV,zV,zA];refine congrArg pure ?_;rw [Bool.eq_iff_iff,yT];simp only [Bool.and_eq_true,decide_eq_true_eq];omega
theorem wx (d:TDot):vX d = pure (zp d):=by
 unfold vX;rw [zV,zV,zA];refine congrArg pure ?_;rw [Bool.eq_iff_iff,yT];simp only [Bool.and_eq_true,decide_eq_true_eq];omega
theorem Ub (a b:List TDot) (h:a.length ≤ 1000000000000):Xv a b = pure (decide (a = b)):=by
 unfold Xv
 by_cases hl:(a.length:Int) = b.length
 ·simp only [hl,decide_true,Bool.not_true,cond_false];have:=xP (body:=ZS a b) a (fun i=>(i:Int)) (fun i x=>decide (b[i]? = some x)) (.brk ()) (.ret false) (fun i x hx hi=>by
   have hb:i < b.length:=by omega
   unfold ZS;rw [zF hx,zF (List.getElem?_eq_getElem hb),zf (by omega)];simp only [zA,List.getElem?_eq_getElem hb,Option.some.injEq];have:decide ((i:Int) < (a.length:Int)) = true:=by simpa using hi
   rw [this,cond_true]
   by_cases he:b[i] = x
   ·subst he;simp
   ·rw [if_neg (by simpa using he)];have:(decide (x.dev = b[i].dev) && decide (x.n = b[i].n)) = false:=by
     rw [Bool.eq_false_iff];intro hc;simp at hc;apply he
     cases x;cases hh:b[i];simp_all
    rw [this];rfl) (by
   unfold ZS;simp)
  rw [show (0:Int) = ((0:Nat):Int) from rfl,this]
  by_cases he:a = b
  ·subst he;rw [if_pos]
   ·simp [zA,ud]
   ·rw [List.all_eq_true];intro ⟨x,i⟩ hx;rw [List.mk_mem_zipIdx_iff_getElem?] at hx;simpa using hx
  ·rw [if_neg]
   ·simp [he,zA,UA]
   ·intro hall;rw [List.all_eq_true] at hall;apply he;apply List.ext_getElem (by omega);intro i h1 h2;have:=hall (a[i],i) (by rw [List.mk_mem_zipIdx_iff_getElem?];exact List.getElem?_eq_getElem h1);simp [h2] at this;exact this.symm
 ·have hne:a ≠ b:=fun e=>hl (by rw [e])
  simp [hl,hne]

def ofV : List TDot → Int → Int
 | [],_=>0
 | d :: r,dev=>if d.dev = dev ∧ zp d = true then max d.n (ofV r dev) else ofV r dev
theorem QN (v:List TDot) (dev:Int):0 ≤ ofV v dev ∧ ofV v dev ≤ 281474976710655:=by
 induction v with
 | nil=>simp [ofV]
 | cons d r ih=>
  simp only [ofV]
  split
  ·rename_i h;have:=yT.1 h.2;omega
  ·exact ih
theorem zXa {v:List TDot} {dev:Int}:0 < ofV v dev ↔ ∃ d ∈ v,d.dev = dev ∧ zp d = true:=by
 induction v with
 | nil=>simp [ofV]
 | cons d r ih=>
  simp only [ofV,List.mem_cons,exists_eq_or_imp]
  split
  ·rename_i h
   have:=yT.1 h.2
   constructor
   ·intro _;exact .inl h
   ·intro _;omega
  ·rename_i h
   rw [ih]
   constructor
   ·exact .inr
   ·rintro (hh | hh)
    ·exact absurd hh h
    ·exact hh
def Ord (l:List TDot):Prop:=l.Pairwise fun x y=>x.dev < y.dev
theorem zYa : ∀ {l l':List TDot},Ord l → Ord l' → (∀ d,d ∈ l ↔ d ∈ l') → l = l'
 | [],[],_,_,_=>rfl
 | [],y :: r,_,_,h=>absurd ((h y).2 (by simp)) (by simp)
 | x :: r,[],_,_,h=>absurd ((h x).1 (by simp)) (by simp)
 | x :: r,y :: q,h1,h2,h=>by
  obtain ⟨a1,a2⟩:=List.pairwise_cons.1 h1;obtain ⟨b1,b2⟩:=List.pairwise_cons.1 h2;have e:x = y:=by
   rcases List.mem_cons.1 ((h x).1 (by simp)) with e | hx
   ·exact e
   ·rcases List.mem_cons.1 ((h y).2 (by simp)) with e | hy
    ·exact e.symm
    ·have:=a1 y hy;have:=b1 x hx;omega
  subst e
  congr 1
  refine zYa a2 b2 fun d=>⟨fun hd=>?_,fun hd=>?_⟩
  ·rcases List.mem_cons.1 ((h d).1 (List.mem_cons_of_mem _ hd)) with e | hx
   ·subst e;have:=a1 d hd;omega
   ·exact hx
  ·rcases List.mem_cons.1 ((h d).2 (List.mem_cons_of_mem _ hd)) with e | hx
   ·subst e;have:=b1 d hd;omega
   ·exact hx

def insI : List Int → Int → List Int
 | [],k=>[k]
 | a :: r,k=>if k < a then k :: a :: r else if k = a then a :: r else a :: insI r k
theorem Vh {l:List Int} {k q:Int}:q ∈ insI l k ↔ q = k ∨ q ∈ l:=by
 induction l with
 | nil=>simp [insI]
 | cons a r ih=>
  unfold insI
  split
  ·simp
  ·split
   ·rename_i h;subst h;simp
   ·simp only [List.mem_cons,ih];constructor
    ·rintro (h | h | h) <;> simp [h]
    ·rintro (h | h | h) <;> simp [h]
theorem uE {l:List Int} (h:l.Pairwise (· < ·)) (k:Int):(insI l k).Pairwise (· < ·):=by
 induction l with
 | nil=>simp [insI]
 | cons a r ih=>
  obtain ⟨h1,h2⟩:=List.pairwise_cons.1 h;unfold insI
  split
  ·rename_i hk
   refine List.pairwise_cons.2 ⟨fun x hx=>?_,h⟩;rcases List.mem_cons.1 hx with rfl | hx
   ·exact hk
   ·have:=h1 x hx;omega
  ·split
   ·exact h
   ·refine List.pairwise_cons.2 ⟨fun x hx=>?_,ih h2⟩;rcases Vh.1 hx with rfl | hx
    ·omega
    ·exact h1 x hx
theorem WS (l : List Int) (k : Int) : (insI l k).length ≤ l.length + 1 := by
  induction l with
  | nil => simp [insI]
  | cons a r ih => unfold insI; split <;> try split
                   all_goals simp_all
def ZX (l:List Int) (d:TDot):List Int:=if zp d then insI l d.dev else l
def zZa (v:List TDot):List Int:=v.foldl ZX []
theorem ZY (v:List TDot):∀ l:List Int,l.Pairwise (· < ·) → (v.foldl ZX l).Pairwise (· < ·) ∧ (∀ k,k ∈ v.foldl ZX l ↔ k ∈ l ∨ ∃ d ∈ v,d.dev = k ∧ zp d = true) ∧ (v.foldl ZX l).length ≤ l.length + v.length:=by
 induction v with
 | nil=>intro l h;simp [h]
 | cons d r ih=>
  intro l h;simp only [List.foldl_cons];unfold ZX
  split
  ·rename_i hg
   obtain ⟨h1,h2,h3⟩:=ih _ (uE h d.dev);refine ⟨h1,fun k=>?_,?_⟩
   ·have:=h2 k;unfold ZX at this;rw [this,Vh]
    constructor
    ·rintro ((rfl | h) | ⟨e,he,h⟩)
     ·exact .inr ⟨d,by simp,rfl,hg⟩
     ·exact .inl h
     ·exact .inr ⟨e,by simp [he],h⟩
    ·rintro (h | ⟨e,he,h⟩)
     ·exact .inl (.inr h)
     ·rcases List.mem_cons.1 he with rfl | he
      ·exact .inl (.inl h.1.symm)
      ·exact .inr ⟨e,he,h⟩
   ·have:=WS l d.dev;simp only [List.length_cons];unfold ZX at h3;omega
  ·rename_i hg
   obtain ⟨h1,h2,h3⟩:=ih _ h;refine ⟨h1,fun k=>?_,?_⟩
   ·have:=h2 k;unfold ZX at this;rw [this]
    constructor
    ·rintro (h | ⟨e,he,h⟩)
     ·exact .inl h
     ·exact .inr ⟨e,by simp [he],h⟩
    ·rintro (h | ⟨e,he,h⟩)
     ·exact .inl h
     ·rcases List.mem_cons.1 he with rfl | he
      ·exact absurd h.2 hg
      ·exact .inr ⟨e,he,h⟩
   ·simp only [List.length_cons];unfold ZX at h3;omega
theorem ye (v:List TDot):(zZa v).Pairwise (· < ·):=(ZY v [] List.Pairwise.nil).1
theorem xI {v:List TDot} {k:Int}:k ∈ zZa v ↔ 0 < ofV v k:=by rw [zXa];simpa [zZa] using (ZY v [] List.Pairwise.nil).2.1 k
theorem Vi (v:List TDot):(zZa v).length ≤ v.length:=by simpa [zZa] using (ZY v [] List.Pairwise.nil).2.2
def QO (f:Int → Int) (ks:List Int):List TDot:=ks.filterMap fun k=>if 0 < f k then some ⟨k,f k⟩ else none
theorem QP {f:Int → Int} {ks:List Int} {d:TDot}:d ∈ QO f ks ↔ d.dev ∈ ks ∧ 0 < d.n ∧ d.n = f d.dev:=by
 unfold QO;rw [List.mem_filterMap]
 constructor
 ·rintro ⟨k,hk,h⟩
  split at h
  ·rename_i h0;cases h;exact ⟨hk,h0,rfl⟩
  ·cases h
 ·rintro ⟨h1,h2,h3⟩;refine ⟨d.dev,h1,?_⟩;rw [if_pos (by omega)]
  congr 1
  cases d
  simp at h3 ⊢;exact h3.symm
theorem WT {f:Int → Int} {ks:List Int} (h:ks.Pairwise (· < ·)):Ord (QO f ks):=by
 unfold Ord QO;rw [List.pairwise_filterMap];refine h.imp fun {a b} hab x hx y hy=>?_
 split at hx <;> cases hx
 split at hy <;> cases hy
 exact hab
def QQ (v:List TDot):List TDot:=QO (ofV v) (zZa v)
def xx (m:List (Int × Int)) (d:TDot):List (Int × Int):=if zp d then AL.set m d.dev (max (AL.getZ m d.dev 0) d.n) else m
def yv (v:List TDot):List (Int × Int):=v.foldl xx []
theorem Vj (v:List TDot):∀ m:List (Int × Int),(m.map (·.1)).Nodup → ((v.foldl xx m).map (·.1)).Nodup ∧ ((∀ k,0 ≤ AL.getZ m k 0) → ∀ k,AL.getZ (v.foldl xx m) k 0 = max (AL.getZ m k 0) (ofV v k)) ∧ (v.foldl xx m).length ≤ m.length + v.length ∧ (∀ k,k ∈ (v.foldl xx m).map (·.1) → k ∈ m.map (·.1) ∨ 0 < ofV v k):=by
 induction v with
 | nil=>
  intro m h;refine ⟨h,fun h0 k=>?_,by simp,fun k hk=>.inl hk⟩;have:=h0 k;simp only [List.foldl_nil,ofV];omega
 | cons d r ih=>
  intro m h;simp only [List.foldl_cons]
  by_cases hg:zp d = true
  ·have hd:=yT.1 hg;have e:xx m d = AL.set m d.dev (max (AL.getZ m d.dev 0) d.n):=by simp [xx,hg]
   rw [e];obtain ⟨h1,h2,h3,h4⟩:=ih _ (AL.nodup_set h d.dev (max (AL.getZ m d.dev 0) d.n));refine ⟨h1,fun h0 k=>?_,?_,fun k hk=>?_⟩
   ·rw [h2 (fun q=>by rw [AL.getZ_set];have:=h0 q;have:=h0 d.dev;split <;> omega),AL.getZ_set];simp only [ofV]
    by_cases hk:d.dev = k
    ·subst hk;simp only [if_true,hg,and_self];omega
    ·simp [hk]
   ·have:=AL.len_set m d.dev (max (AL.getZ m d.dev 0) d.n);simp only [List.length_cons];omega
   ·simp only [ofV];rcases h4 k hk with h5 | h5
    ·rw [AL.keys_set] at h5
     split at h5
     ·exact .inl h5
     ·rcases List.mem_append.1 h5 with h5 | h5
      ·exact .inl h5
      ·right
       rw [List.mem_singleton.1 h5,if_pos ⟨rfl,hg⟩];omega
    ·right;split <;> omega
  ·have e:xx m d = m:=by simp [xx,hg]
   rw [e];obtain ⟨h1,h2,h3,h4⟩:=ih m h;have e2:∀ k,ofV (d :: r) k = ofV r k:=fun k=>by simp only [ofV];rw [if_neg (fun hh=>hg hh.2)]
   exact ⟨h1,fun h0 k=>by rw [h2 h0,e2],by simp only [List.length_cons];omega,fun k hk=>by rw [e2];exact h4 k hk⟩
theorem xh (v:List TDot):((yv v).map (·.1)).Nodup:=(Vj v [] (by simp)).1
theorem xJ (v:List TDot) (k:Int):AL.getZ (yv v) k 0 = ofV v k:=by
 have:=(Vj v [] (by simp)).2.1 (fun _=>Int.le_refl _) k;have h2:=QN v k;rw [yv,this];show max 0 (ofV v k) = _;omega
theorem Vk (v:List TDot):(yv v).length ≤ v.length:=by simpa [yv] using (Vj v [] (by simp)).2.2.1
theorem vi {v:List TDot} {k n:Int} (h:(k,n) ∈ yv v):n = ofV v k ∧ 0 < n:=by
 have h1:=AL.mem_get (xh v) h;have h2:AL.getZ (yv v) k 0 = n:=by simp [AL.getZ,h1]
 rw [xJ] at h2;have h3:=(Vj v [] (by simp)).2.2.2 k (List.mem_map.2 ⟨_,h,rfl⟩);simp at h3;omega
theorem zaa (v:List TDot) (h:v.length ≤ 1000000000000):Vb v = pure (yv v):=by
 unfold Vb;have:=ww (body:=ZT v) v (fun i (m:List (Int × Int))=>((i:Int),m)) xx (fun m=>pure m) (fun _ _=>True) (fun i x m hx hi _=>by
  refine ⟨?_,trivial⟩;unfold ZT;have h1:decide ((i:Int) < (v.length:Int)) = true:=by simpa using hi
  simp only [h1,cond_true,zF hx,zA,ZW,zB,zf (show i < 9223372036854775807 by omega)]
  cases hg:zp x <;> simp [xx,hg,zA]) (fun m _=>by unfold ZT;simp [zA]) [] trivial
 rw [show ((0:Int),([]:List (Int × Int))) = (((0:Nat):Int),[]) from rfl,this]
 rfl

theorem QR (m:List (Int × Int)) (f:Int → Int) (ks:List Int) (hl:m.length ≤ 1000000000000) (hn:(m.map (·.1)).Nodup) (hs:ks.Pairwise (· < ·)) (h1:∀ e ∈ m,0 < e.2 → e.1 ∈ ks ∧ e.2 = f e.1) (h2:∀ k ∈ ks,0 < f k → (k,f k) ∈ m):Xz m = pure (QO f ks):=by
 unfold Xz;have hall:∀ Q:List TDot → Prop,(∀ l:List (Int × Int),l.Perm m → Q ((l.filter fun e=>decide (0 < e.2)).map fun e=>(⟨e.1,e.2⟩:TDot))) → (loop (uS m) ([],([]:List TDot))).wp Q:=by
  intro Q hQ;refine M.loopM (body:=uS m) m (fun L (t:List TDot)=>(L,t)) (fun t e=>if 0 < e.2 then need ((t.length + 1) * 16 ≤ 140737488355328) (pure (t ++ [(⟨e.1,e.2⟩:TDot)])) else pure t) (fun t=>pure t)
   (fun l t=>t = ((l.filter fun e=>decide (0 < e.2)).map fun e=>(⟨e.1,e.2⟩:TDot))) Q (fun L t hL=>?_) (fun l t y ht hlen hy=>?_) (fun l t hp ht=>?_) [] rfl
  ·unfold uS;show need _ ((nxt _ _).bind _) = need _ ((nxt _ _).bind _);refine congrArg (fun k=>need _ ((nxt _ _).bind k)) (funext fun o=>?_)
   cases o with
   | none=>rfl
   | some i=>
    refine congrArg (fun k=>(idx m (Int.ofNat i)).bind k) (funext fun y=>?_);rw [yH]
    split <;> rfl
  ·have hle:=List.length_filter_le (fun e:Int × Int=>decide (0 < e.2)) l;have htl:t.length ≤ l.length:=by rw [ht];simpa using hle
   refine ⟨if 0 < y.2 then t ++ [⟨y.1,y.2⟩] else t,?_,?_⟩
   ·split
    ·rw [zC (by omega)]
    ·rfl
   ·subst ht;rw [List.filter_append,List.map_append]
    split
    ·rename_i h0;simp [h0]
    ·rename_i h0;simp [h0]
  ·subst ht;exact hQ l hp
 refine vR (hall _ fun l hp=>?_);show (need _ _).wp _;have hll:=hp.length_eq;have hle:=List.length_filter_le (fun e:Int × Int=>decide (0 < e.2)) l;have hmem:∀ d:TDot,d ∈ ((l.filter fun e=>decide (0 < e.2)).map fun e=>(⟨e.1,e.2⟩:TDot)) ↔ d ∈ QO f ks:=by
  intro d;rw [QP,List.mem_map]
  constructor
  ·rintro ⟨e,he,rfl⟩;rw [List.mem_filter,hp.mem_iff] at he;have h0:0 < e.2:=by simpa using he.2
   obtain ⟨h3,h4⟩:=h1 e he.1 h0;exact ⟨h3,h0,h4⟩
  ·rintro ⟨h3,h4,h5⟩;refine ⟨(d.dev,d.n),?_,rfl⟩;rw [List.mem_filter,hp.mem_iff];exact ⟨by rw [h5];exact h2 d.dev h3 (by omega),by simpa using h4⟩
 have hnd:((l.filter fun e=>decide (0 < e.2)).map fun e=>(⟨e.1,e.2⟩:TDot)).Pairwise (fun x y=>x.dev ≠ y.dev):=by
  rw [List.pairwise_map];have:l.Pairwise (fun x y=>x.1 ≠ y.1):=by
   have:=(hp.map (·.1)).nodup_iff.2 hn;exact List.pairwise_map.1 this
  exact (this.filter _)
 refine ⟨by simp;omega,⟨?_,fun l' ⟨hp',hs'⟩=>?_⟩⟩
 ·refine ⟨QO f ks,?_,?_⟩
  ·refine (List.perm_ext_iff_of_nodup ?_ ?_).2 fun d=>(hmem d).symm
   ·exact (WT hs).imp fun {a b} h e=>by subst e;omega
   ·exact hnd.imp fun {a b} h e=>by subst e;exact h rfl
  ·exact (WT hs).imp fun {a b} h=>by simp [zK];omega
 ·show l' = _;refine zYa ?_ (WT hs) fun d=>by rw [hp'.mem_iff];exact hmem d
  have hnd':=(hp'.pairwise_iff (fun {a b} h=>Ne.symm h)).2 hnd;exact (hs'.and hnd').imp fun {a b} ⟨h3,h4⟩=>by simp [zK] at h3;omega
theorem zba (v:List TDot) (h:v.length ≤ 1000000000000):Vc v = pure (QQ v):=by
 unfold Vc;have:=Vk v;rw [zaa v h,zB,zA,QR (yv v) (ofV v) (zZa v) (by omega) (xh v) (ye v)]
 ·rw [zB];rfl
 ·intro e he h0;obtain ⟨h1,h2⟩:=vi he;exact ⟨xI.2 (by omega),h1⟩
 ·intro k hk h0;have h1:AL.getZ (yv v) k 0 = ofV v k:=xJ v k;unfold AL.getZ at h1
  cases hg:AL.get (yv v) k with
  | none=>rw [hg] at h1;simp at h1;omega
  | some n=>rw [hg] at h1;simp at h1;subst h1;exact AL.get_mem hg

def updM (h:Int × Int → Int) (m:List (Int × Int)) (L:List Nat):List (Int × Int):=m.zipIdx.map fun y=>if y.2 ∈ L then (y.1.1,h y.1) else y.1
theorem xK {h:Int × Int → Int} {m:List (Int × Int)} {L:List Nat} {i:Nat}:(updM h m L)[i]? = (m[i]?).map fun e=>if i ∈ L then (e.1,h e) else e:=by
 unfold updM;rw [List.getElem?_map,List.getElem?_zipIdx]
 cases m[i]? <;> simp
theorem Vl {h:Int × Int → Int} {m:List (Int × Int)} {L:List Nat}:(updM h m L).length = m.length:=by simp [updM]
theorem wKa {m:List (Int × Int)} (hn:(m.map (·.1)).Nodup) {i:Nat} {e:Int × Int} (hi:m[i]? = some e) (v:Int):AL.set m e.1 v = m.set i (e.1,v):=by
 induction m generalizing i with
 | nil=>simp at hi
 | cons x r ih=>
  obtain ⟨a,u⟩:=x;simp only [List.map_cons,List.nodup_cons] at hn
  cases i with
  | zero=>simp at hi;subst hi;simp [AL.set]
  | succ i=>
   simp only [List.getElem?_cons_succ] at hi;have:a ≠ e.1:=fun he=>hn.1 (he ▸ List.mem_map.2 ⟨e,List.mem_of_getElem? hi,rfl⟩)
   simp only [AL.set,this,if_false,List.set_cons_succ];rw [ih hn.2 hi]
theorem WU {h:Int × Int → Int} {m:List (Int × Int)} {L:List Nat}:(updM h m L).map (·.1) = m.map (·.1):=by
 apply List.ext_getElem?;intro i;rw [List.getElem?_map,xK,List.getElem?_map]
 cases m[i]? with
 | none=>rfl
 | some e=>simp only [Option.map_some];split <;> rfl
theorem QS {h:Int × Int → Int} {m:List (Int × Int)} (hn:(m.map (·.1)).Nodup) {L:List Nat} {i:Nat} {e:Int × Int} (hi:m[i]? = some e) (hL:i ∉ L):AL.set (updM h m L) e.1 (h e) = updM h m (L ++ [i]):=by
 have h1:(updM h m L)[i]? = some e:=by rw [xK,hi];simp [hL]
 rw [wKa (by rw [WU];exact hn) h1];apply List.ext_getElem?;intro j;rw [List.getElem?_set,Vl,xK,xK]
 by_cases hj:i = j
 ·subst hj;have:=(List.getElem?_eq_some_iff.1 hi).1;rw [if_pos rfl,if_pos this,hi];simp
 ·rw [if_neg hj];have:j ∈ L ++ [i] ↔ j ∈ L:=by simp;exact fun e=>absurd e.symm hj
  simp only [this]
theorem yIa {h:Int × Int → Int} {m:List (Int × Int)} {L:List Nat} (hL:∀ i,i < m.length → i ∈ L):updM h m L = m.map fun e=>(e.1,h e):=by
 apply List.ext_getElem?;intro i;rw [xK,List.getElem?_map]
 cases hm:m[i]? with
 | none=>rfl
 | some e=>simp [hL i (List.getElem?_eq_some_iff.1 hm).1]
theorem zca {v:List TDot} {k:Int} (h:0 < ofV v k):(k,ofV v k) ∈ yv v:=by
 have h1:AL.getZ (yv v) k 0 = ofV v k:=xJ v k;unfold AL.getZ at h1
 cases hg:AL.get (yv v) k with
 | none=>rw [hg] at h1;simp at h1;omega
 | some n=>rw [hg] at h1;simp at h1;subst h1;exact AL.get_mem hg

def cmpD (a b:TDot):Int:=if a = b then 0 else if zK a b then -1 else 1
theorem Yo (a b:TDot):XN a b = pure (cmpD a b):=by
 unfold XN cmpD;have h1:(decide (a.dev = b.dev) && decide (a.n = b.n)) = decide (a = b):=by
  rw [Bool.eq_iff_iff];cases a;cases b;simp
 have h2:(cond (decide (a.dev < b.dev)) (pure true) (cond (decide (a.dev = b.dev)) (pure (decide (a.n < b.n))) (pure false)):M Bool) = pure (zK a b):=by
  rw [zV,qh];rfl
 rw [h1,h2,yH,zA]
 split
 ·rfl
 ·cases zK a b <;> rfl
theorem ZZ {a b:TDot}:cmpD a b < 0 ↔ zK a b = true:=by
 unfold cmpD
 split
 ·rename_i h;subst h;simp [zK]
 ·split <;> simp_all
theorem cmpD_pos {a b:TDot}:0 < cmpD a b ↔ zK b a = true:=by
 unfold cmpD
 by_cases h:a = b
 ·subst h;simp [zK]
 ·rw [if_neg h]
  cases a;cases b
  simp only [TDot.mk.injEq] at h;simp only [zK,Bool.or_eq_true,Bool.and_eq_true,decide_eq_true_eq]
  split <;> omega
theorem Wr (l:List TDot) (d:TDot) (h:l.length ≤ 1000000000000):ZJ l d = pure ((l.filter fun x=>zK x d) ++ [d] ++ (l.filter fun x=>zK d x)):=by
 unfold ZJ;have c0:∀ o:List TDot,o.length ≤ 1000000000000 → True:=fun _ _=>trivial
 have h1:=ww (body:=YT l d) l (fun i (o:List TDot)=>((i:Int),o)) (fun o x=>if zK x d then o ++ [x] else o) (fun o=>pure o) (fun i o=>o.length ≤ i) (fun i x o hx hi ho=>by
  have h1:decide ((i:Int) < (l.length:Int)) = true:=by simpa using hi
  unfold YT;simp only [h1,cond_true,zF hx,zA,Yo,zB,zf (show i < 9223372036854775807 by omega),yH,ZZ]
  split
  ·rw [zC (by simp;omega)];exact ⟨rfl,by simp;omega⟩
  ·exact ⟨rfl,by omega⟩) (fun o _=>by unfold YT;simp [zA]) [] (by simp)
 have h2:∀ o0:List TDot,o0.length ≤ 1000000000001 → loop (uj l d) (0,o0) = pure (l.foldl (fun o x=>if zK d x then o ++ [x] else o) o0):=fun o0 ho0=>by
  have:=ww (body:=uj l d) l (fun i (o:List TDot)=>((i:Int),o)) (fun o x=>if zK d x then o ++ [x] else o) (fun o=>pure o) (fun i o=>o.length ≤ o0.length + i) (fun i x o hx hi ho=>by
   have h1:decide ((i:Int) < (l.length:Int)) = true:=by simpa using hi
   unfold uj;simp only [h1,cond_true,zF hx,zA,Yo,zB,zf (show i < 9223372036854775807 by omega),yH,cmpD_pos]
   split
   ·rw [zC (by simp;omega)];exact ⟨rfl,by simp;omega⟩
   ·exact ⟨rfl,by omega⟩) (fun o _=>by unfold uj;simp [zA]) o0 (by simp)
  exact this
 have hf:∀ (p:TDot → Bool) (l o:List TDot),l.foldl (fun o x=>if p x then o ++ [x] else o) o = o ++ l.filter p:=by
  intro p l
  induction l with
  | nil=>simp
  | cons x r ih=>
   intro o;rw [List.foldl_cons,ih,List.filter_cons]
   split <;> simp
 rw [show ((0:Int),([]:List TDot)) = (((0:Nat):Int),[]) from rfl,h1,hf,zA,zC,h2,hf,zA]
 ·rfl
 ·have:=List.length_filter_le (fun x=>zK x d) l;simp;omega
 ·have:=List.length_filter_le (fun x=>zK x d) l;simp;omega
def ones (l:List Int):List TDot:=l.map fun k=>⟨k,1⟩
theorem yJa {l:List Int} (h:l.Pairwise (· < ·)) (k:Int):((ones l).filter fun x=>zK x ⟨k,1⟩) ++ [⟨k,1⟩] ++ ((ones l).filter fun x=>zK ⟨k,1⟩ x) = ones (insI l k):=by
 induction l with
 | nil=>rfl
 | cons a r ih=>
  obtain ⟨h1,h2⟩:=List.pairwise_cons.1 h;have i2:=ih h2;unfold insI
  by_cases c1:k < a
  ·rw [if_pos c1];have e1:(ones (a :: r)).filter (fun x=>zK x ⟨k,1⟩) = []:=by
    rw [List.filter_eq_nil_iff];intro x hx;simp only [ones,List.map_cons,List.mem_cons,List.mem_map] at hx;rcases hx with rfl | ⟨b,hb,rfl⟩
    ·simp [zK];omega
    ·have:=h1 b hb;simp [zK];omega
   have e2:(ones (a :: r)).filter (fun x=>zK ⟨k,1⟩ x) = ones (a :: r):=by
    rw [List.filter_eq_self];intro x hx;simp only [ones,List.map_cons,List.mem_cons,List.mem_map] at hx;rcases hx with rfl | ⟨b,hb,rfl⟩
    ·simp [zK];omega
    ·have:=h1 b hb;simp [zK];omega
   rw [e1,e2];rfl
  ·rw [if_neg c1]
   by_cases c2:k = a
   ·subst c2;rw [if_pos rfl];have e1:(ones (k :: r)).filter (fun x=>zK x ⟨k,1⟩) = []:=by
     rw [List.filter_eq_nil_iff];intro x hx;simp only [ones,List.map_cons,List.mem_cons,List.mem_map] at hx;rcases hx with rfl | ⟨b,hb,rfl⟩
     ·simp [zK]
     ·have:=h1 b hb;simp [zK];omega
    have e2:(ones (k :: r)).filter (fun x=>zK ⟨k,1⟩ x) = ones r:=by
     show List.filter _ (⟨k,1⟩ :: ones r) = _;rw [List.filter_cons,if_neg (by simp [zK]),List.filter_eq_self];intro x hx;simp only [ones,List.mem_map] at hx;obtain ⟨b,hb,rfl⟩:=hx;have:=h1 b hb;simp [zK];omega
    rw [e1,e2];rfl
   ·rw [if_neg c2];show (List.filter _ (⟨a,1⟩ :: ones r)) ++ _ ++ (List.filter _ (⟨a,1⟩ :: ones r)) = ⟨a,1⟩ :: ones (insI r k);rw [List.filter_cons,if_pos (by simp [zK];omega),List.filter_cons,if_neg (by simp [zK];omega),← i2]
    rfl
theorem equal_eq (a b:List TDot) (h:a.length ≤ 1000000000000):yp a b = pure (decide (a = b)):=by
 have e:yp a b = Xv a b:=rfl;rw [e,Ub a b h]
theorem zda (a b:List TDot) (h:a.length ≤ 1000000000000):JQ a b = pure (decide (a = b)):=by
 unfold JQ;rw [equal_eq a b h,zB,zA]
theorem wLa {l:List TDot} (ho:Ord l) {d:TDot} (hd:d ∈ l) (hg:zp d = true):ofV l d.dev = d.n:=by
 induction l with
 | nil=>simp at hd
 | cons x r ih=>
  obtain ⟨h1,h2⟩:=List.pairwise_cons.1 ho;simp only [ofV];rcases List.mem_cons.1 hd with e | hd
  ·subst e;rw [if_pos ⟨rfl,hg⟩];have h3:¬ 0 < ofV r d.dev:=by
    rw [zXa];rintro ⟨y,hy,h4,_⟩;have:=h1 y hy;omega
   have:=QN r d.dev;have:=yT.1 hg;omega
  ·rw [if_neg,ih h2 hd];rintro ⟨h3,_⟩;have:=h1 d hd;omega
end Go.Ep.M.V


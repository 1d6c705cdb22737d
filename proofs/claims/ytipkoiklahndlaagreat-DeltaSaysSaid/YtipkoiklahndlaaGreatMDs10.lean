/- Texts that the walks and laws lean on, side by side. -/
import Derived.Test.YtipkoiklahndlaaGreatMDs2
import Derived.Test.YtipkoiklahndlaaGreatMDs3
import Derived.Test.YtipkoiklahndlaaGreatMDs4
import Derived.Test.YtipkoiklahndlaaGreatMDs5
import Derived.Test.YtipkoiklahndlaaGreatMDs6
import Derived.Test.YtipkoiklahndlaaGreatMDs7
import Derived.Test.YtipkoiklahndlaaGreatMDs8
import Derived.Test.YtipkoiklahndlaaGreatMDs9
set_option linter.unusedVariables false
set_option linter.unusedSimpArgs false
namespace Go.Proofs
open Go.Ep Tryz
set_option maxHeartbeats 1000000
set_option maxRecDepth 100000
set_option linter.unusedVariables false
set_option linter.unusedSimpArgs false


theorem Zo (d1:TDelta) (r0:Bool) (h:(vr d1).wp (· = r0)):PFun prog 45 [.agg (List.map .d (TDelta.e d1))] (.d (.v (.bool r0))):=by
 refine fI (sl:=[(0,_)]) func45 rfl ntmps45 rfl rfl ?_;intro ctx hK;refine wQ<|wR<|ws (LR.box rfl rfl rfl rfl)<|wa ?_;refine wN<|wQ<|wQ ?_;refine wJ (zG h) (fun (v2:Bool) (_:Unit)=>⟨84,[(1,.ref 1 0),(28,.d (.v (.bool v2)))],[(1,.cells 26 [.d (.sl (List.map TPart.e d1.from_)),.d (.sl (List.map TPart.e d1.to_)),.d (.sl (List.map TEvent.e d1.events))])]⟩) (fun h=>?_) ?_
 ·refine wR<|ws (fR underlying26 rfl sizeOf23 (by decide) rfl rfl)<|ws (lD isAgg23 rfl rfl rfl) ?_;obtain ⟨v3,hy4,h⟩:=iDet h;refine ws (cN (Zl d1.from_ v3 hy4) rfl call59 rfl rfl rfl rfl)<|ws (LR.not rfl)<|wm ?_;refine wL (d:=9) rfl (fun hg5=>?_) (fun hg5=>?_)
  ·replace h:=iT hg5 h;refine wf<|wf<|wf<|wf<|ws (pT rfl rfl)<|wm ?_;refine wf<|wf<|wf<|wf<|wf<|wf<|wy (tl:=[(1,_),(15,_),(21,_)]) (to:=[(1,_)]) ?_;refine ws (pT rfl rfl)<|wm ?_;refine wf<|wf<|wf<|wf<|ws (pT rfl rfl)<|wN ?_;exact ⟨true,(),h,sP⟩
  ·replace h:=iF hg5 h;refine wt (fR underlying26 rfl sizeOf23 (by decide) rfl rfl)<|wt (lD isAgg23 rfl rfl rfl) ?_;obtain ⟨v6,hy7,h⟩:=iDet h;refine wt (cN (Zl d1.to_ v6 hy7) rfl call59 rfl rfl rfl rfl)<|wt (LR.not rfl)<|ws (pF rfl rfl)<|wm ?_;refine wL (d:=15) rfl (fun hg8=>?_) (fun hg8=>?_)
   ·replace h:=iT hg8 h;refine wf<|wf<|wf<|wf<|wf<|wy (tl:=[(1,_),(15,_),(20,_)]) (to:=[(1,_)]) ?_;refine wf<|ws (pT rfl rfl)<|wm ?_;refine wf<|wf<|wf<|wf<|ws (pT rfl rfl)<|wN ?_;exact ⟨true,(),h,sP⟩
   ·replace h:=iF hg8 h;refine wt (fR underlying26 rfl sizeOf23 (by decide) rfl rfl)<|wt (lD isAgg23 rfl rfl rfl)<|wt (fR underlying26 rfl sizeOf23 (by decide) rfl rfl)<|wt (lD isAgg23 rfl rfl rfl) ?_;obtain ⟨v9,hy10,h⟩:=iDet h;refine wt (cN (Wq d1.from_ d1.to_ v9 hy10) rfl call104 rfl rfl rfl rfl)<|wy (tl:=[(1,_),(15,_),(20,_)]) (to:=[(1,_)]) ?_;refine wt (LR.not rfl)<|ws (pF rfl rfl)<|wm ?_;refine wL (d:=23) rfl (fun hg11=>?_) (fun hg11=>?_)
    ·replace h:=iT hg11 h;refine wf<|wf<|wf<|wf<|ws (pT rfl rfl)<|wN ?_;exact ⟨true,(),h,sP⟩
    ·replace h:=iF hg11 h;refine wt (fR underlying26 rfl sizeOf24 (by decide) rfl rfl)<|wt (lD isAgg24 rfl rfl rfl)<|wt (lM (enc:=TEvent.e) (L:=d1.events) underlying24 rfl)<|wt (LR.gtr rfl rfl)<|ws (pF rfl rfl)<|wN ?_;exact ⟨(decide (4096 < (List.length d1.events:Int))),(),h,sP⟩
 ·rintro v2 _ h;refine wC rfl (fun hc12=>?_) (fun hc12=>?_)
  ·replace h:=iT hc12 h;refine wQ<|wR<|wa ?_;refine wN<|wX ?_;cases h;exact ⟨.inr rfl,_,.cons (.tmp rfl rfl)<|.nil,rfl⟩
  ·replace h:=iF hc12 h;refine wK<|wQ<|wQ<|wR<|ws (fR underlying26 rfl sizeOf24 (by decide) rfl rfl)<|ws (lD isAgg24 rfl rfl rfl)<|ws (lM (enc:=TEvent.e) (L:=d1.events) underlying24 rfl)<|wm ?_;refine wN ?_;refine PWc.jnX (zG h) (fun (_:Unit) (_:Unit)=>⟨84,[(1,.ref 1 0)],[(1,.cells 26 [.d (.sl (List.map TPart.e d1.from_)),.d (.sl (List.map TPart.e d1.to_)),.d (.sl (List.map TEvent.e d1.events))])]⟩) (fun h=>?_) ?_
   ·refine wB<|wM (fun (v58:Int) (_:Unit)=>⟨84,[(1,.ref 1 0),(30,.d (.sl (List.map TEvent.e d1.events))),(31,.d (.v (.int .i64 (List.length d1.events:Int)))),(32,.d (.v (.int .i64 v58)))],[(1,.cells 26 [.d (.sl (List.map TPart.e d1.from_)),.d (.sl (List.map TPart.e d1.to_)),.d (.sl (List.map TEvent.e d1.events))])]⟩) () h (sP) ?_;rintro N v58 _ h;refine wQ<|wR<|ws (LR.lss rfl rfl)<|wN<|wQ ?_;refine wC rfl (fun hc59=>?_) (fun hc59=>?_)
    ·replace h:=iT hc59 h;refine wK<|wQ<|wB<|wQ<|wR<|wm ?_;obtain ⟨x60,hy61,h⟩:=iIdx h;refine ws (iX (enc:=TEvent.e) (L:=d1.events) (y:=x60) underlying24 sizeOf69 rfl rfl hy61 (fun _=>rfl))<|ws (lE (ys:=[_,_,_,_,_,_,_]) isAgg69 sizeOf69 rfl rfl rfl)<|ws (LR.allocZ (cs:=[_,_,_,_,_,_,_]) zeroValue69 rfl rfl rfl rfl)<|wa ?_;refine ws (sB (ns:=[_,_,_,_,_,_,_]) sizeOf69 rfl rfl rfl rfl rfl rfl rfl)<|wN<|wB<|wQ ?_;refine wJ (zG h) (fun (v62:Bool) (_:Unit)=>⟨84,[(1,.ref 1 0),(3,.d (.v (.int .i64 v58))),(4,.ref 4 0),(30,.d (.sl (List.map TEvent.e d1.events))),(31,.d (.v (.int .i64 (List.length d1.events:Int)))),(32,.d (.v (.int .i64 v58))),(37,.d (.v (.bool v62)))],[(1,.cells 26 [.d (.sl (List.map TPart.e d1.from_)),.d (.sl (List.map TPart.e d1.to_)),.d (.sl (List.map TEvent.e d1.events))]),(4,.cells 69 [.d (.v (.int .u16 x60.dot.dev)),.d (.v (.int .u64 x60.dot.n)),.d (.v (.int .u8 x60.kind)),.d (.v (.int .u64 x60.cid)),.d (.v (.int .u8 x60.field)),.d (.v (.string x60.text)),.d (.sl (List.map TDot.e x60.kills))])]⟩) (fun h=>?_) ?_
     ·refine wR<|ws (lA (ps:=[_,_,_,_,_,_,_]) isAgg69 sizeOf69 rfl rfl rfl rfl) ?_;obtain ⟨v63,hy64,h⟩:=iDet h;refine ws (cN (vj x60 v63 hy64) rfl call55 rfl rfl rfl rfl)<|ws (LR.not rfl)<|wm ?_;refine wL (d:=41) rfl (fun hg65=>?_) (fun hg65=>?_)
      ·replace h:=iT hg65 h;refine wf<|wf<|wf<|wf<|wf<|ws (pT rfl rfl)<|wy (tl:=[(1,_),(3,_),(4,_),(30,_),(31,_),(32,_),(42,_),(43,_),(44,_),(45,_),(46,_),(47,_)]) (to:=[(1,_),(4,_)]) ?_;refine wa ?_;refine wN ?_;exact ⟨true,(),h,sP⟩
      ·replace h:=iF hg65 h;refine wt (fR underlying26 rfl sizeOf23 (by decide) rfl rfl)<|wt (lD isAgg23 rfl rfl rfl)<|wt (fR underlying69 rfl sizeOf66 (by decide) rfl rfl)<|wt (lA (ps:=[_,_]) isAgg66 sizeOf66 rfl rfl rfl rfl) ?_;obtain ⟨v66,hy67,h⟩:=iDet h;refine wt (cN (XN d1.from_ x60.dot v66 hy67) rfl call82 rfl rfl rfl rfl)<|ws (pF rfl rfl)<|wy (tl:=[(1,_),(3,_),(4,_),(30,_),(31,_),(32,_),(42,_),(43,_),(44,_),(45,_),(46,_),(47,_)]) (to:=[(1,_),(4,_)]) ?_;refine wa ?_;refine wN ?_;exact ⟨v66,(),h,sP⟩
     ·rintro v62 _ h;refine wC rfl (fun hc68=>?_) (fun hc68=>?_)
      ·replace h:=iT hc68 h;refine wQ<|wR<|wa ?_;refine wN<|wX ?_;cases h;exact ⟨.inr rfl,_,.cons (.tmp rfl rfl)<|.nil,rfl⟩
      ·replace h:=iF hc68 h;refine wQ ?_;refine wJ (zG h) (fun (v69:Bool) (_:Unit)=>⟨84,[(1,.ref 1 0),(4,.ref 4 0),(30,.d (.sl (List.map TEvent.e d1.events))),(31,.d (.v (.int .i64 (List.length d1.events:Int)))),(32,.d (.v (.int .i64 v58))),(48,.d (.v (.bool v69)))],[(1,.cells 26 [.d (.sl (List.map TPart.e d1.from_)),.d (.sl (List.map TPart.e d1.to_)),.d (.sl (List.map TEvent.e d1.events))]),(4,.cells 69 [.d (.v (.int .u16 x60.dot.dev)),.d (.v (.int .u64 x60.dot.n)),.d (.v (.int .u8 x60.kind)),.d (.v (.int .u64 x60.cid)),.d (.v (.int .u8 x60.field)),.d (.v (.string x60.text)),.d (.sl (List.map TDot.e x60.kills))])]⟩) (fun h=>?_) ?_
       ·refine wD (by kernel_rfl) (by kernel_rfl)<|qm ?_;refine qs (fun _ U W=>LR.gtr (U rfl rfl) (U rfl rfl))<|qm ?_;refine PQl.split (d:=51) rfl (fun hg70=>?_) (fun hg70=>?_)
        ·replace h:=iT hg70 h;refine qt (fun _ U W=>fR underlying26 rfl sizeOf24 (by decide) rfl (U rfl rfl)) ?_;refine qt (fun _ U W=>lD isAgg24 (U rfl rfl) (W rfl) rfl) ?_;refine qt (fun _ U W=>mV (U rfl rfl)) ?_;refine qt (fun _ U W=>LR.subW (U rfl rfl) (U rfl rfl)) ?_;obtain ⟨x71,hy72,h⟩:=iIdx h;refine qt (fun _ U W=>iX (enc:=TEvent.e) (L:=d1.events) (y:=x71) underlying24 sizeOf69 (U rfl rfl) (U rfl rfl) hy72 (fun _=>rfl)) ?_;refine qt (fun _ U W=>fE underlying69 rfl sizeOf66 (by decide) rfl (U rfl rfl)) ?_;refine qt (fun _ U W=>lE (ys:=[_,_]) isAgg66 sizeOf66 (U rfl rfl) rfl rfl) ?_;refine qt (fun _ U W=>fR underlying69 rfl sizeOf66 (by decide) rfl (U rfl rfl)) ?_;refine qt (fun _ U W=>lA (ps:=[_,_]) isAgg66 sizeOf66 (U rfl rfl) (W rfl) rfl rfl) ?_;obtain ⟨v73,hy74,h⟩:=iDet h;refine qt (fun _ U W=>cN (XL x71.dot x60.dot v73 hy74) (U rfl rfl) call56 (evsE U rfl rfl) rfl rfl rfl) ?_;refine qt (fun _ U W=>LR.geq (U rfl rfl) (U rfl rfl)) ?_;refine qs (fun _ U W=>pT (U rfl rfl) (U rfl rfl)) ?_;refine qs (fun _ U W=>aS (U rfl rfl))<|qN ?_;exact ⟨(decide (0 <= v73)),(),h,sP⟩
        ·replace h:=iF hg70 h;refine kF<|kF<|kF<|kF<|kF<|kF<|kF<|kF<|kF ?_;refine kF<|kF ?_;refine qs (fun _ U W=>pF (U rfl rfl) (U rfl rfl)) ?_;refine qs (fun _ U W=>aS (U rfl rfl))<|qN ?_;exact ⟨false,(),h,sP⟩
       ·rintro v69 _ h;refine wC rfl (fun hc75=>?_) (fun hc75=>?_)
        ·replace h:=iT hc75 h;refine wQ<|wR<|wa ?_;refine wN<|wX ?_;cases h;exact ⟨.inr rfl,_,.cons (.tmp rfl rfl)<|.nil,rfl⟩
        ·replace h:=iF hc75 h;refine wQ ?_;refine wJ (zG h) (fun (v76:Bool) (_:Unit)=>⟨84,[(1,.ref 1 0),(30,.d (.sl (List.map TEvent.e d1.events))),(31,.d (.v (.int .i64 (List.length d1.events:Int)))),(32,.d (.v (.int .i64 v58))),(64,.d (.v (.bool v76)))],[(1,.cells 26 [.d (.sl (List.map TPart.e d1.from_)),.d (.sl (List.map TPart.e d1.to_)),.d (.sl (List.map TEvent.e d1.events))])]⟩) (fun h=>?_) ?_
         ·refine wR<|ws (fR underlying69 rfl sizeOf5 (by decide) rfl rfl)<|ws (lD isAgg5 rfl rfl rfl)<|ws (eQ rfl rfl)<|wm ?_;refine wL (d:=68) rfl (fun hg77=>?_) (fun hg77=>?_)
          ·replace h:=iT hg77 h;refine wt (fR underlying26 rfl sizeOf24 (by decide) rfl rfl)<|wt (lD isAgg24 rfl rfl rfl)<|wt (fR underlying69 rfl sizeOf66 (by decide) rfl rfl)<|wt (lA (ps:=[_,_]) isAgg66 sizeOf66 rfl rfl rfl rfl) ?_;obtain ⟨v78,hy79,h⟩:=iDet h;refine wt (cN (wI d1.events x60.dot v78 hy79) rfl call57 rfl rfl rfl rfl)<|ws (pT rfl rfl)<|wa ?_;refine wN ?_;exact ⟨v78,(),h,sP⟩
          ·replace h:=iF hg77 h;refine wf<|wf<|wf<|wf<|wf<|ws (pF rfl rfl)<|wa ?_;refine wN ?_;exact ⟨false,(),h,sP⟩
         ·rintro v76 _ h;refine wC rfl (fun hc80=>?_) (fun hc80=>?_)
          ·replace h:=iT hc80 h;refine wQ<|wR<|wa ?_;refine wN<|wX ?_;cases h;exact ⟨.inr rfl,_,.cons (.tmp rfl rfl)<|.nil,rfl⟩
          ·replace h:=iF hc80 h;refine wK<|wR<|ws (LR.addW rfl rfl)<|wm ?_;refine wN ?_;exact ⟨(IntKind.i64.wrap (v58 + 1)),(),h,sP⟩
    ·replace h:=iF hc59 h;refine wZ ?_;exact ⟨(),(),h,sP⟩
   ·rintro _ _ h;refine wQ<|wD (by kernel_rfl) (by kernel_rfl) ?_;refine qs (fun _ U W=>fR underlying26 rfl sizeOf24 (by decide) rfl (U rfl rfl)) ?_;refine qs (fun _ U W=>lD isAgg24 (U rfl rfl) (W rfl) rfl) ?_;obtain ⟨v81,hy82,h⟩:=iDet h;refine qs (fun _ U W=>cN (PRow.fun (vk d1.events v81 hy82)) (U rfl rfl) call61 (evsE U rfl rfl) rfl rfl rfl) ?_;refine qs (fun _ U W=>fR underlying26 rfl sizeOf23 (by decide) rfl (U rfl rfl)) ?_;refine qs (fun _ U W=>lD isAgg23 (U rfl rfl) (W rfl) rfl) ?_;obtain ⟨v83,hy84,h⟩:=iDet h;refine qs (fun _ U W=>cN (PRow.fun (Zm v81 d1.to_ v83 hy84)) (U rfl rfl) call60 (evsE U rfl rfl) rfl rfl rfl) ?_;refine qs (fun _ U W=>lM (enc:=TDot.e) (L:=v83) underlying67 (U rfl rfl)) ?_;refine qs (fun _ U W=>eQ (U rfl rfl) (U rfl rfl)) ?_;refine qs (fun _ U W=>aS (U rfl rfl))<|qN<|wX ?_;cases h;exact ⟨.inr rfl,_,.cons (.tmp rfl rfl)<|.nil,rfl⟩

theorem vV (e1:TEvent) (cv2:List TPart) (r0:Bool) (h:(yn e1 cv2).wp (· = r0)):PFun prog 102 [.agg (List.map .d (TEvent.e e1)),.ep ((eL TPart.e) cv2) 0] (.d (.v (.bool r0))):=by
 refine fI (sl:=[(0,_),(1,_)]) func102 rfl ntmps102 rfl rfl ?_;intro ctx hK;refine wQ<|wR<|ws (LR.box rfl rfl rfl rfl)<|wa ?_;refine wN<|wQ<|wR<|ws (LR.loadEp isAgg23 rfl rfl)<|ws (fR underlying69 rfl sizeOf66 (by decide) rfl rfl)<|ws (lA (ps:=[_,_]) isAgg66 sizeOf66 rfl rfl rfl rfl) ?_;obtain ⟨v3,hy4,h⟩:=iDet h;refine ws (cN (XN cv2 e1.dot v3 hy4) rfl call82 rfl rfl rfl rfl)<|wa ?_;refine wN<|wX ?_;cases h;exact ⟨.inr rfl,_,.cons (.tmp rfl rfl)<|.nil,rfl⟩

theorem yZ (s1:List TEvent) (cv2:List TPart) (r0:Int) (h:(zR s1 cv2).wp (· = r0)):PFun prog 141 [.d (.sl (List.map TEvent.e s1)),.clo 102 [(eL TPart.e) cv2]] (.d (.v (.int .i64 r0))):=by
 refine fI (sl:=[(0,_),(1,_)]) func141 rfl ntmps141 rfl rfl ?_;intro ctx hK;refine wQ<|wR<|wa ?_;refine wN<|wQ<|wQ<|wR<|wm ?_;refine ws (lM (enc:=TEvent.e) (L:=s1) underlying24 rfl)<|wm ?_;refine wN ?_;refine PWc.jnX (zG h) (fun (_:Unit) (_:Unit)=>⟨19,[],[]⟩) (fun h=>?_) ?_
 ·refine wB<|wM (fun (v16:Int) (_:Unit)=>⟨19,[(0,.d (.sl (List.map TEvent.e s1))),(1,.clo 102 [(eL TPart.e) cv2]),(7,.d (.v (.int .i64 (List.length s1:Int)))),(8,.d (.v (.int .i64 v16)))],[]⟩) () h (sP) ?_;rintro N v16 _ h;refine wQ<|wR<|ws (LR.lss rfl rfl)<|wN<|wQ ?_;refine wC rfl (fun hc17=>?_) (fun hc17=>?_)
  ·replace h:=iT hc17 h;refine wK<|wQ<|wB<|wQ<|wR<|wm ?_;refine wa ?_;refine wN<|wQ<|wR<|wm ?_;refine wm ?_;refine wm ?_;obtain ⟨x18,hy19,h⟩:=iIdx h;refine ws (iX (enc:=TEvent.e) (L:=s1) (y:=x18) underlying24 sizeOf69 rfl rfl hy19 (fun _=>rfl))<|ws (lE (ys:=[_,_,_,_,_,_,_]) isAgg69 sizeOf69 rfl rfl rfl) ?_;obtain ⟨v20,hy21,h⟩:=iDet h;refine ws (LR.callC (vV x18 cv2 v20 hy21) rfl call102 rfl rfl rfl rfl rfl)<|wN ?_;refine wC rfl (fun hc22=>?_) (fun hc22=>?_)
   ·replace h:=iT hc22 h;refine wQ<|wR<|wm ?_;refine wa ?_;refine wN<|wX ?_;cases h;exact ⟨.inr rfl,_,.cons (.tmp rfl rfl)<|.nil,rfl⟩
   ·replace h:=iF hc22 h;refine wK<|wR<|ws (LR.addW rfl rfl)<|wm ?_;refine wN ?_;exact ⟨(IntKind.i64.wrap (v16 + 1)),(),h,sP⟩
  ·replace h:=iF hc17 h;refine wZ ?_;exact ⟨(),(),h,sP⟩
 ·rintro _ _ h;refine wQ<|wR<|wa ?_;refine wN<|wX ?_;cases h;exact ⟨.inr rfl,_,.cons (.tmp rfl rfl)<|.nil,rfl⟩

theorem yS (cv1:List TPart) (row2:List TEvent) (r0:List TEvent) (h:(zO cv1 row2).wp (· = r0)):PObj prog 80 [.row 100 (List.length row2),.clo 102 [(eL TPart.e) cv1]] [(100,.row 69 7 (List.map TEvent.e row2))] [] (.row 100 (List.length r0)) (fun _:Unit=>[(100,.row 69 7 (List.map TEvent.e r0))]):=by
 refine PObj.intro (sl:=[(0,_),(1,_)]) func80 rfl ntmps80 rfl rfl rfl ?_;intro ctx hK pv;refine wQ<|wR<|ws (aR 69 7 rfl)<|wN<|wQ<|wR<|wm ?_;refine wm ?_;obtain ⟨v3,hy4,h⟩:=iDet h;refine ws (LR.callLend (yZ row2 cv1 v3 hy4) rfl call141 rfl (.row rfl (by simp)<|.data rfl rfl<|.nil)) ?_;refine wa ?_;refine wN<|wQ<|wQ<|wR<|wm ?_;refine ws (eQ rfl rfl)<|wN ?_;refine wC rfl (fun hc5=>?_) (fun hc5=>?_)
 ·replace h:=iT hc5 h;refine wQ<|wR<|wm ?_;refine wy (tl:=[(0,_),(1,_),(5,_),(8,_),(9,_),(10,_),(11,_),(12,_),(13,_)]) (to:=[(100,_)]) ?_;refine wa ?_;refine wN<|wX ?_;cases h;exact EndsO.mk () (.inr rfl) (sO (tl:=[(4,_)]) (to:=[(100,_)]) rfl (.cons rfl (by first | rfl | (simp;done) | (congr 1;first | (simp;done) | (simp;omega) | omega))<|.nil) (.cons rfl rfl<|.nil)) (.cons (.tmp rfl)<|.nil) rfl rfl
 ·replace h:=iF hc5 h;refine wK<|wQ<|wQ<|wR<|wm ?_;refine ws (LR.addW rfl rfl)<|wa ?_;refine wN ?_;refine wJ (zG h) (fun (⟨i6,v7⟩:Int × List TEvent) (_:Unit)=>⟨42,[(0,.row 100 (List.length v7)),(5,.d (.v (.int .i64 i6)))],[(100,.row 69 7 (List.map TEvent.e v7))]⟩) (fun h=>?_) ?_
  ·refine wB<|wM (fun (⟨i31,j32,v33⟩:Int × Int × List TEvent) (_:Unit)=>⟨42,[(0,.row 100 (List.length v33)),(1,.clo 102 [(eL TPart.e) cv1]),(5,.d (.v (.int .i64 i31))),(6,.d (.v (.int .i64 j32)))],[(100,.row 69 7 (List.map TEvent.e v33))]⟩) () h (sP) ?_;rintro N ⟨i31,j32,v33⟩ _ h;refine wQ<|wQ<|wR<|wm ?_;refine wm ?_;refine ws (LR.lenRow underlying24 rfl)<|ws (LR.lss rfl rfl)<|wN ?_;refine wC rfl (fun hc34=>?_) (fun hc34=>?_)
   ·replace h:=iT hc34 h;refine wK<|wQ ?_;refine wJ (zG h) (fun (⟨i35,v36⟩:Int × List TEvent) (_:Unit)=>⟨42,[(0,.row 100 (List.length v36)),(1,.clo 102 [(eL TPart.e) cv1]),(5,.d (.v (.int .i64 i35))),(6,.d (.v (.int .i64 j32)))],[(100,.row 69 7 (List.map TEvent.e v36))]⟩) (fun h=>?_) ?_
    ·refine wB<|wQ<|wR<|wm ?_;refine wm ?_;obtain ⟨x37,hy38,h⟩:=iIdx h;refine ws (LR.idxRowT (L:=v33) (y:=x37) underlying24 sizeOf69 rfl rfl rfl hy38)<|ws (LR.loadRpT (enc:=TEvent.e) (L:=v33) (y:=x37) isAgg69 sizeOf69 rfl rfl hy38.2)<|ws (LR.allocZ (cs:=[_,_,_,_,_,_,_]) zeroValue69 rfl rfl rfl rfl)<|ws (sB (ns:=[_,_,_,_,_,_,_]) sizeOf69 rfl rfl rfl rfl rfl rfl rfl)<|wN<|wQ<|wR<|wm ?_;refine ws (lA (ps:=[_,_,_,_,_,_,_]) isAgg69 sizeOf69 rfl rfl rfl rfl) ?_;obtain ⟨v39,hy40,h⟩:=iDet h;refine ws (LR.callC (vV x37 cv1 v39 hy40) rfl call102 rfl rfl rfl rfl rfl)<|ws (LR.not rfl)<|wN ?_;refine wC rfl (fun hc41=>?_) (fun hc41=>?_)
     ·replace h:=iT hc41 h;refine wQ<|wR<|wm ?_;refine wm ?_;refine ws (lA (ps:=[_,_,_,_,_,_,_]) isAgg69 sizeOf69 rfl rfl rfl rfl) ?_;obtain ⟨x42,hy43,h⟩:=iIdx h;refine ws (LR.idxRowT (L:=v33) (y:=x42) underlying24 sizeOf69 rfl rfl rfl hy43)<|wy (tl:=[(0,_),(1,_),(5,_),(6,_),(32,_),(33,_)]) (to:=[(100,_)]) ?_;refine ws (LR.storeRpT (enc:=TEvent.e) (L:=v33) (a:=x42) (b:=x37) sizeOf69 rfl rfl rfl rfl rfl hy43.2 rfl rfl)<|wN<|wR<|wm ?_;refine ws (LR.addW rfl rfl)<|wa ?_;refine wN ?_;exact ⟨((IntKind.i64.wrap (i31 + 1)),(List.set v33 (Int.toNat i31) x37)),(),h,sO rfl (.cons rfl (by first | rfl | (simp;done) | (congr 1;first | (simp;done) | (simp;omega) | omega))<|.c2 rfl rfl rfl rfl<|.cons rfl rfl<|.nil) (.cons rfl rfl<|.nil)⟩
     ·replace h:=iF hc41 h;refine wK ?_;exact ⟨(i31,v33),(),h,sP⟩
    ·rintro ⟨i35,v36⟩ _ h;refine wR<|wm ?_;refine ws (LR.addW rfl rfl)<|wa ?_;refine wN ?_;exact ⟨(i35,(IntKind.i64.wrap (j32 + 1)),v36),(),h,sP⟩
   ·replace h:=iF hc34 h;refine wZ ?_;exact ⟨(i31,v33),(),h,sP⟩
  ·rintro ⟨i6,v7⟩ _ h;refine wQ<|wR<|wm ?_;refine wm ?_;obtain ⟨hy44,h⟩:=zl h;refine ws (LR.pieceRowT (enc:=TEvent.e) (L:=v7) underlying24 sizeOf69 rfl rfl rfl rfl hy44) ?_;obtain ⟨hy45,h⟩:=zl h;refine ws (LR.clearPcT (enc:=TEvent.e) (L:=v7) (z:=(⟨(⟨0,0⟩:TDot),0,0,0,(⟨#[]⟩:ByteArray),([]:List TDot)⟩:TEvent)) underlying24 rfl rfl zeroValue69 rfl rfl rfl rfl hy45 rfl)<|wN<|wQ<|wR<|wm ?_;refine wm ?_;obtain ⟨hy46,h⟩:=zl h;refine ws (LR.cutRowT (enc:=TEvent.e) (L:=(List.take (Int.toNat i6) v7 ++ List.replicate (List.length v7 - Int.toNat i6) (⟨(⟨0,0⟩:TDot),0,0,0,(⟨#[]⟩:ByteArray),([]:List TDot)⟩:TEvent) ++ List.drop ((Int.toNat i6) + (List.length v7 - Int.toNat i6)) v7)) [0,36,38,39] underlying24 sizeOf69 rfl (by first | (simp;done) | (simp;omega) | omega) rfl rfl hy46 rfl) ?_;refine wa ?_;refine wN<|wX ?_;cases h;exact EndsO.mk () (.inr rfl) (sO (tl:=[(4,_)]) (to:=[(100,_)]) rfl (.cons rfl (by first | rfl | (simp;done) | (congr 1;first | (simp;done) | (simp;omega) | omega))<|.nil) (.cons rfl rfl<|.nil)) (.cons (.tmp rfl)<|.nil) rfl rfl

theorem YC (from1:List TPart) (ctx_2:List TPart) (nl3:Bool) (m4:List (TDot × TEvent)) (nl5:Bool) (m6:List (TDot × TEvent)) (r0:TDelta) (h:(xJ from1 ctx_2 nl3 m4 nl5 m6).wp (· = r0)):PObj prog 41 [.ref 100 0,.d (.sl (List.map TPart.e from1))] [(100,.cells 98 [.d (.sl (List.map TPart.e ctx_2)),.mp 101,.mp 102]),(101,.mapH nl3 [.u16,.u64] true (encM TDot.k TEvent.e m4)),(102,.mapH nl5 [.u16,.u64] true (encM TDot.k TEvent.e m6))] [100,101,102] (.agg (List.map .d (TDelta.e r0))) (fun _:Unit=>[(100,.cells 98 [.d (.sl (List.map TPart.e ctx_2)),.mp 101,.mp 102]),(101,.mapH nl3 [.u16,.u64] true (encM TDot.k TEvent.e m4)),(102,.mapH nl5 [.u16,.u64] true (encM TDot.k TEvent.e m6))]):=by
 refine PObj.intro (sl:=[(0,_),(1,_)]) func41 rfl ntmps41 rfl rfl rfl ?_;intro ctx hK pv;refine wQ<|wR<|ws (LR.box rfl rfl rfl rfl)<|ws (LR.allocZ (cs:=[_,_,_]) zeroValue26 rfl rfl rfl rfl)<|wN<|wQ<|wR<|wm ?_;obtain ⟨y7,hy8,h⟩:=iDet h;refine ws (LR.callObjS [(100,100),(101,101),(102,102)] [] [100,101,102] [] [(100,.cells 98 [.d (.sl (List.map TPart.e ctx_2)),.mp 101,.mp 102]),(101,.mapH nl3 [.u16,.u64] true (encM TDot.k TEvent.e m4)),(102,.mapH nl5 [.u16,.u64] true (encM TDot.k TEvent.e m6))] (yi ctx_2 nl3 m4 nl5 m6 y7 hy8) hK rfl call34 rfl (by first | rfl | (simp;done) | (simp [PV.nilD,PV.ren,rn];omega)) (by repeat' first | constructor | (congr 1;first | (simp;done) | (simp;omega) | omega)) (.nil) (.cons rfl<|.cons rfl<|.cons rfl<|.nil) (by repeat' first | constructor | (congr 1;first | (simp;done) | (simp;omega) | omega)) rfl rfl rfl rfl rfl rfl) ?_;refine wy (tl:=[(0,_),(3,_),(4,_),(7,_)]) (to:=[(3,_),(4,_),(100,_),(101,_),(102,_),(1100,_),(1101,_),(1102,_)]) ?_;refine wa ?_;refine wN<|wQ<|wR<|ws (lD isAgg23 rfl rfl rfl)<|wm ?_;obtain ⟨v9,hy10,h⟩:=iDet h;refine ws (LR.rowN (zWa from1 y7 v9 hy10) rfl call71 rfl rfl rfl rfl)<|wm ?_;refine wm ?_;obtain ⟨y11,hy12,h⟩:=iDet h;refine ws (LR.callObjS [(100,100),(101,101),(102,102),(14,13)] [] [100,101,102,14] [(14,.row 69 7 (List.map TEvent.e y11))] [(100,.cells 98 [.d (.sl (List.map TPart.e ctx_2)),.mp 101,.mp 102]),(101,.mapH nl3 [.u16,.u64] true (encM TDot.k TEvent.e m4)),(102,.mapH nl5 [.u16,.u64] true (encM TDot.k TEvent.e m6))] (yw ctx_2 nl3 m4 nl5 m6 y11 hy12) hK rfl call35 rfl (by first | rfl | (simp;done) | (simp [PV.nilD,PV.ren,rn];omega)) (by repeat' first | constructor | (congr 1;first | (simp;done) | (simp;omega) | omega)) (.cons rfl<|.nil) (.cons rfl<|.cons rfl<|.cons rfl<|.nil) (by repeat' first | constructor | (congr 1;first | (simp;done) | (simp;omega) | omega)) rfl rfl rfl rfl rfl rfl) ?_;refine wy (tl:=[(3,_),(4,_),(10,_),(11,_),(13,_)]) (to:=[(3,_),(4,_),(10,_),(13,_),(100,_),(101,_),(102,_),(1100,_),(1101,_),(1102,_)]) ?_;refine PWl.sub (Sub.frzR (id:=3) ((eL TPart.e) from1) [3] hK rfl rfl (.cons rfl<|.nil))<|ws (LR.makeClo (cs:=[(eL TPart.e) from1]) rfl)<|wy (tl:=[(4,_),(10,_),(11,_),(13,_),(14,_)]) (to:=[(4,_),(10,_),(13,_),(100,_),(101,_),(102,_),(1100,_),(1101,_),(1102,_)]) ?_;obtain ⟨y13,hy14,h⟩:=iDet h;refine ws (LR.callObj [(100,13)] [13] [100] (yS from1 y11 y13 hy14) hK rfl call80 rfl (by first | rfl | (simp;done) | (simp [PV.nilD,PV.ren,rn];omega)) (.cons (by first | rfl | (congr 1;first | (simp;done) | (simp;omega) | omega))<|.nil) rfl rfl rfl rfl) ?_;refine wy (tl:=[(4,_),(10,_),(11,_),(15,_)]) (to:=[(4,_),(10,_),(13,_),(100,_),(101,_),(102,_),(1100,_),(1101,_),(1102,_)]) ?_;refine PWl.frz [10] hK (.cons rfl<|.nil) rfl (by simp) ?_;refine PWl.frz [15] hK (.cons rfl<|.nil) rfl (by simp) ?_;refine ws (LR.build (ns:=[_,_,_]) xZa rfl rfl rfl)<|ws (sB (ns:=[_,_,_]) sizeOf26 rfl rfl rfl rfl rfl rfl rfl)<|wN<|wX ?_;cases h;exact EndsO.mkX (ex:=[(4,_)]) () (.inr rfl) (sP (tl:=[(4,_)]) (to:=[(100,_),(101,_),(102,_),(1100,_),(1101,_),(1102,_),(4,_)])) (.cons (.agg isAgg26 sizeOf26 rfl rfl rfl)<|.nil) rfl rfl


theorem vU (d1:TDelta) (ctx_2:List TPart) (nl3:Bool) (m4:List (TDot × TEvent)) (nl5:Bool) (m6:List (TDot × TEvent)) (r0:Int × List TPart × Bool × (List (TDot × TEvent)) × Bool × (List (TDot × TEvent))) (h:(yh d1 ctx_2 nl3 m4 nl5 m6).wp (· = r0)):PObj prog 49 [.ref 100 0,.agg (List.map .d (TDelta.e d1))] [(100,.cells 98 [.d (.sl (List.map TPart.e ctx_2)),.mp 101,.mp 102]),(101,.mapH nl3 [.u16,.u64] true (encM TDot.k TEvent.e m4)),(102,.mapH nl5 [.u16,.u64] true (encM TDot.k TEvent.e m6))] [100] (.d (.v (.int .i64 r0.1))) (fun _:Unit=>[(100,.cells 98 [.d (.sl (List.map TPart.e r0.2.1)),.mp 101,.mp 102]),(101,.mapH r0.2.2.1 [.u16,.u64] true (encM TDot.k TEvent.e r0.2.2.2.1)),(102,.mapH r0.2.2.2.2.1 [.u16,.u64] true (encM TDot.k TEvent.e r0.2.2.2.2.2))]):=by
 refine PObj.intro (sl:=[(0,_),(1,_)]) func49 rfl ntmps49 rfl rfl rfl ?_;intro ctx hK pv;refine wQ<|wR<|ws (LR.box rfl rfl rfl rfl)<|wa ?_;refine wN<|wQ<|wB<|wQ<|wR<|wm ?_;refine ws (LR.eqlPtr underlying34 rfl)<|wm ?_;refine wt (lA (ps:=[_,_,_]) isAgg26 sizeOf26 rfl rfl rfl rfl) ?_;obtain ⟨v7,hy8,h⟩:=iDet h;refine wt (cN (Zo d1 v7 hy8) rfl call45 rfl rfl rfl rfl)<|wt (LR.not rfl)<|ws (pF rfl rfl)<|wa ?_;refine wN ?_;refine wC rfl (fun hc9=>?_) (fun hc9=>?_)
 ·replace h:=iT hc9 h;refine wQ<|wR<|wa ?_;refine wN<|wX ?_;cases h;exact EndsO.mk () (.inr rfl) (sP (tl:=[(4,_)]) (to:=[(100,_),(101,_),(102,_),(1100,_)])) (.cons (.tmp rfl)<|.nil) rfl rfl
 ·replace h:=iF hc9 h;refine wQ<|wz (tl:=[(0,_),(3,_)]) (to:=[(3,_),(100,_),(101,_),(102,_),(1100,_)]) ?_;refine PWc.regionE [⟨[16],[],[],[],[],[3],[],[]⟩,⟨[17],[],[3],[],[],[],[],[]⟩,⟨[18],[],[],[],[],[100],[],[]⟩,⟨[19],[],[100,101,102],[],[],[],[],[]⟩,{ws:=[20]},{ws:=[21]},{ws:=[15]}] (by kernel_rfl) (by kernel_rfl) rfl ?_;refine kp (fun _ U W=>fR underlying26 rfl sizeOf23 (by decide) rfl (U rfl rfl)) ?_;refine kp (fun _ U W=>lD isAgg23 (U rfl rfl) (W rfl rfl) rfl)<|km ?_;obtain ⟨y10,hy11,h⟩:=iDet h;refine PQe.callObjS [(100,100),(101,101),(102,102)] [] [100,101,102] [] [(100,.cells 98 [.d (.sl (List.map TPart.e ctx_2)),.mp 101,.mp 102]),(101,.mapH nl3 [.u16,.u64] true (encM TDot.k TEvent.e m4)),(102,.mapH nl5 [.u16,.u64] true (encM TDot.k TEvent.e m6))] (yi ctx_2 nl3 m4 nl5 m6 y10 hy11) hK (fun _ U=>⟨U rfl rfl,evsE U rfl rfl⟩) call34 (by first | rfl | (simp;done) | (simp [PV.nilD,PV.ren,rn];omega)) (by repeat' first | constructor | (congr 1;first | (simp;done) | (simp;omega) | omega)) (.nil) (.cons rfl<|.cons rfl<|.cons rfl<|.nil) (by repeat' first | constructor | (congr 1;first | (simp;done) | (simp;omega) | omega)) rfl rfl rfl rfl rfl rfl (.inl rfl) rfl ?_;obtain ⟨v12,hy13,h⟩:=iDet h;refine kp (fun _ U W=>cN (Wq d1.from_ y10 v12 hy13) (U rfl rfl) call104 (evsE U rfl rfl) rfl rfl rfl) ?_;refine kp (fun _ U W=>LR.not (U rfl rfl)) ?_;refine kp (fun _ U W=>aS (U rfl rfl))<|PQe.nil ?_;refine wC rfl (fun hc14=>?_) (fun hc14=>?_)
  ·replace h:=iT hc14 h;refine wQ<|wz (tl:=[]) (to:=[(100,_),(101,_),(102,_),(1100,_)]) ?_;refine wR<|wa ?_;refine wN<|wX ?_;cases h;exact EndsO.mk () (.inr rfl) (sP (tl:=[(4,_)]) (to:=[(100,_),(101,_),(102,_),(1100,_)])) (.cons (.tmp rfl)<|.nil) rfl rfl
  ·replace h:=iF hc14 h;refine wK<|wQ<|wQ<|wz (tl:=[(0,_),(3,_)]) (to:=[(3,_),(100,_),(101,_),(102,_),(1100,_)]) ?_;refine wR<|ws (fR underlying26 rfl sizeOf24 (by decide) rfl rfl)<|ws (lD isAgg24 rfl rfl rfl)<|ws (lM (enc:=TEvent.e) (L:=d1.events) underlying24 rfl)<|wm ?_;refine wN ?_;refine wJ (zG h) (fun (⟨v15,nl16,v17,nl18,v19⟩:List TPart × Bool × (List (TDot × TEvent)) × Bool × (List (TDot × TEvent))) (_:Unit)=>⟨37,[(0,.ref 100 0),(3,.ref 3 0)],[(3,.cells 26 [.d (.sl (List.map TPart.e d1.from_)),.d (.sl (List.map TPart.e d1.to_)),.d (.sl (List.map TEvent.e d1.events))]),(100,.cells 98 [.d (.sl (List.map TPart.e v15)),.mp 101,.mp 102]),(101,.mapH nl18 [.u16,.u64] true (encM TDot.k TEvent.e v19)),(102,.mapH nl16 [.u16,.u64] true (encM TDot.k TEvent.e v17)),(1100,.pin 100 (pv 100))]⟩) (fun h=>?_) ?_
   ·refine wB<|wM (fun (⟨v36,v37,nl38,v39,nl40,v41⟩:Int × List TPart × Bool × (List (TDot × TEvent)) × Bool × (List (TDot × TEvent))) (_:Unit)=>⟨37,[(0,.ref 100 0),(3,.ref 3 0),(23,.d (.sl (List.map TEvent.e d1.events))),(24,.d (.v (.int .i64 (List.length d1.events:Int)))),(25,.d (.v (.int .i64 v36)))],[(3,.cells 26 [.d (.sl (List.map TPart.e d1.from_)),.d (.sl (List.map TPart.e d1.to_)),.d (.sl (List.map TEvent.e d1.events))]),(100,.cells 98 [.d (.sl (List.map TPart.e v37)),.mp 101,.mp 102]),(101,.mapH nl40 [.u16,.u64] true (encM TDot.k TEvent.e v41)),(102,.mapH nl38 [.u16,.u64] true (encM TDot.k TEvent.e v39)),(1100,.pin 100 (pv 100))]⟩) () h (sP) ?_;rintro N ⟨v36,v37,nl38,v39,nl40,v41⟩ _ h;refine wQ<|wR<|ws (LR.lss rfl rfl)<|wN<|wQ ?_;refine wC rfl (fun hc42=>?_) (fun hc42=>?_)
    ·replace h:=iT hc42 h;refine wK<|wQ<|wB<|wQ<|wR ?_;obtain ⟨x43,hy44,h⟩:=iIdx h;refine ws (iX (enc:=TEvent.e) (L:=d1.events) (y:=x43) underlying24 sizeOf69 rfl rfl hy44 (fun _=>rfl))<|ws (lE (ys:=[_,_,_,_,_,_,_]) isAgg69 sizeOf69 rfl rfl rfl)<|ws (LR.allocZ (cs:=[_,_,_,_,_,_,_]) zeroValue69 rfl rfl rfl rfl)<|ws (sB (ns:=[_,_,_,_,_,_,_]) sizeOf69 rfl rfl rfl rfl rfl rfl rfl)<|wN<|wR<|wm ?_;refine ws (lA (ps:=[_,_,_,_,_,_,_]) isAgg69 sizeOf69 rfl rfl rfl rfl) ?_;obtain ⟨y45,hy46,h⟩:=iDet h;refine ws (LR.callObj [(100,100),(101,101),(102,102)] [] [100,101,102] (ui x43 v37 nl40 v41 nl38 v39 y45 hy46) hK rfl call32 rfl (by first | rfl | (simp;done) | (simp [PV.nilD,PV.ren,rn];omega)) (by repeat' first | constructor | (congr 1;first | (simp;done) | (simp;omega) | omega)) rfl rfl rfl rfl) ?_;refine wN<|wz (tl:=[(0,_),(3,_),(23,_),(24,_),(25,_)]) (to:=[(3,_),(100,_),(101,_),(102,_),(1100,_)]) ?_;refine wR<|ws (LR.addW rfl rfl)<|wm ?_;refine wN ?_;exact ⟨((IntKind.i64.wrap (v36 + 1)),y45.2.1,y45.2.2.2.2.1,y45.2.2.2.2.2,y45.2.2.1,y45.2.2.2.1),(),h,sP⟩
    ·replace h:=iF hc42 h;refine wZ ?_;exact ⟨(v37,nl38,v39,nl40,v41),(),h,sP⟩
   ·rintro ⟨v15,nl16,v17,nl18,v19⟩ _ h;refine wQ<|wR<|wm ?_;refine ws (fR underlying26 rfl sizeOf23 (by decide) rfl rfl)<|ws (lD isAgg23 rfl rfl rfl) ?_;obtain ⟨y47,hy48,h⟩:=iDet h;refine ws (LR.callObjS [(100,100),(101,101),(102,102)] [] [100,101,102] [(100,.cells 98 [.d (.sl (List.map TPart.e y47)),.mp 101,.mp 102])] [(101,.mapH nl18 [.u16,.u64] true (encM TDot.k TEvent.e v19)),(102,.mapH nl16 [.u16,.u64] true (encM TDot.k TEvent.e v17))] (Wp d1.to_ v15 nl18 v19 nl16 v17 y47 hy48) hK rfl call38 rfl (by first | rfl | (simp;done) | (simp [PV.nilD,PV.ren,rn];omega)) (by repeat' first | constructor | (congr 1;first | (simp;done) | (simp;omega) | omega)) (.cons rfl<|.nil) (.cons rfl<|.cons rfl<|.nil) (by repeat' first | constructor | (congr 1;first | (simp;done) | (simp;omega) | omega)) rfl rfl rfl rfl rfl rfl) ?_;refine wN<|wQ<|wz (tl:=[]) (to:=[(100,_),(101,_),(102,_),(1100,_)]) ?_;refine wR<|wa ?_;refine wN<|wX ?_;cases h;exact EndsO.mk () (.inr rfl) (sP (tl:=[(4,_)]) (to:=[(100,_),(101,_),(102,_),(1100,_)])) (.cons (.tmp rfl)<|.nil) rfl rfl

theorem Vi  (r0:Bool) (h:(YQ ).wp (· = r0)):PFun prog 40 [] (.d (.v (.bool r0))):=by
 refine fI (sl:=[]) func40 rfl ntmps40 rfl rfl ?_;intro ctx hK;refine wQ<|wR<|wa ?_;refine wN<|wQ<|wR ?_;obtain ⟨y1,hy2,h⟩:=iDet h;refine ws (LR.callObj [(2,7),(30041,20141),(30042,20142)] [] [2,30041,30042] (Wo y1 hy2) hK rfl call31 rfl (by first | rfl | (simp;done) | (simp [PV.nilD,PV.ren,rn];omega)) (.nil) rfl rfl rfl rfl) ?_;obtain ⟨y3,hy4,h⟩:=iDet h;refine ws (LR.callObj [(2,8),(30041,20161),(30042,20162)] [] [2,30041,30042] (Wo y3 hy4) hK rfl call31 rfl (by first | rfl | (simp;done) | (simp [PV.nilD,PV.ren,rn];omega)) (.nil) rfl rfl rfl rfl) ?_;refine wy (tl:=[(7,_),(8,_)]) (to:=[(7,_),(8,_),(20141,_),(20142,_),(20161,_),(20162,_)]) ?_;refine wa ?_;refine wa ?_;refine wN<|wQ<|wR<|wm ?_;refine ws (LR.build (ns:=[_,_]) Xi rfl rfl rfl)<|ws (LR.build (ns:=[_,_,_,_,_,_,_]) JU rfl rfl rfl) ?_;obtain ⟨y5,hy6,h⟩:=iDet h;refine ws (LR.callObj [(100,7),(101,20141),(102,20142)] [] [100,101,102] (ui (⟨(⟨1,1⟩:TDot),1,281474976710657,1,(⟨#[97]⟩:ByteArray),([]:List TDot)⟩:TEvent) y1.1 y1.2.1 y1.2.2.1 y1.2.2.2.1 y1.2.2.2.2 y5 hy6) hK rfl call32 rfl (by first | rfl | (simp;done) | (simp [PV.nilD,PV.ren,rn];omega)) (by repeat' first | constructor | (congr 1;first | (simp;done) | (simp;omega) | omega)) rfl rfl rfl rfl) ?_;refine wy (tl:=[(1,_),(2,_),(12,_)]) (to:=[(7,_),(8,_),(20141,_),(20142,_),(20161,_),(20162,_)]) ?_;refine wa ?_;refine wN<|wQ<|wR<|wm ?_;obtain ⟨y7,hy8,h⟩:=iDet h;refine ws (LR.callObjS [(100,7),(101,20141),(102,20142)] [] [100,101,102] [] [(100,.cells 98 [.d (.sl (List.map TPart.e y5.2.1)),.mp 101,.mp 102]),(101,.mapH y5.2.2.1 [.u16,.u64] true (encM TDot.k TEvent.e y5.2.2.2.1)),(102,.mapH y5.2.2.2.2.1 [.u16,.u64] true (encM TDot.k TEvent.e y5.2.2.2.2.2))] (YC ([]:List TPart) y5.2.1 y5.2.2.1 y5.2.2.2.1 y5.2.2.2.2.1 y5.2.2.2.2.2 y7 hy8) hK rfl call41 rfl (by first | rfl | (simp;done) | (simp [PV.nilD,PV.ren,rn];omega)) (by repeat' first | constructor | (congr 1;first | (simp;done) | (simp;omega) | omega)) (.nil) (.cons rfl<|.cons rfl<|.cons rfl<|.nil) (by repeat' first | constructor | (congr 1;first | (simp;done) | (simp;omega) | omega)) rfl rfl rfl rfl rfl rfl) ?_;refine wy (tl:=[(1,_),(2,_),(3,_),(14,_)]) (to:=[(7,_),(8,_),(20141,_),(20142,_),(20161,_),(20162,_)]) ?_;refine ws (LR.allocZ (cs:=[_,_,_]) zeroValue26 rfl rfl rfl rfl)<|ws (sB (ns:=[_,_,_]) sizeOf26 rfl rfl rfl rfl rfl rfl rfl)<|wN<|wQ<|wR<|wm ?_;refine ws (lA (ps:=[_,_,_]) isAgg26 sizeOf26 rfl rfl rfl rfl) ?_;obtain ⟨y9,hy10,h⟩:=iDet h;refine ws (LR.callObj [(100,8),(101,20161),(102,20162)] [] [100,101,102] (vU y7 y3.1 y3.2.1 y3.2.2.1 y3.2.2.2.1 y3.2.2.2.2 y9 hy10) hK rfl call49 rfl (by first | rfl | (simp;done) | (simp [PV.nilD,PV.ren,rn];omega)) (by repeat' first | constructor | (congr 1;first | (simp;done) | (simp;omega) | omega)) rfl rfl rfl rfl) ?_;refine wy (tl:=[(1,_),(2,_),(3,_),(4,_),(17,_)]) (to:=[(4,_),(7,_),(8,_),(20141,_),(20142,_),(20161,_),(20162,_)]) ?_;refine wa ?_;refine wN<|wQ<|wR<|wm ?_;refine ws (lA (ps:=[_,_,_]) isAgg26 sizeOf26 rfl rfl rfl rfl) ?_;obtain ⟨y11,hy12,h⟩:=iDet h;refine ws (LR.callObj [(100,8),(101,20161),(102,20162)] [] [100,101,102] (vU y7 y9.2.1 y9.2.2.1 y9.2.2.2.1 y9.2.2.2.2.1 y9.2.2.2.2.2 y11 hy12) hK rfl call49 rfl (by first | rfl | (simp;done) | (simp [PV.nilD,PV.ren,rn];omega)) (by repeat' first | constructor | (congr 1;first | (simp;done) | (simp;omega) | omega)) rfl rfl rfl rfl) ?_;refine wy (tl:=[(1,_),(2,_),(3,_),(4,_),(5,_),(20,_)]) (to:=[(4,_),(7,_),(8,_),(20141,_),(20142,_),(20161,_),(20162,_)]) ?_;refine wa ?_;refine wN<|wQ ?_;refine wJ (zG h) (fun (v13:Bool) (_:Unit)=>⟨48,[(0,.d (.v (.bool v13)))],[]⟩) (fun h=>?_) ?_
 ·refine wR<|wm ?_;refine ws (eQ rfl rfl)<|wm ?_;refine wL (d:=23) rfl (fun hg14=>?_) (fun hg14=>?_)
  ·replace h:=iT hg14 h;refine wt (mV rfl)<|wt (eQ rfl rfl)<|ws (pT rfl rfl)<|wm ?_;refine wL (d:=27) rfl (fun hg15=>?_) (fun hg15=>?_)
   ·replace h:=iT hg15 h;refine wt (mV rfl)<|wt (eQ rfl rfl)<|ws (pT rfl rfl)<|wm ?_;refine wL (d:=31) rfl (fun hg16=>?_) (fun hg16=>?_)
    ·replace h:=iT hg16 h;refine wy (tl:=[(1,_),(2,_),(4,_),(31,_)]) (to:=[(4,_),(7,_),(8,_),(20141,_),(20142,_),(20161,_),(20162,_)]) ?_;refine wt (fR underlying26 rfl sizeOf24 (by decide) rfl rfl)<|wt (lD isAgg24 rfl rfl rfl)<|wt (lM (enc:=TEvent.e) (L:=y7.events) underlying24 rfl)<|wt (eQ rfl rfl)<|ws (pT rfl rfl)<|wm ?_;refine wL (d:=37) rfl (fun hg17=>?_) (fun hg17=>?_)
     ·replace h:=iT hg17 h;refine wt (mV rfl) ?_;obtain ⟨y18,hy19,h⟩:=iDet h;refine wt (LR.callObjS [(100,8),(101,20161),(102,20162),(10,39)] [] [100,101,102,10] [(10,.row 69 7 (List.map TEvent.e y18))] [(100,.cells 98 [.d (.sl (List.map TPart.e y11.2.1)),.mp 101,.mp 102]),(101,.mapH y11.2.2.1 [.u16,.u64] true (encM TDot.k TEvent.e y11.2.2.2.1)),(102,.mapH y11.2.2.2.2.1 [.u16,.u64] true (encM TDot.k TEvent.e y11.2.2.2.2.2))] (uK y11.2.1 y11.2.2.1 y11.2.2.2.1 y11.2.2.2.2.1 y11.2.2.2.2.2 y18 hy19) hK rfl call84 rfl (by first | rfl | (simp;done) | (simp [PV.nilD,PV.ren,rn];omega)) (by repeat' first | constructor | (congr 1;first | (simp;done) | (simp;omega) | omega)) (.cons rfl<|.nil) (.cons rfl<|.cons rfl<|.cons rfl<|.nil) (by repeat' first | constructor | (congr 1;first | (simp;done) | (simp;omega) | omega)) rfl rfl rfl rfl rfl rfl) ?_;refine wy (tl:=[(1,_),(2,_),(37,_),(39,_)]) (to:=[(7,_),(8,_),(39,_),(20141,_),(20142,_),(20161,_),(20162,_)]) ?_;refine wt (LR.lenRow underlying24 rfl)<|wt (eQ rfl rfl)<|ws (pT rfl rfl)<|wm ?_;refine wL (d:=43) rfl (fun hg20=>?_) (fun hg20=>?_)
      ·replace h:=iT hg20 h;refine wt (mV rfl)<|wt (mV rfl) ?_;obtain ⟨y21,hy22,h⟩:=iDet h;refine wt (LR.callObjS [(100,7),(101,8),(102,20141),(103,20142),(104,20161),(105,20162)] [] [100,101,102,103,104,105] [] [(100,.cells 98 [.d (.sl (List.map TPart.e y5.2.1)),.mp 102,.mp 103]),(101,.cells 98 [.d (.sl (List.map TPart.e y11.2.1)),.mp 104,.mp 105]),(102,.mapH y5.2.2.1 [.u16,.u64] true (encM TDot.k TEvent.e y5.2.2.2.1)),(103,.mapH y5.2.2.2.2.1 [.u16,.u64] true (encM TDot.k TEvent.e y5.2.2.2.2.2)),(104,.mapH y11.2.2.1 [.u16,.u64] true (encM TDot.k TEvent.e y11.2.2.2.1)),(105,.mapH y11.2.2.2.2.1 [.u16,.u64] true (encM TDot.k TEvent.e y11.2.2.2.2.2))] (jc y5.2.1 y11.2.1 y5.2.2.1 y5.2.2.2.1 y5.2.2.2.2.1 y5.2.2.2.2.2 y11.2.2.1 y11.2.2.2.1 y11.2.2.2.2.1 y11.2.2.2.2.2 y21 hy22) hK rfl call37 rfl (by first | rfl | (simp;done) | (simp [PV.nilD,PV.ren,rn];omega)) (by repeat' first | constructor | (congr 1;first | (simp;done) | (simp;omega) | omega)) (.nil) (.cons rfl<|.cons rfl<|.cons rfl<|.cons rfl<|.cons rfl<|.cons rfl<|.nil) (by repeat' first | constructor | (congr 1;first | (simp;done) | (simp;omega) | omega)) rfl rfl rfl rfl rfl rfl) ?_;refine wy (tl:=[(43,_),(46,_)]) (to:=[]) ?_;refine ws (pT rfl rfl)<|wa ?_;refine wN ?_;exact ⟨y21,(),h,sP⟩
      ·replace h:=iF hg20 h;refine wf<|wf<|wf<|ws (pF rfl rfl)<|wa ?_;refine wN ?_;exact ⟨false,(),h,sP⟩
     ·replace h:=iF hg17 h;refine wf<|wf<|wf<|wf<|ws (pF rfl rfl)<|wm ?_;refine wf<|wf<|wf<|ws (pF rfl rfl)<|wy (tl:=[(47,_)]) (to:=[]) ?_;refine wa ?_;refine wN ?_;exact ⟨false,(),h,sP⟩
    ·replace h:=iF hg16 h;refine wy (tl:=[(1,_),(2,_),(4,_),(31,_)]) (to:=[(4,_),(7,_),(8,_),(20141,_),(20142,_),(20161,_),(20162,_)]) ?_;refine wf<|wf<|wf<|wf<|ws (pF rfl rfl)<|wm ?_;refine wf<|wf<|wf<|wf<|ws (pF rfl rfl)<|wm ?_;refine wf<|wf<|wf<|ws (pF rfl rfl)<|wa ?_;refine wN ?_;exact ⟨false,(),h,sP⟩
   ·replace h:=iF hg15 h;refine wf<|wf<|ws (pF rfl rfl)<|wm ?_;refine wf<|wy (tl:=[(1,_),(2,_),(31,_),(32,_)]) (to:=[(7,_),(8,_),(20141,_),(20142,_),(20161,_),(20162,_)]) ?_;refine wf<|wf<|wf<|ws (pF rfl rfl)<|wm ?_;refine wf<|wf<|wf<|wf<|ws (pF rfl rfl)<|wm ?_;refine wf<|wf<|wf<|ws (pF rfl rfl)<|wa ?_;refine wN ?_;exact ⟨false,(),h,sP⟩
  ·replace h:=iF hg14 h;refine wf<|wf<|ws (pF rfl rfl)<|wm ?_;refine wf<|wf<|ws (pF rfl rfl)<|wm ?_;refine wf<|wf<|wy (tl:=[(1,_),(2,_),(31,_),(33,_)]) (to:=[(7,_),(8,_),(20141,_),(20142,_),(20161,_),(20162,_)]) ?_;refine wf<|wf<|ws (pF rfl rfl)<|wm ?_;refine wf<|wf<|wf<|wf<|ws (pF rfl rfl)<|wm ?_;refine wf<|wf<|wf<|ws (pF rfl rfl)<|wa ?_;refine wN ?_;exact ⟨false,(),h,sP⟩
 ·rintro v13 _ h;refine wX ?_;cases h;exact ⟨.inr rfl,_,.cons (.tmp rfl rfl)<|.nil,rfl⟩

theorem QT (b1:R18Book) (from2:List TPart) (r0:TDelta) (h:(Wc b1 from2).wp (· = r0)):PFun prog 42 [.agg (List.map .d (R18Book.e b1)),.d (.sl (List.map TPart.e from2))] (.agg (List.map .d (TDelta.e r0))):=by
 refine fI (sl:=[(0,_),(1,_)]) func42 rfl ntmps42 rfl rfl ?_;intro ctx hK;refine wQ<|wR<|ws (LR.box rfl rfl rfl rfl)<|ws (LR.allocZ (cs:=[_,_,_]) zeroValue26 rfl rfl rfl rfl)<|wN<|wQ<|wz (tl:=[(1,_),(2,_),(4,_)]) (to:=[(2,_),(4,_)]) ?_;refine PWc.regionE [{ws:=[7]},⟨[8],[],[],[],[],[2],[],[]⟩,⟨[9],[],[2],[],[],[],[],[]⟩,{ws:=[10]},⟨[11],[],[],[],[],[2],[],[]⟩,⟨[12],[],[2],[],[],[],[],[]⟩,{ws:=[13]},{ws:=[14]},⟨[5],[5],[],[5],[],[5],[],[]⟩,⟨[],[5],[5],[],[],[],[],[]⟩] (by kernel_rfl) (by kernel_rfl) rfl<|km ?_;refine kp (fun _ U W=>fR underlying32 rfl sizeOf23 (by decide) rfl (U rfl rfl)) ?_;refine kp (fun _ U W=>lD isAgg23 (U rfl rfl) (W rfl rfl) rfl) ?_;obtain ⟨v3,hy4,h⟩:=iDet h;refine kp (fun _ U W=>cN (PRow.fun (zZa from2 b1.ctx v3 hy4)) (U rfl rfl) call76 (evsE U rfl rfl) rfl rfl rfl) ?_;refine kp (fun _ U W=>fR underlying32 rfl sizeOf23 (by decide) rfl (U rfl rfl)) ?_;refine kp (fun _ U W=>lD isAgg23 (U rfl rfl) (W rfl rfl) rfl) ?_;obtain ⟨v5,hy6,h⟩:=iDet h;refine kp (fun _ U W=>cN (PRow.fun (ww b1.ctx v5 hy6)) (U rfl rfl) call12 (evsE U rfl rfl) rfl rfl rfl) ?_;refine kp (fun _ U W=>LR.build (ns:=[_,_,_]) xZa rfl (evpE U rfl rfl) rfl) ?_;refine PQe.stepN (fun _ U W hf=>LR.allocZ (cs:=[_,_,_]) zeroValue26 rfl rfl rfl hf) rfl (.inl rfl) rfl ?_;refine ks (fun _ U W=>sB (ns:=[_,_,_]) sizeOf26 (U rfl rfl) (U rfl rfl) rfl rfl (W rfl rfl) rfl rfl)<|PQe.nil<|wQ<|wQ<|wR<|wa ?_;refine wN ?_;refine wJ (zG h) (fun (d7:List TEvent) (_:Unit)=>⟨44,[(4,.ref 4 0),(5,.ref 5 0)],[(4,.cells 26 [.d (.sl (List.map TPart.e ([]:List TPart))),.d (.sl (List.map TPart.e ([]:List TPart))),.d (.sl (List.map TEvent.e ([]:List TEvent)))]),(5,.cells 26 [.d (.sl (List.map TPart.e v3)),.d (.sl (List.map TPart.e v5)),.d (.sl (List.map TEvent.e d7))])]⟩) (fun h=>?_) ?_
 ·refine wB<|wM (fun (⟨i32,d33⟩:Int × List TEvent) (_:Unit)=>⟨44,[(1,.d (.sl (List.map TPart.e from2))),(2,.ref 2 0),(4,.ref 4 0),(5,.ref 5 0),(6,.d (.v (.int .i64 i32)))],[(2,.cells 32 [.d (.sl (List.map TPart.e b1.ctx)),.d (.sl (List.map TEvent.e b1.l))]),(4,.cells 26 [.d (.sl (List.map TPart.e ([]:List TPart))),.d (.sl (List.map TPart.e ([]:List TPart))),.d (.sl (List.map TEvent.e ([]:List TEvent)))]),(5,.cells 26 [.d (.sl (List.map TPart.e v3)),.d (.sl (List.map TPart.e v5)),.d (.sl (List.map TEvent.e d33))])]⟩) () h (sP) ?_;rintro N ⟨i32,d33⟩ _ h;refine wQ<|wQ<|wR<|wm ?_;refine ws (fR underlying32 rfl sizeOf24 (by decide) rfl rfl)<|ws (lD isAgg24 rfl rfl rfl)<|ws (lM (enc:=TEvent.e) (L:=b1.l) underlying24 rfl)<|ws (LR.lss rfl rfl)<|wN ?_;refine wC rfl (fun hc34=>?_) (fun hc34=>?_)
  ·replace h:=iT hc34 h;refine wK<|wQ ?_;refine wJ (zG h) (fun (d35:List TEvent) (_:Unit)=>⟨44,[(1,.d (.sl (List.map TPart.e from2))),(2,.ref 2 0),(4,.ref 4 0),(5,.ref 5 0),(6,.d (.v (.int .i64 i32)))],[(2,.cells 32 [.d (.sl (List.map TPart.e b1.ctx)),.d (.sl (List.map TEvent.e b1.l))]),(4,.cells 26 [.d (.sl (List.map TPart.e ([]:List TPart))),.d (.sl (List.map TPart.e ([]:List TPart))),.d (.sl (List.map TEvent.e ([]:List TEvent)))]),(5,.cells 26 [.d (.sl (List.map TPart.e v3)),.d (.sl (List.map TPart.e v5)),.d (.sl (List.map TEvent.e d35))])]⟩) (fun h=>?_) ?_
   ·refine wB<|wQ<|wR<|wm ?_;refine ws (fR underlying32 rfl sizeOf24 (by decide) rfl rfl)<|ws (lD isAgg24 rfl rfl rfl)<|wm ?_;obtain ⟨x36,hy37,h⟩:=iIdx h;refine ws (iX (enc:=TEvent.e) (L:=b1.l) (y:=x36) underlying24 sizeOf69 rfl rfl hy37 (fun _=>rfl))<|ws (fE underlying69 rfl sizeOf66 (by decide) rfl rfl)<|ws (lE (ys:=[_,_]) isAgg66 sizeOf66 rfl rfl rfl) ?_;obtain ⟨v38,hy39,h⟩:=iDet h;refine ws (cN (xl from2 x36.dot v38 hy39) rfl call39 rfl rfl rfl rfl)<|ws (LR.not rfl)<|wN ?_;refine wC rfl (fun hc40=>?_) (fun hc40=>?_)
    ·replace h:=iT hc40 h;refine wz (tl:=[(1,_),(2,_),(4,_),(5,_),(6,_)]) (to:=[(2,_),(4,_),(5,_)]) ?_;refine PWc.regionE [⟨[31],[31],[],[31],[],[31],[],[]⟩,⟨[32],[],[],[],[],[5],[],[]⟩,⟨[33],[],[5],[],[],[],[],[]⟩,⟨[31,34],[31],[31],[],[(31,[31])],[31],[],[]⟩,⟨[35],[],[],[],[],[2],[],[]⟩,⟨[36],[],[2],[],[],[],[],[]⟩,{ws:=[37]},{ws:=[38]},{ws:=[39]},{ws:=[40]},⟨[31,34,41],[31],[31],[],[(31,[31,34])],[],[],[]⟩,⟨[42],[],[],[],[],[5],[],[]⟩,⟨[],[5],[5],[],[],[],[],[]⟩] (by kernel_rfl) (by kernel_rfl) rfl ?_;refine PQe.stepN (fun _ U W hf=>LR.buildSlice [] yd rfl rfl (.nil) (by decide) (by decide) hf) rfl (.inl rfl) rfl ?_;refine kp (fun _ U W=>fR underlying26 rfl sizeOf24 (by decide) rfl (U rfl rfl)) ?_;refine kp (fun _ U W=>lD isAgg24 (U rfl rfl) (W rfl rfl) rfl) ?_;obtain ⟨hy41,h⟩:=zl h;refine PQe.stepA [31] (fun _ U W ha=>LR.appT (enc:=TEvent.e) (L:=([]:List TEvent)) (R:=d33) [31] yd underlying24 (U rfl rfl) (by first | (simp;done) | (simp;omega) | omega) (W rfl rfl) (Src.slT (enc:=TEvent.e) (R:=d33) (U rfl rfl) (fun _=>rfl)) (fun _=>rfl) hy41 rfl ha) rfl (.inl rfl) rfl ?_;refine kp (fun _ U W=>fR underlying32 rfl sizeOf24 (by decide) rfl (U rfl rfl)) ?_;refine kp (fun _ U W=>lD isAgg24 (U rfl rfl) (W rfl rfl) rfl)<|km ?_;obtain ⟨x42,hy43,h⟩:=iIdx h;refine kp (fun _ U W=>iX (enc:=TEvent.e) (L:=b1.l) (y:=x42) underlying24 sizeOf69 (U rfl rfl) (U rfl rfl) hy43 (fun _=>rfl)) ?_;refine kp (fun _ U W=>lE (ys:=[_,_,_,_,_,_,_]) isAgg69 sizeOf69 (U rfl rfl) rfl rfl) ?_;refine kp (fun _ U W=>LR.buildSliceD [.tmp 39] yd rfl rfl (.cons (U rfl rfl) rfl rfl<|.nil) (by decide) (by decide)) ?_;obtain ⟨hy44,h⟩:=zl h;refine PQe.stepA [31,34] (fun _ U W ha=>LR.appTD (enc:=TEvent.e) (L:=(([]:List TEvent) ++ d33)) (R:=[x42]) [31,34] hK yd underlying24 (U rfl rfl) rfl (W rfl rfl) (Src.slT (enc:=TEvent.e) (R:=[x42]) (U rfl rfl) (fun _=>rfl)) (fun _=>rfl) hy44 rfl ha) rfl (.inl rfl) rfl ?_;refine kp (fun _ U W=>fR underlying26 rfl sizeOf24 (by decide) rfl (U rfl rfl)) ?_;refine ks (fun _ U W=>sB (ns:=[_,_,_]) sizeOf24 (U rfl rfl) (U rfl rfl) rfl rfl (W rfl rfl) rfl rfl)<|PQe.nil ?_;exact ⟨((([]:List TEvent) ++ d33) ++ [x42]),(),h,sP⟩
    ·replace h:=iF hc40 h;refine wK ?_;exact ⟨d33,(),h,sP⟩
   ·rintro d35 _ h;refine wR<|wm ?_;refine ws (LR.addW rfl rfl)<|wa ?_;refine wN ?_;exact ⟨((IntKind.i64.wrap (i32 + 1)),d35),(),h,sP⟩
  ·replace h:=iF hc34 h;refine wZ ?_;exact ⟨d33,(),h,sP⟩
 ·rintro d7 _ h;refine wQ<|wR<|ws (lA (ps:=[_,_,_]) isAgg26 sizeOf26 rfl rfl rfl rfl)<|ws (sB (ns:=[_,_,_]) sizeOf26 rfl rfl rfl rfl rfl rfl rfl)<|wN<|wX ?_;cases h;exact ⟨.inr rfl,_,.cons (.agg isAgg26 sizeOf26 rfl rfl rfl rfl)<|.nil,rfl⟩

theorem Uw (a1:List TPart) (b2:List TPart) (r0:Bool) (h:(We a1 b2).wp (· = r0)):PFun prog 103 [.d (.sl (List.map TPart.e a1)),.d (.sl (List.map TPart.e b2))] (.d (.v (.bool r0))):=by
 refine fI (sl:=[(0,_),(1,_)]) func103 rfl ntmps103 rfl rfl ?_;intro ctx hK;refine wQ<|wR<|wa ?_;refine wN<|wQ<|wR<|wm ?_;obtain ⟨v3,hy4,h⟩:=iDet h;refine ws (LR.rowN (ww a1 v3 hy4) rfl call12 rfl rfl rfl rfl)<|wm ?_;obtain ⟨v5,hy6,h⟩:=iDet h;refine ws (LR.rowN (ww b2 v5 hy6) rfl call12 rfl rfl rfl rfl) ?_;obtain ⟨v7,hy8,h⟩:=iDet h;refine PWl.frz [6] hK (.cons rfl<|.nil) rfl (by simp) ?_;refine PWl.frz [8] hK (.cons rfl<|.nil) rfl (by simp) ?_;refine ws (cN (Ut v3 v5 v7 hy8) rfl call21 rfl rfl rfl rfl)<|wa ?_;refine wN<|wX ?_;cases h;exact ⟨.inr rfl,_,.cons (.tmp rfl rfl)<|.nil,rfl⟩

theorem Ux (a1:TDelta) (b2:TDelta) (r0:Bool) (h:(Wf a1 b2).wp (· = r0)):PFun prog 43 [.agg (List.map .d (TDelta.e a1)),.agg (List.map .d (TDelta.e b2))] (.d (.v (.bool r0))):=by
 refine fI (sl:=[(0,_),(1,_)]) func43 rfl ntmps43 rfl rfl ?_;intro ctx hK;refine wQ<|wR<|ws (LR.box rfl rfl rfl rfl)<|ws (LR.box rfl rfl rfl rfl)<|wa ?_;refine wN<|wQ ?_;refine wJ (zG h) (fun (v3:Bool) (_:Unit)=>⟨24,[(4,.d (.v (.bool v3)))],[]⟩) (fun h=>?_) ?_
 ·refine wR<|ws (fR underlying26 rfl sizeOf23 (by decide) rfl rfl)<|ws (lD isAgg23 rfl rfl rfl)<|ws (fR underlying26 rfl sizeOf23 (by decide) rfl rfl)<|ws (lD isAgg23 rfl rfl rfl) ?_;obtain ⟨v4,hy5,h⟩:=iDet h;refine ws (cN (Uw a1.from_ b2.from_ v4 hy5) rfl call103 rfl rfl rfl rfl)<|wm ?_;refine wL (d:=10) rfl (fun hg6=>?_) (fun hg6=>?_)
  ·replace h:=iT hg6 h;refine wt (fR underlying26 rfl sizeOf23 (by decide) rfl rfl)<|wt (lD isAgg23 rfl rfl rfl)<|wt (fR underlying26 rfl sizeOf23 (by decide) rfl rfl)<|wt (lD isAgg23 rfl rfl rfl) ?_;obtain ⟨v7,hy8,h⟩:=iDet h;refine wt (cN (Uw a1.to_ b2.to_ v7 hy8) rfl call103 rfl rfl rfl rfl)<|ws (pT rfl rfl)<|wm ?_;refine wL (d:=17) rfl (fun hg9=>?_) (fun hg9=>?_)
   ·replace h:=iT hg9 h;refine wt (fR underlying26 rfl sizeOf24 (by decide) rfl rfl)<|wy (tl:=[(3,_),(4,_),(17,_),(18,_)]) (to:=[(2,_),(3,_)]) ?_;refine wt (lD isAgg24 rfl rfl rfl)<|wt (fR underlying26 rfl sizeOf24 (by decide) rfl rfl)<|wt (lD isAgg24 rfl rfl rfl) ?_;obtain ⟨v10,hy11,h⟩:=iDet h;refine wt (cN (XO a1.events b2.events v10 hy11) rfl call24 rfl rfl rfl rfl)<|ws (pT rfl rfl)<|wa ?_;refine wN ?_;exact ⟨v10,(),h,sP⟩
   ·replace h:=iF hg9 h;refine wf<|wy (tl:=[(3,_),(4,_),(17,_),(18,_)]) (to:=[(3,_)]) ?_;refine wf<|wf<|wf<|wf<|ws (pF rfl rfl)<|wa ?_;refine wN ?_;exact ⟨false,(),h,sP⟩
  ·replace h:=iF hg6 h;refine wf<|wf<|wf<|wf<|wf<|ws (pF rfl rfl)<|wm ?_;refine wf<|wf<|wy (tl:=[(3,_),(4,_),(17,_),(19,_)]) (to:=[(3,_)]) ?_;refine wf<|wf<|wf<|ws (pF rfl rfl)<|wa ?_;refine wN ?_;exact ⟨false,(),h,sP⟩
 ·rintro v3 _ h;refine wX ?_;cases h;exact ⟨.inr rfl,_,.cons (.tmp rfl rfl)<|.nil,rfl⟩


theorem Wr (a1:List TPart) (b2:List TPart) (r0:Bool) (h:(ZH a1 b2).wp (· = r0)):PFun prog 105 [.d (.sl (List.map TPart.e a1)),.d (.sl (List.map TPart.e b2))] (.d (.v (.bool r0))):=by
 refine fI (sl:=[(0,_),(1,_)]) func105 rfl ntmps105 rfl rfl ?_;intro ctx hK;refine wQ<|wR<|wa ?_;refine wN<|wQ<|wR<|wm ?_;refine wm ?_;obtain ⟨v3,hy4,h⟩:=iDet h;refine ws (LR.rowN (QR a1 b2 v3 hy4) rfl call78 rfl rfl rfl rfl)<|ws (LR.lenRow underlying23 rfl)<|ws (eQ rfl rfl)<|wa ?_;refine wN<|wX ?_;cases h;exact ⟨.inr rfl,_,.cons (.tmp rfl rfl)<|.nil,rfl⟩

theorem WA (d1:TDelta) (r0:Bool) (h:(XI d1).wp (· = r0)):PFun prog 46 [.agg (List.map .d (TDelta.e d1))] (.d (.v (.bool r0))):=by
 refine fI (sl:=[(0,_)]) func46 rfl ntmps46 rfl rfl ?_;intro ctx hK;refine wQ<|wR<|ws (LR.box rfl rfl rfl rfl)<|wa ?_;refine wN<|wQ<|wQ ?_;refine wJ (zG h) (fun (v2:Bool) (_:Unit)=>⟨88,[(1,.ref 1 0),(28,.d (.v (.bool v2)))],[(1,.cells 26 [.d (.sl (List.map TPart.e d1.from_)),.d (.sl (List.map TPart.e d1.to_)),.d (.sl (List.map TEvent.e d1.events))])]⟩) (fun h=>?_) ?_
 ·refine wR<|ws (fR underlying26 rfl sizeOf23 (by decide) rfl rfl)<|ws (lD isAgg23 rfl rfl rfl) ?_;obtain ⟨v3,hy4,h⟩:=iDet h;refine ws (cN (Zn d1.from_ v3 hy4) rfl call44 rfl rfl rfl rfl)<|ws (LR.not rfl)<|wm ?_;refine wL (d:=9) rfl (fun hg5=>?_) (fun hg5=>?_)
  ·replace h:=iT hg5 h;refine wf<|wf<|wf<|wf<|ws (pT rfl rfl)<|wm ?_;refine wf<|wf<|wf<|wf<|wf<|wf<|wy (tl:=[(1,_),(15,_),(21,_)]) (to:=[(1,_)]) ?_;refine ws (pT rfl rfl)<|wm ?_;refine wf<|wf<|wf<|wf<|ws (pT rfl rfl)<|wN ?_;exact ⟨true,(),h,sP⟩
  ·replace h:=iF hg5 h;refine wt (fR underlying26 rfl sizeOf23 (by decide) rfl rfl)<|wt (lD isAgg23 rfl rfl rfl) ?_;obtain ⟨v6,hy7,h⟩:=iDet h;refine wt (cN (Zn d1.to_ v6 hy7) rfl call44 rfl rfl rfl rfl)<|wt (LR.not rfl)<|ws (pF rfl rfl)<|wm ?_;refine wL (d:=15) rfl (fun hg8=>?_) (fun hg8=>?_)
   ·replace h:=iT hg8 h;refine wf<|wf<|wf<|wf<|wf<|wy (tl:=[(1,_),(15,_),(20,_)]) (to:=[(1,_)]) ?_;refine wf<|ws (pT rfl rfl)<|wm ?_;refine wf<|wf<|wf<|wf<|ws (pT rfl rfl)<|wN ?_;exact ⟨true,(),h,sP⟩
   ·replace h:=iF hg8 h;refine wt (fR underlying26 rfl sizeOf23 (by decide) rfl rfl)<|wt (lD isAgg23 rfl rfl rfl)<|wt (fR underlying26 rfl sizeOf23 (by decide) rfl rfl)<|wt (lD isAgg23 rfl rfl rfl) ?_;obtain ⟨v9,hy10,h⟩:=iDet h;refine wt (cN (Wr d1.from_ d1.to_ v9 hy10) rfl call105 rfl rfl rfl rfl)<|wy (tl:=[(1,_),(15,_),(20,_)]) (to:=[(1,_)]) ?_;refine wt (LR.not rfl)<|ws (pF rfl rfl)<|wm ?_;refine wL (d:=23) rfl (fun hg11=>?_) (fun hg11=>?_)
    ·replace h:=iT hg11 h;refine wf<|wf<|wf<|wf<|ws (pT rfl rfl)<|wN ?_;exact ⟨true,(),h,sP⟩
    ·replace h:=iF hg11 h;refine wt (fR underlying26 rfl sizeOf24 (by decide) rfl rfl)<|wt (lD isAgg24 rfl rfl rfl)<|wt (lM (enc:=TEvent.e) (L:=d1.events) underlying24 rfl)<|wt (LR.gtr rfl rfl)<|ws (pF rfl rfl)<|wN ?_;exact ⟨(decide (4096 < (List.length d1.events:Int))),(),h,sP⟩
 ·rintro v2 _ h;refine wC rfl (fun hc12=>?_) (fun hc12=>?_)
  ·replace h:=iT hc12 h;refine wQ<|wR<|wa ?_;refine wN<|wX ?_;cases h;exact ⟨.inr rfl,_,.cons (.tmp rfl rfl)<|.nil,rfl⟩
  ·replace h:=iF hc12 h;refine wK<|wQ<|wQ<|wR<|wa ?_;refine wN ?_;refine PWc.jnX (zG h) (fun (_:Unit) (_:Unit)=>⟨88,[(1,.ref 1 0)],[(1,.cells 26 [.d (.sl (List.map TPart.e d1.from_)),.d (.sl (List.map TPart.e d1.to_)),.d (.sl (List.map TEvent.e d1.events))])]⟩) (fun h=>?_) ?_
   ·refine wB<|wM (fun (i66:Int) (_:Unit)=>⟨88,[(1,.ref 1 0),(3,.d (.v (.int .i64 i66)))],[(1,.cells 26 [.d (.sl (List.map TPart.e d1.from_)),.d (.sl (List.map TPart.e d1.to_)),.d (.sl (List.map TEvent.e d1.events))])]⟩) () h (sP) ?_;rintro N i66 _ h;refine wQ<|wQ<|wR<|wm ?_;refine ws (fR underlying26 rfl sizeOf24 (by decide) rfl rfl)<|ws (lD isAgg24 rfl rfl rfl)<|ws (lM (enc:=TEvent.e) (L:=d1.events) underlying24 rfl)<|ws (LR.lss rfl rfl)<|wN ?_;refine wC rfl (fun hc67=>?_) (fun hc67=>?_)
    ·replace h:=iT hc67 h;refine wK<|wQ<|wB<|wQ<|wR<|ws (fR underlying26 rfl sizeOf24 (by decide) rfl rfl)<|ws (lD isAgg24 rfl rfl rfl)<|wm ?_;obtain ⟨x68,hy69,h⟩:=iIdx h;refine ws (iX (enc:=TEvent.e) (L:=d1.events) (y:=x68) underlying24 sizeOf69 rfl rfl hy69 (fun _=>rfl))<|ws (lE (ys:=[_,_,_,_,_,_,_]) isAgg69 sizeOf69 rfl rfl rfl)<|ws (LR.allocZ (cs:=[_,_,_,_,_,_,_]) zeroValue69 rfl rfl rfl rfl)<|ws (sB (ns:=[_,_,_,_,_,_,_]) sizeOf69 rfl rfl rfl rfl rfl rfl rfl)<|wN<|wQ ?_;refine wJ (zG h) (fun (v70:Bool) (_:Unit)=>⟨88,[(1,.ref 1 0),(3,.d (.v (.int .i64 i66))),(79,.d (.v (.bool v70)))],[(1,.cells 26 [.d (.sl (List.map TPart.e d1.from_)),.d (.sl (List.map TPart.e d1.to_)),.d (.sl (List.map TEvent.e d1.events))])]⟩) (fun h=>?_) ?_
     ·refine wD (by kernel_rfl) (by kernel_rfl) ?_;refine qs (fun _ U W=>lA (ps:=[_,_,_,_,_,_,_]) isAgg69 sizeOf69 (U rfl rfl) (W rfl) rfl rfl) ?_;obtain ⟨v71,hy72,h⟩:=iDet h;refine qs (fun _ U W=>cN (Xx x68 v71 hy72) (U rfl rfl) call86 (evsE U rfl rfl) rfl rfl rfl) ?_;refine qs (fun _ U W=>LR.not (U rfl rfl))<|qm ?_;refine PQl.split (d:=44) rfl (fun hg73=>?_) (fun hg73=>?_)
      ·replace h:=iT hg73 h;refine kF<|kF<|kF<|kU<|kU<|kU<|kU<|kU<|kU ?_;refine kU<|kU<|kU<|kU<|kU<|kF ?_;refine qs (fun _ U W=>pT (U rfl rfl) (U rfl rfl))<|qm ?_;refine kF<|kF<|kK (tl:=[(1,_),(3,_),(4,_),(45,_),(46,_),(47,_),(48,_),(49,_),(50,_),(51,_),(52,_),(53,_),(54,_),(55,_),(56,_),(57,_),(58,_),(59,_),(61,_),(62,_),(63,_)]) ?_;refine kF<|kF<|kF ?_;refine qs (fun _ U W=>pT (U rfl rfl) (U rfl rfl))<|qm ?_;refine kF<|kF<|kF<|kF<|kU<|kU<|kU<|kU<|kU ?_;refine kF ?_;refine qs (fun _ U W=>pT (U rfl rfl) (U rfl rfl))<|qN ?_;exact ⟨true,(),h,sP⟩
      ·replace h:=iF hg73 h;refine qt (fun _ U W=>mV (U rfl rfl)) ?_;refine qt (fun _ U W=>LR.gtr (U rfl rfl) (U rfl rfl)) ?_;refine qt (fun _ U W=>mV (U rfl rfl)) ?_;refine PQl.split (d:=47) rfl (fun hg74=>?_) (fun hg74=>?_)
       ·replace h:=iT hg74 h;refine qt (fun _ U W=>fR underlying26 rfl sizeOf24 (by decide) rfl (U rfl rfl)) ?_;refine qt (fun _ U W=>lD isAgg24 (U rfl rfl) (W rfl) rfl) ?_;refine qt (fun _ U W=>mV (U rfl rfl)) ?_;refine qt (fun _ U W=>LR.subW (U rfl rfl) (U rfl rfl)) ?_;obtain ⟨x75,hy76,h⟩:=iIdx h;refine qt (fun _ U W=>iX (enc:=TEvent.e) (L:=d1.events) (y:=x75) underlying24 sizeOf69 (U rfl rfl) (U rfl rfl) hy76 (fun _=>rfl)) ?_;refine qt (fun _ U W=>fE underlying69 rfl sizeOf66 (by decide) rfl (U rfl rfl)) ?_;refine qt (fun _ U W=>lE (ys:=[_,_]) isAgg66 sizeOf66 (U rfl rfl) rfl rfl) ?_;refine qt (fun _ U W=>fR underlying69 rfl sizeOf66 (by decide) rfl (U rfl rfl)) ?_;refine qt (fun _ U W=>lA (ps:=[_,_]) isAgg66 sizeOf66 (U rfl rfl) (W rfl) rfl rfl) ?_;obtain ⟨v77,hy78,h⟩:=iDet h;refine qt (fun _ U W=>cN (ZJ x75.dot x68.dot v77 hy78) (U rfl rfl) call87 (evsE U rfl rfl) rfl rfl rfl) ?_;refine qt (fun _ U W=>LR.geq (U rfl rfl) (U rfl rfl)) ?_;refine qt (fun _ U W=>pT (U rfl rfl) (U rfl rfl)) ?_;refine qs (fun _ U W=>pF (U rfl rfl) (U rfl rfl))<|qm ?_;refine PQl.split (d:=61) rfl (fun hg79=>?_) (fun hg79=>?_)
        ·replace h:=iT hg79 h;refine kK (tl:=[(1,_),(3,_),(4,_),(45,_),(46,_),(47,_),(48,_),(49,_),(50,_),(51,_),(52,_),(53,_),(54,_),(55,_),(56,_),(57,_),(58,_),(59,_),(61,_)]) ?_;refine kF<|kF<|kF<|kF<|kF ?_;refine qs (fun _ U W=>pT (U rfl rfl) (U rfl rfl))<|qm ?_;refine kF<|kF<|kF<|kF<|kU<|kU<|kU<|kU<|kU ?_;refine kF ?_;refine qs (fun _ U W=>pT (U rfl rfl) (U rfl rfl))<|qN ?_;exact ⟨true,(),h,sP⟩
        ·replace h:=iF hg79 h;refine kK (tl:=[(1,_),(3,_),(4,_),(45,_),(46,_),(47,_),(48,_),(49,_),(50,_),(51,_),(52,_),(53,_),(54,_),(55,_),(56,_),(57,_),(58,_),(59,_),(61,_)]) ?_;refine qt (fun _ U W=>fR underlying26 rfl sizeOf23 (by decide) rfl (U rfl rfl)) ?_;refine qt (fun _ U W=>lD isAgg23 (U rfl rfl) (W rfl) rfl) ?_;refine qt (fun _ U W=>fR underlying69 rfl sizeOf66 (by decide) rfl (U rfl rfl)) ?_;refine qt (fun _ U W=>lA (ps:=[_,_]) isAgg66 sizeOf66 (U rfl rfl) (W rfl) rfl rfl) ?_;obtain ⟨v80,hy81,h⟩:=iDet h;refine qt (fun _ U W=>cN (xl d1.from_ x68.dot v80 hy81) (U rfl rfl) call39 (evsE U rfl rfl) rfl rfl rfl) ?_;refine qs (fun _ U W=>pF (U rfl rfl) (U rfl rfl))<|qm ?_;refine PQl.split (d:=68) rfl (fun hg82=>?_) (fun hg82=>?_)
         ·replace h:=iT hg82 h;refine kF<|kF<|kF<|kF<|kU<|kU<|kU<|kU<|kU ?_;refine kF ?_;refine qs (fun _ U W=>pT (U rfl rfl) (U rfl rfl))<|qN ?_;exact ⟨true,(),h,sP⟩
         ·replace h:=iF hg82 h;refine qt (fun _ U W=>fR underlying69 rfl sizeOf5 (by decide) rfl (U rfl rfl)) ?_;refine qt (fun _ U W=>lD isAgg5 (U rfl rfl) (W rfl) rfl) ?_;refine qt (fun _ U W=>eQ (U rfl rfl) (U rfl rfl)) ?_;refine qt (fun _ U W=>mV (U rfl rfl)) ?_;refine PQl.split (d:=72) rfl (fun hg83=>?_) (fun hg83=>?_)
          ·replace h:=iT hg83 h;refine qt (fun _ U W=>fR underlying26 rfl sizeOf24 (by decide) rfl (U rfl rfl)) ?_;refine qt (fun _ U W=>lD isAgg24 (U rfl rfl) (W rfl) rfl) ?_;refine qt (fun _ U W=>fR underlying69 rfl sizeOf66 (by decide) rfl (U rfl rfl)) ?_;refine qt (fun _ U W=>lA (ps:=[_,_]) isAgg66 sizeOf66 (U rfl rfl) (W rfl) rfl rfl) ?_;obtain ⟨v84,hy85,h⟩:=iDet h;refine qt (fun _ U W=>cN (Uv d1.events x68.dot v84 hy85) (U rfl rfl) call88 (evsE U rfl rfl) rfl rfl rfl) ?_;refine qt (fun _ U W=>pT (U rfl rfl) (U rfl rfl)) ?_;refine qs (fun _ U W=>pF (U rfl rfl) (U rfl rfl))<|qN ?_;exact ⟨v84,(),h,sP⟩
          ·replace h:=iF hg83 h;refine kF<|kF<|kF<|kF<|kF ?_;refine qt (fun _ U W=>pF (U rfl rfl) (U rfl rfl)) ?_;refine qs (fun _ U W=>pF (U rfl rfl) (U rfl rfl))<|qN ?_;exact ⟨false,(),h,sP⟩
       ·replace h:=iF hg74 h;refine kF<|kF<|kF<|kF<|kF<|kF<|kF<|kF<|kF ?_;refine kF<|kF ?_;refine qt (fun _ U W=>pF (U rfl rfl) (U rfl rfl)) ?_;refine qs (fun _ U W=>pF (U rfl rfl) (U rfl rfl))<|qm ?_;refine qt (fun _ U W=>fR underlying26 rfl sizeOf23 (by decide) rfl (U rfl rfl))<|kK (tl:=[(1,_),(3,_),(4,_),(45,_),(46,_),(47,_),(48,_),(49,_),(50,_),(51,_),(52,_),(53,_),(54,_),(55,_),(56,_),(57,_),(58,_),(59,_),(61,_),(62,_)]) ?_;refine qt (fun _ U W=>lD isAgg23 (U rfl rfl) (W rfl) rfl) ?_;refine qt (fun _ U W=>fR underlying69 rfl sizeOf66 (by decide) rfl (U rfl rfl)) ?_;refine qt (fun _ U W=>lA (ps:=[_,_]) isAgg66 sizeOf66 (U rfl rfl) (W rfl) rfl rfl) ?_;obtain ⟨v86,hy87,h⟩:=iDet h;refine qt (fun _ U W=>cN (xl d1.from_ x68.dot v86 hy87) (U rfl rfl) call39 (evsE U rfl rfl) rfl rfl rfl) ?_;refine qs (fun _ U W=>pF (U rfl rfl) (U rfl rfl))<|qm ?_;refine PQl.split (d:=68) rfl (fun hg88=>?_) (fun hg88=>?_)
        ·replace h:=iT hg88 h;refine kF<|kF<|kF<|kF<|kU<|kU<|kU<|kU<|kU ?_;refine kF ?_;refine qs (fun _ U W=>pT (U rfl rfl) (U rfl rfl))<|qN ?_;exact ⟨true,(),h,sP⟩
        ·replace h:=iF hg88 h;refine qt (fun _ U W=>fR underlying69 rfl sizeOf5 (by decide) rfl (U rfl rfl)) ?_;refine qt (fun _ U W=>lD isAgg5 (U rfl rfl) (W rfl) rfl) ?_;refine qt (fun _ U W=>eQ (U rfl rfl) (U rfl rfl)) ?_;refine qt (fun _ U W=>mV (U rfl rfl)) ?_;refine PQl.split (d:=72) rfl (fun hg89=>?_) (fun hg89=>?_)
         ·replace h:=iT hg89 h;refine qt (fun _ U W=>fR underlying26 rfl sizeOf24 (by decide) rfl (U rfl rfl)) ?_;refine qt (fun _ U W=>lD isAgg24 (U rfl rfl) (W rfl) rfl) ?_;refine qt (fun _ U W=>fR underlying69 rfl sizeOf66 (by decide) rfl (U rfl rfl)) ?_;refine qt (fun _ U W=>lA (ps:=[_,_]) isAgg66 sizeOf66 (U rfl rfl) (W rfl) rfl rfl) ?_;obtain ⟨v90,hy91,h⟩:=iDet h;refine qt (fun _ U W=>cN (Uv d1.events x68.dot v90 hy91) (U rfl rfl) call88 (evsE U rfl rfl) rfl rfl rfl) ?_;refine qt (fun _ U W=>pT (U rfl rfl) (U rfl rfl)) ?_;refine qs (fun _ U W=>pF (U rfl rfl) (U rfl rfl))<|qN ?_;exact ⟨v90,(),h,sP⟩
         ·replace h:=iF hg89 h;refine kF<|kF<|kF<|kF<|kF ?_;refine qt (fun _ U W=>pF (U rfl rfl) (U rfl rfl)) ?_;refine qs (fun _ U W=>pF (U rfl rfl) (U rfl rfl))<|qN ?_;exact ⟨false,(),h,sP⟩
     ·rintro v70 _ h;refine wC rfl (fun hc92=>?_) (fun hc92=>?_)
      ·replace h:=iT hc92 h;refine wQ<|wR<|wa ?_;refine wN<|wX ?_;cases h;exact ⟨.inr rfl,_,.cons (.tmp rfl rfl)<|.nil,rfl⟩
      ·replace h:=iF hc92 h;refine wK<|wR<|wm ?_;refine ws (LR.addW rfl rfl)<|wa ?_;refine wN ?_;exact ⟨(IntKind.i64.wrap (i66 + 1)),(),h,sP⟩
    ·replace h:=iF hc67 h;refine wZ ?_;exact ⟨(),(),h,sP⟩
   ·rintro _ _ h;refine wQ<|wD (by kernel_rfl) (by kernel_rfl) ?_;refine qs (fun _ U W=>fR underlying26 rfl sizeOf24 (by decide) rfl (U rfl rfl)) ?_;refine qs (fun _ U W=>lD isAgg24 (U rfl rfl) (W rfl) rfl) ?_;obtain ⟨v93,hy94,h⟩:=iDet h;refine qs (fun _ U W=>cN (Zk d1.events v93 hy94) (U rfl rfl) call90 (evsE U rfl rfl) rfl rfl rfl) ?_;refine qs (fun _ U W=>fR underlying26 rfl sizeOf23 (by decide) rfl (U rfl rfl)) ?_;refine qs (fun _ U W=>lD isAgg23 (U rfl rfl) (W rfl) rfl) ?_;obtain ⟨v95,hy96,h⟩:=iDet h;refine qs (fun _ U W=>cN (zaa v93 d1.to_ v95 hy96) (U rfl rfl) call89 (evsE U rfl rfl) rfl rfl rfl) ?_;refine qs (fun _ U W=>lM (enc:=TDot.e) (L:=v95) underlying67 (U rfl rfl)) ?_;refine qs (fun _ U W=>eQ (U rfl rfl) (U rfl rfl)) ?_;refine qs (fun _ U W=>aS (U rfl rfl))<|qN<|wX ?_;cases h;exact ⟨.inr rfl,_,.cons (.tmp rfl rfl)<|.nil,rfl⟩

theorem Ju (a1:TDelta) (b2:TDelta) (r0:Bool) (h:(XJ a1 b2).wp (· = r0)):PFun prog 47 [.agg (List.map .d (TDelta.e a1)),.agg (List.map .d (TDelta.e b2))] (.d (.v (.bool r0))):=by
 refine fI (sl:=[(0,_),(1,_)]) func47 rfl ntmps47 rfl rfl ?_;intro ctx hK;refine wQ<|wR<|ws (LR.box rfl rfl rfl rfl)<|ws (LR.box rfl rfl rfl rfl)<|wa ?_;refine wN<|wQ ?_;refine wJ (zG h) (fun (v3:Bool) (_:Unit)=>⟨24,[(4,.d (.v (.bool v3)))],[]⟩) (fun h=>?_) ?_
 ·refine wR<|ws (fR underlying26 rfl sizeOf23 (by decide) rfl rfl)<|ws (lD isAgg23 rfl rfl rfl)<|ws (fR underlying26 rfl sizeOf23 (by decide) rfl rfl)<|ws (lD isAgg23 rfl rfl rfl) ?_;obtain ⟨v4,hy5,h⟩:=iDet h;refine ws (cN (Xz a1.from_ b2.from_ v4 hy5) rfl call96 rfl rfl rfl rfl)<|wm ?_;refine wL (d:=10) rfl (fun hg6=>?_) (fun hg6=>?_)
  ·replace h:=iT hg6 h;refine wt (fR underlying26 rfl sizeOf23 (by decide) rfl rfl)<|wt (lD isAgg23 rfl rfl rfl)<|wt (fR underlying26 rfl sizeOf23 (by decide) rfl rfl)<|wt (lD isAgg23 rfl rfl rfl) ?_;obtain ⟨v7,hy8,h⟩:=iDet h;refine wt (cN (Xz a1.to_ b2.to_ v7 hy8) rfl call96 rfl rfl rfl rfl)<|ws (pT rfl rfl)<|wm ?_;refine wL (d:=17) rfl (fun hg9=>?_) (fun hg9=>?_)
   ·replace h:=iT hg9 h;refine wt (fR underlying26 rfl sizeOf24 (by decide) rfl rfl)<|wy (tl:=[(3,_),(4,_),(17,_),(18,_)]) (to:=[(2,_),(3,_)]) ?_;refine wt (lD isAgg24 rfl rfl rfl)<|wt (fR underlying26 rfl sizeOf24 (by decide) rfl rfl)<|wt (lD isAgg24 rfl rfl rfl) ?_;obtain ⟨v10,hy11,h⟩:=iDet h;refine wt (cN (Vh a1.events b2.events v10 hy11) rfl call97 rfl rfl rfl rfl)<|ws (pT rfl rfl)<|wa ?_;refine wN ?_;exact ⟨v10,(),h,sP⟩
   ·replace h:=iF hg9 h;refine wf<|wy (tl:=[(3,_),(4,_),(17,_),(18,_)]) (to:=[(3,_)]) ?_;refine wf<|wf<|wf<|wf<|ws (pF rfl rfl)<|wa ?_;refine wN ?_;exact ⟨false,(),h,sP⟩
  ·replace h:=iF hg6 h;refine wf<|wf<|wf<|wf<|wf<|ws (pF rfl rfl)<|wm ?_;refine wf<|wf<|wy (tl:=[(3,_),(4,_),(17,_),(19,_)]) (to:=[(3,_)]) ?_;refine wf<|wf<|wf<|ws (pF rfl rfl)<|wa ?_;refine wN ?_;exact ⟨false,(),h,sP⟩
 ·rintro v3 _ h;refine wX ?_;cases h;exact ⟨.inr rfl,_,.cons (.tmp rfl rfl)<|.nil,rfl⟩

theorem Jv (b1:R18Book) (l2:List TEvent) (r0:R18Book) (h:(VL b1 l2).wp (· = r0)):PFun prog 106 [.agg (List.map .d (R18Book.e b1)),.d (.sl (List.map TEvent.e l2))] (.agg (List.map .d (R18Book.e r0))):=by
 refine fI (sl:=[(0,_),(1,_)]) func106 rfl ntmps106 rfl rfl ?_;intro ctx hK;refine wQ<|wR<|ws (LR.box rfl rfl rfl rfl)<|ws (LR.allocZ (cs:=[_,_]) zeroValue32 rfl rfl rfl rfl)<|wN<|wQ<|wQ<|wR<|wa ?_;refine wN ?_;refine wJ (zG h) (fun (⟨b3,b4⟩:List TPart × List TEvent) (_:Unit)=>⟨27,[(2,.ref 2 0),(4,.ref 4 0)],[(2,.cells 32 [.d (.sl (List.map TPart.e b3)),.d (.sl (List.map TEvent.e b4))]),(4,.cells 32 [.d (.sl (List.map TPart.e ([]:List TPart))),.d (.sl (List.map TEvent.e ([]:List TEvent)))])]⟩) (fun h=>?_) ?_
 ·refine wB<|wM (fun (⟨i24,b25,b26⟩:Int × List TPart × List TEvent) (_:Unit)=>⟨27,[(1,.d (.sl (List.map TEvent.e l2))),(2,.ref 2 0),(4,.ref 4 0),(5,.d (.v (.int .i64 i24)))],[(2,.cells 32 [.d (.sl (List.map TPart.e b25)),.d (.sl (List.map TEvent.e b26))]),(4,.cells 32 [.d (.sl (List.map TPart.e ([]:List TPart))),.d (.sl (List.map TEvent.e ([]:List TEvent)))])]⟩) () h (sP) ?_;rintro N ⟨i24,b25,b26⟩ _ h;refine wQ<|wQ<|wR<|wm ?_;refine wm ?_;refine ws (lM (enc:=TEvent.e) (L:=l2) underlying24 rfl)<|ws (LR.lss rfl rfl)<|wN ?_;refine wC rfl (fun hc27=>?_) (fun hc27=>?_)
  ·replace h:=iT hc27 h;refine wK<|wQ ?_;refine wJ (zG h) (fun (⟨b28,b29⟩:List TPart × List TEvent) (_:Unit)=>⟨27,[(1,.d (.sl (List.map TEvent.e l2))),(2,.ref 2 0),(4,.ref 4 0),(5,.d (.v (.int .i64 i24)))],[(2,.cells 32 [.d (.sl (List.map TPart.e b28)),.d (.sl (List.map TEvent.e b29))]),(4,.cells 32 [.d (.sl (List.map TPart.e ([]:List TPart))),.d (.sl (List.map TEvent.e ([]:List TEvent)))])]⟩) (fun h=>?_) ?_
   ·refine wB<|wQ<|wz (tl:=[(1,_),(2,_),(4,_),(5,_)]) (to:=[(2,_),(4,_)]) ?_;refine PWc.regionE [⟨[15],[],[2],[],[],[],[],[]⟩,{ws:=[16]},{ws:=[17]},{ws:=[18]},{ws:=[19]},{ws:=[20]},{ws:=[14]},{ws:=[21]},{ws:=[22]},⟨[6],[6],[],[6],[],[6],[],[]⟩,⟨[],[6],[6],[],[],[],[],[]⟩,{ws:=[7]}] (by kernel_rfl) (by kernel_rfl) rfl ?_;refine kp (fun _ U W=>lA (ps:=[_,_]) isAgg32 sizeOf32 (U rfl rfl) (W rfl rfl) rfl rfl)<|km ?_;refine km ?_;obtain ⟨x30,hy31,h⟩:=iIdx h;refine kp (fun _ U W=>iX (enc:=TEvent.e) (L:=l2) (y:=x30) underlying24 sizeOf69 (U rfl rfl) (U rfl rfl) hy31 (fun _=>rfl)) ?_;refine kp (fun _ U W=>lE (ys:=[_,_,_,_,_,_,_]) isAgg69 sizeOf69 (U rfl rfl) rfl rfl) ?_;obtain ⟨v32,hy33,h⟩:=iDet h;refine kp (fun _ U W=>cN (VQ (⟨b25,b26⟩:R18Book) x30 v32 hy33) (U rfl rfl) call50 (evsE U rfl rfl) rfl rfl rfl)<|km ?_;refine kp (fun _ U W=>LR.extract (U rfl rfl) rfl) ?_;refine kp (fun _ U W=>LR.extract (U rfl rfl) rfl) ?_;refine PQe.stepN (fun _ U W hf=>LR.allocZ (cs:=[_,_]) zeroValue32 rfl rfl rfl hf) rfl (.inl rfl) rfl ?_;refine ks (fun _ U W=>sB (ns:=[_,_]) sizeOf32 (U rfl rfl) (U rfl rfl) rfl rfl (W rfl rfl) rfl rfl) ?_;refine kp (fun _ U W=>aS (U rfl rfl))<|PQe.nil<|wQ<|wR<|wm ?_;refine ws (eQ rfl rfl)<|wN ?_;refine wC rfl (fun hc34=>?_) (fun hc34=>?_)
    ·replace h:=iT hc34 h;refine wR<|ws (lA (ps:=[_,_]) isAgg32 sizeOf32 rfl rfl rfl rfl)<|ws (sB (ns:=[_,_]) sizeOf32 rfl rfl rfl rfl rfl rfl rfl)<|wN ?_;exact ⟨(v32.1.ctx,v32.1.l),(),h,sP⟩
    ·replace h:=iF hc34 h;refine wK ?_;exact ⟨(b25,b26),(),h,sP⟩
   ·rintro ⟨b28,b29⟩ _ h;refine wR<|wm ?_;refine ws (LR.addW rfl rfl)<|wa ?_;refine wN ?_;exact ⟨((IntKind.i64.wrap (i24 + 1)),b28,b29),(),h,sP⟩
  ·replace h:=iF hc27 h;refine wZ ?_;exact ⟨(b25,b26),(),h,sP⟩
 ·rintro ⟨b3,b4⟩ _ h;refine wQ<|wR<|ws (lA (ps:=[_,_]) isAgg32 sizeOf32 rfl rfl rfl rfl)<|ws (sB (ns:=[_,_]) sizeOf32 rfl rfl rfl rfl rfl rfl rfl)<|wN<|wX ?_;cases h;exact ⟨.inr rfl,_,.cons (.agg isAgg32 sizeOf32 rfl rfl rfl rfl)<|.nil,rfl⟩

theorem QU (b1:R18Book) (d2:TDelta) (r0:R18Book × Int) (h:(Wg b1 d2).wp (· = r0)):PFun prog 48 [.agg (List.map .d (R18Book.e b1)),.agg (List.map .d (TDelta.e d2))] (.tup [.agg (List.map .d (R18Book.e r0.1)),.d (.v (.int .i64 r0.2))]):=by
 refine fI (sl:=[(0,_),(1,_)]) func48 rfl ntmps48 rfl rfl ?_;intro ctx hK;refine wQ<|wR<|ws (LR.box rfl rfl rfl rfl)<|ws (LR.box rfl rfl rfl rfl)<|ws (LR.allocZ (cs:=[_,_]) zeroValue32 rfl rfl rfl rfl)<|wa ?_;refine wN<|wQ<|wQ<|wR<|ws (lA (ps:=[_,_,_]) isAgg26 sizeOf26 rfl rfl rfl rfl) ?_;obtain ⟨v3,hy4,h⟩:=iDet h;refine ws (cN (WA d2 v3 hy4) rfl call46 rfl rfl rfl rfl)<|ws (LR.not rfl)<|wN ?_;refine wC rfl (fun hc5=>?_) (fun hc5=>?_)
 ·replace h:=iT hc5 h;refine wQ<|wR<|ws (lA (ps:=[_,_]) isAgg32 sizeOf32 rfl rfl rfl rfl)<|ws (sB (ns:=[_,_]) sizeOf32 rfl rfl rfl rfl rfl rfl rfl)<|wa ?_;refine wN<|wX ?_;cases h;exact ⟨.inr rfl,_,.cons (.agg isAgg32 sizeOf32 rfl rfl rfl rfl)<|.cons (.tmp rfl rfl)<|.nil,rfl⟩
 ·replace h:=iF hc5 h;refine wK<|wQ<|wQ<|wR<|ws (fR underlying26 rfl sizeOf23 (by decide) rfl rfl)<|ws (lD isAgg23 rfl rfl rfl)<|ws (fR underlying32 rfl sizeOf23 (by decide) rfl rfl)<|ws (lD isAgg23 rfl rfl rfl) ?_;obtain ⟨v6,hy7,h⟩:=iDet h;refine ws (cN (Wr d2.from_ b1.ctx v6 hy7) rfl call105 rfl rfl rfl rfl)<|ws (LR.not rfl)<|wN ?_;refine wC rfl (fun hc8=>?_) (fun hc8=>?_)
  ·replace h:=iT hc8 h;refine wQ<|wR<|ws (lA (ps:=[_,_]) isAgg32 sizeOf32 rfl rfl rfl rfl)<|ws (sB (ns:=[_,_]) sizeOf32 rfl rfl rfl rfl rfl rfl rfl)<|wa ?_;refine wN<|wX ?_;cases h;exact ⟨.inr rfl,_,.cons (.agg isAgg32 sizeOf32 rfl rfl rfl rfl)<|.cons (.tmp rfl rfl)<|.nil,rfl⟩
  ·replace h:=iF hc8 h;refine wK<|wQ<|wz (tl:=[(2,_),(3,_),(4,_)]) (to:=[(2,_),(3,_),(4,_)]) ?_;refine PWc.regionE [⟨[17],[],[2],[],[],[],[],[]⟩,⟨[18],[],[],[],[],[3],[],[]⟩,⟨[19],[],[3],[],[],[],[],[]⟩,{ws:=[20]},⟨[21],[],[],[],[],[3],[],[]⟩,⟨[22],[],[3],[],[],[],[],[]⟩,{ws:=[23]},⟨[],[4],[4],[],[],[],[],[]⟩,{ws:=[5]}] (by kernel_rfl) (by kernel_rfl) rfl ?_;refine kp (fun _ U W=>lA (ps:=[_,_]) isAgg32 sizeOf32 (U rfl rfl) (W rfl rfl) rfl rfl) ?_;refine kp (fun _ U W=>fR underlying26 rfl sizeOf24 (by decide) rfl (U rfl rfl)) ?_;refine kp (fun _ U W=>lD isAgg24 (U rfl rfl) (W rfl rfl) rfl) ?_;obtain ⟨v9,hy10,h⟩:=iDet h;refine kp (fun _ U W=>cN (Jv b1 d2.events v9 hy10) (U rfl rfl) call106 (evsE U rfl rfl) rfl rfl rfl) ?_;refine kp (fun _ U W=>fR underlying26 rfl sizeOf23 (by decide) rfl (U rfl rfl)) ?_;refine kp (fun _ U W=>lD isAgg23 (U rfl rfl) (W rfl rfl) rfl) ?_;obtain ⟨v11,hy12,h⟩:=iDet h;refine kp (fun _ U W=>cN (jx v9 d2.to_ v11 hy12) (U rfl rfl) call52 (evsE U rfl rfl) rfl rfl rfl) ?_;refine ks (fun _ U W=>sB (ns:=[_,_]) sizeOf32 (U rfl rfl) (U rfl rfl) rfl rfl (W rfl rfl) rfl rfl) ?_;refine kp (fun _ U W=>aS (U rfl rfl))<|PQe.nil<|wX ?_;cases h;exact ⟨.inr rfl,_,.cons (.agg isAgg32 sizeOf32 rfl rfl rfl rfl)<|.cons (.tmp rfl rfl)<|.nil,rfl⟩


theorem Vm (l1:List L18Act) (from2:List TPart) (d3:TDelta) (r0:Bool) (h:(vh l1 from2 d3).wp (· = r0)):PFun prog 6 [.d (.sl (List.map L18Act.e l1)),.d (.sl (List.map TPart.e from2)),.agg (List.map .d (TDelta.e d3))] (.d (.v (.bool r0))):=by
 refine fI (sl:=[(0,_),(1,_),(2,_)]) func6 rfl ntmps6 rfl rfl ?_;intro ctx hK;refine wQ<|wR<|ws (LR.box rfl rfl rfl rfl)<|wa ?_;refine wN<|wQ<|wQ ?_;refine wJ (zG h) (fun (v4:Bool) (_:Unit)=>⟨106,[(0,.d (.sl (List.map L18Act.e l1))),(1,.d (.sl (List.map TPart.e from2))),(5,.ref 5 0),(26,.d (.v (.bool v4)))],[(5,.cells 26 [.d (.sl (List.map TPart.e d3.from_)),.d (.sl (List.map TPart.e d3.to_)),.d (.sl (List.map TEvent.e d3.events))])]⟩) (fun h=>?_) ?_
 ·refine wR<|wm ?_;obtain ⟨v5,hy6,h⟩:=iDet h;refine ws (cN (y3a l1 20 v5 hy6) rfl call8 rfl rfl rfl rfl)<|ws (eQ rfl rfl)<|wm ?_;refine wL (d:=17) rfl (fun hg7=>?_) (fun hg7=>?_)
  ·replace h:=iT hg7 h;refine wf<|wf<|wf<|ws (pT rfl rfl)<|wm ?_;refine wf<|wf<|wf<|ws (pT rfl rfl)<|wN ?_;exact ⟨true,(),h,sP⟩
  ·replace h:=iF hg7 h;refine wt (mV rfl) ?_;obtain ⟨v8,hy9,h⟩:=iDet h;refine wt (cN (XK from2 v8 hy9) rfl call19 rfl rfl rfl rfl)<|wt (LR.not rfl)<|ws (pF rfl rfl)<|wm ?_;refine wL (d:=22) rfl (fun hg10=>?_) (fun hg10=>?_)
   ·replace h:=iT hg10 h;refine wf<|wf<|wf<|ws (pT rfl rfl)<|wN ?_;exact ⟨true,(),h,sP⟩
   ·replace h:=iF hg10 h;refine wt (lA (ps:=[_,_,_]) isAgg26 sizeOf26 rfl rfl rfl rfl) ?_;obtain ⟨v11,hy12,h⟩:=iDet h;refine wt (cN (y2a d3 v11 hy12) rfl call7 rfl rfl rfl rfl)<|wt (LR.not rfl)<|ws (pF rfl rfl)<|wN ?_;exact ⟨(!v11),(),h,sP⟩
 ·rintro v4 _ h;refine wC rfl (fun hc13=>?_) (fun hc13=>?_)
  ·replace h:=iT hc13 h;refine wQ<|wR ?_;obtain ⟨v14,hy15,h⟩:=iDet h;refine ws (cN (Vi v14 hy15) rfl call40 rfl rfl rfl rfl)<|wa ?_;refine wN<|wX ?_;cases h;exact ⟨.inr rfl,_,.cons (.tmp rfl rfl)<|.nil,rfl⟩
  ·replace h:=iF hc13 h;refine wK<|wQ<|wR<|wm ?_;obtain ⟨v16,hy17,h⟩:=iDet h;refine ws (cN (x8a l1 v16 hy17) rfl call10 rfl rfl rfl rfl)<|ws (LR.allocZ (cs:=[_,_]) zeroValue32 rfl rfl rfl rfl)<|ws (sB (ns:=[_,_]) sizeOf32 rfl rfl rfl rfl rfl rfl rfl)<|wN<|wQ<|wz (tl:=[(1,_),(5,_),(7,_)]) (to:=[(5,_),(7,_)]) ?_;refine PWc.regionE [⟨[31],[],[],[],[],[7],[],[]⟩,⟨[32],[],[7],[],[],[],[],[]⟩,{ws:=[33]},⟨[34],[],[],[],[],[7],[],[]⟩,⟨[35],[],[7],[],[],[],[],[]⟩,⟨[36],[20720,20721,20722],[],[20720,20721,20722],[],[20720],[20721,20722],[]⟩,⟨[30],[],[],[],[],[20720],[],[]⟩,⟨[37],[],[],[],[],[20720],[],[]⟩,{ws:=[38]},⟨[8],[],[],[],[],[20720],[],[]⟩,{ws:=[9]}] (by kernel_rfl) (by kernel_rfl) rfl ?_;refine kp (fun _ U W=>fR underlying32 rfl sizeOf23 (by decide) rfl (U rfl rfl)) ?_;refine kp (fun _ U W=>lD isAgg23 (U rfl rfl) (W rfl rfl) rfl) ?_;obtain ⟨v18,hy19,h⟩:=iDet h;refine kp (fun _ U W=>cN (PRow.fun (ww v16.ctx v18 hy19)) (U rfl rfl) call12 (evsE U rfl rfl) rfl rfl rfl) ?_;refine kp (fun _ U W=>fR underlying32 rfl sizeOf24 (by decide) rfl (U rfl rfl)) ?_;refine kp (fun _ U W=>lD isAgg24 (U rfl rfl) (W rfl rfl) rfl) ?_;obtain ⟨y20,hy21,h⟩:=iDet h;rcases y20 with z22 | z23
   ·replace h:=iSumL h;refine PQe.callObj [] [] [] (Xd v18 v16.l (.inl z22) hy21) hK (fun _ U=>⟨U rfl rfl,evsE U rfl rfl⟩) call11 (by first | rfl | (simp;done) | (simp [PV.nilD,PV.ren,rn];omega)) (.nil) rfl rfl rfl rfl (.inl rfl) rfl ?_;refine km ?_;refine kp (fun _ U W=>LR.extract (U rfl rfl) rfl) ?_;refine kp (fun _ U W=>LR.extract (U rfl rfl) rfl) ?_;refine kp (fun _ U W=>aS (U rfl rfl)) ?_;refine kp (fun _ U W=>aS (U rfl rfl))<|PQe.nil<|wQ<|wQ<|wz (tl:=[(1,_),(5,_),(7,_),(8,_),(9,_)]) (to:=[(5,_),(7,_)]) ?_;refine wR<|wm ?_;refine ws (nQ rfl rfl)<|wN<|PWc.condT rfl<|wQ<|wR<|wa ?_;refine wN<|wX ?_;cases h;exact ⟨.inr rfl,_,.cons (.tmp rfl rfl)<|.nil,rfl⟩
   ·replace h:=iSumR h;refine PQe.callObj [(12,20720),(30241,20721),(30242,20722)] [] [12,30241,30242] (Xd v18 v16.l (.inr z23) hy21) hK (fun _ U=>⟨U rfl rfl,evsE U rfl rfl⟩) call11 (by first | rfl | (simp;done) | (simp [PV.nilD,PV.ren,rn];omega)) (.nil) rfl rfl rfl rfl (.inl rfl) rfl ?_;refine km ?_;refine kp (fun _ U W=>LR.extract (U rfl rfl) rfl) ?_;refine kp (fun _ U W=>LR.extract (U rfl rfl) rfl) ?_;refine kp (fun _ U W=>aS (U rfl rfl)) ?_;refine kp (fun _ U W=>aS (U rfl rfl))<|PQe.nil<|wQ<|wQ<|wz (tl:=[(1,_),(5,_),(7,_),(8,_),(9,_)]) (to:=[(5,_),(7,_),(20720,_),(20721,_),(20722,_)]) ?_;refine wR<|wm ?_;refine ws (nQ rfl rfl)<|wN<|PWc.condF rfl<|wK<|wQ<|wz (tl:=[(1,_),(5,_),(7,_),(8,_)]) (to:=[(5,_),(7,_),(20720,_),(20721,_),(20722,_)]) ?_;refine PWc.regionE [⟨[41],[],[],[],[],[20720],[],[]⟩,{ws:=[42]},⟨[43],[],[20720,20721,20722],[],[],[],[],[]⟩,⟨[44],[],[7],[],[],[],[],[]⟩,{ws:=[45]},{ws:=[46]},⟨[10],[10],[],[10],[],[10],[],[]⟩,⟨[11],[11],[],[11],[],[11],[],[]⟩,⟨[],[10],[10],[],[],[],[],[]⟩,⟨[],[11],[11],[],[],[],[],[]⟩] (by kernel_rfl) (by kernel_rfl) rfl<|km ?_;refine km ?_;obtain ⟨y24,hy25,h⟩:=iDet h;refine PQe.callObjS [(100,20720),(101,20721),(102,20722)] [] [100,101,102] [] [(100,.cells 98 [.d (.sl (List.map TPart.e z23.1)),.mp 101,.mp 102]),(101,.mapH z23.2.1 [.u16,.u64] true (encM TDot.k TEvent.e z23.2.2.1)),(102,.mapH z23.2.2.2.1 [.u16,.u64] true (encM TDot.k TEvent.e z23.2.2.2.2))] (YC from2 z23.1 z23.2.1 z23.2.2.1 z23.2.2.2.1 z23.2.2.2.2 y24 hy25) hK (fun _ U=>⟨U rfl rfl,evsE U rfl rfl⟩) call41 (by first | rfl | (simp;done) | (simp [PV.nilD,PV.ren,rn];omega)) (by repeat' first | constructor | (congr 1;first | (simp;done) | (simp;omega) | omega)) (.nil) (.cons rfl<|.cons rfl<|.cons rfl<|.nil) (by repeat' first | constructor | (congr 1;first | (simp;done) | (simp;omega) | omega)) rfl rfl rfl rfl rfl rfl (.inl rfl) rfl ?_;refine kp (fun _ U W=>lA (ps:=[_,_]) isAgg32 sizeOf32 (U rfl rfl) (W rfl rfl) rfl rfl)<|km ?_;obtain ⟨v26,hy27,h⟩:=iDet h;refine kp (fun _ U W=>cN (QT v16 from2 v26 hy27) (U rfl rfl) call42 (evsE U rfl rfl) rfl rfl rfl) ?_;refine PQe.stepN (fun _ U W hf=>LR.allocZ (cs:=[_,_,_]) zeroValue26 rfl rfl rfl hf) rfl (.inl rfl) rfl ?_;refine PQe.stepN (fun _ U W hf=>LR.allocZ (cs:=[_,_,_]) zeroValue26 rfl rfl rfl hf) rfl (.inl rfl) rfl ?_;refine ks (fun _ U W=>sB (ns:=[_,_,_]) sizeOf26 (U rfl rfl) (U rfl rfl) rfl rfl (W rfl rfl) rfl rfl) ?_;refine ks (fun _ U W=>sB (ns:=[_,_,_]) sizeOf26 (U rfl rfl) (U rfl rfl) rfl rfl (W rfl rfl) rfl rfl)<|PQe.nil<|wQ<|wQ<|wz (tl:=[(5,_),(7,_),(8,_),(10,_),(11,_)]) (to:=[(5,_),(7,_),(10,_),(11,_),(20720,_),(20721,_),(20722,_)]) ?_;refine wJ (zG h) (fun (v28:Bool) (_:Unit)=>⟨106,[(5,.ref 5 0),(7,.ref 7 0),(8,.ref 20720 0),(85,.d (.v (.bool v28)))],[(5,.cells 26 [.d (.sl (List.map TPart.e d3.from_)),.d (.sl (List.map TPart.e d3.to_)),.d (.sl (List.map TEvent.e d3.events))]),(7,.cells 32 [.d (.sl (List.map TPart.e v16.ctx)),.d (.sl (List.map TEvent.e v16.l))]),(20720,.cells 98 [.d (.sl (List.map TPart.e z23.1)),.mp 20721,.mp 20722]),(20721,.mapH z23.2.1 [.u16,.u64] true (encM TDot.k TEvent.e z23.2.2.1)),(20722,.mapH z23.2.2.2.1 [.u16,.u64] true (encM TDot.k TEvent.e z23.2.2.2.2))]⟩) (fun h=>?_) ?_
    ·refine wD (by kernel_rfl) (by kernel_rfl) ?_;refine qs (fun _ U W=>lA (ps:=[_,_,_]) isAgg26 sizeOf26 (U rfl rfl) (W rfl) rfl rfl) ?_;refine qs (fun _ U W=>lA (ps:=[_,_,_]) isAgg26 sizeOf26 (U rfl rfl) (W rfl) rfl rfl) ?_;obtain ⟨v29,hy30,h⟩:=iDet h;refine qs (fun _ U W=>cN (Ux y24 v26 v29 hy30) (U rfl rfl) call43 (evsE U rfl rfl) rfl rfl rfl) ?_;refine qs (fun _ U W=>LR.not (U rfl rfl))<|qm ?_;refine PQl.split (d:=51) rfl (fun hg31=>?_) (fun hg31=>?_)
     ·replace h:=iT hg31 h;refine kF<|kF<|kF<|kF ?_;refine qs (fun _ U W=>pT (U rfl rfl) (U rfl rfl))<|qm ?_;refine kF<|kF<|kF<|kF ?_;refine qs (fun _ U W=>pT (U rfl rfl) (U rfl rfl))<|qm ?_;refine kF<|kF<|kF<|kF<|kF ?_;refine qs (fun _ U W=>pT (U rfl rfl) (U rfl rfl))<|qm ?_;refine kF<|kF<|kF<|kF<|kF ?_;refine qs (fun _ U W=>pT (U rfl rfl) (U rfl rfl))<|qm ?_;refine kK (tl:=[(5,_),(7,_),(8,_),(10,_),(11,_),(77,_)]) ?_;refine kF<|kF<|kF<|kF<|kF<|kF<|kF ?_;refine qs (fun _ U W=>pT (U rfl rfl) (U rfl rfl))<|qN ?_;exact ⟨true,(),h,sP⟩
     ·replace h:=iF hg31 h;refine qt (fun _ U W=>fR underlying26 rfl sizeOf23 (by decide) rfl (U rfl rfl)) ?_;refine qt (fun _ U W=>lD isAgg23 (U rfl rfl) (W rfl) rfl) ?_;obtain ⟨v32,hy33,h⟩:=iDet h;refine qt (fun _ U W=>cN (Zn y24.from_ v32 hy33) (U rfl rfl) call44 (evsE U rfl rfl) rfl rfl rfl) ?_;refine qt (fun _ U W=>LR.not (U rfl rfl)) ?_;refine qs (fun _ U W=>pF (U rfl rfl) (U rfl rfl))<|qm ?_;refine PQl.split (d:=57) rfl (fun hg34=>?_) (fun hg34=>?_)
      ·replace h:=iT hg34 h;refine kF<|kF<|kF<|kF ?_;refine qs (fun _ U W=>pT (U rfl rfl) (U rfl rfl))<|qm ?_;refine kF<|kF<|kF<|kF<|kF ?_;refine qs (fun _ U W=>pT (U rfl rfl) (U rfl rfl))<|qm ?_;refine kF<|kF<|kF<|kF<|kF ?_;refine qs (fun _ U W=>pT (U rfl rfl) (U rfl rfl))<|kK (tl:=[(5,_),(7,_),(8,_),(10,_),(11,_),(76,_)]) ?_;refine qm ?_;refine kF<|kF<|kF<|kF<|kF<|kF<|kF ?_;refine qs (fun _ U W=>pT (U rfl rfl) (U rfl rfl))<|qN ?_;exact ⟨true,(),h,sP⟩
      ·replace h:=iF hg34 h;refine qt (fun _ U W=>fR underlying26 rfl sizeOf23 (by decide) rfl (U rfl rfl)) ?_;refine qt (fun _ U W=>lD isAgg23 (U rfl rfl) (W rfl) rfl) ?_;obtain ⟨v35,hy36,h⟩:=iDet h;refine qt (fun _ U W=>cN (Zn y24.to_ v35 hy36) (U rfl rfl) call44 (evsE U rfl rfl) rfl rfl rfl) ?_;refine qt (fun _ U W=>LR.not (U rfl rfl)) ?_;refine qs (fun _ U W=>pF (U rfl rfl) (U rfl rfl))<|qm ?_;refine PQl.split (d:=63) rfl (fun hg37=>?_) (fun hg37=>?_)
       ·replace h:=iT hg37 h;refine kF<|kF<|kF<|kF<|kF ?_;refine qs (fun _ U W=>pT (U rfl rfl) (U rfl rfl))<|qm ?_;refine kF<|kF<|kF<|kF<|kF<|kK (tl:=[(5,_),(7,_),(8,_),(10,_),(11,_),(70,_),(75,_)]) ?_;refine qs (fun _ U W=>pT (U rfl rfl) (U rfl rfl))<|qm ?_;refine kF<|kF<|kF<|kF<|kF<|kF<|kF ?_;refine qs (fun _ U W=>pT (U rfl rfl) (U rfl rfl))<|qN ?_;exact ⟨true,(),h,sP⟩
       ·replace h:=iF hg37 h;refine qt (fun _ U W=>lA (ps:=[_,_,_]) isAgg26 sizeOf26 (U rfl rfl) (W rfl) rfl rfl) ?_;obtain ⟨v38,hy39,h⟩:=iDet h;refine qt (fun _ U W=>cN (Zo d3 v38 hy39) (U rfl rfl) call45 (evsE U rfl rfl) rfl rfl rfl) ?_;refine qt (fun _ U W=>lA (ps:=[_,_,_]) isAgg26 sizeOf26 (U rfl rfl) (W rfl) rfl rfl) ?_;obtain ⟨v40,hy41,h⟩:=iDet h;refine qt (fun _ U W=>cN (WA d3 v40 hy41) (U rfl rfl) call46 (evsE U rfl rfl) rfl rfl rfl) ?_;refine qt (fun _ U W=>LR.neqBool underlying4 (U rfl rfl) (U rfl rfl)) ?_;refine qs (fun _ U W=>pF (U rfl rfl) (U rfl rfl))<|qm ?_;refine PQl.split (d:=70) rfl (fun hg42=>?_) (fun hg42=>?_)
        ·replace h:=iT hg42 h;refine kF<|kF<|kF<|kF<|kK (tl:=[(5,_),(7,_),(8,_),(10,_),(11,_),(70,_),(72,_),(74,_)]) ?_;refine kF ?_;refine qs (fun _ U W=>pT (U rfl rfl) (U rfl rfl))<|qm ?_;refine kF<|kF<|kF<|kF<|kF<|kF<|kF ?_;refine qs (fun _ U W=>pT (U rfl rfl) (U rfl rfl))<|qN ?_;exact ⟨true,(),h,sP⟩
        ·replace h:=iF hg42 h;refine qt (fun _ U W=>lA (ps:=[_,_,_]) isAgg26 sizeOf26 (U rfl rfl) (W rfl) rfl rfl) ?_;obtain ⟨v43,hy44,h⟩:=iDet h;refine qt (fun _ U W=>cN (Zo y24 v43 hy44) (U rfl rfl) call45 (evsE U rfl rfl) rfl rfl rfl) ?_;refine qt (fun _ U W=>lA (ps:=[_,_,_]) isAgg26 sizeOf26 (U rfl rfl) (W rfl) rfl rfl) ?_;obtain ⟨v45,hy46,h⟩:=iDet h;refine qt (fun _ U W=>cN (WA v26 v45 hy46) (U rfl rfl) call46 (evsE U rfl rfl) rfl rfl rfl)<|kK (tl:=[(5,_),(7,_),(8,_),(10,_),(11,_),(70,_),(72,_),(74,_)]) ?_;refine qt (fun _ U W=>LR.neqBool underlying4 (U rfl rfl) (U rfl rfl)) ?_;refine qs (fun _ U W=>pF (U rfl rfl) (U rfl rfl))<|qm ?_;refine PQl.split (d:=77) rfl (fun hg47=>?_) (fun hg47=>?_)
         ·replace h:=iT hg47 h;refine kF<|kF<|kF<|kF<|kF<|kF<|kF ?_;refine qs (fun _ U W=>pT (U rfl rfl) (U rfl rfl))<|qN ?_;exact ⟨true,(),h,sP⟩
         ·replace h:=iF hg47 h;refine qt (fun _ U W=>lA (ps:=[_,_,_]) isAgg26 sizeOf26 (U rfl rfl) (W rfl) rfl rfl) ?_;refine qt (fun _ U W=>lA (ps:=[_,_,_]) isAgg26 sizeOf26 (U rfl rfl) (W rfl) rfl rfl) ?_;obtain ⟨v48,hy49,h⟩:=iDet h;refine qt (fun _ U W=>cN (Ju y24 d3 v48 hy49) (U rfl rfl) call47 (evsE U rfl rfl) rfl rfl rfl) ?_;refine qt (fun _ U W=>lA (ps:=[_,_,_]) isAgg26 sizeOf26 (U rfl rfl) (W rfl) rfl rfl) ?_;refine qt (fun _ U W=>lA (ps:=[_,_,_]) isAgg26 sizeOf26 (U rfl rfl) (W rfl) rfl rfl) ?_;obtain ⟨v50,hy51,h⟩:=iDet h;refine qt (fun _ U W=>cN (Ux v26 d3 v50 hy51) (U rfl rfl) call43 (evsE U rfl rfl) rfl rfl rfl) ?_;refine qt (fun _ U W=>LR.neqBool underlying4 (U rfl rfl) (U rfl rfl)) ?_;refine qs (fun _ U W=>pF (U rfl rfl) (U rfl rfl))<|qN ?_;exact ⟨(!(v48 == v50)),(),h,sP⟩
    ·rintro v28 _ h;refine wC rfl (fun hc52=>?_) (fun hc52=>?_)
     ·replace h:=iT hc52 h;refine wQ<|wR<|wa ?_;refine wN<|wX ?_;cases h;exact ⟨.inr rfl,_,.cons (.tmp rfl rfl)<|.nil,rfl⟩
     ·replace h:=iF hc52 h;refine wK<|wQ<|wR<|ws (lA (ps:=[_,_]) isAgg32 sizeOf32 rfl rfl rfl rfl)<|ws (lA (ps:=[_,_,_]) isAgg26 sizeOf26 rfl rfl rfl rfl) ?_;obtain ⟨v53,hy54,h⟩:=iDet h;refine ws (cN (QU v16 d3 v53 hy54) rfl call48 rfl rfl rfl rfl)<|wm ?_;refine ws (LR.extract rfl rfl)<|ws (LR.extract rfl rfl)<|ws (LR.allocZ (cs:=[_,_]) zeroValue32 rfl rfl rfl rfl)<|ws (sB (ns:=[_,_]) sizeOf32 rfl rfl rfl rfl rfl rfl rfl)<|wa ?_;refine wN<|wQ ?_;refine wJ (zG h) (fun (v55:Bool) (_:Unit)=>⟨106,[(6,.d (.v (.bool v55)))],[]⟩) (fun h=>?_) ?_
      ·refine wR<|wm ?_;refine ws (lA (ps:=[_,_,_]) isAgg26 sizeOf26 rfl rfl rfl rfl) ?_;obtain ⟨y56,hy57,h⟩:=iDet h;refine ws (LR.callObj [(100,20720),(101,20721),(102,20722)] [] [100,101,102] (vU d3 z23.1 z23.2.1 z23.2.2.1 z23.2.2.2.1 z23.2.2.2.2 y56 hy57) hK rfl call49 rfl (by first | rfl | (simp;done) | (simp [PV.nilD,PV.ren,rn];omega)) (by repeat' first | constructor | (congr 1;first | (simp;done) | (simp;omega) | omega)) rfl rfl rfl rfl) ?_;refine wy (tl:=[(8,_),(12,_),(13,_),(94,_)]) (to:=[(12,_),(20720,_),(20721,_),(20722,_)]) ?_;refine wm ?_;refine ws (eQ rfl rfl)<|wm ?_;refine wL (d:=97) rfl (fun hg58=>?_) (fun hg58=>?_)
       ·replace h:=iT hg58 h;refine wt (mV rfl)<|wt (lA (ps:=[_,_]) isAgg32 sizeOf32 rfl rfl rfl rfl) ?_;obtain ⟨y59,hy60,h⟩:=iDet h;refine wt (LR.callObjS [(100,20720),(101,20721),(102,20722)] [] [100,101,102] [] [(100,.cells 98 [.d (.sl (List.map TPart.e y56.2.1)),.mp 101,.mp 102]),(101,.mapH y56.2.2.1 [.u16,.u64] true (encM TDot.k TEvent.e y56.2.2.2.1)),(102,.mapH y56.2.2.2.2.1 [.u16,.u64] true (encM TDot.k TEvent.e y56.2.2.2.2.2))] (zca v53.1 y56.2.1 y56.2.2.1 y56.2.2.2.1 y56.2.2.2.2.1 y56.2.2.2.2.2 y59 hy60) hK rfl call30 rfl (by first | rfl | (simp;done) | (simp [PV.nilD,PV.ren,rn];omega)) (by repeat' first | constructor | (congr 1;first | (simp;done) | (simp;omega) | omega)) (.nil) (.cons rfl<|.cons rfl<|.cons rfl<|.nil) (by repeat' first | constructor | (congr 1;first | (simp;done) | (simp;omega) | omega)) rfl rfl rfl rfl rfl rfl) ?_;refine wt (eQ rfl rfl)<|ws (pT rfl rfl)<|wm ?_;refine wL (d:=103) rfl (fun hg61=>?_) (fun hg61=>?_)
        ·replace h:=iT hg61 h;obtain ⟨v62,hy63,h⟩:=iDet h;refine wt (cN (Vi v62 hy63) rfl call40 rfl rfl rfl rfl)<|ws (pT rfl rfl)<|wa ?_;refine wN ?_;exact ⟨v62,(),h,sP⟩
        ·replace h:=iF hg61 h;refine wf<|ws (pF rfl rfl)<|wa ?_;refine wN ?_;exact ⟨false,(),h,sP⟩
       ·replace h:=iF hg58 h;refine wf<|wf<|wf<|wf<|ws (pF rfl rfl)<|wm ?_;refine wf<|ws (pF rfl rfl)<|wa ?_;refine wN ?_;exact ⟨false,(),h,sP⟩
      ·rintro v55 _ h;refine wX ?_;cases h;exact ⟨.inr rfl,_,.cons (.tmp rfl rfl)<|.nil,rfl⟩
end Go.Proofs

namespace Go.Ep
open Go

theorem wI64 {n:Int} (h:-9223372036854775808 <= n) (h':n <= 9223372036854775807):IntKind.i64.wrap n = n:=by simp [IntKind.wrap,IntKind.bits,IntKind.signed];omega
theorem wU64 {n:Int} (h:0 <= n) (h':n <= 18446744073709551615):IntKind.u64.wrap n = n:=by simp [IntKind.wrap,IntKind.bits,IntKind.signed];omega
theorem wU16 {n:Int} (h:0 <= n) (h':n <= 65535):IntKind.u16.wrap n = n:=by simp [IntKind.wrap,IntKind.bits,IntKind.signed];omega
theorem wU8 {n:Int} (h:0 <= n) (h':n <= 255):IntKind.u8.wrap n = n:=by simp [IntKind.wrap,IntKind.bits,IntKind.signed];omega
theorem zf {i:Nat} (h:i < 9223372036854775807):IntKind.i64.wrap ((i:Int) + 1) = ((i + 1:Nat):Int):=by rw [wI64 (by omega) (by omega)];rfl
namespace M
variable {α β σ ρ τ ε:Type}
theorem yR (p:Prop) [Decidable p] (x y:M α):cond (decide p) x y = if p then x else y:=by by_cases h:p <;> simp [h]
theorem uL {body:σ -> M (Step σ ρ)} (l:List ε) (mk:Nat -> τ -> σ) (f:τ -> ε -> τ) (g:τ -> M ρ)
  (I:Nat -> τ -> Prop) (h1:∀ (i:Nat) (x:ε) (t:τ),l[i]? = some x -> i < l.length -> I i t -> body (mk i t) = pure (.next (mk (i + 1) (f t x))) /\ I (i + 1) (f t x))
  (h2:∀ t,I l.length t -> body (mk l.length t) = (g t).bind fun r=>pure (.done r)) (t0:τ) (h0:I 0 t0):loop body (mk 0 t0) = g (l.foldl f t0):=by
 have key:∀ k i t,i + k = l.length -> I i t -> loop body (mk i t) = g ((l.drop i).foldl f t):=by
  intro k
  induction k with
  | zero=>
   intro i t hi hI;have:i = l.length:=by omega
   subst this;rw [Ua,h2 t hI,List.drop_length]
   rfl
  | succ k ih=>
   intro i t hi hI;have hlt:i < l.length:=by omega
   obtain ⟨h3,h4⟩:=h1 i l[i] t (List.getElem?_eq_getElem hlt) hlt hI;rw [zg h3,ih (i + 1) _ (by omega) h4,List.drop_eq_getElem_cons hlt]
   rfl
 simpa using key l.length 0 t0 (by omega) h0
theorem loopF {body:σ -> M (Step σ ρ)} (l:List ε) (mk:Nat -> σ) (p:Nat -> ε -> Bool) (r:Nat -> ε -> ρ) (d:M ρ)
  (h1:∀ (i:Nat) (x:ε),l[i]? = some x -> i < l.length -> body (mk i) = if p i x then pure (.done (r i x)) else pure (.next (mk (i + 1))))
  (h2:body (mk l.length) = d.bind fun r=>pure (.done r)):loop body (mk 0) = match (l.zipIdx).find? (fun y=>p y.2 y.1) with | some y=>pure (r y.2 y.1) | none=>d:=by
 have key:∀ k i,i + k = l.length -> loop body (mk i) = match ((l.drop i).zipIdx i).find? (fun y=>p y.2 y.1) with | some y=>pure (r y.2 y.1) | none=>d:=by
  intro k
  induction k with
  | zero=>
   intro i hi;have:i = l.length:=by omega
   subst this;rw [Ua,h2,List.drop_length]
   rfl
  | succ k ih=>
   intro i hi;have hlt:i < l.length:=by omega
   have h3:=h1 i l[i] (List.getElem?_eq_getElem hlt) hlt;rw [List.drop_eq_getElem_cons hlt,List.zipIdx_cons,List.find?_cons]
   by_cases hp:p i l[i] = true
   ·rw [if_pos hp] at h3;rw [zh h3];simp [hp]
   ·rw [if_neg hp] at h3;rw [zg h3,ih (i + 1) (by omega)];simp [hp]
 simpa using key l.length 0 (by omega)
theorem yr {body:σ -> M (Step σ ρ)} (l:List ε) (mk:Nat -> σ) (p:Nat -> ε -> Bool) (r1 r2:ρ)
  (h1:∀ (i:Nat) (x:ε),l[i]? = some x -> i < l.length -> body (mk i) = if p i x then pure (.next (mk (i + 1))) else pure (.done r2))
  (h2:body (mk l.length) = pure (.done r1)):loop body (mk 0) = pure (if l.zipIdx.all (fun y=>p y.2 y.1) then r1 else r2):=by
 have key:∀ k i,i + k = l.length -> loop body (mk i) = pure (if ((l.drop i).zipIdx i).all (fun y=>p y.2 y.1) then r1 else r2):=by
  intro k
  induction k with
  | zero=>
   intro i hi;have:i = l.length:=by omega
   subst this;rw [zh h2,List.drop_length]
   rfl
  | succ k ih=>
   intro i hi;have hlt:i < l.length:=by omega
   have h3:=h1 i l[i] (List.getElem?_eq_getElem hlt) hlt;rw [List.drop_eq_getElem_cons hlt,List.zipIdx_cons,List.all_cons]
   by_cases hp:p i l[i] = true
   ·rw [if_pos hp] at h3;rw [zg h3,ih (i + 1) (by omega),hp,Bool.true_and]
   ·rw [if_neg hp] at h3;rw [zh h3];simp [hp]
 have:=key l.length 0 (by omega);rw [List.drop_zero] at this;exact this

def came {ε:Type} (m:List ε) (L:List Nat):List ε:=L.filterMap fun i=>m[i]?
theorem wBa {m:List ε} {L:List Nat} {i:Nat} {y:ε} (h:m[i]? = some y):came m (L ++ [i]) = came m L ++ [y]:=by simp [came,h]
theorem Jw {n:Nat} {L:List Nat} (hn:L.Nodup) (hb:∀ i ∈ L,i < n) (ha:∀ i,i < n -> i ∈ L):L.Perm (List.range n):=by
 refine (List.perm_ext_iff_of_nodup hn List.nodup_range).2 fun i=>?_
 rw [List.mem_range];exact ⟨hb i,ha i⟩
theorem wCa {m:List ε} {L:List Nat} (hn:L.Nodup) (hb:∀ i ∈ L,i < m.length) (ha:∀ i,i < m.length -> i ∈ L):(came m L).Perm m:=by
 have h1:=(Jw hn hb ha).filterMap fun i=>m[i]?
 have h2:(List.range m.length).filterMap (fun i=>m[i]?) = m:=by
  apply List.ext_getElem?;intro i;clear h1 hn hb ha;have:(List.range m.length).filterMap (fun i=>m[i]?) = m:=by
   induction m with
   | nil=>rfl
   | cons x r ih=>
    rw [List.length_cons,List.range_succ_eq_map,List.filterMap_cons];simp only [List.getElem?_cons_zero,List.filterMap_map]
    congr 1
  rw [this]
 rw [h2] at h1;exact h1
theorem wDa {n:Nat} {L:List Nat} (hn:L.Nodup) (hb:∀ i ∈ L,i < n):L.length <= n:=by
 have:=List.Nodup.length_le_of_subset hn (l₂:=List.range n) (fun i hi=>List.mem_range.2 (hb i hi));simpa using this

theorem full {n:Nat} {L:List Nat} (hn:L.Nodup) (hb:∀ i ∈ L,i < n) (hl:n <= L.length):∀ i,i < n -> i ∈ L:=by
 intro i hi;refine Classical.byContradiction fun hni=>?_
 have:=wDa (n:=n) (L:=i :: L) (List.nodup_cons.2 ⟨hni,hn⟩) (fun j hj=>by
  rcases List.mem_cons.1 hj with rfl | hj
  ·exact hi
  ·exact hb j hj)
 simp at this;omega
theorem loopM {body:σ -> M (Step σ ρ)} (m:List ε) (mk:List Nat -> τ -> σ) (f:τ -> ε -> M τ) (g:τ -> M ρ) (I:List ε -> τ -> Prop) (Q:ρ -> Prop)
  (hb:∀ L t,(∀ i ∈ L,i < m.length) -> body (mk L t) = need (∀ i ∈ L,i < m.length) ((nxt m.length L).bind fun o=>match o with
   | none=>(g t).bind fun r=>pure (.done r)
   | some i=>(idx m (Int.ofNat i)).bind fun y=>(f t y).bind fun t'=>pure (.next (mk (L ++ [i]) t'))))
  (hs:∀ l t y,I l t -> l.length < m.length -> y ∈ m -> ∃ t',f t y = pure t' /\ I (l ++ [y]) t') (he:∀ l t,l.Perm m -> I l t -> (g t).wp Q) (t0:τ) (h0:I [] t0):(loop body (mk [] t0)).wp Q:=by
 have key:∀ k L t,L.length + k = m.length -> L.Nodup -> (∀ i ∈ L,i < m.length) -> I (came m L) t -> jY body Q (mk L t):=by
  intro k
  induction k with
  | zero=>
   intro L t hk hn hlt hI;refine ZT ?_;rw [hb L t hlt];have hall:∀ i,i < m.length -> i ∈ L:=fun i hi=>full hn hlt (by omega) i hi
   refine ⟨hlt,⟨⟨none,hall⟩,fun o ho=>?_⟩⟩
   cases o with
   | none=>
    have:=he _ t (wCa hn hlt hall) hI;exact this
   | some i=>exact absurd (hall i ho.1) ho.2
  | succ k ih=>
   intro L t hk hn hlt hI;refine ZT ?_;rw [hb L t hlt];have hex:∃ i,i < m.length /\ i ∉ L:=by
    refine Classical.byContradiction fun hno=>?_
    have hall:∀ i,i < m.length -> i ∈ L:=fun i hi=>Classical.byContradiction fun h=>hno ⟨i,hi,h⟩
    have:=(Jw hn hlt hall).length_eq;simp at this;omega
   obtain ⟨i0,hi0⟩:=hex;refine ⟨hlt,⟨⟨some i0,hi0⟩,fun o ho=>?_⟩⟩
   cases o with
   | none=>exact absurd (ho i0 hi0.1) hi0.2
   | some i=>
    have hi:=List.getElem?_eq_getElem ho.1;obtain ⟨t',h1,h2⟩:=hs (came m L) t m[i] hI (by have:=List.length_filterMap_le (fun i=>m[i]?) L;unfold came;omega) (List.getElem_mem ho.1);show ((idx m (Int.ofNat i)).bind _).wp _;rw [show (Int.ofNat i) = (i:Int) from rfl,zF hi,zA,h1,zA];refine ih (L ++ [i]) t' (by simp;omega) ?_ ?_ (by rw [wBa hi];exact h2)
    ·rw [List.nodup_append];refine ⟨hn,by simp,fun a ha b hb'=>?_⟩;rw [List.mem_singleton.1 hb'];intro e;exact ho.2 (e ▸ ha)
    ·intro j hj;rcases List.mem_append.1 hj with hj | hj
     ·exact hlt j hj
     ·rw [List.mem_singleton.1 hj];exact ho.1
 exact key m.length [] t0 (by simp) List.nodup_nil (by simp) h0

theorem loopN {body:σ -> M (Step σ ρ)} (n:Nat) (mk:List Nat -> τ -> σ) (I:List Nat -> τ -> Prop) (Q:ρ -> Prop)
  (h:∀ L t,I L t -> L.Nodup -> (∀ i ∈ L,i < n) -> ∃ K:Option Nat -> M (Step σ ρ),body (mk L t) = need (∀ i ∈ L,i < n) ((nxt n L).bind K) /\ ((∀ i,i < n -> i ∈ L) -> (K none).wp (Step.post (fun _=>False) Q)) /\
   ∀ i,i < n -> i ∉ L -> ∃ t',K (some i) = pure (.next (mk (L ++ [i]) t')) /\ I (L ++ [i]) t') (t0:τ) (h0:I [] t0):(loop body (mk [] t0)).wp Q:=by
 have key:∀ k L t,L.length + k = n -> L.Nodup -> (∀ i ∈ L,i < n) -> I L t -> jY body Q (mk L t):=by
  intro k
  induction k with
  | zero=>
   intro L t hk hn hlt hI;obtain ⟨K,h1,h2,h3⟩:=h L t hI hn hlt;refine ZT ?_;rw [h1];have hall:∀ i,i < n -> i ∈ L:=full hn hlt (by omega);refine ⟨hlt,⟨⟨none,hall⟩,fun o ho=>?_⟩⟩
   cases o with
   | none=>exact (K none).mono (fun a ha=>by cases a with | next s=>exact ha.elim | done r=>exact ha) (h2 hall)
   | some i=>exact absurd (hall i ho.1) ho.2
  | succ k ih=>
   intro L t hk hn hlt hI;obtain ⟨K,h1,h2,h3⟩:=h L t hI hn hlt;refine ZT ?_;rw [h1];have hex:∃ i,i < n /\ i ∉ L:=by
    refine Classical.byContradiction fun hno=>?_
    have hall:∀ i,i < n -> i ∈ L:=fun i hi=>Classical.byContradiction fun h=>hno ⟨i,hi,h⟩
    have:=(Jw hn hlt hall).length_eq;simp at this;omega
   obtain ⟨i0,hi0⟩:=hex;refine ⟨hlt,⟨⟨some i0,hi0⟩,fun o ho=>?_⟩⟩
   cases o with
   | none=>exact absurd (ho i0 hi0.1) hi0.2
   | some i=>
    obtain ⟨t',h4,h5⟩:=h3 i ho.1 ho.2;show (K (some i)).wp _;rw [h4];refine ih (L ++ [i]) t' (by simp;omega) ?_ ?_ h5
    ·rw [List.nodup_append];refine ⟨hn,by simp,fun a ha b hb'=>?_⟩;rw [List.mem_singleton.1 hb'];intro e;exact ho.2 (e ▸ ha)
    ·intro j hj;rcases List.mem_append.1 hj with hj | hj
     ·exact hlt j hj
     ·rw [List.mem_singleton.1 hj];exact ho.1
 exact key n [] t0 (by simp) List.nodup_nil (by simp) h0
end M

namespace AL
variable {κ ν:Type} [DecidableEq κ]
theorem get_set (m:List (κ × ν)) (k q:κ) (v:ν):get (set m k v) q = if k = q then some v else get m q:=by
 induction m with
 | nil=>simp [set,get]
 | cons x r ih=>
  obtain ⟨a,u⟩:=x
  by_cases h:a = k
  ·subst h;simp only [set,if_true,get];split <;> rfl
  ·simp only [set,h,if_false,get,ih]
   by_cases h2:a = q
   ·subst h2;simp [Ne.symm h]
   ·simp [h2]
theorem getZ_set (m:List (κ × ν)) (k q:κ) (v z:ν):getZ (set m k v) q z = if k = q then v else getZ m q z:=by
 unfold getZ;rw [get_set];split <;> rfl
theorem keys_set (m:List (κ × ν)) (k:κ) (v:ν):(set m k v).map (·.1) = if k ∈ m.map (·.1) then m.map (·.1) else m.map (·.1) ++ [k]:=by
 induction m with
 | nil=>simp [set]
 | cons x r ih=>
  obtain ⟨a,u⟩:=x
  by_cases h:a = k
  ·subst h;simp [set]
  ·simp only [set,h,if_false,List.map_cons,ih,List.mem_cons,Ne.symm h,false_or]
   split <;> simp
theorem nodup_set {m:List (κ × ν)} (h:(m.map (·.1)).Nodup) (k:κ) (v:ν):((set m k v).map (·.1)).Nodup:=by
 rw [keys_set]
 split
 ·exact h
 ·rename_i hk
  rw [List.nodup_append];refine ⟨h,by simp,fun a ha b hb=>?_⟩;rw [List.mem_singleton.1 hb];intro e;exact hk (e ▸ ha)
theorem get_none {m:List (κ × ν)} {k:κ}:get m k = none ↔ k ∉ m.map (·.1):=by
 induction m with
 | nil=>simp [get]
 | cons x r ih=>
  obtain ⟨a,u⟩:=x
  by_cases h:a = k
  ·subst h;simp [get]
  ·simp [get,h,ih,Ne.symm h]
theorem get_mem {m:List (κ × ν)} {k:κ} {v:ν} (h:get m k = some v):(k,v) ∈ m:=by
 induction m with
 | nil=>simp [get] at h
 | cons x r ih=>
  obtain ⟨a,u⟩:=x
  by_cases e:a = k
  ·subst e;simp [get] at h;subst h;simp
  ·simp only [get,e,if_false] at h;exact List.mem_cons_of_mem _ (ih h)
theorem mem_get {m:List (κ × ν)} (hn:(m.map (·.1)).Nodup) {k:κ} {v:ν} (h:(k,v) ∈ m):get m k = some v:=by
 induction m with
 | nil=>simp at h
 | cons x r ih=>
  obtain ⟨a,u⟩:=x;simp only [List.map_cons,List.nodup_cons] at hn;rcases List.mem_cons.1 h with e | h
  ·cases e;simp [get]
  ·have:a ≠ k:=fun e=>hn.1 (e ▸ List.mem_map.2 ⟨(k,v),h,rfl⟩)
   simp only [get,this,if_false];exact ih hn.2 h
theorem len_set (m:List (κ × ν)) (k:κ) (v:ν):(set m k v).length <= m.length + 1:=by
 induction m with
 | nil=>simp [set]
 | cons x r ih=>
  obtain ⟨a,u⟩:=x;unfold set
  split
  ·simp
  ·simpa using ih
end AL
end Go.Ep

namespace Go.Ep.M.V
open Go

def zw (d:TDot):Bool:=decide (1 <= d.dev) && (decide (1 <= d.n) && decide (d.n <= 281474976710655))
theorem xD {d:TDot}:zw d = true ↔ 1 <= d.dev /\ 1 <= d.n /\ d.n <= 281474976710655:=by simp [zw]
theorem WB (d:TDot):xH d = pure (zw d):=by
 unfold xH;rw [zT,zT,zA];refine congrArg pure ?_;rw [Bool.eq_iff_iff,xD];simp only [Bool.and_eq_true,decide_eq_true_eq];omega
theorem wx (d:TDot):vZ d = pure (zw d):=by
 unfold vZ;rw [zT,zT,zA];refine congrArg pure ?_;rw [Bool.eq_iff_iff,xD];simp only [Bool.and_eq_true,decide_eq_true_eq];omega
theorem Uy (a b:List TDot) (h:a.length <= 1000000000000):WU a b = pure (decide (a = b)):=by
 unfold WU
 by_cases hl:(a.length:Int) = b.length
 ·simp only [hl,decide_true,Bool.not_true,cond_false];have:=yr (body:=Zf a b) a (fun i=>(i:Int)) (fun i x=>decide (b[i]? = some x)) (.brk ()) (.ret false) (fun i x hx hi=>by
   have hb:i < b.length:=by omega
   unfold Zf;rw [zF hx,zF (List.getElem?_eq_getElem hb),zf (by omega)];simp only [zA,List.getElem?_eq_getElem hb,Option.some.injEq];have:decide ((i:Int) < (a.length:Int)) = true:=by simpa using hi
   rw [this,cond_true]
   by_cases he:b[i] = x
   ·subst he;simp
   ·rw [if_neg (by simpa using he)];have:(decide (x.dev = b[i].dev) && decide (x.n = b[i].n)) = false:=by
     rw [Bool.eq_false_iff];intro hc;simp at hc;apply he
     cases x;cases hh:b[i];simp_all
    rw [this];rfl) (by
   unfold Zf;simp)
  rw [show (0:Int) = ((0:Nat):Int) from rfl,this]
  by_cases he:a = b
  ·subst he;rw [if_pos]
   ·simp [zA,ul]
   ·rw [List.all_eq_true];intro ⟨x,i⟩ hx;rw [List.mk_mem_zipIdx_iff_getElem?] at hx;simpa using hx
  ·rw [if_neg]
   ·simp [he,zA,UZ]
   ·intro hall;rw [List.all_eq_true] at hall;apply he;apply List.ext_getElem (by omega);intro i h1 h2;have:=hall (a[i],i) (by rw [List.mk_mem_zipIdx_iff_getElem?];exact List.getElem?_eq_getElem h1);simp [h2] at this;exact this.symm
 ·have hne:a ≠ b:=fun e=>hl (by rw [e])
  simp [hl,hne]

def ofV : List TDot -> Int -> Int
 | [],_=>0
 | d :: r,dev=>if d.dev = dev /\ zw d = true then max d.n (ofV r dev) else ofV r dev
theorem wEa (v:List TDot) (dev:Int):0 <= ofV v dev /\ ofV v dev <= 281474976710655:=by
 induction v with
 | nil=>simp [ofV]
 | cons d r ih=>
  simp only [ofV]
  split
  ·rename_i h;have:=xD.1 h.2;omega
  ·exact ih
theorem ofV_pos {v:List TDot} {dev:Int}:0 < ofV v dev ↔ ∃ d ∈ v,d.dev = dev /\ zw d = true:=by
 induction v with
 | nil=>simp [ofV]
 | cons d r ih=>
  simp only [ofV,List.mem_cons,exists_eq_or_imp]
  split
  ·rename_i h
   have:=xD.1 h.2
   constructor
   ·intro _;exact .inl h
   ·intro _;omega
  ·rename_i h
   rw [ih]
   constructor
   ·exact .inr
   ·rintro (hh | hh)
    ·exact absurd hh h
    ·exact hh
def insI : List Int -> Int -> List Int
 | [],k=>[k]
 | a :: r,k=>if k < a then k :: a :: r else if k = a then a :: r else a :: insI r k
theorem UI {l:List Int} {k q:Int}:q ∈ insI l k ↔ q = k \/ q ∈ l:=by
 induction l with
 | nil=>simp [insI]
 | cons a r ih=>
  unfold insI
  split
  ·simp
  ·split
   ·rename_i h;subst h;simp
   ·simp only [List.mem_cons,ih];constructor
    ·rintro (h | h | h) <;> simp [h]
    ·rintro (h | h | h) <;> simp [h]
theorem uM {l:List Int} (h:l.Pairwise (· < ·)) (k:Int):(insI l k).Pairwise (· < ·):=by
 induction l with
 | nil=>simp [insI]
 | cons a r ih=>
  obtain ⟨h1,h2⟩:=List.pairwise_cons.1 h;unfold insI
  split
  ·rename_i hk
   refine List.pairwise_cons.2 ⟨fun x hx=>?_,h⟩;rcases List.mem_cons.1 hx with rfl | hx
   ·exact hk
   ·have:=h1 x hx;omega
  ·split
   ·exact h
   ·refine List.pairwise_cons.2 ⟨fun x hx=>?_,ih h2⟩;rcases UI.1 hx with rfl | hx
    ·omega
    ·exact h1 x hx
theorem Ws (l : List Int) (k : Int) : (insI l k).length <= l.length + 1 := by
  induction l with
  | nil => simp [insI]
  | cons a r ih => unfold insI; split <;> try split
                   all_goals simp_all
def Zp (l:List Int) (d:TDot):List Int:=if zw d then insI l d.dev else l
def devsL (v:List TDot):List Int:=v.foldl Zp []
theorem Wt (v:List TDot):∀ l:List Int,l.Pairwise (· < ·) -> (v.foldl Zp l).Pairwise (· < ·) /\ (∀ k,k ∈ v.foldl Zp l ↔ k ∈ l \/ ∃ d ∈ v,d.dev = k /\ zw d = true) /\ (v.foldl Zp l).length <= l.length + v.length:=by
 induction v with
 | nil=>intro l h;simp [h]
 | cons d r ih=>
  intro l h;simp only [List.foldl_cons];unfold Zp
  split
  ·rename_i hg
   obtain ⟨h1,h2,h3⟩:=ih _ (uM h d.dev);refine ⟨h1,fun k=>?_,?_⟩
   ·have:=h2 k;unfold Zp at this;rw [this,UI]
    constructor
    ·rintro ((rfl | h) | ⟨e,he,h⟩)
     ·exact .inr ⟨d,by simp,rfl,hg⟩
     ·exact .inl h
     ·exact .inr ⟨e,by simp [he],h⟩
    ·rintro (h | ⟨e,he,h⟩)
     ·exact .inl (.inr h)
     ·rcases List.mem_cons.1 he with rfl | he
      ·exact .inl (.inl h.1.symm)
      ·exact .inr ⟨e,he,h⟩
   ·have:=Ws l d.dev;simp only [List.length_cons];unfold Zp at h3;omega
  ·rename_i hg
   obtain ⟨h1,h2,h3⟩:=ih _ h;refine ⟨h1,fun k=>?_,?_⟩
   ·have:=h2 k;unfold Zp at this;rw [this]
    constructor
    ·rintro (h | ⟨e,he,h⟩)
     ·exact .inl h
     ·exact .inr ⟨e,by simp [he],h⟩
    ·rintro (h | ⟨e,he,h⟩)
     ·exact .inl h
     ·rcases List.mem_cons.1 he with rfl | he
      ·exact absurd h.2 hg
      ·exact .inr ⟨e,he,h⟩
   ·simp only [List.length_cons];unfold Zp at h3;omega
theorem wO {v:List TDot} {k:Int}:k ∈ devsL v ↔ 0 < ofV v k:=by rw [ofV_pos];simpa [devsL] using (Wt v [] List.Pairwise.nil).2.1 k
def vl (m:List (Int × Int)) (d:TDot):List (Int × Int):=if zw d then AL.set m d.dev (max (AL.getZ m d.dev 0) d.n) else m
def wc (v:List TDot):List (Int × Int):=v.foldl vl []
theorem Jx (v:List TDot):∀ m:List (Int × Int),(m.map (·.1)).Nodup -> ((v.foldl vl m).map (·.1)).Nodup /\ ((∀ k,0 <= AL.getZ m k 0) -> ∀ k,AL.getZ (v.foldl vl m) k 0 = max (AL.getZ m k 0) (ofV v k)) /\ (v.foldl vl m).length <= m.length + v.length /\ (∀ k,k ∈ (v.foldl vl m).map (·.1) -> k ∈ m.map (·.1) \/ 0 < ofV v k):=by
 induction v with
 | nil=>
  intro m h;refine ⟨h,fun h0 k=>?_,by simp,fun k hk=>.inl hk⟩;have:=h0 k;simp only [List.foldl_nil,ofV];omega
 | cons d r ih=>
  intro m h;simp only [List.foldl_cons]
  by_cases hg:zw d = true
  ·have hd:=xD.1 hg;have e:vl m d = AL.set m d.dev (max (AL.getZ m d.dev 0) d.n):=by simp [vl,hg]
   rw [e];obtain ⟨h1,h2,h3,h4⟩:=ih _ (AL.nodup_set h d.dev (max (AL.getZ m d.dev 0) d.n));refine ⟨h1,fun h0 k=>?_,?_,fun k hk=>?_⟩
   ·rw [h2 (fun q=>by rw [AL.getZ_set];have:=h0 q;have:=h0 d.dev;split <;> omega),AL.getZ_set];simp only [ofV]
    by_cases hk:d.dev = k
    ·subst hk;simp only [if_true,hg,and_self];omega
    ·simp [hk]
   ·have:=AL.len_set m d.dev (max (AL.getZ m d.dev 0) d.n);simp only [List.length_cons];omega
   ·simp only [ofV];rcases h4 k hk with h5 | h5
    ·rw [AL.keys_set] at h5
     split at h5
     ·exact .inl h5
     ·rcases List.mem_append.1 h5 with h5 | h5
      ·exact .inl h5
      ·right
       rw [List.mem_singleton.1 h5,if_pos ⟨rfl,hg⟩];omega
    ·right;split <;> omega
  ·have e:vl m d = m:=by simp [vl,hg]
   rw [e];obtain ⟨h1,h2,h3,h4⟩:=ih m h;have e2:∀ k,ofV (d :: r) k = ofV r k:=fun k=>by simp only [ofV];rw [if_neg (fun hh=>hg hh.2)]
   exact ⟨h1,fun h0 k=>by rw [h2 h0,e2],by simp only [List.length_cons];omega,fun k hk=>by rw [e2];exact h4 k hk⟩
theorem vA (v:List TDot):((wc v).map (·.1)).Nodup:=(Jx v [] (by simp)).1
theorem wP (v:List TDot) (k:Int):AL.getZ (wc v) k 0 = ofV v k:=by
 have:=(Jx v [] (by simp)).2.1 (fun _=>Int.le_refl _) k;have h2:=wEa v k;rw [wc,this];show max 0 (ofV v k) = _;omega
theorem uj {v:List TDot} {k n:Int} (h:(k,n) ∈ wc v):n = ofV v k /\ 0 < n:=by
 have h1:=AL.mem_get (vA v) h;have h2:AL.getZ (wc v) k 0 = n:=by simp [AL.getZ,h1]
 rw [wP] at h2;have h3:=(Jx v [] (by simp)).2.2.2 k (List.mem_map.2 ⟨_,h,rfl⟩);simp at h3;omega
def updM (h:Int × Int -> Int) (m:List (Int × Int)) (L:List Nat):List (Int × Int):=m.zipIdx.map fun y=>if y.2 ∈ L then (y.1.1,h y.1) else y.1
theorem vn {h:Int × Int -> Int} {m:List (Int × Int)} {L:List Nat} {i:Nat}:(updM h m L)[i]? = (m[i]?).map fun e=>if i ∈ L then (e.1,h e) else e:=by
 unfold updM;rw [List.getElem?_map,List.getElem?_zipIdx]
 cases m[i]? <;> simp
theorem Jy {h:Int × Int -> Int} {m:List (Int × Int)} {L:List Nat}:(updM h m L).length = m.length:=by simp [updM]
theorem set_at {m:List (Int × Int)} (hn:(m.map (·.1)).Nodup) {i:Nat} {e:Int × Int} (hi:m[i]? = some e) (v:Int):AL.set m e.1 v = m.set i (e.1,v):=by
 induction m generalizing i with
 | nil=>simp at hi
 | cons x r ih=>
  obtain ⟨a,u⟩:=x;simp only [List.map_cons,List.nodup_cons] at hn
  cases i with
  | zero=>simp at hi;subst hi;simp [AL.set]
  | succ i=>
   simp only [List.getElem?_cons_succ] at hi;have:a ≠ e.1:=fun he=>hn.1 (he ▸ List.mem_map.2 ⟨e,List.mem_of_getElem? hi,rfl⟩)
   simp only [AL.set,this,if_false,List.set_cons_succ];rw [ih hn.2 hi]
theorem Uz {h:Int × Int -> Int} {m:List (Int × Int)} {L:List Nat}:(updM h m L).map (·.1) = m.map (·.1):=by
 apply List.ext_getElem?;intro i;rw [List.getElem?_map,vn,List.getElem?_map]
 cases m[i]? with
 | none=>rfl
 | some e=>simp only [Option.map_some];split <;> rfl
def cmpD (a b:TDot):Int:=if a = b then 0 else if zM a b then -1 else 1
theorem ZL (a b:TDot):ZW a b = pure (cmpD a b):=by
 unfold ZW cmpD;have h1:(decide (a.dev = b.dev) && decide (a.n = b.n)) = decide (a = b):=by
  rw [Bool.eq_iff_iff];cases a;cases b;simp
 have h2:(cond (decide (a.dev < b.dev)) (pure true) (cond (decide (a.dev = b.dev)) (pure (decide (a.n < b.n))) (pure false)):M Bool) = pure (zM a b):=by
  rw [zT,qv];rfl
 rw [h1,h2,yR,zA]
 split
 ·rfl
 ·cases zM a b <;> rfl
theorem Zq {a b:TDot}:cmpD a b < 0 ↔ zM a b = true:=by
 unfold cmpD
 split
 ·rename_i h;subst h;simp [zM]
 ·split <;> simp_all
theorem cmpD_pos {a b:TDot}:0 < cmpD a b ↔ zM b a = true:=by
 unfold cmpD
 by_cases h:a = b
 ·subst h;simp [zM]
 ·rw [if_neg h]
  cases a;cases b
  simp only [TDot.mk.injEq] at h;simp only [zM,Bool.or_eq_true,Bool.and_eq_true,decide_eq_true_eq]
  split <;> omega
theorem VR (l:List TDot) (d:TDot) (h:l.length <= 1000000000000):un l d = pure ((l.filter fun x=>zM x d) ++ [d] ++ (l.filter fun x=>zM d x)):=by
 unfold un;have c0:∀ o:List TDot,o.length <= 1000000000000 -> True:=fun _ _=>trivial
 have h1:=uL (body:=Yp l d) l (fun i (o:List TDot)=>((i:Int),o)) (fun o x=>if zM x d then o ++ [x] else o) (fun o=>pure o) (fun i o=>o.length <= i) (fun i x o hx hi ho=>by
  have h1:decide ((i:Int) < (l.length:Int)) = true:=by simpa using hi
  unfold Yp;simp only [h1,cond_true,zF hx,zA,ZL,zB,zf (show i < 9223372036854775807 by omega),yR,Zq]
  split
  ·rw [zD (by simp;omega)];exact ⟨rfl,by simp;omega⟩
  ·exact ⟨rfl,by omega⟩) (fun o _=>by unfold Yp;simp [zA]) [] (by simp)
 have h2:∀ o0:List TDot,o0.length <= 1000000000001 -> loop (uy l d) (0,o0) = pure (l.foldl (fun o x=>if zM d x then o ++ [x] else o) o0):=fun o0 ho0=>by
  have:=uL (body:=uy l d) l (fun i (o:List TDot)=>((i:Int),o)) (fun o x=>if zM d x then o ++ [x] else o) (fun o=>pure o) (fun i o=>o.length <= o0.length + i) (fun i x o hx hi ho=>by
   have h1:decide ((i:Int) < (l.length:Int)) = true:=by simpa using hi
   unfold uy;simp only [h1,cond_true,zF hx,zA,ZL,zB,zf (show i < 9223372036854775807 by omega),yR,cmpD_pos]
   split
   ·rw [zD (by simp;omega)];exact ⟨rfl,by simp;omega⟩
   ·exact ⟨rfl,by omega⟩) (fun o _=>by unfold uy;simp [zA]) o0 (by simp)
  exact this
 have hf:∀ (p:TDot -> Bool) (l o:List TDot),l.foldl (fun o x=>if p x then o ++ [x] else o) o = o ++ l.filter p:=by
  intro p l
  induction l with
  | nil=>simp
  | cons x r ih=>
   intro o;rw [List.foldl_cons,ih,List.filter_cons]
   split <;> simp
 rw [show ((0:Int),([]:List TDot)) = (((0:Nat):Int),[]) from rfl,h1,hf,zA,zD,h2,hf,zA]
 ·rfl
 ·have:=List.length_filter_le (fun x=>zM x d) l;simp;omega
 ·have:=List.length_filter_le (fun x=>zM x d) l;simp;omega
def ones (l:List Int):List TDot:=l.map fun k=>⟨k,1⟩
theorem yHa {l:List Int} (h:l.Pairwise (· < ·)) (k:Int):((ones l).filter fun x=>zM x ⟨k,1⟩) ++ [⟨k,1⟩] ++ ((ones l).filter fun x=>zM ⟨k,1⟩ x) = ones (insI l k):=by
 induction l with
 | nil=>rfl
 | cons a r ih=>
  obtain ⟨h1,h2⟩:=List.pairwise_cons.1 h;have i2:=ih h2;unfold insI
  by_cases c1:k < a
  ·rw [if_pos c1];have e1:(ones (a :: r)).filter (fun x=>zM x ⟨k,1⟩) = []:=by
    rw [List.filter_eq_nil_iff];intro x hx;simp only [ones,List.map_cons,List.mem_cons,List.mem_map] at hx;rcases hx with rfl | ⟨b,hb,rfl⟩
    ·simp [zM];omega
    ·have:=h1 b hb;simp [zM];omega
   have e2:(ones (a :: r)).filter (fun x=>zM ⟨k,1⟩ x) = ones (a :: r):=by
    rw [List.filter_eq_self];intro x hx;simp only [ones,List.map_cons,List.mem_cons,List.mem_map] at hx;rcases hx with rfl | ⟨b,hb,rfl⟩
    ·simp [zM];omega
    ·have:=h1 b hb;simp [zM];omega
   rw [e1,e2];rfl
  ·rw [if_neg c1]
   by_cases c2:k = a
   ·subst c2;rw [if_pos rfl];have e1:(ones (k :: r)).filter (fun x=>zM x ⟨k,1⟩) = []:=by
     rw [List.filter_eq_nil_iff];intro x hx;simp only [ones,List.map_cons,List.mem_cons,List.mem_map] at hx;rcases hx with rfl | ⟨b,hb,rfl⟩
     ·simp [zM]
     ·have:=h1 b hb;simp [zM];omega
    have e2:(ones (k :: r)).filter (fun x=>zM ⟨k,1⟩ x) = ones r:=by
     show List.filter _ (⟨k,1⟩ :: ones r) = _;rw [List.filter_cons,if_neg (by simp [zM]),List.filter_eq_self];intro x hx;simp only [ones,List.mem_map] at hx;obtain ⟨b,hb,rfl⟩:=hx;have:=h1 b hb;simp [zM];omega
    rw [e1,e2];rfl
   ·rw [if_neg c2];show (List.filter _ (⟨a,1⟩ :: ones r)) ++ _ ++ (List.filter _ (⟨a,1⟩ :: ones r)) = ⟨a,1⟩ :: ones (insI r k);rw [List.filter_cons,if_pos (by simp [zM];omega),List.filter_cons,if_neg (by simp [zM];omega),<- i2]
    rfl
theorem equal_eq (a b:List TDot) (h:a.length <= 1000000000000):yQ a b = pure (decide (a = b)):=by
 have e:yQ a b = WU a b:=rfl;rw [e,Uy a b h]
theorem zda (a b:List TDot) (h:a.length <= 1000000000000):UD a b = pure (decide (a = b)):=by
 unfold UD;rw [equal_eq a b h,zB,zA]
end Go.Ep.M.V


/- Texts that the walks and laws lean on, side by side. -/
import Derived.Test.YtkebaehlcmgccaaGreatMBr2
import Derived.Test.YtkebaehlcmgccaaGreatMBr3
import Derived.Test.YtkebaehlcmgccaaGreatMBr4
import Derived.Test.YtkebaehlcmgccaaGreatMBr5
import Derived.Test.YtkebaehlcmgccaaGreatMBr6
import Derived.Test.YtkebaehlcmgccaaGreatMBr7
import Derived.Test.YtkebaehlcmgccaaGreatMBr8
import Derived.Test.YtkebaehlcmgccaaGreatMBr9
set_option linter.unusedVariables false
set_option linter.unusedSimpArgs false
namespace Go.Proofs
open Go.Ep Tryz
set_option maxHeartbeats 1000000
set_option maxRecDepth 100000
set_option linter.unusedVariables false
set_option linter.unusedSimpArgs false


theorem xj (b_1:List Int) (bad_2:Int) (r0:Int × List Int × Int) (h:(yr b_1 bad_2).wp (· = r0)):PObj prog 10 [.ref 100 0] [(100,.cells 67 [.d (.sl (List.map (eK .u8) b_1)),.d (.v (.int .i64 bad_2))])] [100] (.d (.v (.int .i64 r0.1))) (fun _:Unit=>[(100,.cells 67 [.d (.sl (List.map (eK .u8) r0.2.1)),.d (.v (.int .i64 r0.2.2))])]):=by
 refine PObj.intro (sl:=[(0,_)]) func10 rfl ntmps10 rfl rfl rfl ?_;intro ctx hK pv;refine wQ<|wR<|wa ?_;refine wN<|wQ<|wQ<|wR<|wm ?_;obtain ⟨y3,hy4,h⟩:=iDet h;refine xO [(100,100)] [] [100] (xV b_1 bad_2 y3 hy4) call27<|ws (LR.gtr rfl rfl)<|wN ?_;refine wJ (zH h) (fun (⟨v5,v6⟩:List Int × Int) (_:Unit)=>⟨10,[(0,.ref 100 0)],[(100,.cells 67 [.d (.sl (List.map (eK .u8) v5)),.d (.v (.int .i64 v6))]),(1100,.pin 100 (pv 100))]⟩) (fun h=>?_) ?_
 ·refine xD h rfl (fun _ h=>?_) (fun _ h=>?_)
  ·refine wz (tl:=[(0,_)]) (to:=[(100,_),(1100,_)]) ?_;refine wR<|wm ?_;obtain ⟨y8,hy9,h⟩:=iDet h;refine xO [(100,100)] [] [100] (zN 4 y3.2.1 y3.2.2 y8 hy9) call34<|wN ?_;exact ⟨(y8.1,y8.2),(),h,sP⟩
  ·refine wK ?_;exact ⟨(y3.2.1,y3.2.2),(),h,sP⟩
 ·rintro ⟨v5,v6⟩ _ h;refine wQ<|wR<|wm ?_;obtain ⟨y10,hy11,h⟩:=iDet h;refine xO [(100,100)] [] [100] (zY v5 v6 y10 hy11) call26<|wa ?_;refine wN<|wX ?_;cases h;exact EndsO.mk () (.inr rfl) (sP (tl:=[(2,_)]) (to:=[(100,_),(1100,_)])) (.cons (.tmp rfl)<|.nil) rfl rfl

theorem uL (e1:TEvent) (nl2:Bool) (m3:List (TDot × TEvent)) (r0:Bool × (List (TDot × TEvent))) (h:(Zq e1 nl2 m3).wp (· = r0)):PObj prog 67 [.mp 100,.agg (List.map .d (TEvent.e e1))] [(100,.mapH nl2 [.u16,.u64] true (encM TDot.k TEvent.e m3))] [] (.mp 100) (fun _:Unit=>[(100,.mapH r0.1 [.u16,.u64] true (encM TDot.k TEvent.e r0.2))]):=by
 refine PObj.intro (sl:=[(0,_),(1,_)]) func67 rfl ntmps67 rfl rfl rfl ?_;intro ctx hK pv;refine wQ<|wR<|ws (LR.box rfl rfl rfl rfl)<|wa ?_;refine wN<|wQ<|wQ<|wR<|wm ?_;refine ws (LR.eqlH underlying104 rfl rfl)<|wN ?_;refine wJ (zH h) (fun (v4:List (TDot × TEvent)) (⟨bs5,ck6⟩:List Nat × Nat)=>⟨14,[(0,.mp 100),(3,.ref 3 0)],[(3,.cells 90 [.d (.v (.int .u16 e1.dot.dev)),.d (.v (.int .u64 e1.dot.n)),.d (.v (.int .u8 e1.kind)),.d (.v (.int .u64 e1.cid)),.d (.v (.int .u8 e1.field)),.d (.v (.string e1.text)),.d (.sl (List.map TDot.e e1.kills))]),(100,.map [.u16,.u64] true (encM TDot.k TEvent.e v4) bs5 ck6)]⟩) (fun h=>?_) ?_
 ·refine wC rfl (fun hc7=>?_) (fun hc7=>?_)
  ·replace h:=iT hc7 h;refine PWc.sub (Sub.hT (id:=100) rfl hc7)<|wR<|ws (LR.makeMap [.u16,.u64] true rfl)<|wa ?_;refine wy (tl:=[(0,_),(1,_),(3,_),(4,_),(6,_)]) (to:=[(3,_),(7,_),(100,_)]) ?_;refine PWl.sub (Sub.moveMap (id1:=100) (id2:=7) (j:=0) rfl rfl rfl rfl)<|wN ?_;exact ⟨([]:List (TDot × TEvent)),([],0),h,sP⟩
  ·replace h:=iF hc7 h;refine PWc.hF (id:=100) rfl hc7 (fun bs8 ck8=>?_);refine wK ?_;exact ⟨m3,(bs8,ck8),h,sP⟩
 ·rintro v4 ⟨bs5,ck6⟩ h;refine wQ<|wz (tl:=[(0,_),(3,_)]) (to:=[(3,_),(100,_)]) ?_;refine PWc.regionE [⟨[8],[],[],[],[],[100],[],[]⟩,⟨[9],[],[],[],[],[3],[],[]⟩,⟨[10],[],[3],[],[],[],[],[]⟩,⟨[11],[],[3],[],[],[],[],[]⟩,{ws:=[12]},⟨[],[100],[100],[],[],[],[],[]⟩] (by kernel_rfl) (by kernel_rfl) rfl<|km ?_;refine kp (fun _ U W=>fR underlying90 rfl sizeOf87 (by decide) rfl (U rfl rfl)) ?_;refine kp (fun _ U W=>lA (ps:=[_,_]) isAgg87 sizeOf87 (U rfl rfl) (W rfl rfl) rfl rfl) ?_;refine kp (fun _ U W=>lA (ps:=[_,_,_,_,_,_,_]) isAgg90 sizeOf90 (U rfl rfl) (W rfl rfl) rfl rfl) ?_;obtain ⟨v9,hy10,h⟩:=iDet h;refine kp (fun _ U W=>cN (uJ e1 v9 hy10) (U rfl rfl) call115 (evsE U rfl rfl) rfl rfl rfl) ?_;refine ks (fun _ U W=>LR.setM (eV:=TEvent.e) (q:=e1.dot) (v:=v9) (m:=v4) TDot.k_inj underlying104 key104 (U rfl rfl) (W rfl rfl) (U rfl rfl) rfl rfl (U rfl rfl) rfl (fun h=>by cases h)) ?_;refine PQe.nil<|wQ<|wR<|wm ?_;refine wa ?_;refine wN<|wX ?_;cases h;exact EndsO.mk () (.inr rfl) (Sub.trans (Sub.toH (id:=100) rfl)<|sP (tl:=[(4,_)]) (to:=[(100,_)])) (.cons (.tmp rfl)<|.nil) rfl rfl

theorem vY (c1:List TPart) (l2:List TEvent) (r0:Unit ⊕ (List TPart × Bool × (List (TDot × TEvent)) × Bool × (List (TDot × TEvent)))) (h:(ug c1 l2).wp (· = r0)):(match r0 with | .inl r0=>PObj prog 21 [.d (.sl (List.map TPart.e c1)),.d (.sl (List.map TEvent.e l2))] [] [] (.tup [.d (.v (.pointer none)),.d (.v (.int .i64 1))]) (fun _:Unit=>[]) | .inr r0=>PObj prog 21 [.d (.sl (List.map TPart.e c1)),.d (.sl (List.map TEvent.e l2))] [] [] (.tup [.ref 12 0,.d (.v (.int .i64 0))]) (fun _:Unit=>[(12,.cells 106 [.d (.sl (List.map TPart.e r0.1)),.mp 30241,.mp 30242]),(30241,.mapH r0.2.1 [.u16,.u64] true (encM TDot.k TEvent.e r0.2.2.1)),(30242,.mapH r0.2.2.2.1 [.u16,.u64] true (encM TDot.k TEvent.e r0.2.2.2.2))])):=by
 cases r0 with
 | inl r0=>
  refine PObj.intro (sl:=[(0,_),(1,_)]) func21 rfl ntmps21 rfl rfl rfl ?_;intro ctx hK pv;refine wQ<|wR<|wa ?_;refine wa ?_;refine wN<|wQ<|wR<|wm ?_;obtain ⟨v3,hy4,h⟩:=iDet h;refine ws (LR.rowN (uk c1 v3 hy4) rfl call63 rfl rfl rfl rfl)<|PWl.frz [10] hK (.cons rfl<|.nil) rfl (by simp) ?_;refine ws (LR.buildR (ns:=[_,_,_]) Jx rfl rfl rfl)<|ws (LR.box rfl rfl rfl rfl)<|PWl.sub (Sub.ownMap (id:=12) (j:=1) (id':=30241) (ks:=[.u16,.u64]) (ag:=true) (ck:=0) rfl rfl rfl rfl)<|PWl.sub (Sub.ownMap (id:=12) (j:=2) (id':=30242) (ks:=[.u16,.u64]) (ag:=true) (ck:=0) rfl rfl rfl rfl)<|wy (tl:=[(0,_),(1,_),(12,_)]) (to:=[(12,_),(30241,_),(30242,_)]) ?_;refine wa ?_;refine wN<|wQ<|wQ<|wR<|wm ?_;refine ws (lM (enc:=TEvent.e) (L:=l2) underlying32 rfl)<|wm ?_;refine wN ?_;refine PWc.jnX (zH h) (fun (⟨nl5,v6,nl7,v8⟩:Bool × (List (TDot × TEvent)) × Bool × (List (TDot × TEvent))) (_:Unit)=>⟨84,[(0,.d (.sl (List.map TPart.e c1))),(1,.d (.sl (List.map TEvent.e l2))),(6,.ref 12 0)],[(12,.cells 106 [.d (.sl (List.map TPart.e v3)),.mp 30241,.mp 30242]),(30241,.mapH nl7 [.u16,.u64] true (encM TDot.k TEvent.e v8)),(30242,.mapH nl5 [.u16,.u64] true (encM TDot.k TEvent.e v6))]⟩) (fun h=>?_) ?_
  ·refine wB<|wM (fun (⟨v72,nl73,v74,nl75,v76⟩:Int × Bool × (List (TDot × TEvent)) × Bool × (List (TDot × TEvent))) (_:Unit)=>⟨84,[(0,.d (.sl (List.map TPart.e c1))),(1,.d (.sl (List.map TEvent.e l2))),(6,.ref 12 0),(13,.d (.sl (List.map TEvent.e l2))),(14,.d (.v (.int .i64 (List.length l2:Int)))),(15,.d (.v (.int .i64 v72)))],[(12,.cells 106 [.d (.sl (List.map TPart.e v3)),.mp 30241,.mp 30242]),(30241,.mapH nl75 [.u16,.u64] true (encM TDot.k TEvent.e v76)),(30242,.mapH nl73 [.u16,.u64] true (encM TDot.k TEvent.e v74))]⟩) () h (Sub.trans (Sub.nToH (id:=30241) rfl)<|Sub.trans (Sub.nToH (id:=30242) rfl)<|sP) ?_;rintro N ⟨v72,nl73,v74,nl75,v76⟩ _ h;refine wQ<|wR<|ws (LR.lss rfl rfl)<|wN<|wQ ?_;refine wC rfl (fun hc77=>?_) (fun hc77=>?_)
   ·replace h:=iT hc77 h;refine wK<|wQ ?_;refine PWc.jnX (zH h) (fun (⟨nl78,v79,nl80,v81⟩:Bool × (List (TDot × TEvent)) × Bool × (List (TDot × TEvent))) (_:Unit)=>⟨84,[(0,.d (.sl (List.map TPart.e c1))),(1,.d (.sl (List.map TEvent.e l2))),(6,.ref 12 0),(13,.d (.sl (List.map TEvent.e l2))),(14,.d (.v (.int .i64 (List.length l2:Int)))),(15,.d (.v (.int .i64 v72)))],[(12,.cells 106 [.d (.sl (List.map TPart.e v3)),.mp 30241,.mp 30242]),(30241,.mapH nl80 [.u16,.u64] true (encM TDot.k TEvent.e v81)),(30242,.mapH nl78 [.u16,.u64] true (encM TDot.k TEvent.e v79))]⟩) (fun h=>?_) ?_
    ·refine wB<|wQ<|wR<|wm ?_;obtain ⟨x82,hy83,h⟩:=iIdx h;refine ws (iX (enc:=TEvent.e) (L:=l2) (y:=x82) underlying32 sizeOf90 rfl rfl hy83 (fun _=>rfl))<|ws (lE (ys:=[_,_,_,_,_,_,_]) isAgg90 sizeOf90 rfl rfl rfl)<|ws (LR.allocZ (cs:=[_,_,_,_,_,_,_]) zeroValue90 rfl rfl rfl rfl)<|wa ?_;refine ws (sB (ns:=[_,_,_,_,_,_,_]) sizeOf90 rfl rfl rfl rfl rfl rfl rfl)<|wN<|wQ<|wQ ?_;refine wJ (zH h) (fun (v84:Bool) (_:Unit)=>⟨84,[(0,.d (.sl (List.map TPart.e c1))),(1,.d (.sl (List.map TEvent.e l2))),(6,.ref 12 0),(8,.ref 8 0),(13,.d (.sl (List.map TEvent.e l2))),(14,.d (.v (.int .i64 (List.length l2:Int)))),(15,.d (.v (.int .i64 v72))),(49,.d (.v (.bool v84)))],[(8,.cells 90 [.d (.v (.int .u16 x82.dot.dev)),.d (.v (.int .u64 x82.dot.n)),.d (.v (.int .u8 x82.kind)),.d (.v (.int .u64 x82.cid)),.d (.v (.int .u8 x82.field)),.d (.v (.string x82.text)),.d (.sl (List.map TDot.e x82.kills))]),(12,.cells 106 [.d (.sl (List.map TPart.e v3)),.mp 30241,.mp 30242]),(30241,.mapH nl75 [.u16,.u64] true (encM TDot.k TEvent.e v76)),(30242,.mapH nl73 [.u16,.u64] true (encM TDot.k TEvent.e v74))]⟩) (fun h=>?_) ?_
     ·refine wD (by kernel_rfl) (by kernel_rfl) ?_;refine qs (fun _ U W=>lA (ps:=[_,_,_,_,_,_,_]) isAgg90 sizeOf90 (U rfl rfl) (W rfl) rfl rfl) ?_;obtain ⟨v85,hy86,h⟩:=iDet h;refine qs (fun _ U W=>cN (uK x82 v85 hy86) (U rfl rfl) call64 (evsE U rfl rfl) rfl rfl rfl) ?_;refine qs (fun _ U W=>LR.not (U rfl rfl))<|qm ?_;refine PQl.split (d:=23) rfl (fun hg87=>?_) (fun hg87=>?_)
      ·replace h:=iT hg87 h;refine kF<|kF<|kF<|kU<|kU<|kU<|kU<|kU<|kU ?_;refine kU<|kU<|kU<|kU<|kF ?_;refine qs (fun _ U W=>pT (U rfl rfl) (U rfl rfl))<|qm ?_;refine kF<|kF<|kF<|kF<|kK (tl:=[(0,_),(1,_),(6,_),(8,_),(13,_),(14,_),(15,_),(24,_),(25,_),(26,_),(27,_),(28,_),(29,_),(30,_),(31,_),(32,_),(33,_),(34,_),(35,_),(36,_),(37,_),(39,_),(40,_),(41,_),(42,_),(43,_)]) ?_;refine kU<|kU<|kU<|kU<|kF ?_;refine qs (fun _ U W=>pT (U rfl rfl) (U rfl rfl))<|qN ?_;exact ⟨true,(),h,sP⟩
      ·replace h:=iF hg87 h;refine qt (fun _ U W=>mV (U rfl rfl)) ?_;refine qt (fun _ U W=>LR.gtr (U rfl rfl) (U rfl rfl)) ?_;refine qt (fun _ U W=>mV (U rfl rfl)) ?_;refine PQl.split (d:=26) rfl (fun hg88=>?_) (fun hg88=>?_)
       ·replace h:=iT hg88 h;refine qt (fun _ U W=>mV (U rfl rfl)) ?_;refine qt (fun _ U W=>mV (U rfl rfl)) ?_;refine qt (fun _ U W=>LR.subW (U rfl rfl) (U rfl rfl)) ?_;obtain ⟨x89,hy90,h⟩:=iIdx h;refine qt (fun _ U W=>iX (enc:=TEvent.e) (L:=l2) (y:=x89) underlying32 sizeOf90 (U rfl rfl) (U rfl rfl) hy90 (fun _=>rfl)) ?_;refine qt (fun _ U W=>fE underlying90 rfl sizeOf87 (by decide) rfl (U rfl rfl)) ?_;refine qt (fun _ U W=>lE (ys:=[_,_]) isAgg87 sizeOf87 (U rfl rfl) rfl rfl) ?_;refine qt (fun _ U W=>fR underlying90 rfl sizeOf87 (by decide) rfl (U rfl rfl)) ?_;refine qt (fun _ U W=>lA (ps:=[_,_]) isAgg87 sizeOf87 (U rfl rfl) (W rfl) rfl rfl) ?_;obtain ⟨v91,hy92,h⟩:=iDet h;refine qt (fun _ U W=>cN (uQ x89.dot x82.dot v91 hy92) (U rfl rfl) call65 (evsE U rfl rfl) rfl rfl rfl) ?_;refine qt (fun _ U W=>LR.geq (U rfl rfl) (U rfl rfl)) ?_;refine qt (fun _ U W=>pT (U rfl rfl) (U rfl rfl)) ?_;refine qs (fun _ U W=>pF (U rfl rfl) (U rfl rfl))<|qm ?_;refine PQl.split (d:=39) rfl (fun hg93=>?_) (fun hg93=>?_)
        ·replace h:=iT hg93 h;refine kF<|kF<|kK (tl:=[(0,_),(1,_),(6,_),(8,_),(13,_),(14,_),(15,_),(24,_),(25,_),(26,_),(27,_),(28,_),(29,_),(30,_),(31,_),(32,_),(33,_),(34,_),(35,_),(36,_),(37,_),(39,_),(40,_),(41,_)]) ?_;refine kF<|kF<|kU<|kU<|kU<|kU<|kF ?_;refine qs (fun _ U W=>pT (U rfl rfl) (U rfl rfl))<|qN ?_;exact ⟨true,(),h,sP⟩
        ·replace h:=iF hg93 h;refine qt (fun _ U W=>fR underlying90 rfl sizeOf5 (by decide) rfl (U rfl rfl)) ?_;refine qt (fun _ U W=>lD isAgg5 (U rfl rfl) (W rfl) rfl)<|kK (tl:=[(0,_),(1,_),(6,_),(8,_),(13,_),(14,_),(15,_),(24,_),(25,_),(26,_),(27,_),(28,_),(29,_),(30,_),(31,_),(32,_),(33,_),(34,_),(35,_),(36,_),(37,_),(39,_),(40,_),(41,_)]) ?_;refine qt (fun _ U W=>eQ (U rfl rfl) (U rfl rfl)) ?_;refine qt (fun _ U W=>mV (U rfl rfl)) ?_;refine PQl.split (d:=43) rfl (fun hg94=>?_) (fun hg94=>?_)
         ·replace h:=iT hg94 h;refine qt (fun _ U W=>mV (U rfl rfl)) ?_;refine qt (fun _ U W=>fR underlying90 rfl sizeOf87 (by decide) rfl (U rfl rfl)) ?_;refine qt (fun _ U W=>lA (ps:=[_,_]) isAgg87 sizeOf87 (U rfl rfl) (W rfl) rfl rfl) ?_;obtain ⟨v95,hy96,h⟩:=iDet h;refine qt (fun _ U W=>cN (wv l2 x82.dot v95 hy96) (U rfl rfl) call66 (evsE U rfl rfl) rfl rfl rfl) ?_;refine qt (fun _ U W=>pT (U rfl rfl) (U rfl rfl)) ?_;refine qs (fun _ U W=>pF (U rfl rfl) (U rfl rfl))<|qN ?_;exact ⟨v95,(),h,sP⟩
         ·replace h:=iF hg94 h;refine kF<|kF<|kF<|kF ?_;refine qt (fun _ U W=>pF (U rfl rfl) (U rfl rfl)) ?_;refine qs (fun _ U W=>pF (U rfl rfl) (U rfl rfl))<|qN ?_;exact ⟨false,(),h,sP⟩
       ·replace h:=iF hg88 h;refine kF<|kF<|kF<|kF<|kF<|kF<|kF<|kF<|kF ?_;refine kF ?_;refine qt (fun _ U W=>pF (U rfl rfl) (U rfl rfl)) ?_;refine qs (fun _ U W=>pF (U rfl rfl) (U rfl rfl))<|qm ?_;refine qt (fun _ U W=>fR underlying90 rfl sizeOf5 (by decide) rfl (U rfl rfl)) ?_;refine qt (fun _ U W=>lD isAgg5 (U rfl rfl) (W rfl) rfl) ?_;refine qt (fun _ U W=>eQ (U rfl rfl) (U rfl rfl))<|kK (tl:=[(0,_),(1,_),(6,_),(8,_),(13,_),(14,_),(15,_),(24,_),(25,_),(26,_),(27,_),(28,_),(29,_),(30,_),(31,_),(32,_),(33,_),(34,_),(35,_),(36,_),(37,_),(39,_),(40,_),(41,_),(42,_)]) ?_;refine qt (fun _ U W=>mV (U rfl rfl)) ?_;refine PQl.split (d:=43) rfl (fun hg97=>?_) (fun hg97=>?_)
        ·replace h:=iT hg97 h;refine qt (fun _ U W=>mV (U rfl rfl)) ?_;refine qt (fun _ U W=>fR underlying90 rfl sizeOf87 (by decide) rfl (U rfl rfl)) ?_;refine qt (fun _ U W=>lA (ps:=[_,_]) isAgg87 sizeOf87 (U rfl rfl) (W rfl) rfl rfl) ?_;obtain ⟨v98,hy99,h⟩:=iDet h;refine qt (fun _ U W=>cN (wv l2 x82.dot v98 hy99) (U rfl rfl) call66 (evsE U rfl rfl) rfl rfl rfl) ?_;refine qt (fun _ U W=>pT (U rfl rfl) (U rfl rfl)) ?_;refine qs (fun _ U W=>pF (U rfl rfl) (U rfl rfl))<|qN ?_;exact ⟨v98,(),h,sP⟩
        ·replace h:=iF hg97 h;refine kF<|kF<|kF<|kF ?_;refine qt (fun _ U W=>pF (U rfl rfl) (U rfl rfl)) ?_;refine qs (fun _ U W=>pF (U rfl rfl) (U rfl rfl))<|qN ?_;exact ⟨false,(),h,sP⟩
     ·rintro v84 _ h;refine wC rfl (fun hc100=>?_) (fun hc100=>?_)
      ·replace h:=iT hc100 h;refine wQ<|wR<|wa ?_;refine wa ?_;refine wN<|wX ?_;replace h:(Sum.inl _:Unit ⊕ (List TPart × Bool × (List (TDot × TEvent)) × Bool × (List (TDot × TEvent)))) = Sum.inl r0:=h;replace h:=Sum.inl.inj h;subst h;exact EndsO.mk () (.inr rfl) (sP (tl:=[(4,_),(5,_)]) (to:=[])) (.cons (.tmp rfl)<|.cons (.tmp rfl)<|.nil) rfl rfl
      ·replace h:=iF hc100 h;refine wK<|wQ<|wR<|ws (fR underlying90 rfl sizeOf5 (by decide) rfl rfl)<|ws (lD isAgg5 rfl rfl rfl)<|ws (eQ rfl rfl)<|wN ?_;refine wC rfl (fun hc101=>?_) (fun hc101=>?_)
       ·replace h:=iT hc101 h;refine wz (tl:=[(0,_),(1,_),(6,_),(8,_),(13,_),(14,_),(15,_)]) (to:=[(8,_),(12,_),(30241,_),(30242,_)]) ?_;refine PWc.regionE [⟨[53],[],[],[],[],[12],[],[]⟩,⟨[54],[],[],[],[],[12],[],[]⟩,⟨[55],[],[],[],[],[12],[],[]⟩,⟨[56],[],[],[],[],[12],[],[]⟩,⟨[57],[],[12],[],[],[30241],[],[]⟩,⟨[58],[],[8],[],[],[],[],[]⟩,⟨[57,59],[12,30241],[12,30241,30242],[],[(30241,[57])],[30241],[30242],[12,30241,30242]⟩,⟨[60],[],[],[],[],[12],[],[]⟩,⟨[61],[],[],[],[],[12],[],[]⟩,⟨[],[12],[12,30241],[],[],[],[30241,30242],[]⟩] (by kernel_rfl) (by kernel_rfl) rfl<|km ?_;refine km ?_;refine kp (fun _ U W=>LR.nilCheckRef (U rfl rfl)) ?_;refine kp (fun _ U W=>fR underlying106 rfl sizeOf104 (by decide) rfl (U rfl rfl)) ?_;refine kp (fun _ U W=>lD isAgg104 (U rfl rfl) (W rfl rfl) rfl) ?_;refine kp (fun _ U W=>lA (ps:=[_,_,_,_,_,_,_]) isAgg90 sizeOf90 (U rfl rfl) (W rfl rfl) rfl rfl) ?_;obtain ⟨y102,hy103,h⟩:=iDet h;refine PQe.callObjS [(100,30241),(500,12),(501,30242)] [57] [100,500,501] [(100,.mapH y102.1 [.u16,.u64] true (encM TDot.k TEvent.e y102.2)),(500,.cells 106 [.d (.sl (List.map TPart.e v3)),.junk,.mp 501])] [(501,.mapH nl73 [.u16,.u64] true (encM TDot.k TEvent.e v74))] (PObj.frame [(500,.cells 106 [.d (.sl (List.map TPart.e v3)),.mp 100,.mp 501]),(501,.mapH nl73 [.u16,.u64] true (encM TDot.k TEvent.e v74))] [(500,.cells 106 [.d (.sl (List.map TPart.e v3)),.junk,.mp 501]),(501,.mapH nl73 [.u16,.u64] true (encM TDot.k TEvent.e v74))] (uL x82 nl75 v76 y102 hy103) (fun _=>rfl) (fun _=>rfl) rfl rfl (.cons (.cells (.keep rfl<|.junk<|.keep rfl<|.nil))<|.cons (.same rfl)<|.nil)) hK (fun _ U=>⟨U rfl rfl,evsE U rfl rfl⟩) call67 (by first | rfl | (simp;done) | (simp [PV.nilD,PV.ren,rn];omega)) (by repeat' first | constructor | (congr 1;first | (simp;done) | (simp;omega) | omega)) (.cons rfl<|.cons rfl<|.nil) (.cons rfl<|.nil) (.cons (by first | rfl | (congr 1;first | (simp;done) | (simp;omega) | omega))<|.nil) rfl rfl rfl rfl rfl rfl (.inl rfl) rfl ?_;refine kp (fun _ U W=>LR.nilCheckRef (U rfl rfl)) ?_;refine kp (fun _ U W=>fR underlying106 rfl sizeOf104 (by decide) rfl (U rfl rfl)) ?_;refine ks (fun _ U W=>sB (ns:=[_,_,_]) sizeOf104 (U rfl rfl) (U rfl rfl) rfl rfl (W rfl rfl) rfl rfl)<|PQe.nil ?_;exact ⟨(nl73,v74,y102.1,y102.2),(),h,sP⟩
       ·replace h:=iF hc101 h;refine wz (tl:=[(0,_),(1,_),(6,_),(8,_),(13,_),(14,_),(15,_)]) (to:=[(8,_),(12,_),(30241,_),(30242,_)]) ?_;refine PWc.regionE [⟨[62],[],[],[],[],[12],[],[]⟩,⟨[63],[],[],[],[],[12],[],[]⟩,⟨[64],[],[],[],[],[12],[],[]⟩,⟨[65],[],[],[],[],[12],[],[]⟩,⟨[66],[],[12],[],[],[30242],[],[]⟩,⟨[67],[],[8],[],[],[],[],[]⟩,⟨[66,68],[12,30242],[12,30241,30242],[],[(30242,[66])],[30242],[30241],[12,30241,30242]⟩,⟨[69],[],[],[],[],[12],[],[]⟩,⟨[70],[],[],[],[],[12],[],[]⟩,⟨[],[12],[12,30242],[],[],[],[30241,30242],[]⟩] (by kernel_rfl) (by kernel_rfl) rfl<|km ?_;refine km ?_;refine kp (fun _ U W=>LR.nilCheckRef (U rfl rfl)) ?_;refine kp (fun _ U W=>fR underlying106 rfl sizeOf104 (by decide) rfl (U rfl rfl)) ?_;refine kp (fun _ U W=>lD isAgg104 (U rfl rfl) (W rfl rfl) rfl) ?_;refine kp (fun _ U W=>lA (ps:=[_,_,_,_,_,_,_]) isAgg90 sizeOf90 (U rfl rfl) (W rfl rfl) rfl rfl) ?_;obtain ⟨y104,hy105,h⟩:=iDet h;refine PQe.callObjS [(100,30242),(500,12),(501,30241)] [66] [100,500,501] [(100,.mapH y104.1 [.u16,.u64] true (encM TDot.k TEvent.e y104.2)),(500,.cells 106 [.d (.sl (List.map TPart.e v3)),.mp 501,.junk])] [(501,.mapH nl75 [.u16,.u64] true (encM TDot.k TEvent.e v76))] (PObj.frame [(500,.cells 106 [.d (.sl (List.map TPart.e v3)),.mp 501,.mp 100]),(501,.mapH nl75 [.u16,.u64] true (encM TDot.k TEvent.e v76))] [(500,.cells 106 [.d (.sl (List.map TPart.e v3)),.mp 501,.junk]),(501,.mapH nl75 [.u16,.u64] true (encM TDot.k TEvent.e v76))] (uL x82 nl73 v74 y104 hy105) (fun _=>rfl) (fun _=>rfl) rfl rfl (.cons (.cells (.keep rfl<|.keep rfl<|.junk<|.nil))<|.cons (.same rfl)<|.nil)) hK (fun _ U=>⟨U rfl rfl,evsE U rfl rfl⟩) call67 (by first | rfl | (simp;done) | (simp [PV.nilD,PV.ren,rn];omega)) (by repeat' first | constructor | (congr 1;first | (simp;done) | (simp;omega) | omega)) (.cons rfl<|.cons rfl<|.nil) (.cons rfl<|.nil) (.cons (by first | rfl | (congr 1;first | (simp;done) | (simp;omega) | omega))<|.nil) rfl rfl rfl rfl rfl rfl (.inl rfl) rfl ?_;refine kp (fun _ U W=>LR.nilCheckRef (U rfl rfl)) ?_;refine kp (fun _ U W=>fR underlying106 rfl sizeOf104 (by decide) rfl (U rfl rfl)) ?_;refine ks (fun _ U W=>sB (ns:=[_,_,_]) sizeOf104 (U rfl rfl) (U rfl rfl) rfl rfl (W rfl rfl) rfl rfl)<|PQe.nil ?_;exact ⟨(y104.1,y104.2,nl75,v76),(),h,sP⟩
    ·rintro ⟨nl78,v79,nl80,v81⟩ _ h;refine wR<|ws (LR.addW rfl rfl)<|wm ?_;refine wN ?_;exact ⟨((IntKind.i64.wrap (v72 + 1)),nl78,v79,nl80,v81),(),h,sP⟩
   ·replace h:=iF hc77 h;refine wZ ?_;exact ⟨(nl73,v74,nl75,v76),(),h,sP⟩
  ·rintro ⟨nl5,v6,nl7,v8⟩ _ h;refine wQ<|wQ ?_;refine wJ (zH h) (fun (v106:Bool) (_:Unit)=>⟨84,[(6,.ref 12 0),(82,.d (.v (.bool v106)))],[(12,.cells 106 [.d (.sl (List.map TPart.e v3)),.mp 30241,.mp 30242]),(30241,.mapH nl7 [.u16,.u64] true (encM TDot.k TEvent.e v8)),(30242,.mapH nl5 [.u16,.u64] true (encM TDot.k TEvent.e v6))]⟩) (fun h=>?_) ?_
   ·refine wR<|wm ?_;obtain ⟨v107,hy108,h⟩:=iDet h;refine xN (uo c1 v107 hy108) call68<|ws (LR.not rfl)<|wm ?_;refine wL (d:=75) rfl (fun hg109=>?_) (fun hg109=>?_)
    ·replace h:=iT hg109 h;refine wf<|wf<|wf<|wf<|wf<|wf<|ws (pT rfl rfl)<|wN ?_;exact ⟨true,(),h,sP⟩
    ·replace h:=iF hg109 h;refine wt (mV rfl) ?_;obtain ⟨v110,hy111,h⟩:=iDet h;refine wt (LR.rowN (Yc l2 v110 hy111) rfl call70 rfl rfl rfl rfl)<|wt (mV rfl) ?_;obtain ⟨v112,hy113,h⟩:=iDet h;refine PWl.frz [77] hK (.cons rfl<|.nil) rfl (by simp) ?_;refine wt (LR.rowN (Yb v110 c1 v112 hy113) rfl call69 rfl rfl rfl rfl)<|wt (LR.lenRow underlying88 rfl)<|wt (LR.gtr rfl rfl)<|ws (pF rfl rfl)<|wN ?_;exact ⟨(decide (0 < ((List.length v112):Int))),(),h,sP⟩
   ·rintro v106 _ h;refine wC rfl (fun hc114=>?_) (fun hc114=>?_)
    ·replace h:=iT hc114 h;refine wQ<|wR<|wa ?_;refine wa ?_;refine wN<|wX ?_;replace h:(Sum.inl _:Unit ⊕ (List TPart × Bool × (List (TDot × TEvent)) × Bool × (List (TDot × TEvent)))) = Sum.inl r0:=h;replace h:=Sum.inl.inj h;subst h;exact EndsO.mk () (.inr rfl) (sP (tl:=[(4,_),(5,_)]) (to:=[])) (.cons (.tmp rfl)<|.cons (.tmp rfl)<|.nil) rfl rfl
    ·replace h:=iF hc114 h;refine wK<|wQ<|wR<|wm ?_;refine wa ?_;refine wa ?_;refine wN<|wX ?_;exact nomatch (show (Sum.inr _:Unit ⊕ (List TPart × Bool × (List (TDot × TEvent)) × Bool × (List (TDot × TEvent)))) = Sum.inl r0 from h)
 | inr r0=>
  refine PObj.intro (sl:=[(0,_),(1,_)]) func21 rfl ntmps21 rfl rfl rfl ?_;intro ctx hK pv;refine wQ<|wR<|wa ?_;refine wa ?_;refine wN<|wQ<|wR<|wm ?_;obtain ⟨v3,hy4,h⟩:=iDet h;refine ws (LR.rowN (uk c1 v3 hy4) rfl call63 rfl rfl rfl rfl)<|PWl.frz [10] hK (.cons rfl<|.nil) rfl (by simp) ?_;refine ws (LR.buildR (ns:=[_,_,_]) Jx rfl rfl rfl)<|ws (LR.box rfl rfl rfl rfl)<|PWl.sub (Sub.ownMap (id:=12) (j:=1) (id':=30241) (ks:=[.u16,.u64]) (ag:=true) (ck:=0) rfl rfl rfl rfl)<|PWl.sub (Sub.ownMap (id:=12) (j:=2) (id':=30242) (ks:=[.u16,.u64]) (ag:=true) (ck:=0) rfl rfl rfl rfl)<|wy (tl:=[(0,_),(1,_),(12,_)]) (to:=[(12,_),(30241,_),(30242,_)]) ?_;refine wa ?_;refine wN<|wQ<|wQ<|wR<|wm ?_;refine ws (lM (enc:=TEvent.e) (L:=l2) underlying32 rfl)<|wm ?_;refine wN ?_;refine PWc.jnX (zH h) (fun (⟨nl5,v6,nl7,v8⟩:Bool × (List (TDot × TEvent)) × Bool × (List (TDot × TEvent))) (_:Unit)=>⟨84,[(0,.d (.sl (List.map TPart.e c1))),(1,.d (.sl (List.map TEvent.e l2))),(6,.ref 12 0)],[(12,.cells 106 [.d (.sl (List.map TPart.e v3)),.mp 30241,.mp 30242]),(30241,.mapH nl7 [.u16,.u64] true (encM TDot.k TEvent.e v8)),(30242,.mapH nl5 [.u16,.u64] true (encM TDot.k TEvent.e v6))]⟩) (fun h=>?_) ?_
  ·refine wB<|wM (fun (⟨v72,nl73,v74,nl75,v76⟩:Int × Bool × (List (TDot × TEvent)) × Bool × (List (TDot × TEvent))) (_:Unit)=>⟨84,[(0,.d (.sl (List.map TPart.e c1))),(1,.d (.sl (List.map TEvent.e l2))),(6,.ref 12 0),(13,.d (.sl (List.map TEvent.e l2))),(14,.d (.v (.int .i64 (List.length l2:Int)))),(15,.d (.v (.int .i64 v72)))],[(12,.cells 106 [.d (.sl (List.map TPart.e v3)),.mp 30241,.mp 30242]),(30241,.mapH nl75 [.u16,.u64] true (encM TDot.k TEvent.e v76)),(30242,.mapH nl73 [.u16,.u64] true (encM TDot.k TEvent.e v74))]⟩) () h (Sub.trans (Sub.nToH (id:=30241) rfl)<|Sub.trans (Sub.nToH (id:=30242) rfl)<|sP) ?_;rintro N ⟨v72,nl73,v74,nl75,v76⟩ _ h;refine wQ<|wR<|ws (LR.lss rfl rfl)<|wN<|wQ ?_;refine wC rfl (fun hc77=>?_) (fun hc77=>?_)
   ·replace h:=iT hc77 h;refine wK<|wQ ?_;refine PWc.jnX (zH h) (fun (⟨nl78,v79,nl80,v81⟩:Bool × (List (TDot × TEvent)) × Bool × (List (TDot × TEvent))) (_:Unit)=>⟨84,[(0,.d (.sl (List.map TPart.e c1))),(1,.d (.sl (List.map TEvent.e l2))),(6,.ref 12 0),(13,.d (.sl (List.map TEvent.e l2))),(14,.d (.v (.int .i64 (List.length l2:Int)))),(15,.d (.v (.int .i64 v72)))],[(12,.cells 106 [.d (.sl (List.map TPart.e v3)),.mp 30241,.mp 30242]),(30241,.mapH nl80 [.u16,.u64] true (encM TDot.k TEvent.e v81)),(30242,.mapH nl78 [.u16,.u64] true (encM TDot.k TEvent.e v79))]⟩) (fun h=>?_) ?_
    ·refine wB<|wQ<|wR<|wm ?_;obtain ⟨x82,hy83,h⟩:=iIdx h;refine ws (iX (enc:=TEvent.e) (L:=l2) (y:=x82) underlying32 sizeOf90 rfl rfl hy83 (fun _=>rfl))<|ws (lE (ys:=[_,_,_,_,_,_,_]) isAgg90 sizeOf90 rfl rfl rfl)<|ws (LR.allocZ (cs:=[_,_,_,_,_,_,_]) zeroValue90 rfl rfl rfl rfl)<|wa ?_;refine ws (sB (ns:=[_,_,_,_,_,_,_]) sizeOf90 rfl rfl rfl rfl rfl rfl rfl)<|wN<|wQ<|wQ ?_;refine wJ (zH h) (fun (v84:Bool) (_:Unit)=>⟨84,[(0,.d (.sl (List.map TPart.e c1))),(1,.d (.sl (List.map TEvent.e l2))),(6,.ref 12 0),(8,.ref 8 0),(13,.d (.sl (List.map TEvent.e l2))),(14,.d (.v (.int .i64 (List.length l2:Int)))),(15,.d (.v (.int .i64 v72))),(49,.d (.v (.bool v84)))],[(8,.cells 90 [.d (.v (.int .u16 x82.dot.dev)),.d (.v (.int .u64 x82.dot.n)),.d (.v (.int .u8 x82.kind)),.d (.v (.int .u64 x82.cid)),.d (.v (.int .u8 x82.field)),.d (.v (.string x82.text)),.d (.sl (List.map TDot.e x82.kills))]),(12,.cells 106 [.d (.sl (List.map TPart.e v3)),.mp 30241,.mp 30242]),(30241,.mapH nl75 [.u16,.u64] true (encM TDot.k TEvent.e v76)),(30242,.mapH nl73 [.u16,.u64] true (encM TDot.k TEvent.e v74))]⟩) (fun h=>?_) ?_
     ·refine wD (by kernel_rfl) (by kernel_rfl) ?_;refine qs (fun _ U W=>lA (ps:=[_,_,_,_,_,_,_]) isAgg90 sizeOf90 (U rfl rfl) (W rfl) rfl rfl) ?_;obtain ⟨v85,hy86,h⟩:=iDet h;refine qs (fun _ U W=>cN (uK x82 v85 hy86) (U rfl rfl) call64 (evsE U rfl rfl) rfl rfl rfl) ?_;refine qs (fun _ U W=>LR.not (U rfl rfl))<|qm ?_;refine PQl.split (d:=23) rfl (fun hg87=>?_) (fun hg87=>?_)
      ·replace h:=iT hg87 h;refine kF<|kF<|kF<|kU<|kU<|kU<|kU<|kU<|kU ?_;refine kU<|kU<|kU<|kU<|kF ?_;refine qs (fun _ U W=>pT (U rfl rfl) (U rfl rfl))<|qm ?_;refine kF<|kF<|kF<|kF<|kK (tl:=[(0,_),(1,_),(6,_),(8,_),(13,_),(14,_),(15,_),(24,_),(25,_),(26,_),(27,_),(28,_),(29,_),(30,_),(31,_),(32,_),(33,_),(34,_),(35,_),(36,_),(37,_),(39,_),(40,_),(41,_),(42,_),(43,_)]) ?_;refine kU<|kU<|kU<|kU<|kF ?_;refine qs (fun _ U W=>pT (U rfl rfl) (U rfl rfl))<|qN ?_;exact ⟨true,(),h,sP⟩
      ·replace h:=iF hg87 h;refine qt (fun _ U W=>mV (U rfl rfl)) ?_;refine qt (fun _ U W=>LR.gtr (U rfl rfl) (U rfl rfl)) ?_;refine qt (fun _ U W=>mV (U rfl rfl)) ?_;refine PQl.split (d:=26) rfl (fun hg88=>?_) (fun hg88=>?_)
       ·replace h:=iT hg88 h;refine qt (fun _ U W=>mV (U rfl rfl)) ?_;refine qt (fun _ U W=>mV (U rfl rfl)) ?_;refine qt (fun _ U W=>LR.subW (U rfl rfl) (U rfl rfl)) ?_;obtain ⟨x89,hy90,h⟩:=iIdx h;refine qt (fun _ U W=>iX (enc:=TEvent.e) (L:=l2) (y:=x89) underlying32 sizeOf90 (U rfl rfl) (U rfl rfl) hy90 (fun _=>rfl)) ?_;refine qt (fun _ U W=>fE underlying90 rfl sizeOf87 (by decide) rfl (U rfl rfl)) ?_;refine qt (fun _ U W=>lE (ys:=[_,_]) isAgg87 sizeOf87 (U rfl rfl) rfl rfl) ?_;refine qt (fun _ U W=>fR underlying90 rfl sizeOf87 (by decide) rfl (U rfl rfl)) ?_;refine qt (fun _ U W=>lA (ps:=[_,_]) isAgg87 sizeOf87 (U rfl rfl) (W rfl) rfl rfl) ?_;obtain ⟨v91,hy92,h⟩:=iDet h;refine qt (fun _ U W=>cN (uQ x89.dot x82.dot v91 hy92) (U rfl rfl) call65 (evsE U rfl rfl) rfl rfl rfl) ?_;refine qt (fun _ U W=>LR.geq (U rfl rfl) (U rfl rfl)) ?_;refine qt (fun _ U W=>pT (U rfl rfl) (U rfl rfl)) ?_;refine qs (fun _ U W=>pF (U rfl rfl) (U rfl rfl))<|qm ?_;refine PQl.split (d:=39) rfl (fun hg93=>?_) (fun hg93=>?_)
        ·replace h:=iT hg93 h;refine kF<|kF<|kK (tl:=[(0,_),(1,_),(6,_),(8,_),(13,_),(14,_),(15,_),(24,_),(25,_),(26,_),(27,_),(28,_),(29,_),(30,_),(31,_),(32,_),(33,_),(34,_),(35,_),(36,_),(37,_),(39,_),(40,_),(41,_)]) ?_;refine kF<|kF<|kU<|kU<|kU<|kU<|kF ?_;refine qs (fun _ U W=>pT (U rfl rfl) (U rfl rfl))<|qN ?_;exact ⟨true,(),h,sP⟩
        ·replace h:=iF hg93 h;refine qt (fun _ U W=>fR underlying90 rfl sizeOf5 (by decide) rfl (U rfl rfl)) ?_;refine qt (fun _ U W=>lD isAgg5 (U rfl rfl) (W rfl) rfl)<|kK (tl:=[(0,_),(1,_),(6,_),(8,_),(13,_),(14,_),(15,_),(24,_),(25,_),(26,_),(27,_),(28,_),(29,_),(30,_),(31,_),(32,_),(33,_),(34,_),(35,_),(36,_),(37,_),(39,_),(40,_),(41,_)]) ?_;refine qt (fun _ U W=>eQ (U rfl rfl) (U rfl rfl)) ?_;refine qt (fun _ U W=>mV (U rfl rfl)) ?_;refine PQl.split (d:=43) rfl (fun hg94=>?_) (fun hg94=>?_)
         ·replace h:=iT hg94 h;refine qt (fun _ U W=>mV (U rfl rfl)) ?_;refine qt (fun _ U W=>fR underlying90 rfl sizeOf87 (by decide) rfl (U rfl rfl)) ?_;refine qt (fun _ U W=>lA (ps:=[_,_]) isAgg87 sizeOf87 (U rfl rfl) (W rfl) rfl rfl) ?_;obtain ⟨v95,hy96,h⟩:=iDet h;refine qt (fun _ U W=>cN (wv l2 x82.dot v95 hy96) (U rfl rfl) call66 (evsE U rfl rfl) rfl rfl rfl) ?_;refine qt (fun _ U W=>pT (U rfl rfl) (U rfl rfl)) ?_;refine qs (fun _ U W=>pF (U rfl rfl) (U rfl rfl))<|qN ?_;exact ⟨v95,(),h,sP⟩
         ·replace h:=iF hg94 h;refine kF<|kF<|kF<|kF ?_;refine qt (fun _ U W=>pF (U rfl rfl) (U rfl rfl)) ?_;refine qs (fun _ U W=>pF (U rfl rfl) (U rfl rfl))<|qN ?_;exact ⟨false,(),h,sP⟩
       ·replace h:=iF hg88 h;refine kF<|kF<|kF<|kF<|kF<|kF<|kF<|kF<|kF ?_;refine kF ?_;refine qt (fun _ U W=>pF (U rfl rfl) (U rfl rfl)) ?_;refine qs (fun _ U W=>pF (U rfl rfl) (U rfl rfl))<|qm ?_;refine qt (fun _ U W=>fR underlying90 rfl sizeOf5 (by decide) rfl (U rfl rfl)) ?_;refine qt (fun _ U W=>lD isAgg5 (U rfl rfl) (W rfl) rfl) ?_;refine qt (fun _ U W=>eQ (U rfl rfl) (U rfl rfl))<|kK (tl:=[(0,_),(1,_),(6,_),(8,_),(13,_),(14,_),(15,_),(24,_),(25,_),(26,_),(27,_),(28,_),(29,_),(30,_),(31,_),(32,_),(33,_),(34,_),(35,_),(36,_),(37,_),(39,_),(40,_),(41,_),(42,_)]) ?_;refine qt (fun _ U W=>mV (U rfl rfl)) ?_;refine PQl.split (d:=43) rfl (fun hg97=>?_) (fun hg97=>?_)
        ·replace h:=iT hg97 h;refine qt (fun _ U W=>mV (U rfl rfl)) ?_;refine qt (fun _ U W=>fR underlying90 rfl sizeOf87 (by decide) rfl (U rfl rfl)) ?_;refine qt (fun _ U W=>lA (ps:=[_,_]) isAgg87 sizeOf87 (U rfl rfl) (W rfl) rfl rfl) ?_;obtain ⟨v98,hy99,h⟩:=iDet h;refine qt (fun _ U W=>cN (wv l2 x82.dot v98 hy99) (U rfl rfl) call66 (evsE U rfl rfl) rfl rfl rfl) ?_;refine qt (fun _ U W=>pT (U rfl rfl) (U rfl rfl)) ?_;refine qs (fun _ U W=>pF (U rfl rfl) (U rfl rfl))<|qN ?_;exact ⟨v98,(),h,sP⟩
        ·replace h:=iF hg97 h;refine kF<|kF<|kF<|kF ?_;refine qt (fun _ U W=>pF (U rfl rfl) (U rfl rfl)) ?_;refine qs (fun _ U W=>pF (U rfl rfl) (U rfl rfl))<|qN ?_;exact ⟨false,(),h,sP⟩
     ·rintro v84 _ h;refine wC rfl (fun hc100=>?_) (fun hc100=>?_)
      ·replace h:=iT hc100 h;refine wQ<|wR<|wa ?_;refine wa ?_;refine wN<|wX ?_;exact nomatch (show (Sum.inl _:Unit ⊕ (List TPart × Bool × (List (TDot × TEvent)) × Bool × (List (TDot × TEvent)))) = Sum.inr r0 from h)
      ·replace h:=iF hc100 h;refine wK<|wQ<|wR<|ws (fR underlying90 rfl sizeOf5 (by decide) rfl rfl)<|ws (lD isAgg5 rfl rfl rfl)<|ws (eQ rfl rfl)<|wN ?_;refine wC rfl (fun hc101=>?_) (fun hc101=>?_)
       ·replace h:=iT hc101 h;refine wz (tl:=[(0,_),(1,_),(6,_),(8,_),(13,_),(14,_),(15,_)]) (to:=[(8,_),(12,_),(30241,_),(30242,_)]) ?_;refine PWc.regionE [⟨[53],[],[],[],[],[12],[],[]⟩,⟨[54],[],[],[],[],[12],[],[]⟩,⟨[55],[],[],[],[],[12],[],[]⟩,⟨[56],[],[],[],[],[12],[],[]⟩,⟨[57],[],[12],[],[],[30241],[],[]⟩,⟨[58],[],[8],[],[],[],[],[]⟩,⟨[57,59],[12,30241],[12,30241,30242],[],[(30241,[57])],[30241],[30242],[12,30241,30242]⟩,⟨[60],[],[],[],[],[12],[],[]⟩,⟨[61],[],[],[],[],[12],[],[]⟩,⟨[],[12],[12,30241],[],[],[],[30241,30242],[]⟩] (by kernel_rfl) (by kernel_rfl) rfl<|km ?_;refine km ?_;refine kp (fun _ U W=>LR.nilCheckRef (U rfl rfl)) ?_;refine kp (fun _ U W=>fR underlying106 rfl sizeOf104 (by decide) rfl (U rfl rfl)) ?_;refine kp (fun _ U W=>lD isAgg104 (U rfl rfl) (W rfl rfl) rfl) ?_;refine kp (fun _ U W=>lA (ps:=[_,_,_,_,_,_,_]) isAgg90 sizeOf90 (U rfl rfl) (W rfl rfl) rfl rfl) ?_;obtain ⟨y102,hy103,h⟩:=iDet h;refine PQe.callObjS [(100,30241),(500,12),(501,30242)] [57] [100,500,501] [(100,.mapH y102.1 [.u16,.u64] true (encM TDot.k TEvent.e y102.2)),(500,.cells 106 [.d (.sl (List.map TPart.e v3)),.junk,.mp 501])] [(501,.mapH nl73 [.u16,.u64] true (encM TDot.k TEvent.e v74))] (PObj.frame [(500,.cells 106 [.d (.sl (List.map TPart.e v3)),.mp 100,.mp 501]),(501,.mapH nl73 [.u16,.u64] true (encM TDot.k TEvent.e v74))] [(500,.cells 106 [.d (.sl (List.map TPart.e v3)),.junk,.mp 501]),(501,.mapH nl73 [.u16,.u64] true (encM TDot.k TEvent.e v74))] (uL x82 nl75 v76 y102 hy103) (fun _=>rfl) (fun _=>rfl) rfl rfl (.cons (.cells (.keep rfl<|.junk<|.keep rfl<|.nil))<|.cons (.same rfl)<|.nil)) hK (fun _ U=>⟨U rfl rfl,evsE U rfl rfl⟩) call67 (by first | rfl | (simp;done) | (simp [PV.nilD,PV.ren,rn];omega)) (by repeat' first | constructor | (congr 1;first | (simp;done) | (simp;omega) | omega)) (.cons rfl<|.cons rfl<|.nil) (.cons rfl<|.nil) (.cons (by first | rfl | (congr 1;first | (simp;done) | (simp;omega) | omega))<|.nil) rfl rfl rfl rfl rfl rfl (.inl rfl) rfl ?_;refine kp (fun _ U W=>LR.nilCheckRef (U rfl rfl)) ?_;refine kp (fun _ U W=>fR underlying106 rfl sizeOf104 (by decide) rfl (U rfl rfl)) ?_;refine ks (fun _ U W=>sB (ns:=[_,_,_]) sizeOf104 (U rfl rfl) (U rfl rfl) rfl rfl (W rfl rfl) rfl rfl)<|PQe.nil ?_;exact ⟨(nl73,v74,y102.1,y102.2),(),h,sP⟩
       ·replace h:=iF hc101 h;refine wz (tl:=[(0,_),(1,_),(6,_),(8,_),(13,_),(14,_),(15,_)]) (to:=[(8,_),(12,_),(30241,_),(30242,_)]) ?_;refine PWc.regionE [⟨[62],[],[],[],[],[12],[],[]⟩,⟨[63],[],[],[],[],[12],[],[]⟩,⟨[64],[],[],[],[],[12],[],[]⟩,⟨[65],[],[],[],[],[12],[],[]⟩,⟨[66],[],[12],[],[],[30242],[],[]⟩,⟨[67],[],[8],[],[],[],[],[]⟩,⟨[66,68],[12,30242],[12,30241,30242],[],[(30242,[66])],[30242],[30241],[12,30241,30242]⟩,⟨[69],[],[],[],[],[12],[],[]⟩,⟨[70],[],[],[],[],[12],[],[]⟩,⟨[],[12],[12,30242],[],[],[],[30241,30242],[]⟩] (by kernel_rfl) (by kernel_rfl) rfl<|km ?_;refine km ?_;refine kp (fun _ U W=>LR.nilCheckRef (U rfl rfl)) ?_;refine kp (fun _ U W=>fR underlying106 rfl sizeOf104 (by decide) rfl (U rfl rfl)) ?_;refine kp (fun _ U W=>lD isAgg104 (U rfl rfl) (W rfl rfl) rfl) ?_;refine kp (fun _ U W=>lA (ps:=[_,_,_,_,_,_,_]) isAgg90 sizeOf90 (U rfl rfl) (W rfl rfl) rfl rfl) ?_;obtain ⟨y104,hy105,h⟩:=iDet h;refine PQe.callObjS [(100,30242),(500,12),(501,30241)] [66] [100,500,501] [(100,.mapH y104.1 [.u16,.u64] true (encM TDot.k TEvent.e y104.2)),(500,.cells 106 [.d (.sl (List.map TPart.e v3)),.mp 501,.junk])] [(501,.mapH nl75 [.u16,.u64] true (encM TDot.k TEvent.e v76))] (PObj.frame [(500,.cells 106 [.d (.sl (List.map TPart.e v3)),.mp 501,.mp 100]),(501,.mapH nl75 [.u16,.u64] true (encM TDot.k TEvent.e v76))] [(500,.cells 106 [.d (.sl (List.map TPart.e v3)),.mp 501,.junk]),(501,.mapH nl75 [.u16,.u64] true (encM TDot.k TEvent.e v76))] (uL x82 nl73 v74 y104 hy105) (fun _=>rfl) (fun _=>rfl) rfl rfl (.cons (.cells (.keep rfl<|.keep rfl<|.junk<|.nil))<|.cons (.same rfl)<|.nil)) hK (fun _ U=>⟨U rfl rfl,evsE U rfl rfl⟩) call67 (by first | rfl | (simp;done) | (simp [PV.nilD,PV.ren,rn];omega)) (by repeat' first | constructor | (congr 1;first | (simp;done) | (simp;omega) | omega)) (.cons rfl<|.cons rfl<|.nil) (.cons rfl<|.nil) (.cons (by first | rfl | (congr 1;first | (simp;done) | (simp;omega) | omega))<|.nil) rfl rfl rfl rfl rfl rfl (.inl rfl) rfl ?_;refine kp (fun _ U W=>LR.nilCheckRef (U rfl rfl)) ?_;refine kp (fun _ U W=>fR underlying106 rfl sizeOf104 (by decide) rfl (U rfl rfl)) ?_;refine ks (fun _ U W=>sB (ns:=[_,_,_]) sizeOf104 (U rfl rfl) (U rfl rfl) rfl rfl (W rfl rfl) rfl rfl)<|PQe.nil ?_;exact ⟨(y104.1,y104.2,nl75,v76),(),h,sP⟩
    ·rintro ⟨nl78,v79,nl80,v81⟩ _ h;refine wR<|ws (LR.addW rfl rfl)<|wm ?_;refine wN ?_;exact ⟨((IntKind.i64.wrap (v72 + 1)),nl78,v79,nl80,v81),(),h,sP⟩
   ·replace h:=iF hc77 h;refine wZ ?_;exact ⟨(nl73,v74,nl75,v76),(),h,sP⟩
  ·rintro ⟨nl5,v6,nl7,v8⟩ _ h;refine wQ<|wQ ?_;refine wJ (zH h) (fun (v106:Bool) (_:Unit)=>⟨84,[(6,.ref 12 0),(82,.d (.v (.bool v106)))],[(12,.cells 106 [.d (.sl (List.map TPart.e v3)),.mp 30241,.mp 30242]),(30241,.mapH nl7 [.u16,.u64] true (encM TDot.k TEvent.e v8)),(30242,.mapH nl5 [.u16,.u64] true (encM TDot.k TEvent.e v6))]⟩) (fun h=>?_) ?_
   ·refine wR<|wm ?_;obtain ⟨v107,hy108,h⟩:=iDet h;refine xN (uo c1 v107 hy108) call68<|ws (LR.not rfl)<|wm ?_;refine wL (d:=75) rfl (fun hg109=>?_) (fun hg109=>?_)
    ·replace h:=iT hg109 h;refine wf<|wf<|wf<|wf<|wf<|wf<|ws (pT rfl rfl)<|wN ?_;exact ⟨true,(),h,sP⟩
    ·replace h:=iF hg109 h;refine wt (mV rfl) ?_;obtain ⟨v110,hy111,h⟩:=iDet h;refine wt (LR.rowN (Yc l2 v110 hy111) rfl call70 rfl rfl rfl rfl)<|wt (mV rfl) ?_;obtain ⟨v112,hy113,h⟩:=iDet h;refine PWl.frz [77] hK (.cons rfl<|.nil) rfl (by simp) ?_;refine wt (LR.rowN (Yb v110 c1 v112 hy113) rfl call69 rfl rfl rfl rfl)<|wt (LR.lenRow underlying88 rfl)<|wt (LR.gtr rfl rfl)<|ws (pF rfl rfl)<|wN ?_;exact ⟨(decide (0 < ((List.length v112):Int))),(),h,sP⟩
   ·rintro v106 _ h;refine wC rfl (fun hc114=>?_) (fun hc114=>?_)
    ·replace h:=iT hc114 h;refine wQ<|wR<|wa ?_;refine wa ?_;refine wN<|wX ?_;exact nomatch (show (Sum.inl _:Unit ⊕ (List TPart × Bool × (List (TDot × TEvent)) × Bool × (List (TDot × TEvent)))) = Sum.inr r0 from h)
    ·replace h:=iF hc114 h;refine wK<|wQ<|wR<|wm ?_;refine wa ?_;refine wa ?_;refine wN<|wX ?_;replace h:(Sum.inr _:Unit ⊕ (List TPart × Bool × (List (TDot × TEvent)) × Bool × (List (TDot × TEvent)))) = Sum.inr r0:=h;replace h:=Sum.inr.inj h;subst h;exact EndsO.mk () (.inr rfl) (sP (tl:=[(4,_),(5,_)]) (to:=[(12,_),(30241,_),(30242,_)])) (.cons (.tmp rfl)<|.cons (.tmp rfl)<|.nil) rfl rfl

theorem Zx (b1:List Int) (r0:Int ⊕ (Int × List TPart × Bool × (List (TDot × TEvent)) × Bool × (List (TDot × TEvent)))) (h:(ZW b1).wp (· = r0)):(match r0 with | .inl r0=>PObj prog 12 [.d (.sl (List.map (eK .u8) b1))] [] [] (.tup [.d (.v (.pointer none)),.d (.v (.int .i64 r0))]) (fun _:Unit=>[]) | .inr r0=>PObj prog 12 [.d (.sl (List.map (eK .u8) b1))] [] [] (.tup [.ref 20480 0,.d (.v (.int .i64 r0.1))]) (fun _:Unit=>[(20480,.cells 106 [.d (.sl (List.map TPart.e r0.2.1)),.mp 20481,.mp 20482]),(20481,.mapH r0.2.2.1 [.u16,.u64] true (encM TDot.k TEvent.e r0.2.2.2.1)),(20482,.mapH r0.2.2.2.2.1 [.u16,.u64] true (encM TDot.k TEvent.e r0.2.2.2.2.2))])):=by
 cases r0 with
 | inl r0=>
  refine PObj.intro (sl:=[(0,_)]) func12 rfl ntmps12 rfl rfl rfl ?_;intro ctx hK pv;refine wQ<|wR<|wa ?_;refine wa ?_;refine wN<|wQ<|wR<|wm ?_;obtain ⟨y2,hy3,h⟩:=iDet h;refine xO [(7,11)] [] [7] (Yf b1 y2 hy3) call6<|wa ?_;refine wN<|wQ<|wz (tl:=[(4,_)]) (to:=[(11,_)]) ?_;refine wR<|wm ?_;obtain ⟨y4,hy5,h⟩:=iDet h;refine xO [(100,11)] [] [100] (vX y2.1 y2.2 y4 hy5) call31<|wa ?_;refine wN<|wQ<|wz (tl:=[(4,_),(5,_)]) (to:=[(11,_)]) ?_;refine wR<|wm ?_;obtain ⟨y6,hy7,h⟩:=iDet h;refine xO [(100,11)] [] [100] (vM 4096 y4.2.1 y4.2.2 y6 hy7) call32<|wa ?_;refine wN<|wQ<|wQ<|wz (tl:=[(4,_),(5,_),(6,_)]) (to:=[(11,_)]) ?_;refine wR<|wm ?_;obtain ⟨y8,hy9,h⟩:=iDet h;refine xO [(100,11)] [] [100] (xj y6.2.1 y6.2.2 y8 hy9) call10<|wa ?_;refine wN<|wQ<|wz (tl:=[(5,_),(6,_),(7,_)]) (to:=[]) ?_;refine wR<|wm ?_;refine ws (nQ rfl rfl)<|wN ?_;refine wC rfl (fun hc10=>?_) (fun hc10=>?_)
  ·replace h:=iT hc10 h;refine wQ<|wR<|wm ?_;refine wa ?_;refine wa ?_;refine wN<|wX ?_;replace h:(Sum.inl _:Int ⊕ (Int × List TPart × Bool × (List (TDot × TEvent)) × Bool × (List (TDot × TEvent)))) = Sum.inl r0:=h;replace h:=Sum.inl.inj h;subst h;exact EndsO.mk () (.inr rfl) (sP (tl:=[(2,_),(3,_)]) (to:=[])) (.cons (.tmp rfl)<|.cons (.tmp rfl)<|.nil) rfl rfl
  ·replace h:=iF hc10 h;refine wK<|wQ<|wR<|wm ?_;refine wm ?_;obtain ⟨y11,hy12,h⟩:=iDet h;rcases y11 with z13 | z14
   ·replace h:=iSumL h;refine xO [] [] [] (vY y4.1 y6.1 (.inl z13) hy12) call21<|wm ?_;refine ws (LR.extract rfl rfl)<|ws (LR.extract rfl rfl)<|wa ?_;refine wa ?_;refine wN<|wQ<|wQ<|wz (tl:=[(8,_),(9,_)]) (to:=[]) ?_;refine wR<|wm ?_;refine ws (nQ rfl rfl)<|wN<|PWc.condT rfl<|wQ<|wR<|wa ?_;refine wa ?_;refine wN<|wX ?_;replace h:(Sum.inl _:Int ⊕ (Int × List TPart × Bool × (List (TDot × TEvent)) × Bool × (List (TDot × TEvent)))) = Sum.inl r0:=h;replace h:=Sum.inl.inj h;subst h;exact EndsO.mk () (.inr rfl) (sP (tl:=[(2,_),(3,_)]) (to:=[])) (.cons (.tmp rfl)<|.cons (.tmp rfl)<|.nil) rfl rfl
   ·replace h:=iSumR h;refine xO [(12,20480),(30241,20481),(30242,20482)] [] [12,30241,30242] (vY y4.1 y6.1 (.inr z14) hy12) call21<|wm ?_;refine ws (LR.extract rfl rfl)<|ws (LR.extract rfl rfl)<|wa ?_;refine wa ?_;refine wN<|wQ<|wQ<|wz (tl:=[(8,_),(9,_)]) (to:=[(20480,_),(20481,_),(20482,_)]) ?_;refine wR<|wm ?_;refine ws (nQ rfl rfl)<|wN<|PWc.condF rfl<|wK<|wQ<|wR<|wm ?_;refine wa ?_;refine wa ?_;refine wN<|wX ?_;exact nomatch (show (Sum.inr _:Int ⊕ (Int × List TPart × Bool × (List (TDot × TEvent)) × Bool × (List (TDot × TEvent)))) = Sum.inl r0 from h)
 | inr r0=>
  refine PObj.intro (sl:=[(0,_)]) func12 rfl ntmps12 rfl rfl rfl ?_;intro ctx hK pv;refine wQ<|wR<|wa ?_;refine wa ?_;refine wN<|wQ<|wR<|wm ?_;obtain ⟨y2,hy3,h⟩:=iDet h;refine xO [(7,11)] [] [7] (Yf b1 y2 hy3) call6<|wa ?_;refine wN<|wQ<|wz (tl:=[(4,_)]) (to:=[(11,_)]) ?_;refine wR<|wm ?_;obtain ⟨y4,hy5,h⟩:=iDet h;refine xO [(100,11)] [] [100] (vX y2.1 y2.2 y4 hy5) call31<|wa ?_;refine wN<|wQ<|wz (tl:=[(4,_),(5,_)]) (to:=[(11,_)]) ?_;refine wR<|wm ?_;obtain ⟨y6,hy7,h⟩:=iDet h;refine xO [(100,11)] [] [100] (vM 4096 y4.2.1 y4.2.2 y6 hy7) call32<|wa ?_;refine wN<|wQ<|wQ<|wz (tl:=[(4,_),(5,_),(6,_)]) (to:=[(11,_)]) ?_;refine wR<|wm ?_;obtain ⟨y8,hy9,h⟩:=iDet h;refine xO [(100,11)] [] [100] (xj y6.2.1 y6.2.2 y8 hy9) call10<|wa ?_;refine wN<|wQ<|wz (tl:=[(5,_),(6,_),(7,_)]) (to:=[]) ?_;refine wR<|wm ?_;refine ws (nQ rfl rfl)<|wN ?_;refine wC rfl (fun hc10=>?_) (fun hc10=>?_)
  ·replace h:=iT hc10 h;refine wQ<|wR<|wm ?_;refine wa ?_;refine wa ?_;refine wN<|wX ?_;exact nomatch (show (Sum.inl _:Int ⊕ (Int × List TPart × Bool × (List (TDot × TEvent)) × Bool × (List (TDot × TEvent)))) = Sum.inr r0 from h)
  ·replace h:=iF hc10 h;refine wK<|wQ<|wR<|wm ?_;refine wm ?_;obtain ⟨y11,hy12,h⟩:=iDet h;rcases y11 with z13 | z14
   ·replace h:=iSumL h;refine xO [] [] [] (vY y4.1 y6.1 (.inl z13) hy12) call21<|wm ?_;refine ws (LR.extract rfl rfl)<|ws (LR.extract rfl rfl)<|wa ?_;refine wa ?_;refine wN<|wQ<|wQ<|wz (tl:=[(8,_),(9,_)]) (to:=[]) ?_;refine wR<|wm ?_;refine ws (nQ rfl rfl)<|wN<|PWc.condT rfl<|wQ<|wR<|wa ?_;refine wa ?_;refine wN<|wX ?_;exact nomatch (show (Sum.inl _:Int ⊕ (Int × List TPart × Bool × (List (TDot × TEvent)) × Bool × (List (TDot × TEvent)))) = Sum.inr r0 from h)
   ·replace h:=iSumR h;refine xO [(12,20480),(30241,20481),(30242,20482)] [] [12,30241,30242] (vY y4.1 y6.1 (.inr z14) hy12) call21<|wm ?_;refine ws (LR.extract rfl rfl)<|ws (LR.extract rfl rfl)<|wa ?_;refine wa ?_;refine wN<|wQ<|wQ<|wz (tl:=[(8,_),(9,_)]) (to:=[(20480,_),(20481,_),(20482,_)]) ?_;refine wR<|wm ?_;refine ws (nQ rfl rfl)<|wN<|PWc.condF rfl<|wK<|wQ<|wR<|wm ?_;refine wa ?_;refine wa ?_;refine wN<|wX ?_;replace h:(Sum.inr _:Int ⊕ (Int × List TPart × Bool × (List (TDot × TEvent)) × Bool × (List (TDot × TEvent)))) = Sum.inr r0:=h;replace h:=Sum.inr.inj h;subst h;exact EndsO.mk () (.inr rfl) (sP (tl:=[(2,_),(3,_)]) (to:=[(20480,_),(20481,_),(20482,_)])) (.cons (.tmp rfl)<|.cons (.tmp rfl)<|.nil) rfl rfl

theorem XI  (r0:List TEvent) (h:(ZN ).wp (· = r0)):PRow prog 42 [.d (.v (.pointer none))] 90 7 (List.map TEvent.e r0):=by
 refine PRow.intro (sl:=[(0,_)]) func42 rfl ntmps42 rfl rfl ?_;intro ctx hK;refine wQ<|wR<|ws (aR 90 7 rfl)<|wN<|wQ<|wQ<|wR<|wm ?_;refine ws (LR.eqlPtrN underlying40 rfl)<|wN<|PWc.condT rfl<|wQ<|wR<|wy (tl:=[(0,_),(3,_),(4,_)]) (to:=[]) ?_;refine ws (aR 90 7 rfl)<|wN<|wX ?_;cases h;exact ⟨.inr rfl,2,rfl,.inr ⟨2,_,rfl,(by first | (simp;done) | (simp;omega) | omega),rfl⟩⟩


theorem Yt  (r0:List TEvent) (h:(uh ).wp (· = r0)):PRow prog 44 [.d (.v (.pointer none))] 90 7 (List.map TEvent.e r0):=by
 refine PRow.intro (sl:=[(0,_)]) func44 rfl ntmps44 rfl rfl ?_;intro ctx hK;refine wQ<|wR<|ws (aR 90 7 rfl)<|wN<|wQ<|wQ<|wR<|wm ?_;refine ws (LR.eqlPtrN underlying40 rfl)<|wN<|PWc.condT rfl<|wQ<|wR<|wy (tl:=[(0,_),(3,_),(4,_)]) (to:=[]) ?_;refine ws (aR 90 7 rfl)<|wN<|wX ?_;cases h;exact ⟨.inr rfl,2,rfl,.inr ⟨2,_,rfl,(by first | (simp;done) | (simp;omega) | omega),rfl⟩⟩

theorem qb (x1:R18Book) (r0:Int) (h:(JR x1).wp (· = r0)):PFun prog 14 [.d (.v (.pointer none)),.agg (List.map .d (R18Book.e x1))] (.d (.v (.int .i64 r0))):=by
 refine fI (sl:=[(0,_),(1,_)]) func14 rfl ntmps14 rfl rfl ?_;intro ctx hK;refine wQ<|wR<|ws (LR.box rfl rfl rfl rfl)<|wa ?_;refine wN<|wQ<|wQ<|wz (tl:=[(0,_),(3,_)]) (to:=[(3,_)]) ?_;refine wJ (zH h) (fun (v2:Bool) (_:Unit)=>⟨32,[(31,.d (.v (.bool v2)))],[]⟩) (fun h=>?_) ?_
 ·refine PWc.regionE [{ws:=[5]},{ws:=[6]},⟨[7],[],[],[],[],[3],[],[]⟩,⟨[8],[],[3],[],[],[],[],[]⟩,{ws:=[9]},{ws:=[10]},{ws:=[11]},{ws:=[12]},{ws:=[13]},⟨[14],[],[3],[],[],[],[],[]⟩,{ws:=[15]},{ws:=[16]},{ws:=[17]},{ws:=[18]},{ws:=[19]},{ws:=[20]},⟨[21],[],[3],[],[],[],[],[]⟩,{ws:=[22]},{ws:=[23]},{ws:=[24]},{ws:=[25]},{ws:=[26]},{ws:=[27]},⟨[28],[],[],[],[],[3],[],[]⟩,⟨[29],[],[3],[],[],[],[],[]⟩,{ws:=[30]},{ws:=[31]}] (by kernel_rfl) (by kernel_rfl) rfl<|km ?_;obtain ⟨v3,hy4,h⟩:=iDet h;refine kp (fun _ U W=>cN (PRow.fun (uB v3 hy4)) (U rfl rfl) call41 (evsE U rfl rfl) rfl rfl rfl) ?_;refine kp (fun _ U W=>fR underlying44 rfl sizeOf31 (by decide) rfl (U rfl rfl)) ?_;refine kp (fun _ U W=>lD isAgg31 (U rfl rfl) (W rfl rfl) rfl) ?_;obtain ⟨v5,hy6,h⟩:=iDet h;refine kp (fun _ U W=>cN (PRow.fun (un x1.ctx v5 hy6)) (U rfl rfl) call22 (evsE U rfl rfl) rfl rfl rfl) ?_;obtain ⟨v7,hy8,h⟩:=iDet h;refine kp (fun _ U W=>cN (VA v3 v5 v7 hy8) (U rfl rfl) call40 (evsE U rfl rfl) rfl rfl rfl)<|km ?_;refine PQe.split (d:=11) rfl (fun hg9=>?_) (fun hg9=>?_)
  ·replace h:=iT hg9 h;refine PQe.stepP (fun _ U W=>mV (U rfl rfl)) (.inr ⟨_,_,_,rfl,rfl,rfl⟩) rfl ?_;obtain ⟨v10,hy11,h⟩:=iDet h;refine PQe.stepP (fun _ U W=>cN (PRow.fun (XI v10 hy11)) (U rfl rfl) call42 (evsE U rfl rfl) rfl rfl rfl) (.inr ⟨_,_,_,rfl,rfl,rfl⟩) rfl ?_;refine PQe.stepP (fun _ U W=>lA (ps:=[_,_]) isAgg44 sizeOf44 (U rfl rfl) (W rfl rfl) rfl rfl) (.inr ⟨_,_,_,rfl,rfl,rfl⟩) rfl ?_;obtain ⟨v12,hy13,h⟩:=iDet h;refine PQe.stepP (fun _ U W=>cN (PRow.fun (jM x1 v12 hy13)) (U rfl rfl) call43 (evsE U rfl rfl) rfl rfl rfl) (.inr ⟨_,_,_,rfl,rfl,rfl⟩) rfl ?_;obtain ⟨v14,hy15,h⟩:=iDet h;refine PQe.stepP (fun _ U W=>cN (vL v10 v12 v14 hy15) (U rfl rfl) call30 (evsE U rfl rfl) rfl rfl rfl) (.inr ⟨_,_,_,rfl,rfl,rfl⟩) rfl ?_;refine kp (fun _ U W=>pT (U rfl rfl) (U rfl rfl))<|km ?_;refine PQe.split (d:=18) rfl (fun hg16=>?_) (fun hg16=>?_)
   ·replace h:=iT hg16 h;refine PQe.stepP (fun _ U W=>mV (U rfl rfl)) (.inr ⟨_,_,_,rfl,rfl,rfl⟩) rfl ?_;obtain ⟨v17,hy18,h⟩:=iDet h;refine PQe.stepP (fun _ U W=>cN (PRow.fun (Yt v17 hy18)) (U rfl rfl) call44 (evsE U rfl rfl) rfl rfl rfl) (.inr ⟨_,_,_,rfl,rfl,rfl⟩) rfl ?_;refine PQe.stepP (fun _ U W=>lA (ps:=[_,_]) isAgg44 sizeOf44 (U rfl rfl) (W rfl rfl) rfl rfl) (.inr ⟨_,_,_,rfl,rfl,rfl⟩) rfl ?_;obtain ⟨v19,hy20,h⟩:=iDet h;refine PQe.stepP (fun _ U W=>cN (PRow.fun (UA x1 v19 hy20)) (U rfl rfl) call45 (evsE U rfl rfl) rfl rfl rfl) (.inr ⟨_,_,_,rfl,rfl,rfl⟩) rfl ?_;obtain ⟨v21,hy22,h⟩:=iDet h;refine PQe.stepP (fun _ U W=>cN (vL v17 v19 v21 hy22) (U rfl rfl) call30 (evsE U rfl rfl) rfl rfl rfl) (.inr ⟨_,_,_,rfl,rfl,rfl⟩) rfl ?_;refine kp (fun _ U W=>pT (U rfl rfl) (U rfl rfl))<|km ?_;refine PQe.split (d:=25) rfl (fun hg23=>?_) (fun hg23=>?_)
    ·replace h:=iT hg23 h;refine PQe.stepP (fun _ U W=>mV (U rfl rfl)) (.inr ⟨_,_,_,rfl,rfl,rfl⟩) rfl ?_;obtain ⟨v24,hy25,h⟩:=iDet h;refine PQe.stepP (fun _ U W=>cN (PRow.fun (uC v24 hy25)) (U rfl rfl) call46 (evsE U rfl rfl) rfl rfl rfl) (.inr ⟨_,_,_,rfl,rfl,rfl⟩) rfl ?_;refine PQe.stepP (fun _ U W=>fR underlying44 rfl sizeOf32 (by decide) rfl (U rfl rfl)) (.inr ⟨_,_,_,rfl,rfl,rfl⟩) rfl ?_;refine PQe.stepP (fun _ U W=>lD isAgg32 (U rfl rfl) (W rfl rfl) rfl) (.inr ⟨_,_,_,rfl,rfl,rfl⟩) rfl ?_;obtain ⟨v26,hy27,h⟩:=iDet h;refine PQe.stepP (fun _ U W=>cN (vL v24 x1.l v26 hy27) (U rfl rfl) call30 (evsE U rfl rfl) rfl rfl rfl) (.inr ⟨_,_,_,rfl,rfl,rfl⟩) rfl ?_;refine kp (fun _ U W=>pT (U rfl rfl) (U rfl rfl))<|PQe.nil ?_;exact ⟨v26,(),h,sP⟩
    ·replace h:=iF hg23 h;refine kx<|kx<|kx<|kx<|kx ?_;refine kp (fun _ U W=>pF (U rfl rfl) (U rfl rfl))<|PQe.nil ?_;exact ⟨false,(),h,sP⟩
   ·replace h:=iF hg16 h;refine kx<|kx<|kx<|kx<|kx ?_;refine kp (fun _ U W=>pF (U rfl rfl) (U rfl rfl))<|km ?_;refine kx<|kx<|kx<|kx<|kx ?_;refine kp (fun _ U W=>pF (U rfl rfl) (U rfl rfl))<|PQe.nil ?_;exact ⟨false,(),h,sP⟩
  ·replace h:=iF hg9 h;refine kx<|kx<|kx<|kx<|kx ?_;refine kp (fun _ U W=>pF (U rfl rfl) (U rfl rfl))<|km ?_;refine kx<|kx<|kx<|kx<|kx ?_;refine kp (fun _ U W=>pF (U rfl rfl) (U rfl rfl))<|km ?_;refine kx<|kx<|kx<|kx<|kx ?_;refine kp (fun _ U W=>pF (U rfl rfl) (U rfl rfl))<|PQe.nil ?_;exact ⟨false,(),h,sP⟩
 ·rintro v2 _ h;refine xD h rfl (fun _ h=>?_) (fun _ h=>?_)
  ·refine wQ<|wR<|wa ?_;refine wN<|wX ?_;cases h;exact xT
  ·refine wK<|wQ<|wR<|wa ?_;refine wN<|wX ?_;cases h;exact xT

theorem XJ (nl1:Bool) (m2:List (TDot × TEvent)) (r0:List TEvent) (h:(vg nl1 m2).wp (· = r0)):PObj prog 85 [.row 100 1] [(100,.cells 104 [.mp 101]),(101,.mapH nl1 [.u16,.u64] true (encM TDot.k TEvent.e m2))] [100,101] (.row 3 (List.length r0)) (fun _:Unit=>[(100,.cells 104 [.mp 101]),(101,.mapH nl1 [.u16,.u64] true (encM TDot.k TEvent.e m2)),(3,.row 90 7 (List.map TEvent.e r0))]):=by
 refine PObj.intro (sl:=[(0,_)]) func85 rfl ntmps85 rfl rfl rfl ?_;intro ctx hK pv;refine wQ<|wR<|ws (aR 90 7 rfl)<|wN<|wQ<|wR<|ws (aR 90 7 rfl)<|wN<|wQ ?_;refine wQ<|wR<|wm ?_;refine ws (LR.lenRow underlying167 rfl)<|wm ?_;refine wN ?_;refine wJ (zH h) (fun (out3:List TEvent) (_:Unit)=>⟨29,[(3,.row 3 (List.length out3))],[(3,.row 90 7 (List.map TEvent.e out3)),(100,.cells 104 [.mp 101]),(101,.mapH nl1 [.u16,.u64] true (encM TDot.k TEvent.e m2)),(1100,.pin 100 (pv 100)),(1101,.pin 101 (pv 101))]⟩) (fun h=>?_) ?_
 ·refine wB<|PWc.loopU<|PWL.step<|wQ<|wR<|ws (LR.lss rfl rfl)<|wN<|wQ<|PWc.condT rfl ?_;refine wK<|wQ ?_;refine wJ (zH h) (fun (out6:List TEvent) (⟨bs4,ck5⟩:List Nat × Nat)=>⟨29,[(3,.row 3 (List.length out6)),(8,.row 100 1),(9,.d (.v (.int .i64 1))),(10,.d (.v (.int .i64 0)))],[(3,.row 90 7 (List.map TEvent.e out6)),(100,.cells 104 [.mp 101]),(101,.mapN nl1 [.u16,.u64] true (encM TDot.k TEvent.e m2) bs4 ck5),(1100,.pin 100 (pv 100)),(1101,.pin 101 (pv 101))]⟩) (fun h=>?_) ?_
  ·refine wB<|wQ<|wR<|ws (LR.idxCells (n:=0) underlying167 sizeOf104 rfl rfl rfl (by decide))<|ws (lD isAgg104 rfl rfl rfl)<|wa ?_;refine wN<|wQ<|wR<|wm ?_;refine PWl.openH (id:=101) rfl (fun bs7 ck7=>?_);refine ws (LR.rangeN underlying104 rfl rfl rfl)<|wN<|wB<|wM (fun (⟨seen30,out31⟩:List Nat × List TEvent) (_:Unit)=>⟨29,[(3,.row 3 (List.length out31)),(8,.row 100 1),(9,.d (.v (.int .i64 1))),(10,.d (.v (.int .i64 0))),(15,.ref 15 0)],[(3,.row 90 7 (List.map TEvent.e out31)),(15,.iterO 101 bs7 ck7 seen30),(100,.cells 104 [.mp 101]),(101,.mapN nl1 [.u16,.u64] true (encM TDot.k TEvent.e m2) bs7 ck7),(1100,.pin 100 (pv 100)),(1101,.pin 101 (pv 101))]⟩) () h (sP) ?_;rintro N ⟨seen30,out31⟩ _ h;refine wQ<|wR ?_;obtain ⟨hy41,h⟩:=zl h;replace h:=iNxt h;refine PWl.nextN rfl rfl rfl (nxtD hy41) rfl (fun hy33=>?_) (fun j32 hy34 hy35=>?_)
   ·replace h:=h.1 (nxtA hy33);refine ws (LR.extract rfl rfl)<|wN<|wQ<|PWc.condF rfl<|wZ ?_;exact ⟨out31,(bs7,ck7),h,sP⟩
   ·replace h:=h.2 j32 (nxtB hy34) hy35;refine ws (LR.extract rfl rfl)<|wN<|wQ<|PWc.condT rfl<|wK<|wB<|wQ<|wR ?_;obtain ⟨kv36,hy37,h⟩:=iIdx h;refine ws (LR.entryN rfl rfl rfl (Qc hy37) rfl rfl)<|ws (LR.extract rfl rfl)<|ws (LR.allocZ (cs:=[_,_,_,_,_,_,_]) zeroValue90 rfl rfl rfl rfl)<|ws (sB (ns:=[_,_,_,_,_,_,_]) sizeOf90 rfl rfl rfl rfl rfl rfl rfl)<|wN<|wR<|wm ?_;refine ws (lA (ps:=[_,_,_,_,_,_,_]) isAgg90 sizeOf90 rfl rfl rfl rfl) ?_;obtain ⟨v38,hy39,h⟩:=iDet h;refine xN (uJ kv36.2 v38 hy39) call115<|ws (LR.buildSliceD [.tmp 22] Ym rfl rfl (.cons rfl rfl rfl<|.nil) (by decide) (by decide)) ?_;obtain ⟨hy40,h⟩:=zl h;refine ws (LR.appT (enc:=TEvent.e) (L:=out31) (R:=[v38]) [3,20] Ym underlying32 rfl rfl rfl (Src.slT (enc:=TEvent.e) (R:=[v38]) rfl (fun _=>rfl)) (fun _=>rfl) hy40 rfl rfl)<|wa ?_;refine wN ?_;exact ⟨((seen30 ++ [j32]),(out31 ++ [v38])),(),h,sP⟩
  ·rintro out6 ⟨bs4,ck5⟩ h;refine wR<|ws (LR.addW rfl rfl)<|wm ?_;refine wN<|PWL.step<|wQ<|wR<|ws (LR.lss rfl rfl)<|wN<|wQ<|PWc.condF rfl<|wZ ?_;exact ⟨out6,(),h,Sub.trans (Sub.nToH (id:=101) rfl)<|sP⟩
 ·rintro out3 _ h;refine wQ<|wR<|wm ?_;obtain ⟨hy43,h⟩:=zl h;refine PWl.sortFnR (encD:=TEvent.e) (enc:=RawTEvent.v) (lt:=YH) (R:=RawTEvent.R) (l:=out3) JS RawTEvent.raw rlt141 (fun _=>rfl) (fun _=>rfl) rfl call141 rfl rfl rfl (by simp) hy43 rfl (fun s42 hy44 hy45=>?_);replace h:=iSrt h s42 hy44 hy45;have hy44l:=hy44.length_eq;refine wN<|wQ<|wR<|wm ?_;refine wa ?_;refine wN<|wX ?_;cases h;exact EndsO.mk () (.inr rfl) (sO (tl:=[(2,_)]) (to:=[(100,_),(101,_),(3,_),(1100,_),(1101,_)]) rfl (.cons rfl (by first | rfl | (simp;done) | (congr 1;first | (simp;done) | (simp;omega) | omega))<|.nil) (.c4 rfl rfl rfl rfl rfl rfl rfl rfl<|.cons rfl rfl<|.nil)) (.cons (.tmp rfl)<|.nil) rfl rfl

theorem WU (ctx_1:List TPart) (nl2:Bool) (m3:List (TDot × TEvent)) (nl4:Bool) (m5:List (TDot × TEvent)) (r0:List TEvent) (h:(xy ctx_1 nl2 m3 nl4 m5).wp (· = r0)):PObj prog 42 [.ref 100 0] [(100,.cells 106 [.d (.sl (List.map TPart.e ctx_1)),.mp 101,.mp 102]),(101,.mapH nl2 [.u16,.u64] true (encM TDot.k TEvent.e m3)),(102,.mapH nl4 [.u16,.u64] true (encM TDot.k TEvent.e m5))] [100,101,102] (.row 10 (List.length r0)) (fun _:Unit=>[(100,.cells 106 [.d (.sl (List.map TPart.e ctx_1)),.mp 101,.mp 102]),(101,.mapH nl2 [.u16,.u64] true (encM TDot.k TEvent.e m3)),(102,.mapH nl4 [.u16,.u64] true (encM TDot.k TEvent.e m5)),(10,.row 90 7 (List.map TEvent.e r0))]):=by
 refine PObj.intro (sl:=[(0,_)]) func42 rfl ntmps42 rfl rfl rfl ?_;intro ctx hK pv;refine wQ<|wR<|ws (aR 90 7 rfl)<|wN<|wQ<|wQ<|wR<|wm ?_;refine ws (LR.eqlPtr underlying40 rfl)<|wN<|PWc.condF rfl<|wK<|wQ<|wR<|wm ?_;refine ws (LR.nilCheckRef rfl)<|ws (fR underlying106 rfl sizeOf104 (by decide) rfl rfl)<|ws (lD isAgg104 rfl rfl rfl)<|ws (LR.buildSliceP [.tmp 8] zra rfl rfl rfl rfl (by decide) rfl) ?_;obtain ⟨y6,hy7,h⟩:=iDet h;refine ws (LR.callObjS [(100,9),(101,101),(3,10)] [] [100,101,3] [(3,.row 90 7 (List.map TEvent.e y6))] [(100,.cells 104 [.mp 101]),(101,.mapH nl2 [.u16,.u64] true (encM TDot.k TEvent.e m3))] (XJ nl2 m3 y6 hy7) hK rfl call85 rfl (by first | rfl | (simp;done) | (simp [PV.nilD,PV.ren,rn];omega)) (by repeat' first | constructor | (congr 1;first | (simp;done) | (simp;omega) | omega)) (.cons rfl<|.nil) (.cons rfl<|.cons rfl<|.nil) (by repeat' first | constructor | (congr 1;first | (simp;done) | (simp;omega) | omega)) rfl rfl rfl rfl rfl rfl) ?_;refine wy (tl:=[(2,_),(10,_)]) (to:=[(2,_),(10,_),(100,_),(101,_),(102,_),(1100,_),(1101,_),(1102,_)]) ?_;refine wy (tl:=[(10,_)]) (to:=[(10,_),(100,_),(101,_),(102,_),(1100,_),(1101,_),(1102,_)]) ?_;refine wa ?_;refine wN<|wX ?_;cases h;exact EndsO.mk () (.inr rfl) (sO (tl:=[(2,_)]) (to:=[(100,_),(101,_),(102,_),(10,_),(1100,_),(1101,_),(1102,_)]) rfl (.cons rfl (by first | rfl | (simp;done) | (congr 1;first | (simp;done) | (simp;omega) | omega))<|.nil) (.c4 rfl rfl rfl rfl rfl rfl rfl rfl<|.c2 rfl rfl rfl rfl<|.cons rfl rfl<|.nil)) (.cons (.tmp rfl)<|.nil) rfl rfl

theorem Xz (ctx_1:List TPart) (nl2:Bool) (m3:List (TDot × TEvent)) (nl4:Bool) (m5:List (TDot × TEvent)) (r0:List TEvent) (h:(xf ctx_1 nl2 m3 nl4 m5).wp (· = r0)):PObj prog 44 [.ref 100 0] [(100,.cells 106 [.d (.sl (List.map TPart.e ctx_1)),.mp 101,.mp 102]),(101,.mapH nl2 [.u16,.u64] true (encM TDot.k TEvent.e m3)),(102,.mapH nl4 [.u16,.u64] true (encM TDot.k TEvent.e m5))] [100,101,102] (.row 10 (List.length r0)) (fun _:Unit=>[(100,.cells 106 [.d (.sl (List.map TPart.e ctx_1)),.mp 101,.mp 102]),(101,.mapH nl2 [.u16,.u64] true (encM TDot.k TEvent.e m3)),(102,.mapH nl4 [.u16,.u64] true (encM TDot.k TEvent.e m5)),(10,.row 90 7 (List.map TEvent.e r0))]):=by
 refine PObj.intro (sl:=[(0,_)]) func44 rfl ntmps44 rfl rfl rfl ?_;intro ctx hK pv;refine wQ<|wR<|ws (aR 90 7 rfl)<|wN<|wQ<|wQ<|wR<|wm ?_;refine ws (LR.eqlPtr underlying40 rfl)<|wN<|PWc.condF rfl<|wK<|wQ<|wR<|wm ?_;refine ws (LR.nilCheckRef rfl)<|ws (fR underlying106 rfl sizeOf104 (by decide) rfl rfl)<|ws (lD isAgg104 rfl rfl rfl)<|ws (LR.buildSliceP [.tmp 8] zra rfl rfl rfl rfl (by decide) rfl) ?_;obtain ⟨y6,hy7,h⟩:=iDet h;refine ws (LR.callObjS [(100,9),(101,102),(3,10)] [] [100,101,3] [(3,.row 90 7 (List.map TEvent.e y6))] [(100,.cells 104 [.mp 101]),(101,.mapH nl4 [.u16,.u64] true (encM TDot.k TEvent.e m5))] (XJ nl4 m5 y6 hy7) hK rfl call85 rfl (by first | rfl | (simp;done) | (simp [PV.nilD,PV.ren,rn];omega)) (by repeat' first | constructor | (congr 1;first | (simp;done) | (simp;omega) | omega)) (.cons rfl<|.nil) (.cons rfl<|.cons rfl<|.nil) (by repeat' first | constructor | (congr 1;first | (simp;done) | (simp;omega) | omega)) rfl rfl rfl rfl rfl rfl) ?_;refine wy (tl:=[(2,_),(10,_)]) (to:=[(2,_),(10,_),(100,_),(101,_),(102,_),(1100,_),(1101,_),(1102,_)]) ?_;refine wy (tl:=[(10,_)]) (to:=[(10,_),(100,_),(101,_),(102,_),(1100,_),(1101,_),(1102,_)]) ?_;refine wa ?_;refine wN<|wX ?_;cases h;exact EndsO.mk () (.inr rfl) (sO (tl:=[(2,_)]) (to:=[(100,_),(101,_),(102,_),(10,_),(1100,_),(1101,_),(1102,_)]) rfl (.cons rfl (by first | rfl | (simp;done) | (congr 1;first | (simp;done) | (simp;omega) | omega))<|.nil) (.c4 rfl rfl rfl rfl rfl rfl rfl rfl<|.c2 rfl rfl rfl rfl<|.cons rfl rfl<|.nil)) (.cons (.tmp rfl)<|.nil) rfl rfl


theorem yEa (x1:R18Book) (ctx_2:List TPart) (nl3:Bool) (m4:List (TDot × TEvent)) (nl5:Bool) (m6:List (TDot × TEvent)) (r0:Int) (h:(UW x1 ctx_2 nl3 m4 nl5 m6).wp (· = r0)):PObj prog 14 [.ref 100 0,.agg (List.map .d (R18Book.e x1))] [(100,.cells 106 [.d (.sl (List.map TPart.e ctx_2)),.mp 101,.mp 102]),(101,.mapH nl3 [.u16,.u64] true (encM TDot.k TEvent.e m4)),(102,.mapH nl5 [.u16,.u64] true (encM TDot.k TEvent.e m6))] [100,101,102] (.d (.v (.int .i64 r0))) (fun _:Unit=>[(100,.cells 106 [.d (.sl (List.map TPart.e ctx_2)),.mp 101,.mp 102]),(101,.mapH nl3 [.u16,.u64] true (encM TDot.k TEvent.e m4)),(102,.mapH nl5 [.u16,.u64] true (encM TDot.k TEvent.e m6))]):=by
 refine PObj.intro (sl:=[(0,_),(1,_)]) func14 rfl ntmps14 rfl rfl rfl ?_;intro ctx hK pv;refine wQ<|wR<|ws (LR.box rfl rfl rfl rfl)<|wa ?_;refine wN<|wQ<|wQ<|wz (tl:=[(0,_),(3,_)]) (to:=[(3,_),(100,_),(101,_),(102,_),(1100,_),(1101,_),(1102,_)]) ?_;refine wJ (zH h) (fun (v7:Bool) (_:Unit)=>⟨32,[(31,.d (.v (.bool v7)))],[(100,.cells 106 [.d (.sl (List.map TPart.e ctx_2)),.mp 101,.mp 102]),(101,.mapH nl3 [.u16,.u64] true (encM TDot.k TEvent.e m4)),(102,.mapH nl5 [.u16,.u64] true (encM TDot.k TEvent.e m6)),(1100,.pin 100 (pv 100)),(1101,.pin 101 (pv 101)),(1102,.pin 102 (pv 102))]⟩) (fun h=>?_) ?_
 ·refine PWc.regionE [⟨[5],[],[],[],[],[100],[],[]⟩,⟨[6],[],[100,101,102],[],[],[],[],[]⟩,⟨[7],[],[],[],[],[3],[],[]⟩,⟨[8],[],[3],[],[],[],[],[]⟩,{ws:=[9]},{ws:=[10]},{ws:=[11]},⟨[12],[],[],[],[],[100],[],[]⟩,⟨[13],[],[100,101,102],[],[],[],[],[]⟩,⟨[14],[],[3],[],[],[],[],[]⟩,{ws:=[15]},{ws:=[16]},{ws:=[17]},{ws:=[18]},⟨[19],[],[],[],[],[100],[],[]⟩,⟨[20],[],[100,101,102],[],[],[],[],[]⟩,⟨[21],[],[3],[],[],[],[],[]⟩,{ws:=[22]},{ws:=[23]},{ws:=[24]},{ws:=[25]},⟨[26],[],[],[],[],[100],[],[]⟩,⟨[27],[],[100,101,102],[],[],[],[],[]⟩,⟨[28],[],[],[],[],[3],[],[]⟩,⟨[29],[],[3],[],[],[],[],[]⟩,{ws:=[30]},{ws:=[31]}] (by kernel_rfl) (by kernel_rfl) rfl<|km ?_;obtain ⟨y8,hy9,h⟩:=iDet h;refine PQe.callObjS [(100,100),(101,101),(102,102)] [] [100,101,102] [] [(100,.cells 106 [.d (.sl (List.map TPart.e ctx_2)),.mp 101,.mp 102]),(101,.mapH nl3 [.u16,.u64] true (encM TDot.k TEvent.e m4)),(102,.mapH nl5 [.u16,.u64] true (encM TDot.k TEvent.e m6))] (ZP ctx_2 nl3 m4 nl5 m6 y8 hy9) hK (fun _ U=>⟨U rfl rfl,evsE U rfl rfl⟩) call41 (by first | rfl | (simp;done) | (simp [PV.nilD,PV.ren,rn];omega)) (by repeat' first | constructor | (congr 1;first | (simp;done) | (simp;omega) | omega)) (.nil) (.cons rfl<|.cons rfl<|.cons rfl<|.nil) (by repeat' first | constructor | (congr 1;first | (simp;done) | (simp;omega) | omega)) rfl rfl rfl rfl rfl rfl (.inl rfl) rfl ?_;refine kp (fun _ U W=>fR underlying44 rfl sizeOf31 (by decide) rfl (U rfl rfl)) ?_;refine kp (fun _ U W=>lD isAgg31 (U rfl rfl) (W rfl rfl) rfl) ?_;obtain ⟨v10,hy11,h⟩:=iDet h;refine kp (fun _ U W=>cN (PRow.fun (un x1.ctx v10 hy11)) (U rfl rfl) call22 (evsE U rfl rfl) rfl rfl rfl) ?_;obtain ⟨v12,hy13,h⟩:=iDet h;refine kp (fun _ U W=>cN (VA y8 v10 v12 hy13) (U rfl rfl) call40 (evsE U rfl rfl) rfl rfl rfl)<|km ?_;refine PQe.split (d:=11) rfl (fun hg14=>?_) (fun hg14=>?_)
  ·replace h:=iT hg14 h;refine PQe.stepP (fun _ U W=>mV (U rfl rfl)) (.inr ⟨_,_,_,rfl,rfl,rfl⟩) rfl ?_;obtain ⟨y15,hy16,h⟩:=iDet h;refine PQe.callObjS [(100,100),(101,101),(102,102),(10,13)] [] [100,101,102] [] [(100,.cells 106 [.d (.sl (List.map TPart.e ctx_2)),.mp 101,.mp 102]),(101,.mapH nl3 [.u16,.u64] true (encM TDot.k TEvent.e m4)),(102,.mapH nl5 [.u16,.u64] true (encM TDot.k TEvent.e m6))] (PObj.dropRow (os1:=fun _=>[(100,.cells 106 [.d (.sl (List.map TPart.e ctx_2)),.mp 101,.mp 102]),(101,.mapH nl3 [.u16,.u64] true (encM TDot.k TEvent.e m4)),(102,.mapH nl5 [.u16,.u64] true (encM TDot.k TEvent.e m6))]) (WU ctx_2 nl3 m4 nl5 m6 y15 hy16) (fun _=>rfl) (by simp) (fun _=>rfl)) hK (fun _ U=>⟨U rfl rfl,evsE U rfl rfl⟩) call42 (by first | rfl | (simp;done) | (simp [PV.nilD,PV.ren,rn];omega)) (by repeat' first | constructor | (congr 1;first | (simp;done) | (simp;omega) | omega)) (.nil) (.cons rfl<|.cons rfl<|.cons rfl<|.nil) (by repeat' first | constructor | (congr 1;first | (simp;done) | (simp;omega) | omega)) rfl rfl rfl rfl rfl rfl (.inr ⟨_,_,_,rfl,rfl,rfl⟩) rfl ?_;refine PQe.stepP (fun _ U W=>lA (ps:=[_,_]) isAgg44 sizeOf44 (U rfl rfl) (W rfl rfl) rfl rfl) (.inr ⟨_,_,_,rfl,rfl,rfl⟩) rfl ?_;obtain ⟨v17,hy18,h⟩:=iDet h;refine PQe.stepP (fun _ U W=>cN (PRow.fun (jM x1 v17 hy18)) (U rfl rfl) call43 (evsE U rfl rfl) rfl rfl rfl) (.inr ⟨_,_,_,rfl,rfl,rfl⟩) rfl ?_;obtain ⟨v19,hy20,h⟩:=iDet h;refine PQe.stepP (fun _ U W=>cN (vL y15 v17 v19 hy20) (U rfl rfl) call30 (evsE U rfl rfl) rfl rfl rfl) (.inr ⟨_,_,_,rfl,rfl,rfl⟩) rfl ?_;refine kp (fun _ U W=>pT (U rfl rfl) (U rfl rfl))<|km ?_;refine PQe.split (d:=18) rfl (fun hg21=>?_) (fun hg21=>?_)
   ·replace h:=iT hg21 h;refine PQe.stepP (fun _ U W=>mV (U rfl rfl)) (.inr ⟨_,_,_,rfl,rfl,rfl⟩) rfl ?_;obtain ⟨y22,hy23,h⟩:=iDet h;refine PQe.callObjS [(100,100),(101,101),(102,102),(10,20)] [] [100,101,102] [] [(100,.cells 106 [.d (.sl (List.map TPart.e ctx_2)),.mp 101,.mp 102]),(101,.mapH nl3 [.u16,.u64] true (encM TDot.k TEvent.e m4)),(102,.mapH nl5 [.u16,.u64] true (encM TDot.k TEvent.e m6))] (PObj.dropRow (os1:=fun _=>[(100,.cells 106 [.d (.sl (List.map TPart.e ctx_2)),.mp 101,.mp 102]),(101,.mapH nl3 [.u16,.u64] true (encM TDot.k TEvent.e m4)),(102,.mapH nl5 [.u16,.u64] true (encM TDot.k TEvent.e m6))]) (Xz ctx_2 nl3 m4 nl5 m6 y22 hy23) (fun _=>rfl) (by simp) (fun _=>rfl)) hK (fun _ U=>⟨U rfl rfl,evsE U rfl rfl⟩) call44 (by first | rfl | (simp;done) | (simp [PV.nilD,PV.ren,rn];omega)) (by repeat' first | constructor | (congr 1;first | (simp;done) | (simp;omega) | omega)) (.nil) (.cons rfl<|.cons rfl<|.cons rfl<|.nil) (by repeat' first | constructor | (congr 1;first | (simp;done) | (simp;omega) | omega)) rfl rfl rfl rfl rfl rfl (.inr ⟨_,_,_,rfl,rfl,rfl⟩) rfl ?_;refine PQe.stepP (fun _ U W=>lA (ps:=[_,_]) isAgg44 sizeOf44 (U rfl rfl) (W rfl rfl) rfl rfl) (.inr ⟨_,_,_,rfl,rfl,rfl⟩) rfl ?_;obtain ⟨v24,hy25,h⟩:=iDet h;refine PQe.stepP (fun _ U W=>cN (PRow.fun (UA x1 v24 hy25)) (U rfl rfl) call45 (evsE U rfl rfl) rfl rfl rfl) (.inr ⟨_,_,_,rfl,rfl,rfl⟩) rfl ?_;obtain ⟨v26,hy27,h⟩:=iDet h;refine PQe.stepP (fun _ U W=>cN (vL y22 v24 v26 hy27) (U rfl rfl) call30 (evsE U rfl rfl) rfl rfl rfl) (.inr ⟨_,_,_,rfl,rfl,rfl⟩) rfl ?_;refine kp (fun _ U W=>pT (U rfl rfl) (U rfl rfl))<|km ?_;refine PQe.split (d:=25) rfl (fun hg28=>?_) (fun hg28=>?_)
    ·replace h:=iT hg28 h;refine PQe.stepP (fun _ U W=>mV (U rfl rfl)) (.inr ⟨_,_,_,rfl,rfl,rfl⟩) rfl ?_;obtain ⟨y29,hy30,h⟩:=iDet h;refine PQe.callObjS [(100,100),(101,101),(102,102),(14,27)] [] [100,101,102] [] [(100,.cells 106 [.d (.sl (List.map TPart.e ctx_2)),.mp 101,.mp 102]),(101,.mapH nl3 [.u16,.u64] true (encM TDot.k TEvent.e m4)),(102,.mapH nl5 [.u16,.u64] true (encM TDot.k TEvent.e m6))] (PObj.dropRow (os1:=fun _=>[(100,.cells 106 [.d (.sl (List.map TPart.e ctx_2)),.mp 101,.mp 102]),(101,.mapH nl3 [.u16,.u64] true (encM TDot.k TEvent.e m4)),(102,.mapH nl5 [.u16,.u64] true (encM TDot.k TEvent.e m6))]) (ZQ ctx_2 nl3 m4 nl5 m6 y29 hy30) (fun _=>rfl) (by simp) (fun _=>rfl)) hK (fun _ U=>⟨U rfl rfl,evsE U rfl rfl⟩) call46 (by first | rfl | (simp;done) | (simp [PV.nilD,PV.ren,rn];omega)) (by repeat' first | constructor | (congr 1;first | (simp;done) | (simp;omega) | omega)) (.nil) (.cons rfl<|.cons rfl<|.cons rfl<|.nil) (by repeat' first | constructor | (congr 1;first | (simp;done) | (simp;omega) | omega)) rfl rfl rfl rfl rfl rfl (.inr ⟨_,_,_,rfl,rfl,rfl⟩) rfl ?_;refine PQe.stepP (fun _ U W=>fR underlying44 rfl sizeOf32 (by decide) rfl (U rfl rfl)) (.inr ⟨_,_,_,rfl,rfl,rfl⟩) rfl ?_;refine PQe.stepP (fun _ U W=>lD isAgg32 (U rfl rfl) (W rfl rfl) rfl) (.inr ⟨_,_,_,rfl,rfl,rfl⟩) rfl ?_;obtain ⟨v31,hy32,h⟩:=iDet h;refine PQe.stepP (fun _ U W=>cN (vL y29 x1.l v31 hy32) (U rfl rfl) call30 (evsE U rfl rfl) rfl rfl rfl) (.inr ⟨_,_,_,rfl,rfl,rfl⟩) rfl ?_;refine kp (fun _ U W=>pT (U rfl rfl) (U rfl rfl))<|PQe.nil ?_;exact ⟨v31,(),h,sP⟩
    ·replace h:=iF hg28 h;refine kx<|kx<|kx<|kx<|kx ?_;refine kp (fun _ U W=>pF (U rfl rfl) (U rfl rfl))<|PQe.nil ?_;exact ⟨false,(),h,sP⟩
   ·replace h:=iF hg21 h;refine kx<|kx<|kx<|kx<|kx ?_;refine kp (fun _ U W=>pF (U rfl rfl) (U rfl rfl))<|km ?_;refine kx<|kx<|kx<|kx<|kx ?_;refine kp (fun _ U W=>pF (U rfl rfl) (U rfl rfl))<|PQe.nil ?_;exact ⟨false,(),h,sP⟩
  ·replace h:=iF hg14 h;refine kx<|kx<|kx<|kx<|kx ?_;refine kp (fun _ U W=>pF (U rfl rfl) (U rfl rfl))<|km ?_;refine kx<|kx<|kx<|kx<|kx ?_;refine kp (fun _ U W=>pF (U rfl rfl) (U rfl rfl))<|km ?_;refine kx<|kx<|kx<|kx<|kx ?_;refine kp (fun _ U W=>pF (U rfl rfl) (U rfl rfl))<|PQe.nil ?_;exact ⟨false,(),h,sP⟩
 ·rintro v7 _ h;refine xD h rfl (fun _ h=>?_) (fun _ h=>?_)
  ·refine wQ<|wR<|wa ?_;refine wN<|wX ?_;cases h;exact EndsO.mk () (.inr rfl) (sP (tl:=[(4,_)]) (to:=[(100,_),(101,_),(102,_),(1100,_),(1101,_),(1102,_)])) (.cons (.tmp rfl)<|.nil) rfl rfl
  ·refine wK<|wQ<|wR<|wa ?_;refine wN<|wX ?_;cases h;exact EndsO.mk () (.inr rfl) (sP (tl:=[(4,_)]) (to:=[(100,_),(101,_),(102,_),(1100,_),(1101,_),(1102,_)])) (.cons (.tmp rfl)<|.nil) rfl rfl

theorem Vg (b1:List Int) (r0:Bool) (h:(vW b1).wp (· = r0)):PFun prog 3 [.d (.sl (List.map (eK .u8) b1))] (.d (.v (.bool r0))):=by
 refine fI (sl:=[(0,_)]) func3 rfl ntmps3 rfl rfl ?_;intro ctx hK;refine wQ<|wR<|wa ?_;refine wN<|wQ<|wQ<|wR<|wm ?_;refine ws (lM (enc:=(eK .u8)) (L:=b1) underlying22 rfl)<|ws (LR.gtr rfl rfl)<|wN ?_;refine xD h rfl (fun _ h=>?_) (fun _ h=>?_)
 ·refine wQ<|wR ?_;obtain ⟨v3,hy4,h⟩:=iDet h;refine xN (ZR v3 hy4) call5<|wa ?_;refine wN<|wX ?_;cases h;exact xT
 ·refine wK<|wQ<|wR<|wm ?_;obtain ⟨y5,hy6,h⟩:=iDet h;refine xO [(7,14)] [] [7] (Yf b1 y5 hy6) call6<|wm ?_;refine ws (LR.build (ns:=[_,_,_]) wWa rfl rfl rfl)<|ws (LR.box rfl rfl rfl rfl)<|wa ?_;refine wa ?_;refine wN<|wQ<|wQ<|wz (tl:=[(0,_),(3,_),(4,_)]) (to:=[(14,_),(17,_)]) ?_;refine wJ (zH h) (fun (v7:Bool) (_:Unit)=>⟨64,[(0,.d (.sl (List.map (eK .u8) b1))),(30,.d (.v (.bool v7)))],[]⟩) (fun h=>?_) ?_
  ·refine wR<|wm ?_;obtain ⟨y8,hy9,h⟩:=iDet h;refine xO [(100,14)] [] [100] (UE y5.1 y5.2 y8 hy9) call8<|wm ?_;obtain ⟨y10,hy11,h⟩:=iDet h;refine xO [(100,17)] [] [100] (JG b1 0 0 y10 hy11) call9<|wy (tl:=[(0,_),(3,_),(4,_),(19,_),(21,_)]) (to:=[(14,_),(17,_)]) ?_;obtain ⟨v12,hy13,h⟩:=iDet h;refine xN (z5a y8.1 y10.1 v12 hy13) call7<|ws (LR.not rfl)<|wm ?_;refine xG (d:=24) h rfl (fun _ h=>?_) (fun _ h=>?_)
   ·refine wf<|wf<|wf<|wf<|wf<|ws (pT rfl rfl)<|wN ?_;exact ⟨true,(),h,sP⟩
   ·refine wt (mV rfl) ?_;obtain ⟨y15,hy16,h⟩:=iDet h;refine wt (LR.callObj [(100,14)] [] [100] (xj y8.2.1 y8.2.2 y15 hy16) hK rfl call10 rfl (by first | rfl | (simp;done) | (simp [PV.nilD,PV.ren,rn];omega)) (.cons (by first | rfl | (congr 1;first | (simp;done) | (simp;omega) | omega))<|.nil) rfl rfl rfl rfl) ?_;refine wt (mV rfl) ?_;obtain ⟨y17,hy18,h⟩:=iDet h;refine wt (LR.callObj [(100,17)] [] [100] (xK y10.2.1 y10.2.2.1 y10.2.2.2 y17 hy18) hK rfl call11 rfl (by first | rfl | (simp;done) | (simp [PV.nilD,PV.ren,rn];omega)) (.cons (by first | rfl | (congr 1;first | (simp;done) | (simp;omega) | omega))<|.nil) rfl rfl rfl rfl) ?_;refine wy (tl:=[(0,_),(24,_),(26,_),(28,_)]) (to:=[]) ?_;refine wt (nQ rfl rfl)<|ws (pF rfl rfl)<|wN ?_;exact ⟨(!decide (y15.1 = y17.1)),(),h,sP⟩
  ·rintro v7 _ h;refine xD h rfl (fun _ h=>?_) (fun _ h=>?_)
   ·refine wQ<|wR<|wa ?_;refine wN<|wX ?_;cases h;exact xT
   ·refine wK<|wQ<|wR<|wm ?_;obtain ⟨y20,hy21,h⟩:=iDet h;rcases y20 with z22 | z40
    ·replace h:=iSumL h;refine xO [] [] [] (Zx b1 (.inl z22) hy21) call12<|wm ?_;refine ws (LR.extract rfl rfl)<|ws (LR.extract rfl rfl)<|wa ?_;refine wa ?_;refine wN<|wQ<|wz (tl:=[(0,_),(5,_),(6,_)]) (to:=[]) ?_;refine wR<|wm ?_;obtain ⟨v23,hy24,h⟩:=iDet h;refine xN (VB b1 v23 hy24) call13<|wm ?_;refine ws (LR.extract rfl rfl)<|ws (LR.extract rfl rfl)<|ws (LR.allocZ (cs:=[_,_]) zeroValue44 rfl rfl rfl rfl)<|ws (sB (ns:=[_,_]) sizeOf44 rfl rfl rfl rfl rfl rfl rfl)<|wa ?_;refine wN<|wQ<|wQ<|wR<|wm ?_;refine wm ?_;refine ws (nQ rfl rfl)<|wN ?_;refine xD h rfl (fun _ h=>?_) (fun _ h=>?_)
     ·refine wQ<|wR<|wa ?_;refine wN<|wX ?_;cases h;exact xT
     ·refine wK<|wQ<|wQ<|wR<|wm ?_;refine ws (nQ rfl rfl)<|wN ?_;refine xD h rfl (fun _ h=>?_) (fun _ h=>?_)
      ·refine wQ<|wR<|wm ?_;refine ws (LR.eqlPtrN underlying40 rfl)<|wm ?_;obtain ⟨v27,hy28,h⟩:=iDet h;refine wt (cN (ZR v27 hy28) rfl call5 rfl rfl rfl rfl)<|ws (pT rfl rfl)<|wa ?_;refine wN<|wX ?_;cases h;exact xT
      ·refine wK<|wQ ?_;refine wJ (zH h) (fun (v29:Bool) (_:Unit)=>⟨64,[(2,.d (.v (.bool v29)))],[]⟩) (fun h=>?_) ?_
       ·refine wR<|wm ?_;refine ws (lA (ps:=[_,_]) isAgg44 sizeOf44 rfl rfl rfl rfl) ?_;obtain ⟨v30,hy31,h⟩:=iDet h;refine xN (qb v23.1 v30 hy31) call14<|ws (eQ rfl rfl)<|wm ?_;refine xG (d:=55) h rfl (fun _ h=>?_) (fun _ h=>?_)
        ·refine wy (tl:=[(0,_),(5,_),(55,_)]) (to:=[]) ?_;refine wt (mV rfl) ?_;obtain ⟨v33,hy34,h⟩:=iDet h;refine wt (cN (um v33 hy34) rfl call16 rfl rfl rfl rfl)<|wt (mV rfl) ?_;obtain ⟨v35,hy36,h⟩:=iDet h;refine wt (cN (ZO v33 b1 v35 hy36) rfl call15 rfl rfl rfl rfl)<|ws (pT rfl rfl)<|wm ?_;refine xG (d:=61) h rfl (fun _ h=>?_) (fun _ h=>?_)
         ·obtain ⟨v38,hy39,h⟩:=iDet h;refine wt (cN (ZR v38 hy39) rfl call5 rfl rfl rfl rfl)<|ws (pT rfl rfl)<|wa ?_;refine wN ?_;exact ⟨v38,(),h,sP⟩
         ·refine wf<|ws (pF rfl rfl)<|wa ?_;refine wN ?_;exact ⟨false,(),h,sP⟩
        ·refine wy (tl:=[(0,_),(5,_),(55,_)]) (to:=[]) ?_;refine wf<|wf<|wf<|wf<|ws (pF rfl rfl)<|wm ?_;refine wf<|ws (pF rfl rfl)<|wa ?_;refine wN ?_;exact ⟨false,(),h,sP⟩
       ·rintro v29 _ h;refine wX ?_;cases h;exact xT
    ·replace h:=iSumR h;refine xO [(20480,20660),(20481,20661),(20482,20662)] [] [20480,20481,20482] (Zx b1 (.inr z40) hy21) call12<|wm ?_;refine ws (LR.extract rfl rfl)<|ws (LR.extract rfl rfl)<|wa ?_;refine wa ?_;refine wN<|wQ<|wz (tl:=[(0,_),(5,_),(6,_)]) (to:=[(20660,_),(20661,_),(20662,_)]) ?_;refine wR<|wm ?_;obtain ⟨v41,hy42,h⟩:=iDet h;refine xN (VB b1 v41 hy42) call13<|wm ?_;refine ws (LR.extract rfl rfl)<|ws (LR.extract rfl rfl)<|ws (LR.allocZ (cs:=[_,_]) zeroValue44 rfl rfl rfl rfl)<|ws (sB (ns:=[_,_]) sizeOf44 rfl rfl rfl rfl rfl rfl rfl)<|wa ?_;refine wN<|wQ<|wQ<|wR<|wm ?_;refine wm ?_;refine ws (nQ rfl rfl)<|wN ?_;refine xD h rfl (fun _ h=>?_) (fun _ h=>?_)
     ·refine wQ<|wR<|wa ?_;refine wN<|wX ?_;cases h;exact xT
     ·refine wK<|wQ<|wQ<|wR<|wm ?_;refine ws (nQ rfl rfl)<|wN ?_;refine xD h rfl (fun _ h=>?_) (fun _ h=>?_)
      ·refine wQ<|wR<|wm ?_;refine ws (LR.eqlPtr underlying40 rfl)<|wm ?_;refine wf<|ws (pF rfl rfl)<|wa ?_;refine wN<|wX ?_;cases h;exact xT
      ·refine wK<|wQ ?_;refine wJ (zH h) (fun (v45:Bool) (_:Unit)=>⟨64,[(2,.d (.v (.bool v45)))],[]⟩) (fun h=>?_) ?_
       ·refine wR<|wm ?_;refine ws (lA (ps:=[_,_]) isAgg44 sizeOf44 rfl rfl rfl rfl) ?_;obtain ⟨y46,hy47,h⟩:=iDet h;refine ws (LR.callObjS [(100,20660),(101,20661),(102,20662)] [] [100,101,102] [] [(100,.cells 106 [.d (.sl (List.map TPart.e z40.2.1)),.mp 101,.mp 102]),(101,.mapH z40.2.2.1 [.u16,.u64] true (encM TDot.k TEvent.e z40.2.2.2.1)),(102,.mapH z40.2.2.2.2.1 [.u16,.u64] true (encM TDot.k TEvent.e z40.2.2.2.2.2))] (yEa v41.1 z40.2.1 z40.2.2.1 z40.2.2.2.1 z40.2.2.2.2.1 z40.2.2.2.2.2 y46 hy47) hK rfl call14 rfl (by first | rfl | (simp;done) | (simp [PV.nilD,PV.ren,rn];omega)) (by repeat' first | constructor | (congr 1;first | (simp;done) | (simp;omega) | omega)) (.nil) (.cons rfl<|.cons rfl<|.cons rfl<|.nil) (by repeat' first | constructor | (congr 1;first | (simp;done) | (simp;omega) | omega)) rfl rfl rfl rfl rfl rfl) ?_;refine ws (eQ rfl rfl)<|wm ?_;refine xG (d:=55) h rfl (fun _ h=>?_) (fun _ h=>?_)
        ·refine wy (tl:=[(0,_),(5,_),(55,_)]) (to:=[(20660,_),(20661,_),(20662,_)]) ?_;refine wt (mV rfl) ?_;obtain ⟨y49,hy50,h⟩:=iDet h;refine wt (LR.callObjS [(100,20660),(101,20661),(102,20662)] [] [100,101,102] [] [(100,.cells 106 [.d (.sl (List.map TPart.e z40.2.1)),.mp 101,.mp 102]),(101,.mapH z40.2.2.1 [.u16,.u64] true (encM TDot.k TEvent.e z40.2.2.2.1)),(102,.mapH z40.2.2.2.2.1 [.u16,.u64] true (encM TDot.k TEvent.e z40.2.2.2.2.2))] (Zv z40.2.1 z40.2.2.1 z40.2.2.2.1 z40.2.2.2.2.1 z40.2.2.2.2.2 y49 hy50) hK rfl call16 rfl (by first | rfl | (simp;done) | (simp [PV.nilD,PV.ren,rn];omega)) (by repeat' first | constructor | (congr 1;first | (simp;done) | (simp;omega) | omega)) (.nil) (.cons rfl<|.cons rfl<|.cons rfl<|.nil) (by repeat' first | constructor | (congr 1;first | (simp;done) | (simp;omega) | omega)) rfl rfl rfl rfl rfl rfl) ?_;refine wt (mV rfl) ?_;obtain ⟨v51,hy52,h⟩:=iDet h;refine wt (cN (ZO y49 b1 v51 hy52) rfl call15 rfl rfl rfl rfl)<|ws (pT rfl rfl)<|wm ?_;refine xG (d:=61) h rfl (fun _ h=>?_) (fun _ h=>?_)
         ·obtain ⟨v54,hy55,h⟩:=iDet h;refine wt (cN (ZR v54 hy55) rfl call5 rfl rfl rfl rfl)<|ws (pT rfl rfl)<|wa ?_;refine wN ?_;exact ⟨v54,(),h,sP⟩
         ·refine wf<|ws (pF rfl rfl)<|wa ?_;refine wN ?_;exact ⟨false,(),h,sP⟩
        ·refine wy (tl:=[(0,_),(5,_),(55,_)]) (to:=[(20660,_),(20661,_),(20662,_)]) ?_;refine wf<|wf<|wf<|wf<|ws (pF rfl rfl)<|wm ?_;refine wf<|ws (pF rfl rfl)<|wa ?_;refine wN ?_;exact ⟨false,(),h,sP⟩
       ·rintro v45 _ h;refine wX ?_;cases h;exact xT
end Go.Proofs

namespace Go.Ep
open Go

theorem wI64 {n:Int} (h:-9223372036854775808 <= n) (h':n <= 9223372036854775807):IntKind.i64.wrap n = n:=by simp [IntKind.wrap,IntKind.bits,IntKind.signed];omega
theorem wU64 {n:Int} (h:0 <= n) (h':n <= 18446744073709551615):IntKind.u64.wrap n = n:=by simp [IntKind.wrap,IntKind.bits,IntKind.signed];omega
theorem wU16 {n:Int} (h:0 <= n) (h':n <= 65535):IntKind.u16.wrap n = n:=by simp [IntKind.wrap,IntKind.bits,IntKind.signed];omega
theorem wU8 {n:Int} (h:0 <= n) (h':n <= 255):IntKind.u8.wrap n = n:=by simp [IntKind.wrap,IntKind.bits,IntKind.signed];omega
theorem yJ {i:Nat} (h:i < 9223372036854775807):IntKind.i64.wrap ((i:Int) + 1) = ((i + 1:Nat):Int):=by rw [wI64 (by omega) (by omega)];rfl
namespace M
variable {α β σ ρ τ ε:Type}
theorem ww (p:Prop) [Decidable p] (x y:M α):cond (decide p) x y = if p then x else y:=by by_cases h:p <;> simp [h]
theorem Yg {body:σ -> M (Step σ ρ)} (l:List ε) (mk:Nat -> τ -> σ) (f:τ -> ε -> τ) (g:τ -> M ρ)
  (I:Nat -> τ -> Prop) (h1:∀ (i:Nat) (x:ε) (t:τ),l[i]? = some x -> i < l.length -> I i t -> body (mk i t) = pure (.next (mk (i + 1) (f t x))) /\ I (i + 1) (f t x))
  (h2:∀ t,I l.length t -> body (mk l.length t) = (g t).bind fun r=>pure (.done r)) (t0:τ) (h0:I 0 t0):loop body (mk 0 t0) = g (l.foldl f t0):=by
 have key:∀ k i t,i + k = l.length -> I i t -> loop body (mk i t) = g ((l.drop i).foldl f t):=by
  intro k
  induction k with
  | zero=>
   intro i t hi hI;have:i = l.length:=by omega
   subst this;rw [Uv,h2 t hI,List.drop_length]
   rfl
  | succ k ih=>
   intro i t hi hI;have hlt:i < l.length:=by omega
   obtain ⟨h3,h4⟩:=h1 i l[i] t (List.getElem?_eq_getElem hlt) hlt hI;rw [zi h3,ih (i + 1) _ (by omega) h4,List.drop_eq_getElem_cons hlt]
   rfl
 simpa using key l.length 0 t0 (by omega) h0
theorem loopF {body:σ -> M (Step σ ρ)} (l:List ε) (mk:Nat -> σ) (p:Nat -> ε -> Bool) (r:Nat -> ε -> ρ) (d:M ρ)
  (h1:∀ (i:Nat) (x:ε),l[i]? = some x -> i < l.length -> body (mk i) = if p i x then pure (.done (r i x)) else pure (.next (mk (i + 1))))
  (h2:body (mk l.length) = d.bind fun r=>pure (.done r)):loop body (mk 0) = match (l.zipIdx).find? (fun y=>p y.2 y.1) with | some y=>pure (r y.2 y.1) | none=>d:=by
 have key:∀ k i,i + k = l.length -> loop body (mk i) = match ((l.drop i).zipIdx i).find? (fun y=>p y.2 y.1) with | some y=>pure (r y.2 y.1) | none=>d:=by
  intro k
  induction k with
  | zero=>
   intro i hi;have:i = l.length:=by omega
   subst this;rw [Uv,h2,List.drop_length]
   rfl
  | succ k ih=>
   intro i hi;have hlt:i < l.length:=by omega
   have h3:=h1 i l[i] (List.getElem?_eq_getElem hlt) hlt;rw [List.drop_eq_getElem_cons hlt,List.zipIdx_cons,List.find?_cons]
   by_cases hp:p i l[i] = true
   ·rw [if_pos hp] at h3;rw [zO h3];simp [hp]
   ·rw [if_neg hp] at h3;rw [zi h3,ih (i + 1) (by omega)];simp [hp]
 simpa using key l.length 0 (by omega)
theorem xl {body:σ -> M (Step σ ρ)} (l:List ε) (mk:Nat -> σ) (p:Nat -> ε -> Bool) (r1 r2:ρ)
  (h1:∀ (i:Nat) (x:ε),l[i]? = some x -> i < l.length -> body (mk i) = if p i x then pure (.next (mk (i + 1))) else pure (.done r2))
  (h2:body (mk l.length) = pure (.done r1)):loop body (mk 0) = pure (if l.zipIdx.all (fun y=>p y.2 y.1) then r1 else r2):=by
 have key:∀ k i,i + k = l.length -> loop body (mk i) = pure (if ((l.drop i).zipIdx i).all (fun y=>p y.2 y.1) then r1 else r2):=by
  intro k
  induction k with
  | zero=>
   intro i hi;have:i = l.length:=by omega
   subst this;rw [zO h2,List.drop_length]
   rfl
  | succ k ih=>
   intro i hi;have hlt:i < l.length:=by omega
   have h3:=h1 i l[i] (List.getElem?_eq_getElem hlt) hlt;rw [List.drop_eq_getElem_cons hlt,List.zipIdx_cons,List.all_cons]
   by_cases hp:p i l[i] = true
   ·rw [if_pos hp] at h3;rw [zi h3,ih (i + 1) (by omega),hp,Bool.true_and]
   ·rw [if_neg hp] at h3;rw [zO h3];simp [hp]
 have:=key l.length 0 (by omega);rw [List.drop_zero] at this;exact this

def came {ε:Type} (m:List ε) (L:List Nat):List ε:=L.filterMap fun i=>m[i]?
theorem w5a {m:List ε} {L:List Nat} {i:Nat} {y:ε} (h:m[i]? = some y):came m (L ++ [i]) = came m L ++ [y]:=by simp [came,h]
theorem qc {n:Nat} {L:List Nat} (hn:L.Nodup) (hb:∀ i ∈ L,i < n) (ha:∀ i,i < n -> i ∈ L):L.Perm (List.range n):=by
 refine (List.perm_ext_iff_of_nodup hn List.nodup_range).2 fun i=>?_
 rw [List.mem_range];exact ⟨hb i,ha i⟩
theorem w6a {m:List ε} {L:List Nat} (hn:L.Nodup) (hb:∀ i ∈ L,i < m.length) (ha:∀ i,i < m.length -> i ∈ L):(came m L).Perm m:=by
 have h1:=(qc hn hb ha).filterMap fun i=>m[i]?
 have h2:(List.range m.length).filterMap (fun i=>m[i]?) = m:=by
  apply List.ext_getElem?;intro i;clear h1 hn hb ha;have:(List.range m.length).filterMap (fun i=>m[i]?) = m:=by
   induction m with
   | nil=>rfl
   | cons x r ih=>
    rw [List.length_cons,List.range_succ_eq_map,List.filterMap_cons];simp only [List.getElem?_cons_zero,List.filterMap_map]
    congr 1
  rw [this]
 rw [h2] at h1;exact h1
theorem w7a {n:Nat} {L:List Nat} (hn:L.Nodup) (hb:∀ i ∈ L,i < n):L.length <= n:=by
 have:=List.Nodup.length_le_of_subset hn (l₂:=List.range n) (fun i hi=>List.mem_range.2 (hb i hi));simpa using this

theorem full {n:Nat} {L:List Nat} (hn:L.Nodup) (hb:∀ i ∈ L,i < n) (hl:n <= L.length):∀ i,i < n -> i ∈ L:=by
 intro i hi;refine Classical.byContradiction fun hni=>?_
 have:=w7a (n:=n) (L:=i :: L) (List.nodup_cons.2 ⟨hni,hn⟩) (fun j hj=>by
  rcases List.mem_cons.1 hj with rfl | hj
  ·exact hi
  ·exact hb j hj)
 simp at this;omega
theorem loopM {body:σ -> M (Step σ ρ)} (m:List ε) (mk:List Nat -> τ -> σ) (f:τ -> ε -> M τ) (g:τ -> M ρ) (I:List ε -> τ -> Prop) (Q:ρ -> Prop)
  (hb:∀ L t,(∀ i ∈ L,i < m.length) -> body (mk L t) = need (∀ i ∈ L,i < m.length) ((nxt m.length L).bind fun o=>match o with
   | none=>(g t).bind fun r=>pure (.done r)
   | some i=>(idx m (Int.ofNat i)).bind fun y=>(f t y).bind fun t'=>pure (.next (mk (L ++ [i]) t'))))
  (hs:∀ l t y,I l t -> l.length < m.length -> y ∈ m -> ∃ t',f t y = pure t' /\ I (l ++ [y]) t') (he:∀ l t,l.Perm m -> I l t -> (g t).wp Q) (t0:τ) (h0:I [] t0):(loop body (mk [] t0)).wp Q:=by
 have key:∀ k L t,L.length + k = m.length -> L.Nodup -> (∀ i ∈ L,i < m.length) -> I (came m L) t -> JA body Q (mk L t):=by
  intro k
  induction k with
  | zero=>
   intro L t hk hn hlt hI;refine YF ?_;rw [hb L t hlt];have hall:∀ i,i < m.length -> i ∈ L:=fun i hi=>full hn hlt (by omega) i hi
   refine ⟨hlt,⟨⟨none,hall⟩,fun o ho=>?_⟩⟩
   cases o with
   | none=>
    have:=he _ t (w6a hn hlt hall) hI;exact this
   | some i=>exact absurd (hall i ho.1) ho.2
  | succ k ih=>
   intro L t hk hn hlt hI;refine YF ?_;rw [hb L t hlt];have hex:∃ i,i < m.length /\ i ∉ L:=by
    refine Classical.byContradiction fun hno=>?_
    have hall:∀ i,i < m.length -> i ∈ L:=fun i hi=>Classical.byContradiction fun h=>hno ⟨i,hi,h⟩
    have:=(qc hn hlt hall).length_eq;simp at this;omega
   obtain ⟨i0,hi0⟩:=hex;refine ⟨hlt,⟨⟨some i0,hi0⟩,fun o ho=>?_⟩⟩
   cases o with
   | none=>exact absurd (ho i0 hi0.1) hi0.2
   | some i=>
    have hi:=List.getElem?_eq_getElem ho.1;obtain ⟨t',h1,h2⟩:=hs (came m L) t m[i] hI (by have:=List.length_filterMap_le (fun i=>m[i]?) L;unfold came;omega) (List.getElem_mem ho.1);show ((idx m (Int.ofNat i)).bind _).wp _;rw [show (Int.ofNat i) = (i:Int) from rfl,zK hi,zA,h1,zA];refine ih (L ++ [i]) t' (by simp;omega) ?_ ?_ (by rw [w5a hi];exact h2)
    ·rw [List.nodup_append];refine ⟨hn,by simp,fun a ha b hb'=>?_⟩;rw [List.mem_singleton.1 hb'];intro e;exact ho.2 (e ▸ ha)
    ·intro j hj;rcases List.mem_append.1 hj with hj | hj
     ·exact hlt j hj
     ·rw [List.mem_singleton.1 hj];exact ho.1
 exact key m.length [] t0 (by simp) List.nodup_nil (by simp) h0

theorem loopN {body:σ -> M (Step σ ρ)} (n:Nat) (mk:List Nat -> τ -> σ) (I:List Nat -> τ -> Prop) (Q:ρ -> Prop)
  (h:∀ L t,I L t -> L.Nodup -> (∀ i ∈ L,i < n) -> ∃ K:Option Nat -> M (Step σ ρ),body (mk L t) = need (∀ i ∈ L,i < n) ((nxt n L).bind K) /\ ((∀ i,i < n -> i ∈ L) -> (K none).wp (Step.post (fun _=>False) Q)) /\
   ∀ i,i < n -> i ∉ L -> ∃ t',K (some i) = pure (.next (mk (L ++ [i]) t')) /\ I (L ++ [i]) t') (t0:τ) (h0:I [] t0):(loop body (mk [] t0)).wp Q:=by
 have key:∀ k L t,L.length + k = n -> L.Nodup -> (∀ i ∈ L,i < n) -> I L t -> JA body Q (mk L t):=by
  intro k
  induction k with
  | zero=>
   intro L t hk hn hlt hI;obtain ⟨K,h1,h2,h3⟩:=h L t hI hn hlt;refine YF ?_;rw [h1];have hall:∀ i,i < n -> i ∈ L:=full hn hlt (by omega);refine ⟨hlt,⟨⟨none,hall⟩,fun o ho=>?_⟩⟩
   cases o with
   | none=>exact (K none).mono (fun a ha=>by cases a with | next s=>exact ha.elim | done r=>exact ha) (h2 hall)
   | some i=>exact absurd (hall i ho.1) ho.2
  | succ k ih=>
   intro L t hk hn hlt hI;obtain ⟨K,h1,h2,h3⟩:=h L t hI hn hlt;refine YF ?_;rw [h1];have hex:∃ i,i < n /\ i ∉ L:=by
    refine Classical.byContradiction fun hno=>?_
    have hall:∀ i,i < n -> i ∈ L:=fun i hi=>Classical.byContradiction fun h=>hno ⟨i,hi,h⟩
    have:=(qc hn hlt hall).length_eq;simp at this;omega
   obtain ⟨i0,hi0⟩:=hex;refine ⟨hlt,⟨⟨some i0,hi0⟩,fun o ho=>?_⟩⟩
   cases o with
   | none=>exact absurd (ho i0 hi0.1) hi0.2
   | some i=>
    obtain ⟨t',h4,h5⟩:=h3 i ho.1 ho.2;show (K (some i)).wp _;rw [h4];refine ih (L ++ [i]) t' (by simp;omega) ?_ ?_ h5
    ·rw [List.nodup_append];refine ⟨hn,by simp,fun a ha b hb'=>?_⟩;rw [List.mem_singleton.1 hb'];intro e;exact ho.2 (e ▸ ha)
    ·intro j hj;rcases List.mem_append.1 hj with hj | hj
     ·exact hlt j hj
     ·rw [List.mem_singleton.1 hj];exact ho.1
 exact key n [] t0 (by simp) List.nodup_nil (by simp) h0
end M

namespace AL
variable {κ ν:Type} [DecidableEq κ]
theorem get_set (m:List (κ × ν)) (k q:κ) (v:ν):get (set m k v) q = if k = q then some v else get m q:=by
 induction m with
 | nil=>simp [set,get]
 | cons x r ih=>
  obtain ⟨a,u⟩:=x
  by_cases h:a = k
  ·subst h;simp only [set,if_true,get];split <;> rfl
  ·simp only [set,h,if_false,get,ih]
   by_cases h2:a = q
   ·subst h2;simp [Ne.symm h]
   ·simp [h2]
theorem getZ_set (m:List (κ × ν)) (k q:κ) (v z:ν):getZ (set m k v) q z = if k = q then v else getZ m q z:=by
 unfold getZ;rw [get_set];split <;> rfl
theorem keys_set (m:List (κ × ν)) (k:κ) (v:ν):(set m k v).map (·.1) = if k ∈ m.map (·.1) then m.map (·.1) else m.map (·.1) ++ [k]:=by
 induction m with
 | nil=>simp [set]
 | cons x r ih=>
  obtain ⟨a,u⟩:=x
  by_cases h:a = k
  ·subst h;simp [set]
  ·simp only [set,h,if_false,List.map_cons,ih,List.mem_cons,Ne.symm h,false_or]
   split <;> simp
theorem nodup_set {m:List (κ × ν)} (h:(m.map (·.1)).Nodup) (k:κ) (v:ν):((set m k v).map (·.1)).Nodup:=by
 rw [keys_set]
 split
 ·exact h
 ·rename_i hk
  rw [List.nodup_append];refine ⟨h,by simp,fun a ha b hb=>?_⟩;rw [List.mem_singleton.1 hb];intro e;exact hk (e ▸ ha)
theorem get_none {m:List (κ × ν)} {k:κ}:get m k = none ↔ k ∉ m.map (·.1):=by
 induction m with
 | nil=>simp [get]
 | cons x r ih=>
  obtain ⟨a,u⟩:=x
  by_cases h:a = k
  ·subst h;simp [get]
  ·simp [get,h,ih,Ne.symm h]
theorem get_mem {m:List (κ × ν)} {k:κ} {v:ν} (h:get m k = some v):(k,v) ∈ m:=by
 induction m with
 | nil=>simp [get] at h
 | cons x r ih=>
  obtain ⟨a,u⟩:=x
  by_cases e:a = k
  ·subst e;simp [get] at h;subst h;simp
  ·simp only [get,e,if_false] at h;exact List.mem_cons_of_mem _ (ih h)
theorem mem_get {m:List (κ × ν)} (hn:(m.map (·.1)).Nodup) {k:κ} {v:ν} (h:(k,v) ∈ m):get m k = some v:=by
 induction m with
 | nil=>simp at h
 | cons x r ih=>
  obtain ⟨a,u⟩:=x;simp only [List.map_cons,List.nodup_cons] at hn;rcases List.mem_cons.1 h with e | h
  ·cases e;simp [get]
  ·have:a ≠ k:=fun e=>hn.1 (e ▸ List.mem_map.2 ⟨(k,v),h,rfl⟩)
   simp only [get,this,if_false];exact ih hn.2 h
theorem len_set (m:List (κ × ν)) (k:κ) (v:ν):(set m k v).length <= m.length + 1:=by
 induction m with
 | nil=>simp [set]
 | cons x r ih=>
  obtain ⟨a,u⟩:=x;unfold set
  split
  ·simp
  ·simpa using ih
end AL
end Go.Ep

namespace Go.Ep.M.V
open Go

def yS (d:TDot):Bool:=decide (1 <= d.dev) && (decide (1 <= d.n) && decide (d.n <= 281474976710655))
theorem uq {d:TDot}:yS d = true ↔ 1 <= d.dev /\ 1 <= d.n /\ d.n <= 281474976710655:=by simp [yS]
theorem ur (d:TDot):ZH d = pure (yS d):=by
 unfold ZH;rw [zj,zj,zA];refine congrArg pure ?_;rw [Bool.eq_iff_iff,uq];simp only [Bool.and_eq_true,decide_eq_true_eq];omega
theorem ut (d:TDot):uI d = pure (yS d):=by
 unfold uI;rw [zj,zj,zA];refine congrArg pure ?_;rw [Bool.eq_iff_iff,uq];simp only [Bool.and_eq_true,decide_eq_true_eq];omega
theorem yFa (a b:List TDot) (h:a.length <= 1000000000000):UM a b = pure (decide (a = b)):=by
 unfold UM
 by_cases hl:(a.length:Int) = b.length
 ·simp only [hl,decide_true,Bool.not_true,cond_false];have:=xl (body:=YO a b) a (fun i=>(i:Int)) (fun i x=>decide (b[i]? = some x)) (.brk ()) (.ret false) (fun i x hx hi=>by
   have hb:i < b.length:=by omega
   unfold YO;rw [zK hx,zK (List.getElem?_eq_getElem hb),yJ (by omega)];simp only [zA,List.getElem?_eq_getElem hb,Option.some.injEq];have:decide ((i:Int) < (a.length:Int)) = true:=by simpa using hi
   rw [this,cond_true]
   by_cases he:b[i] = x
   ·subst he;simp
   ·rw [if_neg (by simpa using he)];have:(decide (x.dev = b[i].dev) && decide (x.n = b[i].n)) = false:=by
     rw [Bool.eq_false_iff];intro hc;simp at hc;apply he
     cases x;cases hh:b[i];simp_all
    rw [this];rfl) (by
   unfold YO;simp)
  rw [show (0:Int) = ((0:Nat):Int) from rfl,this]
  by_cases he:a = b
  ·subst he;rw [if_pos]
   ·simp [zA,YG]
   ·rw [List.all_eq_true];intro ⟨x,i⟩ hx;rw [List.mk_mem_zipIdx_iff_getElem?] at hx;simpa using hx
  ·rw [if_neg]
   ·simp [he,zA,Uu]
   ·intro hall;rw [List.all_eq_true] at hall;apply he;apply List.ext_getElem (by omega);intro i h1 h2;have:=hall (a[i],i) (by rw [List.mk_mem_zipIdx_iff_getElem?];exact List.getElem?_eq_getElem h1);simp [h2] at this;exact this.symm
 ·have hne:a ≠ b:=fun e=>hl (by rw [e])
  simp [hl,hne]

def ofV : List TDot -> Int -> Int
 | [],_=>0
 | d :: r,dev=>if d.dev = dev /\ yS d = true then max d.n (ofV r dev) else ofV r dev
theorem w8a (v:List TDot) (dev:Int):0 <= ofV v dev /\ ofV v dev <= 281474976710655:=by
 induction v with
 | nil=>simp [ofV]
 | cons d r ih=>
  simp only [ofV]
  split
  ·rename_i h;have:=uq.1 h.2;omega
  ·exact ih
theorem ofV_pos {v:List TDot} {dev:Int}:0 < ofV v dev ↔ ∃ d ∈ v,d.dev = dev /\ yS d = true:=by
 induction v with
 | nil=>simp [ofV]
 | cons d r ih=>
  simp only [ofV,List.mem_cons,exists_eq_or_imp]
  split
  ·rename_i h
   have:=uq.1 h.2
   constructor
   ·intro _;exact .inl h
   ·intro _;omega
  ·rename_i h
   rw [ih]
   constructor
   ·exact .inr
   ·rintro (hh | hh)
    ·exact absurd hh h
    ·exact hh
def insI : List Int -> Int -> List Int
 | [],k=>[k]
 | a :: r,k=>if k < a then k :: a :: r else if k = a then a :: r else a :: insI r k
theorem UZ {l:List Int} {k q:Int}:q ∈ insI l k ↔ q = k \/ q ∈ l:=by
 induction l with
 | nil=>simp [insI]
 | cons a r ih=>
  unfold insI
  split
  ·simp
  ·split
   ·rename_i h;subst h;simp
   ·simp only [List.mem_cons,ih];constructor
    ·rintro (h | h | h) <;> simp [h]
    ·rintro (h | h | h) <;> simp [h]
theorem uu {l:List Int} (h:l.Pairwise (· < ·)) (k:Int):(insI l k).Pairwise (· < ·):=by
 induction l with
 | nil=>simp [insI]
 | cons a r ih=>
  obtain ⟨h1,h2⟩:=List.pairwise_cons.1 h;unfold insI
  split
  ·rename_i hk
   refine List.pairwise_cons.2 ⟨fun x hx=>?_,h⟩;rcases List.mem_cons.1 hx with rfl | hx
   ·exact hk
   ·have:=h1 x hx;omega
  ·split
   ·exact h
   ·refine List.pairwise_cons.2 ⟨fun x hx=>?_,ih h2⟩;rcases UZ.1 hx with rfl | hx
    ·omega
    ·exact h1 x hx
theorem VC (l : List Int) (k : Int) : (insI l k).length <= l.length + 1 := by
  induction l with
  | nil => simp [insI]
  | cons a r ih => unfold insI; split <;> try split
                   all_goals simp_all
def Yh (l:List Int) (d:TDot):List Int:=if yS d then insI l d.dev else l
def devsL (v:List TDot):List Int:=v.foldl Yh []
theorem VD (v:List TDot):∀ l:List Int,l.Pairwise (· < ·) -> (v.foldl Yh l).Pairwise (· < ·) /\ (∀ k,k ∈ v.foldl Yh l ↔ k ∈ l \/ ∃ d ∈ v,d.dev = k /\ yS d = true) /\ (v.foldl Yh l).length <= l.length + v.length:=by
 induction v with
 | nil=>intro l h;simp [h]
 | cons d r ih=>
  intro l h;simp only [List.foldl_cons];unfold Yh
  split
  ·rename_i hg
   obtain ⟨h1,h2,h3⟩:=ih _ (uu h d.dev);refine ⟨h1,fun k=>?_,?_⟩
   ·have:=h2 k;unfold Yh at this;rw [this,UZ]
    constructor
    ·rintro ((rfl | h) | ⟨e,he,h⟩)
     ·exact .inr ⟨d,by simp,rfl,hg⟩
     ·exact .inl h
     ·exact .inr ⟨e,by simp [he],h⟩
    ·rintro (h | ⟨e,he,h⟩)
     ·exact .inl (.inr h)
     ·rcases List.mem_cons.1 he with rfl | he
      ·exact .inl (.inl h.1.symm)
      ·exact .inr ⟨e,he,h⟩
   ·have:=VC l d.dev;simp only [List.length_cons];unfold Yh at h3;omega
  ·rename_i hg
   obtain ⟨h1,h2,h3⟩:=ih _ h;refine ⟨h1,fun k=>?_,?_⟩
   ·have:=h2 k;unfold Yh at this;rw [this]
    constructor
    ·rintro (h | ⟨e,he,h⟩)
     ·exact .inl h
     ·exact .inr ⟨e,by simp [he],h⟩
    ·rintro (h | ⟨e,he,h⟩)
     ·exact .inl h
     ·rcases List.mem_cons.1 he with rfl | he
      ·exact absurd h.2 hg
      ·exact .inr ⟨e,he,h⟩
   ·simp only [List.length_cons];unfold Yh at h3;omega
theorem xz {v:List TDot} {k:Int}:k ∈ devsL v ↔ 0 < ofV v k:=by rw [ofV_pos];simpa [devsL] using (VD v [] List.Pairwise.nil).2.1 k
def uM (m:List (Int × Int)) (d:TDot):List (Int × Int):=if yS d then AL.set m d.dev (max (AL.getZ m d.dev 0) d.n) else m
def vz (v:List TDot):List (Int × Int):=v.foldl uM []
theorem qd (v:List TDot):∀ m:List (Int × Int),(m.map (·.1)).Nodup -> ((v.foldl uM m).map (·.1)).Nodup /\ ((∀ k,0 <= AL.getZ m k 0) -> ∀ k,AL.getZ (v.foldl uM m) k 0 = max (AL.getZ m k 0) (ofV v k)) /\ (v.foldl uM m).length <= m.length + v.length /\ (∀ k,k ∈ (v.foldl uM m).map (·.1) -> k ∈ m.map (·.1) \/ 0 < ofV v k):=by
 induction v with
 | nil=>
  intro m h;refine ⟨h,fun h0 k=>?_,by simp,fun k hk=>.inl hk⟩;have:=h0 k;simp only [List.foldl_nil,ofV];omega
 | cons d r ih=>
  intro m h;simp only [List.foldl_cons]
  by_cases hg:yS d = true
  ·have hd:=uq.1 hg;have e:uM m d = AL.set m d.dev (max (AL.getZ m d.dev 0) d.n):=by simp [uM,hg]
   rw [e];obtain ⟨h1,h2,h3,h4⟩:=ih _ (AL.nodup_set h d.dev (max (AL.getZ m d.dev 0) d.n));refine ⟨h1,fun h0 k=>?_,?_,fun k hk=>?_⟩
   ·rw [h2 (fun q=>by rw [AL.getZ_set];have:=h0 q;have:=h0 d.dev;split <;> omega),AL.getZ_set];simp only [ofV]
    by_cases hk:d.dev = k
    ·subst hk;simp only [if_true,hg,and_self];omega
    ·simp [hk]
   ·have:=AL.len_set m d.dev (max (AL.getZ m d.dev 0) d.n);simp only [List.length_cons];omega
   ·simp only [ofV];rcases h4 k hk with h5 | h5
    ·rw [AL.keys_set] at h5
     split at h5
     ·exact .inl h5
     ·rcases List.mem_append.1 h5 with h5 | h5
      ·exact .inl h5
      ·right
       rw [List.mem_singleton.1 h5,if_pos ⟨rfl,hg⟩];omega
    ·right;split <;> omega
  ·have e:uM m d = m:=by simp [uM,hg]
   rw [e];obtain ⟨h1,h2,h3,h4⟩:=ih m h;have e2:∀ k,ofV (d :: r) k = ofV r k:=fun k=>by simp only [ofV];rw [if_neg (fun hh=>hg hh.2)]
   exact ⟨h1,fun h0 k=>by rw [h2 h0,e2],by simp only [List.length_cons];omega,fun k hk=>by rw [e2];exact h4 k hk⟩
theorem uR (v:List TDot):((vz v).map (·.1)).Nodup:=(qd v [] (by simp)).1
theorem vZ (v:List TDot) (k:Int):AL.getZ (vz v) k 0 = ofV v k:=by
 have:=(qd v [] (by simp)).2.1 (fun _=>Int.le_refl _) k;have h2:=w8a v k;rw [vz,this];show max 0 (ofV v k) = _;omega
theorem Yi {v:List TDot} {k n:Int} (h:(k,n) ∈ vz v):n = ofV v k /\ 0 < n:=by
 have h1:=AL.mem_get (uR v) h;have h2:AL.getZ (vz v) k 0 = n:=by simp [AL.getZ,h1]
 rw [vZ] at h2;have h3:=(qd v [] (by simp)).2.2.2 k (List.mem_map.2 ⟨_,h,rfl⟩);simp at h3;omega
def updM (h:Int × Int -> Int) (m:List (Int × Int)) (L:List Nat):List (Int × Int):=m.zipIdx.map fun y=>if y.2 ∈ L then (y.1.1,h y.1) else y.1
theorem uN {h:Int × Int -> Int} {m:List (Int × Int)} {L:List Nat} {i:Nat}:(updM h m L)[i]? = (m[i]?).map fun e=>if i ∈ L then (e.1,h e) else e:=by
 unfold updM;rw [List.getElem?_map,List.getElem?_zipIdx]
 cases m[i]? <;> simp
theorem qe {h:Int × Int -> Int} {m:List (Int × Int)} {L:List Nat}:(updM h m L).length = m.length:=by simp [updM]
theorem set_at {m:List (Int × Int)} (hn:(m.map (·.1)).Nodup) {i:Nat} {e:Int × Int} (hi:m[i]? = some e) (v:Int):AL.set m e.1 v = m.set i (e.1,v):=by
 induction m generalizing i with
 | nil=>simp at hi
 | cons x r ih=>
  obtain ⟨a,u⟩:=x;simp only [List.map_cons,List.nodup_cons] at hn
  cases i with
  | zero=>simp at hi;subst hi;simp [AL.set]
  | succ i=>
   simp only [List.getElem?_cons_succ] at hi;have:a ≠ e.1:=fun he=>hn.1 (he ▸ List.mem_map.2 ⟨e,List.mem_of_getElem? hi,rfl⟩)
   simp only [AL.set,this,if_false,List.set_cons_succ];rw [ih hn.2 hi]
theorem jP {h:Int × Int -> Int} {m:List (Int × Int)} {L:List Nat}:(updM h m L).map (·.1) = m.map (·.1):=by
 apply List.ext_getElem?;intro i;rw [List.getElem?_map,uN,List.getElem?_map]
 cases m[i]? with
 | none=>rfl
 | some e=>simp only [Option.map_some];split <;> rfl
def cmpD (a b:TDot):Int:=if a = b then 0 else if zV a b then -1 else 1
theorem vN (a b:TDot):wh a b = pure (cmpD a b):=by
 unfold wh cmpD;have h1:(decide (a.dev = b.dev) && decide (a.n = b.n)) = decide (a = b):=by
  rw [Bool.eq_iff_iff];cases a;cases b;simp
 have h2:(cond (decide (a.dev < b.dev)) (pure true) (cond (decide (a.dev = b.dev)) (pure (decide (a.n < b.n))) (pure false)):M Bool) = pure (zV a b):=by
  rw [zj,Qa];rfl
 rw [h1,h2,ww,zA]
 split
 ·rfl
 ·cases zV a b <;> rfl
theorem Ua {a b:TDot}:cmpD a b < 0 ↔ zV a b = true:=by
 unfold cmpD
 split
 ·rename_i h;subst h;simp [zV]
 ·split <;> simp_all
theorem cmpD_pos {a b:TDot}:0 < cmpD a b ↔ zV b a = true:=by
 unfold cmpD
 by_cases h:a = b
 ·subst h;simp [zV]
 ·rw [if_neg h]
  cases a;cases b
  simp only [TDot.mk.injEq] at h;simp only [zV,Bool.or_eq_true,Bool.and_eq_true,decide_eq_true_eq]
  split <;> omega
theorem Vh (l:List TDot) (d:TDot) (h:l.length <= 1000000000000):YM l d = pure ((l.filter fun x=>zV x d) ++ [d] ++ (l.filter fun x=>zV d x)):=by
 unfold YM;have c0:∀ o:List TDot,o.length <= 1000000000000 -> True:=fun _ _=>trivial
 have h1:=Yg (body:=Xf l d) l (fun i (o:List TDot)=>((i:Int),o)) (fun o x=>if zV x d then o ++ [x] else o) (fun o=>pure o) (fun i o=>o.length <= i) (fun i x o hx hi ho=>by
  have h1:decide ((i:Int) < (l.length:Int)) = true:=by simpa using hi
  unfold Xf;simp only [h1,cond_true,zK hx,zA,vN,zB,yJ (show i < 9223372036854775807 by omega),ww,Ua]
  split
  ·rw [zF (by simp;omega)];exact ⟨rfl,by simp;omega⟩
  ·exact ⟨rfl,by omega⟩) (fun o _=>by unfold Xf;simp [zA]) [] (by simp)
 have h2:∀ o0:List TDot,o0.length <= 1000000000001 -> loop (Zi l d) (0,o0) = pure (l.foldl (fun o x=>if zV d x then o ++ [x] else o) o0):=fun o0 ho0=>by
  have:=Yg (body:=Zi l d) l (fun i (o:List TDot)=>((i:Int),o)) (fun o x=>if zV d x then o ++ [x] else o) (fun o=>pure o) (fun i o=>o.length <= o0.length + i) (fun i x o hx hi ho=>by
   have h1:decide ((i:Int) < (l.length:Int)) = true:=by simpa using hi
   unfold Zi;simp only [h1,cond_true,zK hx,zA,vN,zB,yJ (show i < 9223372036854775807 by omega),ww,cmpD_pos]
   split
   ·rw [zF (by simp;omega)];exact ⟨rfl,by simp;omega⟩
   ·exact ⟨rfl,by omega⟩) (fun o _=>by unfold Zi;simp [zA]) o0 (by simp)
  exact this
 have hf:∀ (p:TDot -> Bool) (l o:List TDot),l.foldl (fun o x=>if p x then o ++ [x] else o) o = o ++ l.filter p:=by
  intro p l
  induction l with
  | nil=>simp
  | cons x r ih=>
   intro o;rw [List.foldl_cons,ih,List.filter_cons]
   split <;> simp
 rw [show ((0:Int),([]:List TDot)) = (((0:Nat):Int),[]) from rfl,h1,hf,zA,zF,h2,hf,zA]
 ·rfl
 ·have:=List.length_filter_le (fun x=>zV x d) l;simp;omega
 ·have:=List.length_filter_le (fun x=>zV x d) l;simp;omega
def ones (l:List Int):List TDot:=l.map fun k=>⟨k,1⟩
theorem yza {l:List Int} (h:l.Pairwise (· < ·)) (k:Int):((ones l).filter fun x=>zV x ⟨k,1⟩) ++ [⟨k,1⟩] ++ ((ones l).filter fun x=>zV ⟨k,1⟩ x) = ones (insI l k):=by
 induction l with
 | nil=>rfl
 | cons a r ih=>
  obtain ⟨h1,h2⟩:=List.pairwise_cons.1 h;have i2:=ih h2;unfold insI
  by_cases c1:k < a
  ·rw [if_pos c1];have e1:(ones (a :: r)).filter (fun x=>zV x ⟨k,1⟩) = []:=by
    rw [List.filter_eq_nil_iff];intro x hx;simp only [ones,List.map_cons,List.mem_cons,List.mem_map] at hx;rcases hx with rfl | ⟨b,hb,rfl⟩
    ·simp [zV];omega
    ·have:=h1 b hb;simp [zV];omega
   have e2:(ones (a :: r)).filter (fun x=>zV ⟨k,1⟩ x) = ones (a :: r):=by
    rw [List.filter_eq_self];intro x hx;simp only [ones,List.map_cons,List.mem_cons,List.mem_map] at hx;rcases hx with rfl | ⟨b,hb,rfl⟩
    ·simp [zV];omega
    ·have:=h1 b hb;simp [zV];omega
   rw [e1,e2];rfl
  ·rw [if_neg c1]
   by_cases c2:k = a
   ·subst c2;rw [if_pos rfl];have e1:(ones (k :: r)).filter (fun x=>zV x ⟨k,1⟩) = []:=by
     rw [List.filter_eq_nil_iff];intro x hx;simp only [ones,List.map_cons,List.mem_cons,List.mem_map] at hx;rcases hx with rfl | ⟨b,hb,rfl⟩
     ·simp [zV]
     ·have:=h1 b hb;simp [zV];omega
    have e2:(ones (k :: r)).filter (fun x=>zV ⟨k,1⟩ x) = ones r:=by
     show List.filter _ (⟨k,1⟩ :: ones r) = _;rw [List.filter_cons,if_neg (by simp [zV]),List.filter_eq_self];intro x hx;simp only [ones,List.mem_map] at hx;obtain ⟨b,hb,rfl⟩:=hx;have:=h1 b hb;simp [zV];omega
    rw [e1,e2];rfl
   ·rw [if_neg c2];show (List.filter _ (⟨a,1⟩ :: ones r)) ++ _ ++ (List.filter _ (⟨a,1⟩ :: ones r)) = ⟨a,1⟩ :: ones (insI r k);rw [List.filter_cons,if_pos (by simp [zV];omega),List.filter_cons,if_neg (by simp [zV];omega),<- i2]
    rfl
end Go.Ep.M.V


/- Texts that the walks and laws lean on, side by side. -/
import Derived.Test.YtfngolkgligbfaaGreatMBp2
import Derived.Test.YtfngolkgligbfaaGreatMBp3
import Derived.Test.YtfngolkgligbfaaGreatMBp4
import Derived.Test.YtfngolkgligbfaaGreatMBp5
import Derived.Test.YtfngolkgligbfaaGreatMBp6
import Derived.Test.YtfngolkgligbfaaGreatMBp8
import Derived.Test.YtfngolkgligbfaaGreatMBp9
set_option linter.unusedVariables false
set_option linter.unusedSimpArgs false
namespace Go.Proofs
open Go.Ep
set_option maxHeartbeats 1000000
set_option maxRecDepth 100000
set_option linter.unusedVariables false
set_option linter.unusedSimpArgs false


theorem r18_Of_ok (b1:R18Book) (cid2:Int) (r0:List TEvent) (h:(r18_Of b1 cid2).wp (· = r0)):PRow Tryz.prog 68 [.agg (List.map .d (R18Book.e b1)),.d (.v (.int .u64 cid2))] 34 7 (List.map TEvent.e r0):=by
 refine PRow.intro (sl:=[(0,_),(1,_)]) Tryz.func68 rfl Tryz.ntmps68 rfl rfl ?_;intro ctx hK;refine wQ<|wR<|wS (LR.box rfl rfl rfl rfl) rfl<|wS (aR 34 7 rfl) rfl<|wN<|wQ<|wR<|wS (aR 34 7 rfl) rfl<|wN ?_;refine wQ<|wQ<|wR<|wa ?_;refine wN ?_;refine wJ (iBind h) (fun (out3:List TEvent) (_:Unit)=>⟨40,[(5,.row 5 (List.length out3))],[(5,.row 34 7 (List.map TEvent.e out3))]⟩) (fun h=>?_) ?_
 ·refine wB<|wM (fun (⟨i30,out31⟩:Int × List TEvent) (_:Unit)=>⟨40,[(1,.d (.v (.int .u64 cid2))),(2,.ref 2 0),(5,.row 5 (List.length out31)),(6,.d (.v (.int .i64 i30)))],[(2,.cells 60 [.d (.sl (List.map TPart.e b1.ctx)),.d (.sl (List.map TEvent.e b1.l))]),(5,.row 34 7 (List.map TEvent.e out31))]⟩) () h (sP) ?_;rintro N ⟨i30,out31⟩ _ h;refine wQ<|wQ<|wR<|wm ?_;refine wS (fR Tryz.underlying60 rfl Tryz.sizeOf22 (by decide) rfl rfl) rfl<|wS (lD Tryz.isAgg22 rfl rfl rfl) rfl<|wS (lM (enc:=TEvent.e) (L:=b1.l) Tryz.underlying22 rfl) rfl<|wS (LR.lss rfl rfl) rfl<|wN ?_;refine wC rfl (fun hc32=>?_) (fun hc32=>?_)
  ·replace h:=iT hc32 h;refine wK<|wQ ?_;refine wJ (iBind h) (fun (out33:List TEvent) (_:Unit)=>⟨40,[(1,.d (.v (.int .u64 cid2))),(2,.ref 2 0),(5,.row 5 (List.length out33)),(6,.d (.v (.int .i64 i30)))],[(2,.cells 60 [.d (.sl (List.map TPart.e b1.ctx)),.d (.sl (List.map TEvent.e b1.l))]),(5,.row 34 7 (List.map TEvent.e out33))]⟩) (fun h=>?_) ?_
   ·refine wB<|wQ ?_;refine wJ (iBind h) (fun (v34:Bool) (_:Unit)=>⟨40,[(1,.d (.v (.int .u64 cid2))),(2,.ref 2 0),(5,.row 5 (List.length out31)),(6,.d (.v (.int .i64 i30))),(30,.d (.v (.bool v34)))],[(2,.cells 60 [.d (.sl (List.map TPart.e b1.ctx)),.d (.sl (List.map TEvent.e b1.l))]),(5,.row 34 7 (List.map TEvent.e out31))]⟩) (fun h=>?_) ?_
    ·refine wR<|wS (fR Tryz.underlying60 rfl Tryz.sizeOf22 (by decide) rfl rfl) rfl<|wS (lD Tryz.isAgg22 rfl rfl rfl) rfl<|wm ?_;replace h:=iIdx h;obtain ⟨x35,hy36,h⟩:=h;refine wS (iX (enc:=TEvent.e) (L:=b1.l) (y:=x35) Tryz.underlying22 Tryz.sizeOf34 rfl rfl hy36 (fun _=>rfl)) rfl<|wS (fE Tryz.underlying34 rfl Tryz.sizeOf5 (by decide) rfl rfl) rfl<|wS (LR.loadEp Tryz.isAgg5 rfl rfl) rfl<|wS (eQ rfl rfl) rfl<|wm ?_;refine wL (d:=21) rfl (fun hg37=>?_) (fun hg37=>?_)
     ·replace h:=iT hg37 h;refine wT (fR Tryz.underlying60 rfl Tryz.sizeOf22 (by decide) rfl rfl) rfl rfl rfl<|wT (lD Tryz.isAgg22 rfl rfl rfl) rfl rfl rfl<|wT (mV rfl) rfl rfl rfl<|wy (tl:=[(1,_),(2,_),(5,_),(6,_),(21,_),(22,_),(23,_),(24,_)]) (to:=[(2,_),(5,_)]) ?_;replace h:=iIdx h;obtain ⟨x38,hy39,h⟩:=h;refine wT (iX (enc:=TEvent.e) (L:=b1.l) (y:=x38) Tryz.underlying22 Tryz.sizeOf34 rfl rfl hy39 (fun _=>rfl)) rfl rfl rfl<|wT (fE Tryz.underlying34 rfl Tryz.sizeOf29 (by decide) rfl rfl) rfl rfl rfl<|wT (LR.loadEp Tryz.isAgg29 rfl rfl) rfl rfl rfl<|wT (mV rfl) rfl rfl rfl<|wT (eQ rfl rfl) rfl rfl rfl<|wS (pT rfl rfl) rfl<|wN ?_;exact ⟨(decide (x38.cid = cid2)),(),h,sP⟩
     ·replace h:=iF hg37 h;refine wf<|wf<|wf<|wy (tl:=[(1,_),(2,_),(5,_),(6,_),(21,_),(22,_),(23,_),(24,_)]) (to:=[(2,_),(5,_)]) ?_;refine wf<|wf<|wf<|wf<|wf<|wS (pF rfl rfl) rfl<|wN ?_;exact ⟨false,(),h,sP⟩
    ·rintro v34 _ h;refine wC rfl (fun hc40=>?_) (fun hc40=>?_)
     ·replace h:=iT hc40 h;refine wR<|wm ?_;refine wS (fR Tryz.underlying60 rfl Tryz.sizeOf22 (by decide) rfl rfl) rfl<|wS (lD Tryz.isAgg22 rfl rfl rfl) rfl<|wm ?_;replace h:=iIdx h;obtain ⟨x41,hy42,h⟩:=h;refine wS (iX (enc:=TEvent.e) (L:=b1.l) (y:=x41) Tryz.underlying22 Tryz.sizeOf34 rfl rfl hy42 (fun _=>rfl)) rfl<|wS (lE (ys:=[_,_,_,_,_,_,_]) Tryz.isAgg34 Tryz.sizeOf34 rfl rfl rfl) rfl<|wS (LR.buildSliceD [.tmp 36] elem22 rfl rfl (.cons rfl rfl rfl<|.nil) (by decide) (by decide)) rfl ?_;replace h:=iNeed h;obtain ⟨hy43,h⟩:=h;refine wS (LR.appT (enc:=TEvent.e) (L:=out31) (R:=[x41]) [5,31] elem22 Tryz.underlying22 rfl rfl rfl (Src.slT (enc:=TEvent.e) (R:=[x41]) rfl (fun _=>rfl)) (fun _=>rfl) hy43 rfl rfl) rfl<|wa ?_;refine wN ?_;exact ⟨(out31 ++ [x41]),(),h,sP⟩
     ·replace h:=iF hc40 h;refine wK ?_;exact ⟨out31,(),h,sP⟩
   ·rintro out33 _ h;refine wR<|wm ?_;refine wS (LR.addW rfl rfl) rfl<|wa ?_;refine wN ?_;exact ⟨((IntKind.i64.wrap (i30 + 1)),out33),(),h,sP⟩
  ·replace h:=iF hc32 h;refine wZ ?_;exact ⟨out31,(),h,sP⟩
 ·rintro out3 _ h;refine wQ<|wR<|wm ?_;refine wa ?_;refine wN<|wX ?_;replace h:_ = r0:=h;subst h;exact ⟨.inr rfl,4,rfl,.inr ⟨5,_,rfl,(by simp),rfl⟩⟩

theorem book_Book_See_o_ok (c1:List TPart) (ctx_2:List TPart) (nl3:Bool) (m4:List (TDot × TEvent)) (nl5:Bool) (m6:List (TDot × TEvent)) (r0:List TPart) (h:(book_Book_See_o c1 ctx_2 nl3 m4 nl5 m6).wp (· = r0)):PObj Tryz.prog 60 [.ref 100 0,.d (.sl (List.map TPart.e c1))] [(100,.cells 109 [.d (.sl (List.map TPart.e ctx_2)),.mp 101,.mp 102]),(101,.mapH nl3 [.u16,.u64] true (encM TDot.k TEvent.e m4)),(102,.mapH nl5 [.u16,.u64] true (encM TDot.k TEvent.e m6))] [100,101,102] (.tup []) (fun _:Unit=>[(100,.cells 109 [.d (.sl (List.map TPart.e r0)),.mp 101,.mp 102]),(101,.mapH nl3 [.u16,.u64] true (encM TDot.k TEvent.e m4)),(102,.mapH nl5 [.u16,.u64] true (encM TDot.k TEvent.e m6))]):=by
 refine PObj.intro (sl:=[(0,_),(1,_)]) Tryz.func60 rfl Tryz.ntmps60 rfl rfl rfl ?_;intro ctx hK pv;refine wQ<|wR<|wm ?_;refine wS (LR.neqPtr Tryz.underlying36 rfl) rfl<|wN<|PWc.condT rfl<|wR<|wm ?_;refine wm ?_;refine wS (LR.nilCheckRef rfl) rfl<|wS (fR Tryz.underlying109 rfl Tryz.sizeOf42 (by decide) rfl rfl) rfl<|wS (lD Tryz.isAgg42 rfl rfl rfl) rfl<|wm ?_;replace h:=iDet h;obtain ⟨v7,hy8,h⟩:=h;refine wS (LR.rowN (ctx_Join_ok ctx_2 c1 v7 hy8) rfl Tryz.call147 rfl rfl rfl rfl) rfl<|wS (LR.nilCheckRef rfl) rfl<|wS (fR Tryz.underlying109 rfl Tryz.sizeOf42 (by decide) rfl rfl) rfl<|PWl.frz [12] hK (.cons rfl<|.nil) rfl (by simp) ?_;refine wS (sB (ns:=[_,_,_]) Tryz.sizeOf42 rfl rfl rfl rfl rfl rfl rfl) rfl<|wN ?_;replace h:_ = r0:=h;subst h;exact EndsO.mk () (.inl rfl) (sP (tl:=[]) (to:=[(100,_),(101,_),(102,_),(1100,_),(1101,_),(1102,_)])) (.nil) rfl rfl

theorem book_Book_Copy_o_ok (ctx_1:List TPart) (nl2:Bool) (m3:List (TDot × TEvent)) (nl4:Bool) (m5:List (TDot × TEvent)) {Q:List TPart × Bool × (List (TDot × TEvent)) × Bool × (List (TDot × TEvent)) → Prop} (h:(book_Book_Copy_o ctx_1 nl2 m3 nl4 m5).wp Q):PObj Tryz.prog 64 [.ref 100 0] [(100,.cells 109 [.d (.sl (List.map TPart.e ctx_1)),.mp 101,.mp 102]),(101,.mapH nl2 [.u16,.u64] true (encM TDot.k TEvent.e m3)),(102,.mapH nl4 [.u16,.u64] true (encM TDot.k TEvent.e m5))] [100,101,102] (.ref 16 0) (fun gh:{r0:List TPart × Bool × (List (TDot × TEvent)) × Bool × (List (TDot × TEvent)) // Q r0}=>[(100,.cells 109 [.d (.sl (List.map TPart.e ctx_1)),.mp 101,.mp 102]),(101,.mapH nl2 [.u16,.u64] true (encM TDot.k TEvent.e m3)),(102,.mapH nl4 [.u16,.u64] true (encM TDot.k TEvent.e m5)),(16,.cells 109 [.d (.sl (List.map TPart.e gh.1.1)),.mp 30321,.mp 30322]),(30321,.mapH gh.1.2.1 [.u16,.u64] true (encM TDot.k TEvent.e gh.1.2.2.1)),(30322,.mapH gh.1.2.2.2.1 [.u16,.u64] true (encM TDot.k TEvent.e gh.1.2.2.2.2))]):=by
 refine PObj.intro (sl:=[(0,_)]) Tryz.func64 rfl Tryz.ntmps64 rfl rfl rfl ?_;intro ctx hK pv;refine wQ<|wR<|wa ?_;refine wN<|wQ<|wQ<|wR<|wm ?_;refine wS (LR.eqlPtr Tryz.underlying36 rfl) rfl<|wN<|PWc.condF rfl<|wK<|wQ<|wR<|wm ?_;refine wS (LR.nilCheckRef rfl) rfl<|wS (fR Tryz.underlying109 rfl Tryz.sizeOf42 (by decide) rfl rfl) rfl<|wS (lD Tryz.isAgg42 rfl rfl rfl) rfl ?_;replace h:=iDet h;obtain ⟨v6,hy7,h⟩:=h;refine wS (LR.rowN (ctx_Norm_ok ctx_1 v6 hy7) rfl Tryz.call98 rfl rfl rfl rfl) rfl<|PWl.frz [14] hK (.cons rfl<|.nil) rfl (by simp) ?_;refine wS (LR.buildR (ns:=[_,_,_]) build109 rfl rfl rfl) rfl<|wS (LR.box rfl rfl rfl rfl) rfl<|PWl.sub (Sub.ownMap (id:=16) (j:=1) (id':=30321) (ks:=[.u16,.u64]) (ag:=true) (ck:=0) rfl rfl rfl rfl)<|PWl.sub (Sub.ownMap (id:=16) (j:=2) (id':=30322) (ks:=[.u16,.u64]) (ag:=true) (ck:=0) rfl rfl rfl rfl)<|wy (tl:=[(0,_),(16,_)]) (to:=[(16,_),(100,_),(101,_),(102,_),(1100,_),(1101,_),(1102,_),(30321,_),(30322,_)]) ?_;refine wa ?_;refine wN<|wQ<|wQ<|wR<|wm ?_;refine wS (LR.nilCheckRef rfl) rfl<|wS (fR Tryz.underlying109 rfl Tryz.sizeOf107 (by decide) rfl rfl) rfl<|wS (lD Tryz.isAgg107 rfl rfl rfl) rfl ?_;refine PWl.openH (id:=101) rfl (fun bs8 ck8=>?_);refine wS (LR.rangeN Tryz.underlying107 rfl rfl rfl) rfl<|wN ?_;refine wJ (iBind h) (fun (⟨nl9,v10⟩:Bool × (List (TDot × TEvent))) (_:Unit)=>⟨54,[(0,.ref 100 0),(3,.ref 16 0)],[(16,.cells 109 [.d (.sl (List.map TPart.e v6)),.mp 30321,.mp 30322]),(100,.cells 109 [.d (.sl (List.map TPart.e ctx_1)),.mp 101,.mp 102]),(101,.mapN nl2 [.u16,.u64] true (encM TDot.k TEvent.e m3) bs8 ck8),(102,.mapH nl4 [.u16,.u64] true (encM TDot.k TEvent.e m5)),(1100,.pin 100 (pv 100)),(1101,.pin 101 (pv 101)),(1102,.pin 102 (pv 102)),(30321,.mapH nl9 [.u16,.u64] true (encM TDot.k TEvent.e v10)),(30322,.mapH true [.u16,.u64] true (encM TDot.k TEvent.e ([]:List (TDot × TEvent))))]⟩) (fun h=>?_) ?_
 ·refine wB<|wM (fun (⟨seen32,nl33,v34⟩:List Nat × Bool × (List (TDot × TEvent))) (_:Unit)=>⟨54,[(0,.ref 100 0),(3,.ref 16 0),(21,.ref 21 0)],[(16,.cells 109 [.d (.sl (List.map TPart.e v6)),.mp 30321,.mp 30322]),(21,.iterO 101 bs8 ck8 seen32),(100,.cells 109 [.d (.sl (List.map TPart.e ctx_1)),.mp 101,.mp 102]),(101,.mapN nl2 [.u16,.u64] true (encM TDot.k TEvent.e m3) bs8 ck8),(102,.mapH nl4 [.u16,.u64] true (encM TDot.k TEvent.e m5)),(1100,.pin 100 (pv 100)),(1101,.pin 101 (pv 101)),(1102,.pin 102 (pv 102)),(30321,.mapH nl33 [.u16,.u64] true (encM TDot.k TEvent.e v34)),(30322,.mapH true [.u16,.u64] true (encM TDot.k TEvent.e ([]:List (TDot × TEvent))))]⟩) () h (Sub.trans (Sub.nToH (id:=30321) rfl)<|Sub.trans (Sub.nToH (id:=30322) rfl)<|sP) ?_;rintro N ⟨seen32,nl33,v34⟩ _ h;refine wQ<|wR ?_;replace h:=iNeed h;obtain ⟨hy43,h⟩:=h;replace h:=iNxt h;refine PWl.nextN rfl rfl rfl (nxtD hy43) rfl (fun hy36=>?_) (fun j35 hy37 hy38=>?_)
  ·replace h:=h.1 (nxtA hy36);refine wS (LR.extract rfl rfl) rfl<|wN<|wQ<|PWc.condF rfl<|wZ ?_;exact ⟨(nl33,v34),(),h,sP⟩
  ·replace h:=h.2 j35 (nxtB hy37) hy38;refine wS (LR.extract rfl rfl) rfl<|wN<|wQ<|PWc.condT rfl<|wK<|wB<|wQ<|wR ?_;replace h:=iIdx h;obtain ⟨kv39,hy40,h⟩:=h;refine wS (LR.entryN rfl rfl rfl (entGet hy40) rfl rfl) rfl<|wS (LR.extract rfl rfl) rfl<|wS (LR.allocZ (cs:=[_,_,_,_,_,_,_]) Tryz.zeroValue34 rfl rfl rfl rfl) rfl<|wS (sB (ns:=[_,_,_,_,_,_,_]) Tryz.sizeOf34 rfl rfl rfl rfl rfl rfl rfl) rfl<|wN<|wz (tl:=[(0,_),(3,_),(5,_),(21,_)]) (to:=[(5,_),(16,_),(21,_),(100,_),(101,_),(102,_),(1100,_),(1101,_),(1102,_),(30321,_),(30322,_)]) ?_;refine PWc.regionE [⟨[26],[],[],[],[],[16],[],[]⟩,⟨[27],[],[],[],[],[16],[],[]⟩,⟨[28],[],[],[],[],[16],[],[]⟩,⟨[29],[],[],[],[],[16],[],[]⟩,⟨[30],[],[16],[],[],[30321],[],[]⟩,⟨[31],[],[5],[],[],[],[],[]⟩,⟨[30,32],[16,30321],[16,30321,30322],[],[(30321,[30])],[30321],[30322],[16,30321,30322]⟩,⟨[33],[],[],[],[],[16],[],[]⟩,⟨[34],[],[],[],[],[16],[],[]⟩,⟨[],[16],[16,30321],[],[],[],[30321,30322],[]⟩] (by kernel_rfl) (by kernel_rfl) rfl ?_;refine PQe.stepP (fun _ he ho=>mV (he rfl rfl)) (.inl rfl) rfl ?_;refine PQe.stepP (fun _ he ho=>mV (he rfl rfl)) (.inl rfl) rfl ?_;refine PQe.stepP (fun _ he ho=>LR.nilCheckRef (he rfl rfl)) (.inl rfl) rfl ?_;refine PQe.stepP (fun _ he ho=>fR Tryz.underlying109 rfl Tryz.sizeOf107 (by decide) rfl (he rfl rfl)) (.inl rfl) rfl ?_;refine PQe.stepP (fun _ he ho=>lD Tryz.isAgg107 (he rfl rfl) (ho rfl rfl) rfl) (.inl rfl) rfl ?_;refine PQe.stepP (fun _ he ho=>lA (ps:=[_,_,_,_,_,_,_]) Tryz.isAgg34 Tryz.sizeOf34 (he rfl rfl) (ho rfl rfl) rfl rfl) (.inl rfl) rfl ?_;replace h:=iDet h;obtain ⟨y41,hy42,h⟩:=h;refine PQe.callObjS [(100,30321),(500,16),(501,30322)] [30] [100,500,501] [(100,.mapH y41.1 [.u16,.u64] true (encM TDot.k TEvent.e y41.2)),(500,.cells 109 [.d (.sl (List.map TPart.e v6)),.junk,.mp 501])] [(501,.mapH true [.u16,.u64] true (encM TDot.k TEvent.e ([]:List (TDot × TEvent))))] (PObj.frame [(500,.cells 109 [.d (.sl (List.map TPart.e v6)),.mp 100,.mp 501]),(501,.mapH true [.u16,.u64] true (encM TDot.k TEvent.e ([]:List (TDot × TEvent))))] [(500,.cells 109 [.d (.sl (List.map TPart.e v6)),.junk,.mp 501]),(501,.mapH true [.u16,.u64] true (encM TDot.k TEvent.e ([]:List (TDot × TEvent))))] (book_add_o_ok kv39.2 nl33 v34 y41 hy42) (fun _=>rfl) (fun _=>rfl) rfl rfl (.cons (.cells (.keep rfl<|.junk<|.keep rfl<|.nil))<|.cons (.same rfl)<|.nil)) hK (fun _ he=>⟨he rfl rfl,evsE he rfl rfl⟩) Tryz.call96 (by first | rfl | (simp;done) | (simp [PV.nilD,PV.ren,rn];omega)) (by repeat' first | constructor | (congr 1;first | (simp;done) | (simp;omega) | omega)) (.cons rfl<|.cons rfl<|.nil) (.cons rfl<|.nil) (.cons (by first | rfl | (congr 1;first | (simp;done) | (simp;omega) | omega))<|.nil) rfl rfl rfl rfl rfl rfl (.inl rfl) rfl ?_;refine PQe.stepP (fun _ he ho=>LR.nilCheckRef (he rfl rfl)) (.inl rfl) rfl ?_;refine PQe.stepP (fun _ he ho=>fR Tryz.underlying109 rfl Tryz.sizeOf107 (by decide) rfl (he rfl rfl)) (.inl rfl) rfl ?_;refine PQe.stepS (fun _ he ho=>sB (ns:=[_,_,_]) Tryz.sizeOf107 (he rfl rfl) (he rfl rfl) rfl rfl (ho rfl rfl) rfl rfl) (.inl rfl) rfl<|PQe.nil ?_;exact ⟨((seen32 ++ [j35]),y41.1,y41.2),(),h,sP⟩
 ·rintro ⟨nl9,v10⟩ _ h;refine wQ<|wQ<|wR<|wm ?_;refine wS (LR.nilCheckRef rfl) rfl<|wS (fR Tryz.underlying109 rfl Tryz.sizeOf107 (by decide) rfl rfl) rfl<|wS (lD Tryz.isAgg107 rfl rfl rfl) rfl ?_;refine PWl.openH (id:=102) rfl (fun bs44 ck44=>?_);refine wS (LR.rangeN Tryz.underlying107 rfl rfl rfl) rfl<|wN ?_;refine wJ (iBind h) (fun (⟨nl45,v46⟩:Bool × (List (TDot × TEvent))) (_:Unit)=>⟨54,[(3,.ref 16 0)],[(16,.cells 109 [.d (.sl (List.map TPart.e v6)),.mp 30321,.mp 30322]),(100,.cells 109 [.d (.sl (List.map TPart.e ctx_1)),.mp 101,.mp 102]),(101,.mapN nl2 [.u16,.u64] true (encM TDot.k TEvent.e m3) bs8 ck8),(102,.mapN nl4 [.u16,.u64] true (encM TDot.k TEvent.e m5) bs44 ck44),(1100,.pin 100 (pv 100)),(1101,.pin 101 (pv 101)),(1102,.pin 102 (pv 102)),(30321,.mapH nl9 [.u16,.u64] true (encM TDot.k TEvent.e v10)),(30322,.mapH nl45 [.u16,.u64] true (encM TDot.k TEvent.e v46))]⟩) (fun h=>?_) ?_
  ·refine wB<|wM (fun (⟨seen68,nl69,v70⟩:List Nat × Bool × (List (TDot × TEvent))) (_:Unit)=>⟨54,[(3,.ref 16 0),(39,.ref 39 0)],[(16,.cells 109 [.d (.sl (List.map TPart.e v6)),.mp 30321,.mp 30322]),(39,.iterO 102 bs44 ck44 seen68),(100,.cells 109 [.d (.sl (List.map TPart.e ctx_1)),.mp 101,.mp 102]),(101,.mapN nl2 [.u16,.u64] true (encM TDot.k TEvent.e m3) bs8 ck8),(102,.mapN nl4 [.u16,.u64] true (encM TDot.k TEvent.e m5) bs44 ck44),(1100,.pin 100 (pv 100)),(1101,.pin 101 (pv 101)),(1102,.pin 102 (pv 102)),(30321,.mapH nl9 [.u16,.u64] true (encM TDot.k TEvent.e v10)),(30322,.mapH nl69 [.u16,.u64] true (encM TDot.k TEvent.e v70))]⟩) () h (sP) ?_;rintro N ⟨seen68,nl69,v70⟩ _ h;refine wQ<|wR ?_;replace h:=iNeed h;obtain ⟨hy79,h⟩:=h;replace h:=iNxt h;refine PWl.nextN rfl rfl rfl (nxtD hy79) rfl (fun hy72=>?_) (fun j71 hy73 hy74=>?_)
   ·replace h:=h.1 (nxtA hy72);refine wS (LR.extract rfl rfl) rfl<|wN<|wQ<|PWc.condF rfl<|wZ ?_;exact ⟨(nl69,v70),(),h,sP⟩
   ·replace h:=h.2 j71 (nxtB hy73) hy74;refine wS (LR.extract rfl rfl) rfl<|wN<|wQ<|PWc.condT rfl<|wK<|wB<|wQ<|wR ?_;replace h:=iIdx h;obtain ⟨kv75,hy76,h⟩:=h;refine wS (LR.entryN rfl rfl rfl (entGet hy76) rfl rfl) rfl<|wS (LR.extract rfl rfl) rfl<|wS (LR.allocZ (cs:=[_,_,_,_,_,_,_]) Tryz.zeroValue34 rfl rfl rfl rfl) rfl<|wS (sB (ns:=[_,_,_,_,_,_,_]) Tryz.sizeOf34 rfl rfl rfl rfl rfl rfl rfl) rfl<|wN<|wz (tl:=[(3,_),(7,_),(39,_)]) (to:=[(7,_),(16,_),(39,_),(100,_),(101,_),(102,_),(1100,_),(1101,_),(1102,_),(30321,_),(30322,_)]) ?_;refine PWc.regionE [⟨[44],[],[],[],[],[16],[],[]⟩,⟨[45],[],[],[],[],[16],[],[]⟩,⟨[46],[],[],[],[],[16],[],[]⟩,⟨[47],[],[],[],[],[16],[],[]⟩,⟨[48],[],[16],[],[],[30322],[],[]⟩,⟨[49],[],[7],[],[],[],[],[]⟩,⟨[48,50],[16,30322],[16,30321,30322],[],[(30322,[48])],[30322],[30321],[16,30321,30322]⟩,⟨[51],[],[],[],[],[16],[],[]⟩,⟨[52],[],[],[],[],[16],[],[]⟩,⟨[],[16],[16,30322],[],[],[],[30321,30322],[]⟩] (by kernel_rfl) (by kernel_rfl) rfl ?_;refine PQe.stepP (fun _ he ho=>mV (he rfl rfl)) (.inl rfl) rfl ?_;refine PQe.stepP (fun _ he ho=>mV (he rfl rfl)) (.inl rfl) rfl ?_;refine PQe.stepP (fun _ he ho=>LR.nilCheckRef (he rfl rfl)) (.inl rfl) rfl ?_;refine PQe.stepP (fun _ he ho=>fR Tryz.underlying109 rfl Tryz.sizeOf107 (by decide) rfl (he rfl rfl)) (.inl rfl) rfl ?_;refine PQe.stepP (fun _ he ho=>lD Tryz.isAgg107 (he rfl rfl) (ho rfl rfl) rfl) (.inl rfl) rfl ?_;refine PQe.stepP (fun _ he ho=>lA (ps:=[_,_,_,_,_,_,_]) Tryz.isAgg34 Tryz.sizeOf34 (he rfl rfl) (ho rfl rfl) rfl rfl) (.inl rfl) rfl ?_;replace h:=iDet h;obtain ⟨y77,hy78,h⟩:=h;refine PQe.callObjS [(100,30322),(500,16),(501,30321)] [48] [100,500,501] [(100,.mapH y77.1 [.u16,.u64] true (encM TDot.k TEvent.e y77.2)),(500,.cells 109 [.d (.sl (List.map TPart.e v6)),.mp 501,.junk])] [(501,.mapH nl9 [.u16,.u64] true (encM TDot.k TEvent.e v10))] (PObj.frame [(500,.cells 109 [.d (.sl (List.map TPart.e v6)),.mp 501,.mp 100]),(501,.mapH nl9 [.u16,.u64] true (encM TDot.k TEvent.e v10))] [(500,.cells 109 [.d (.sl (List.map TPart.e v6)),.mp 501,.junk]),(501,.mapH nl9 [.u16,.u64] true (encM TDot.k TEvent.e v10))] (book_add_o_ok kv75.2 nl69 v70 y77 hy78) (fun _=>rfl) (fun _=>rfl) rfl rfl (.cons (.cells (.keep rfl<|.keep rfl<|.junk<|.nil))<|.cons (.same rfl)<|.nil)) hK (fun _ he=>⟨he rfl rfl,evsE he rfl rfl⟩) Tryz.call96 (by first | rfl | (simp;done) | (simp [PV.nilD,PV.ren,rn];omega)) (by repeat' first | constructor | (congr 1;first | (simp;done) | (simp;omega) | omega)) (.cons rfl<|.cons rfl<|.nil) (.cons rfl<|.nil) (.cons (by first | rfl | (congr 1;first | (simp;done) | (simp;omega) | omega))<|.nil) rfl rfl rfl rfl rfl rfl (.inl rfl) rfl ?_;refine PQe.stepP (fun _ he ho=>LR.nilCheckRef (he rfl rfl)) (.inl rfl) rfl ?_;refine PQe.stepP (fun _ he ho=>fR Tryz.underlying109 rfl Tryz.sizeOf107 (by decide) rfl (he rfl rfl)) (.inl rfl) rfl ?_;refine PQe.stepS (fun _ he ho=>sB (ns:=[_,_,_]) Tryz.sizeOf107 (he rfl rfl) (he rfl rfl) rfl rfl (ho rfl rfl) rfl rfl) (.inl rfl) rfl<|PQe.nil ?_;exact ⟨((seen68 ++ [j71]),y77.1,y77.2),(),h,sP⟩
  ·rintro ⟨nl45,v46⟩ _ h;refine wQ<|wR<|wm ?_;refine wa ?_;refine wN<|wX ?_;exact EndsO.mk ⟨(v6,nl9,v10,nl45,v46),h⟩ (.inr rfl) (Sub.trans (Sub.nToH (id:=101) rfl)<|Sub.trans (Sub.nToH (id:=102) rfl)<|sP (tl:=[(2,_)]) (to:=[(100,_),(101,_),(102,_),(16,_),(30321,_),(30322,_),(1100,_),(1101,_),(1102,_)])) (.cons (.tmp rfl)<|.nil) rfl rfl

theorem book_Same_o_ok (ctx_1:List TPart) (ctx_2:List TPart) (nl3:Bool) (m4:List (TDot × TEvent)) (nl5:Bool) (m6:List (TDot × TEvent)) (nl7:Bool) (m8:List (TDot × TEvent)) (nl9:Bool) (m10:List (TDot × TEvent)) (r0:Bool) (h:(book_Same_o ctx_1 ctx_2 nl3 m4 nl5 m6 nl7 m8 nl9 m10).wp (· = r0)):PObj Tryz.prog 65 [.ref 100 0,.ref 101 0] [(100,.cells 109 [.d (.sl (List.map TPart.e ctx_1)),.mp 102,.mp 103]),(101,.cells 109 [.d (.sl (List.map TPart.e ctx_2)),.mp 104,.mp 105]),(102,.mapH nl3 [.u16,.u64] true (encM TDot.k TEvent.e m4)),(103,.mapH nl5 [.u16,.u64] true (encM TDot.k TEvent.e m6)),(104,.mapH nl7 [.u16,.u64] true (encM TDot.k TEvent.e m8)),(105,.mapH nl9 [.u16,.u64] true (encM TDot.k TEvent.e m10))] [100,101,102,103,104,105] (.d (.v (.bool r0))) (fun _:Unit=>[(100,.cells 109 [.d (.sl (List.map TPart.e ctx_1)),.mp 102,.mp 103]),(101,.cells 109 [.d (.sl (List.map TPart.e ctx_2)),.mp 104,.mp 105]),(102,.mapH nl3 [.u16,.u64] true (encM TDot.k TEvent.e m4)),(103,.mapH nl5 [.u16,.u64] true (encM TDot.k TEvent.e m6)),(104,.mapH nl7 [.u16,.u64] true (encM TDot.k TEvent.e m8)),(105,.mapH nl9 [.u16,.u64] true (encM TDot.k TEvent.e m10))]):=by
 refine PObj.intro (sl:=[(0,_),(1,_)]) Tryz.func65 rfl Tryz.ntmps65 rfl rfl rfl ?_;intro ctx hK pv;refine wQ<|wR<|wa ?_;refine wN<|wQ ?_;refine wJ (iBind h) (fun (v11:Bool) (_:Unit)=>⟨17,[(4,.d (.v (.bool v11)))],[(100,.cells 109 [.d (.sl (List.map TPart.e ctx_1)),.mp 102,.mp 103]),(101,.cells 109 [.d (.sl (List.map TPart.e ctx_2)),.mp 104,.mp 105]),(102,.mapH nl3 [.u16,.u64] true (encM TDot.k TEvent.e m4)),(103,.mapH nl5 [.u16,.u64] true (encM TDot.k TEvent.e m6)),(104,.mapH nl7 [.u16,.u64] true (encM TDot.k TEvent.e m8)),(105,.mapH nl9 [.u16,.u64] true (encM TDot.k TEvent.e m10)),(1100,.pin 100 (pv 100)),(1101,.pin 101 (pv 101)),(1102,.pin 102 (pv 102)),(1103,.pin 103 (pv 103)),(1104,.pin 104 (pv 104)),(1105,.pin 105 (pv 105))]⟩) (fun h=>?_) ?_
 ·refine wR<|wm ?_;replace h:=iDet h;obtain ⟨y12,hy13,h⟩:=h;refine wS (LR.callObjS [(100,100),(101,102),(102,103)] [] [100,101,102] [] [(100,.cells 109 [.d (.sl (List.map TPart.e ctx_1)),.mp 101,.mp 102]),(101,.mapH nl3 [.u16,.u64] true (encM TDot.k TEvent.e m4)),(102,.mapH nl5 [.u16,.u64] true (encM TDot.k TEvent.e m6))] (book_Book_Ctx_o_ok ctx_1 nl3 m4 nl5 m6 y12 hy13) hK rfl Tryz.call25 rfl (by first | rfl | (simp;done) | (simp [PV.nilD,PV.ren,rn];omega)) (by repeat' first | constructor | (congr 1;first | (simp;done) | (simp;omega) | omega)) (.nil) (.cons rfl<|.cons rfl<|.cons rfl<|.nil) (by repeat' first | constructor | (congr 1;first | (simp;done) | (simp;omega) | omega)) rfl rfl rfl rfl rfl rfl) rfl ?_;refine wy (tl:=[(0,_),(1,_),(4,_),(6,_)]) (to:=[(100,_),(101,_),(102,_),(103,_),(104,_),(105,_),(1100,_),(1101,_),(1102,_),(1103,_),(1104,_),(1105,_)]) ?_;refine wm ?_;replace h:=iDet h;obtain ⟨y14,hy15,h⟩:=h;refine wS (LR.callObjS [(100,101),(101,104),(102,105)] [] [100,101,102] [] [(100,.cells 109 [.d (.sl (List.map TPart.e ctx_2)),.mp 101,.mp 102]),(101,.mapH nl7 [.u16,.u64] true (encM TDot.k TEvent.e m8)),(102,.mapH nl9 [.u16,.u64] true (encM TDot.k TEvent.e m10))] (book_Book_Ctx_o_ok ctx_2 nl7 m8 nl9 m10 y14 hy15) hK rfl Tryz.call25 rfl (by first | rfl | (simp;done) | (simp [PV.nilD,PV.ren,rn];omega)) (by repeat' first | constructor | (congr 1;first | (simp;done) | (simp;omega) | omega)) (.nil) (.cons rfl<|.cons rfl<|.cons rfl<|.nil) (by repeat' first | constructor | (congr 1;first | (simp;done) | (simp;omega) | omega)) rfl rfl rfl rfl rfl rfl) rfl ?_;refine wy (tl:=[(0,_),(1,_),(4,_),(6,_),(8,_)]) (to:=[(100,_),(101,_),(102,_),(103,_),(104,_),(105,_),(1100,_),(1101,_),(1102,_),(1103,_),(1104,_),(1105,_)]) ?_;replace h:=iDet h;obtain ⟨v16,hy17,h⟩:=h;refine wS (cN (ctx_Same_ok y12 y14 v16 hy17) rfl Tryz.call119 rfl rfl rfl rfl) rfl<|wm ?_;refine wL (d:=10) rfl (fun hg18=>?_) (fun hg18=>?_)
  ·replace h:=iT hg18 h;refine wT (mV rfl) rfl rfl rfl ?_;replace h:=iDet h;obtain ⟨y19,hy20,h⟩:=h;refine wT (LR.callObjS [(100,100),(101,102),(102,103),(14,12)] [] [100,101,102,14] [(14,.row 34 7 (List.map TEvent.e y19))] [(100,.cells 109 [.d (.sl (List.map TPart.e ctx_1)),.mp 101,.mp 102]),(101,.mapH nl3 [.u16,.u64] true (encM TDot.k TEvent.e m4)),(102,.mapH nl5 [.u16,.u64] true (encM TDot.k TEvent.e m6))] (book_Book_All_o_ok ctx_1 nl3 m4 nl5 m6 y19 hy20) hK rfl Tryz.call70 rfl (by first | rfl | (simp;done) | (simp [PV.nilD,PV.ren,rn];omega)) (by repeat' first | constructor | (congr 1;first | (simp;done) | (simp;omega) | omega)) (.cons rfl<|.nil) (.cons rfl<|.cons rfl<|.cons rfl<|.nil) (by repeat' first | constructor | (congr 1;first | (simp;done) | (simp;omega) | omega)) rfl rfl rfl rfl rfl rfl) rfl rfl rfl ?_;refine wy (tl:=[(1,_),(4,_),(10,_),(12,_)]) (to:=[(12,_),(100,_),(101,_),(102,_),(103,_),(104,_),(105,_),(1100,_),(1101,_),(1102,_),(1103,_),(1104,_),(1105,_)]) ?_;refine wT (mV rfl) rfl rfl rfl ?_;replace h:=iDet h;obtain ⟨y21,hy22,h⟩:=h;refine wT (LR.callObjS [(100,101),(101,104),(102,105),(14,14)] [] [100,101,102,14] [(14,.row 34 7 (List.map TEvent.e y21))] [(100,.cells 109 [.d (.sl (List.map TPart.e ctx_2)),.mp 101,.mp 102]),(101,.mapH nl7 [.u16,.u64] true (encM TDot.k TEvent.e m8)),(102,.mapH nl9 [.u16,.u64] true (encM TDot.k TEvent.e m10))] (book_Book_All_o_ok ctx_2 nl7 m8 nl9 m10 y21 hy22) hK rfl Tryz.call70 rfl (by first | rfl | (simp;done) | (simp [PV.nilD,PV.ren,rn];omega)) (by repeat' first | constructor | (congr 1;first | (simp;done) | (simp;omega) | omega)) (.cons rfl<|.nil) (.cons rfl<|.cons rfl<|.cons rfl<|.nil) (by repeat' first | constructor | (congr 1;first | (simp;done) | (simp;omega) | omega)) rfl rfl rfl rfl rfl rfl) rfl rfl rfl ?_;refine wy (tl:=[(4,_),(10,_),(12,_),(14,_)]) (to:=[(12,_),(14,_),(100,_),(101,_),(102,_),(103,_),(104,_),(105,_),(1100,_),(1101,_),(1102,_),(1103,_),(1104,_),(1105,_)]) ?_;replace h:=iDet h;obtain ⟨v23,hy24,h⟩:=h;refine PWl.frz [12] hK (.cons rfl<|.nil) rfl (by simp) ?_;refine PWl.frz [14] hK (.cons rfl<|.nil) rfl (by simp) ?_;refine wT (cN (event_All_ok y19 y21 v23 hy24) rfl Tryz.call150 rfl rfl rfl rfl) rfl rfl rfl<|wS (pT rfl rfl) rfl<|wa ?_;refine wN ?_;exact ⟨v23,(),h,sP⟩
  ·replace h:=iF hg18 h;refine wf<|wf<|wf<|wf<|wf<|wS (pF rfl rfl) rfl<|wa ?_;refine wN ?_;exact ⟨false,(),h,sP⟩
 ·rintro v11 _ h;refine wX ?_;replace h:_ = r0:=h;subst h;exact EndsO.mk () (.inr rfl) (sP (tl:=[(4,_)]) (to:=[(100,_),(101,_),(102,_),(103,_),(104,_),(105,_),(1100,_),(1101,_),(1102,_),(1103,_),(1104,_),(1105,_)])) (.cons (.tmp rfl)<|.nil) rfl rfl

theorem l18_Is_o_ok (x1:R18Book) (ctx_2:List TPart) (nl3:Bool) (m4:List (TDot × TEvent)) (nl5:Bool) (m6:List (TDot × TEvent)) (r0:Int) (h:(l18_Is_o x1 ctx_2 nl3 m4 nl5 m6).wp (· = r0)):PObj Tryz.prog 66 [.ref 100 0,.agg (List.map .d (R18Book.e x1))] [(100,.cells 109 [.d (.sl (List.map TPart.e ctx_2)),.mp 101,.mp 102]),(101,.mapH nl3 [.u16,.u64] true (encM TDot.k TEvent.e m4)),(102,.mapH nl5 [.u16,.u64] true (encM TDot.k TEvent.e m6))] [100,101,102] (.d (.v (.int .i64 r0))) (fun _:Unit=>[(100,.cells 109 [.d (.sl (List.map TPart.e ctx_2)),.mp 101,.mp 102]),(101,.mapH nl3 [.u16,.u64] true (encM TDot.k TEvent.e m4)),(102,.mapH nl5 [.u16,.u64] true (encM TDot.k TEvent.e m6))]):=by
 refine PObj.intro (sl:=[(0,_),(1,_)]) Tryz.func66 rfl Tryz.ntmps66 rfl rfl rfl ?_;intro ctx hK pv;refine wQ<|wR<|wS (LR.box rfl rfl rfl rfl) rfl<|wa ?_;refine wN<|wQ<|wQ<|wz (tl:=[(0,_),(3,_)]) (to:=[(3,_),(100,_),(101,_),(102,_),(1100,_),(1101,_),(1102,_)]) ?_;refine wJ (iBind h) (fun (v7:Bool) (_:Unit)=>⟨32,[(31,.d (.v (.bool v7)))],[(100,.cells 109 [.d (.sl (List.map TPart.e ctx_2)),.mp 101,.mp 102]),(101,.mapH nl3 [.u16,.u64] true (encM TDot.k TEvent.e m4)),(102,.mapH nl5 [.u16,.u64] true (encM TDot.k TEvent.e m6)),(1100,.pin 100 (pv 100)),(1101,.pin 101 (pv 101)),(1102,.pin 102 (pv 102))]⟩) (fun h=>?_) ?_
 ·refine PWc.regionE [⟨[5],[],[],[],[],[100],[],[]⟩,⟨[6],[],[100,101,102],[],[],[],[],[]⟩,⟨[7],[],[],[],[],[3],[],[]⟩,⟨[8],[],[3],[],[],[],[],[]⟩,{ws:=[9]},{ws:=[10]},{ws:=[11]},⟨[12],[],[],[],[],[100],[],[]⟩,⟨[13],[],[100,101,102],[],[],[],[],[]⟩,⟨[14],[],[3],[],[],[],[],[]⟩,{ws:=[15]},{ws:=[16]},{ws:=[17]},{ws:=[18]},⟨[19],[],[],[],[],[100],[],[]⟩,⟨[20],[],[100,101,102],[],[],[],[],[]⟩,⟨[21],[],[3],[],[],[],[],[]⟩,{ws:=[22]},{ws:=[23]},{ws:=[24]},{ws:=[25]},⟨[26],[],[],[],[],[100],[],[]⟩,⟨[27],[],[100,101,102],[],[],[],[],[]⟩,⟨[28],[],[],[],[],[3],[],[]⟩,⟨[29],[],[3],[],[],[],[],[]⟩,{ws:=[30]},{ws:=[31]}] (by kernel_rfl) (by kernel_rfl) rfl ?_;refine PQe.stepP (fun _ he ho=>mV (he rfl rfl)) (.inl rfl) rfl ?_;replace h:=iDet h;obtain ⟨y8,hy9,h⟩:=h;refine PQe.callObjS [(100,100),(101,101),(102,102)] [] [100,101,102] [] [(100,.cells 109 [.d (.sl (List.map TPart.e ctx_2)),.mp 101,.mp 102]),(101,.mapH nl3 [.u16,.u64] true (encM TDot.k TEvent.e m4)),(102,.mapH nl5 [.u16,.u64] true (encM TDot.k TEvent.e m6))] (book_Book_Ctx_o_ok ctx_2 nl3 m4 nl5 m6 y8 hy9) hK (fun _ he=>⟨he rfl rfl,evsE he rfl rfl⟩) Tryz.call25 (by first | rfl | (simp;done) | (simp [PV.nilD,PV.ren,rn];omega)) (by repeat' first | constructor | (congr 1;first | (simp;done) | (simp;omega) | omega)) (.nil) (.cons rfl<|.cons rfl<|.cons rfl<|.nil) (by repeat' first | constructor | (congr 1;first | (simp;done) | (simp;omega) | omega)) rfl rfl rfl rfl rfl rfl (.inl rfl) rfl ?_;refine PQe.stepP (fun _ he ho=>fR Tryz.underlying60 rfl Tryz.sizeOf42 (by decide) rfl (he rfl rfl)) (.inl rfl) rfl ?_;refine PQe.stepP (fun _ he ho=>lD Tryz.isAgg42 (he rfl rfl) (ho rfl rfl) rfl) (.inl rfl) rfl ?_;replace h:=iDet h;obtain ⟨v10,hy11,h⟩:=h;refine PQe.stepP (fun _ he ho=>cN (PRow.fun (r09_Norm_ok x1.ctx v10 hy11)) (he rfl rfl) Tryz.call42 (evsE he rfl rfl) rfl rfl rfl) (.inl rfl) rfl ?_;replace h:=iDet h;obtain ⟨v12,hy13,h⟩:=h;refine PQe.stepP (fun _ he ho=>cN (r09_Eq_ok y8 v10 v12 hy13) (he rfl rfl) Tryz.call24 (evsE he rfl rfl) rfl rfl rfl) (.inl rfl) rfl ?_;refine PQe.stepP (fun _ he ho=>mV (he rfl rfl)) (.inl rfl) rfl ?_;refine PQe.split (d:=11) rfl (fun hg14=>?_) (fun hg14=>?_)
  ·replace h:=iT hg14 h;refine PQe.stepP (fun _ he ho=>mV (he rfl rfl)) (.inr ⟨_,_,_,rfl,rfl,rfl⟩) rfl ?_;replace h:=iDet h;obtain ⟨y15,hy16,h⟩:=h;refine PQe.callObjS [(100,100),(101,101),(102,102),(10,13)] [] [100,101,102] [] [(100,.cells 109 [.d (.sl (List.map TPart.e ctx_2)),.mp 101,.mp 102]),(101,.mapH nl3 [.u16,.u64] true (encM TDot.k TEvent.e m4)),(102,.mapH nl5 [.u16,.u64] true (encM TDot.k TEvent.e m6))] (PObj.dropRow (os1:=fun _=>[(100,.cells 109 [.d (.sl (List.map TPart.e ctx_2)),.mp 101,.mp 102]),(101,.mapH nl3 [.u16,.u64] true (encM TDot.k TEvent.e m4)),(102,.mapH nl5 [.u16,.u64] true (encM TDot.k TEvent.e m6))]) (book_Book_Live_o_ok ctx_2 nl3 m4 nl5 m6 y15 hy16) (fun _=>rfl) (by simp) (fun _=>rfl)) hK (fun _ he=>⟨he rfl rfl,evsE he rfl rfl⟩) Tryz.call27 (by first | rfl | (simp;done) | (simp [PV.nilD,PV.ren,rn];omega)) (by repeat' first | constructor | (congr 1;first | (simp;done) | (simp;omega) | omega)) (.nil) (.cons rfl<|.cons rfl<|.cons rfl<|.nil) (by repeat' first | constructor | (congr 1;first | (simp;done) | (simp;omega) | omega)) rfl rfl rfl rfl rfl rfl (.inr ⟨_,_,_,rfl,rfl,rfl⟩) rfl ?_;refine PQe.stepP (fun _ he ho=>lA (ps:=[_,_]) Tryz.isAgg60 Tryz.sizeOf60 (he rfl rfl) (ho rfl rfl) rfl rfl) (.inr ⟨_,_,_,rfl,rfl,rfl⟩) rfl ?_;replace h:=iDet h;obtain ⟨v17,hy18,h⟩:=h;refine PQe.stepP (fun _ he ho=>cN (PRow.fun (r18_Live_ok x1 v17 hy18)) (he rfl rfl) Tryz.call144 (evsE he rfl rfl) rfl rfl rfl) (.inr ⟨_,_,_,rfl,rfl,rfl⟩) rfl ?_;replace h:=iDet h;obtain ⟨v19,hy20,h⟩:=h;refine PQe.stepP (fun _ he ho=>cN (r13_All_ok y15 v17 v19 hy20) (he rfl rfl) Tryz.call26 (evsE he rfl rfl) rfl rfl rfl) (.inr ⟨_,_,_,rfl,rfl,rfl⟩) rfl ?_;refine PQe.stepP (fun _ he ho=>pT (he rfl rfl) (he rfl rfl)) (.inl rfl) rfl ?_;refine PQe.stepP (fun _ he ho=>mV (he rfl rfl)) (.inl rfl) rfl ?_;refine PQe.split (d:=18) rfl (fun hg21=>?_) (fun hg21=>?_)
   ·replace h:=iT hg21 h;refine PQe.stepP (fun _ he ho=>mV (he rfl rfl)) (.inr ⟨_,_,_,rfl,rfl,rfl⟩) rfl ?_;replace h:=iDet h;obtain ⟨y22,hy23,h⟩:=h;refine PQe.callObjS [(100,100),(101,101),(102,102),(10,20)] [] [100,101,102] [] [(100,.cells 109 [.d (.sl (List.map TPart.e ctx_2)),.mp 101,.mp 102]),(101,.mapH nl3 [.u16,.u64] true (encM TDot.k TEvent.e m4)),(102,.mapH nl5 [.u16,.u64] true (encM TDot.k TEvent.e m6))] (PObj.dropRow (os1:=fun _=>[(100,.cells 109 [.d (.sl (List.map TPart.e ctx_2)),.mp 101,.mp 102]),(101,.mapH nl3 [.u16,.u64] true (encM TDot.k TEvent.e m4)),(102,.mapH nl5 [.u16,.u64] true (encM TDot.k TEvent.e m6))]) (book_Book_Tombs_o_ok ctx_2 nl3 m4 nl5 m6 y22 hy23) (fun _=>rfl) (by simp) (fun _=>rfl)) hK (fun _ he=>⟨he rfl rfl,evsE he rfl rfl⟩) Tryz.call69 (by first | rfl | (simp;done) | (simp [PV.nilD,PV.ren,rn];omega)) (by repeat' first | constructor | (congr 1;first | (simp;done) | (simp;omega) | omega)) (.nil) (.cons rfl<|.cons rfl<|.cons rfl<|.nil) (by repeat' first | constructor | (congr 1;first | (simp;done) | (simp;omega) | omega)) rfl rfl rfl rfl rfl rfl (.inr ⟨_,_,_,rfl,rfl,rfl⟩) rfl ?_;refine PQe.stepP (fun _ he ho=>lA (ps:=[_,_]) Tryz.isAgg60 Tryz.sizeOf60 (he rfl rfl) (ho rfl rfl) rfl rfl) (.inr ⟨_,_,_,rfl,rfl,rfl⟩) rfl ?_;replace h:=iDet h;obtain ⟨v24,hy25,h⟩:=h;refine PQe.stepP (fun _ he ho=>cN (PRow.fun (r18_Tombs_ok x1 v24 hy25)) (he rfl rfl) Tryz.call151 (evsE he rfl rfl) rfl rfl rfl) (.inr ⟨_,_,_,rfl,rfl,rfl⟩) rfl ?_;replace h:=iDet h;obtain ⟨v26,hy27,h⟩:=h;refine PQe.stepP (fun _ he ho=>cN (r13_All_ok y22 v24 v26 hy27) (he rfl rfl) Tryz.call26 (evsE he rfl rfl) rfl rfl rfl) (.inr ⟨_,_,_,rfl,rfl,rfl⟩) rfl ?_;refine PQe.stepP (fun _ he ho=>pT (he rfl rfl) (he rfl rfl)) (.inl rfl) rfl ?_;refine PQe.stepP (fun _ he ho=>mV (he rfl rfl)) (.inl rfl) rfl ?_;refine PQe.split (d:=25) rfl (fun hg28=>?_) (fun hg28=>?_)
    ·replace h:=iT hg28 h;refine PQe.stepP (fun _ he ho=>mV (he rfl rfl)) (.inr ⟨_,_,_,rfl,rfl,rfl⟩) rfl ?_;replace h:=iDet h;obtain ⟨y29,hy30,h⟩:=h;refine PQe.callObjS [(100,100),(101,101),(102,102),(14,27)] [] [100,101,102] [] [(100,.cells 109 [.d (.sl (List.map TPart.e ctx_2)),.mp 101,.mp 102]),(101,.mapH nl3 [.u16,.u64] true (encM TDot.k TEvent.e m4)),(102,.mapH nl5 [.u16,.u64] true (encM TDot.k TEvent.e m6))] (PObj.dropRow (os1:=fun _=>[(100,.cells 109 [.d (.sl (List.map TPart.e ctx_2)),.mp 101,.mp 102]),(101,.mapH nl3 [.u16,.u64] true (encM TDot.k TEvent.e m4)),(102,.mapH nl5 [.u16,.u64] true (encM TDot.k TEvent.e m6))]) (book_Book_All_o_ok ctx_2 nl3 m4 nl5 m6 y29 hy30) (fun _=>rfl) (by simp) (fun _=>rfl)) hK (fun _ he=>⟨he rfl rfl,evsE he rfl rfl⟩) Tryz.call70 (by first | rfl | (simp;done) | (simp [PV.nilD,PV.ren,rn];omega)) (by repeat' first | constructor | (congr 1;first | (simp;done) | (simp;omega) | omega)) (.nil) (.cons rfl<|.cons rfl<|.cons rfl<|.nil) (by repeat' first | constructor | (congr 1;first | (simp;done) | (simp;omega) | omega)) rfl rfl rfl rfl rfl rfl (.inr ⟨_,_,_,rfl,rfl,rfl⟩) rfl ?_;refine PQe.stepP (fun _ he ho=>fR Tryz.underlying60 rfl Tryz.sizeOf22 (by decide) rfl (he rfl rfl)) (.inr ⟨_,_,_,rfl,rfl,rfl⟩) rfl ?_;refine PQe.stepP (fun _ he ho=>lD Tryz.isAgg22 (he rfl rfl) (ho rfl rfl) rfl) (.inr ⟨_,_,_,rfl,rfl,rfl⟩) rfl ?_;replace h:=iDet h;obtain ⟨v31,hy32,h⟩:=h;refine PQe.stepP (fun _ he ho=>cN (r13_All_ok y29 x1.l v31 hy32) (he rfl rfl) Tryz.call26 (evsE he rfl rfl) rfl rfl rfl) (.inr ⟨_,_,_,rfl,rfl,rfl⟩) rfl ?_;refine PQe.stepP (fun _ he ho=>pT (he rfl rfl) (he rfl rfl)) (.inl rfl) rfl<|PQe.nil ?_;exact ⟨v31,(),h,sP⟩
    ·replace h:=iF hg28 h;refine PQe.skipP (.inl ⟨_,_,_,_,rfl,rfl,rfl,by decide⟩) rfl ?_;refine PQe.skipP (.inl ⟨_,_,_,_,rfl,rfl,rfl,by decide⟩) rfl ?_;refine PQe.skipP (.inl ⟨_,_,_,_,rfl,rfl,rfl,by decide⟩) rfl ?_;refine PQe.skipP (.inl ⟨_,_,_,_,rfl,rfl,rfl,by decide⟩) rfl ?_;refine PQe.skipP (.inl ⟨_,_,_,_,rfl,rfl,rfl,by decide⟩) rfl ?_;refine PQe.stepP (fun _ he ho=>pF (he rfl rfl) (he rfl rfl)) (.inl rfl) rfl<|PQe.nil ?_;exact ⟨false,(),h,sP⟩
   ·replace h:=iF hg21 h;refine PQe.skipP (.inl ⟨_,_,_,_,rfl,rfl,rfl,by decide⟩) rfl ?_;refine PQe.skipP (.inl ⟨_,_,_,_,rfl,rfl,rfl,by decide⟩) rfl ?_;refine PQe.skipP (.inl ⟨_,_,_,_,rfl,rfl,rfl,by decide⟩) rfl ?_;refine PQe.skipP (.inl ⟨_,_,_,_,rfl,rfl,rfl,by decide⟩) rfl ?_;refine PQe.skipP (.inl ⟨_,_,_,_,rfl,rfl,rfl,by decide⟩) rfl ?_;refine PQe.stepP (fun _ he ho=>pF (he rfl rfl) (he rfl rfl)) (.inl rfl) rfl ?_;refine PQe.stepP (fun _ he ho=>mV (he rfl rfl)) (.inl rfl) rfl<|PQe.skipP (.inl ⟨_,_,_,_,rfl,rfl,rfl,by decide⟩) rfl ?_;refine PQe.skipP (.inl ⟨_,_,_,_,rfl,rfl,rfl,by decide⟩) rfl ?_;refine PQe.skipP (.inl ⟨_,_,_,_,rfl,rfl,rfl,by decide⟩) rfl ?_;refine PQe.skipP (.inl ⟨_,_,_,_,rfl,rfl,rfl,by decide⟩) rfl ?_;refine PQe.skipP (.inl ⟨_,_,_,_,rfl,rfl,rfl,by decide⟩) rfl ?_;refine PQe.stepP (fun _ he ho=>pF (he rfl rfl) (he rfl rfl)) (.inl rfl) rfl<|PQe.nil ?_;exact ⟨false,(),h,sP⟩
  ·replace h:=iF hg14 h;refine PQe.skipP (.inl ⟨_,_,_,_,rfl,rfl,rfl,by decide⟩) rfl ?_;refine PQe.skipP (.inl ⟨_,_,_,_,rfl,rfl,rfl,by decide⟩) rfl ?_;refine PQe.skipP (.inl ⟨_,_,_,_,rfl,rfl,rfl,by decide⟩) rfl ?_;refine PQe.skipP (.inl ⟨_,_,_,_,rfl,rfl,rfl,by decide⟩) rfl ?_;refine PQe.skipP (.inl ⟨_,_,_,_,rfl,rfl,rfl,by decide⟩) rfl ?_;refine PQe.stepP (fun _ he ho=>pF (he rfl rfl) (he rfl rfl)) (.inl rfl) rfl ?_;refine PQe.stepP (fun _ he ho=>mV (he rfl rfl)) (.inl rfl) rfl<|PQe.skipP (.inl ⟨_,_,_,_,rfl,rfl,rfl,by decide⟩) rfl ?_;refine PQe.skipP (.inl ⟨_,_,_,_,rfl,rfl,rfl,by decide⟩) rfl ?_;refine PQe.skipP (.inl ⟨_,_,_,_,rfl,rfl,rfl,by decide⟩) rfl ?_;refine PQe.skipP (.inl ⟨_,_,_,_,rfl,rfl,rfl,by decide⟩) rfl ?_;refine PQe.skipP (.inl ⟨_,_,_,_,rfl,rfl,rfl,by decide⟩) rfl ?_;refine PQe.stepP (fun _ he ho=>pF (he rfl rfl) (he rfl rfl)) (.inl rfl) rfl ?_;refine PQe.stepP (fun _ he ho=>mV (he rfl rfl)) (.inl rfl) rfl<|PQe.skipP (.inl ⟨_,_,_,_,rfl,rfl,rfl,by decide⟩) rfl ?_;refine PQe.skipP (.inl ⟨_,_,_,_,rfl,rfl,rfl,by decide⟩) rfl ?_;refine PQe.skipP (.inl ⟨_,_,_,_,rfl,rfl,rfl,by decide⟩) rfl ?_;refine PQe.skipP (.inl ⟨_,_,_,_,rfl,rfl,rfl,by decide⟩) rfl ?_;refine PQe.skipP (.inl ⟨_,_,_,_,rfl,rfl,rfl,by decide⟩) rfl ?_;refine PQe.stepP (fun _ he ho=>pF (he rfl rfl) (he rfl rfl)) (.inl rfl) rfl<|PQe.nil ?_;exact ⟨false,(),h,sP⟩
 ·rintro v7 _ h;refine wC rfl (fun hc33=>?_) (fun hc33=>?_)
  ·replace h:=iT hc33 h;refine wQ<|wR<|wa ?_;refine wN<|wX ?_;replace h:_ = r0:=h;subst h;exact EndsO.mk () (.inr rfl) (sP (tl:=[(4,_)]) (to:=[(100,_),(101,_),(102,_),(1100,_),(1101,_),(1102,_)])) (.cons (.tmp rfl)<|.nil) rfl rfl
  ·replace h:=iF hc33 h;refine wK<|wQ<|wR<|wa ?_;refine wN<|wX ?_;replace h:_ = r0:=h;subst h;exact EndsO.mk () (.inr rfl) (sP (tl:=[(4,_)]) (to:=[(100,_),(101,_),(102,_),(1100,_),(1101,_),(1102,_)])) (.cons (.tmp rfl)<|.nil) rfl rfl
end Go.Proofs

namespace Go.Proofs
open Go.Ep
set_option maxHeartbeats 1000000
set_option maxRecDepth 100000
set_option linter.unusedVariables false
set_option linter.unusedSimpArgs false


theorem book_Book_Of_c1_cl_ok (e1:TEvent) (cv2:Int) (r0:Bool) (h:(book_Book_Of_c1_cl e1 cv2).wp (· = r0)):PFun Tryz.prog 152 [.agg (List.map .d (TEvent.e e1)),.ep ((eK .u64) cv2) 0] (.d (.v (.bool r0))):=by
 refine fI (sl:=[(0,_),(1,_)]) Tryz.func152 rfl Tryz.ntmps152 rfl rfl ?_;intro ctx hK;refine wQ<|wR<|wS (LR.box rfl rfl rfl rfl) rfl<|wa ?_;refine wN<|wQ<|wR<|wS (fR Tryz.underlying34 rfl Tryz.sizeOf29 (by decide) rfl rfl) rfl<|wS (lD Tryz.isAgg29 rfl rfl rfl) rfl<|wS (LR.loadEp Tryz.isAgg29 rfl rfl) rfl<|wS (nQ rfl rfl) rfl<|wa ?_;refine wN<|wX ?_;replace h:_ = r0:=h;subst h;exact ⟨.inr rfl,_,.cons (.tmp rfl rfl)<|.nil,rfl⟩

theorem slices_IndexFunc_sl_Event_Event_book_Book_Of_c1_ok (s1:List TEvent) (cv2:Int) (r0:Int) (h:(slices_IndexFunc_sl_Event_Event_book_Book_Of_c1 s1 cv2).wp (· = r0)):PFun Tryz.prog 195 [.d (.sl (List.map TEvent.e s1)),.clo 152 [(eK .u64) cv2]] (.d (.v (.int .i64 r0))):=by
 refine fI (sl:=[(0,_),(1,_)]) Tryz.func195 rfl Tryz.ntmps195 rfl rfl ?_;intro ctx hK;refine wQ<|wR<|wa ?_;refine wN<|wQ<|wQ<|wR<|wm ?_;refine wS (lM (enc:=TEvent.e) (L:=s1) Tryz.underlying22 rfl) rfl<|wm ?_;refine wN ?_;refine PWc.jnX (iBind h) (fun (_:Unit) (_:Unit)=>⟨19,[],[]⟩) (fun h=>?_) ?_
 ·refine wB<|wM (fun (v16:Int) (_:Unit)=>⟨19,[(0,.d (.sl (List.map TEvent.e s1))),(1,.clo 152 [(eK .u64) cv2]),(7,.d (.v (.int .i64 (List.length s1:Int)))),(8,.d (.v (.int .i64 v16)))],[]⟩) () h (sP) ?_;rintro N v16 _ h;refine wQ<|wR<|wS (LR.lss rfl rfl) rfl<|wN<|wQ ?_;refine wC rfl (fun hc17=>?_) (fun hc17=>?_)
  ·replace h:=iT hc17 h;refine wK<|wQ<|wB<|wQ<|wR<|wm ?_;refine wa ?_;refine wN<|wQ<|wR<|wm ?_;refine wm ?_;refine wm ?_;replace h:=iIdx h;obtain ⟨x18,hy19,h⟩:=h;refine wS (iX (enc:=TEvent.e) (L:=s1) (y:=x18) Tryz.underlying22 Tryz.sizeOf34 rfl rfl hy19 (fun _=>rfl)) rfl<|wS (lE (ys:=[_,_,_,_,_,_,_]) Tryz.isAgg34 Tryz.sizeOf34 rfl rfl rfl) rfl ?_;replace h:=iDet h;obtain ⟨v20,hy21,h⟩:=h;refine wS (LR.callC (book_Book_Of_c1_cl_ok x18 cv2 v20 hy21) rfl Tryz.call152 rfl rfl rfl rfl rfl) rfl<|wN ?_;refine wC rfl (fun hc22=>?_) (fun hc22=>?_)
   ·replace h:=iT hc22 h;refine wQ<|wR<|wm ?_;refine wa ?_;refine wN<|wX ?_;replace h:_ = r0:=h;subst h;exact ⟨.inr rfl,_,.cons (.tmp rfl rfl)<|.nil,rfl⟩
   ·replace h:=iF hc22 h;refine wK<|wR<|wS (LR.addW rfl rfl) rfl<|wm ?_;refine wN ?_;exact ⟨(IntKind.i64.wrap (v16 + 1)),(),h,sP⟩
  ·replace h:=iF hc17 h;refine wZ ?_;exact ⟨(),(),h,sP⟩
 ·rintro _ _ h;refine wQ<|wR<|wa ?_;refine wN<|wX ?_;replace h:_ = r0:=h;subst h;exact ⟨.inr rfl,_,.cons (.tmp rfl rfl)<|.nil,rfl⟩

theorem slices_DeleteFunc_sl_Event_Event_book_Book_Of_c1_o_ok (cv1:Int) (row2:List TEvent) (r0:List TEvent) (h:(slices_DeleteFunc_sl_Event_Event_book_Book_Of_c1_o cv1 row2).wp (· = r0)):PObj Tryz.prog 137 [.row 100 (List.length row2),.clo 152 [(eK .u64) cv1]] [(100,.row 34 7 (List.map TEvent.e row2))] [] (.row 100 (List.length r0)) (fun _:Unit=>[(100,.row 34 7 (List.map TEvent.e r0))]):=by
 refine PObj.intro (sl:=[(0,_),(1,_)]) Tryz.func137 rfl Tryz.ntmps137 rfl rfl rfl ?_;intro ctx hK pv;refine wQ<|wR<|wS (aR 34 7 rfl) rfl<|wN<|wQ<|wR<|wm ?_;refine wm ?_;replace h:=iDet h;obtain ⟨v3,hy4,h⟩:=h;refine wS (LR.callLend (slices_IndexFunc_sl_Event_Event_book_Book_Of_c1_ok row2 cv1 v3 hy4) rfl Tryz.call195 rfl (.row rfl (by simp)<|.data rfl rfl<|.nil)) rfl ?_;refine wa ?_;refine wN<|wQ<|wQ<|wR<|wm ?_;refine wS (eQ rfl rfl) rfl<|wN ?_;refine wC rfl (fun hc5=>?_) (fun hc5=>?_)
 ·replace h:=iT hc5 h;refine wQ<|wR<|wm ?_;refine wy (tl:=[(0,_),(1,_),(5,_),(8,_),(9,_),(10,_),(11,_),(12,_),(13,_)]) (to:=[(100,_)]) ?_;refine wa ?_;refine wN<|wX ?_;replace h:_ = r0:=h;subst h;exact EndsO.mk () (.inr rfl) (sO (tl:=[(4,_)]) (to:=[(100,_)]) rfl (.cons rfl (by first | rfl | (simp;done) | (congr 1;first | (simp;done) | (simp;omega) | omega))<|.nil) (.cons rfl rfl<|.nil)) (.cons (.tmp rfl)<|.nil) rfl rfl
 ·replace h:=iF hc5 h;refine wK<|wQ<|wQ<|wR<|wm ?_;refine wS (LR.addW rfl rfl) rfl<|wa ?_;refine wN ?_;refine wJ (iBind h) (fun (⟨i6,v7⟩:Int × List TEvent) (_:Unit)=>⟨42,[(0,.row 100 (List.length v7)),(5,.d (.v (.int .i64 i6)))],[(100,.row 34 7 (List.map TEvent.e v7))]⟩) (fun h=>?_) ?_
  ·refine wB<|wM (fun (⟨i31,j32,v33⟩:Int × Int × List TEvent) (_:Unit)=>⟨42,[(0,.row 100 (List.length v33)),(1,.clo 152 [(eK .u64) cv1]),(5,.d (.v (.int .i64 i31))),(6,.d (.v (.int .i64 j32)))],[(100,.row 34 7 (List.map TEvent.e v33))]⟩) () h (sP) ?_;rintro N ⟨i31,j32,v33⟩ _ h;refine wQ<|wQ<|wR<|wm ?_;refine wm ?_;refine wS (LR.lenRow Tryz.underlying22 rfl) rfl<|wS (LR.lss rfl rfl) rfl<|wN ?_;refine wC rfl (fun hc34=>?_) (fun hc34=>?_)
   ·replace h:=iT hc34 h;refine wK<|wQ ?_;refine wJ (iBind h) (fun (⟨i35,v36⟩:Int × List TEvent) (_:Unit)=>⟨42,[(0,.row 100 (List.length v36)),(1,.clo 152 [(eK .u64) cv1]),(5,.d (.v (.int .i64 i35))),(6,.d (.v (.int .i64 j32)))],[(100,.row 34 7 (List.map TEvent.e v36))]⟩) (fun h=>?_) ?_
    ·refine wB<|wQ<|wR<|wm ?_;refine wm ?_;replace h:=iIdx h;obtain ⟨x37,hy38,h⟩:=h;refine wS (LR.idxRowT (L:=v33) (y:=x37) Tryz.underlying22 Tryz.sizeOf34 rfl rfl rfl hy38) rfl<|wS (LR.loadRpT (enc:=TEvent.e) (L:=v33) (y:=x37) Tryz.isAgg34 Tryz.sizeOf34 rfl rfl hy38.2) rfl<|wS (LR.allocZ (cs:=[_,_,_,_,_,_,_]) Tryz.zeroValue34 rfl rfl rfl rfl) rfl<|wS (sB (ns:=[_,_,_,_,_,_,_]) Tryz.sizeOf34 rfl rfl rfl rfl rfl rfl rfl) rfl<|wN<|wQ<|wR<|wm ?_;refine wS (lA (ps:=[_,_,_,_,_,_,_]) Tryz.isAgg34 Tryz.sizeOf34 rfl rfl rfl rfl) rfl ?_;replace h:=iDet h;obtain ⟨v39,hy40,h⟩:=h;refine wS (LR.callC (book_Book_Of_c1_cl_ok x37 cv1 v39 hy40) rfl Tryz.call152 rfl rfl rfl rfl rfl) rfl<|wS (LR.not rfl) rfl<|wN ?_;refine wC rfl (fun hc41=>?_) (fun hc41=>?_)
     ·replace h:=iT hc41 h;refine wQ<|wR<|wm ?_;refine wm ?_;refine wS (lA (ps:=[_,_,_,_,_,_,_]) Tryz.isAgg34 Tryz.sizeOf34 rfl rfl rfl rfl) rfl ?_;replace h:=iIdx h;obtain ⟨x42,hy43,h⟩:=h;refine wS (LR.idxRowT (L:=v33) (y:=x42) Tryz.underlying22 Tryz.sizeOf34 rfl rfl rfl hy43) rfl<|wy (tl:=[(0,_),(1,_),(5,_),(6,_),(32,_),(33,_)]) (to:=[(100,_)]) ?_;refine wS (LR.storeRpT (enc:=TEvent.e) (L:=v33) (a:=x42) (b:=x37) Tryz.sizeOf34 rfl rfl rfl rfl rfl hy43.2 rfl rfl) rfl<|wN<|wR<|wm ?_;refine wS (LR.addW rfl rfl) rfl<|wa ?_;refine wN ?_;exact ⟨((IntKind.i64.wrap (i31 + 1)),(List.set v33 (Int.toNat i31) x37)),(),h,sO rfl (.cons rfl (by first | rfl | (simp;done) | (congr 1;first | (simp;done) | (simp;omega) | omega))<|.c2 rfl rfl rfl rfl<|.cons rfl rfl<|.nil) (.cons rfl rfl<|.nil)⟩
     ·replace h:=iF hc41 h;refine wK ?_;exact ⟨(i31,v33),(),h,sP⟩
    ·rintro ⟨i35,v36⟩ _ h;refine wR<|wm ?_;refine wS (LR.addW rfl rfl) rfl<|wa ?_;refine wN ?_;exact ⟨(i35,(IntKind.i64.wrap (j32 + 1)),v36),(),h,sP⟩
   ·replace h:=iF hc34 h;refine wZ ?_;exact ⟨(i31,v33),(),h,sP⟩
  ·rintro ⟨i6,v7⟩ _ h;refine wQ<|wR<|wm ?_;refine wm ?_;replace h:=iNeed h;obtain ⟨hy44,h⟩:=h;refine wS (LR.pieceRowT (enc:=TEvent.e) (L:=v7) Tryz.underlying22 Tryz.sizeOf34 rfl rfl rfl rfl hy44) rfl ?_;replace h:=iNeed h;obtain ⟨hy45,h⟩:=h;refine wS (LR.clearPcT (enc:=TEvent.e) (L:=v7) (z:=(⟨(⟨0,0⟩:TDot),0,0,0,(⟨#[]⟩:ByteArray),([]:List TDot)⟩:TEvent)) Tryz.underlying22 rfl rfl Tryz.zeroValue34 rfl rfl rfl rfl hy45 rfl) rfl<|wN<|wQ<|wR<|wm ?_;refine wm ?_;replace h:=iNeed h;obtain ⟨hy46,h⟩:=h;refine wS (LR.cutRowT (enc:=TEvent.e) (L:=(List.take (Int.toNat i6) v7 ++ List.replicate (List.length v7 - Int.toNat i6) (⟨(⟨0,0⟩:TDot),0,0,0,(⟨#[]⟩:ByteArray),([]:List TDot)⟩:TEvent) ++ List.drop ((Int.toNat i6) + (List.length v7 - Int.toNat i6)) v7)) [0,36,38,39] Tryz.underlying22 Tryz.sizeOf34 rfl (by first | (simp;done) | (simp;omega) | omega) rfl rfl hy46 rfl) rfl ?_;refine wa ?_;refine wN<|wX ?_;replace h:_ = r0:=h;subst h;exact EndsO.mk () (.inr rfl) (sO (tl:=[(4,_)]) (to:=[(100,_)]) rfl (.cons rfl (by first | rfl | (simp;done) | (congr 1;first | (simp;done) | (simp;omega) | omega))<|.nil) (.cons rfl rfl<|.nil)) (.cons (.tmp rfl)<|.nil) rfl rfl

theorem book_Book_Of_o_ok (cid1:Int) (ctx_2:List TPart) (nl3:Bool) (m4:List (TDot × TEvent)) (nl5:Bool) (m6:List (TDot × TEvent)) (r0:List TEvent) (h:(book_Book_Of_o cid1 ctx_2 nl3 m4 nl5 m6).wp (· = r0)):PObj Tryz.prog 67 [.ref 100 0,.d (.v (.int .u64 cid1))] [(100,.cells 109 [.d (.sl (List.map TPart.e ctx_2)),.mp 101,.mp 102]),(101,.mapH nl3 [.u16,.u64] true (encM TDot.k TEvent.e m4)),(102,.mapH nl5 [.u16,.u64] true (encM TDot.k TEvent.e m6))] [100,101,102] (.row 6 (List.length r0)) (fun _:Unit=>[(100,.cells 109 [.d (.sl (List.map TPart.e ctx_2)),.mp 101,.mp 102]),(101,.mapH nl3 [.u16,.u64] true (encM TDot.k TEvent.e m4)),(102,.mapH nl5 [.u16,.u64] true (encM TDot.k TEvent.e m6)),(6,.row 34 7 (List.map TEvent.e r0))]):=by
 refine PObj.intro (sl:=[(0,_),(1,_)]) Tryz.func67 rfl Tryz.ntmps67 rfl rfl rfl ?_;intro ctx hK pv;refine wQ<|wR<|wS (LR.box rfl rfl rfl rfl) rfl<|wS (aR 34 7 rfl) rfl<|wN<|wQ<|wR<|wm ?_;replace h:=iDet h;obtain ⟨y7,hy8,h⟩:=h;refine wS (LR.callObjS [(100,100),(101,101),(102,102),(10,6)] [] [100,101,102,10] [(10,.row 34 7 (List.map TEvent.e y7))] [(100,.cells 109 [.d (.sl (List.map TPart.e ctx_2)),.mp 101,.mp 102]),(101,.mapH nl3 [.u16,.u64] true (encM TDot.k TEvent.e m4)),(102,.mapH nl5 [.u16,.u64] true (encM TDot.k TEvent.e m6))] (book_Book_Live_o_ok ctx_2 nl3 m4 nl5 m6 y7 hy8) hK rfl Tryz.call27 rfl (by first | rfl | (simp;done) | (simp [PV.nilD,PV.ren,rn];omega)) (by repeat' first | constructor | (congr 1;first | (simp;done) | (simp;omega) | omega)) (.cons rfl<|.nil) (.cons rfl<|.cons rfl<|.cons rfl<|.nil) (by repeat' first | constructor | (congr 1;first | (simp;done) | (simp;omega) | omega)) rfl rfl rfl rfl rfl rfl) rfl ?_;refine wy (tl:=[(3,_),(4,_),(6,_)]) (to:=[(3,_),(4,_),(6,_),(100,_),(101,_),(102,_),(1100,_),(1101,_),(1102,_)]) ?_;refine PWl.sub (Sub.frzR (id:=3) ((eK .u64) cid1) [3] hK rfl rfl (.cons rfl<|.nil))<|wS (LR.makeClo (cs:=[(eK .u64) cid1]) rfl) rfl<|wy (tl:=[(4,_),(6,_),(7,_)]) (to:=[(4,_),(6,_),(100,_),(101,_),(102,_),(1100,_),(1101,_),(1102,_)]) ?_;replace h:=iDet h;obtain ⟨y9,hy10,h⟩:=h;refine wS (LR.callObj [(100,6)] [6] [100] (slices_DeleteFunc_sl_Event_Event_book_Book_Of_c1_o_ok cid1 y7 y9 hy10) hK rfl Tryz.call137 rfl (by first | rfl | (simp;done) | (simp [PV.nilD,PV.ren,rn];omega)) (.cons (by first | rfl | (congr 1;first | (simp;done) | (simp;omega) | omega))<|.nil) rfl rfl rfl rfl) rfl ?_;refine wy (tl:=[(4,_),(8,_)]) (to:=[(4,_),(6,_),(100,_),(101,_),(102,_),(1100,_),(1101,_),(1102,_)]) ?_;refine wy (tl:=[(8,_)]) (to:=[(6,_),(100,_),(101,_),(102,_),(1100,_),(1101,_),(1102,_)]) ?_;refine wa ?_;refine wN<|wX ?_;replace h:_ = r0:=h;subst h;exact EndsO.mk () (.inr rfl) (sO (tl:=[(4,_)]) (to:=[(100,_),(101,_),(102,_),(6,_),(1100,_),(1101,_),(1102,_)]) rfl (.cons rfl (by first | rfl | (simp;done) | (congr 1;first | (simp;done) | (simp;omega) | omega))<|.nil) (.c4 rfl rfl rfl rfl rfl rfl rfl rfl<|.c2 rfl rfl rfl rfl<|.cons rfl rfl<|.nil)) (.cons (.tmp rfl)<|.nil) rfl rfl

theorem l18_BookPlays_ok (l1:List L18Act) (r0:Bool) (h:(l18_BookPlays l1).wp (· = r0)):PFun Tryz.prog 8 [.d (.sl (List.map L18Act.e l1))] (.d (.v (.bool r0))):=by
 refine fI (sl:=[(0,_)]) Tryz.func8 rfl Tryz.ntmps8 rfl rfl ?_;intro ctx hK;refine wQ<|wR<|wa ?_;refine wN<|wQ<|wQ<|wR<|wm ?_;replace h:=iDet h;obtain ⟨v2,hy3,h⟩:=h;refine wS (cN (l18_Few_ok l1 25 v2 hy3) rfl Tryz.call38 rfl rfl rfl rfl) rfl<|wS (eQ rfl rfl) rfl<|wN ?_;refine wC rfl (fun hc4=>?_) (fun hc4=>?_)
 ·replace h:=iT hc4 h;refine wQ<|wR ?_;replace h:=iDet h;obtain ⟨v5,hy6,h⟩:=h;refine wS (cN (l18_works_ok v5 hy6) rfl Tryz.call17 rfl rfl rfl rfl) rfl<|wa ?_;refine wN<|wX ?_;replace h:_ = r0:=h;subst h;exact ⟨.inr rfl,_,.cons (.tmp rfl rfl)<|.nil,rfl⟩
 ·replace h:=iF hc4 h;refine wK<|wQ<|wR ?_;replace h:=iDet h;obtain ⟨y7,hy8,h⟩:=h;refine wS (LR.callObj [(2,23),(30041,20461),(30042,20462)] [] [2,30041,30042] (book_New_o_ok y7 hy8) hK rfl Tryz.call22 rfl (by first | rfl | (simp;done) | (simp [PV.nilD,PV.ren,rn];omega)) (.nil) rfl rfl rfl rfl) rfl ?_;refine wa ?_;refine wN<|wQ<|wz (tl:=[(0,_),(3,_)]) (to:=[(23,_),(20461,_),(20462,_)]) ?_;refine wR<|wS (LR.allocZ (cs:=[_,_]) Tryz.zeroValue60 rfl rfl rfl rfl) rfl<|wN<|wQ<|wQ<|wR<|wa ?_;refine wN ?_;refine PWc.jnX (iBind h) (fun (⟨x9,x10,v11,nl12,v13,nl14,v15⟩:List TPart × List TEvent × List TPart × Bool × (List (TDot × TEvent)) × Bool × (List (TDot × TEvent))) (_:Unit)=>⟨166,[(3,.ref 23 0),(4,.ref 4 0)],[(4,.cells 60 [.d (.sl (List.map TPart.e x9)),.d (.sl (List.map TEvent.e x10))]),(23,.cells 109 [.d (.sl (List.map TPart.e v11)),.mp 20461,.mp 20462]),(20461,.mapH nl14 [.u16,.u64] true (encM TDot.k TEvent.e v15)),(20462,.mapH nl12 [.u16,.u64] true (encM TDot.k TEvent.e v13))]⟩) (fun h=>?_) ?_
  ·refine wB<|wM (fun (⟨i164,x165,x166,v167,nl168,v169,nl170,v171⟩:Int × List TPart × List TEvent × List TPart × Bool × (List (TDot × TEvent)) × Bool × (List (TDot × TEvent))) (_:Unit)=>⟨166,[(0,.d (.sl (List.map L18Act.e l1))),(3,.ref 23 0),(4,.ref 4 0),(5,.d (.v (.int .i64 i164)))],[(4,.cells 60 [.d (.sl (List.map TPart.e x165)),.d (.sl (List.map TEvent.e x166))]),(23,.cells 109 [.d (.sl (List.map TPart.e v167)),.mp 20461,.mp 20462]),(20461,.mapH nl170 [.u16,.u64] true (encM TDot.k TEvent.e v171)),(20462,.mapH nl168 [.u16,.u64] true (encM TDot.k TEvent.e v169))]⟩) () h (sP) ?_;rintro N ⟨i164,x165,x166,v167,nl168,v169,nl170,v171⟩ _ h;refine wQ<|wQ<|wR<|wm ?_;refine wm ?_;refine wS (lM (enc:=L18Act.e) (L:=l1) Tryz.underlying56 rfl) rfl<|wS (LR.lss rfl rfl) rfl<|wN ?_;refine wC rfl (fun hc172=>?_) (fun hc172=>?_)
   ·replace h:=iT hc172 h;refine wK<|wQ<|wB<|wQ<|wR<|wm ?_;refine wm ?_;replace h:=iIdx h;obtain ⟨x173,hy174,h⟩:=h;refine wS (iX (enc:=L18Act.e) (L:=l1) (y:=x173) Tryz.underlying56 Tryz.sizeOf90 rfl rfl hy174 (fun _=>rfl)) rfl<|wS (lE (ys:=[_,_,_,_,_,_,_,_,_]) Tryz.isAgg90 Tryz.sizeOf90 rfl rfl rfl) rfl<|wS (LR.allocZ (cs:=[_,_,_,_,_,_,_,_,_]) Tryz.zeroValue90 rfl rfl rfl rfl) rfl<|wS (sB (ns:=[_,_,_,_,_,_,_,_,_]) Tryz.sizeOf90 rfl rfl rfl rfl rfl rfl rfl) rfl<|wN<|wQ<|wR<|wa ?_;refine wN<|wQ<|wQ<|wR<|wS (fR Tryz.underlying90 rfl Tryz.sizeOf5 (by decide) rfl rfl) rfl<|wS (lD Tryz.isAgg5 rfl rfl rfl) rfl<|wN ?_;refine wJ (iBind h) (fun (⟨ok175,x176,x177,v178,nl179,v180,nl181,v182⟩:Bool × List TPart × List TEvent × List TPart × Bool × (List (TDot × TEvent)) × Bool × (List (TDot × TEvent))) (_:Unit)=>⟨166,[(0,.d (.sl (List.map L18Act.e l1))),(3,.ref 23 0),(4,.ref 4 0),(5,.d (.v (.int .i64 i164))),(6,.ref 6 0),(7,.d (.v (.bool ok175)))],[(4,.cells 60 [.d (.sl (List.map TPart.e x176)),.d (.sl (List.map TEvent.e x177))]),(6,.cells 90 [.d (.v (.int .u8 x173.kind)),.d (.v (.int .u16 x173.event.dot.dev)),.d (.v (.int .u64 x173.event.dot.n)),.d (.v (.int .u8 x173.event.kind)),.d (.v (.int .u64 x173.event.cid)),.d (.v (.int .u8 x173.event.field)),.d (.v (.string x173.event.text)),.d (.sl (List.map TDot.e x173.event.kills)),.d (.sl (List.map TPart.e x173.ctx))]),(23,.cells 109 [.d (.sl (List.map TPart.e v178)),.mp 20461,.mp 20462]),(20461,.mapH nl181 [.u16,.u64] true (encM TDot.k TEvent.e v182)),(20462,.mapH nl179 [.u16,.u64] true (encM TDot.k TEvent.e v180))]⟩) (fun h=>?_) ?_
    ·refine wB<|wQ<|wR<|wS (eQ rfl rfl) rfl<|wa ?_;refine wN ?_;refine wC rfl (fun hc183=>?_) (fun hc183=>?_)
     ·replace h:=iT hc183 h;refine wQ<|wR<|wS (lA (ps:=[_,_]) Tryz.isAgg60 Tryz.sizeOf60 rfl rfl rfl rfl) rfl<|wS (fR Tryz.underlying90 rfl Tryz.sizeOf34 (by decide) rfl rfl) rfl<|wS (lA (ps:=[_,_,_,_,_,_,_]) Tryz.isAgg34 Tryz.sizeOf34 rfl rfl rfl rfl) rfl<|wy (tl:=[(0,_),(3,_),(4,_),(5,_),(6,_),(43,_),(45,_)]) (to:=[(4,_),(6,_),(23,_),(20461,_),(20462,_)]) ?_;replace h:=iDet h;obtain ⟨v184,hy185,h⟩:=h;refine wS (cN (r18_Put_ok (⟨x165,x166⟩:R18Book) x173.event v184 hy185) rfl Tryz.call56 rfl rfl rfl rfl) rfl<|wm ?_;refine wS (LR.extract rfl rfl) rfl<|wS (LR.extract rfl rfl) rfl<|wS (LR.allocZ (cs:=[_,_]) Tryz.zeroValue60 rfl rfl rfl rfl) rfl<|wS (sB (ns:=[_,_]) Tryz.sizeOf60 rfl rfl rfl rfl rfl rfl rfl) rfl<|wa ?_;refine wN<|wQ<|wR<|wm ?_;refine wS (fR Tryz.underlying90 rfl Tryz.sizeOf34 (by decide) rfl rfl) rfl<|wS (lA (ps:=[_,_,_,_,_,_,_]) Tryz.isAgg34 Tryz.sizeOf34 rfl rfl rfl rfl) rfl ?_;replace h:=iDet h;obtain ⟨y186,hy187,h⟩:=h;refine wS (LR.callObj [(100,23),(101,20461),(102,20462)] [] [100,101,102] (book_Book_Put_o_ok x173.event v167 nl170 v171 nl168 v169 y186 hy187) hK rfl Tryz.call23 rfl (by first | rfl | (simp;done) | (simp [PV.nilD,PV.ren,rn];omega)) (by repeat' first | constructor | (congr 1;first | (simp;done) | (simp;omega) | omega)) rfl rfl rfl rfl) rfl ?_;refine wy (tl:=[(0,_),(3,_),(4,_),(5,_),(6,_),(8,_),(9,_),(52,_)]) (to:=[(4,_),(6,_),(8,_),(23,_),(20461,_),(20462,_)]) ?_;refine wm ?_;refine wS (eQ rfl rfl) rfl<|wa ?_;refine wN<|wR<|wS (lA (ps:=[_,_]) Tryz.isAgg60 Tryz.sizeOf60 rfl rfl rfl rfl) rfl<|wS (sB (ns:=[_,_]) Tryz.sizeOf60 rfl rfl rfl rfl rfl rfl rfl) rfl<|wN ?_;exact ⟨((decide (y186.1 = v184.2)),v184.1.ctx,v184.1.l,y186.2.1,y186.2.2.2.2.1,y186.2.2.2.2.2,y186.2.2.1,y186.2.2.2.1),(),h,sP⟩
     ·replace h:=iF hc183 h;refine wQ<|wR<|wS (eQ rfl rfl) rfl<|wa ?_;refine wN ?_;refine wC rfl (fun hc188=>?_) (fun hc188=>?_)
      ·replace h:=iT hc188 h;refine wQ<|wR<|wm ?_;refine wy (tl:=[(0,_),(3,_),(4,_),(5,_),(6,_),(59,_)]) (to:=[(4,_),(6,_),(23,_),(20461,_),(20462,_)]) ?_;refine wS (fR Tryz.underlying90 rfl Tryz.sizeOf34 (by decide) rfl rfl) rfl<|wS (lA (ps:=[_,_,_,_,_,_,_]) Tryz.isAgg34 Tryz.sizeOf34 rfl rfl rfl rfl) rfl ?_;replace h:=iDet h;obtain ⟨y189,hy190,h⟩:=h;refine wS (LR.callObjS [(100,23),(101,20461),(102,20462)] [] [100,101,102] [] [(100,.cells 109 [.d (.sl (List.map TPart.e v167)),.mp 101,.mp 102]),(101,.mapH nl170 [.u16,.u64] true (encM TDot.k TEvent.e v171)),(102,.mapH nl168 [.u16,.u64] true (encM TDot.k TEvent.e v169))] (book_Book_Make_o_ok x173.event v167 nl170 v171 nl168 v169 y189 hy190) hK rfl Tryz.call57 rfl (by first | rfl | (simp;done) | (simp [PV.nilD,PV.ren,rn];omega)) (by repeat' first | constructor | (congr 1;first | (simp;done) | (simp;omega) | omega)) (.nil) (.cons rfl<|.cons rfl<|.cons rfl<|.nil) (by repeat' first | constructor | (congr 1;first | (simp;done) | (simp;omega) | omega)) rfl rfl rfl rfl rfl rfl) rfl ?_;refine wm ?_;refine wS (LR.extract rfl rfl) rfl<|wS (LR.extract rfl rfl) rfl<|wS (LR.allocZ (cs:=[_,_,_,_,_,_,_]) Tryz.zeroValue34 rfl rfl rfl rfl) rfl<|wS (sB (ns:=[_,_,_,_,_,_,_]) Tryz.sizeOf34 rfl rfl rfl rfl rfl rfl rfl) rfl<|wa ?_;refine wN<|wQ<|wz (tl:=[(0,_),(3,_),(4,_),(5,_),(6,_),(10,_),(11,_)]) (to:=[(4,_),(6,_),(10,_),(23,_),(20461,_),(20462,_)]) ?_;refine wR<|wS (lA (ps:=[_,_]) Tryz.isAgg60 Tryz.sizeOf60 rfl rfl rfl rfl) rfl<|wS (fR Tryz.underlying90 rfl Tryz.sizeOf34 (by decide) rfl rfl) rfl<|wS (lA (ps:=[_,_,_,_,_,_,_]) Tryz.isAgg34 Tryz.sizeOf34 rfl rfl rfl rfl) rfl ?_;replace h:=iDet h;obtain ⟨v191,hy192,h⟩:=h;refine wS (cN (r18_Make_ok (⟨x165,x166⟩:R18Book) x173.event v191 hy192) rfl Tryz.call58 rfl rfl rfl rfl) rfl<|wm ?_;refine wS (LR.extract rfl rfl) rfl<|wS (LR.extract rfl rfl) rfl<|wS (LR.allocZ (cs:=[_,_,_,_,_,_,_]) Tryz.zeroValue34 rfl rfl rfl rfl) rfl<|wS (sB (ns:=[_,_,_,_,_,_,_]) Tryz.sizeOf34 rfl rfl rfl rfl rfl rfl rfl) rfl<|wa ?_;refine wN<|wQ<|wR<|wS (lA (ps:=[_,_]) Tryz.isAgg60 Tryz.sizeOf60 rfl rfl rfl rfl) rfl<|wS (lA (ps:=[_,_,_,_,_,_,_]) Tryz.isAgg34 Tryz.sizeOf34 rfl rfl rfl rfl) rfl ?_;replace h:=iDet h;obtain ⟨v193,hy194,h⟩:=h;refine wS (cN (r18_Put_ok (⟨x165,x166⟩:R18Book) v191.1 v193 hy194) rfl Tryz.call56 rfl rfl rfl rfl) rfl<|wm ?_;refine wS (LR.extract rfl rfl) rfl<|wy (tl:=[(0,_),(3,_),(4,_),(5,_),(6,_),(10,_),(11,_),(12,_),(13,_),(72,_),(76,_)]) (to:=[(4,_),(6,_),(10,_),(12,_),(23,_),(20461,_),(20462,_)]) ?_;refine wS (LR.extract rfl rfl) rfl<|wS (LR.allocZ (cs:=[_,_]) Tryz.zeroValue60 rfl rfl rfl rfl) rfl<|wS (sB (ns:=[_,_]) Tryz.sizeOf60 rfl rfl rfl rfl rfl rfl rfl) rfl<|wa ?_;refine wN<|wQ ?_;refine wJ (iBind h) (fun (⟨ok195,v196,nl197,v198,nl199,v200⟩:Bool × List TPart × Bool × (List (TDot × TEvent)) × Bool × (List (TDot × TEvent))) (_:Unit)=>⟨166,[(0,.d (.sl (List.map L18Act.e l1))),(3,.ref 23 0),(4,.ref 4 0),(5,.d (.v (.int .i64 i164))),(6,.ref 6 0),(7,.d (.v (.bool ok195))),(14,.ref 14 0)],[(4,.cells 60 [.d (.sl (List.map TPart.e x165)),.d (.sl (List.map TEvent.e x166))]),(6,.cells 90 [.d (.v (.int .u8 x173.kind)),.d (.v (.int .u16 x173.event.dot.dev)),.d (.v (.int .u64 x173.event.dot.n)),.d (.v (.int .u8 x173.event.kind)),.d (.v (.int .u64 x173.event.cid)),.d (.v (.int .u8 x173.event.field)),.d (.v (.string x173.event.text)),.d (.sl (List.map TDot.e x173.event.kills)),.d (.sl (List.map TPart.e x173.ctx))]),(14,.cells 60 [.d (.sl (List.map TPart.e v193.1.ctx)),.d (.sl (List.map TEvent.e v193.1.l))]),(23,.cells 109 [.d (.sl (List.map TPart.e v196)),.mp 20461,.mp 20462]),(20461,.mapH nl199 [.u16,.u64] true (encM TDot.k TEvent.e v200)),(20462,.mapH nl197 [.u16,.u64] true (encM TDot.k TEvent.e v198))]⟩) (fun h=>?_) ?_
       ·refine wR<|wS (lA (ps:=[_,_,_,_,_,_,_]) Tryz.isAgg34 Tryz.sizeOf34 rfl rfl rfl rfl) rfl<|wS (lA (ps:=[_,_,_,_,_,_,_]) Tryz.isAgg34 Tryz.sizeOf34 rfl rfl rfl rfl) rfl ?_;replace h:=iDet h;obtain ⟨v201,hy202,h⟩:=h;refine wS (cN (r13_Same_ok y189.1 v191.1 v201 hy202) rfl Tryz.call59 rfl rfl rfl rfl) rfl<|wm ?_;refine wL (d:=81) rfl (fun hg203=>?_) (fun hg203=>?_)
        ·replace h:=iT hg203 h;refine wT (mV rfl) rfl rfl rfl<|wT (mV rfl) rfl rfl rfl<|wy (tl:=[(0,_),(3,_),(4,_),(5,_),(6,_),(10,_),(14,_),(15,_),(81,_),(82,_),(83,_)]) (to:=[(4,_),(6,_),(10,_),(14,_),(23,_),(20461,_),(20462,_)]) ?_;refine wT (eQ rfl rfl) rfl rfl rfl<|wS (pT rfl rfl) rfl<|wm ?_;refine wL (d:=86) rfl (fun hg204=>?_) (fun hg204=>?_)
         ·replace h:=iT hg204 h;refine wT (mV rfl) rfl rfl rfl<|wT (lA (ps:=[_,_,_,_,_,_,_]) Tryz.isAgg34 Tryz.sizeOf34 rfl rfl rfl rfl) rfl rfl rfl ?_;replace h:=iDet h;obtain ⟨y205,hy206,h⟩:=h;refine wT (LR.callObj [(100,23),(101,20461),(102,20462)] [] [100,101,102] (book_Book_Put_o_ok y189.1 v167 nl170 v171 nl168 v169 y205 hy206) hK rfl Tryz.call23 rfl (by first | rfl | (simp;done) | (simp [PV.nilD,PV.ren,rn];omega)) (by repeat' first | constructor | (congr 1;first | (simp;done) | (simp;omega) | omega)) rfl rfl rfl rfl) rfl rfl rfl ?_;refine wy (tl:=[(0,_),(3,_),(4,_),(5,_),(6,_),(14,_),(15,_),(82,_),(83,_),(84,_),(86,_),(87,_),(88,_),(89,_)]) (to:=[(4,_),(6,_),(14,_),(23,_),(20461,_),(20462,_)]) ?_;refine wT (mV rfl) rfl rfl rfl<|wT (eQ rfl rfl) rfl rfl rfl<|wS (pT rfl rfl) rfl<|wa ?_;refine wN ?_;exact ⟨((decide (y205.1 = v193.2)),y205.2.1,y205.2.2.2.2.1,y205.2.2.2.2.2,y205.2.2.1,y205.2.2.2.1),(),h,sP⟩
         ·replace h:=iF hg204 h;refine wf<|wf<|wf<|wf<|wf<|wS (pF rfl rfl) rfl<|wa ?_;refine wN ?_;exact ⟨(false,v167,nl168,v169,nl170,v171),(),h,sP⟩
        ·replace h:=iF hg203 h;refine wf<|wf<|wy (tl:=[(0,_),(3,_),(4,_),(5,_),(6,_),(10,_),(14,_),(15,_),(81,_),(82,_),(83,_)]) (to:=[(4,_),(6,_),(10,_),(14,_),(23,_),(20461,_),(20462,_)]) ?_;refine wf<|wS (pF rfl rfl) rfl<|wm ?_;refine wf<|wf<|wf<|wf<|wf<|wS (pF rfl rfl) rfl<|wa ?_;refine wN ?_;exact ⟨(false,v167,nl168,v169,nl170,v171),(),h,sP⟩
       ·rintro ⟨ok195,v196,nl197,v198,nl199,v200⟩ _ h;refine wR<|wS (lA (ps:=[_,_]) Tryz.isAgg60 Tryz.sizeOf60 rfl rfl rfl rfl) rfl<|wS (sB (ns:=[_,_]) Tryz.sizeOf60 rfl rfl rfl rfl rfl rfl rfl) rfl<|wN ?_;exact ⟨(ok195,v193.1.ctx,v193.1.l,v196,nl197,v198,nl199,v200),(),h,sP⟩
      ·replace h:=iF hc188 h;refine wQ<|wR<|wS (eQ rfl rfl) rfl<|wy (tl:=[(0,_),(3,_),(4,_),(5,_),(6,_),(7,_),(35,_),(95,_)]) (to:=[(4,_),(6,_),(23,_),(20461,_),(20462,_)]) ?_;refine wa ?_;refine wN ?_;refine wC rfl (fun hc207=>?_) (fun hc207=>?_)
       ·replace h:=iT hc207 h;refine wQ<|wR<|wm ?_;refine wS (fR Tryz.underlying90 rfl Tryz.sizeOf42 (by decide) rfl rfl) rfl<|wS (lD Tryz.isAgg42 rfl rfl rfl) rfl ?_;replace h:=iDet h;obtain ⟨y208,hy209,h⟩:=h;refine wS (LR.callObjS [(100,23),(101,20461),(102,20462)] [] [100,101,102] [(100,.cells 109 [.d (.sl (List.map TPart.e y208)),.mp 101,.mp 102])] [(101,.mapH nl170 [.u16,.u64] true (encM TDot.k TEvent.e v171)),(102,.mapH nl168 [.u16,.u64] true (encM TDot.k TEvent.e v169))] (book_Book_See_o_ok x173.ctx v167 nl170 v171 nl168 v169 y208 hy209) hK rfl Tryz.call60 rfl (by first | rfl | (simp;done) | (simp [PV.nilD,PV.ren,rn];omega)) (by repeat' first | constructor | (congr 1;first | (simp;done) | (simp;omega) | omega)) (.cons rfl<|.nil) (.cons rfl<|.cons rfl<|.nil) (by repeat' first | constructor | (congr 1;first | (simp;done) | (simp;omega) | omega)) rfl rfl rfl rfl rfl rfl) rfl ?_;refine wN<|wz (tl:=[(0,_),(3,_),(4,_),(5,_),(6,_),(7,_)]) (to:=[(4,_),(6,_),(23,_),(20461,_),(20462,_)]) ?_;refine wR<|wS (lA (ps:=[_,_]) Tryz.isAgg60 Tryz.sizeOf60 rfl rfl rfl rfl) rfl<|wS (fR Tryz.underlying90 rfl Tryz.sizeOf42 (by decide) rfl rfl) rfl<|wS (lD Tryz.isAgg42 rfl rfl rfl) rfl ?_;replace h:=iDet h;obtain ⟨v210,hy211,h⟩:=h;refine wS (cN (r18_See_ok (⟨x165,x166⟩:R18Book) x173.ctx v210 hy211) rfl Tryz.call61 rfl rfl rfl rfl) rfl<|wS (sB (ns:=[_,_]) Tryz.sizeOf60 rfl rfl rfl rfl rfl rfl rfl) rfl<|wN ?_;exact ⟨(true,v210.ctx,v210.l,y208,nl168,v169,nl170,v171),(),h,sP⟩
       ·replace h:=iF hc207 h;refine wQ<|wR<|wS (eQ rfl rfl) rfl<|wa ?_;refine wN ?_;refine wC rfl (fun hc212=>?_) (fun hc212=>?_)
        ·replace h:=iT hc212 h;refine wQ<|wR<|wS (lA (ps:=[_,_]) Tryz.isAgg60 Tryz.sizeOf60 rfl rfl rfl rfl) rfl<|wS (fR Tryz.underlying90 rfl Tryz.sizeOf42 (by decide) rfl rfl) rfl<|wS (lD Tryz.isAgg42 rfl rfl rfl) rfl ?_;replace h:=iDet h;obtain ⟨v213,hy214,h⟩:=h;refine wS (cN (r18_Prune_ok (⟨x165,x166⟩:R18Book) x173.ctx v213 hy214) rfl Tryz.call62 rfl rfl rfl rfl) rfl<|wm ?_;refine wS (LR.extract rfl rfl) rfl<|wS (LR.extract rfl rfl) rfl<|wS (LR.allocZ (cs:=[_,_]) Tryz.zeroValue60 rfl rfl rfl rfl) rfl<|wS (sB (ns:=[_,_]) Tryz.sizeOf60 rfl rfl rfl rfl rfl rfl rfl) rfl<|wa ?_;refine wN<|wQ<|wR<|wm ?_;refine wy (tl:=[(0,_),(3,_),(4,_),(5,_),(6,_),(7,_),(16,_),(17,_),(113,_)]) (to:=[(4,_),(6,_),(16,_),(23,_),(20461,_),(20462,_)]) ?_;refine wS (fR Tryz.underlying90 rfl Tryz.sizeOf42 (by decide) rfl rfl) rfl<|wS (lD Tryz.isAgg42 rfl rfl rfl) rfl ?_;replace h:=iDet h;obtain ⟨y215,hy216,h⟩:=h;refine wS (LR.callObjS [(100,23),(101,20461),(102,20462)] [] [100,101,102] [(101,.mapH y215.2.1 [.u16,.u64] true (encM TDot.k TEvent.e y215.2.2.1)),(102,.mapH y215.2.2.2.1 [.u16,.u64] true (encM TDot.k TEvent.e y215.2.2.2.2))] [(100,.cells 109 [.d (.sl (List.map TPart.e v167)),.mp 101,.mp 102])] (book_Book_Prune_o_ok x173.ctx v167 nl170 v171 nl168 v169 y215 hy216) hK rfl Tryz.call63 rfl (by first | rfl | (simp;done) | (simp [PV.nilD,PV.ren,rn];omega)) (by repeat' first | constructor | (congr 1;first | (simp;done) | (simp;omega) | omega)) (.cons rfl<|.cons rfl<|.nil) (.cons rfl<|.nil) (.cons (by first | rfl | (congr 1;first | (simp;done) | (simp;omega) | omega))<|.nil) rfl rfl rfl rfl rfl rfl) rfl ?_;refine wy (tl:=[(0,_),(3,_),(4,_),(5,_),(6,_),(7,_),(16,_),(17,_),(116,_)]) (to:=[(4,_),(6,_),(16,_),(23,_),(20461,_),(20462,_)]) ?_;refine wm ?_;refine wS (eQ rfl rfl) rfl<|wa ?_;refine wN<|wR<|wS (lA (ps:=[_,_]) Tryz.isAgg60 Tryz.sizeOf60 rfl rfl rfl rfl) rfl<|wS (sB (ns:=[_,_]) Tryz.sizeOf60 rfl rfl rfl rfl rfl rfl rfl) rfl<|wN ?_;exact ⟨((decide (y215.1 = v213.2)),v213.1.ctx,v213.1.l,v167,y215.2.2.2.1,y215.2.2.2.2,y215.2.1,y215.2.2.1),(),h,sP⟩
        ·replace h:=iF hc212 h;refine wQ<|wR<|wS (eQ rfl rfl) rfl<|wa ?_;refine wN ?_;refine wC rfl (fun hc217=>?_) (fun hc217=>?_)
         ·replace h:=iT hc217 h;refine wQ<|wR<|wm ?_;refine wa ?_;refine wN<|wQ<|wR<|wm ?_;replace h:=iBind h;refine PWl.callObjS [(100,23),(101,20461),(102,20462),(16,124),(30321,22481),(30322,22482)] [] [100,101,102,16,30321,30322] (fun gh:Subtype (α:=List TPart × Bool × (List (TDot × TEvent)) × Bool × (List (TDot × TEvent))) _=>[(16,.cells 109 [.d (.sl (List.map TPart.e gh.1.1)),.mp 30321,.mp 30322]),(30321,.mapH gh.1.2.1 [.u16,.u64] true (encM TDot.k TEvent.e gh.1.2.2.1)),(30322,.mapH gh.1.2.2.2.1 [.u16,.u64] true (encM TDot.k TEvent.e gh.1.2.2.2.2))]) [(100,.cells 109 [.d (.sl (List.map TPart.e v167)),.mp 101,.mp 102]),(101,.mapH nl170 [.u16,.u64] true (encM TDot.k TEvent.e v171)),(102,.mapH nl168 [.u16,.u64] true (encM TDot.k TEvent.e v169))] (book_Book_Copy_o_ok v167 nl170 v171 nl168 v169 h) hK rfl Tryz.call64 rfl (by first | rfl | (simp;done) | (simp [PV.nilD,PV.ren,rn];omega)) (by repeat' first | constructor | (congr 1;first | (simp;done) | (simp;omega) | omega)) (fun _=>.cons rfl<|.cons rfl<|.cons rfl<|.nil) (fun _=>.cons rfl<|.cons rfl<|.cons rfl<|.nil) (by repeat' first | constructor | (congr 1;first | (simp;done) | (simp;omega) | omega)) (fun _=>rfl) rfl (fun _=>rfl) (fun _=>rfl) rfl rfl rfl (fun gh=>?_);obtain ⟨y218,h⟩:=gh;refine wa ?_;refine wN<|wQ<|wz (tl:=[(0,_),(3,_),(4,_),(5,_),(6,_),(7,_),(18,_)]) (to:=[(4,_),(6,_),(23,_),(124,_),(20461,_),(20462,_),(22481,_),(22482,_)]) ?_;refine wR<|wm ?_;refine wS (fR Tryz.underlying90 rfl Tryz.sizeOf42 (by decide) rfl rfl) rfl<|wS (lD Tryz.isAgg42 rfl rfl rfl) rfl ?_;replace h:=iDet h;obtain ⟨y220,hy221,h⟩:=h;refine wS (LR.callObjS [(100,23),(101,20461),(102,20462)] [] [100,101,102] [(100,.cells 109 [.d (.sl (List.map TPart.e y220)),.mp 101,.mp 102])] [(101,.mapH nl170 [.u16,.u64] true (encM TDot.k TEvent.e v171)),(102,.mapH nl168 [.u16,.u64] true (encM TDot.k TEvent.e v169))] (book_Book_See_o_ok x173.ctx v167 nl170 v171 nl168 v169 y220 hy221) hK rfl Tryz.call60 rfl (by first | rfl | (simp;done) | (simp [PV.nilD,PV.ren,rn];omega)) (by repeat' first | constructor | (congr 1;first | (simp;done) | (simp;omega) | omega)) (.cons rfl<|.nil) (.cons rfl<|.cons rfl<|.nil) (by repeat' first | constructor | (congr 1;first | (simp;done) | (simp;omega) | omega)) rfl rfl rfl rfl rfl rfl) rfl ?_;refine wN<|wQ<|wz (tl:=[(0,_),(3,_),(4,_),(5,_),(6,_),(7,_),(18,_)]) (to:=[(4,_),(6,_),(23,_),(124,_),(20461,_),(20462,_),(22481,_),(22482,_)]) ?_;refine wR<|wm ?_;refine wS (fR Tryz.underlying90 rfl Tryz.sizeOf34 (by decide) rfl rfl) rfl<|wS (lA (ps:=[_,_,_,_,_,_,_]) Tryz.isAgg34 Tryz.sizeOf34 rfl rfl rfl rfl) rfl ?_;replace h:=iDet h;obtain ⟨y222,hy223,h⟩:=h;refine wS (LR.callObj [(100,23),(101,20461),(102,20462)] [] [100,101,102] (book_Book_Put_o_ok x173.event y220 nl170 v171 nl168 v169 y222 hy223) hK rfl Tryz.call23 rfl (by first | rfl | (simp;done) | (simp [PV.nilD,PV.ren,rn];omega)) (by repeat' first | constructor | (congr 1;first | (simp;done) | (simp;omega) | omega)) rfl rfl rfl rfl) rfl ?_;refine wN<|wz (tl:=[(0,_),(3,_),(4,_),(5,_),(6,_),(7,_),(18,_)]) (to:=[(4,_),(6,_),(23,_),(124,_),(20461,_),(20462,_),(22481,_),(22482,_)]) ?_;refine wR<|wm ?_;refine wS (fR Tryz.underlying90 rfl Tryz.sizeOf42 (by decide) rfl rfl) rfl<|wS (lD Tryz.isAgg42 rfl rfl rfl) rfl ?_;replace h:=iDet h;obtain ⟨y224,hy225,h⟩:=h;refine wS (LR.callObjS [(100,23),(101,20461),(102,20462)] [] [100,101,102] [(101,.mapH y224.2.1 [.u16,.u64] true (encM TDot.k TEvent.e y224.2.2.1)),(102,.mapH y224.2.2.2.1 [.u16,.u64] true (encM TDot.k TEvent.e y224.2.2.2.2))] [(100,.cells 109 [.d (.sl (List.map TPart.e y222.2.1)),.mp 101,.mp 102])] (book_Book_Prune_o_ok x173.ctx y222.2.1 y222.2.2.1 y222.2.2.2.1 y222.2.2.2.2.1 y222.2.2.2.2.2 y224 hy225) hK rfl Tryz.call63 rfl (by first | rfl | (simp;done) | (simp [PV.nilD,PV.ren,rn];omega)) (by repeat' first | constructor | (congr 1;first | (simp;done) | (simp;omega) | omega)) (.cons rfl<|.cons rfl<|.nil) (.cons rfl<|.nil) (.cons (by first | rfl | (congr 1;first | (simp;done) | (simp;omega) | omega))<|.nil) rfl rfl rfl rfl rfl rfl) rfl ?_;refine wN ?_;exact ⟨(true,x165,x166,y218.1,y218.2.2.2.1,y218.2.2.2.2,y218.2.1,y218.2.2.1),(),h,Sub.rnm [(23,124),(20461,22481),(20462,22482)] rfl (by repeat' first | constructor | (congr 1;first | (simp;done) | (simp;omega) | omega)) (by repeat' first | constructor | (congr 1;first | (simp;done) | (simp;omega) | omega)) rfl⟩
         ·replace h:=iF hc217 h;refine wR<|wm ?_;refine wm ?_;replace h:=iBind h;refine PWl.callObjS [(100,23),(101,20461),(102,20462),(16,38),(30321,20761),(30322,20762)] [] [100,101,102,16,30321,30322] (fun gh:Subtype (α:=List TPart × Bool × (List (TDot × TEvent)) × Bool × (List (TDot × TEvent))) _=>[(16,.cells 109 [.d (.sl (List.map TPart.e gh.1.1)),.mp 30321,.mp 30322]),(30321,.mapH gh.1.2.1 [.u16,.u64] true (encM TDot.k TEvent.e gh.1.2.2.1)),(30322,.mapH gh.1.2.2.2.1 [.u16,.u64] true (encM TDot.k TEvent.e gh.1.2.2.2.2))]) [(100,.cells 109 [.d (.sl (List.map TPart.e v167)),.mp 101,.mp 102]),(101,.mapH nl170 [.u16,.u64] true (encM TDot.k TEvent.e v171)),(102,.mapH nl168 [.u16,.u64] true (encM TDot.k TEvent.e v169))] (book_Book_Copy_o_ok v167 nl170 v171 nl168 v169 h) hK rfl Tryz.call64 rfl (by first | rfl | (simp;done) | (simp [PV.nilD,PV.ren,rn];omega)) (by repeat' first | constructor | (congr 1;first | (simp;done) | (simp;omega) | omega)) (fun _=>.cons rfl<|.cons rfl<|.cons rfl<|.nil) (fun _=>.cons rfl<|.cons rfl<|.cons rfl<|.nil) (by repeat' first | constructor | (congr 1;first | (simp;done) | (simp;omega) | omega)) (fun _=>rfl) rfl (fun _=>rfl) (fun _=>rfl) rfl rfl rfl (fun gh=>?_);obtain ⟨y226,h⟩:=gh;replace h:=iDet h;obtain ⟨y228,hy229,h⟩:=h;refine wS (LR.callObjS [(100,23),(101,38),(102,20461),(103,20462),(104,20761),(105,20762)] [] [100,101,102,103,104,105] [] [(100,.cells 109 [.d (.sl (List.map TPart.e v167)),.mp 102,.mp 103]),(101,.cells 109 [.d (.sl (List.map TPart.e y226.1)),.mp 104,.mp 105]),(102,.mapH nl170 [.u16,.u64] true (encM TDot.k TEvent.e v171)),(103,.mapH nl168 [.u16,.u64] true (encM TDot.k TEvent.e v169)),(104,.mapH y226.2.1 [.u16,.u64] true (encM TDot.k TEvent.e y226.2.2.1)),(105,.mapH y226.2.2.2.1 [.u16,.u64] true (encM TDot.k TEvent.e y226.2.2.2.2))] (book_Same_o_ok v167 y226.1 nl170 v171 nl168 v169 y226.2.1 y226.2.2.1 y226.2.2.2.1 y226.2.2.2.2 y228 hy229) hK rfl Tryz.call65 rfl (by first | rfl | (simp;done) | (simp [PV.nilD,PV.ren,rn];omega)) (by repeat' first | constructor | (congr 1;first | (simp;done) | (simp;omega) | omega)) (.nil) (.cons rfl<|.cons rfl<|.cons rfl<|.cons rfl<|.cons rfl<|.cons rfl<|.nil) (by repeat' first | constructor | (congr 1;first | (simp;done) | (simp;omega) | omega)) rfl rfl rfl rfl rfl rfl) rfl ?_;refine wy (tl:=[(0,_),(3,_),(4,_),(5,_),(6,_),(7,_),(39,_)]) (to:=[(4,_),(6,_),(23,_),(20461,_),(20462,_)]) ?_;refine wa ?_;refine wN ?_;exact ⟨(y228,x165,x166,v167,nl168,v169,nl170,v171),(),h,sP⟩
    ·rintro ⟨ok175,x176,x177,v178,nl179,v180,nl181,v182⟩ _ h;refine wQ<|wz (tl:=[(0,_),(3,_),(4,_),(5,_),(6,_),(7,_)]) (to:=[(4,_),(6,_),(23,_),(20461,_),(20462,_)]) ?_;refine wJ (iBind h) (fun (v230:Bool) (_:Unit)=>⟨166,[(0,.d (.sl (List.map L18Act.e l1))),(3,.ref 23 0),(4,.ref 4 0),(5,.d (.v (.int .i64 i164))),(158,.d (.v (.bool v230)))],[(4,.cells 60 [.d (.sl (List.map TPart.e x176)),.d (.sl (List.map TEvent.e x177))]),(23,.cells 109 [.d (.sl (List.map TPart.e v178)),.mp 20461,.mp 20462]),(20461,.mapH nl181 [.u16,.u64] true (encM TDot.k TEvent.e v182)),(20462,.mapH nl179 [.u16,.u64] true (encM TDot.k TEvent.e v180))]⟩) (fun h=>?_) ?_
     ·refine PWc.regionE [{ws:=[137]},{ws:=[138]},{ws:=[139]},⟨[140],[],[],[],[],[23],[],[]⟩,⟨[141],[],[4],[],[],[],[],[]⟩,⟨[142],[],[23,20461,20462],[],[],[],[],[]⟩,{ws:=[143]},{ws:=[144]},{ws:=[145]},⟨[146],[],[],[],[],[23],[],[]⟩,⟨[147],[],[],[],[],[6],[],[]⟩,⟨[148],[],[],[],[],[6],[],[]⟩,⟨[149],[],[6],[],[],[],[],[]⟩,⟨[150],[],[23,20461,20462],[],[],[],[],[]⟩,⟨[151],[],[4],[],[],[],[],[]⟩,⟨[152],[],[],[],[],[6],[],[]⟩,⟨[153],[],[],[],[],[6],[],[]⟩,⟨[154],[],[6],[],[],[],[],[]⟩,{ws:=[155]},{ws:=[156]},{ws:=[157]},{ws:=[158]}] (by kernel_rfl) (by kernel_rfl) rfl ?_;refine PQe.stepP (fun _ he ho=>mV (he rfl rfl)) (.inl rfl) rfl ?_;refine PQe.stepP (fun _ he ho=>LR.not (he rfl rfl)) (.inl rfl) rfl ?_;refine PQe.stepP (fun _ he ho=>mV (he rfl rfl)) (.inl rfl) rfl ?_;refine PQe.split (d:=139) rfl (fun hg231=>?_) (fun hg231=>?_)
      ·replace h:=iT hg231 h;refine PQe.skipP (.inl ⟨_,_,_,_,rfl,rfl,rfl,by decide⟩) rfl ?_;refine PQe.skipP (.inl ⟨_,_,_,_,rfl,rfl,rfl,by decide⟩) rfl ?_;refine PQe.skipP (.inl ⟨_,_,_,_,rfl,rfl,rfl,by decide⟩) rfl ?_;refine PQe.skipP (.inl ⟨_,_,_,_,rfl,rfl,rfl,by decide⟩) rfl ?_;refine PQe.stepP (fun _ he ho=>pT (he rfl rfl) (he rfl rfl)) (.inl rfl) rfl ?_;refine PQe.stepP (fun _ he ho=>mV (he rfl rfl)) (.inl rfl) rfl<|PQe.skipP (.inl ⟨_,_,_,_,rfl,rfl,rfl,by decide⟩) rfl ?_;refine PQe.skipP (.inl ⟨_,_,_,_,rfl,rfl,rfl,by decide⟩) rfl ?_;refine PQe.skipP (.inl ⟨_,_,_,_,rfl,rfl,rfl,by decide⟩) rfl ?_;refine PQe.skipP (.inl ⟨_,_,_,_,rfl,rfl,rfl,by decide⟩) rfl ?_;refine PQe.skipP (.inl ⟨_,_,_,_,rfl,rfl,rfl,by decide⟩) rfl ?_;refine PQe.skipP (.inl ⟨_,_,_,_,rfl,rfl,rfl,by decide⟩) rfl ?_;refine PQe.skipP (.inl ⟨_,_,_,_,rfl,rfl,rfl,by decide⟩) rfl ?_;refine PQe.skipP (.inl ⟨_,_,_,_,rfl,rfl,rfl,by decide⟩) rfl ?_;refine PQe.skipP (.inl ⟨_,_,_,_,rfl,rfl,rfl,by decide⟩) rfl ?_;refine PQe.skipP (.inl ⟨_,_,_,_,rfl,rfl,rfl,by decide⟩) rfl ?_;refine PQe.skipP (.inl ⟨_,_,_,_,rfl,rfl,rfl,by decide⟩) rfl ?_;refine PQe.skipP (.inl ⟨_,_,_,_,rfl,rfl,rfl,by decide⟩) rfl ?_;refine PQe.stepP (fun _ he ho=>pT (he rfl rfl) (he rfl rfl)) (.inl rfl) rfl<|PQe.nil ?_;exact ⟨true,(),h,sP⟩
      ·replace h:=iF hg231 h;refine PQe.stepP (fun _ he ho=>mV (he rfl rfl)) (.inr ⟨_,_,_,rfl,rfl,rfl⟩) rfl ?_;refine PQe.stepP (fun _ he ho=>lA (ps:=[_,_]) Tryz.isAgg60 Tryz.sizeOf60 (he rfl rfl) (ho rfl rfl) rfl rfl) (.inr ⟨_,_,_,rfl,rfl,rfl⟩) rfl ?_;replace h:=iDet h;obtain ⟨y232,hy233,h⟩:=h;refine PQe.callObjS [(100,23),(101,20461),(102,20462)] [] [100,101,102] [] [(100,.cells 109 [.d (.sl (List.map TPart.e v178)),.mp 101,.mp 102]),(101,.mapH nl181 [.u16,.u64] true (encM TDot.k TEvent.e v182)),(102,.mapH nl179 [.u16,.u64] true (encM TDot.k TEvent.e v180))] (l18_Is_o_ok (⟨x176,x177⟩:R18Book) v178 nl181 v182 nl179 v180 y232 hy233) hK (fun _ he=>⟨he rfl rfl,evsE he rfl rfl⟩) Tryz.call66 (by first | rfl | (simp;done) | (simp [PV.nilD,PV.ren,rn];omega)) (by repeat' first | constructor | (congr 1;first | (simp;done) | (simp;omega) | omega)) (.nil) (.cons rfl<|.cons rfl<|.cons rfl<|.nil) (by repeat' first | constructor | (congr 1;first | (simp;done) | (simp;omega) | omega)) rfl rfl rfl rfl rfl rfl (.inr ⟨_,_,_,rfl,rfl,rfl⟩) rfl ?_;refine PQe.stepP (fun _ he ho=>eQ (he rfl rfl) (he rfl rfl)) (.inr ⟨_,_,_,rfl,rfl,rfl⟩) rfl ?_;refine PQe.stepP (fun _ he ho=>pF (he rfl rfl) (he rfl rfl)) (.inl rfl) rfl ?_;refine PQe.stepP (fun _ he ho=>mV (he rfl rfl)) (.inl rfl) rfl ?_;refine PQe.split (d:=145) rfl (fun hg234=>?_) (fun hg234=>?_)
       ·replace h:=iT hg234 h;refine PQe.skipP (.inl ⟨_,_,_,_,rfl,rfl,rfl,by decide⟩) rfl ?_;refine PQe.skipP (.inl ⟨_,_,_,_,rfl,rfl,rfl,by decide⟩) rfl ?_;refine PQe.skipP (.inl ⟨_,_,_,_,rfl,rfl,rfl,by decide⟩) rfl ?_;refine PQe.skipP (.inl ⟨_,_,_,_,rfl,rfl,rfl,by decide⟩) rfl ?_;refine PQe.skipP (.inl ⟨_,_,_,_,rfl,rfl,rfl,by decide⟩) rfl ?_;refine PQe.skipP (.inl ⟨_,_,_,_,rfl,rfl,rfl,by decide⟩) rfl ?_;refine PQe.skipP (.inl ⟨_,_,_,_,rfl,rfl,rfl,by decide⟩) rfl ?_;refine PQe.skipP (.inl ⟨_,_,_,_,rfl,rfl,rfl,by decide⟩) rfl ?_;refine PQe.skipP (.inl ⟨_,_,_,_,rfl,rfl,rfl,by decide⟩) rfl ?_;refine PQe.skipP (.inl ⟨_,_,_,_,rfl,rfl,rfl,by decide⟩) rfl ?_;refine PQe.skipP (.inl ⟨_,_,_,_,rfl,rfl,rfl,by decide⟩) rfl ?_;refine PQe.skipP (.inl ⟨_,_,_,_,rfl,rfl,rfl,by decide⟩) rfl ?_;refine PQe.stepP (fun _ he ho=>pT (he rfl rfl) (he rfl rfl)) (.inl rfl) rfl<|PQe.nil ?_;exact ⟨true,(),h,sP⟩
       ·replace h:=iF hg234 h;refine PQe.stepP (fun _ he ho=>mV (he rfl rfl)) (.inr ⟨_,_,_,rfl,rfl,rfl⟩) rfl ?_;refine PQe.stepP (fun _ he ho=>fR Tryz.underlying90 rfl Tryz.sizeOf34 (by decide) rfl (he rfl rfl)) (.inr ⟨_,_,_,rfl,rfl,rfl⟩) rfl ?_;refine PQe.stepP (fun _ he ho=>fR Tryz.underlying34 rfl Tryz.sizeOf29 (by decide) rfl (he rfl rfl)) (.inr ⟨_,_,_,rfl,rfl,rfl⟩) rfl ?_;refine PQe.stepP (fun _ he ho=>lD Tryz.isAgg29 (he rfl rfl) (ho rfl rfl) rfl) (.inr ⟨_,_,_,rfl,rfl,rfl⟩) rfl ?_;replace h:=iDet h;obtain ⟨y235,hy236,h⟩:=h;refine PQe.callObjS [(100,23),(101,20461),(102,20462),(6,150)] [] [100,101,102] [] [(100,.cells 109 [.d (.sl (List.map TPart.e v178)),.mp 101,.mp 102]),(101,.mapH nl181 [.u16,.u64] true (encM TDot.k TEvent.e v182)),(102,.mapH nl179 [.u16,.u64] true (encM TDot.k TEvent.e v180))] (PObj.dropRow (os1:=fun _=>[(100,.cells 109 [.d (.sl (List.map TPart.e v178)),.mp 101,.mp 102]),(101,.mapH nl181 [.u16,.u64] true (encM TDot.k TEvent.e v182)),(102,.mapH nl179 [.u16,.u64] true (encM TDot.k TEvent.e v180))]) (book_Book_Of_o_ok x173.event.cid v178 nl181 v182 nl179 v180 y235 hy236) (fun _=>rfl) (by simp) (fun _=>rfl)) hK (fun _ he=>⟨he rfl rfl,evsE he rfl rfl⟩) Tryz.call67 (by first | rfl | (simp;done) | (simp [PV.nilD,PV.ren,rn];omega)) (by repeat' first | constructor | (congr 1;first | (simp;done) | (simp;omega) | omega)) (.nil) (.cons rfl<|.cons rfl<|.cons rfl<|.nil) (by repeat' first | constructor | (congr 1;first | (simp;done) | (simp;omega) | omega)) rfl rfl rfl rfl rfl rfl (.inr ⟨_,_,_,rfl,rfl,rfl⟩) rfl ?_;refine PQe.stepP (fun _ he ho=>lA (ps:=[_,_]) Tryz.isAgg60 Tryz.sizeOf60 (he rfl rfl) (ho rfl rfl) rfl rfl) (.inr ⟨_,_,_,rfl,rfl,rfl⟩) rfl ?_;refine PQe.stepP (fun _ he ho=>fR Tryz.underlying90 rfl Tryz.sizeOf34 (by decide) rfl (he rfl rfl)) (.inr ⟨_,_,_,rfl,rfl,rfl⟩) rfl ?_;refine PQe.stepP (fun _ he ho=>fR Tryz.underlying34 rfl Tryz.sizeOf29 (by decide) rfl (he rfl rfl)) (.inr ⟨_,_,_,rfl,rfl,rfl⟩) rfl ?_;refine PQe.stepP (fun _ he ho=>lD Tryz.isAgg29 (he rfl rfl) (ho rfl rfl) rfl) (.inr ⟨_,_,_,rfl,rfl,rfl⟩) rfl ?_;replace h:=iDet h;obtain ⟨v237,hy238,h⟩:=h;refine PQe.stepP (fun _ he ho=>cN (PRow.fun (r18_Of_ok (⟨x176,x177⟩:R18Book) x173.event.cid v237 hy238)) (he rfl rfl) Tryz.call68 (evsE he rfl rfl) rfl rfl rfl) (.inr ⟨_,_,_,rfl,rfl,rfl⟩) rfl ?_;replace h:=iDet h;obtain ⟨v239,hy240,h⟩:=h;refine PQe.stepP (fun _ he ho=>cN (r13_All_ok y235 v237 v239 hy240) (he rfl rfl) Tryz.call26 (evsE he rfl rfl) rfl rfl rfl) (.inr ⟨_,_,_,rfl,rfl,rfl⟩) rfl ?_;refine PQe.stepP (fun _ he ho=>LR.not (he rfl rfl)) (.inr ⟨_,_,_,rfl,rfl,rfl⟩) rfl ?_;refine PQe.stepP (fun _ he ho=>pF (he rfl rfl) (he rfl rfl)) (.inl rfl) rfl<|PQe.nil ?_;exact ⟨(!v239),(),h,sP⟩
     ·rintro v230 _ h;refine wC rfl (fun hc241=>?_) (fun hc241=>?_)
      ·replace h:=iT hc241 h;refine wQ<|wR<|wa ?_;refine wN<|wX ?_;replace h:_ = r0:=h;subst h;exact ⟨.inr rfl,_,.cons (.tmp rfl rfl)<|.nil,rfl⟩
      ·replace h:=iF hc241 h;refine wK<|wR<|wm ?_;refine wS (LR.addW rfl rfl) rfl<|wa ?_;refine wN ?_;exact ⟨((IntKind.i64.wrap (i164 + 1)),x176,x177,v178,nl179,v180,nl181,v182),(),h,sP⟩
   ·replace h:=iF hc172 h;refine wZ ?_;exact ⟨(x165,x166,v167,nl168,v169,nl170,v171),(),h,sP⟩
  ·rintro ⟨x9,x10,v11,nl12,v13,nl14,v15⟩ _ h;refine wQ ?_;refine wJ (iBind h) (fun (v242:Bool) (_:Unit)=>⟨166,[(2,.d (.v (.bool v242)))],[]⟩) (fun h=>?_) ?_
   ·refine wR<|wm ?_;refine wS (lA (ps:=[_,_]) Tryz.isAgg60 Tryz.sizeOf60 rfl rfl rfl rfl) rfl ?_;replace h:=iDet h;obtain ⟨y243,hy244,h⟩:=h;refine wS (LR.callObjS [(100,23),(101,20461),(102,20462)] [] [100,101,102] [] [(100,.cells 109 [.d (.sl (List.map TPart.e v11)),.mp 101,.mp 102]),(101,.mapH nl14 [.u16,.u64] true (encM TDot.k TEvent.e v15)),(102,.mapH nl12 [.u16,.u64] true (encM TDot.k TEvent.e v13))] (l18_Is_o_ok (⟨x9,x10⟩:R18Book) v11 nl14 v15 nl12 v13 y243 hy244) hK rfl Tryz.call66 rfl (by first | rfl | (simp;done) | (simp [PV.nilD,PV.ren,rn];omega)) (by repeat' first | constructor | (congr 1;first | (simp;done) | (simp;omega) | omega)) (.nil) (.cons rfl<|.cons rfl<|.cons rfl<|.nil) (by repeat' first | constructor | (congr 1;first | (simp;done) | (simp;omega) | omega)) rfl rfl rfl rfl rfl rfl) rfl ?_;refine wS (eQ rfl rfl) rfl<|wm ?_;refine wL (d:=163) rfl (fun hg245=>?_) (fun hg245=>?_)
    ·replace h:=iT hg245 h;replace h:=iDet h;obtain ⟨v246,hy247,h⟩:=h;refine wT (cN (l18_works_ok v246 hy247) rfl Tryz.call17 rfl rfl rfl rfl) rfl rfl rfl<|wS (pT rfl rfl) rfl<|wa ?_;refine wN ?_;exact ⟨v246,(),h,sP⟩
    ·replace h:=iF hg245 h;refine wf<|wS (pF rfl rfl) rfl<|wa ?_;refine wN ?_;exact ⟨false,(),h,sP⟩
   ·rintro v242 _ h;refine wX ?_;replace h:_ = r0:=h;subst h;exact ⟨.inr rfl,_,.cons (.tmp rfl rfl)<|.nil,rfl⟩
end Go.Proofs

namespace Go.Ep
open Go

theorem wI64 {n:Int} (h:-9223372036854775808 ≤ n) (h':n ≤ 9223372036854775807):IntKind.i64.wrap n = n:=by simp [IntKind.wrap,IntKind.bits,IntKind.signed];omega
theorem wU64 {n:Int} (h:0 ≤ n) (h':n ≤ 18446744073709551615):IntKind.u64.wrap n = n:=by simp [IntKind.wrap,IntKind.bits,IntKind.signed];omega
theorem wU16 {n:Int} (h:0 ≤ n) (h':n ≤ 65535):IntKind.u16.wrap n = n:=by simp [IntKind.wrap,IntKind.bits,IntKind.signed];omega
theorem wU8 {n:Int} (h:0 ≤ n) (h':n ≤ 255):IntKind.u8.wrap n = n:=by simp [IntKind.wrap,IntKind.bits,IntKind.signed];omega
theorem wSucc {i:Nat} (h:i < 9223372036854775807):IntKind.i64.wrap ((i:Int) + 1) = ((i + 1:Nat):Int):=by rw [wI64 (by omega) (by omega)];rfl
namespace M
variable {α β σ ρ τ ε:Type}
theorem cond_dec (p:Prop) [Decidable p] (x y:M α):cond (decide p) x y = if p then x else y:=by by_cases h:p <;> simp [h]
theorem loopL {body:σ → M (Step σ ρ)} (l:List ε) (mk:Nat → τ → σ) (f:τ → ε → τ) (g:τ → M ρ)
  (I:Nat → τ → Prop) (h1:∀ (i:Nat) (x:ε) (t:τ),l[i]? = some x → i < l.length → I i t → body (mk i t) = pure (.next (mk (i + 1) (f t x))) ∧ I (i + 1) (f t x))
  (h2:∀ t,I l.length t → body (mk l.length t) = (g t).bind fun r=>pure (.done r)) (t0:τ) (h0:I 0 t0):loop body (mk 0 t0) = g (l.foldl f t0):=by
 have key:∀ k i t,i + k = l.length → I i t → loop body (mk i t) = g ((l.drop i).foldl f t):=by
  intro k
  induction k with
  | zero=>
   intro i t hi hI;have:i = l.length:=by omega
   subst this;rw [loop_eq,h2 t hI,List.drop_length]
   rfl
  | succ k ih=>
   intro i t hi hI;have hlt:i < l.length:=by omega
   obtain ⟨h3,h4⟩:=h1 i l[i] t (List.getElem?_eq_getElem hlt) hlt hI;rw [loop_next h3,ih (i + 1) _ (by omega) h4,List.drop_eq_getElem_cons hlt]
   rfl
 simpa using key l.length 0 t0 (by omega) h0
theorem loopF {body:σ → M (Step σ ρ)} (l:List ε) (mk:Nat → σ) (p:Nat → ε → Bool) (r:Nat → ε → ρ) (d:M ρ)
  (h1:∀ (i:Nat) (x:ε),l[i]? = some x → i < l.length → body (mk i) = if p i x then pure (.done (r i x)) else pure (.next (mk (i + 1))))
  (h2:body (mk l.length) = d.bind fun r=>pure (.done r)):loop body (mk 0) = match (l.zipIdx).find? (fun y=>p y.2 y.1) with | some y=>pure (r y.2 y.1) | none=>d:=by
 have key:∀ k i,i + k = l.length → loop body (mk i) = match ((l.drop i).zipIdx i).find? (fun y=>p y.2 y.1) with | some y=>pure (r y.2 y.1) | none=>d:=by
  intro k
  induction k with
  | zero=>
   intro i hi;have:i = l.length:=by omega
   subst this;rw [loop_eq,h2,List.drop_length]
   rfl
  | succ k ih=>
   intro i hi;have hlt:i < l.length:=by omega
   have h3:=h1 i l[i] (List.getElem?_eq_getElem hlt) hlt;rw [List.drop_eq_getElem_cons hlt,List.zipIdx_cons,List.find?_cons]
   by_cases hp:p i l[i] = true
   ·rw [if_pos hp] at h3;rw [loop_done h3];simp [hp]
   ·rw [if_neg hp] at h3;rw [loop_next h3,ih (i + 1) (by omega)];simp [hp]
 simpa using key l.length 0 (by omega)
theorem loopAll {body:σ → M (Step σ ρ)} (l:List ε) (mk:Nat → σ) (p:Nat → ε → Bool) (r1 r2:ρ)
  (h1:∀ (i:Nat) (x:ε),l[i]? = some x → i < l.length → body (mk i) = if p i x then pure (.next (mk (i + 1))) else pure (.done r2))
  (h2:body (mk l.length) = pure (.done r1)):loop body (mk 0) = pure (if l.zipIdx.all (fun y=>p y.2 y.1) then r1 else r2):=by
 have key:∀ k i,i + k = l.length → loop body (mk i) = pure (if ((l.drop i).zipIdx i).all (fun y=>p y.2 y.1) then r1 else r2):=by
  intro k
  induction k with
  | zero=>
   intro i hi;have:i = l.length:=by omega
   subst this;rw [loop_done h2,List.drop_length]
   rfl
  | succ k ih=>
   intro i hi;have hlt:i < l.length:=by omega
   have h3:=h1 i l[i] (List.getElem?_eq_getElem hlt) hlt;rw [List.drop_eq_getElem_cons hlt,List.zipIdx_cons,List.all_cons]
   by_cases hp:p i l[i] = true
   ·rw [if_pos hp] at h3;rw [loop_next h3,ih (i + 1) (by omega),hp,Bool.true_and]
   ·rw [if_neg hp] at h3;rw [loop_done h3];simp [hp]
 have:=key l.length 0 (by omega);rw [List.drop_zero] at this;exact this

def came {ε:Type} (m:List ε) (L:List Nat):List ε:=L.filterMap fun i=>m[i]?
theorem came_snoc {m:List ε} {L:List Nat} {i:Nat} {y:ε} (h:m[i]? = some y):came m (L ++ [i]) = came m L ++ [y]:=by simp [came,h]
theorem all_perm {n:Nat} {L:List Nat} (hn:L.Nodup) (hb:∀ i ∈ L,i < n) (ha:∀ i,i < n → i ∈ L):L.Perm (List.range n):=by
 refine (List.perm_ext_iff_of_nodup hn List.nodup_range).2 fun i=>?_
 rw [List.mem_range];exact ⟨hb i,ha i⟩
theorem came_perm {m:List ε} {L:List Nat} (hn:L.Nodup) (hb:∀ i ∈ L,i < m.length) (ha:∀ i,i < m.length → i ∈ L):(came m L).Perm m:=by
 have h1:=(all_perm hn hb ha).filterMap fun i=>m[i]?
 have h2:(List.range m.length).filterMap (fun i=>m[i]?) = m:=by
  apply List.ext_getElem?;intro i;clear h1 hn hb ha;have:(List.range m.length).filterMap (fun i=>m[i]?) = m:=by
   induction m with
   | nil=>rfl
   | cons x r ih=>
    rw [List.length_cons,List.range_succ_eq_map,List.filterMap_cons];simp only [List.getElem?_cons_zero,List.filterMap_map]
    congr 1
  rw [this]
 rw [h2] at h1;exact h1
theorem nodup_len {n:Nat} {L:List Nat} (hn:L.Nodup) (hb:∀ i ∈ L,i < n):L.length ≤ n:=by
 have:=List.Nodup.length_le_of_subset hn (l₂:=List.range n) (fun i hi=>List.mem_range.2 (hb i hi));simpa using this

theorem full {n:Nat} {L:List Nat} (hn:L.Nodup) (hb:∀ i ∈ L,i < n) (hl:n ≤ L.length):∀ i,i < n → i ∈ L:=by
 intro i hi;refine Classical.byContradiction fun hni=>?_
 have:=nodup_len (n:=n) (L:=i :: L) (List.nodup_cons.2 ⟨hni,hn⟩) (fun j hj=>by
  rcases List.mem_cons.1 hj with rfl | hj
  ·exact hi
  ·exact hb j hj)
 simp at this;omega
theorem loopM {body:σ → M (Step σ ρ)} (m:List ε) (mk:List Nat → τ → σ) (f:τ → ε → M τ) (g:τ → M ρ) (I:List ε → τ → Prop) (Q:ρ → Prop)
  (hb:∀ L t,(∀ i ∈ L,i < m.length) → body (mk L t) = need (∀ i ∈ L,i < m.length) ((nxt m.length L).bind fun o=>match o with
   | none=>(g t).bind fun r=>pure (.done r)
   | some i=>(idx m (Int.ofNat i)).bind fun y=>(f t y).bind fun t'=>pure (.next (mk (L ++ [i]) t'))))
  (hs:∀ l t y,I l t → l.length < m.length → y ∈ m → ∃ t',f t y = pure t' ∧ I (l ++ [y]) t') (he:∀ l t,l.Perm m → I l t → (g t).wp Q) (t0:τ) (h0:I [] t0):(loop body (mk [] t0)).wp Q:=by
 have key:∀ k L t,L.length + k = m.length → L.Nodup → (∀ i ∈ L,i < m.length) → I (came m L) t → loopP body Q (mk L t):=by
  intro k
  induction k with
  | zero=>
   intro L t hk hn hlt hI;refine loopP_in ?_;rw [hb L t hlt];have hall:∀ i,i < m.length → i ∈ L:=fun i hi=>full hn hlt (by omega) i hi
   refine ⟨hlt,⟨⟨none,hall⟩,fun o ho=>?_⟩⟩
   cases o with
   | none=>
    have:=he _ t (came_perm hn hlt hall) hI;exact this
   | some i=>exact absurd (hall i ho.1) ho.2
  | succ k ih=>
   intro L t hk hn hlt hI;refine loopP_in ?_;rw [hb L t hlt];have hex:∃ i,i < m.length ∧ i ∉ L:=by
    refine Classical.byContradiction fun hno=>?_
    have hall:∀ i,i < m.length → i ∈ L:=fun i hi=>Classical.byContradiction fun h=>hno ⟨i,hi,h⟩
    have:=(all_perm hn hlt hall).length_eq;simp at this;omega
   obtain ⟨i0,hi0⟩:=hex;refine ⟨hlt,⟨⟨some i0,hi0⟩,fun o ho=>?_⟩⟩
   cases o with
   | none=>exact absurd (ho i0 hi0.1) hi0.2
   | some i=>
    have hi:=List.getElem?_eq_getElem ho.1;obtain ⟨t',h1,h2⟩:=hs (came m L) t m[i] hI (by have:=List.length_filterMap_le (fun i=>m[i]?) L;unfold came;omega) (List.getElem_mem ho.1);show ((idx m (Int.ofNat i)).bind _).wp _;rw [show (Int.ofNat i) = (i:Int) from rfl,idx_nat hi,pure_bind,h1,pure_bind];refine ih (L ++ [i]) t' (by simp;omega) ?_ ?_ (by rw [came_snoc hi];exact h2)
    ·rw [List.nodup_append];refine ⟨hn,by simp,fun a ha b hb'=>?_⟩;rw [List.mem_singleton.1 hb'];intro e;exact ho.2 (e ▸ ha)
    ·intro j hj;rcases List.mem_append.1 hj with hj | hj
     ·exact hlt j hj
     ·rw [List.mem_singleton.1 hj];exact ho.1
 exact key m.length [] t0 (by simp) List.nodup_nil (by simp) h0

end M

namespace AL
variable {κ ν:Type} [DecidableEq κ]
theorem get_set (m:List (κ × ν)) (k q:κ) (v:ν):get (set m k v) q = if k = q then some v else get m q:=by
 induction m with
 | nil=>simp [set,get]
 | cons x r ih=>
  obtain ⟨a,u⟩:=x
  by_cases h:a = k
  ·subst h;simp only [set,if_true,get];split <;> rfl
  ·simp only [set,h,if_false,get,ih]
   by_cases h2:a = q
   ·subst h2;simp [Ne.symm h]
   ·simp [h2]
theorem getZ_set (m:List (κ × ν)) (k q:κ) (v z:ν):getZ (set m k v) q z = if k = q then v else getZ m q z:=by
 unfold getZ;rw [get_set];split <;> rfl
theorem keys_set (m:List (κ × ν)) (k:κ) (v:ν):(set m k v).map (·.1) = if k ∈ m.map (·.1) then m.map (·.1) else m.map (·.1) ++ [k]:=by
 induction m with
 | nil=>simp [set]
 | cons x r ih=>
  obtain ⟨a,u⟩:=x
  by_cases h:a = k
  ·subst h;simp [set]
  ·simp only [set,h,if_false,List.map_cons,ih,List.mem_cons,Ne.symm h,false_or]
   split <;> simp
theorem nodup_set {m:List (κ × ν)} (h:(m.map (·.1)).Nodup) (k:κ) (v:ν):((set m k v).map (·.1)).Nodup:=by
 rw [keys_set]
 split
 ·exact h
 ·rename_i hk
  rw [List.nodup_append];refine ⟨h,by simp,fun a ha b hb=>?_⟩;rw [List.mem_singleton.1 hb];intro e;exact hk (e ▸ ha)
theorem get_mem {m:List (κ × ν)} {k:κ} {v:ν} (h:get m k = some v):(k,v) ∈ m:=by
 induction m with
 | nil=>simp [get] at h
 | cons x r ih=>
  obtain ⟨a,u⟩:=x
  by_cases e:a = k
  ·subst e;simp [get] at h;subst h;simp
  ·simp only [get,e,if_false] at h;exact List.mem_cons_of_mem _ (ih h)
theorem mem_get {m:List (κ × ν)} (hn:(m.map (·.1)).Nodup) {k:κ} {v:ν} (h:(k,v) ∈ m):get m k = some v:=by
 induction m with
 | nil=>simp at h
 | cons x r ih=>
  obtain ⟨a,u⟩:=x;simp only [List.map_cons,List.nodup_cons] at hn;rcases List.mem_cons.1 h with e | h
  ·cases e;simp [get]
  ·have:a ≠ k:=fun e=>hn.1 (e ▸ List.mem_map.2 ⟨(k,v),h,rfl⟩)
   simp only [get,this,if_false];exact ih hn.2 h
theorem len_set (m:List (κ × ν)) (k:κ) (v:ν):(set m k v).length ≤ m.length + 1:=by
 induction m with
 | nil=>simp [set]
 | cons x r ih=>
  obtain ⟨a,u⟩:=x;unfold set
  split
  ·simp
  ·simpa using ih
end AL
end Go.Ep

namespace Go.Ep.M.V
open Go

def goodD (d:TDot):Bool:=decide (1 ≤ d.dev) && (decide (1 ≤ d.n) && decide (d.n ≤ 281474976710655))
theorem goodD_iff {d:TDot}:goodD d = true ↔ 1 ≤ d.dev ∧ 1 ≤ d.n ∧ d.n ≤ 281474976710655:=by simp [goodD]
theorem dot_Good_eq (d:TDot):dot_Good d = pure (goodD d):=by
 unfold dot_Good;rw [cond_pure_and,cond_pure_and,pure_bind];refine congrArg pure ?_;rw [Bool.eq_iff_iff,goodD_iff];simp only [Bool.and_eq_true,decide_eq_true_eq];omega
theorem r07_Good_eq (d:TDot):r07_Good d = pure (goodD d):=by
 unfold r07_Good;rw [cond_pure_and,cond_pure_and,pure_bind];refine congrArg pure ?_;rw [Bool.eq_iff_iff,goodD_iff];simp only [Bool.and_eq_true,decide_eq_true_eq];omega
theorem r07_Same_eq (a b:List TDot) (h:a.length ≤ 1000000000000):r07_Same a b = pure (decide (a = b)):=by
 unfold r07_Same
 by_cases hl:(a.length:Int) = b.length
 ·simp only [hl,decide_true,Bool.not_true,cond_false];have:=loopAll (body:=r07_Same_l0 a b) a (fun i=>(i:Int)) (fun i x=>decide (b[i]? = some x)) (.brk ()) (.ret false) (fun i x hx hi=>by
   have hb:i < b.length:=by omega
   unfold r07_Same_l0;rw [idx_nat hx,idx_nat (List.getElem?_eq_getElem hb),wSucc (by omega)];simp only [pure_bind,List.getElem?_eq_getElem hb,Option.some.injEq];have:decide ((i:Int) < (a.length:Int)) = true:=by simpa using hi
   rw [this,cond_true]
   by_cases he:b[i] = x
   ·subst he;simp
   ·rw [if_neg (by simpa using he)];have:(decide (x.dev = b[i].dev) && decide (x.n = b[i].n)) = false:=by
     rw [Bool.eq_false_iff];intro hc;simp at hc;apply he
     cases x;cases hh:b[i];simp_all
    rw [this];rfl) (by
   unfold r07_Same_l0;simp)
  rw [show (0:Int) = ((0:Nat):Int) from rfl,this]
  by_cases he:a = b
  ·subst he;rw [if_pos]
   ·simp [pure_bind,exk_brk]
   ·rw [List.all_eq_true];intro ⟨x,i⟩ hx;rw [List.mk_mem_zipIdx_iff_getElem?] at hx;simpa using hx
  ·rw [if_neg]
   ·simp [he,pure_bind,exk_ret]
   ·intro hall;rw [List.all_eq_true] at hall;apply he;apply List.ext_getElem (by omega);intro i h1 h2;have:=hall (a[i],i) (by rw [List.mk_mem_zipIdx_iff_getElem?];exact List.getElem?_eq_getElem h1);simp [h2] at this;exact this.symm
 ·have hne:a ≠ b:=fun e=>hl (by rw [e])
  simp [hl,hne]

def ofV : List TDot → Int → Int
 | [],_=>0
 | d :: r,dev=>if d.dev = dev ∧ goodD d = true then max d.n (ofV r dev) else ofV r dev
theorem ofV_range (v:List TDot) (dev:Int):0 ≤ ofV v dev ∧ ofV v dev ≤ 281474976710655:=by
 induction v with
 | nil=>simp [ofV]
 | cons d r ih=>
  simp only [ofV]
  split
  ·rename_i h;have:=goodD_iff.1 h.2;omega
  ·exact ih
theorem ofV_pos {v:List TDot} {dev:Int}:0 < ofV v dev ↔ ∃ d ∈ v,d.dev = dev ∧ goodD d = true:=by
 induction v with
 | nil=>simp [ofV]
 | cons d r ih=>
  simp only [ofV,List.mem_cons,exists_eq_or_imp]
  split
  ·rename_i h
   have:=goodD_iff.1 h.2
   constructor
   ·intro _;exact .inl h
   ·intro _;omega
  ·rename_i h
   rw [ih]
   constructor
   ·exact .inr
   ·rintro (hh | hh)
    ·exact absurd hh h
    ·exact hh
def insI : List Int → Int → List Int
 | [],k=>[k]
 | a :: r,k=>if k < a then k :: a :: r else if k = a then a :: r else a :: insI r k
theorem mem_insI {l:List Int} {k q:Int}:q ∈ insI l k ↔ q = k ∨ q ∈ l:=by
 induction l with
 | nil=>simp [insI]
 | cons a r ih=>
  unfold insI
  split
  ·simp
  ·split
   ·rename_i h;subst h;simp
   ·simp only [List.mem_cons,ih];constructor
    ·rintro (h | h | h) <;> simp [h]
    ·rintro (h | h | h) <;> simp [h]
theorem insI_sorted {l:List Int} (h:l.Pairwise (· < ·)) (k:Int):(insI l k).Pairwise (· < ·):=by
 induction l with
 | nil=>simp [insI]
 | cons a r ih=>
  obtain ⟨h1,h2⟩:=List.pairwise_cons.1 h;unfold insI
  split
  ·rename_i hk
   refine List.pairwise_cons.2 ⟨fun x hx=>?_,h⟩;rcases List.mem_cons.1 hx with rfl | hx
   ·exact hk
   ·have:=h1 x hx;omega
  ·split
   ·exact h
   ·refine List.pairwise_cons.2 ⟨fun x hx=>?_,ih h2⟩;rcases mem_insI.1 hx with rfl | hx
    ·omega
    ·exact h1 x hx
theorem len_insI (l : List Int) (k : Int) : (insI l k).length ≤ l.length + 1 := by
  induction l with
  | nil => simp [insI]
  | cons a r ih => unfold insI; split <;> try split
                   all_goals simp_all
def devStep (l:List Int) (d:TDot):List Int:=if goodD d then insI l d.dev else l
def devsL (v:List TDot):List Int:=v.foldl devStep []
theorem devs_gen (v:List TDot):∀ l:List Int,l.Pairwise (· < ·) → (v.foldl devStep l).Pairwise (· < ·) ∧ (∀ k,k ∈ v.foldl devStep l ↔ k ∈ l ∨ ∃ d ∈ v,d.dev = k ∧ goodD d = true) ∧ (v.foldl devStep l).length ≤ l.length + v.length:=by
 induction v with
 | nil=>intro l h;simp [h]
 | cons d r ih=>
  intro l h;simp only [List.foldl_cons];unfold devStep
  split
  ·rename_i hg
   obtain ⟨h1,h2,h3⟩:=ih _ (insI_sorted h d.dev);refine ⟨h1,fun k=>?_,?_⟩
   ·have:=h2 k;unfold devStep at this;rw [this,mem_insI]
    constructor
    ·rintro ((rfl | h) | ⟨e,he,h⟩)
     ·exact .inr ⟨d,by simp,rfl,hg⟩
     ·exact .inl h
     ·exact .inr ⟨e,by simp [he],h⟩
    ·rintro (h | ⟨e,he,h⟩)
     ·exact .inl (.inr h)
     ·rcases List.mem_cons.1 he with rfl | he
      ·exact .inl (.inl h.1.symm)
      ·exact .inr ⟨e,he,h⟩
   ·have:=len_insI l d.dev;simp only [List.length_cons];unfold devStep at h3;omega
  ·rename_i hg
   obtain ⟨h1,h2,h3⟩:=ih _ h;refine ⟨h1,fun k=>?_,?_⟩
   ·have:=h2 k;unfold devStep at this;rw [this]
    constructor
    ·rintro (h | ⟨e,he,h⟩)
     ·exact .inl h
     ·exact .inr ⟨e,by simp [he],h⟩
    ·rintro (h | ⟨e,he,h⟩)
     ·exact .inl h
     ·rcases List.mem_cons.1 he with rfl | he
      ·exact absurd h.2 hg
      ·exact .inr ⟨e,he,h⟩
   ·simp only [List.length_cons];unfold devStep at h3;omega
theorem devs_sorted (v:List TDot):(devsL v).Pairwise (· < ·):=(devs_gen v [] List.Pairwise.nil).1
theorem mem_devs {v:List TDot} {k:Int}:k ∈ devsL v ↔ 0 < ofV v k:=by rw [ofV_pos];simpa [devsL] using (devs_gen v [] List.Pairwise.nil).2.1 k
theorem len_devs (v:List TDot):(devsL v).length ≤ v.length:=by simpa [devsL] using (devs_gen v [] List.Pairwise.nil).2.2
def toldStep (m:List (Int × Int)) (d:TDot):List (Int × Int):=if goodD d then AL.set m d.dev (max (AL.getZ m d.dev 0) d.n) else m
def toldM (v:List TDot):List (Int × Int):=v.foldl toldStep []
theorem told_gen (v:List TDot):∀ m:List (Int × Int),(m.map (·.1)).Nodup → ((v.foldl toldStep m).map (·.1)).Nodup ∧ ((∀ k,0 ≤ AL.getZ m k 0) → ∀ k,AL.getZ (v.foldl toldStep m) k 0 = max (AL.getZ m k 0) (ofV v k)) ∧ (v.foldl toldStep m).length ≤ m.length + v.length ∧ (∀ k,k ∈ (v.foldl toldStep m).map (·.1) → k ∈ m.map (·.1) ∨ 0 < ofV v k):=by
 induction v with
 | nil=>
  intro m h;refine ⟨h,fun h0 k=>?_,by simp,fun k hk=>.inl hk⟩;have:=h0 k;simp only [List.foldl_nil,ofV];omega
 | cons d r ih=>
  intro m h;simp only [List.foldl_cons]
  by_cases hg:goodD d = true
  ·have hd:=goodD_iff.1 hg;have e:toldStep m d = AL.set m d.dev (max (AL.getZ m d.dev 0) d.n):=by simp [toldStep,hg]
   rw [e];obtain ⟨h1,h2,h3,h4⟩:=ih _ (AL.nodup_set h d.dev (max (AL.getZ m d.dev 0) d.n));refine ⟨h1,fun h0 k=>?_,?_,fun k hk=>?_⟩
   ·rw [h2 (fun q=>by rw [AL.getZ_set];have:=h0 q;have:=h0 d.dev;split <;> omega),AL.getZ_set];simp only [ofV]
    by_cases hk:d.dev = k
    ·subst hk;simp only [if_true,hg,and_self];omega
    ·simp [hk]
   ·have:=AL.len_set m d.dev (max (AL.getZ m d.dev 0) d.n);simp only [List.length_cons];omega
   ·simp only [ofV];rcases h4 k hk with h5 | h5
    ·rw [AL.keys_set] at h5
     split at h5
     ·exact .inl h5
     ·rcases List.mem_append.1 h5 with h5 | h5
      ·exact .inl h5
      ·right
       rw [List.mem_singleton.1 h5,if_pos ⟨rfl,hg⟩];omega
    ·right;split <;> omega
  ·have e:toldStep m d = m:=by simp [toldStep,hg]
   rw [e];obtain ⟨h1,h2,h3,h4⟩:=ih m h;have e2:∀ k,ofV (d :: r) k = ofV r k:=fun k=>by simp only [ofV];rw [if_neg (fun hh=>hg hh.2)]
   exact ⟨h1,fun h0 k=>by rw [h2 h0,e2],by simp only [List.length_cons];omega,fun k hk=>by rw [e2];exact h4 k hk⟩
theorem told_nodup (v:List TDot):((toldM v).map (·.1)).Nodup:=(told_gen v [] (by simp)).1
theorem told_get (v:List TDot) (k:Int):AL.getZ (toldM v) k 0 = ofV v k:=by
 have:=(told_gen v [] (by simp)).2.1 (fun _=>Int.le_refl _) k;have h2:=ofV_range v k;rw [toldM,this];show max 0 (ofV v k) = _;omega
theorem told_len (v:List TDot):(toldM v).length ≤ v.length:=by simpa [toldM] using (told_gen v [] (by simp)).2.2.1
theorem told_mem {v:List TDot} {k n:Int} (h:(k,n) ∈ toldM v):n = ofV v k ∧ 0 < n:=by
 have h1:=AL.mem_get (told_nodup v) h;have h2:AL.getZ (toldM v) k 0 = n:=by simp [AL.getZ,h1]
 rw [told_get] at h2;have h3:=(told_gen v [] (by simp)).2.2.2 k (List.mem_map.2 ⟨_,h,rfl⟩);simp at h3;omega
theorem told_at {v:List TDot} {k:Int} (h:0 < ofV v k):(k,ofV v k) ∈ toldM v:=by
 have h1:AL.getZ (toldM v) k 0 = ofV v k:=told_get v k;unfold AL.getZ at h1
 cases hg:AL.get (toldM v) k with
 | none=>rw [hg] at h1;simp at h1;omega
 | some n=>rw [hg] at h1;simp at h1;subst h1;exact AL.get_mem hg

def cmpD (a b:TDot):Int:=if a = b then 0 else if ltDot a b then -1 else 1
theorem r07_Cmp_eq (a b:TDot):r07_Cmp a b = pure (cmpD a b):=by
 unfold r07_Cmp cmpD;have h1:(decide (a.dev = b.dev) && decide (a.n = b.n)) = decide (a = b):=by
  rw [Bool.eq_iff_iff];cases a;cases b;simp
 have h2:(cond (decide (a.dev < b.dev)) (pure true) (cond (decide (a.dev = b.dev)) (pure (decide (a.n < b.n))) (pure false)):M Bool) = pure (ltDot a b):=by
  rw [cond_pure_and,cond_pure_or];rfl
 rw [h1,h2,cond_dec,pure_bind]
 split
 ·rfl
 ·cases ltDot a b <;> rfl
theorem cmpD_neg {a b:TDot}:cmpD a b < 0 ↔ ltDot a b = true:=by
 unfold cmpD
 split
 ·rename_i h;subst h;simp [ltDot]
 ·split <;> simp_all
theorem cmpD_pos {a b:TDot}:0 < cmpD a b ↔ ltDot b a = true:=by
 unfold cmpD
 by_cases h:a = b
 ·subst h;simp [ltDot]
 ·rw [if_neg h]
  cases a;cases b
  simp only [TDot.mk.injEq] at h;simp only [ltDot,Bool.or_eq_true,Bool.and_eq_true,decide_eq_true_eq]
  split <;> omega
theorem r07_Put_eq (l:List TDot) (d:TDot) (h:l.length ≤ 1000000000000):r07_Put l d = pure ((l.filter fun x=>ltDot x d) ++ [d] ++ (l.filter fun x=>ltDot d x)):=by
 unfold r07_Put;have c0:∀ o:List TDot,o.length ≤ 1000000000000 → True:=fun _ _=>trivial
 have h1:=loopL (body:=r07_Put_l0 l d) l (fun i (o:List TDot)=>((i:Int),o)) (fun o x=>if ltDot x d then o ++ [x] else o) (fun o=>pure o) (fun i o=>o.length ≤ i) (fun i x o hx hi ho=>by
  have h1:decide ((i:Int) < (l.length:Int)) = true:=by simpa using hi
  unfold r07_Put_l0;simp only [h1,cond_true,idx_nat hx,pure_bind,r07_Cmp_eq,det_pure,wSucc (show i < 9223372036854775807 by omega),cond_dec,cmpD_neg]
  split
  ·rw [need_true (by simp;omega)];exact ⟨rfl,by simp;omega⟩
  ·exact ⟨rfl,by omega⟩) (fun o _=>by unfold r07_Put_l0;simp [pure_bind]) [] (by simp)
 have h2:∀ o0:List TDot,o0.length ≤ 1000000000001 → loop (r07_Put_l1 l d) (0,o0) = pure (l.foldl (fun o x=>if ltDot d x then o ++ [x] else o) o0):=fun o0 ho0=>by
  have:=loopL (body:=r07_Put_l1 l d) l (fun i (o:List TDot)=>((i:Int),o)) (fun o x=>if ltDot d x then o ++ [x] else o) (fun o=>pure o) (fun i o=>o.length ≤ o0.length + i) (fun i x o hx hi ho=>by
   have h1:decide ((i:Int) < (l.length:Int)) = true:=by simpa using hi
   unfold r07_Put_l1;simp only [h1,cond_true,idx_nat hx,pure_bind,r07_Cmp_eq,det_pure,wSucc (show i < 9223372036854775807 by omega),cond_dec,cmpD_pos]
   split
   ·rw [need_true (by simp;omega)];exact ⟨rfl,by simp;omega⟩
   ·exact ⟨rfl,by omega⟩) (fun o _=>by unfold r07_Put_l1;simp [pure_bind]) o0 (by simp)
  exact this
 have hf:∀ (p:TDot → Bool) (l o:List TDot),l.foldl (fun o x=>if p x then o ++ [x] else o) o = o ++ l.filter p:=by
  intro p l
  induction l with
  | nil=>simp
  | cons x r ih=>
   intro o;rw [List.foldl_cons,ih,List.filter_cons]
   split <;> simp
 rw [show ((0:Int),([]:List TDot)) = (((0:Nat):Int),[]) from rfl,h1,hf,pure_bind,need_true,h2,hf,pure_bind]
 ·rfl
 ·have:=List.length_filter_le (fun x=>ltDot x d) l;simp;omega
 ·have:=List.length_filter_le (fun x=>ltDot x d) l;simp;omega
def ones (l:List Int):List TDot:=l.map fun k=>⟨k,1⟩
theorem put_ones {l:List Int} (h:l.Pairwise (· < ·)) (k:Int):((ones l).filter fun x=>ltDot x ⟨k,1⟩) ++ [⟨k,1⟩] ++ ((ones l).filter fun x=>ltDot ⟨k,1⟩ x) = ones (insI l k):=by
 induction l with
 | nil=>rfl
 | cons a r ih=>
  obtain ⟨h1,h2⟩:=List.pairwise_cons.1 h;have i2:=ih h2;unfold insI
  by_cases c1:k < a
  ·rw [if_pos c1];have e1:(ones (a :: r)).filter (fun x=>ltDot x ⟨k,1⟩) = []:=by
    rw [List.filter_eq_nil_iff];intro x hx;simp only [ones,List.map_cons,List.mem_cons,List.mem_map] at hx;rcases hx with rfl | ⟨b,hb,rfl⟩
    ·simp [ltDot];omega
    ·have:=h1 b hb;simp [ltDot];omega
   have e2:(ones (a :: r)).filter (fun x=>ltDot ⟨k,1⟩ x) = ones (a :: r):=by
    rw [List.filter_eq_self];intro x hx;simp only [ones,List.map_cons,List.mem_cons,List.mem_map] at hx;rcases hx with rfl | ⟨b,hb,rfl⟩
    ·simp [ltDot];omega
    ·have:=h1 b hb;simp [ltDot];omega
   rw [e1,e2];rfl
  ·rw [if_neg c1]
   by_cases c2:k = a
   ·subst c2;rw [if_pos rfl];have e1:(ones (k :: r)).filter (fun x=>ltDot x ⟨k,1⟩) = []:=by
     rw [List.filter_eq_nil_iff];intro x hx;simp only [ones,List.map_cons,List.mem_cons,List.mem_map] at hx;rcases hx with rfl | ⟨b,hb,rfl⟩
     ·simp [ltDot]
     ·have:=h1 b hb;simp [ltDot];omega
    have e2:(ones (k :: r)).filter (fun x=>ltDot ⟨k,1⟩ x) = ones r:=by
     show List.filter _ (⟨k,1⟩ :: ones r) = _;rw [List.filter_cons,if_neg (by simp [ltDot]),List.filter_eq_self];intro x hx;simp only [ones,List.mem_map] at hx;obtain ⟨b,hb,rfl⟩:=hx;have:=h1 b hb;simp [ltDot];omega
    rw [e1,e2];rfl
   ·rw [if_neg c2];show (List.filter _ (⟨a,1⟩ :: ones r)) ++ _ ++ (List.filter _ (⟨a,1⟩ :: ones r)) = ⟨a,1⟩ :: ones (insI r k);rw [List.filter_cons,if_pos (by simp [ltDot];omega),List.filter_cons,if_neg (by simp [ltDot];omega),← i2]
    rfl
theorem equal_eq (a b:List TDot) (h:a.length ≤ 1000000000000):slices_Equal_sl_Dot_Dot a b = pure (decide (a = b)):=by
 have e:slices_Equal_sl_Dot_Dot a b = r07_Same a b:=rfl;rw [e,r07_Same_eq a b h]
theorem dot_Same_eq (a b:List TDot) (h:a.length ≤ 1000000000000):dot_Same a b = pure (decide (a = b)):=by
 unfold dot_Same;rw [equal_eq a b h,det_pure,pure_bind]
end Go.Ep.M.V


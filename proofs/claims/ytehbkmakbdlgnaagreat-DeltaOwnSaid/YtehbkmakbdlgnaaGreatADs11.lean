/- Side texts. -/
import Derived.Test.YtehbkmakbdlgnaaGreatADs3
import Derived.Test.YtehbkmakbdlgnaaGreatADs4
import Derived.Test.YtehbkmakbdlgnaaGreatADs5
import Derived.Test.YtehbkmakbdlgnaaGreatADs6
import Derived.Test.YtehbkmakbdlgnaaGreatADs7
import Derived.Test.YtehbkmakbdlgnaaGreatADs8
import Derived.Test.YtehbkmakbdlgnaaGreatADs9
import Derived.Test.YtehbkmakbdlgnaaGreatADs10
set_option linter.unusedVariables false
set_option linter.unusedSimpArgs false
namespace Go.Proofs
open Go.Ep Tryz
set_option maxHeartbeats 1000000
set_option maxRecDepth 100000
set_option linter.unusedVariables false
set_option linter.unusedSimpArgs false
theorem yta{a1 b2 r0}(h:(Uy a1 b2).wp (·=r0)):PFun prog 17 [.agg (List.map .d (DL.e a1)),.agg (List.map .d (DL.e b2))] (.d (.v (.bool r0))):=by
 refine yB [0,1] func17 ntmps17 ?_;intro ctx hK;refine zm ?_;refine yN (zK h) 24 [] [] (fun v3=>([(4,.d (.v (.bool v3)))],[])) (fun h=>?_) ?_
 ·refine zF ?_;obtain⟨v4,hy5,h⟩:=zP h;refine xN (jv hy5) call48 ?_;refine g5 ?_;refine yH 10 h (fun h=>?_) fun h=>?_
  ·refine zH ?_;obtain⟨v7,hy8,h⟩:=zP h;refine wt (cN (jv hy8) rfl call48 rfl rfl rfl rfl) ?_;refine zC ?_;refine yH 17 h (fun h=>?_) fun h=>?_
   ·refine g5 ?_;refine yL [3,4,17,18] [2,3] ?_;refine zL ?_;obtain⟨v10,hy11,h⟩:=zP h;refine wt (cN (WI hy11) rfl call49 rfl rfl rfl rfl) ?_;refine zL ?_;exact⟨v10,(),h,sP⟩
   ·refine g5 ?_;refine yL [3,4,17,18] [3] ?_;refine zm ?_;exact⟨false,(),h,sP⟩
  ·refine xV ?_;refine yL [3,4,17,19] [3] ?_;refine zV ?_;exact⟨false,(),h,sP⟩
 ·rintro v3 _ h;refine wX ?_;cases h;exact xT
theorem yua{a1 b2 r0}(h:(Uz a1 b2).wp (·=r0)):PRow prog 50 [zZ PT.e a1,zZ PT.e b2] 62 2 (List.map PT.e r0):=by
 refine PRow.intro (sl:=[(0,_),(1,_)]) func50 rfl ntmps50 rfl rfl ?_;intro ctx hK;refine zC ?_;refine ws (aR 62 2 rfl) ?_;refine zF ?_;obtain⟨v3,hy4,h⟩:=zP h;refine ws (LR.rowN (UQ hy4) rfl call36 rfl rfl rfl rfl)<|yL [0,1,5,6,7] [7] ?_;refine zC ?_;refine wX ?_;cases h;exact⟨.inr rfl,4,rfl,.inr ⟨7,_,rfl,(by simp),rfl⟩⟩
theorem zta{b1 from2 r0}(h:(Vg b1 from2).wp (·=r0)):PFun prog 18 [.agg (List.map .d (RB.e b1)),zZ PT.e from2] (.agg (List.map .d (DL.e r0))):=by
 refine yB [0,1] func18 ntmps18 ?_;intro ctx hK;refine zV ?_;refine uU [1,2,4] [2,4] ?_;refine PWc.regionE [{ws:=[7]},zt [8] [2],⟨[9],[],[2],[],[],[],[],[]⟩,{ws:=[10]},zt [11] [2],⟨[12],[],[2],[],[],[],[],[]⟩,{ws:=[13]},{ws:=[14]},⟨[5],[5],[],[5],[],[5],[],[]⟩,⟨[],[5],[5],[],[],[],[],[]⟩] (by kernel_rfl) (by kernel_rfl) rfl ?_;refine yU ?_;obtain⟨v3,hy4,h⟩:=zP h;refine kp (fun _ U W=>cN (PRow.fun (yua hy4)) U call50 (xY (fun a b=>U a b) rfl rfl) rfl rfl rfl) ?_;refine zy ?_;obtain⟨v5,hy6,h⟩:=zP h;refine kp (fun _ U W=>cN (PRow.fun (ZP hy6)) U call9 (xY (fun a b=>U a b) rfl rfl) rfl rfl rfl) ?_;refine kp (fun _ U W=>LR.build (ns:=[_,_,_]) jb rfl (w4a (fun a b=>U a b) rfl rfl) rfl) ?_;refine PQe.stepN (fun _ U W hf=>LR.allocZ (cs:=[_,_,_]) zeroValue38 rfl rfl rfl hf) rfl (.inl rfl) rfl ?_;refine ks (fun _ U W=>sB (ns:=[_,_,_]) sizeOf38 U U rfl rfl (W rfl rfl) rfl rfl)<|PQe.nil ?_;refine zF ?_;refine yN (zK h) 44 [4,5] [4] (fun d7=>([],[(5,.cells 38 [zZ PT.e v3,zZ PT.e v5,zZ EV.e d7])])) (fun h=>?_) ?_
 ·refine g5 ?_;refine zc h 44 [1,2,4,5] [2,4] (fun⟨i_32,d33⟩=>([(6,zJ .i64 i_32)],[(5,.cells 38 [zZ PT.e v3,zZ PT.e v5,zZ EV.e d33])])) ?_;rintro N ⟨i_32,d33⟩ _ h;refine xV ?_;refine zE h (fun h=>?_) fun h=>?_
  ·refine zC ?_;refine yN (zK h) 44 [1,2,4,5,6] [2,4] (fun d35=>([],[(5,.cells 38 [zZ PT.e v3,zZ PT.e v5,zZ EV.e d35])])) (fun h=>?_) ?_
   ·refine zm ?_;obtain⟨x36,hy37,h⟩:=yF h;refine yZ hy37 ?_;refine zC ?_;obtain⟨v38,hy39,h⟩:=zP h;refine xN (YK hy39) call51 ?_;refine zC ?_;refine zE h (fun h=>?_) fun h=>?_
    ·refine uU [1,2,4,5,6] [2,4,5] ?_;refine PWc.regionE [⟨[31],[31],[],[31],[],[31],[],[]⟩,zt [32] [5],⟨[33],[],[5],[],[],[],[],[]⟩,⟨[31,34],[31],[31],[],[(31,[31])],[31],[],[]⟩,zt [35] [2],⟨[36],[],[2],[],[],[],[],[]⟩,{ws:=[37]},{ws:=[38]},{ws:=[39]},{ws:=[40]},⟨[31,34,41],[31],[31],[],[(31,[31,34])],[],[],[]⟩,zt [42] [5],⟨[],[5],[5],[],[],[],[],[]⟩] (by kernel_rfl) (by kernel_rfl) rfl ?_;refine PQe.stepN (fun _ U W hf=>LR.buildSlice [] yh rfl rfl (.nil) (by decide) (by decide) hf) rfl (.inl rfl) rfl ?_;refine zy ?_;obtain⟨hy41,h⟩:=zq h;refine PQe.stepA [31] (fun _ U W ha=>LR.appT (enc:=EV.e) (L:=([]:List EV)) (R:=d33) [31] yh underlying28 (U rfl rfl) uc (W rfl rfl) (Src.slT (enc:=EV.e) (R:=d33) (U rfl rfl) (fun _=>rfl)) (fun _=>rfl) hy41 rfl ha) rfl (.inl rfl) rfl ?_;refine yU ?_;obtain⟨x42,hy43,h⟩:=yF h;refine kp (fun _ U W=>iX (enc:=EV.e) (L:=b1.l) (y:=x42) underlying28 sizeOf57 U U hy43 (fun _=>rfl)) ?_;refine h5 ?_;refine kp (fun _ U W=>LR.buildSliceD [.tmp 39] yh rfl rfl (.cons U rfl rfl<|.nil) (by decide) (by decide)) ?_;obtain⟨hy44,h⟩:=zq h;refine PQe.stepA [31,34] (fun _ U W ha=>LR.appTD (enc:=EV.e) (L:=(([]:List EV)++d33)) (R:=[x42]) [31,34] hK yh underlying28 (U rfl rfl) rfl (W rfl rfl) (Src.slT (enc:=EV.e) (R:=[x42]) (U rfl rfl) (fun _=>rfl)) (fun _=>rfl) hy44 rfl ha) rfl (.inl rfl) rfl ?_;refine h5 ?_;refine ks (fun _ U W=>sB (ns:=[_,_,_]) sizeOf28 U U rfl rfl (W rfl rfl) rfl rfl)<|PQe.nil ?_;exact⟨((([]:List EV)++d33)++[x42]),(),h,sP⟩
    ·refine g5 ?_;exact⟨d33,(),h,sP⟩
   ·rintro d35 _ h;refine zF ?_;exact⟨((IntKind.i64.wrap (i_32+1)),d35),(),h,sP⟩
  ·refine wZ ?_;exact⟨d33,(),h,sP⟩
 ·rintro d7 _ h;refine zF ?_;refine wX ?_;cases h;exact⟨.inr rfl,_,.cons (.agg isAgg38 sizeOf38 rfl rfl rfl rfl)<|.nil,rfl⟩
theorem zua{b1 r0}(h:(Vh b1).wp (·=r0)):PRow prog 55 [.agg (List.map .d (RB.e b1))] 57 7 (List.map EV.e r0):=by
 refine PRow.intro (sl:=[(0,_)]) func55 rfl ntmps55 rfl rfl ?_;intro ctx hK;refine zL ?_;refine ws (aR 57 7 rfl) ?_;refine zF ?_;obtain⟨v2,hy3,h⟩:=zP h;refine ws (LR.rowN (ju hy3) rfl call101 rfl rfl rfl rfl)<|yL [0,1,3,4,5] [1,5] ?_;refine zC ?_;refine wX ?_;cases h;exact⟨.inr rfl,2,rfl,.inr ⟨5,_,rfl,(by simp),rfl⟩⟩
theorem Ji{c1 l2 r0}(h:(xz c1 l2).wp (·=r0)):(match r0 with | .inl r0=>PObj prog 8 [zZ PT.e c1,zZ EV.e l2] [] [] (.tup [.d (.v (.pointer none)),zJ .i64 1]) (fun _:Unit=>[]) | .inr r0=>PObj prog 8 [zZ PT.e c1,zZ EV.e l2] [] [] (.tup [.ref 12 0,zJ .i64 0]) (fun _:Unit=>[(12,.cells 73 [zZ PT.e r0.1,.mp 30241,.mp 30242]),(30241,.mapH r0.2.1 [.u16,.u64] true (zO DT.k EV.e r0.2.2.1)),(30242,.mapH r0.2.2.2.1 [.u16,.u64] true (zO DT.k EV.e r0.2.2.2.2))])):=by
 cases r0 with
 | inl r0=>
  refine YV [0,1] func8 ntmps8 ?_;intro ctx hK pv;refine zl ?_;obtain⟨v3,hy4,h⟩:=zP h;refine ws (LR.rowN (vL hy4) rfl call28 rfl rfl rfl rfl)<|PWl.frz [10] hK (.cons rfl<|.nil) rfl (by simp) ?_;refine ws (LR.buildR (ns:=[_,_,_]) qw rfl rfl rfl) ?_;refine g5 ?_;refine PWl.sub (Sub.ownMap (id:=12) (j:=1) (id':=30241) (ks:=[.u16,.u64]) (ag:=true) (ck:=0) rfl rfl rfl rfl)<|PWl.sub (Sub.ownMap (id:=12) (j:=2) (id':=30242) (ks:=[.u16,.u64]) (ag:=true) (ck:=0) rfl rfl rfl rfl)<|yL [0,1,12] [12,30241,30242] ?_;refine xV ?_;refine vJ (zK h) 84 [0,1,6] [12] (fun⟨nl5,v6,nl7,v8⟩=>([],[(30241,.mapH nl7 [.u16,.u64] true (zO DT.k EV.e v8)),(30242,.mapH nl5 [.u16,.u64] true (zO DT.k EV.e v6))])) (fun h=>?_) ?_
  ·refine g5 ?_;refine zc h 84 [0,1,6,13,14] [12] (fun⟨v72,nl73,v74,nl75,v76⟩=>([(15,zJ .i64 v72)],[(30241,.mapH nl75 [.u16,.u64] true (zO DT.k EV.e v76)),(30242,.mapH nl73 [.u16,.u64] true (zO DT.k EV.e v74))])) ?_ (hs:=Sub.trans (Sub.nToH (id:=30241) rfl)<|Sub.trans (Sub.nToH (id:=30242) rfl)<|sP);rintro N ⟨v72,nl73,v74,nl75,v76⟩ _ h;refine zF ?_;refine wC rfl (fun hc77=>?_) (fun hc77=>?_)
   ·replace h:=iT hc77 h;refine zC ?_;refine vJ (zK h) 84 [0,1,6,13,14,15] [12] (fun⟨nl78,v79,nl80,v81⟩=>([],[(30241,.mapH nl80 [.u16,.u64] true (zO DT.k EV.e v81)),(30242,.mapH nl78 [.u16,.u64] true (zO DT.k EV.e v79))])) (fun h=>?_) ?_
    ·refine zH ?_;obtain⟨x82,hy83,h⟩:=yF h;refine yZ hy83 ?_;refine zm ?_;refine yN (zK h) 84 [0,1,6,8,13,14,15] [8,12,30241,30242] (fun v84=>([(49,.d (.v (.bool v84)))],[])) (fun h=>?_) ?_
     ·refine g5 ?_;refine h5 ?_;obtain⟨v85,hy86,h⟩:=zP h;refine qs (fun _ U W=>cN (vc hy86) U call29 (xY (fun a b=>U a b) rfl rfl) rfl rfl rfl) ?_;refine zy ?_;refine PQl.split (d:=23) rfl (fun hg87=>?_) (fun hg87=>?_)
      ·replace h:=iT hg87 h;refine xXa ?_;refine kkA6 [0,1,6,8,13,14,15,24,25,26,27,28,29,30,31,32,33,34,35,36,37,39,40,41,42,43] ?_;refine wNa ?_;exact⟨true,(),h,sP⟩
      ·replace h:=iF hg87 h;refine yU ?_;refine PQl.split (d:=26) rfl (fun hg88=>?_) (fun hg88=>?_)
       ·replace h:=iT hg88 h;refine yU ?_;obtain⟨x89,hy90,h⟩:=yF h;refine VP hy90 ?_;refine vV ?_;obtain⟨v91,hy92,h⟩:=zP h;refine qt (fun _ U W=>cN (WE hy92) U call30 (xY (fun a b=>U a b) rfl rfl) rfl rfl rfl) ?_;refine vV ?_;refine PQl.split (d:=39) rfl (fun hg93=>?_) (fun hg93=>?_)
        ·replace h:=iT hg93 h;refine zy ?_;refine kkA6 [0,1,6,8,13,14,15,24,25,26,27,28,29,30,31,32,33,34,35,36,37,39,40,41] ?_;refine hs9A6 ?_;exact⟨true,(),h,sP⟩
        ·replace h:=iF hg93 h;refine zy ?_;refine kkA6 [0,1,6,8,13,14,15,24,25,26,27,28,29,30,31,32,33,34,35,36,37,39,40,41] ?_;refine zy ?_;refine PQl.split (d:=43) rfl (fun hg94=>?_) (fun hg94=>?_)
         ·replace h:=iT hg94 h;refine yU ?_;obtain⟨v95,hy96,h⟩:=zP h;refine qt (fun _ U W=>cN (ve hy96) U call31 (xY (fun a b=>U a b) rfl rfl) rfl rfl rfl) ?_;refine yU ?_;exact⟨v95,(),h,sP⟩
         ·replace h:=iF hg94 h;refine wNa ?_;exact⟨false,(),h,sP⟩
       ·replace h:=iF hg88 h;refine hs16A6 ?_;refine kkA6 [0,1,6,8,13,14,15,24,25,26,27,28,29,30,31,32,33,34,35,36,37,39,40,41,42] ?_;refine h5 ?_;refine PQl.split (d:=43) rfl (fun hg97=>?_) (fun hg97=>?_)
        ·replace h:=iT hg97 h;refine yU ?_;obtain⟨v98,hy99,h⟩:=zP h;refine qt (fun _ U W=>cN (ve hy99) U call31 (xY (fun a b=>U a b) rfl rfl) rfl rfl rfl) ?_;refine yU ?_;exact⟨v98,(),h,sP⟩
        ·replace h:=iF hg97 h;refine wNa ?_;exact⟨false,(),h,sP⟩
     ·rintro v84 _ h;refine wC rfl (fun hc100=>?_) (fun hc100=>?_)
      ·replace h:=iT hc100 h;refine zF ?_;refine wX ?_;replace h:(Sum.inl _:Unit⊕(List PT×Bool×(List (DT×EV))×Bool×(List (DT×EV))))=Sum.inl r0:=h;replace h:=Sum.inl.inj h;subst h;exact Zp [4,5] []
      ·replace h:=iF hc100 h;refine zm ?_;refine wC rfl (fun hc101=>?_) (fun hc101=>?_)
       ·replace h:=iT hc101 h;refine uU [0,1,6,8,13,14,15] [8,12,30241,30242] ?_;refine PWc.regionE [zt [53] [12],zt [54] [12],zt [55] [12],zt [56] [12],⟨[57],[],[12],[],[],[30241],[],[]⟩,⟨[58],[],[8],[],[],[],[],[]⟩,⟨[57,59],[12,30241],[12,30241,30242],[],[(30241,[57])],[30241],[30242],[12,30241,30242]⟩,zt [60] [12],zt [61] [12],⟨[],[12],[12,30241],[],[],[],[30241,30242],[]⟩] (by kernel_rfl) (by kernel_rfl) rfl ?_;refine Wh ?_;obtain⟨y102,hy103,h⟩:=zP h;refine qx [(100,30241),(500,12),(501,30242)] [57] [100,500,501] [100,500] [501] (PObj.frame [(500,.cells 73 [zZ PT.e v3,.mp 100,.mp 501]),(501,.mapH nl73 [.u16,.u64] true (zO DT.k EV.e v74))] [(500,.cells 73 [zZ PT.e v3,.junk,.mp 501]),(501,.mapH nl73 [.u16,.u64] true (zO DT.k EV.e v74))] (wg hy103) (fun _=>rfl) (fun _=>rfl) rfl rfl (.cons (.cells (.keep rfl<|.junk<|.keep rfl<|.nil))<|.cons (.same rfl)<|.nil)) call32 ?_;refine zy ?_;refine ks (fun _ U W=>sB (ns:=[_,_,_]) sizeOf71 U U rfl rfl (W rfl rfl) rfl rfl)<|PQe.nil ?_;exact⟨(nl73,v74,y102.1,y102.2),(),h,sP⟩
       ·replace h:=iF hc101 h;refine uU [0,1,6,8,13,14,15] [8,12,30241,30242] ?_;refine PWc.regionE [zt [62] [12],zt [63] [12],zt [64] [12],zt [65] [12],⟨[66],[],[12],[],[],[30242],[],[]⟩,⟨[67],[],[8],[],[],[],[],[]⟩,⟨[66,68],[12,30242],[12,30241,30242],[],[(30242,[66])],[30242],[30241],[12,30241,30242]⟩,zt [69] [12],zt [70] [12],⟨[],[12],[12,30242],[],[],[],[30241,30242],[]⟩] (by kernel_rfl) (by kernel_rfl) rfl ?_;refine Wh ?_;obtain⟨y104,hy105,h⟩:=zP h;refine qx [(100,30242),(500,12),(501,30241)] [66] [100,500,501] [100,500] [501] (PObj.frame [(500,.cells 73 [zZ PT.e v3,.mp 501,.mp 100]),(501,.mapH nl75 [.u16,.u64] true (zO DT.k EV.e v76))] [(500,.cells 73 [zZ PT.e v3,.mp 501,.junk]),(501,.mapH nl75 [.u16,.u64] true (zO DT.k EV.e v76))] (wg hy105) (fun _=>rfl) (fun _=>rfl) rfl rfl (.cons (.cells (.keep rfl<|.keep rfl<|.junk<|.nil))<|.cons (.same rfl)<|.nil)) call32 ?_;refine zy ?_;refine ks (fun _ U W=>sB (ns:=[_,_,_]) sizeOf71 U U rfl rfl (W rfl rfl) rfl rfl)<|PQe.nil ?_;exact⟨(y104.1,y104.2,nl75,v76),(),h,sP⟩
    ·rintro⟨nl78,v79,nl80,v81⟩ _ h;refine zH ?_;exact⟨((IntKind.i64.wrap (v72+1)),nl78,v79,nl80,v81),(),h,sP⟩
   ·replace h:=iF hc77 h;refine wZ ?_;exact⟨(nl73,v74,nl75,v76),(),h,sP⟩
  ·rintro⟨nl5,v6,nl7,v8⟩ _ h;refine zC ?_;refine yN (zK h) 84 [6] [12,30241,30242] (fun v106=>([(82,.d (.v (.bool v106)))],[])) (fun h=>?_) ?_
   ·refine zC ?_;obtain⟨v107,hy108,h⟩:=zP h;refine xN (Yf hy108) call33 ?_;refine zC ?_;refine wL (d:=75) rfl (fun hg109=>?_) (fun hg109=>?_)
    ·replace h:=iT hg109 h;refine zl ?_;exact⟨true,(),h,sP⟩
    ·replace h:=iF hg109 h;refine g5 ?_;obtain⟨v110,hy111,h⟩:=zP h;refine wt (LR.rowN (vd hy111) rfl call35 rfl rfl rfl rfl) ?_;refine g5 ?_;obtain⟨v112,hy113,h⟩:=zP h;refine PWl.frz [77] hK (.cons rfl<|.nil) rfl (by simp) ?_;refine wt (LR.rowN (Yg hy113) rfl call34 rfl rfl rfl rfl) ?_;refine zH ?_;exact⟨(decide (0 < (v112.length:Int))),(),h,sP⟩
   ·rintro v106 _ h;refine wC rfl (fun hc114=>?_) (fun hc114=>?_)
    ·replace h:=iT hc114 h;refine zF ?_;refine wX ?_;replace h:(Sum.inl _:Unit⊕(List PT×Bool×(List (DT×EV))×Bool×(List (DT×EV))))=Sum.inl r0:=h;replace h:=Sum.inl.inj h;subst h;exact Zp [4,5] []
    ·replace h:=iF hc114 h;refine zm ?_;refine wX ?_;exact nomatch (show(Sum.inr _:Unit⊕(List PT×Bool×(List (DT×EV))×Bool×(List (DT×EV))))=Sum.inl r0 from h)
 | inr r0=>
  refine YV [0,1] func8 ntmps8 ?_;intro ctx hK pv;refine zl ?_;obtain⟨v3,hy4,h⟩:=zP h;refine ws (LR.rowN (vL hy4) rfl call28 rfl rfl rfl rfl)<|PWl.frz [10] hK (.cons rfl<|.nil) rfl (by simp) ?_;refine ws (LR.buildR (ns:=[_,_,_]) qw rfl rfl rfl) ?_;refine g5 ?_;refine PWl.sub (Sub.ownMap (id:=12) (j:=1) (id':=30241) (ks:=[.u16,.u64]) (ag:=true) (ck:=0) rfl rfl rfl rfl)<|PWl.sub (Sub.ownMap (id:=12) (j:=2) (id':=30242) (ks:=[.u16,.u64]) (ag:=true) (ck:=0) rfl rfl rfl rfl)<|yL [0,1,12] [12,30241,30242] ?_;refine xV ?_;refine vJ (zK h) 84 [0,1,6] [12] (fun⟨nl5,v6,nl7,v8⟩=>([],[(30241,.mapH nl7 [.u16,.u64] true (zO DT.k EV.e v8)),(30242,.mapH nl5 [.u16,.u64] true (zO DT.k EV.e v6))])) (fun h=>?_) ?_
  ·refine g5 ?_;refine zc h 84 [0,1,6,13,14] [12] (fun⟨v72,nl73,v74,nl75,v76⟩=>([(15,zJ .i64 v72)],[(30241,.mapH nl75 [.u16,.u64] true (zO DT.k EV.e v76)),(30242,.mapH nl73 [.u16,.u64] true (zO DT.k EV.e v74))])) ?_ (hs:=Sub.trans (Sub.nToH (id:=30241) rfl)<|Sub.trans (Sub.nToH (id:=30242) rfl)<|sP);rintro N ⟨v72,nl73,v74,nl75,v76⟩ _ h;refine zF ?_;refine wC rfl (fun hc77=>?_) (fun hc77=>?_)
   ·replace h:=iT hc77 h;refine zC ?_;refine vJ (zK h) 84 [0,1,6,13,14,15] [12] (fun⟨nl78,v79,nl80,v81⟩=>([],[(30241,.mapH nl80 [.u16,.u64] true (zO DT.k EV.e v81)),(30242,.mapH nl78 [.u16,.u64] true (zO DT.k EV.e v79))])) (fun h=>?_) ?_
    ·refine zH ?_;obtain⟨x82,hy83,h⟩:=yF h;refine yZ hy83 ?_;refine zm ?_;refine yN (zK h) 84 [0,1,6,8,13,14,15] [8,12,30241,30242] (fun v84=>([(49,.d (.v (.bool v84)))],[])) (fun h=>?_) ?_
     ·refine g5 ?_;refine h5 ?_;obtain⟨v85,hy86,h⟩:=zP h;refine qs (fun _ U W=>cN (vc hy86) U call29 (xY (fun a b=>U a b) rfl rfl) rfl rfl rfl) ?_;refine zy ?_;refine PQl.split (d:=23) rfl (fun hg87=>?_) (fun hg87=>?_)
      ·replace h:=iT hg87 h;refine xXa ?_;refine kkA6 [0,1,6,8,13,14,15,24,25,26,27,28,29,30,31,32,33,34,35,36,37,39,40,41,42,43] ?_;refine wNa ?_;exact⟨true,(),h,sP⟩
      ·replace h:=iF hg87 h;refine yU ?_;refine PQl.split (d:=26) rfl (fun hg88=>?_) (fun hg88=>?_)
       ·replace h:=iT hg88 h;refine yU ?_;obtain⟨x89,hy90,h⟩:=yF h;refine VP hy90 ?_;refine vV ?_;obtain⟨v91,hy92,h⟩:=zP h;refine qt (fun _ U W=>cN (WE hy92) U call30 (xY (fun a b=>U a b) rfl rfl) rfl rfl rfl) ?_;refine vV ?_;refine PQl.split (d:=39) rfl (fun hg93=>?_) (fun hg93=>?_)
        ·replace h:=iT hg93 h;refine zy ?_;refine kkA6 [0,1,6,8,13,14,15,24,25,26,27,28,29,30,31,32,33,34,35,36,37,39,40,41] ?_;refine hs9A6 ?_;exact⟨true,(),h,sP⟩
        ·replace h:=iF hg93 h;refine zy ?_;refine kkA6 [0,1,6,8,13,14,15,24,25,26,27,28,29,30,31,32,33,34,35,36,37,39,40,41] ?_;refine zy ?_;refine PQl.split (d:=43) rfl (fun hg94=>?_) (fun hg94=>?_)
         ·replace h:=iT hg94 h;refine yU ?_;obtain⟨v95,hy96,h⟩:=zP h;refine qt (fun _ U W=>cN (ve hy96) U call31 (xY (fun a b=>U a b) rfl rfl) rfl rfl rfl) ?_;refine yU ?_;exact⟨v95,(),h,sP⟩
         ·replace h:=iF hg94 h;refine wNa ?_;exact⟨false,(),h,sP⟩
       ·replace h:=iF hg88 h;refine hs16A6 ?_;refine kkA6 [0,1,6,8,13,14,15,24,25,26,27,28,29,30,31,32,33,34,35,36,37,39,40,41,42] ?_;refine h5 ?_;refine PQl.split (d:=43) rfl (fun hg97=>?_) (fun hg97=>?_)
        ·replace h:=iT hg97 h;refine yU ?_;obtain⟨v98,hy99,h⟩:=zP h;refine qt (fun _ U W=>cN (ve hy99) U call31 (xY (fun a b=>U a b) rfl rfl) rfl rfl rfl) ?_;refine yU ?_;exact⟨v98,(),h,sP⟩
        ·replace h:=iF hg97 h;refine wNa ?_;exact⟨false,(),h,sP⟩
     ·rintro v84 _ h;refine wC rfl (fun hc100=>?_) (fun hc100=>?_)
      ·replace h:=iT hc100 h;refine zF ?_;refine wX ?_;exact nomatch (show(Sum.inl _:Unit⊕(List PT×Bool×(List (DT×EV))×Bool×(List (DT×EV))))=Sum.inr r0 from h)
      ·replace h:=iF hc100 h;refine zm ?_;refine wC rfl (fun hc101=>?_) (fun hc101=>?_)
       ·replace h:=iT hc101 h;refine uU [0,1,6,8,13,14,15] [8,12,30241,30242] ?_;refine PWc.regionE [zt [53] [12],zt [54] [12],zt [55] [12],zt [56] [12],⟨[57],[],[12],[],[],[30241],[],[]⟩,⟨[58],[],[8],[],[],[],[],[]⟩,⟨[57,59],[12,30241],[12,30241,30242],[],[(30241,[57])],[30241],[30242],[12,30241,30242]⟩,zt [60] [12],zt [61] [12],⟨[],[12],[12,30241],[],[],[],[30241,30242],[]⟩] (by kernel_rfl) (by kernel_rfl) rfl ?_;refine Wh ?_;obtain⟨y102,hy103,h⟩:=zP h;refine qx [(100,30241),(500,12),(501,30242)] [57] [100,500,501] [100,500] [501] (PObj.frame [(500,.cells 73 [zZ PT.e v3,.mp 100,.mp 501]),(501,.mapH nl73 [.u16,.u64] true (zO DT.k EV.e v74))] [(500,.cells 73 [zZ PT.e v3,.junk,.mp 501]),(501,.mapH nl73 [.u16,.u64] true (zO DT.k EV.e v74))] (wg hy103) (fun _=>rfl) (fun _=>rfl) rfl rfl (.cons (.cells (.keep rfl<|.junk<|.keep rfl<|.nil))<|.cons (.same rfl)<|.nil)) call32 ?_;refine zy ?_;refine ks (fun _ U W=>sB (ns:=[_,_,_]) sizeOf71 U U rfl rfl (W rfl rfl) rfl rfl)<|PQe.nil ?_;exact⟨(nl73,v74,y102.1,y102.2),(),h,sP⟩
       ·replace h:=iF hc101 h;refine uU [0,1,6,8,13,14,15] [8,12,30241,30242] ?_;refine PWc.regionE [zt [62] [12],zt [63] [12],zt [64] [12],zt [65] [12],⟨[66],[],[12],[],[],[30242],[],[]⟩,⟨[67],[],[8],[],[],[],[],[]⟩,⟨[66,68],[12,30242],[12,30241,30242],[],[(30242,[66])],[30242],[30241],[12,30241,30242]⟩,zt [69] [12],zt [70] [12],⟨[],[12],[12,30242],[],[],[],[30241,30242],[]⟩] (by kernel_rfl) (by kernel_rfl) rfl ?_;refine Wh ?_;obtain⟨y104,hy105,h⟩:=zP h;refine qx [(100,30242),(500,12),(501,30241)] [66] [100,500,501] [100,500] [501] (PObj.frame [(500,.cells 73 [zZ PT.e v3,.mp 501,.mp 100]),(501,.mapH nl75 [.u16,.u64] true (zO DT.k EV.e v76))] [(500,.cells 73 [zZ PT.e v3,.mp 501,.junk]),(501,.mapH nl75 [.u16,.u64] true (zO DT.k EV.e v76))] (wg hy105) (fun _=>rfl) (fun _=>rfl) rfl rfl (.cons (.cells (.keep rfl<|.keep rfl<|.junk<|.nil))<|.cons (.same rfl)<|.nil)) call32 ?_;refine zy ?_;refine ks (fun _ U W=>sB (ns:=[_,_,_]) sizeOf71 U U rfl rfl (W rfl rfl) rfl rfl)<|PQe.nil ?_;exact⟨(y104.1,y104.2,nl75,v76),(),h,sP⟩
    ·rintro⟨nl78,v79,nl80,v81⟩ _ h;refine zH ?_;exact⟨((IntKind.i64.wrap (v72+1)),nl78,v79,nl80,v81),(),h,sP⟩
   ·replace h:=iF hc77 h;refine wZ ?_;exact⟨(nl73,v74,nl75,v76),(),h,sP⟩
  ·rintro⟨nl5,v6,nl7,v8⟩ _ h;refine zC ?_;refine yN (zK h) 84 [6] [12,30241,30242] (fun v106=>([(82,.d (.v (.bool v106)))],[])) (fun h=>?_) ?_
   ·refine zC ?_;obtain⟨v107,hy108,h⟩:=zP h;refine xN (Yf hy108) call33 ?_;refine zC ?_;refine wL (d:=75) rfl (fun hg109=>?_) (fun hg109=>?_)
    ·replace h:=iT hg109 h;refine zl ?_;exact⟨true,(),h,sP⟩
    ·replace h:=iF hg109 h;refine g5 ?_;obtain⟨v110,hy111,h⟩:=zP h;refine wt (LR.rowN (vd hy111) rfl call35 rfl rfl rfl rfl) ?_;refine g5 ?_;obtain⟨v112,hy113,h⟩:=zP h;refine PWl.frz [77] hK (.cons rfl<|.nil) rfl (by simp) ?_;refine wt (LR.rowN (Yg hy113) rfl call34 rfl rfl rfl rfl) ?_;refine zH ?_;exact⟨(decide (0 < (v112.length:Int))),(),h,sP⟩
   ·rintro v106 _ h;refine wC rfl (fun hc114=>?_) (fun hc114=>?_)
    ·replace h:=iT hc114 h;refine zF ?_;refine wX ?_;exact nomatch (show(Sum.inl _:Unit⊕(List PT×Bool×(List (DT×EV))×Bool×(List (DT×EV))))=Sum.inr r0 from h)
    ·replace h:=iF hc114 h;refine zm ?_;refine wX ?_;replace h:(Sum.inr _:Unit⊕(List PT×Bool×(List (DT×EV))×Bool×(List (DT×EV))))=Sum.inr r0:=h;replace h:=Sum.inr.inj h;subst h;exact Zp [4,5] [12,30241,30242]
end Go.Proofs
namespace Go.Ep
open Go Go.RowKit
def RB.F(x:RB)(f:DV->DV):List DV:=[f (.sl (List.map PT.e x.ctx)),f (.sl (List.map EV.e x.l))]
theorem flB(x:RB):FL (RB.F x):=.f _<|.f _<|.nil
theorem plainRun(a:RN):∀ x∈RN.e a,Plain x:=by simp[RN.e,Plain.v]
theorem plainDot(a:DT):∀ x∈DT.e a,Plain x:=by simp[DT.e,Plain.v]
theorem jw(a:PT):∀ x∈PT.e a,Plain x:=by simp[PT.e,Plain.v,Plain.slm plainRun]
theorem qK(a:EV):∀ x∈EV.e a,Plain x:=by simp[EV.e,Plain.v,Plain.slm plainDot]
theorem vya(a:EV):∀ x∈EV.F a (fun x=>x),Plain x:=qK a
theorem plainB(a:RB):∀ x∈RB.F a (fun x=>x),Plain x:=by
 intro x hx;simp only[RB.F,List.mem_cons,List.not_mem_nil,or_false] at hx;rcases hx with rfl | rfl
 ·exact .slm jw _
 ·exact .slm qK _
def zDel : List PV:=[.d (.sl []),.d (.sl []),.d (.sl [])]
def e3D(ctx:Ctx)(d:DL)(B:Nat):Ef:=⟨[(40,.agg ((DL.F d (.nw (Jd ctx B))).map .d)),(38,.agg ((DL.F d (.nw (ltB (zT ctx) B))).map .d))],[]⟩
def esD(ctx:Ctx)(d:DL)(B:Nat):List Ef:=[⟨[(37,.agg ((DL.F d fun x=>x).map .d))],[]⟩,⟨[(38,.agg ((DL.F d (.nw (zT ctx))).map .d))],[]⟩,⟨[(39,.agg ((DL.F d fun x=>x).map .d))],[]⟩,e3D ctx d B,⟨[(9,.ref 9 0)],[(9,.cells 38 zDel)]⟩,⟨[(10,.ref 10 0)],[(10,.cells 38 zDel)]⟩,
 ⟨[],[(9,.cells 38 ((DL.F d (.nw (ltB (zT ctx) B))).map .d))]⟩,⟨[],[(10,.cells 38 ((DL.F d (.nw (Jd ctx B))).map .d))]⟩]
def uk(l1:List LA)(from2:List PT):M Bool:=
 M.bind (M.bind (M.det (qz l1 20)) fun v4=>
 cond (decide (v4=0))
  (M.pure true)
  (M.bind (M.det (jd from2)) fun v7=>
  M.pure (!v7))) (fun v3=>
 cond v3
  (M.bind (M.det (XL)) fun v10=>
  M.pure v10)
  (M.bind (M.det (xaa l1)) fun v12=>
  M.bind (M.det (uH v12.ctx)) fun v14=>
  M.bind (M.det (xz v14 v12.l)) fun y16=>
  M.sum y16 (fun _=>M.fail) (fun z33=>
   M.bind (M.det (xd from2 z33.1 z33.2.1 z33.2.2.1 z33.2.2.2.1 z33.2.2.2.2)) fun y34=>
   M.yt (SmD y34) <|
   M.bind (M.det (vw)) fun y40=>
   M.bind (M.det (yy y34.from_ y40.1 y40.2.1 y40.2.2.1 y40.2.2.2.1 y40.2.2.2.2)) fun y42=>
   M.bind (M.det (yj y34 y42 y40.2.1 y40.2.2.1 y40.2.2.2.1 y40.2.2.2.2)) fun y44=>
   M.bind (vG y44.2.1 y44.2.2.1 y44.2.2.2.1 y44.2.2.2.2.1 y44.2.2.2.2.2) fun y46=>
   M.bind (cond (decide (y44.1=0))
    (M.bind (M.det (Vg v12 from2)) fun v50=>
    M.bind (M.det (Uy y34 v50)) fun v52=>
    cond v52
     (M.bind (M.det (jA v12 z33.1 z33.2.1 z33.2.2.1 z33.2.2.2.1 z33.2.2.2.2)) fun y55=>
     cond (decide (y55=1))
      (M.bind (M.det (vy y44.2.1 y46.1 y44.2.2.1 y44.2.2.2.1 y44.2.2.2.2.1 y44.2.2.2.2.2 y46.2.1 y46.2.2.1 y46.2.2.2.1 y46.2.2.2.2)) fun y58=>
      cond y58
       (M.bind (M.det (ZJ y34)) fun v61=>
       cond (decide (v61=1))
        (M.bind (M.det (va from2)) fun v64=>
        cond ((decide ((v64.to_.length:Int)=0)))
         (M.bind (M.det (XL)) fun v67=>
         M.pure v67)
         (M.pure false))
        (M.pure false))
       (M.pure false))
      (M.pure false))
     (M.pure false))
    (M.pure false)) (fun v48=>
   M.pure v48))))
end Go.Ep
namespace Go.Proofs
open Go.Ep Tryz
set_option maxHeartbeats 8000000
set_option maxRecDepth 100000
set_option linter.unusedVariables false
set_option linter.unusedSimpArgs false
def ftD : List Ft:=[⟨[37],[],[8],[],[],[],[],[]⟩,{ws:=[38]},⟨[39],[],[8],[],[],[],[],[]⟩,zt [38,40] [],⟨[9],[9],[],[9],[],[9],[],[]⟩,⟨[10],[10],[],[10],[],[10],[],[]⟩,⟨[],[9],[9],[],[],[],[],[]⟩,⟨[],[10],[10],[],[],[],[],[]⟩]
theorem yva{x1 ctx_2 nl3 m4 nl5 m6 r0}(h:(jA x1 ctx_2 nl3 m4 nl5 m6).wp (·=r0)):PObj prog 19 [.ref 100 0,.agg (List.map .d (RB.e x1))] [(100,.cells 73 [zZ PT.e ctx_2,.mp 101,.mp 102]),(101,.mapH nl3 [.u16,.u64] true (zO DT.k EV.e m4)),(102,.mapH nl5 [.u16,.u64] true (zO DT.k EV.e m6))] [100,101,102] (zJ .i64 r0) (fun _:Unit=>[(100,.cells 73 [zZ PT.e ctx_2,.mp 101,.mp 102]),(101,.mapH nl3 [.u16,.u64] true (zO DT.k EV.e m4)),(102,.mapH nl5 [.u16,.u64] true (zO DT.k EV.e m6))]):=by
 refine YV [0,1] func19 ntmps19 ?_;intro ctx hK pv;refine zm ?_;refine uU [0,3] [3,100,101,102,1100,1101,1102] ?_;refine yN (zK h) 32 [] [100,101,102,1100,1101,1102] (fun v7=>([(31,.d (.v (.bool v7)))],[])) (fun h=>?_) ?_
 ·refine PWc.regionE [zt [5] [100],⟨[6],[],[100,101,102],[],[],[],[],[]⟩,zt [7] [3],⟨[8],[],[3],[],[],[],[],[]⟩,{ws:=[9]},{ws:=[10]},{ws:=[11]},zt [12] [100],⟨[13],[],[100,101,102],[],[],[],[],[]⟩,⟨[14],[],[3],[],[],[],[],[]⟩,{ws:=[15]},{ws:=[16]},{ws:=[17]},{ws:=[18]},zt [19] [100],⟨[20],[],[100,101,102],[],[],[],[],[]⟩,⟨[21],[],[3],[],[],[],[],[]⟩,{ws:=[22]},{ws:=[23]},{ws:=[24]},{ws:=[25]},zt [26] [100],⟨[27],[],[100,101,102],[],[],[],[],[]⟩,zt [28] [3],⟨[29],[],[3],[],[],[],[],[]⟩,{ws:=[30]},{ws:=[31]}] (by kernel_rfl) (by kernel_rfl) rfl ?_;refine h5 ?_;obtain⟨y8,hy9,h⟩:=zP h;refine qx [(100,100),(101,101),(102,102)] [] [100,101,102] [] [100,101,102] (xS hy9) call37 ?_;refine zy ?_;obtain⟨v10,hy11,h⟩:=zP h;refine kp (fun _ U W=>cN (PRow.fun (ZP hy11)) U call9 (xY (fun a b=>U a b) rfl rfl) rfl rfl rfl) ?_;obtain⟨v12,hy13,h⟩:=zP h;refine kp (fun _ U W=>cN (zsa hy13) U call52 (xY (fun a b=>U a b) rfl rfl) rfl rfl rfl) ?_;refine h5 ?_;refine PQe.split (d:=11) rfl (fun hg14=>?_) (fun hg14=>?_)
  ·replace h:=iT hg14 h;refine PQe.stepP (fun _ U W=>mV (U rfl rfl)) (.inr ⟨_,_,_,rfl,rfl,rfl⟩) rfl ?_;obtain⟨y15,hy16,h⟩:=zP h;refine PQe.callObjS [(100,100),(101,101),(102,102),(10,13)] [] [100,101,102] [] [(100,.cells 73 [zZ PT.e ctx_2,.mp 101,.mp 102]),(101,.mapH nl3 [.u16,.u64] true (zO DT.k EV.e m4)),(102,.mapH nl5 [.u16,.u64] true (zO DT.k EV.e m6))] (PObj.dropRow (os1:=fun _=>[(100,.cells 73 [zZ PT.e ctx_2,.mp 101,.mp 102]),(101,.mapH nl3 [.u16,.u64] true (zO DT.k EV.e m4)),(102,.mapH nl5 [.u16,.u64] true (zO DT.k EV.e m6))]) (ZN hy16) (fun _=>rfl) (by simp) (fun _=>rfl)) hK (fun _ U=>⟨U rfl rfl,xY U rfl rfl⟩) call23 (by first | rfl | (simp;done) | (simp[PV.nilD,PV.ren,rn] <;> omega)) (by repeat' first | constructor | (congr 1;first | (simp;done) | (simp;omega) | omega)) (.nil) (.cons rfl<|.cons rfl<|.cons rfl<|.nil) (by repeat' first | constructor | (congr 1;first | (simp;done) | (simp;omega) | omega)) rfl rfl rfl rfl rfl rfl (.inr ⟨_,_,_,rfl,rfl,rfl⟩) rfl ?_;refine PQe.stepP (fun _ U W=>lA (ps:=[_,_]) isAgg30 sizeOf30 (U rfl rfl) (W rfl rfl) rfl rfl) (.inr ⟨_,_,_,rfl,rfl,rfl⟩) rfl ?_;obtain⟨v17,hy18,h⟩:=zP h;refine PQe.stepP (fun _ U W=>cN (PRow.fun (Wp hy18)) (U rfl rfl) call53 (xY U rfl rfl) rfl rfl rfl) (.inr ⟨_,_,_,rfl,rfl,rfl⟩) rfl ?_;obtain⟨v19,hy20,h⟩:=zP h;refine PQe.stepP (fun _ U W=>cN (WI hy20) (U rfl rfl) call49 (xY U rfl rfl) rfl rfl rfl) (.inr ⟨_,_,_,rfl,rfl,rfl⟩) rfl ?_;refine zy ?_;refine PQe.split (d:=18) rfl (fun hg21=>?_) (fun hg21=>?_)
   ·replace h:=iT hg21 h;refine PQe.stepP (fun _ U W=>mV (U rfl rfl)) (.inr ⟨_,_,_,rfl,rfl,rfl⟩) rfl ?_;obtain⟨y22,hy23,h⟩:=zP h;refine PQe.callObjS [(100,100),(101,101),(102,102),(10,20)] [] [100,101,102] [] [(100,.cells 73 [zZ PT.e ctx_2,.mp 101,.mp 102]),(101,.mapH nl3 [.u16,.u64] true (zO DT.k EV.e m4)),(102,.mapH nl5 [.u16,.u64] true (zO DT.k EV.e m6))] (PObj.dropRow (os1:=fun _=>[(100,.cells 73 [zZ PT.e ctx_2,.mp 101,.mp 102]),(101,.mapH nl3 [.u16,.u64] true (zO DT.k EV.e m4)),(102,.mapH nl5 [.u16,.u64] true (zO DT.k EV.e m6))]) (WQ hy23) (fun _=>rfl) (by simp) (fun _=>rfl)) hK (fun _ U=>⟨U rfl rfl,xY U rfl rfl⟩) call54 (by first | rfl | (simp;done) | (simp[PV.nilD,PV.ren,rn] <;> omega)) (by repeat' first | constructor | (congr 1;first | (simp;done) | (simp;omega) | omega)) (.nil) (.cons rfl<|.cons rfl<|.cons rfl<|.nil) (by repeat' first | constructor | (congr 1;first | (simp;done) | (simp;omega) | omega)) rfl rfl rfl rfl rfl rfl (.inr ⟨_,_,_,rfl,rfl,rfl⟩) rfl ?_;refine PQe.stepP (fun _ U W=>lA (ps:=[_,_]) isAgg30 sizeOf30 (U rfl rfl) (W rfl rfl) rfl rfl) (.inr ⟨_,_,_,rfl,rfl,rfl⟩) rfl ?_;obtain⟨v24,hy25,h⟩:=zP h;refine PQe.stepP (fun _ U W=>cN (PRow.fun (zua hy25)) (U rfl rfl) call55 (xY U rfl rfl) rfl rfl rfl) (.inr ⟨_,_,_,rfl,rfl,rfl⟩) rfl ?_;obtain⟨v26,hy27,h⟩:=zP h;refine PQe.stepP (fun _ U W=>cN (WI hy27) (U rfl rfl) call49 (xY U rfl rfl) rfl rfl rfl) (.inr ⟨_,_,_,rfl,rfl,rfl⟩) rfl ?_;refine zy ?_;refine PQe.split (d:=25) rfl (fun hg28=>?_) (fun hg28=>?_)
    ·replace h:=iT hg28 h;refine PQe.stepP (fun _ U W=>mV (U rfl rfl)) (.inr ⟨_,_,_,rfl,rfl,rfl⟩) rfl ?_;obtain⟨y29,hy30,h⟩:=zP h;refine PQe.callObjS [(100,100),(101,101),(102,102),(14,27)] [] [100,101,102] [] [(100,.cells 73 [zZ PT.e ctx_2,.mp 101,.mp 102]),(101,.mapH nl3 [.u16,.u64] true (zO DT.k EV.e m4)),(102,.mapH nl5 [.u16,.u64] true (zO DT.k EV.e m6))] (PObj.dropRow (os1:=fun _=>[(100,.cells 73 [zZ PT.e ctx_2,.mp 101,.mp 102]),(101,.mapH nl3 [.u16,.u64] true (zO DT.k EV.e m4)),(102,.mapH nl5 [.u16,.u64] true (zO DT.k EV.e m6))]) (xp hy30) (fun _=>rfl) (by simp) (fun _=>rfl)) hK (fun _ U=>⟨U rfl rfl,xY U rfl rfl⟩) call40 (by first | rfl | (simp;done) | (simp[PV.nilD,PV.ren,rn] <;> omega)) (by repeat' first | constructor | (congr 1;first | (simp;done) | (simp;omega) | omega)) (.nil) (.cons rfl<|.cons rfl<|.cons rfl<|.nil) (by repeat' first | constructor | (congr 1;first | (simp;done) | (simp;omega) | omega)) rfl rfl rfl rfl rfl rfl (.inr ⟨_,_,_,rfl,rfl,rfl⟩) rfl ?_;refine PQe.stepP (fun _ U W=>fR underlying30 rfl sizeOf28 (by decide) rfl (U rfl rfl)) (.inr ⟨_,_,_,rfl,rfl,rfl⟩) rfl ?_;refine PQe.stepP (fun _ U W=>lD isAgg28 (U rfl rfl) (W rfl rfl) rfl) (.inr ⟨_,_,_,rfl,rfl,rfl⟩) rfl ?_;obtain⟨v31,hy32,h⟩:=zP h;refine PQe.stepP (fun _ U W=>cN (WI hy32) (U rfl rfl) call49 (xY U rfl rfl) rfl rfl rfl) (.inr ⟨_,_,_,rfl,rfl,rfl⟩) rfl ?_;refine h5 ?_;refine PQe.nil ?_;exact⟨v31,(),h,sP⟩
    ·replace h:=iF hg28 h;refine Wh ?_;refine PQe.nil ?_;exact⟨false,(),h,sP⟩
   ·replace h:=iF hg21 h;refine vWa ?_;refine PQe.nil ?_;exact⟨false,(),h,sP⟩
  ·replace h:=iF hg14 h;refine xXa ?_;refine PQe.nil ?_;exact⟨false,(),h,sP⟩
 ·rintro v7 _ h;refine zE h (fun h=>?_) fun h=>?_
  ·refine zH ?_;refine wX ?_;cases h;exact Zp [4] [100,101,102,1100,1101,1102]
  ·refine zF ?_;refine wX ?_;cases h;exact Zp [4] [100,101,102,1100,1101,1102]
theorem Vn{d1 r0}(h:(ZJ d1).wp (·=r0)):PFun prog 14 [.d (.v (.pointer none)),.agg (List.map .d (DL.e d1))] (zJ .i64 r0):=by
 refine yB [0,1] func14 ntmps14 ?_;intro ctx hK;refine xWa ?_;refine PWc.condT rfl ?_;refine zH ?_;refine wX ?_;cases h;exact xT
theorem Uh(l1:List LA)(from2:List PT)(r0:Bool)(h:(uk l1 from2).wp (·=r0)):PFun prog 3 [zZ LA.e l1,zZ PT.e from2] (.d (.v (.bool r0))):=by
 refine yB [0,1] func3 ntmps3 ?_;intro ctx hK;refine zV ?_;refine yN (zK h) 94 [0,1] [] (fun v3=>([(21,.d (.v (.bool v3)))],[])) (fun h=>?_) ?_
 ·refine zC ?_;obtain⟨v4,hy5,h⟩:=zP h;refine xN (wVa hy5) call4 ?_;refine zC ?_;refine yH 17 h (fun h=>?_) fun h=>?_
  ·refine zF ?_;exact⟨true,(),h,sP⟩
  ·refine g5 ?_;obtain⟨v7,hy8,h⟩:=zP h;refine wt (cN (qC hy8) rfl call5 rfl rfl rfl rfl) ?_;refine zL ?_;exact⟨(!v7),(),h,sP⟩
 ·rintro v3 _ h;refine zE h (fun h=>?_) fun h=>?_
  ·refine zC ?_;obtain⟨v10,hy11,h⟩:=zP h;refine xN (Ue v10 hy11) call6 ?_;refine zC ?_;refine wX ?_;cases h;exact xT
  ·refine zH ?_;obtain⟨v12,hy13,h⟩:=zP h;refine xN (vxa hy13) call7 ?_;refine zH ?_;refine uU [1,5] [5] ?_;refine PWc.regionE [zt [26] [5],⟨[27],[],[5],[],[],[],[],[]⟩,{ws:=[28]},zt [29] [5],⟨[30],[],[5],[],[],[],[],[]⟩,⟨[31],[20620,20621,20622],[],[20620,20621,20622],[],[20620],[20621,20622],[]⟩,zt [25] [20620],zt [32] [20620],{ws:=[33]},zt [6] [20620],{ws:=[7]}] (by kernel_rfl) (by kernel_rfl) rfl ?_;refine zy ?_;obtain⟨v14,hy15,h⟩:=zP h;refine kp (fun _ U W=>cN (PRow.fun (ZP hy15)) U call9 (xY (fun a b=>U a b) rfl rfl) rfl rfl rfl) ?_;refine zy ?_;obtain⟨y16,hy17,h⟩:=zP h;rcases y16 with z18 | z33
   ·exact(iSumL h).elim
   ·replace h:=iSumR h;refine PQe.callObj [(12,20620),(30241,20621),(30242,20622)] [] [12,30241,30242] (Ji hy17) hK (fun _ U=>⟨U rfl rfl,xY U rfl rfl⟩) call8 (by first | rfl | (simp;done) | (simp[PV.nilD,PV.ren,rn] <;> omega)) (.nil) rfl rfl rfl rfl (.inl rfl) rfl ?_;refine wMa ?_;refine PQe.nil<|uU [1,5,6,7] [5,20620,20621,20622] ?_;refine PWc.reMark (fun B=>⟨94,[(1,.d (.od (vD B) (.sl (List.map PT.e from2)))),(5,.ref 5 0),(6,.ref 20620 0),(7,zJ .i64 0)],[(5,.cells 30 ((RB.F v12 (.od (vD B))).map .d)),(20620,.cells 73 [.d (.od (vD B) (.sl (List.map PT.e z33.1))),.mp 20621,.mp 20622]),(20621,.mapH z33.2.1 [.u16,.u64] true (zO DT.k (EV.eO (vD B)) z33.2.2.1)),(20622,.mapH z33.2.2.2.1 [.u16,.u64] true (zO DT.k (EV.eO (vD B)) z33.2.2.2.2))]⟩) hK (fun _=>rfl) (fun w=>(.cons rfl (.old (Plain.slm jw _))<|.cons rfl (.same _)<|.cons rfl (.same _)<|.cons rfl (.same _)<|.nil)) (fun w=>(.cons rfl (CvO.fl (F:=RB.F v12) (f:=fun x=>x) (flB v12) (fun S y u hy hd=>xVa (plainB v12 y hy) hd))<|.cons rfl (.cells (.cons (.old (Plain.slm jw _))<|.cons (.same _)<|.cons (.same _)<|.nil))<|.cons rfl (CvO.map (F:=EV.F) flE (f:=fun x=>x) (fun x S y u hy hd=>xVa (vya x y hy) hd))<|.cons rfl (CvO.map (F:=EV.F) flE (f:=fun x=>x) (fun x S y u hy hd=>xVa (vya x y hy) hd))<|.nil)) (fun ctx1 hK1 hB1 hin1=>?_);refine zL ?_;refine ws (LR.weak (mV rfl) (Wk.od _ _)) ?_;obtain⟨y34,hy35,h⟩:=zP h;refine ws (LR.callObjSN [(100,20620),(101,20621),(102,20622)] [] [100,101,102] [] [(100,.cells 73 [.d (.od (vD ctx1.w0.heap.size) (.sl (List.map PT.e z33.1))),.mp 101,.mp 102]),(101,.mapH z33.2.1 [.u16,.u64] true (zO DT.k (EV.eO (vD ctx1.w0.heap.size)) z33.2.2.1)),(102,.mapH z33.2.2.2.1 [.u16,.u64] true (zO DT.k (EV.eO (vD ctx1.w0.heap.size)) z33.2.2.2.2))] (QR (zT ctx1) (vD ctx1.w0.heap.size) (vD ctx1.w0.heap.size) from2 z33.1 z33.2.1 z33.2.2.1 z33.2.2.2.1 z33.2.2.2.2 y34 hy35) (fun _ h=>h) hK1 rfl call10 rfl (by first | rfl | (simp;done) | (simp[PV.nilD,PV.ren,rn] <;> omega)) (by repeat' first | constructor | (congr 1;first | (simp;done) | (simp;omega) | omega)) (.nil) (.cons rfl<|.cons rfl<|.cons rfl<|.nil) (by repeat' first | constructor | (congr 1;first | (simp;done) | (simp;omega) | omega)) rfl rfl rfl rfl rfl rfl) ?_;refine zL ?_;obtain⟨hsm,h⟩:=zq h;refine uU [1,5,6,7,8] [5,8,20620,20621,20622] ?_;refine PWc.reMark (fun B=>⟨94,[(1,.d (.od (vD ctx1.w0.heap.size) (.sl (List.map PT.e from2)))),(5,.ref 5 0),(6,.ref 20620 0),(7,zJ .i64 0),(8,.ref 8 0)],[(5,.cells 30 ((RB.F v12 (.od (vD ctx1.w0.heap.size))).map .d)),(8,.cells 38 ((DL.F y34 (.nw (ltB (zT ctx1) B))).map .d)),(20620,.cells 73 [.d (.od (vD ctx1.w0.heap.size) (.sl (List.map PT.e z33.1))),.mp 20621,.mp 20622]),(20621,.mapH z33.2.1 [.u16,.u64] true (zO DT.k (EV.eO (vD ctx1.w0.heap.size)) z33.2.2.1)),(20622,.mapH z33.2.2.2.1 [.u16,.u64] true (zO DT.k (EV.eO (vD ctx1.w0.heap.size)) z33.2.2.2.2))]⟩) hK1 (fun _=>rfl) (fun w=>(.cons rfl (.same _)<|.cons rfl (.same _)<|.cons rfl (.same _)<|.cons rfl (.same _)<|.cons rfl (.same _)<|.nil)) (fun w=>(.cons rfl (.same _)<|.cons rfl (CvO.fl (F:=DL.F y34) (f:=.nw (zT ctx1)) (uX y34) (fun S y u _ hd=>nwLt hd))<|.cons rfl (.same _)<|.cons rfl (.same _)<|.cons rfl (.same _)<|.nil)) (fun ctx2 hK2 hB2 hin2=>?_);refine g5 ?_;refine PWc.regionX 3 ftD (esD ctx2 y34) (fun B=>⟨94,[(10,.ref 10 0),(9,.ref 9 0),(40,.agg ((DL.F y34 (.nw (Jd ctx2 B))).map .d)),(38,.agg ((DL.F y34 (.nw (ltB (zT ctx2) B))).map .d)),(39,.agg ((DL.F y34 fun x=>x).map .d)),(38,.agg ((DL.F y34 (.nw (zT ctx2))).map .d)),(37,.agg ((DL.F y34 fun x=>x).map .d)),(1,.d (.od (vD ctx1.w0.heap.size) (.sl (List.map PT.e from2)))),(5,.ref 5 0),(6,.ref 20620 0),(7,zJ .i64 0),(8,.ref 8 0)],[(5,.cells 30 ((RB.F v12 (.od (vD ctx1.w0.heap.size))).map .d)),(8,.cells 38 ((DL.F y34 (.nw (ltB (zT ctx1) ctx2.w0.heap.size))).map .d)),(9,.cells 38 ((DL.F y34 (.nw (ltB (zT ctx2) B))).map .d)),(10,.cells 38 ((DL.F y34 (.nw (Jd ctx2 B))).map .d)),(20620,.cells 73 [.d (.od (vD ctx1.w0.heap.size) (.sl (List.map PT.e z33.1))),.mp 20621,.mp 20622]),(20621,.mapH z33.2.1 [.u16,.u64] true (zO DT.k (EV.eO (vD ctx1.w0.heap.size)) z33.2.2.1)),(20622,.mapH z33.2.2.2.1 [.u16,.u64] true (zO DT.k (EV.eO (vD ctx1.w0.heap.size)) z33.2.2.2.2))]⟩) (e3D ctx2 y34) (by kernel_rfl) (by kernel_rfl) rfl (by decide) (fun B=>?_) (fun j=>?_) (fun B=>rfl) (fun B j e' hj hn U=>?_) (fun E s' a w hI hE3 hdep hpre hr K Qx hK2x=>?_) (fun B=>?_)
    ·refine .cons (.inr (Does.stepP (fun _ U W=>LR.weak (lA (ps:=((DL.F y34 (.nw (ltB (zT ctx1) ctx2.w0.heap.size))).map .d)) isAgg38 sizeOf38 (U rfl rfl) (W rfl rfl) rfl rfl) (FL.wk (uX y34) (f:=.nw (ltB (zT ctx1) ctx2.w0.heap.size)) (f':=fun x=>x) (fun y=>WkD.nw _ y))) (.inl rfl) rfl)) rfl ?_;refine .cons (.inr (Does.stepP (fun _ U W=>LR.callNw (WY y34 hsm) (monoDl _) (U rfl rfl) call11 (xY U rfl rfl) rfl rfl rfl) (.inl rfl) rfl)) rfl ?_;refine .cons (.inr (Does.stepP (fun _ U W=>LR.weak (lA (ps:=((DL.F y34 (.nw (ltB (zT ctx1) ctx2.w0.heap.size))).map .d)) isAgg38 sizeOf38 (U rfl rfl) (W rfl rfl) rfl rfl) (FL.wk (uX y34) (f:=.nw (ltB (zT ctx1) ctx2.w0.heap.size)) (f':=fun x=>x) (fun y=>WkD.nw _ y))) (.inl rfl) rfl)) rfl<|.cons (.inl rfl) rfl ?_;refine .cons (.inr (Does.stepN (fun _ U W hf=>LR.allocZ (cs:=zDel) zeroValue38 rfl rfl rfl hf) rfl (.inl rfl) rfl)) rfl ?_;refine .cons (.inr (Does.stepN (fun _ U W hf=>LR.allocZ (cs:=zDel) zeroValue38 rfl rfl rfl hf) rfl (.inl rfl) rfl)) rfl ?_;refine .cons (.inr (Does.stepS (fun _ U W=>sB (ns:=((DL.F y34 (.nw (ltB (zT ctx2) B))).map .d)) sizeOf38 (U rfl rfl) (U rfl rfl) rfl rfl (W rfl rfl) rfl rfl) (.inl rfl) rfl)) rfl ?_;refine .cons (.inr (Does.stepS (fun _ U W=>sB (ns:=((DL.F y34 (.nw (Jd ctx2 B))).map .d)) sizeOf38 (U rfl rfl) (U rfl rfl) rfl rfl (W rfl rfl) rfl rfl) (.inl rfl) rfl)) rfl ?_;exact .nil
    ·match j with
     | 0=>exact .inr (.inr fun _ _=>rfl)
     | 1=>exact .inr (.inr fun _ _=>rfl)
     | 2=>exact .inr (.inr fun _ _=>rfl)
     | 3=>exact .inl rfl
     | 4=>exact .inr (.inr fun _ _=>rfl)
     | 5=>exact .inr (.inr fun _ _=>rfl)
     | 6=>exact .inr (.inl (zS.1 (by kernel_rfl)))
     | 7=>exact .inr (.inl (zS.1 (by kernel_rfl)))
     | j+8=>exact .inr (.inr fun _ _=>rfl)
    ·match j,hj,hn,U with
     | 4,_,_,U=>cases U;constructor <;> intro t h1 h2 <;> simp[e3D] at h1 h2 <;> omega
     | 5,_,_,U=>cases U;constructor <;> intro t h1 h2 <;> simp[e3D] at h1 h2 <;> omega
     | 6,_,hn,_=>exact(hn (zS.1 (by kernel_rfl))).elim
     | 7,_,hn,_=>exact(hn (zS.1 (by kernel_rfl))).elim
     | j+8,_,_,U=>cases U
    ·have e1:E 1=true:=(hpre 1 (zS.1 (by kernel_rfl))).resolve_left (by decide);have e2:E 2=true:=(hpre 2 (zS.1 (by kernel_rfl))).resolve_left (by decide);have h39:s'.at 39=some (.agg ((DL.F y34 fun x=>x).map .d)):=xka (E':=fun j=>Nat.beq j 2) hI (fun j e U hs=>by
      match j,U with
      | 0,U=>cases U;cases hs
      | 1,U=>cases U;cases hs
      | 2,_=>exact e2
      | 3,U=>cases U;cases hs
      | 4,U=>cases U;cases hs
      | 5,U=>cases U;cases hs
      | 6,U=>cases U;cases hs
      | 7,U=>cases U;cases hs
      | j+8,U=>cases U) rfl rfl
     have h38:s'.at 38=some (.agg ((DL.F y34 (.nw (zT ctx2))).map .d)):=xka (E':=fun j=>Nat.beq j 1) hI (fun j e U hs=>by
      match j,U with
      | 0,U=>cases U;cases hs
      | 1,_=>exact e1
      | 2,U=>cases U;cases hs
      | 3,_=>exact hE3
      | 4,U=>cases U;cases hs
      | 5,U=>cases U;cases hs
      | 6,U=>cases U;cases hs
      | 7,U=>cases U;cases hs
      | j+8,U=>cases U) rfl rfl
     have hr2:=remark1 (N:=zT ctx2) (F:=DL.F y34) (uX y34) hr h38;refine waa rfl rfl ?_;have hat:(s'.app ⟨[(38,.agg ((DL.F y34 (.nw (ltB (zT ctx2) w.heap.size))).map .d))],[]⟩).at 39=some (.agg ((DL.F y34 fun x=>x).map .d)):=Zn (Zu h39) (xL h39);refine callAtW (r:=.agg ((DL.F y34 (.nw (Jd ctx2 w.heap.size))).map .d)) (ps:=[.agg ((DL.F y34 fun x=>x).map .d)]) (xs:=[.tmp 39]) hr2 (fun g hg vs hl hv=>?_) rfl call11 ?_ rfl rfl (fun a' w' h9=>hK2x _ _ _ h9)
     ·exact(WY y34 hsm w _ vs hl hv).mono fun e w' ⟨u,h1,h2,h3⟩=>⟨u,h1,h2,monoDl _ _ _ _ _ _ _ (fun b hb=>⟨hb,Nat.le_trans hg.grows hb⟩) h3⟩
     ·show(s'.app _).evs [.tmp 39]=_;simp only[PState.evs,PState.ev,hat]
    ·refine PWc.re (tl:=[(1,.d (.od (vD ctx1.w0.heap.size) (.sl (List.map PT.e from2)))),(5,.ref 5 0),(6,.ref 20620 0),(7,zJ .i64 0),(8,.ref 8 0),(9,.ref 9 0),(10,.ref 10 0)]) (to:=[(5,.cells 30 ((RB.F v12 (.od (vD ctx1.w0.heap.size))).map .d)),(8,.cells 38 ((DL.F y34 (.nw (ltB (zT ctx1) ctx2.w0.heap.size))).map .d)),(9,.cells 38 ((DL.F y34 (.nw (ltB (zT ctx2) B))).map .d)),(10,.cells 38 ((DL.F y34 (.nw (Jd ctx2 B))).map .d)),(20620,.cells 73 [.d (.od (vD ctx1.w0.heap.size) (.sl (List.map PT.e z33.1))),.mp 20621,.mp 20622]),(20621,.mapH z33.2.1 [.u16,.u64] true (zO DT.k (EV.eO (vD ctx1.w0.heap.size)) z33.2.2.1)),(20622,.mapH z33.2.2.2.1 [.u16,.u64] true (zO DT.k (EV.eO (vD ctx1.w0.heap.size)) z33.2.2.2.2))]) rfl (.c4 rfl rfl rfl rfl rfl rfl rfl rfl<|.c2 rfl rfl rfl rfl<|.cons rfl rfl<|.nil) (.c4 rfl rfl rfl rfl rfl rfl rfl rfl<|.c2 rfl rfl rfl rfl<|.cons rfl rfl<|.nil) ?_;refine PWc.reMark (fun B3=>⟨94,[(1,.d (.od (vD ctx1.w0.heap.size) (.sl (List.map PT.e from2)))),(5,.ref 5 0),(6,.ref 20620 0),(7,zJ .i64 0),(8,.ref 8 0),(9,.ref 9 0),(10,.ref 10 0)],[(5,.cells 30 ((RB.F v12 (.od (vD ctx1.w0.heap.size))).map .d)),(8,.cells 38 ((DL.F y34 (.nw (ltB (zT ctx1) ctx2.w0.heap.size))).map .d)),(9,.cells 38 ((DL.F y34 (.nw (ltB (zT ctx2) B))).map .d)),(10,.cells 38 ((DL.F y34 (.nw (ltB (Jd ctx2 B) B3))).map .d)),(20620,.cells 73 [.d (.od (vD ctx1.w0.heap.size) (.sl (List.map PT.e z33.1))),.mp 20621,.mp 20622]),(20621,.mapH z33.2.1 [.u16,.u64] true (zO DT.k (EV.eO (vD ctx1.w0.heap.size)) z33.2.2.1)),(20622,.mapH z33.2.2.2.1 [.u16,.u64] true (zO DT.k (EV.eO (vD ctx1.w0.heap.size)) z33.2.2.2.2))]⟩) hK2 (fun _=>rfl) (fun w=>(.cons rfl (.same _)<|.cons rfl (.same _)<|.cons rfl (.same _)<|.cons rfl (.same _)<|.cons rfl (.same _)<|.cons rfl (.same _)<|.cons rfl (.same _)<|.nil)) (fun w=>(.cons rfl (.same _)<|.cons rfl (.same _)<|.cons rfl (.same _)<|.cons rfl (CvO.fl (F:=DL.F y34) (f:=.nw (Jd ctx2 B)) (uX y34) (fun S y u _ hd=>nwLt hd))<|.cons rfl (.same _)<|.cons rfl (.same _)<|.cons rfl (.same _)<|.nil)) (fun ctx3 hK3 hB3 hin3=>?_);refine zC ?_;obtain⟨y40,hy41,h⟩:=zP h;replace hy41:(([]:List PT),true,([]:List (DT×EV)),true,([]:List (DT×EV)))=y40:=hy41;subst hy41;refine ws (LR.callObj [(2,41),(30041,20821),(30042,20822)] [] [2,30041,30042] (Yi _ (show(vw).wp (·=(([]:List PT),true,([]:List (DT×EV)),true,([]:List (DT×EV)))) from rfl)) hK3 rfl call12 rfl (by first | rfl | (simp;done) | (simp[PV.nilD,PV.ren,rn] <;> omega)) (.nil) rfl rfl rfl rfl) ?_;refine zC ?_;refine PWc.conv ⟨94,[(1,.d (.od (vD ctx1.w0.heap.size) (.sl (List.map PT.e from2)))),(5,.ref 5 0),(6,.ref 20620 0),(7,zJ .i64 0),(8,.ref 8 0),(9,.ref 9 0),(10,.ref 10 0),(11,.ref 41 0)],[(5,.cells 30 ((RB.F v12 (.od (vD ctx1.w0.heap.size))).map .d)),(8,.cells 38 ((DL.F y34 (.nw (ltB (zT ctx1) ctx2.w0.heap.size))).map .d)),(9,.cells 38 ((DL.F y34 (.nw (ltB (zT ctx2) B))).map .d)),(10,.cells 38 ((DL.F y34 (.nw (ltB (Jd ctx2 B) ctx3.w0.heap.size))).map .d)),(20620,.cells 73 [.d (.od (vD ctx1.w0.heap.size) (.sl (List.map PT.e z33.1))),.mp 20621,.mp 20622]),(20621,.mapH z33.2.1 [.u16,.u64] true (zO DT.k (EV.eO (vD ctx1.w0.heap.size)) z33.2.2.1)),(20622,.mapH z33.2.2.2.1 [.u16,.u64] true (zO DT.k (EV.eO (vD ctx1.w0.heap.size)) z33.2.2.2.2)),(41,.cells 73 [.d (.od (zT ctx3) (.sl (List.map PT.e ([]:List PT)))),.mp 20821,.mp 20822]),(20821,.mapH true [.u16,.u64] true (zO DT.k (EV.eO (zT ctx3)) ([]:List (DT×EV)))),(20822,.mapH true [.u16,.u64] true (zO DT.k (EV.eO (zT ctx3)) ([]:List (DT×EV))))]⟩ rfl (fun w=>(.cons rfl (.same _)<|.cons rfl (.same _)<|.cons rfl (.same _)<|.cons rfl (.same _)<|.cons rfl (.same _)<|.cons rfl (.same _)<|.cons rfl (.same _)<|.cons rfl (.same _)<|.nil)) (fun w=>(.cons rfl (.same _)<|.cons rfl (.same _)<|.cons rfl (.same _)<|.cons rfl (.same _)<|.cons rfl (.same _)<|.cons rfl (.same _)<|.cons rfl (.same _)<|.cons rfl (.cells (.cons (.nilOd _)<|.cons (.same _)<|.cons (.same _)<|.nil))<|.cons rfl (.same _)<|.cons rfl (.same _)<|.nil)) ?_;refine zH ?_;refine ws (LR.weak (lD isAgg24 rfl rfl rfl) (Wk.nw _ _)) ?_;obtain⟨y42,hy43,h⟩:=zP h;refine ws (LR.callObjSN [(100,41),(101,20821),(102,20822)] [] [100,101,102] [(100,.cells 73 [.d (.od (zT ctx3) (.sl (List.map PT.e y42))),.mp 101,.mp 102])] [(101,.mapH true [.u16,.u64] true (zO DT.k (EV.eO (zT ctx3)) ([]:List (DT×EV)))),(102,.mapH true [.u16,.u64] true (zO DT.k (EV.eO (zT ctx3)) ([]:List (DT×EV))))] (qD (zT ctx3) y34.from_ [] true [] true [] y42 hy43) (fun _ h=>h) hK3 rfl call13 rfl (by first | rfl | (simp;done) | (simp[PV.nilD,PV.ren,rn] <;> omega)) (by repeat' first | constructor | (congr 1;first | (simp;done) | (simp;omega) | omega)) (.cons rfl<|.nil) (.cons rfl<|.cons rfl<|.nil) (by repeat' first | constructor | (congr 1;first | (simp;done) | (simp;omega) | omega)) rfl rfl rfl rfl rfl rfl) ?_;refine g5 ?_;refine PWc.re (tl:=[(1,.d (.od (vD ctx1.w0.heap.size) (.sl (List.map PT.e from2)))),(5,.ref 5 0),(6,.ref 20620 0),(7,zJ .i64 0),(8,.ref 8 0),(9,.ref 9 0),(10,.ref 10 0),(11,.ref 41 0)]) (to:=[(5,.cells 30 ((RB.F v12 (.od (vD ctx1.w0.heap.size))).map .d)),(8,.cells 38 ((DL.F y34 (.nw (ltB (zT ctx1) ctx2.w0.heap.size))).map .d)),(9,.cells 38 ((DL.F y34 (.nw (ltB (zT ctx2) B))).map .d)),(10,.cells 38 ((DL.F y34 (.nw (ltB (Jd ctx2 B) ctx3.w0.heap.size))).map .d)),(20620,.cells 73 [.d (.od (vD ctx1.w0.heap.size) (.sl (List.map PT.e z33.1))),.mp 20621,.mp 20622]),(20621,.mapH z33.2.1 [.u16,.u64] true (zO DT.k (EV.eO (vD ctx1.w0.heap.size)) z33.2.2.1)),(20622,.mapH z33.2.2.2.1 [.u16,.u64] true (zO DT.k (EV.eO (vD ctx1.w0.heap.size)) z33.2.2.2.2)),(41,.cells 73 [.d (.od (zT ctx3) (.sl (List.map PT.e y42))),.mp 20821,.mp 20822]),(20821,.mapH true [.u16,.u64] true (zO DT.k (EV.eO (zT ctx3)) ([]:List (DT×EV)))),(20822,.mapH true [.u16,.u64] true (zO DT.k (EV.eO (zT ctx3)) ([]:List (DT×EV))))]) rfl (.c4 rfl rfl rfl rfl rfl rfl rfl rfl<|.c4 rfl rfl rfl rfl rfl rfl rfl rfl<|.nil) (.c4 rfl rfl rfl rfl rfl rfl rfl rfl<|.c4 rfl rfl rfl rfl rfl rfl rfl rfl<|.c2 rfl rfl rfl rfl<|.nil) ?_;refine zL ?_;refine ws (LR.weak (lA (ps:=((DL.F y34 (.nw (ltB (zT ctx1) ctx2.w0.heap.size))).map .d)) isAgg38 sizeOf38 rfl rfl rfl rfl) (FL.wk (uX y34) (f:=.nw (ltB (zT ctx1) ctx2.w0.heap.size)) (f':=fun x=>x) (fun y=>WkD.nw _ y))) ?_;obtain⟨y44,hy45,h⟩:=zP h;refine ws (LR.callObjN [(100,41),(101,20821),(102,20822)] [] [100,101,102] (QP (zT ctx3) y34 y42 true [] true [] y44 hy45) (fun _ h=>h) hK3 rfl call14 rfl (by first | rfl | (simp;done) | (simp[PV.nilD,PV.ren,rn] <;> omega)) (by repeat' first | constructor | (congr 1;first | (simp;done) | (simp;omega) | omega)) rfl rfl rfl rfl) ?_;refine zC ?_;refine PWc.re (tl:=[(1,.d (.od (vD ctx1.w0.heap.size) (.sl (List.map PT.e from2)))),(5,.ref 5 0),(6,.ref 20620 0),(7,zJ .i64 0),(8,.ref 8 0),(9,.ref 9 0),(10,.ref 10 0),(11,.ref 41 0),(12,zJ .i64 y44.1)]) (to:=[(5,.cells 30 ((RB.F v12 (.od (vD ctx1.w0.heap.size))).map .d)),(8,.cells 38 ((DL.F y34 (.nw (ltB (zT ctx1) ctx2.w0.heap.size))).map .d)),(9,.cells 38 ((DL.F y34 (.nw (ltB (zT ctx2) B))).map .d)),(10,.cells 38 ((DL.F y34 (.nw (ltB (Jd ctx2 B) ctx3.w0.heap.size))).map .d)),(20620,.cells 73 [.d (.od (vD ctx1.w0.heap.size) (.sl (List.map PT.e z33.1))),.mp 20621,.mp 20622]),(20621,.mapH z33.2.1 [.u16,.u64] true (zO DT.k (EV.eO (vD ctx1.w0.heap.size)) z33.2.2.1)),(20622,.mapH z33.2.2.2.1 [.u16,.u64] true (zO DT.k (EV.eO (vD ctx1.w0.heap.size)) z33.2.2.2.2)),(41,.cells 73 [.d (.od (zT ctx3) (.sl (List.map PT.e y44.2.1))),.mp 20821,.mp 20822]),(20821,.mapH y44.2.2.1 [.u16,.u64] true (zO DT.k (EV.eO (zT ctx3)) y44.2.2.2.1)),(20822,.mapH y44.2.2.2.2.1 [.u16,.u64] true (zO DT.k (EV.eO (zT ctx3)) y44.2.2.2.2.2))]) rfl (.c4 rfl rfl rfl rfl rfl rfl rfl rfl<|.c4 rfl rfl rfl rfl rfl rfl rfl rfl<|.cons rfl rfl<|.nil) (.c4 rfl rfl rfl rfl rfl rfl rfl rfl<|.c4 rfl rfl rfl rfl rfl rfl rfl rfl<|.c2 rfl rfl rfl rfl<|.nil) ?_;refine zL ?_;replace h:=zK h;refine PWl.callObjR [(100,41),(101,20821),(102,20822),(16,50),(30321,21001),(30322,21002)] [] [100,101,102,16,30321,30322] (yka (zT ctx3) (zT ctx3) (zT ctx3) y44.2.1 y44.2.2.1 y44.2.2.2.1 y44.2.2.2.2.1 y44.2.2.2.2.2 h) (fun a w ⟨g,hg⟩ b hb=>Nat.le_trans hg.grows hb) hK3 rfl call15 rfl (by first | rfl | (simp;done) | (simp[PV.nilD,PV.ren,rn] <;> omega)) (by repeat' first | constructor | (congr 1;first | (simp;done) | (simp;omega) | omega)) (fun _=>rfl) (fun _=>rfl) rfl rfl rfl (fun gh=>?_);obtain⟨y46,h⟩:=gh;refine yL [1,5,6,7,8,9,10,11,12,50] [5,8,9,10,41,50,20620,20621,20622,20821,20822,21001,21002] ?_;refine zC ?_;refine PWc.re (tl:=[(1,.d (.od (vD ctx1.w0.heap.size) (.sl (List.map PT.e from2)))),(5,.ref 5 0),(6,.ref 20620 0),(7,zJ .i64 0),(8,.ref 8 0),(9,.ref 9 0),(10,.ref 10 0),(11,.ref 41 0),(12,zJ .i64 y44.1),(13,.ref 50 0)]) (to:=[(5,.cells 30 ((RB.F v12 (.od (vD ctx1.w0.heap.size))).map .d)),(8,.cells 38 ((DL.F y34 (.nw (ltB (zT ctx1) ctx2.w0.heap.size))).map .d)),(9,.cells 38 ((DL.F y34 (.nw (ltB (zT ctx2) B))).map .d)),(10,.cells 38 ((DL.F y34 (.nw (ltB (Jd ctx2 B) ctx3.w0.heap.size))).map .d)),(20620,.cells 73 [.d (.od (vD ctx1.w0.heap.size) (.sl (List.map PT.e z33.1))),.mp 20621,.mp 20622]),(20621,.mapH z33.2.1 [.u16,.u64] true (zO DT.k (EV.eO (vD ctx1.w0.heap.size)) z33.2.2.1)),(20622,.mapH z33.2.2.2.1 [.u16,.u64] true (zO DT.k (EV.eO (vD ctx1.w0.heap.size)) z33.2.2.2.2)),(41,.cells 73 [.d (.od (zT ctx3) (.sl (List.map PT.e y44.2.1))),.mp 20821,.mp 20822]),(20821,.mapH y44.2.2.1 [.u16,.u64] true (zO DT.k (EV.eO (zT ctx3)) y44.2.2.2.1)),(20822,.mapH y44.2.2.2.2.1 [.u16,.u64] true (zO DT.k (EV.eO (zT ctx3)) y44.2.2.2.2.2)),(50,.cells 73 [.d (.od (zT ctx3) (.sl (List.map PT.e y46.1))),.mp 21001,.mp 21002]),(21001,.mapH y46.2.1 [.u16,.u64] true (zO DT.k (EV.eO (zT ctx3)) y46.2.2.1)),(21002,.mapH y46.2.2.2.1 [.u16,.u64] true (zO DT.k (EV.eO (zT ctx3)) y46.2.2.2.2))]) rfl (.c4 rfl rfl rfl rfl rfl rfl rfl rfl<|.c4 rfl rfl rfl rfl rfl rfl rfl rfl<|.c2 rfl rfl rfl rfl<|.nil) (.c4 rfl rfl rfl rfl rfl rfl rfl rfl<|.c4 rfl rfl rfl rfl rfl rfl rfl rfl<|.c4 rfl rfl rfl rfl rfl rfl rfl rfl<|.cons rfl rfl<|.nil) ?_;have d0:∀ b,(ltB (zT ctx1) ctx2.w0.heap.size) b->¬ (vD ctx1.w0.heap.size) b:=fun b h1 h2=>by have h3:ctx1.w0.heap.size<=b:=h1.1;have h4:b < ctx1.w0.heap.size:=h2;omega
     have d1:∀ b,(ltB (zT ctx1) ctx2.w0.heap.size) b->¬ (ltB (zT ctx2) B) b:=fun b h1 h2=>by have h3:b < ctx2.w0.heap.size:=h1.2;have h4:ctx2.w0.heap.size<=b:=h2.1;omega
     have d2:∀ b,(ltB (zT ctx1) ctx2.w0.heap.size) b->¬ (ltB (Jd ctx2 B) ctx3.w0.heap.size) b:=fun b h1 h2=>by have h3:b < ctx2.w0.heap.size:=h1.2;have h4:ctx2.w0.heap.size<=b:=h2.1.2;omega
     have d3:∀ b,(ltB (zT ctx1) ctx2.w0.heap.size) b->¬ (zT ctx3) b:=fun b h1 h2=>by have h3:b < ctx2.w0.heap.size:=h1.2;have h4:ctx3.w0.heap.size<=b:=h2;omega
     have o0:∀ b,(ltB (Jd ctx2 B) ctx3.w0.heap.size) b->¬ (vD ctx1.w0.heap.size) b:=fun b h1 h2=>by have h3:ctx2.w0.heap.size<=b:=h1.1.2;have h4:b < ctx1.w0.heap.size:=h2;omega
     have o1:∀ b,(ltB (Jd ctx2 B) ctx3.w0.heap.size) b->¬ (ltB (zT ctx2) B) b:=fun b h1 h2=>by have h3:B<=b:=h1.1.1;have h4:b < B:=h2.2;omega
     have o3:∀ b,(ltB (Jd ctx2 B) ctx3.w0.heap.size) b->¬ (zT ctx3) b:=fun b h1 h2=>by have h3:b < ctx3.w0.heap.size:=h1.2;have h4:ctx3.w0.heap.size<=b:=h2;omega
     refine zC ?_;refine ws (lA (ps:=((DL.F y34 (.nw (ltB (zT ctx1) ctx2.w0.heap.size))).map .d)) isAgg38 sizeOf38 rfl rfl rfl rfl)<|PWl.callSpoil (N:=(ltB (zT ctx1) ctx2.w0.heap.size)) (qs:=[.agg ((DL.F y34 (.nw (ltB (zT ctx1) ctx2.w0.heap.size))).map .d)]) (u:=⟨94,[(1,.d (.od (vD ctx1.w0.heap.size) (.sl (List.map PT.e from2)))),(5,.ref 5 0),(6,.ref 20620 0),(7,zJ .i64 0),(9,.ref 9 0),(10,.ref 10 0),(11,.ref 41 0),(12,zJ .i64 y44.1),(13,.ref 50 0)],[(5,.cells 30 ((RB.F v12 (.od (vD ctx1.w0.heap.size))).map .d)),(9,.cells 38 ((DL.F y34 (.nw (ltB (zT ctx2) B))).map .d)),(10,.cells 38 ((DL.F y34 (.nw (ltB (Jd ctx2 B) ctx3.w0.heap.size))).map .d)),(20620,.cells 73 [.d (.od (vD ctx1.w0.heap.size) (.sl (List.map PT.e z33.1))),.mp 20621,.mp 20622]),(20621,.mapH z33.2.1 [.u16,.u64] true (zO DT.k (EV.eO (vD ctx1.w0.heap.size)) z33.2.2.1)),(20622,.mapH z33.2.2.2.1 [.u16,.u64] true (zO DT.k (EV.eO (vD ctx1.w0.heap.size)) z33.2.2.2.2)),(41,.cells 73 [.d (.od (zT ctx3) (.sl (List.map PT.e y44.2.1))),.mp 20821,.mp 20822]),(20821,.mapH y44.2.2.1 [.u16,.u64] true (zO DT.k (EV.eO (zT ctx3)) y44.2.2.2.1)),(20822,.mapH y44.2.2.2.2.1 [.u16,.u64] true (zO DT.k (EV.eO (zT ctx3)) y44.2.2.2.2.2)),(50,.cells 73 [.d (.od (zT ctx3) (.sl (List.map PT.e y46.1))),.mp 21001,.mp 21002]),(21001,.mapH y46.2.1 [.u16,.u64] true (zO DT.k (EV.eO (zT ctx3)) y46.2.2.1)),(21002,.mapH y46.2.2.2.1 [.u16,.u64] true (zO DT.k (EV.eO (zT ctx3)) y46.2.2.2.2))]⟩) (vqa y34 hsm) (fun b hb=>.inr (hin3 b (Nat.lt_of_lt_of_le hb.2 hB3) (.inr (hin2 b hb.2 (.inl hb.1))))) rfl call16 rfl rfl (spConv (uX y34) _) rfl (AvSl.get (.cons rfl rfl (.d (.od _ _ d0))<|.cons rfl rfl (.ref _ _)<|.cons rfl rfl (.ref _ _)<|.cons rfl rfl (.d (.v _))<|.cons rfl rfl (.ref _ _)<|.cons rfl rfl (.ref _ _)<|.cons rfl rfl (.ref _ _)<|.cons rfl rfl (.d (.v _))<|.cons rfl rfl (.ref _ _)<|.nil)) (AvOb.get (.cons rfl (AvO.fl (F:=RB.F v12) (flB v12) (fun _=>.od _ _ d0))<|.cons rfl (AvO.fl (F:=DL.F y34) (uX y34) (fun _=>.nw _ _ d1))<|.cons rfl (AvO.fl (F:=DL.F y34) (uX y34) (fun _=>.nw _ _ d2))<|.cons rfl (AvO.list (.cons (.d (.od _ _ d0))<|.cons (.mp _)<|.cons (.mp _)<|.nil))<|.cons rfl (AvO.fmap (F:=EV.F) flE (fun _=>.od _ _ d0))<|.cons rfl (AvO.fmap (F:=EV.F) flE (fun _=>.od _ _ d0))<|.cons rfl (AvO.list (.cons (.d (.od _ _ d3))<|.cons (.mp _)<|.cons (.mp _)<|.nil))<|.cons rfl (AvO.fmap (F:=EV.F) flE (fun _=>.od _ _ d3))<|.cons rfl (AvO.fmap (F:=EV.F) flE (fun _=>.od _ _ d3))<|.cons rfl (AvO.list (.cons (.d (.od _ _ d3))<|.cons (.mp _)<|.cons (.mp _)<|.nil))<|.cons rfl (AvO.fmap (F:=EV.F) flE (fun _=>.od _ _ d3))<|.cons rfl (AvO.fmap (F:=EV.F) flE (fun _=>.od _ _ d3))<|.nil)) ?_;refine zL ?_;refine ws (lA (ps:=((DL.F y34 (.nw (ltB (Jd ctx2 B) ctx3.w0.heap.size))).map .d)) isAgg38 sizeOf38 rfl rfl rfl rfl)<|PWl.callSpoil (N:=(ltB (Jd ctx2 B) ctx3.w0.heap.size)) (qs:=[.agg ((DL.F y34 (.nw (ltB (Jd ctx2 B) ctx3.w0.heap.size))).map .d)]) (u:=⟨94,[(1,.d (.od (vD ctx1.w0.heap.size) (.sl (List.map PT.e from2)))),(5,.ref 5 0),(6,.ref 20620 0),(7,zJ .i64 0),(9,.ref 9 0),(11,.ref 41 0),(12,zJ .i64 y44.1),(13,.ref 50 0)],[(5,.cells 30 ((RB.F v12 (.od (vD ctx1.w0.heap.size))).map .d)),(9,.cells 38 ((DL.F y34 (.nw (ltB (zT ctx2) B))).map .d)),(20620,.cells 73 [.d (.od (vD ctx1.w0.heap.size) (.sl (List.map PT.e z33.1))),.mp 20621,.mp 20622]),(20621,.mapH z33.2.1 [.u16,.u64] true (zO DT.k (EV.eO (vD ctx1.w0.heap.size)) z33.2.2.1)),(20622,.mapH z33.2.2.2.1 [.u16,.u64] true (zO DT.k (EV.eO (vD ctx1.w0.heap.size)) z33.2.2.2.2)),(41,.cells 73 [.d (.od (zT ctx3) (.sl (List.map PT.e y44.2.1))),.mp 20821,.mp 20822]),(20821,.mapH y44.2.2.1 [.u16,.u64] true (zO DT.k (EV.eO (zT ctx3)) y44.2.2.2.1)),(20822,.mapH y44.2.2.2.2.1 [.u16,.u64] true (zO DT.k (EV.eO (zT ctx3)) y44.2.2.2.2.2)),(50,.cells 73 [.d (.od (zT ctx3) (.sl (List.map PT.e y46.1))),.mp 21001,.mp 21002]),(21001,.mapH y46.2.1 [.u16,.u64] true (zO DT.k (EV.eO (zT ctx3)) y46.2.2.1)),(21002,.mapH y46.2.2.2.1 [.u16,.u64] true (zO DT.k (EV.eO (zT ctx3)) y46.2.2.2.2))]⟩) (vqa y34 hsm) (fun b hb=>.inr (hin3 b hb.2 (.inl hb.1.2))) rfl call16 rfl rfl (spConv (uX y34) _) rfl (AvSl.get (.cons rfl rfl (.d (.od _ _ o0))<|.cons rfl rfl (.ref _ _)<|.cons rfl rfl (.ref _ _)<|.cons rfl rfl (.d (.v _))<|.cons rfl rfl (.ref _ _)<|.cons rfl rfl (.ref _ _)<|.cons rfl rfl (.d (.v _))<|.cons rfl rfl (.ref _ _)<|.nil)) (AvOb.get (.cons rfl (AvO.fl (F:=RB.F v12) (flB v12) (fun _=>.od _ _ o0))<|.cons rfl (AvO.fl (F:=DL.F y34) (uX y34) (fun _=>.nw _ _ o1))<|.cons rfl (AvO.list (.cons (.d (.od _ _ o0))<|.cons (.mp _)<|.cons (.mp _)<|.nil))<|.cons rfl (AvO.fmap (F:=EV.F) flE (fun _=>.od _ _ o0))<|.cons rfl (AvO.fmap (F:=EV.F) flE (fun _=>.od _ _ o0))<|.cons rfl (AvO.list (.cons (.d (.od _ _ o3))<|.cons (.mp _)<|.cons (.mp _)<|.nil))<|.cons rfl (AvO.fmap (F:=EV.F) flE (fun _=>.od _ _ o3))<|.cons rfl (AvO.fmap (F:=EV.F) flE (fun _=>.od _ _ o3))<|.cons rfl (AvO.list (.cons (.d (.od _ _ o3))<|.cons (.mp _)<|.cons (.mp _)<|.nil))<|.cons rfl (AvO.fmap (F:=EV.F) flE (fun _=>.od _ _ o3))<|.cons rfl (AvO.fmap (F:=EV.F) flE (fun _=>.od _ _ o3))<|.nil)) ?_;refine g5 ?_;refine PWc.conv ⟨94,[(1,zZ PT.e from2),(5,.ref 5 0),(6,.ref 20620 0),(7,zJ .i64 0),(9,.ref 9 0),(11,.ref 41 0),(12,zJ .i64 y44.1),(13,.ref 50 0)],[(5,.cells 30 ((RB.F v12 fun x=>x).map .d)),(9,.cells 38 ((DL.F y34 fun x=>x).map .d)),(20620,.cells 73 [.d ((.sl (List.map PT.e z33.1))),.mp 20621,.mp 20622]),(20621,.mapH z33.2.1 [.u16,.u64] true (zO DT.k (EV.e) z33.2.2.1)),(20622,.mapH z33.2.2.2.1 [.u16,.u64] true (zO DT.k (EV.e) z33.2.2.2.2)),(41,.cells 73 [.d ((.sl (List.map PT.e y44.2.1))),.mp 20821,.mp 20822]),(20821,.mapH y44.2.2.1 [.u16,.u64] true (zO DT.k (EV.e) y44.2.2.2.1)),(20822,.mapH y44.2.2.2.2.1 [.u16,.u64] true (zO DT.k (EV.e) y44.2.2.2.2.2)),(50,.cells 73 [.d ((.sl (List.map PT.e y46.1))),.mp 21001,.mp 21002]),(21001,.mapH y46.2.1 [.u16,.u64] true (zO DT.k (EV.e) y46.2.2.1)),(21002,.mapH y46.2.2.2.1 [.u16,.u64] true (zO DT.k (EV.e) y46.2.2.2.2))]⟩ rfl (fun w=>(.cons rfl ((Wk.od _ _).cv w)<|.cons rfl (.same _)<|.cons rfl (.same _)<|.cons rfl (.same _)<|.cons rfl (.same _)<|.cons rfl (.same _)<|.cons rfl (.same _)<|.cons rfl (.same _)<|.nil)) (fun w=>(.cons rfl (CvO.fl (F:=RB.F v12) (f':=fun x=>x) (flB v12) (fun S y u _ hd=>hd.unod))<|.cons rfl (CvO.fl (F:=DL.F y34) (f':=fun x=>x) (uX y34) (fun S y u _ hd=>hd.unmark))<|.cons rfl (.cells (.cons ((Wk.od _ _).cv w)<|.cons (.same _)<|.cons (.same _)<|.nil))<|.cons rfl (CvO.map (F:=EV.F) flE (f':=fun x=>x) (fun x S y u _ hd=>hd.unod))<|.cons rfl (CvO.map (F:=EV.F) flE (f':=fun x=>x) (fun x S y u _ hd=>hd.unod))<|.cons rfl (.cells (.cons ((Wk.od _ _).cv w)<|.cons (.same _)<|.cons (.same _)<|.nil))<|.cons rfl (CvO.map (F:=EV.F) flE (f':=fun x=>x) (fun x S y u _ hd=>hd.unod))<|.cons rfl (CvO.map (F:=EV.F) flE (f':=fun x=>x) (fun x S y u _ hd=>hd.unod))<|.cons rfl (.cells (.cons ((Wk.od _ _).cv w)<|.cons (.same _)<|.cons (.same _)<|.nil))<|.cons rfl (CvO.map (F:=EV.F) flE (f':=fun x=>x) (fun x S y u _ hd=>hd.unod))<|.cons rfl (CvO.map (F:=EV.F) flE (f':=fun x=>x) (fun x S y u _ hd=>hd.unod))<|.nil)) ?_;refine g5 ?_;refine uU [1,5,6,7,9,11,12,13] [5,9,41,50,20620,20621,20622,20821,20822,21001,21002] ?_;refine yN (zK h) 94 [] [] (fun v48=>([(4,.d (.v (.bool v48)))],[])) (fun h=>?_) ?_
     ·refine PWc.regionF [{ws:=[55]},{ws:=[56]},{ws:=[57]},{ws:=[58]},{ws:=[59]},{ws:=[60]},{ws:=[61]},⟨[62],[],[9],[],[],[],[],[]⟩,⟨[63],[],[5],[],[],[],[],[]⟩,{ws:=[64]},{ws:=[65]},{ws:=[66]},{ws:=[67]},{ws:=[68]},zt [69] [20620],⟨[70],[],[5],[],[],[],[],[]⟩,⟨[71],[],[20620,20621,20622],[],[],[],[],[]⟩,{ws:=[72]},{ws:=[73]},{ws:=[74]},zt [75] [41],zt [76] [50],⟨[77],[],[41,50,20821,20822,21001,21002],[],[],[],[],[]⟩,{ws:=[78]},{ws:=[79]},⟨[80],[],[9],[],[],[],[],[]⟩,{ws:=[81]},{ws:=[82]},{ws:=[83]},{ws:=[84]},{ws:=[85]},{ws:=[86]},{ws:=[87]},{ws:=[88]},{ws:=[89]},{ws:=[90]},{ws:=[91]},{ws:=[92]},{ws:=[93]},{ws:=[4]}] (by kernel_rfl) (by kernel_rfl) rfl ?_;refine yU ?_;refine PQe.stepP (fun _ U W=>mV (U rfl rfl)) (.inr ⟨_,_,_,rfl,rfl,rfl⟩) rfl ?_;refine PQe.stepP (fun _ U W=>eQ (U rfl rfl) (U rfl rfl)) (.inr ⟨_,_,_,rfl,rfl,rfl⟩) rfl ?_;refine zy ?_;refine PQe.split (d:=61) rfl (fun hg49=>?_) (fun hg49=>?_)
      ·replace h:=iT hg49 h;refine PQe.stepP (fun _ U W=>lA (ps:=[_,_,_]) isAgg38 sizeOf38 (U rfl rfl) (W rfl rfl) rfl rfl) (.inr ⟨_,_,_,rfl,rfl,rfl⟩) rfl ?_;refine PQe.stepP (fun _ U W=>lA (ps:=[_,_]) isAgg30 sizeOf30 (U rfl rfl) (W rfl rfl) rfl rfl) (.inr ⟨_,_,_,rfl,rfl,rfl⟩) rfl ?_;refine PQe.stepP (fun _ U W=>mV (U rfl rfl)) (.inr ⟨_,_,_,rfl,rfl,rfl⟩) rfl ?_;obtain⟨v50,hy51,h⟩:=zP h;refine PQe.stepP (fun _ U W=>cN (zta hy51) (U rfl rfl) call18 (xY U rfl rfl) rfl rfl rfl) (.inr ⟨_,_,_,rfl,rfl,rfl⟩) rfl ?_;obtain⟨v52,hy53,h⟩:=zP h;refine PQe.stepP (fun _ U W=>cN (yta hy53) (U rfl rfl) call17 (xY U rfl rfl) rfl rfl rfl) (.inr ⟨_,_,_,rfl,rfl,rfl⟩) rfl ?_;refine zy ?_;refine PQe.split (d:=68) rfl (fun hg54=>?_) (fun hg54=>?_)
       ·replace h:=iT hg54 h;refine PQe.stepP (fun _ U W=>mV (U rfl rfl)) (.inr ⟨_,_,_,rfl,rfl,rfl⟩) rfl ?_;refine PQe.stepP (fun _ U W=>lA (ps:=[_,_]) isAgg30 sizeOf30 (U rfl rfl) (W rfl rfl) rfl rfl) (.inr ⟨_,_,_,rfl,rfl,rfl⟩) rfl ?_;obtain⟨y55,hy56,h⟩:=zP h;refine PQe.callObjS [(100,20620),(101,20621),(102,20622)] [] [100,101,102] [] [(100,.cells 73 [zZ PT.e z33.1,.mp 101,.mp 102]),(101,.mapH z33.2.1 [.u16,.u64] true (zO DT.k EV.e z33.2.2.1)),(102,.mapH z33.2.2.2.1 [.u16,.u64] true (zO DT.k EV.e z33.2.2.2.2))] (yva hy56) hK3 (fun _ U=>⟨U rfl rfl,xY U rfl rfl⟩) call19 (by first | rfl | (simp;done) | (simp[PV.nilD,PV.ren,rn] <;> omega)) (by repeat' first | constructor | (congr 1;first | (simp;done) | (simp;omega) | omega)) (.nil) (.cons rfl<|.cons rfl<|.cons rfl<|.nil) (by repeat' first | constructor | (congr 1;first | (simp;done) | (simp;omega) | omega)) rfl rfl rfl rfl rfl rfl (.inr ⟨_,_,_,rfl,rfl,rfl⟩) rfl ?_;refine PQe.stepP (fun _ U W=>eQ (U rfl rfl) (U rfl rfl)) (.inr ⟨_,_,_,rfl,rfl,rfl⟩) rfl ?_;refine zy ?_;refine PQe.split (d:=74) rfl (fun hg57=>?_) (fun hg57=>?_)
        ·replace h:=iT hg57 h;refine PQe.stepP (fun _ U W=>mV (U rfl rfl)) (.inr ⟨_,_,_,rfl,rfl,rfl⟩) rfl ?_;refine PQe.stepP (fun _ U W=>mV (U rfl rfl)) (.inr ⟨_,_,_,rfl,rfl,rfl⟩) rfl ?_;obtain⟨y58,hy59,h⟩:=zP h;refine PQe.callObjS [(100,41),(101,50),(102,20821),(103,20822),(104,21001),(105,21002)] [] [100,101,102,103,104,105] [] [(100,.cells 73 [zZ PT.e y44.2.1,.mp 102,.mp 103]),(101,.cells 73 [zZ PT.e y46.1,.mp 104,.mp 105]),(102,.mapH y44.2.2.1 [.u16,.u64] true (zO DT.k EV.e y44.2.2.2.1)),(103,.mapH y44.2.2.2.2.1 [.u16,.u64] true (zO DT.k EV.e y44.2.2.2.2.2)),(104,.mapH y46.2.1 [.u16,.u64] true (zO DT.k EV.e y46.2.2.1)),(105,.mapH y46.2.2.2.1 [.u16,.u64] true (zO DT.k EV.e y46.2.2.2.2))] (WZ hy59) hK3 (fun _ U=>⟨U rfl rfl,xY U rfl rfl⟩) call20 (by first | rfl | (simp;done) | (simp[PV.nilD,PV.ren,rn] <;> omega)) (by repeat' first | constructor | (congr 1;first | (simp;done) | (simp;omega) | omega)) (.nil) (.cons rfl<|.cons rfl<|.cons rfl<|.cons rfl<|.cons rfl<|.cons rfl<|.nil) (by repeat' first | constructor | (congr 1;first | (simp;done) | (simp;omega) | omega)) rfl rfl rfl rfl rfl rfl (.inr ⟨_,_,_,rfl,rfl,rfl⟩) rfl ?_;refine zy ?_;refine PQe.split (d:=79) rfl (fun hg60=>?_) (fun hg60=>?_)
         ·replace h:=iT hg60 h;refine PQe.stepP (fun _ U W=>lA (ps:=[_,_,_]) isAgg38 sizeOf38 (U rfl rfl) (W rfl rfl) rfl rfl) (.inr ⟨_,_,_,rfl,rfl,rfl⟩) rfl ?_;obtain⟨v61,hy62,h⟩:=zP h;refine PQe.stepP (fun _ U W=>cN (Vn hy62) (U rfl rfl) call14 (xY U rfl rfl) rfl rfl rfl) (.inr ⟨_,_,_,rfl,rfl,rfl⟩) rfl ?_;refine PQe.stepP (fun _ U W=>eQ (U rfl rfl) (U rfl rfl)) (.inr ⟨_,_,_,rfl,rfl,rfl⟩) rfl ?_;refine zy ?_;refine PQe.split (d:=84) rfl (fun hg63=>?_) (fun hg63=>?_)
          ·replace h:=iT hg63 h;refine PQe.stepP (fun _ U W=>mV (U rfl rfl)) (.inr ⟨_,_,_,rfl,rfl,rfl⟩) rfl ?_;obtain⟨v64,hy65,h⟩:=zP h;refine PQe.stepP (fun _ U W=>cN (Vm hy65) (U rfl rfl) call10 (xY U rfl rfl) rfl rfl rfl) (.inr ⟨_,_,_,rfl,rfl,rfl⟩) rfl ?_;refine PQe.stepP (fun _ U W=>LR.fieldV underlying38 rfl isAgg24 rfl (U rfl rfl) rfl) (.inr ⟨_,_,_,rfl,rfl,rfl⟩) rfl ?_;refine PQe.stepP (fun _ U W=>lM (enc:=PT.e) (L:=v64.to_) underlying24 (U rfl rfl)) (.inr ⟨_,_,_,rfl,rfl,rfl⟩) rfl ?_;refine PQe.stepP (fun _ U W=>eQ (U rfl rfl) (U rfl rfl)) (.inr ⟨_,_,_,rfl,rfl,rfl⟩) rfl ?_;refine zy ?_;refine PQe.split (d:=91) rfl (fun hg66=>?_) (fun hg66=>?_)
           ·replace h:=iT hg66 h;obtain⟨v67,hy68,h⟩:=zP h;refine PQe.stepP (fun _ U W=>cN (Ue v67 hy68) (U rfl rfl) call6 (xY U rfl rfl) rfl rfl rfl) (.inr ⟨_,_,_,rfl,rfl,rfl⟩) rfl ?_;refine zy ?_;refine PQe.nil ?_;exact⟨v67,(),h,sP⟩
           ·replace h:=iF hg66 h;refine yU ?_;refine PQe.nil ?_;exact⟨false,(),h,sP⟩
          ·replace h:=iF hg63 h;refine vVa ?_;refine PQe.nil ?_;exact⟨false,(),h,sP⟩
         ·replace h:=iF hg60 h;refine hs15A6 ?_;refine PQe.nil ?_;exact⟨false,(),h,sP⟩
        ·replace h:=iF hg57 h;refine xXa ?_;refine PQe.nil ?_;exact⟨false,(),h,sP⟩
       ·replace h:=iF hg54 h;refine hs26A6 ?_;refine PQe.nil ?_;exact⟨false,(),h,sP⟩
      ·replace h:=iF hg49 h;refine hs33A6 ?_;refine PQe.nil ?_;exact⟨false,(),h,sP⟩
     ·rintro v48 _ h;refine wX ?_;cases h;exact xT
end Go.Proofs
namespace Go.Ep
open Go
theorem jx{n:Int}(h:-9223372036854775808<=n)(h':n<=9223372036854775807):IntKind.i64.wrap n=n:=by simp[IntKind.wrap,IntKind.bits,IntKind.signed];omega
theorem wU64{n:Int}(h:0<=n)(h':n<=18446744073709551615):IntKind.u64.wrap n=n:=by simp[IntKind.wrap,IntKind.bits,IntKind.signed];omega
theorem wU16{n:Int}(h:0<=n)(h':n<=65535):IntKind.u16.wrap n=n:=by simp[IntKind.wrap,IntKind.bits,IntKind.signed];omega
theorem yS{i:Nat}(h:i < 9223372036854775807):IntKind.i64.wrap ((i:Int)+1)=((i+1:Nat):Int):=by rw[jx (by omega) (by omega)];rfl
namespace M
variable{α β σ ρ τ ε:Type}
theorem xB(p:Prop)[Decidable p](x y:M α):cond (decide p) x y=if p then x else y:=by by_cases h:p <;> simp[h]
theorem Yj{body:σ->M (Step σ ρ)}(l:List ε)(mk:Nat->τ->σ)(f:τ->ε->τ)(g:τ->M ρ)
  (I:Nat->τ->Prop) (h1:∀ (i:Nat) (x:ε) (t:τ),l[i]?=some x->i < l.length->I i t->body (mk i t)=pure (.next (mk (i+1) (f t x)))/\I (i+1) (f t x))
  (h2:∀ t,I l.length t->body (mk l.length t)=(g t).bind fun r=>pure (.done r)) (t0:τ) (h0:I 0 t0):loop body (mk 0 t0)=g (l.foldl f t0):=by
 have key:∀ k i t,i+k=l.length->I i t->loop body (mk i t)=g ((l.drop i).foldl f t):=by
  intro k
  induction k with
  | zero=>
   intro i t hi hI;have:i=l.length:=by omega
   subst this;rw[qj,h2 t hI,List.drop_length]
   rfl
  | succ k ih=>
   intro i t hi hI;have hlt:i < l.length:=by omega
   obtain⟨h3,h4⟩:=h1 i l[i] t (List.getElem?_eq_getElem hlt) hlt hI;rw[yT h3,ih (i+1) _ (by omega) h4,List.drop_eq_getElem_cons hlt]
   rfl
 simpa using key l.length 0 t0 (by omega) h0
theorem loopF{body:σ->M (Step σ ρ)}(l:List ε)(mk:Nat->σ)(p:Nat->ε->Bool)(r:Nat->ε->ρ)(d:M ρ)
  (h1:∀ (i:Nat) (x:ε),l[i]?=some x->i < l.length->body (mk i)=if p i x then pure (.done (r i x)) else pure (.next (mk (i+1))))
  (h2:body (mk l.length)=d.bind fun r=>pure (.done r)):loop body (mk 0)=match (l.zipIdx).find? (fun y=>p y.2 y.1) with | some y=>pure (r y.2 y.1) | none=>d:=by
 have key:∀ k i,i+k=l.length->loop body (mk i)=match ((l.drop i).zipIdx i).find? (fun y=>p y.2 y.1) with | some y=>pure (r y.2 y.1) | none=>d:=by
  intro k
  induction k with
  | zero=>
   intro i hi;have:i=l.length:=by omega
   subst this;rw[qj,h2,List.drop_length]
   rfl
  | succ k ih=>
   intro i hi;have hlt:i < l.length:=by omega
   have h3:=h1 i l[i] (List.getElem?_eq_getElem hlt) hlt;rw[List.drop_eq_getElem_cons hlt,List.zipIdx_cons,List.find?_cons]
   by_cases hp:p i l[i]=true
   ·rw[if_pos hp] at h3;rw[yP h3];simp[hp]
   ·rw[if_neg hp] at h3;rw[yT h3,ih (i+1) (by omega)];simp[hp]
 simpa using key l.length 0 (by omega)
theorem wH{body:σ->M (Step σ ρ)}(l:List ε)(mk:Nat->σ)(p:Nat->ε->Bool)(r1 r2:ρ)
  (h1:∀ (i:Nat) (x:ε),l[i]?=some x->i < l.length->body (mk i)=if p i x then pure (.next (mk (i+1))) else pure (.done r2))
  (h2:body (mk l.length)=pure (.done r1)):loop body (mk 0)=pure (if l.zipIdx.all (fun y=>p y.2 y.1) then r1 else r2):=by
 have key:∀ k i,i+k=l.length->loop body (mk i)=pure (if ((l.drop i).zipIdx i).all (fun y=>p y.2 y.1) then r1 else r2):=by
  intro k
  induction k with
  | zero=>
   intro i hi;have:i=l.length:=by omega
   subst this;rw[yP h2,List.drop_length]
   rfl
  | succ k ih=>
   intro i hi;have hlt:i < l.length:=by omega
   have h3:=h1 i l[i] (List.getElem?_eq_getElem hlt) hlt;rw[List.drop_eq_getElem_cons hlt,List.zipIdx_cons,List.all_cons]
   by_cases hp:p i l[i]=true
   ·rw[if_pos hp] at h3;rw[yT h3,ih (i+1) (by omega),hp,Bool.true_and]
   ·rw[if_neg hp] at h3;rw[yP h3];simp[hp]
 have:=key l.length 0 (by omega);rw[List.drop_zero] at this;exact this
def came{ε:Type}(m:List ε)(L:List Nat):List ε:=L.filterMap fun i=>m[i]?
theorem vza{m:List ε}{L:List Nat}{i:Nat}{y:ε}(h:m[i]?=some y):came m (L++[i])=came m L++[y]:=by simp[came,h]
theorem QW{n:Nat}{L:List Nat}(hn:L.Nodup)(hb:∀ i∈L,i < n)(ha:∀ i,i < n->i∈L):L.Perm (List.range n):=by
 refine(List.perm_ext_iff_of_nodup hn List.nodup_range).2 fun i=>?_
 rw[List.mem_range];exact⟨hb i,ha i⟩
theorem v0a{m:List ε}{L:List Nat}(hn:L.Nodup)(hb:∀ i∈L,i < m.length)(ha:∀ i,i < m.length->i∈L):(came m L).Perm m:=by
 have h1:=(QW hn hb ha).filterMap fun i=>m[i]?
 have h2:(List.range m.length).filterMap (fun i=>m[i]?)=m:=by
  apply List.ext_getElem?;intro i;clear h1 hn hb ha;have:(List.range m.length).filterMap (fun i=>m[i]?)=m:=by
   induction m with
   | nil=>rfl
   | cons x r ih=>
    rw[List.length_cons,List.range_succ_eq_map,List.filterMap_cons];simp only[List.getElem?_cons_zero,List.filterMap_map]
    congr 1
  rw[this]
 rw[h2] at h1;exact h1
theorem v1a{n:Nat}{L:List Nat}(hn:L.Nodup)(hb:∀ i∈L,i < n):L.length<=n:=by
 have:=List.Nodup.length_le_of_subset hn (l₂:=List.range n) (fun i hi=>List.mem_range.2 (hb i hi));simpa using this
theorem full{n:Nat}{L:List Nat}(hn:L.Nodup)(hb:∀ i∈L,i < n)(hl:n<=L.length):∀ i,i < n->i∈L:=by
 intro i hi;refine Classical.byContradiction fun hni=>?_
 have:=v1a (n:=n) (L:=i::L) (List.nodup_cons.2 ⟨hni,hn⟩) (fun j hj=>by
  rcases List.mem_cons.1 hj with rfl | hj
  ·exact hi
  ·exact hb j hj)
 simp at this;omega
theorem loopM{body:σ->M (Step σ ρ)}(m:List ε)(mk:List Nat->τ->σ)(f:τ->ε->M τ)(g:τ->M ρ)(I:List ε->τ->Prop)(Q:ρ->Prop)
  (hb:∀ L t,(∀ i∈L,i < m.length)->body (mk L t)=yt (∀ i∈L,i < m.length) ((nxt m.length L).bind fun o=>match o with
   | none=>(g t).bind fun r=>pure (.done r)
   | some i=>(idx m (Int.ofNat i)).bind fun y=>(f t y).bind fun t'=>pure (.next (mk (L++[i]) t'))))
  (hs:∀ l t y,I l t->l.length < m.length->y∈m->∃ t',f t y=pure t'/\I (l++[y]) t') (he:∀ l t,l.Perm m->I l t->(g t).wp Q) (t0:τ) (h0:I [] t0):(loop body (mk [] t0)).wp Q:=by
 have key:∀ k L t,L.length+k=m.length->L.Nodup->(∀ i∈L,i < m.length)->I (came m L) t->Jc body Q (mk L t):=by
  intro k
  induction k with
  | zero=>
   intro L t hk hn hlt hI;refine YS ?_;rw[hb L t hlt];have hall:∀ i,i < m.length->i∈L:=fun i hi=>full hn hlt (by omega) i hi
   refine⟨hlt,⟨⟨none,hall⟩,fun o ho=>?_⟩⟩
   cases o with
   | none=>
    have:=he _ t (v0a hn hlt hall) hI;exact this
   | some i=>exact absurd (hall i ho.1) ho.2
  | succ k ih=>
   intro L t hk hn hlt hI;refine YS ?_;rw[hb L t hlt];have hex:∃ i,i < m.length/\i∉L:=by
    refine Classical.byContradiction fun hno=>?_
    have hall:∀ i,i < m.length->i∈L:=fun i hi=>Classical.byContradiction fun h=>hno ⟨i,hi,h⟩
    have:=(QW hn hlt hall).length_eq;simp at this;omega
   obtain⟨i0,hi0⟩:=hex;refine⟨hlt,⟨⟨some i0,hi0⟩,fun o ho=>?_⟩⟩
   cases o with
   | none=>exact absurd (ho i0 hi0.1) hi0.2
   | some i=>
    have hi:=List.getElem?_eq_getElem ho.1;obtain⟨t',h1,h2⟩:=hs (came m L) t m[i] hI (by have:=List.length_filterMap_le (fun i=>m[i]?) L;unfold came;omega) (List.getElem_mem ho.1);show((idx m (Int.ofNat i)).bind _).wp _;rw[show(Int.ofNat i)=(i:Int) from rfl,zN hi,zA,h1,zA];refine ih (L++[i]) t' (by simp;omega) ?_ ?_ (by rw[vza hi];exact h2)
    ·rw[List.nodup_append];refine⟨hn,by simp,fun a ha b hb'=>?_⟩;rw[List.mem_singleton.1 hb'];intro e;exact ho.2 (e▸ha)
    ·intro j hj;rcases List.mem_append.1 hj with hj | hj
     ·exact hlt j hj
     ·rw[List.mem_singleton.1 hj];exact ho.1
 exact key m.length [] t0 (by simp) List.nodup_nil (by simp) h0
theorem loopN{body:σ->M (Step σ ρ)}(n:Nat)(mk:List Nat->τ->σ)(I:List Nat->τ->Prop)(Q:ρ->Prop)
  (h:∀ L t,I L t->L.Nodup->(∀ i∈L,i < n)->∃ K:Option Nat->M (Step σ ρ),body (mk L t)=yt (∀ i∈L,i < n) ((nxt n L).bind K)/\((∀ i,i < n->i∈L)->(K none).wp (Step.post (fun _=>False) Q)) /\
   ∀ i,i < n->i∉L->∃ t',K (some i)=pure (.next (mk (L++[i]) t'))/\I (L++[i]) t') (t0:τ) (h0:I [] t0):(loop body (mk [] t0)).wp Q:=by
 have key:∀ k L t,L.length+k=n->L.Nodup->(∀ i∈L,i < n)->I L t->Jc body Q (mk L t):=by
  intro k
  induction k with
  | zero=>
   intro L t hk hn hlt hI;obtain⟨K,h1,h2,h3⟩:=h L t hI hn hlt;refine YS ?_;rw[h1];have hall:∀ i,i < n->i∈L:=full hn hlt (by omega);refine⟨hlt,⟨⟨none,hall⟩,fun o ho=>?_⟩⟩
   cases o with
   | none=>exact(K none).mono (fun a ha=>by cases a with | next s=>exact ha.elim | done r=>exact ha) (h2 hall)
   | some i=>exact absurd (hall i ho.1) ho.2
  | succ k ih=>
   intro L t hk hn hlt hI;obtain⟨K,h1,h2,h3⟩:=h L t hI hn hlt;refine YS ?_;rw[h1];have hex:∃ i,i < n/\i∉L:=by
    refine Classical.byContradiction fun hno=>?_
    have hall:∀ i,i < n->i∈L:=fun i hi=>Classical.byContradiction fun h=>hno ⟨i,hi,h⟩
    have:=(QW hn hlt hall).length_eq;simp at this;omega
   obtain⟨i0,hi0⟩:=hex;refine⟨hlt,⟨⟨some i0,hi0⟩,fun o ho=>?_⟩⟩
   cases o with
   | none=>exact absurd (ho i0 hi0.1) hi0.2
   | some i=>
    obtain⟨t',h4,h5⟩:=h3 i ho.1 ho.2;show(K (some i)).wp _;rw[h4];refine ih (L++[i]) t' (by simp;omega) ?_ ?_ h5
    ·rw[List.nodup_append];refine⟨hn,by simp,fun a ha b hb'=>?_⟩;rw[List.mem_singleton.1 hb'];intro e;exact ho.2 (e▸ha)
    ·intro j hj;rcases List.mem_append.1 hj with hj | hj
     ·exact hlt j hj
     ·rw[List.mem_singleton.1 hj];exact ho.1
 exact key n [] t0 (by simp) List.nodup_nil (by simp) h0
end M
namespace AL
variable{κ ν:Type}[DecidableEq κ]
theorem get_set(m:List (κ×ν))(k q:κ)(v:ν):get (set m k v) q=if k=q then some v else get m q:=by
 induction m with
 | nil=>simp[set,get]
 | cons x r ih=>
  obtain⟨a,u⟩:=x
  by_cases h:a=k
  ·subst h;simp only[set,if_true,get];split <;> rfl
  ·simp only[set,h,if_false,get,ih]
   by_cases h2:a=q
   ·subst h2;simp[Ne.symm h]
   ·simp[h2]
theorem getZ_set(m:List (κ×ν))(k q:κ)(v z:ν):getZ (set m k v) q z=if k=q then v else getZ m q z:=by
 unfold getZ;rw[get_set];split <;> rfl
theorem keys_set(m:List (κ×ν))(k:κ)(v:ν):(set m k v).map (·.1)=if k∈m.map (·.1) then m.map (·.1) else m.map (·.1)++[k]:=by
 induction m with
 | nil=>simp[set]
 | cons x r ih=>
  obtain⟨a,u⟩:=x
  by_cases h:a=k
  ·subst h;simp[set]
  ·simp only[set,h,if_false,List.map_cons,ih,List.mem_cons,Ne.symm h,false_or]
   split <;> simp
theorem nodup_set{m:List (κ×ν)}(h:(m.map (·.1)).Nodup)(k:κ)(v:ν):((set m k v).map (·.1)).Nodup:=by
 rw[keys_set]
 split
 ·exact h
 ·rename_i hk
  rw[List.nodup_append];refine⟨h,by simp,fun a ha b hb=>?_⟩;rw[List.mem_singleton.1 hb];intro e;exact hk (e▸ha)
theorem get_none{m:List (κ×ν)}{k:κ}:get m k=none↔k∉m.map (·.1):=by
 induction m with
 | nil=>simp[get]
 | cons x r ih=>
  obtain⟨a,u⟩:=x
  by_cases h:a=k
  ·subst h;simp[get]
  ·simp[get,h,ih,Ne.symm h]
theorem get_mem{m:List (κ×ν)}{k:κ}{v:ν}(h:get m k=some v):(k,v)∈m:=by
 induction m with
 | nil=>simp[get] at h
 | cons x r ih=>
  obtain⟨a,u⟩:=x
  by_cases e:a=k
  ·subst e;simp[get] at h;subst h;simp
  ·simp only[get,e,if_false] at h;exact List.mem_cons_of_mem _ (ih h)
theorem mem_get{m:List (κ×ν)}(hn:(m.map (·.1)).Nodup){k:κ}{v:ν}(h:(k,v)∈m):get m k=some v:=by
 induction m with
 | nil=>simp at h
 | cons x r ih=>
  obtain⟨a,u⟩:=x;simp only[List.map_cons,List.nodup_cons] at hn;rcases List.mem_cons.1 h with e | h
  ·cases e;simp[get]
  ·have:a≠k:=fun e=>hn.1 (e▸List.mem_map.2 ⟨(k,v),h,rfl⟩)
   simp only[get,this,if_false];exact ih hn.2 h
theorem len_set(m:List (κ×ν))(k:κ)(v:ν):(set m k v).length<=m.length+1:=by
 induction m with
 | nil=>simp[set]
 | cons x r ih=>
  obtain⟨a,u⟩:=x;unfold set
  split
  ·simp
  ·simpa using ih
end AL
end Go.Ep
namespace Go.Ep.M.V
open Go
def yn(d:DT):Bool:=decide (1<=d.dev)&&(decide (1<=d.n)&&decide (d.n<=281474976710655))
theorem wI{d:DT}:yn d=true↔1<=d.dev/\1<=d.n/\d.n<=281474976710655:=by simp[yn]
theorem Wq(d:DT):wc d=pure (yn d):=by
 unfold wc;rw[zn,zn,zA];refine congrArg pure ?_;rw[Bool.eq_iff_iff,wI];simp only[Bool.and_eq_true,decide_eq_true_eq];omega
theorem ZQ(d:DT):Zg d=pure (yn d):=by
 unfold Zg;rw[zn,zn,zA];refine congrArg pure ?_;rw[Bool.eq_iff_iff,wI];simp only[Bool.and_eq_true,decide_eq_true_eq];omega
theorem jy(a b:List DT)(h:a.length<=1000000000000):Vf a b=pure (decide (a=b)):=by
 unfold Vf
 by_cases hl:(a.length:Int)=b.length
 ·simp only[hl,decide_true,Bool.not_true,cond_false];have:=wH (body:=Ye a b) a (fun i=>(i:Int)) (fun i x=>decide (b[i]?=some x)) (.brk ()) (.ret false) (fun i x hx hi=>by
   have hb:i < b.length:=by omega
   unfold Ye;rw[zN hx,zN (List.getElem?_eq_getElem hb),yS (by omega)];simp only[zA,List.getElem?_eq_getElem hb,Option.some.injEq];have:decide ((i:Int) < (a.length:Int))=true:=by simpa using hi
   rw[this,cond_true]
   by_cases he:b[i]=x
   ·subst he;simp
   ·rw[if_neg (by simpa using he)];have:(decide (x.dev=b[i].dev)&&decide (x.n=b[i].n))=false:=by
     rw[Bool.eq_false_iff];intro hc;simp at hc;apply he
     cases x;cases hh:b[i];simp_all
    rw[this];rfl) (by
   unfold Ye;simp)
  rw[show(0:Int)=((0:Nat):Int) from rfl,this]
  by_cases he:a=b
  ·subst he;rw[if_pos]
   ·simp[zA,YT]
   ·rw[List.all_eq_true];intro ⟨x,i⟩ hx;rw[List.mk_mem_zipIdx_iff_getElem?] at hx;simpa using hx
  ·rw[if_neg]
   ·simp[he,zA,jS]
   ·intro hall;rw[List.all_eq_true] at hall;apply he;apply List.ext_getElem (by omega);intro i h1 h2;have:=hall (a[i],i) (by rw[List.mk_mem_zipIdx_iff_getElem?];exact List.getElem?_eq_getElem h1);simp[h2] at this;exact this.symm
 ·have hne:a≠b:=fun e=>hl (by rw[e])
  simp[hl,hne]
def ofV : List DT->Int->Int
 | [],_=>0
 | d::r,dev=>if d.dev=dev/\yn d=true then max d.n (ofV r dev) else ofV r dev
theorem v2a(v:List DT)(dev:Int):0<=ofV v dev/\ofV v dev<=281474976710655:=by
 induction v with
 | nil=>simp[ofV]
 | cons d r ih=>
  simp only[ofV]
  split
  ·rename_i h;have:=wI.1 h.2;omega
  ·exact ih
theorem ofV_pos{v:List DT}{dev:Int}:0 < ofV v dev↔∃ d∈v,d.dev=dev/\yn d=true:=by
 induction v with
 | nil=>simp[ofV]
 | cons d r ih=>
  simp only[ofV,List.mem_cons,exists_eq_or_imp]
  split
  ·rename_i h
   have:=wI.1 h.2
   constructor
   ·intro _;exact .inl h
   ·intro _;omega
  ·rename_i h
   rw[ih]
   constructor
   ·exact .inr
   ·rintro(hh | hh)
    ·exact absurd hh h
    ·exact hh
def Ja : List Int->Int->List Int
 | [],k=>[k]
 | a::r,k=>if k < a then k::a::r else if k=a then a::r else a::Ja r k
theorem jC{l:List Int}{k q:Int}:q∈Ja l k↔q=k\/q∈l:=by
 induction l with
 | nil=>simp[Ja]
 | cons a r ih=>
  unfold Ja
  split
  ·simp
  ·split
   ·rename_i h;subst h;simp
   ·simp only[List.mem_cons,ih];constructor
    ·rintro(h | h | h) <;> simp[h]
    ·rintro(h | h | h) <;> simp[h]
theorem ZR{l:List Int}(h:l.Pairwise (· < ·))(k:Int):(Ja l k).Pairwise (· < ·):=by
 induction l with
 | nil=>simp[Ja]
 | cons a r ih=>
  obtain⟨h1,h2⟩:=List.pairwise_cons.1 h;unfold Ja
  split
  ·rename_i hk
   refine List.pairwise_cons.2 ⟨fun x hx=>?_,h⟩;rcases List.mem_cons.1 hx with rfl | hx
   ·exact hk
   ·have:=h1 x hx;omega
  ·split
   ·exact h
   ·refine List.pairwise_cons.2 ⟨fun x hx=>?_,ih h2⟩;rcases jC.1 hx with rfl | hx
    ·omega
    ·exact h1 x hx
theorem Vo(l : List Int)(k : Int) : (Ja l k).length<=l.length+1 := by
  induction l with
  | nil => simp[Ja]
  | cons a r ih => unfold Ja; split <;> try split
                   all_goals simp_all
def Yk(l:List Int)(d:DT):List Int:=if yn d then Ja l d.dev else l
def devsL(v:List DT):List Int:=v.foldl Yk []
theorem Vp(v:List DT):∀ l:List Int,l.Pairwise (· < ·)->(v.foldl Yk l).Pairwise (· < ·)/\(∀ k,k∈v.foldl Yk l↔k∈l\/∃ d∈v,d.dev=k/\yn d=true)/\(v.foldl Yk l).length<=l.length+v.length:=by
 induction v with
 | nil=>intro l h;simp[h]
 | cons d r ih=>
  intro l h;simp only[List.foldl_cons];unfold Yk
  split
  ·rename_i hg
   obtain⟨h1,h2,h3⟩:=ih _ (ZR h d.dev);refine⟨h1,fun k=>?_,?_⟩
   ·have:=h2 k;unfold Yk at this;rw[this,jC]
    constructor
    ·rintro((rfl | h) | ⟨e,he,h⟩)
     ·exact .inr ⟨d,by simp,rfl,hg⟩
     ·exact .inl h
     ·exact .inr ⟨e,by simp[he],h⟩
    ·rintro(h | ⟨e,he,h⟩)
     ·exact .inl (.inr h)
     ·rcases List.mem_cons.1 he with rfl | he
      ·exact .inl (.inl h.1.symm)
      ·exact .inr ⟨e,he,h⟩
   ·have:=Vo l d.dev;simp only[List.length_cons];unfold Yk at h3;omega
  ·rename_i hg
   obtain⟨h1,h2,h3⟩:=ih _ h;refine⟨h1,fun k=>?_,?_⟩
   ·have:=h2 k;unfold Yk at this;rw[this]
    constructor
    ·rintro(h | ⟨e,he,h⟩)
     ·exact .inl h
     ·exact .inr ⟨e,by simp[he],h⟩
    ·rintro(h | ⟨e,he,h⟩)
     ·exact .inl h
     ·rcases List.mem_cons.1 he with rfl | he
      ·exact absurd h.2 hg
      ·exact .inr ⟨e,he,h⟩
   ·simp only[List.length_cons];unfold Yk at h3;omega
theorem vf{v:List DT}{k:Int}:k∈devsL v↔0 < ofV v k:=by rw[ofV_pos];simpa[devsL] using (Vp v [] List.Pairwise.nil).2.1 k
def ul(m:List (Int×Int))(d:DT):List (Int×Int):=if yn d then AL.set m d.dev (max (AL.getZ m d.dev 0) d.n) else m
def vk(v:List DT):List (Int×Int):=v.foldl ul []
theorem QX(v:List DT):∀ m:List (Int×Int),(m.map (·.1)).Nodup->((v.foldl ul m).map (·.1)).Nodup/\((∀ k,0<=AL.getZ m k 0)->∀ k,AL.getZ (v.foldl ul m) k 0=max (AL.getZ m k 0) (ofV v k))/\(v.foldl ul m).length<=m.length+v.length/\(∀ k,k∈(v.foldl ul m).map (·.1)->k∈m.map (·.1)\/0 < ofV v k):=by
 induction v with
 | nil=>
  intro m h;refine⟨h,fun h0 k=>?_,by simp,fun k hk=>.inl hk⟩;have:=h0 k;simp only[List.foldl_nil,ofV];omega
 | cons d r ih=>
  intro m h;simp only[List.foldl_cons]
  by_cases hg:yn d=true
  ·have hd:=wI.1 hg;have e:ul m d=AL.set m d.dev (max (AL.getZ m d.dev 0) d.n):=by simp[ul,hg]
   rw[e];obtain⟨h1,h2,h3,h4⟩:=ih _ (AL.nodup_set h d.dev (max (AL.getZ m d.dev 0) d.n));refine⟨h1,fun h0 k=>?_,?_,fun k hk=>?_⟩
   ·rw[h2 (fun q=>by rw[AL.getZ_set];have:=h0 q;have:=h0 d.dev;split <;> omega),AL.getZ_set];simp only[ofV]
    by_cases hk:d.dev=k
    ·subst hk;simp only[if_true,hg,and_self];omega
    ·simp[hk]
   ·have:=AL.len_set m d.dev (max (AL.getZ m d.dev 0) d.n);simp only[List.length_cons];omega
   ·simp only[ofV];rcases h4 k hk with h5 | h5
    ·rw[AL.keys_set] at h5
     split at h5
     ·exact .inl h5
     ·rcases List.mem_append.1 h5 with h5 | h5
      ·exact .inl h5
      ·right
       rw[List.mem_singleton.1 h5,if_pos ⟨rfl,hg⟩];omega
    ·right;split <;> omega
  ·have e:ul m d=m:=by simp[ul,hg]
   rw[e];obtain⟨h1,h2,h3,h4⟩:=ih m h;have e2:∀ k,ofV (d::r) k=ofV r k:=fun k=>by simp only[ofV];rw[if_neg (fun hh=>hg hh.2)]
   exact⟨h1,fun h0 k=>by rw[h2 h0,e2],by simp only[List.length_cons];omega,fun k hk=>by rw[e2];exact h4 k hk⟩
theorem uC(v:List DT):((vk v).map (·.1)).Nodup:=(QX v [] (by simp)).1
theorem vg(v:List DT)(k:Int):AL.getZ (vk v) k 0=ofV v k:=by
 have:=(QX v [] (by simp)).2.1 (fun _=>Int.le_refl _) k;have h2:=v2a v k;rw[vk,this];show max 0 (ofV v k)=_;omega
theorem Zk{v:List DT}{k n:Int}(h:(k,n)∈vk v):n=ofV v k/\0 < n:=by
 have h1:=AL.mem_get (uC v) h;have h2:AL.getZ (vk v) k 0=n:=by simp[AL.getZ,h1]
 rw[vg] at h2;have h3:=(QX v [] (by simp)).2.2.2 k (List.mem_map.2 ⟨_,h,rfl⟩);simp at h3;omega
def zva(h:Int×Int->Int)(m:List (Int×Int))(L:List Nat):List (Int×Int):=m.zipIdx.map fun y=>if y.2∈L then (y.1.1,h y.1) else y.1
theorem um{h:Int×Int->Int}{m:List (Int×Int)}{L:List Nat}{i:Nat}:(zva h m L)[i]?=(m[i]?).map fun e=>if i∈L then (e.1,h e) else e:=by
 unfold zva;rw[List.getElem?_map,List.getElem?_zipIdx]
 cases m[i]? <;> simp
theorem QY{h:Int×Int->Int}{m:List (Int×Int)}{L:List Nat}:(zva h m L).length=m.length:=by simp[zva]
theorem set_at{m:List (Int×Int)}(hn:(m.map (·.1)).Nodup){i:Nat}{e:Int×Int}(hi:m[i]?=some e)(v:Int):AL.set m e.1 v=m.set i (e.1,v):=by
 induction m generalizing i with
 | nil=>simp at hi
 | cons x r ih=>
  obtain⟨a,u⟩:=x;simp only[List.map_cons,List.nodup_cons] at hn
  cases i with
  | zero=>simp at hi;subst hi;simp[AL.set]
  | succ i=>
   simp only[List.getElem?_cons_succ] at hi;have:a≠e.1:=fun he=>hn.1 (he▸List.mem_map.2 ⟨e,List.mem_of_getElem? hi,rfl⟩)
   simp only[AL.set,this,if_false,List.set_cons_succ];rw[ih hn.2 hi]
theorem jz{h:Int×Int->Int}{m:List (Int×Int)}{L:List Nat}:(zva h m L).map (·.1)=m.map (·.1):=by
 apply List.ext_getElem?;intro i;rw[List.getElem?_map,um,List.getElem?_map]
 cases m[i]? with
 | none=>rfl
 | some e=>simp only[Option.map_some];split <;> rfl
def zwa(a b:DT):Int:=if a=b then 0 else if zY a b then -1 else 1
theorem WJ(a b:DT):Wj a b=pure (zwa a b):=by
 unfold Wj zwa;have h1:(decide (a.dev=b.dev)&&decide (a.n=b.n))=decide (a=b):=by
  rw[Bool.eq_iff_iff];cases a;cases b;simp
 have h2:(cond (decide (a.dev < b.dev)) (pure true) (cond (decide (a.dev=b.dev)) (pure (decide (a.n < b.n))) (pure false)):M Bool)=pure (zY a b):=by
  rw[zn,zPa];rfl
 rw[h1,h2,xB,zA]
 split
 ·rfl
 ·cases zY a b <;> rfl
theorem Yl{a b:DT}:zwa a b < 0↔zY a b=true:=by
 unfold zwa
 split
 ·rename_i h;subst h;simp[zY]
 ·split <;> simp_all
theorem cmpD_pos{a b:DT}:0 < zwa a b↔zY b a=true:=by
 unfold zwa
 by_cases h:a=b
 ·subst h;simp[zY]
 ·rw[if_neg h]
  cases a;cases b
  simp only[DT.mk.injEq] at h;simp only[zY,Bool.or_eq_true,Bool.and_eq_true,decide_eq_true_eq]
  split <;> omega
theorem UR(l:List DT)(d:DT)(h:l.length<=1000000000000):XM l d=pure ((l.filter fun x=>zY x d)++[d]++(l.filter fun x=>zY d x)):=by
 unfold XM;have c0:∀ o:List DT,o.length<=1000000000000->True:=fun _ _=>trivial
 have h1:=Yj (body:=Xy l d) l (fun i (o:List DT)=>((i:Int),o)) (fun o x=>if zY x d then o++[x] else o) (fun o=>pure o) (fun i o=>o.length<=i) (fun i x o hx hi ho=>by
  have h1:decide ((i:Int) < (l.length:Int))=true:=by simpa using hi
  unfold Xy;simp only[h1,cond_true,zN hx,zA,WJ,zB,yS (show i < 9223372036854775807 by omega),xB,Yl]
  split
  ·rw[zI (by simp;omega)];exact⟨rfl,by simp;omega⟩
  ·exact⟨rfl,by omega⟩) (fun o _=>by unfold Xy;simp[zA]) [] (by simp)
 have h2:∀ o0:List DT,o0.length<=1000000000001->loop (YF l d) (0,o0)=pure (l.foldl (fun o x=>if zY d x then o++[x] else o) o0):=fun o0 ho0=>by
  have:=Yj (body:=YF l d) l (fun i (o:List DT)=>((i:Int),o)) (fun o x=>if zY d x then o++[x] else o) (fun o=>pure o) (fun i o=>o.length<=o0.length+i) (fun i x o hx hi ho=>by
   have h1:decide ((i:Int) < (l.length:Int))=true:=by simpa using hi
   unfold YF;simp only[h1,cond_true,zN hx,zA,WJ,zB,yS (show i < 9223372036854775807 by omega),xB,cmpD_pos]
   split
   ·rw[zI (by simp;omega)];exact⟨rfl,by simp;omega⟩
   ·exact⟨rfl,by omega⟩) (fun o _=>by unfold YF;simp[zA]) o0 (by simp)
  exact this
 have hf:∀ (p:DT->Bool) (l o:List DT),l.foldl (fun o x=>if p x then o++[x] else o) o=o++l.filter p:=by
  intro p l
  induction l with
  | nil=>simp
  | cons x r ih=>
   intro o;rw[List.foldl_cons,ih,List.filter_cons]
   split <;> simp
 rw[show((0:Int),([]:List DT))=(((0:Nat):Int),[]) from rfl,h1,hf,zA,zI,h2,hf,zA]
 ·rfl
 ·have:=List.length_filter_le (fun x=>zY x d) l;simp;omega
 ·have:=List.length_filter_le (fun x=>zY x d) l;simp;omega
def WR(l:List Int):List DT:=l.map fun k=>⟨k,1⟩
theorem xla{l:List Int}(h:l.Pairwise (· < ·))(k:Int):((WR l).filter fun x=>zY x ⟨k,1⟩)++[⟨k,1⟩]++((WR l).filter fun x=>zY ⟨k,1⟩ x)=WR (Ja l k):=by
 induction l with
 | nil=>rfl
 | cons a r ih=>
  obtain⟨h1,h2⟩:=List.pairwise_cons.1 h;have i2:=ih h2;unfold Ja
  by_cases c1:k < a
  ·rw[if_pos c1];have e1:(WR (a::r)).filter (fun x=>zY x ⟨k,1⟩)=[]:=by
    rw[List.filter_eq_nil_iff];intro x hx;simp only[WR,List.map_cons,List.mem_cons,List.mem_map] at hx;rcases hx with rfl | ⟨b,hb,rfl⟩
    ·simp[zY];omega
    ·have:=h1 b hb;simp[zY];omega
   have e2:(WR (a::r)).filter (fun x=>zY ⟨k,1⟩ x)=WR (a::r):=by
    rw[List.filter_eq_self];intro x hx;simp only[WR,List.map_cons,List.mem_cons,List.mem_map] at hx;rcases hx with rfl | ⟨b,hb,rfl⟩
    ·simp[zY];omega
    ·have:=h1 b hb;simp[zY];omega
   rw[e1,e2];rfl
  ·rw[if_neg c1]
   by_cases c2:k=a
   ·subst c2;rw[if_pos rfl];have e1:(WR (k::r)).filter (fun x=>zY x ⟨k,1⟩)=[]:=by
     rw[List.filter_eq_nil_iff];intro x hx;simp only[WR,List.map_cons,List.mem_cons,List.mem_map] at hx;rcases hx with rfl | ⟨b,hb,rfl⟩
     ·simp[zY]
     ·have:=h1 b hb;simp[zY];omega
    have e2:(WR (k::r)).filter (fun x=>zY ⟨k,1⟩ x)=WR r:=by
     show List.filter _ (⟨k,1⟩::WR r)=_;rw[List.filter_cons,if_neg (by simp[zY]),List.filter_eq_self];intro x hx;simp only[WR,List.mem_map] at hx;obtain⟨b,hb,rfl⟩:=hx;have:=h1 b hb;simp[zY];omega
    rw[e1,e2];rfl
   ·rw[if_neg c2];show(List.filter _ (⟨a,1⟩::WR r))++_++(List.filter _ (⟨a,1⟩::WR r))=⟨a,1⟩::WR (Ja r k);rw[List.filter_cons,if_pos (by simp[zY];omega),List.filter_cons,if_neg (by simp[zY];omega),<- i2]
    rfl
theorem equal_eq(a b:List DT)(h:a.length<=1000000000000):yw a b=pure (decide (a=b)):=by
 have e:yw a b=Vf a b:=rfl;rw[e,jy a b h]
theorem ywa(a b:List DT)(h:a.length<=1000000000000):Uq a b=pure (decide (a=b)):=by
 unfold Uq;rw[equal_eq a b h,zB,zA]
end Go.Ep.M.V

/- Side texts. -/
import Derived.Test.YtmjhkhdnbenhfaaGreatDoorAOn2
import Derived.Test.YtmjhkhdnbenhfaaGreatDoorAOn3
import Derived.Test.YtmjhkhdnbenhfaaGreatDoorAOn4
import Derived.Test.YtmjhkhdnbenhfaaGreatDoorAOn5
import Derived.Test.YtmjhkhdnbenhfaaGreatDoorAOn6
import Derived.Test.YtmjhkhdnbenhfaaGreatDoorAOn7
import Derived.Test.YtmjhkhdnbenhfaaGreatDoorAOn8
set_option linter.unusedVariables false
set_option linter.unusedSimpArgs false
namespace Go.Proofs
open Go.Ep Tryz
set_option maxHeartbeats 1000000
set_option maxRecDepth 100000
set_option linter.unusedVariables false
set_option linter.unusedSimpArgs false
theorem wk(n1:Int)(limit_2:Int)(now_3:Int)(r0:Int×Int)(h:(xb n1 limit_2 now_3).wp (·=r0)):PObj prog 112 [.ref 100 0,.d (.v (.int .u64 n1))] [(100,.cells 176 [.d (.v (.int .u64 limit_2)),.d (.v (.int .u64 now_3))])] [100] (.tup []) (fun _:Unit=>[(100,.cells 176 [.d (.v (.int .u64 r0.1)),.d (.v (.int .u64 r0.2))])]):=by
 refine PObj.intro (sl:=[(0,_),(1,_)]) func112 rfl ntmps112 rfl rfl rfl ?_;intro ctx hK pv;refine wQ<|wR<|wm ?_;refine ws (LR.neqPtr underlying153 rfl)<|wN<|PWc.condT rfl<|wR<|wm ?_;refine wm ?_;refine ws (LR.nilCheckRef rfl)<|ws (fR underlying176 rfl sizeOf23 (by decide) rfl rfl)<|ws (lD isAgg23 rfl rfl rfl)<|wm ?_;refine ws (LR.minI rfl rfl)<|ws (LR.maxI rfl rfl)<|ws (LR.nilCheckRef rfl)<|ws (fR underlying176 rfl sizeOf23 (by decide) rfl rfl)<|ws (sB (ns:=[_,_]) sizeOf23 rfl rfl rfl rfl rfl rfl rfl)<|wN ?_;cases h;exact EndsO.mk () (.inl rfl) (sP (tl:=[]) (to:=[(100,_),(1100,_)])) (.nil) rfl rfl
theorem ZV(s1:TState)(limit2:Int)(r0:Unit⊕(Int×Int×Int×Int×Int×Int×List PT×Int×Int×List PT×Bool×(List (DT×EV))×Bool×(List (DT×EV))))(h:(ZG s1 limit2).wp (·=r0)):(match r0 with | .inl r0=>PObj prog 82 [.agg (List.map .d (TState.e s1)),.d (.v (.int .u64 limit2))] [] [] (.tup [.d (.v (.pointer none)),.d (.v (.int .i64 1))]) (fun _:Unit=>[]) | .inr r0=>PObj prog 82 [.agg (List.map .d (TState.e s1)),.d (.v (.int .u64 limit2))] [] [] (.tup [.ref 57 0,.d (.v (.int .i64 0))]) (fun _:Unit=>[(57,.cells 155 [.d (.v (.int .u8 r0.1)),.d (.v (.int .u8 r0.2.1)),.d (.v (.int .u16 r0.2.2.1)),.d (.v (.int .u64 r0.2.2.2.1)),.d (.v (.int .u64 r0.2.2.2.2.1)),.d (.v (.int .u64 r0.2.2.2.2.2.1)),.ref 21141 0,.d (.sl (List.map PT.e r0.2.2.2.2.2.2.1)),.ref 20960 0]),(21141,.cells 176 [.d (.v (.int .u64 r0.2.2.2.2.2.2.2.1)),.d (.v (.int .u64 r0.2.2.2.2.2.2.2.2.1))]),(20960,.cells 171 [.d (.sl (List.map PT.e r0.2.2.2.2.2.2.2.2.2.1)),.mp 20961,.mp 20962]),(20961,.mapH r0.2.2.2.2.2.2.2.2.2.2.1 [.u16,.u64] true (xF DT.k EV.e r0.2.2.2.2.2.2.2.2.2.2.2.1)),(20962,.mapH r0.2.2.2.2.2.2.2.2.2.2.2.2.1 [.u16,.u64] true (xF DT.k EV.e r0.2.2.2.2.2.2.2.2.2.2.2.2.2))])):=by
 cases r0 with
 | inl r0=>
  refine PObj.intro (sl:=[(0,_),(1,_)]) func82 rfl ntmps82 rfl rfl rfl ?_;intro ctx hK pv;refine wQ<|wR<|ws (LR.box rfl rfl rfl rfl)<|wa ?_;refine wa ?_;refine wN<|wQ<|wQ ?_;refine wJ (zT h) (fun(v3:Bool) (_:Unit)=>⟨96,[(1,.d (.v (.int .u64 limit2))),(2,.ref 2 0),(42,.d (.v (.bool v3)))],[(2,.cells 37 [.d (.v (.int .u8 s1.slot)),.d (.v (.int .u8 s1.phase)),.d (.v (.int .u16 s1.dev)),.d (.v (.int .u64 s1.epoch)),.d (.v (.int .u64 s1.try_)),.d (.v (.int .u64 s1.now)),.d (.sl (List.map PT.e s1.had)),.d (.sl (List.map PT.e s1.ctx)),.d (.sl (List.map EV.e s1.all))])]⟩) (fun h=>?_) ?_
  ·refine wR<|ws (fR underlying37 rfl sizeOf5 (by decide) rfl rfl)<|ws (lD isAgg5 rfl rfl rfl)<|ws (LR.gtr rfl rfl)<|wm ?_;refine wL (d:=12) rfl (fun hg4=>?_) (fun hg4=>?_)
   ·replace h:=iT hg4 h;refine wf<|wf<|wf<|wf<|wf<|wf<|wf<|wf<|ws (pT rfl rfl) ?_;refine wm ?_;refine wf<|wy (tl:=[(1,_),(2,_),(22,_),(23,_)]) (to:=[(2,_)]) ?_;refine wf<|wf<|wf<|ws (pT rfl rfl)<|wm ?_;refine wf<|wf<|wf<|wf<|wu<|wu<|wu<|wu<|wu ?_;refine wu<|wu<|wu<|wy (tl:=[(1,_),(2,_),(28,_),(32,_),(40,_)]) (to:=[(2,_)]) ?_;refine wf<|ws (pT rfl rfl)<|wN ?_;exact⟨true,(),h,sP⟩
   ·replace h:=iF hg4 h;refine wt (fR underlying37 rfl sizeOf23 (by decide) rfl rfl)<|wt (lD isAgg23 rfl rfl rfl)<|wt (fR underlying37 rfl sizeOf23 (by decide) rfl rfl)<|wt (lD isAgg23 rfl rfl rfl)<|wt (fR underlying37 rfl sizeOf23 (by decide) rfl rfl)<|wt (lD isAgg23 rfl rfl rfl)<|wt (LR.max3I rfl rfl rfl)<|wt (LR.gtr rfl rfl)<|ws (pF rfl rfl) ?_;refine wm ?_;refine wL (d:=22) rfl (fun hg5=>?_) (fun hg5=>?_)
    ·replace h:=iT hg5 h;refine wy (tl:=[(1,_),(2,_),(22,_)]) (to:=[(2,_)]) ?_;refine wf<|wf<|wf<|wf<|ws (pT rfl rfl)<|wm ?_;refine wf<|wf<|wf<|wf<|wu<|wu<|wu<|wu<|wu ?_;refine wu<|wu<|wu<|wy (tl:=[(1,_),(2,_),(28,_),(32,_),(40,_)]) (to:=[(2,_)]) ?_;refine wf<|ws (pT rfl rfl)<|wN ?_;exact⟨true,(),h,sP⟩
    ·replace h:=iF hg5 h;refine wy (tl:=[(1,_),(2,_),(22,_)]) (to:=[(2,_)]) ?_;refine wt (fR underlying37 rfl sizeOf30 (by decide) rfl rfl)<|wt (lD isAgg30 rfl rfl rfl) ?_;obtain⟨v6,hy7,h⟩:=zH h;refine wt (cN (xA s1.had v6 hy7) rfl call67 rfl rfl rfl rfl)<|wt (LR.not rfl)<|ws (pF rfl rfl)<|wm ?_;refine wL (d:=28) rfl (fun hg8=>?_) (fun hg8=>?_)
     ·replace h:=iT hg8 h;refine wf<|wf<|wf<|wf<|wu<|wu<|wu<|wu<|wu ?_;refine wu<|wu<|wy (tl:=[(1,_),(2,_),(28,_),(32,_),(36,_),(39,_)]) (to:=[(2,_)]) ?_;refine wu<|wf<|ws (pT rfl rfl)<|wN ?_;exact⟨true,(),h,sP⟩
     ·replace h:=iF hg8 h;refine wt (fR underlying37 rfl sizeOf5 (by decide) rfl rfl)<|wt (lD isAgg5 rfl rfl rfl)<|wt (eQ rfl rfl)<|wt (mV rfl) ?_;refine wL (d:=32) rfl (fun hg9=>?_) (fun hg9=>?_)
      ·replace h:=iT hg9 h;refine wt (fR underlying37 rfl sizeOf22 (by decide) rfl rfl)<|wt (lD isAgg22 rfl rfl rfl)<|wt (eQ rfl rfl)<|wt (mV rfl) ?_;refine wL (d:=36) rfl (fun hg10=>?_) (fun hg10=>?_)
       ·replace h:=iT hg10 h;refine wf<|wy (tl:=[(1,_),(2,_),(28,_),(32,_),(36,_),(37,_)]) (to:=[(2,_)]) ?_;refine wf<|wf<|wt (pT rfl rfl)<|wt (pT rfl rfl)<|ws (pF rfl rfl)<|wN ?_;exact⟨true,(),h,sP⟩
       ·replace h:=iF hg10 h;refine wt (fR underlying37 rfl sizeOf23 (by decide) rfl rfl)<|wy (tl:=[(1,_),(2,_),(28,_),(32,_),(36,_),(37,_)]) (to:=[(2,_)]) ?_;refine wt (lD isAgg23 rfl rfl rfl)<|wt (eQ rfl rfl)<|wt (pF rfl rfl)<|wt (pT rfl rfl)<|ws (pF rfl rfl)<|wN ?_;exact⟨(decide (s1.epoch=0)),(),h,sP⟩
      ·replace h:=iF hg9 h;refine wf<|wf<|wf<|wf<|wu<|wu<|wy (tl:=[(1,_),(2,_),(28,_),(32,_),(36,_),(38,_)]) (to:=[(2,_)]) ?_;refine wu<|wf<|wt (pF rfl rfl)<|ws (pF rfl rfl)<|wN ?_;exact⟨false,(),h,sP⟩
  ·rintro v3 _ h;refine wC rfl (fun hc11=>?_) (fun hc11=>?_)
   ·replace h:=iT hc11 h;refine wQ<|wR<|wa ?_;refine wa ?_;refine wN<|wX ?_;replace h:(Sum.inl _:Unit⊕(Int×Int×Int×Int×Int×Int×List PT×Int×Int×List PT×Bool×(List (DT×EV))×Bool×(List (DT×EV))))=Sum.inl r0:=h;replace h:=Sum.inl.inj h;subst h;exact EndsO.mk () (.inr rfl) (sP (tl:=[(4,_),(5,_)]) (to:=[])) (.cons (.tmp rfl)<|.cons (.tmp rfl)<|.nil) rfl rfl
   ·replace h:=iF hc11 h;refine wK<|wQ<|wR<|ws (fR underlying37 rfl sizeOf30 (by decide) rfl rfl)<|ws (lD isAgg30 rfl rfl rfl)<|ws (fR underlying37 rfl sizeOf31 (by decide) rfl rfl)<|ws (lD isAgg31 rfl rfl rfl) ?_;obtain⟨y12,hy13,h⟩:=zH h;rcases y12 with z14 | z15
    ·replace h:=iSumL h;refine xO [] [] [] (vW s1.ctx s1.all (.inl z14) hy13) call110<|wm ?_;refine ws (LR.extract rfl rfl)<|ws (LR.extract rfl rfl)<|wa ?_;refine wa ?_;refine wN<|wQ<|wQ<|wz (tl:=[(1,_),(2,_),(6,_),(7,_)]) (to:=[(2,_)]) ?_;refine wR<|wm ?_;refine ws (nQ rfl rfl)<|wN<|PWc.condT rfl<|wQ<|wR<|wm ?_;refine wa ?_;refine wa ?_;refine wN<|wX ?_;replace h:(Sum.inl _:Unit⊕(Int×Int×Int×Int×Int×Int×List PT×Int×Int×List PT×Bool×(List (DT×EV))×Bool×(List (DT×EV))))=Sum.inl r0:=h;replace h:=Sum.inl.inj h;subst h;exact EndsO.mk () (.inr rfl) (sP (tl:=[(4,_),(5,_)]) (to:=[])) (.cons (.tmp rfl)<|.cons (.tmp rfl)<|.nil) rfl rfl
    ·replace h:=iSumR h;refine xO [(12,20960),(30241,20961),(30242,20962)] [] [12,30241,30242] (vW s1.ctx s1.all (.inr z15) hy13) call110<|wm ?_;refine ws (LR.extract rfl rfl)<|ws (LR.extract rfl rfl)<|wa ?_;refine wa ?_;refine wN<|wQ<|wQ<|wz (tl:=[(1,_),(2,_),(6,_),(7,_)]) (to:=[(2,_),(20960,_),(20961,_),(20962,_)]) ?_;refine wR<|wm ?_;refine ws (nQ rfl rfl)<|wN<|PWc.condF rfl<|wK<|wQ<|wR<|ws (fR underlying37 rfl sizeOf5 (by decide) rfl rfl)<|ws (lD isAgg5 rfl rfl rfl)<|wm ?_;obtain⟨y16,hy17,h⟩:=zH h;refine xO [(11,57),(8,21141),(9,21142),(20181,21143),(20182,21144)] [] [11,8,9,20181,20182] (YE s1.slot limit2 y16 hy17) call111<|wa ?_;refine wN<|wQ<|wz (tl:=[(2,_),(6,_),(8,_)]) (to:=[(2,_),(57,_),(20960,_),(20961,_),(20962,_),(21141,_),(21142,_),(21143,_),(21144,_)]) ?_;refine PWc.regionF [⟨[58],[],[],[],[],[57],[],[]⟩,⟨[59],[],[],[],[],[57],[],[]⟩,⟨[60],[],[],[],[],[57],[],[]⟩,⟨[61],[],[],[],[],[57],[],[]⟩,⟨[62],[],[],[],[],[57],[],[]⟩,⟨[63],[],[],[],[],[57],[],[]⟩,⟨[64],[],[],[],[],[2],[],[]⟩,⟨[65],[],[2],[],[],[],[],[]⟩,⟨[66],[],[],[],[],[2],[],[]⟩,⟨[67],[],[2],[],[],[],[],[]⟩,⟨[68],[],[],[],[],[2],[],[]⟩,⟨[69],[],[2],[],[],[],[],[]⟩,⟨[70],[],[],[],[],[2],[],[]⟩,⟨[71],[],[2],[],[],[],[],[]⟩,⟨[72],[],[],[],[],[2],[],[]⟩,⟨[73],[],[2],[],[],[],[],[]⟩,{ws:=[74]},⟨[75],[],[],[],[],[20960],[],[]⟩,⟨[76],[],[],[],[],[57],[],[]⟩,⟨[77],[],[],[],[],[57],[],[]⟩,⟨[],[57],[57],[],[],[],[21141,21142],[]⟩,⟨[78],[],[],[],[],[57],[],[]⟩,⟨[79],[],[],[],[],[57],[],[]⟩,⟨[],[57],[57],[],[],[],[21141,21142],[]⟩,⟨[80],[],[],[],[],[57],[],[]⟩,⟨[81],[],[],[],[],[57],[],[]⟩,⟨[],[57],[57],[],[],[],[21141,21142],[]⟩,⟨[82],[],[],[],[],[57],[],[]⟩,⟨[83],[],[],[],[],[57],[],[]⟩,⟨[],[57],[57],[],[],[],[21141,21142],[]⟩,⟨[84],[],[],[],[],[57],[],[]⟩,⟨[85],[],[],[],[],[57],[],[]⟩,⟨[],[57],[57],[],[],[],[21141,21142],[]⟩,⟨[86],[],[],[],[],[57],[],[]⟩,⟨[87],[],[],[],[],[57],[],[]⟩,⟨[],[57],[57,20960],[],[],[],[20960,21141],[]⟩] (by kernel_rfl) (by kernel_rfl) rfl<|km ?_;refine km ?_;refine km ?_;refine km ?_;refine km ?_;refine km ?_;refine kp (fun _ U W=>fR underlying37 rfl sizeOf5 (by decide) rfl U) ?_;refine kp (fun _ U W=>lD isAgg5 U (W rfl rfl) rfl) ?_;refine kp (fun _ U W=>fR underlying37 rfl sizeOf22 (by decide) rfl U) ?_;refine kp (fun _ U W=>lD isAgg22 U (W rfl rfl) rfl) ?_;refine kp (fun _ U W=>fR underlying37 rfl sizeOf23 (by decide) rfl U) ?_;refine kp (fun _ U W=>lD isAgg23 U (W rfl rfl) rfl) ?_;refine kp (fun _ U W=>fR underlying37 rfl sizeOf23 (by decide) rfl U) ?_;refine kp (fun _ U W=>lD isAgg23 U (W rfl rfl) rfl) ?_;refine kp (fun _ U W=>fR underlying37 rfl sizeOf30 (by decide) rfl U) ?_;refine kp (fun _ U W=>lD isAgg30 U (W rfl rfl) rfl) ?_;obtain⟨v18,hy19,h⟩:=zH h;refine kp (fun _ U W=>cN (PRow.fun (vP s1.had v18 hy19)) U call74 (YM (fun a b=>U a b) rfl rfl) rfl rfl rfl)<|km ?_;refine kp (fun _ U W=>LR.nilCheckRef U) ?_;refine kp (fun _ U W=>fR underlying155 rfl sizeOf5 (by decide) rfl U) ?_;refine ks (fun _ U W=>sB (ns:=[_,_,_,_,_,_,_,_,_]) sizeOf5 U U rfl rfl (W rfl rfl) rfl rfl) ?_;refine kp (fun _ U W=>LR.nilCheckRef U) ?_;refine kp (fun _ U W=>fR underlying155 rfl sizeOf22 (by decide) rfl U) ?_;refine ks (fun _ U W=>sB (ns:=[_,_,_,_,_,_,_,_,_]) sizeOf22 U U rfl rfl (W rfl rfl) rfl rfl) ?_;refine kp (fun _ U W=>LR.nilCheckRef U) ?_;refine kp (fun _ U W=>fR underlying155 rfl sizeOf23 (by decide) rfl U) ?_;refine ks (fun _ U W=>sB (ns:=[_,_,_,_,_,_,_,_,_]) sizeOf23 U U rfl rfl (W rfl rfl) rfl rfl) ?_;refine kp (fun _ U W=>LR.nilCheckRef U) ?_;refine kp (fun _ U W=>fR underlying155 rfl sizeOf23 (by decide) rfl U) ?_;refine ks (fun _ U W=>sB (ns:=[_,_,_,_,_,_,_,_,_]) sizeOf23 U U rfl rfl (W rfl rfl) rfl rfl) ?_;refine kp (fun _ U W=>LR.nilCheckRef U) ?_;refine kp (fun _ U W=>fR underlying155 rfl sizeOf30 (by decide) rfl U) ?_;refine ks (fun _ U W=>sB (ns:=[_,_,_,_,_,_,_,_,_]) sizeOf30 U U rfl rfl (W rfl rfl) rfl rfl) ?_;refine kp (fun _ U W=>LR.nilCheckRef U) ?_;refine kp (fun _ U W=>fR underlying155 rfl sizeOf149 (by decide) rfl U) ?_;refine ks (fun _ U W=>sB (ns:=[_,_,_,_,_,_,_,_,_]) sizeOf149 U U rfl rfl (W rfl rfl) rfl rfl)<|PQe.nil<|wQ<|wz (tl:=[(2,_),(8,_)]) (to:=[(2,_),(57,_),(20960,_),(20961,_),(20962,_),(21141,_)]) ?_;refine PWc.regionE [⟨[88],[],[],[],[],[57],[],[]⟩,⟨[89],[],[],[],[],[57],[],[]⟩,⟨[90],[],[],[],[],[57],[],[]⟩,⟨[91],[],[57],[],[],[21141],[],[]⟩,⟨[92],[],[],[],[],[2],[],[]⟩,⟨[93],[],[2],[],[],[],[],[]⟩,⟨[94],[21141],[21141],[],[],[],[],[]⟩] (by kernel_rfl) (by kernel_rfl) rfl<|km ?_;refine kp (fun _ U W=>LR.nilCheckRef U) ?_;refine kp (fun _ U W=>fR underlying155 rfl sizeOf153 (by decide) rfl U) ?_;refine kp (fun _ U W=>lD isAgg153 U (W rfl rfl) rfl) ?_;refine kp (fun _ U W=>fR underlying37 rfl sizeOf23 (by decide) rfl U) ?_;refine kp (fun _ U W=>lD isAgg23 U (W rfl rfl) rfl) ?_;obtain⟨y20,hy21,h⟩:=zH h;refine PQe.callObj [(100,21141)] [] [100] (wk s1.now y16.2.2.2.2.2.2.1 y16.2.2.2.2.2.2.2.1 y20 hy21) hK (fun _ U=>⟨U rfl rfl,YM U rfl rfl⟩) call112 (by first | rfl | (simp;done) | (simp[PV.nilD,PV.ren,rn] <;> omega)) (.cons (by first | rfl | (congr 1;first | (simp;done) | (simp;omega) | omega))<|.nil) rfl rfl rfl rfl (.inl rfl) rfl ?_;refine PQe.nil<|wQ<|wz (tl:=[(8,_)]) (to:=[(57,_),(20960,_),(20961,_),(20962,_),(21141,_)]) ?_;refine wR<|wm ?_;refine wa ?_;refine wa ?_;refine wN<|wX ?_;exact nomatch (show(Sum.inr _:Unit⊕(Int×Int×Int×Int×Int×Int×List PT×Int×Int×List PT×Bool×(List (DT×EV))×Bool×(List (DT×EV))))=Sum.inl r0 from h)
 | inr r0=>
  refine PObj.intro (sl:=[(0,_),(1,_)]) func82 rfl ntmps82 rfl rfl rfl ?_;intro ctx hK pv;refine wQ<|wR<|ws (LR.box rfl rfl rfl rfl)<|wa ?_;refine wa ?_;refine wN<|wQ<|wQ ?_;refine wJ (zT h) (fun(v3:Bool) (_:Unit)=>⟨96,[(1,.d (.v (.int .u64 limit2))),(2,.ref 2 0),(42,.d (.v (.bool v3)))],[(2,.cells 37 [.d (.v (.int .u8 s1.slot)),.d (.v (.int .u8 s1.phase)),.d (.v (.int .u16 s1.dev)),.d (.v (.int .u64 s1.epoch)),.d (.v (.int .u64 s1.try_)),.d (.v (.int .u64 s1.now)),.d (.sl (List.map PT.e s1.had)),.d (.sl (List.map PT.e s1.ctx)),.d (.sl (List.map EV.e s1.all))])]⟩) (fun h=>?_) ?_
  ·refine wR<|ws (fR underlying37 rfl sizeOf5 (by decide) rfl rfl)<|ws (lD isAgg5 rfl rfl rfl)<|ws (LR.gtr rfl rfl)<|wm ?_;refine wL (d:=12) rfl (fun hg4=>?_) (fun hg4=>?_)
   ·replace h:=iT hg4 h;refine wf<|wf<|wf<|wf<|wf<|wf<|wf<|wf<|ws (pT rfl rfl) ?_;refine wm ?_;refine wf<|wy (tl:=[(1,_),(2,_),(22,_),(23,_)]) (to:=[(2,_)]) ?_;refine wf<|wf<|wf<|ws (pT rfl rfl)<|wm ?_;refine wf<|wf<|wf<|wf<|wu<|wu<|wu<|wu<|wu ?_;refine wu<|wu<|wu<|wy (tl:=[(1,_),(2,_),(28,_),(32,_),(40,_)]) (to:=[(2,_)]) ?_;refine wf<|ws (pT rfl rfl)<|wN ?_;exact⟨true,(),h,sP⟩
   ·replace h:=iF hg4 h;refine wt (fR underlying37 rfl sizeOf23 (by decide) rfl rfl)<|wt (lD isAgg23 rfl rfl rfl)<|wt (fR underlying37 rfl sizeOf23 (by decide) rfl rfl)<|wt (lD isAgg23 rfl rfl rfl)<|wt (fR underlying37 rfl sizeOf23 (by decide) rfl rfl)<|wt (lD isAgg23 rfl rfl rfl)<|wt (LR.max3I rfl rfl rfl)<|wt (LR.gtr rfl rfl)<|ws (pF rfl rfl) ?_;refine wm ?_;refine wL (d:=22) rfl (fun hg5=>?_) (fun hg5=>?_)
    ·replace h:=iT hg5 h;refine wy (tl:=[(1,_),(2,_),(22,_)]) (to:=[(2,_)]) ?_;refine wf<|wf<|wf<|wf<|ws (pT rfl rfl)<|wm ?_;refine wf<|wf<|wf<|wf<|wu<|wu<|wu<|wu<|wu ?_;refine wu<|wu<|wu<|wy (tl:=[(1,_),(2,_),(28,_),(32,_),(40,_)]) (to:=[(2,_)]) ?_;refine wf<|ws (pT rfl rfl)<|wN ?_;exact⟨true,(),h,sP⟩
    ·replace h:=iF hg5 h;refine wy (tl:=[(1,_),(2,_),(22,_)]) (to:=[(2,_)]) ?_;refine wt (fR underlying37 rfl sizeOf30 (by decide) rfl rfl)<|wt (lD isAgg30 rfl rfl rfl) ?_;obtain⟨v6,hy7,h⟩:=zH h;refine wt (cN (xA s1.had v6 hy7) rfl call67 rfl rfl rfl rfl)<|wt (LR.not rfl)<|ws (pF rfl rfl)<|wm ?_;refine wL (d:=28) rfl (fun hg8=>?_) (fun hg8=>?_)
     ·replace h:=iT hg8 h;refine wf<|wf<|wf<|wf<|wu<|wu<|wu<|wu<|wu ?_;refine wu<|wu<|wy (tl:=[(1,_),(2,_),(28,_),(32,_),(36,_),(39,_)]) (to:=[(2,_)]) ?_;refine wu<|wf<|ws (pT rfl rfl)<|wN ?_;exact⟨true,(),h,sP⟩
     ·replace h:=iF hg8 h;refine wt (fR underlying37 rfl sizeOf5 (by decide) rfl rfl)<|wt (lD isAgg5 rfl rfl rfl)<|wt (eQ rfl rfl)<|wt (mV rfl) ?_;refine wL (d:=32) rfl (fun hg9=>?_) (fun hg9=>?_)
      ·replace h:=iT hg9 h;refine wt (fR underlying37 rfl sizeOf22 (by decide) rfl rfl)<|wt (lD isAgg22 rfl rfl rfl)<|wt (eQ rfl rfl)<|wt (mV rfl) ?_;refine wL (d:=36) rfl (fun hg10=>?_) (fun hg10=>?_)
       ·replace h:=iT hg10 h;refine wf<|wy (tl:=[(1,_),(2,_),(28,_),(32,_),(36,_),(37,_)]) (to:=[(2,_)]) ?_;refine wf<|wf<|wt (pT rfl rfl)<|wt (pT rfl rfl)<|ws (pF rfl rfl)<|wN ?_;exact⟨true,(),h,sP⟩
       ·replace h:=iF hg10 h;refine wt (fR underlying37 rfl sizeOf23 (by decide) rfl rfl)<|wy (tl:=[(1,_),(2,_),(28,_),(32,_),(36,_),(37,_)]) (to:=[(2,_)]) ?_;refine wt (lD isAgg23 rfl rfl rfl)<|wt (eQ rfl rfl)<|wt (pF rfl rfl)<|wt (pT rfl rfl)<|ws (pF rfl rfl)<|wN ?_;exact⟨(decide (s1.epoch=0)),(),h,sP⟩
      ·replace h:=iF hg9 h;refine wf<|wf<|wf<|wf<|wu<|wu<|wy (tl:=[(1,_),(2,_),(28,_),(32,_),(36,_),(38,_)]) (to:=[(2,_)]) ?_;refine wu<|wf<|wt (pF rfl rfl)<|ws (pF rfl rfl)<|wN ?_;exact⟨false,(),h,sP⟩
  ·rintro v3 _ h;refine wC rfl (fun hc11=>?_) (fun hc11=>?_)
   ·replace h:=iT hc11 h;refine wQ<|wR<|wa ?_;refine wa ?_;refine wN<|wX ?_;exact nomatch (show(Sum.inl _:Unit⊕(Int×Int×Int×Int×Int×Int×List PT×Int×Int×List PT×Bool×(List (DT×EV))×Bool×(List (DT×EV))))=Sum.inr r0 from h)
   ·replace h:=iF hc11 h;refine wK<|wQ<|wR<|ws (fR underlying37 rfl sizeOf30 (by decide) rfl rfl)<|ws (lD isAgg30 rfl rfl rfl)<|ws (fR underlying37 rfl sizeOf31 (by decide) rfl rfl)<|ws (lD isAgg31 rfl rfl rfl) ?_;obtain⟨y12,hy13,h⟩:=zH h;rcases y12 with z14 | z15
    ·replace h:=iSumL h;refine xO [] [] [] (vW s1.ctx s1.all (.inl z14) hy13) call110<|wm ?_;refine ws (LR.extract rfl rfl)<|ws (LR.extract rfl rfl)<|wa ?_;refine wa ?_;refine wN<|wQ<|wQ<|wz (tl:=[(1,_),(2,_),(6,_),(7,_)]) (to:=[(2,_)]) ?_;refine wR<|wm ?_;refine ws (nQ rfl rfl)<|wN<|PWc.condT rfl<|wQ<|wR<|wm ?_;refine wa ?_;refine wa ?_;refine wN<|wX ?_;exact nomatch (show(Sum.inl _:Unit⊕(Int×Int×Int×Int×Int×Int×List PT×Int×Int×List PT×Bool×(List (DT×EV))×Bool×(List (DT×EV))))=Sum.inr r0 from h)
    ·replace h:=iSumR h;refine xO [(12,20960),(30241,20961),(30242,20962)] [] [12,30241,30242] (vW s1.ctx s1.all (.inr z15) hy13) call110<|wm ?_;refine ws (LR.extract rfl rfl)<|ws (LR.extract rfl rfl)<|wa ?_;refine wa ?_;refine wN<|wQ<|wQ<|wz (tl:=[(1,_),(2,_),(6,_),(7,_)]) (to:=[(2,_),(20960,_),(20961,_),(20962,_)]) ?_;refine wR<|wm ?_;refine ws (nQ rfl rfl)<|wN<|PWc.condF rfl<|wK<|wQ<|wR<|ws (fR underlying37 rfl sizeOf5 (by decide) rfl rfl)<|ws (lD isAgg5 rfl rfl rfl)<|wm ?_;obtain⟨y16,hy17,h⟩:=zH h;refine xO [(11,57),(8,21141),(9,21142),(20181,21143),(20182,21144)] [] [11,8,9,20181,20182] (YE s1.slot limit2 y16 hy17) call111<|wa ?_;refine wN<|wQ<|wz (tl:=[(2,_),(6,_),(8,_)]) (to:=[(2,_),(57,_),(20960,_),(20961,_),(20962,_),(21141,_),(21142,_),(21143,_),(21144,_)]) ?_;refine PWc.regionF [⟨[58],[],[],[],[],[57],[],[]⟩,⟨[59],[],[],[],[],[57],[],[]⟩,⟨[60],[],[],[],[],[57],[],[]⟩,⟨[61],[],[],[],[],[57],[],[]⟩,⟨[62],[],[],[],[],[57],[],[]⟩,⟨[63],[],[],[],[],[57],[],[]⟩,⟨[64],[],[],[],[],[2],[],[]⟩,⟨[65],[],[2],[],[],[],[],[]⟩,⟨[66],[],[],[],[],[2],[],[]⟩,⟨[67],[],[2],[],[],[],[],[]⟩,⟨[68],[],[],[],[],[2],[],[]⟩,⟨[69],[],[2],[],[],[],[],[]⟩,⟨[70],[],[],[],[],[2],[],[]⟩,⟨[71],[],[2],[],[],[],[],[]⟩,⟨[72],[],[],[],[],[2],[],[]⟩,⟨[73],[],[2],[],[],[],[],[]⟩,{ws:=[74]},⟨[75],[],[],[],[],[20960],[],[]⟩,⟨[76],[],[],[],[],[57],[],[]⟩,⟨[77],[],[],[],[],[57],[],[]⟩,⟨[],[57],[57],[],[],[],[21141,21142],[]⟩,⟨[78],[],[],[],[],[57],[],[]⟩,⟨[79],[],[],[],[],[57],[],[]⟩,⟨[],[57],[57],[],[],[],[21141,21142],[]⟩,⟨[80],[],[],[],[],[57],[],[]⟩,⟨[81],[],[],[],[],[57],[],[]⟩,⟨[],[57],[57],[],[],[],[21141,21142],[]⟩,⟨[82],[],[],[],[],[57],[],[]⟩,⟨[83],[],[],[],[],[57],[],[]⟩,⟨[],[57],[57],[],[],[],[21141,21142],[]⟩,⟨[84],[],[],[],[],[57],[],[]⟩,⟨[85],[],[],[],[],[57],[],[]⟩,⟨[],[57],[57],[],[],[],[21141,21142],[]⟩,⟨[86],[],[],[],[],[57],[],[]⟩,⟨[87],[],[],[],[],[57],[],[]⟩,⟨[],[57],[57,20960],[],[],[],[20960,21141],[]⟩] (by kernel_rfl) (by kernel_rfl) rfl<|km ?_;refine km ?_;refine km ?_;refine km ?_;refine km ?_;refine km ?_;refine kp (fun _ U W=>fR underlying37 rfl sizeOf5 (by decide) rfl U) ?_;refine kp (fun _ U W=>lD isAgg5 U (W rfl rfl) rfl) ?_;refine kp (fun _ U W=>fR underlying37 rfl sizeOf22 (by decide) rfl U) ?_;refine kp (fun _ U W=>lD isAgg22 U (W rfl rfl) rfl) ?_;refine kp (fun _ U W=>fR underlying37 rfl sizeOf23 (by decide) rfl U) ?_;refine kp (fun _ U W=>lD isAgg23 U (W rfl rfl) rfl) ?_;refine kp (fun _ U W=>fR underlying37 rfl sizeOf23 (by decide) rfl U) ?_;refine kp (fun _ U W=>lD isAgg23 U (W rfl rfl) rfl) ?_;refine kp (fun _ U W=>fR underlying37 rfl sizeOf30 (by decide) rfl U) ?_;refine kp (fun _ U W=>lD isAgg30 U (W rfl rfl) rfl) ?_;obtain⟨v18,hy19,h⟩:=zH h;refine kp (fun _ U W=>cN (PRow.fun (vP s1.had v18 hy19)) U call74 (YM (fun a b=>U a b) rfl rfl) rfl rfl rfl)<|km ?_;refine kp (fun _ U W=>LR.nilCheckRef U) ?_;refine kp (fun _ U W=>fR underlying155 rfl sizeOf5 (by decide) rfl U) ?_;refine ks (fun _ U W=>sB (ns:=[_,_,_,_,_,_,_,_,_]) sizeOf5 U U rfl rfl (W rfl rfl) rfl rfl) ?_;refine kp (fun _ U W=>LR.nilCheckRef U) ?_;refine kp (fun _ U W=>fR underlying155 rfl sizeOf22 (by decide) rfl U) ?_;refine ks (fun _ U W=>sB (ns:=[_,_,_,_,_,_,_,_,_]) sizeOf22 U U rfl rfl (W rfl rfl) rfl rfl) ?_;refine kp (fun _ U W=>LR.nilCheckRef U) ?_;refine kp (fun _ U W=>fR underlying155 rfl sizeOf23 (by decide) rfl U) ?_;refine ks (fun _ U W=>sB (ns:=[_,_,_,_,_,_,_,_,_]) sizeOf23 U U rfl rfl (W rfl rfl) rfl rfl) ?_;refine kp (fun _ U W=>LR.nilCheckRef U) ?_;refine kp (fun _ U W=>fR underlying155 rfl sizeOf23 (by decide) rfl U) ?_;refine ks (fun _ U W=>sB (ns:=[_,_,_,_,_,_,_,_,_]) sizeOf23 U U rfl rfl (W rfl rfl) rfl rfl) ?_;refine kp (fun _ U W=>LR.nilCheckRef U) ?_;refine kp (fun _ U W=>fR underlying155 rfl sizeOf30 (by decide) rfl U) ?_;refine ks (fun _ U W=>sB (ns:=[_,_,_,_,_,_,_,_,_]) sizeOf30 U U rfl rfl (W rfl rfl) rfl rfl) ?_;refine kp (fun _ U W=>LR.nilCheckRef U) ?_;refine kp (fun _ U W=>fR underlying155 rfl sizeOf149 (by decide) rfl U) ?_;refine ks (fun _ U W=>sB (ns:=[_,_,_,_,_,_,_,_,_]) sizeOf149 U U rfl rfl (W rfl rfl) rfl rfl)<|PQe.nil<|wQ<|wz (tl:=[(2,_),(8,_)]) (to:=[(2,_),(57,_),(20960,_),(20961,_),(20962,_),(21141,_)]) ?_;refine PWc.regionE [⟨[88],[],[],[],[],[57],[],[]⟩,⟨[89],[],[],[],[],[57],[],[]⟩,⟨[90],[],[],[],[],[57],[],[]⟩,⟨[91],[],[57],[],[],[21141],[],[]⟩,⟨[92],[],[],[],[],[2],[],[]⟩,⟨[93],[],[2],[],[],[],[],[]⟩,⟨[94],[21141],[21141],[],[],[],[],[]⟩] (by kernel_rfl) (by kernel_rfl) rfl<|km ?_;refine kp (fun _ U W=>LR.nilCheckRef U) ?_;refine kp (fun _ U W=>fR underlying155 rfl sizeOf153 (by decide) rfl U) ?_;refine kp (fun _ U W=>lD isAgg153 U (W rfl rfl) rfl) ?_;refine kp (fun _ U W=>fR underlying37 rfl sizeOf23 (by decide) rfl U) ?_;refine kp (fun _ U W=>lD isAgg23 U (W rfl rfl) rfl) ?_;obtain⟨y20,hy21,h⟩:=zH h;refine PQe.callObj [(100,21141)] [] [100] (wk s1.now y16.2.2.2.2.2.2.1 y16.2.2.2.2.2.2.2.1 y20 hy21) hK (fun _ U=>⟨U rfl rfl,YM U rfl rfl⟩) call112 (by first | rfl | (simp;done) | (simp[PV.nilD,PV.ren,rn] <;> omega)) (.cons (by first | rfl | (congr 1;first | (simp;done) | (simp;omega) | omega))<|.nil) rfl rfl rfl rfl (.inl rfl) rfl ?_;refine PQe.nil<|wQ<|wz (tl:=[(8,_)]) (to:=[(57,_),(20960,_),(20961,_),(20962,_),(21141,_)]) ?_;refine wR<|wm ?_;refine wa ?_;refine wa ?_;refine wN<|wX ?_;replace h:(Sum.inr _:Unit⊕(Int×Int×Int×Int×Int×Int×List PT×Int×Int×List PT×Bool×(List (DT×EV))×Bool×(List (DT×EV))))=Sum.inr r0:=h;replace h:=Sum.inr.inj h;subst h;exact EndsO.mk () (.inr rfl) (sP (tl:=[(4,_),(5,_)]) (to:=[(57,_),(21141,_),(20960,_),(20961,_),(20962,_)])) (.cons (.tmp rfl)<|.cons (.tmp rfl)<|.nil) rfl rfl
theorem Xq(s1:TState)(r0:Bool)(h:(uN s1).wp (·=r0)):PFun prog 44 [.agg (List.map .d (TState.e s1))] (.d (.v (.bool r0))):=by
 refine fI (sl:=[(0,_)]) func44 rfl ntmps44 rfl rfl ?_;intro ctx hK;refine wQ<|wR<|ws (LR.box rfl rfl rfl rfl)<|wa ?_;refine wN<|wQ ?_;refine wJ (zT h) (fun(e2:Int) (_:Unit)=>⟨18,[(1,.ref 1 0),(4,.d (.v (.int .i64 e2)))],[(1,.cells 37 [.d (.v (.int .u8 s1.slot)),.d (.v (.int .u8 s1.phase)),.d (.v (.int .u16 s1.dev)),.d (.v (.int .u64 s1.epoch)),.d (.v (.int .u64 s1.try_)),.d (.v (.int .u64 s1.now)),.d (.sl (List.map PT.e s1.had)),.d (.sl (List.map PT.e s1.ctx)),.d (.sl (List.map EV.e s1.all))])]⟩) (fun h=>?_) ?_
 ·refine wR<|ws (lA (ps:=[_,_,_,_,_,_,_,_,_]) isAgg37 sizeOf37 rfl rfl rfl rfl) ?_;obtain⟨y3,hy4,h⟩:=zH h;rcases y3 with z5 | z6
  ·replace h:=iSumL h;refine xO [] [] [] (ZV s1 0 (.inl z5) hy4) call82<|wm ?_;refine ws (LR.extract rfl rfl)<|ws (LR.extract rfl rfl)<|wa ?_;refine wa ?_;refine wN ?_;exact⟨1,(),h,sP⟩
  ·replace h:=iSumR h;refine xO [(57,20140),(21141,20141),(20960,20142),(20961,20143),(20962,20144)] [] [57,21141,20960,20961,20962] (ZV s1 0 (.inr z6) hy4) call82<|wm ?_;refine ws (LR.extract rfl rfl)<|ws (LR.extract rfl rfl)<|wa ?_;refine wa ?_;refine wN ?_;exact⟨0,(),h,sP⟩
 ·rintro e2 _ h;refine wQ ?_;refine wJ (zT h) (fun(v7:Bool) (_:Unit)=>⟨18,[(2,.d (.v (.bool v7)))],[]⟩) (fun h=>?_) ?_
  ·refine wR<|wm ?_;refine ws (eQ rfl rfl)<|wm ?_;refine xG (d:=12) h rfl (fun _ h=>?_) (fun _ h=>?_)
   ·refine wt (fR underlying37 rfl sizeOf31 (by decide) rfl rfl)<|wt (lD isAgg31 rfl rfl rfl)<|wt (lM (enc:=EV.e) (L:=s1.all) underlying31 rfl)<|wt (LR.leq rfl rfl)<|ws (pT rfl rfl)<|wa ?_;refine wN ?_;exact⟨(decide ((s1.all.length:Int)<=4096)),(),h,sP⟩
   ·refine wf<|wf<|wf<|wf<|ws (pF rfl rfl)<|wa ?_;refine wN ?_;exact⟨false,(),h,sP⟩
  ·rintro v7 _ h;refine wX ?_;cases h;exact xT
theorem WS(s1:TState)(r0:List Int×Int)(h:(vV s1).wp (·=r0)):PFun prog 13 [.agg (List.map .d (TState.e s1))] (.tup [.d (.sl (List.map (eK .u8) r0.1)),.d (.v (.int .i64 r0.2))]):=by
 refine fI (sl:=[(0,_)]) func13 rfl ntmps13 rfl rfl ?_;intro ctx hK;refine wQ<|wR<|ws (LR.box rfl rfl rfl rfl)<|ws (aR 5 1 rfl)<|wa ?_;refine wN<|wQ<|wQ<|wR<|ws (lA (ps:=[_,_,_,_,_,_,_,_,_]) isAgg37 sizeOf37 rfl rfl rfl rfl) ?_;obtain⟨v2,hy3,h⟩:=zH h;refine xN (Xq s1 v2 hy3) call44<|ws (LR.not rfl)<|wN ?_;refine xD h rfl (fun _ h=>?_) (fun _ h=>?_)
 ·refine wQ<|wR<|wy (tl:=[(0,_),(1,_),(3,_),(7,_),(8,_),(9,_)]) (to:=[(1,_)]) ?_;refine ws (aR 5 1 rfl)<|wa ?_;refine wN<|wX ?_;cases h;exact⟨.inr rfl,_,.cons (.row rfl rfl (by first | (simp;done) | (simp;omega) | omega))<|.cons (.tmp rfl rfl)<|.nil,rfl⟩
 ·refine wK<|wQ<|wR<|ws (LR.allocR (cs:=[_]) zeroValue64 rfl rfl rfl rfl)<|PWl.sub (Sub.ownNil (id:=4) (j:=0) (id':=30080) (e:=5) (k:=1) rfl rfl rfl rfl)<|wN<|wQ<|wz (tl:=[(1,_),(4,_)]) (to:=[(1,_),(4,_),(30080,_)]) ?_;refine wR<|ws (fR underlying37 rfl sizeOf5 (by decide) rfl rfl)<|ws (lD isAgg5 rfl rfl rfl) ?_;obtain⟨y5,hy6,h⟩:=zH h;refine xO [(100,4),(101,30080)] [] [100,101] (yA s1.slot ([]:List Int) y5 hy6) call28<|wN<|wQ<|wz (tl:=[(1,_),(4,_)]) (to:=[(1,_),(4,_),(30080,_)]) ?_;refine wR<|ws (fR underlying37 rfl sizeOf5 (by decide) rfl rfl)<|ws (lD isAgg5 rfl rfl rfl) ?_;obtain⟨y7,hy8,h⟩:=zH h;refine xO [(100,4),(101,30080)] [] [100,101] (yA s1.phase y5 y7 hy8) call28<|wN<|wQ<|wQ<|wz (tl:=[(1,_),(4,_)]) (to:=[(1,_),(4,_),(30080,_)]) ?_;refine wR<|ws (fR underlying37 rfl sizeOf22 (by decide) rfl rfl)<|ws (lD isAgg22 rfl rfl rfl) ?_;refine ws (LR.convInt underlying23 (by rw[underlying22];rfl) rfl rfl) ?_;refine ws (fR underlying37 rfl sizeOf23 (by decide) rfl rfl)<|ws (lD isAgg23 rfl rfl rfl)<|ws (fR underlying37 rfl sizeOf23 (by decide) rfl rfl)<|ws (lD isAgg23 rfl rfl rfl)<|ws (fR underlying37 rfl sizeOf23 (by decide) rfl rfl)<|ws (lD isAgg23 rfl rfl rfl)<|ws (LR.buildSliceD [.tmp 18,.tmp 20,.tmp 22,.tmp 24] elem85 rfl rfl (.cons rfl rfl rfl<|.cons rfl rfl rfl<|.cons rfl rfl rfl<|.cons rfl rfl rfl<|.nil) (by decide) (by decide))<|ws (lM (enc:=(eK .u64)) (L:=[(IntKind.u64.wrap s1.dev),s1.epoch,s1.try_,s1.now]) underlying85 rfl)<|wm ?_;refine wN ?_;refine wJ (zT h) (fun(v9:List Int) (_:Unit)=>⟨44,[(1,.ref 1 0),(4,.ref 4 0)],[(1,.cells 37 [.d (.v (.int .u8 s1.slot)),.d (.v (.int .u8 s1.phase)),.d (.v (.int .u16 s1.dev)),.d (.v (.int .u64 s1.epoch)),.d (.v (.int .u64 s1.try_)),.d (.v (.int .u64 s1.now)),.d (.sl (List.map PT.e s1.had)),.d (.sl (List.map PT.e s1.ctx)),.d (.sl (List.map EV.e s1.all))]),(4,.cells 64 [.row 30080 (v9.length)]),(30080,.row 5 1 (List.map (eK .u8) v9))]⟩) (fun h=>?_) ?_
  ·refine wB<|wM (fun(⟨v22,v23⟩:Int×List Int) (_:Unit)=>⟨44,[(1,.ref 1 0),(4,.ref 4 0),(25,.d (.sl (List.map (eK .u64) ([(IntKind.u64.wrap s1.dev),s1.epoch,s1.try_,s1.now])))),(26,.d (.v (.int .i64 ((List.length ([(IntKind.u64.wrap s1.dev),s1.epoch,s1.try_,s1.now]):Int))))),(27,.d (.v (.int .i64 v22)))],[(1,.cells 37 [.d (.v (.int .u8 s1.slot)),.d (.v (.int .u8 s1.phase)),.d (.v (.int .u16 s1.dev)),.d (.v (.int .u64 s1.epoch)),.d (.v (.int .u64 s1.try_)),.d (.v (.int .u64 s1.now)),.d (.sl (List.map PT.e s1.had)),.d (.sl (List.map PT.e s1.ctx)),.d (.sl (List.map EV.e s1.all))]),(4,.cells 64 [.row 30080 (v23.length)]),(30080,.row 5 1 (List.map (eK .u8) v23))]⟩) () h (sP) ?_;rintro N ⟨v22,v23⟩ _ h;refine wQ<|wR<|ws (LR.lss rfl rfl)<|wN<|wQ ?_;refine xD h rfl (fun _ h=>?_) (fun _ h=>?_)
   ·refine wK<|wQ<|wB<|wQ<|wR ?_;obtain⟨x25,hy26,h⟩:=wg h;refine ws (iX (enc:=(eK .u64)) (L:=[(IntKind.u64.wrap s1.dev),s1.epoch,s1.try_,s1.now]) (y:=x25) underlying85 sizeOf23 rfl rfl hy26 (fun _=>rfl))<|ws (LR.loadEp isAgg23 rfl rfl)<|wa ?_;refine wN<|wR<|wm ?_;obtain⟨y27,hy28,h⟩:=zH h;refine xO [(100,4),(101,30080)] [] [100,101] (zS x25 v23 y27 hy28) call30<|wN<|wz (tl:=[(1,_),(4,_),(25,_),(26,_),(27,_)]) (to:=[(1,_),(4,_),(30080,_)]) ?_;refine wR<|ws (LR.addW rfl rfl)<|wm ?_;refine wN ?_;exact⟨((IntKind.i64.wrap (v22+1)),y27),(),h,sP⟩
   ·refine wZ ?_;exact⟨v23,(),h,sP⟩
  ·rintro v9 _ h;refine wQ<|wR<|ws (fR underlying37 rfl sizeOf30 (by decide) rfl rfl)<|ws (lD isAgg30 rfl rfl rfl) ?_;obtain⟨y29,hy30,h⟩:=zH h;refine xO [(100,4),(101,30080)] [] [100,101] (yV s1.had v9 y29 hy30) call32<|wN<|wQ<|wz (tl:=[(1,_),(4,_)]) (to:=[(1,_),(4,_),(30080,_)]) ?_;refine wR<|ws (fR underlying37 rfl sizeOf30 (by decide) rfl rfl)<|ws (lD isAgg30 rfl rfl rfl) ?_;obtain⟨y31,hy32,h⟩:=zH h;refine xO [(100,4),(101,30080)] [] [100,101] (yV s1.ctx y29 y31 hy32) call32<|wN<|wQ<|wz (tl:=[(1,_),(4,_)]) (to:=[(1,_),(4,_),(30080,_)]) ?_;refine wR<|ws (fR underlying37 rfl sizeOf31 (by decide) rfl rfl)<|ws (lD isAgg31 rfl rfl rfl) ?_;obtain⟨y33,hy34,h⟩:=zH h;refine xO [(100,4),(101,30080)] [] [100,101] (vQ s1.all y31 y33 hy34) call34<|wN<|wQ<|wz (tl:=[(4,_)]) (to:=[(4,_),(30080,_)]) ?_;refine wR ?_;obtain⟨y35,hy36,h⟩:=zH h;refine xO [(100,4),(101,30080)] [] [100,101] (vI y33 y35 hy36) call35<|wa ?_;refine wa ?_;refine wN<|wX ?_;cases h;exact⟨.inr rfl,_,.cons (.tmp rfl rfl)<|.cons (.tmp rfl rfl)<|.nil,rfl⟩
theorem UI(b1:List Int)(r0:TState×Int)(h:(Zk b1).wp (·=r0)):PFun prog 14 [.d (.sl (List.map (eK .u8) b1))] (.tup [.agg (List.map .d (TState.e r0.1)),.d (.v (.int .i64 r0.2))]):=by
 refine fI (sl:=[(0,_)]) func14 rfl ntmps14 rfl rfl ?_;intro ctx hK;refine wQ<|wR<|ws (LR.allocZ (cs:=[_,_,_,_,_,_,_,_,_]) zeroValue37 rfl rfl rfl rfl)<|wa ?_;refine wN<|wQ<|wR<|wm ?_;obtain⟨y2,hy3,h⟩:=zH h;refine xO [(7,8)] [] [7] (Xp b1 y2 hy3) call36<|wa ?_;refine wN<|wQ<|wz (tl:=[(2,_),(4,_)]) (to:=[(2,_),(8,_)]) ?_;refine wR<|wm ?_;obtain⟨y4,hy5,h⟩:=zH h;refine xO [(100,8)] [] [100] (yB y2.1 y2.2 y4 hy5) call37<|ws (LR.build (ns:=[_,_,_,_,_,_,_,_,_]) QA rfl rfl rfl)<|ws (LR.allocZ (cs:=[_,_,_,_,_,_,_,_,_]) zeroValue37 rfl rfl rfl rfl)<|ws (sB (ns:=[_,_,_,_,_,_,_,_,_]) sizeOf37 rfl rfl rfl rfl rfl rfl rfl)<|wN<|wQ<|wz (tl:=[(2,_),(4,_),(5,_)]) (to:=[(2,_),(5,_),(8,_)]) ?_;refine wR<|wm ?_;obtain⟨y6,hy7,h⟩:=zH h;refine xO [(100,8)] [] [100] (yB y4.2.1 y4.2.2 y6 hy7) call37<|ws (fR underlying37 rfl sizeOf5 (by decide) rfl rfl)<|ws (sB (ns:=[_,_,_,_,_,_,_,_,_]) sizeOf5 rfl rfl rfl rfl rfl rfl rfl)<|wN<|wQ<|wz (tl:=[(2,_),(4,_),(5,_)]) (to:=[(2,_),(5,_),(8,_)]) ?_;refine wR<|wm ?_;obtain⟨y8,hy9,h⟩:=zH h;refine xO [(100,8)] [] [100] (yg 65535 y6.2.1 y6.2.2 y8 hy9) call45 ?_;refine ws (LR.convInt underlying22 (by rw[underlying23];rfl) rfl rfl) ?_;refine ws (fR underlying37 rfl sizeOf22 (by decide) rfl rfl)<|ws (sB (ns:=[_,_,_,_,_,_,_,_,_]) sizeOf22 rfl rfl rfl rfl rfl rfl rfl)<|wN<|wQ<|wz (tl:=[(2,_),(4,_),(5,_)]) (to:=[(2,_),(5,_),(8,_)]) ?_;refine wR<|wm ?_;obtain⟨y10,hy11,h⟩:=zH h;refine xO [(100,8)] [] [100] (zJ y8.2.1 y8.2.2 y10 hy11) call46<|ws (fR underlying37 rfl sizeOf23 (by decide) rfl rfl)<|ws (sB (ns:=[_,_,_,_,_,_,_,_,_]) sizeOf23 rfl rfl rfl rfl rfl rfl rfl)<|wN<|wQ<|wz (tl:=[(2,_),(4,_),(5,_)]) (to:=[(2,_),(5,_),(8,_)]) ?_;refine wR<|wm ?_;obtain⟨y12,hy13,h⟩:=zH h;refine xO [(100,8)] [] [100] (zJ y10.2.1 y10.2.2 y12 hy13) call46<|ws (fR underlying37 rfl sizeOf23 (by decide) rfl rfl)<|ws (sB (ns:=[_,_,_,_,_,_,_,_,_]) sizeOf23 rfl rfl rfl rfl rfl rfl rfl)<|wN<|wQ<|wz (tl:=[(2,_),(4,_),(5,_)]) (to:=[(2,_),(5,_),(8,_)]) ?_;refine wR<|wm ?_;obtain⟨y14,hy15,h⟩:=zH h;refine xO [(100,8)] [] [100] (zJ y12.2.1 y12.2.2 y14 hy15) call46<|ws (fR underlying37 rfl sizeOf23 (by decide) rfl rfl)<|ws (sB (ns:=[_,_,_,_,_,_,_,_,_]) sizeOf23 rfl rfl rfl rfl rfl rfl rfl)<|wN<|wQ<|wz (tl:=[(2,_),(4,_),(5,_)]) (to:=[(2,_),(5,_),(8,_)]) ?_;refine wR<|wm ?_;obtain⟨y16,hy17,h⟩:=zH h;refine xO [(100,8)] [] [100] (xP y14.2.1 y14.2.2 y16 hy17) call47<|ws (fR underlying37 rfl sizeOf30 (by decide) rfl rfl)<|ws (sB (ns:=[_,_,_,_,_,_,_,_,_]) sizeOf30 rfl rfl rfl rfl rfl rfl rfl)<|wN<|wQ<|wz (tl:=[(2,_),(4,_),(5,_)]) (to:=[(2,_),(5,_),(8,_)]) ?_;refine wR<|wm ?_;obtain⟨y18,hy19,h⟩:=zH h;refine xO [(100,8)] [] [100] (xP y16.2.1 y16.2.2 y18 hy19) call47<|ws (fR underlying37 rfl sizeOf30 (by decide) rfl rfl)<|ws (sB (ns:=[_,_,_,_,_,_,_,_,_]) sizeOf30 rfl rfl rfl rfl rfl rfl rfl)<|wN<|wQ<|wz (tl:=[(2,_),(4,_),(5,_)]) (to:=[(2,_),(5,_),(8,_)]) ?_;refine wR<|wm ?_;obtain⟨y20,hy21,h⟩:=zH h;refine xO [(100,8)] [] [100] (vR 4096 y18.2.1 y18.2.2 y20 hy21) call48<|ws (fR underlying37 rfl sizeOf31 (by decide) rfl rfl)<|ws (sB (ns:=[_,_,_,_,_,_,_,_,_]) sizeOf31 rfl rfl rfl rfl rfl rfl rfl)<|wN<|wQ<|wQ<|wz (tl:=[(2,_),(4,_),(5,_)]) (to:=[(2,_),(5,_),(8,_)]) ?_;refine wR<|wm ?_;obtain⟨y22,hy23,h⟩:=zH h;refine xO [(100,8)] [] [100] (vu y20.2.1 y20.2.2 y22 hy23) call40<|wa ?_;refine wN<|wQ<|wz (tl:=[(2,_),(5,_),(6,_)]) (to:=[(2,_),(5,_)]) ?_;refine wR<|wm ?_;refine ws (nQ rfl rfl)<|wN ?_;refine xD h rfl (fun _ h=>?_) (fun _ h=>?_)
 ·refine wQ<|wR<|ws (LR.build (ns:=[_,_,_,_,_,_,_,_,_]) QA rfl rfl rfl)<|wm ?_;refine ws (sB (ns:=[_,_,_,_,_,_,_,_,_]) sizeOf37 rfl rfl rfl rfl rfl rfl rfl)<|wa ?_;refine wN<|wX ?_;cases h;exact⟨.inr rfl,_,.cons (.agg isAgg37 sizeOf37 rfl rfl rfl rfl)<|.cons (.tmp rfl rfl)<|.nil,rfl⟩
 ·refine wK<|wQ<|wQ<|wR<|ws (lA (ps:=[_,_,_,_,_,_,_,_,_]) isAgg37 sizeOf37 rfl rfl rfl rfl) ?_;obtain⟨v25,hy26,h⟩:=zH h;refine xN (Xq (⟨y4.1,y6.1,(IntKind.u16.wrap y8.1),y10.1,y12.1,y14.1,y16.1,y18.1,y20.1⟩:TState) v25 hy26) call44<|ws (LR.not rfl)<|wN ?_;refine xD h rfl (fun _ h=>?_) (fun _ h=>?_)
  ·refine wQ<|wR<|ws (LR.build (ns:=[_,_,_,_,_,_,_,_,_]) QA rfl rfl rfl)<|ws (sB (ns:=[_,_,_,_,_,_,_,_,_]) sizeOf37 rfl rfl rfl rfl rfl rfl rfl)<|wa ?_;refine wN<|wX ?_;cases h;exact⟨.inr rfl,_,.cons (.agg isAgg37 sizeOf37 rfl rfl rfl rfl)<|.cons (.tmp rfl rfl)<|.nil,rfl⟩
  ·refine wK<|wQ<|wR<|ws (lA (ps:=[_,_,_,_,_,_,_,_,_]) isAgg37 sizeOf37 rfl rfl rfl rfl)<|ws (sB (ns:=[_,_,_,_,_,_,_,_,_]) sizeOf37 rfl rfl rfl rfl rfl rfl rfl)<|wa ?_;refine wN<|wX ?_;cases h;exact⟨.inr rfl,_,.cons (.agg isAgg37 sizeOf37 rfl rfl rfl rfl)<|.cons (.tmp rfl rfl)<|.nil,rfl⟩
theorem Wo(b1:List Int)(r0:Bool)(h:(uC b1).wp (·=r0)):PFunL (Tab 0 .i64 tabG) prog 4 [.d (.sl (List.map (eK .u8) b1))] (.d (.v (.bool r0))):=by
 refine PFunL.intro (sl:=[(0,_)]) func4 rfl ntmps4 rfl rfl ?_;intro ctx hK hT;refine wQ<|wR<|wa ?_;refine wN<|wQ<|wQ<|wR<|wm ?_;refine ws (lM (enc:=(eK .u8)) (L:=b1) underlying41 rfl)<|ws (LR.gtr rfl rfl)<|wN ?_;refine xD h rfl (fun _ h=>?_) (fun _ h=>?_)
 ·refine wQ<|wR ?_;obtain⟨v3,hy4,h⟩:=zH h;refine ws (LR.callL hT (Wk v3 hy4) rfl call7 rfl rfl rfl rfl)<|wa ?_;refine wN<|wX ?_;cases h;exact xT
 ·refine wK<|wQ<|wR<|wm ?_;obtain⟨v5,hy6,h⟩:=zH h;refine ws (LR.callL hT (VZ b1 v5 hy6) rfl call10 rfl rfl rfl rfl)<|wm ?_;refine ws (LR.extract rfl rfl)<|ws (LR.extract rfl rfl)<|ws (LR.allocZ (cs:=[_,_,_,_,_,_,_,_,_,_,_,_,_,_,_,_,_]) zeroValue35 rfl rfl rfl rfl)<|ws (sB (ns:=[_,_,_,_,_,_,_,_,_,_,_,_,_,_,_,_,_]) sizeOf35 rfl rfl rfl rfl rfl rfl rfl)<|wa ?_;refine wN<|wQ<|wQ<|wR<|wm ?_;refine ws (eQ rfl rfl)<|wN ?_;refine PWc.jnX (zT h) (fun(_:Unit) (_:Unit)=>⟨56,[(0,.d (.sl (List.map (eK .u8) b1)))],[]⟩) (fun h=>?_) ?_
  ·refine xD h rfl (fun _ h=>?_) (fun _ h=>?_)
   ·refine wQ<|wR<|ws (lA (ps:=[_,_,_,_,_,_,_,_,_,_,_,_,_,_,_,_,_]) isAgg35 sizeOf35 rfl rfl rfl rfl) ?_;obtain⟨v8,hy9,h⟩:=zH h;refine ws (LR.callL hT (uf v5.1 v8 hy9) rfl call9 rfl rfl rfl rfl)<|wm ?_;refine ws (LR.extract rfl rfl)<|ws (LR.extract rfl rfl)<|wa ?_;refine wa ?_;refine wN<|wQ ?_;refine wJ (zT h) (fun(v10:Bool) (_:Unit)=>⟨56,[(0,.d (.sl (List.map (eK .u8) b1))),(34,.d (.v (.bool v10)))],[]⟩) (fun h=>?_) ?_
    ·refine wR<|wy (tl:=[(0,_),(5,_),(6,_)]) (to:=[]) ?_;refine wm ?_;refine ws (nQ rfl rfl)<|wm ?_;refine xG (d:=29) h rfl (fun _ h=>?_) (fun _ h=>?_)
     ·refine wf<|wf<|wf<|wf<|ws (pT rfl rfl)<|wN ?_;exact⟨true,(),h,sP⟩
     ·refine wt (mV rfl)<|wt (mV rfl) ?_;obtain⟨v12,hy13,h⟩:=zH h;refine wt (cN (ZE b1 v8.1 v12 hy13) rfl call16 rfl rfl rfl rfl)<|wt (LR.not rfl)<|ws (pF rfl rfl)<|wN ?_;exact⟨(!v12),(),h,sP⟩
    ·rintro v10 _ h;refine xD h rfl (fun _ h=>?_) (fun _ h=>?_)
     ·refine wQ<|wR<|wa ?_;refine wN<|wX ?_;cases h;exact xT
     ·refine wK ?_;exact⟨(),(),h,sP⟩
   ·refine wK ?_;exact⟨(),(),h,sP⟩
  ·rintro _ _ h;refine wQ<|wR<|wm ?_;obtain⟨v15,hy16,h⟩:=zH h;refine xN (UI b1 v15 hy16) call14<|wm ?_;refine ws (LR.extract rfl rfl)<|ws (LR.extract rfl rfl)<|ws (LR.allocZ (cs:=[_,_,_,_,_,_,_,_,_]) zeroValue37 rfl rfl rfl rfl)<|ws (sB (ns:=[_,_,_,_,_,_,_,_,_]) sizeOf37 rfl rfl rfl rfl rfl rfl rfl)<|wa ?_;refine wN<|wQ<|wQ<|wR<|wm ?_;refine ws (eQ rfl rfl)<|wN ?_;refine PWc.jnX (zT h) (fun(_:Unit) (_:Unit)=>⟨56,[],[]⟩) (fun h=>?_) ?_
   ·refine xD h rfl (fun _ h=>?_) (fun _ h=>?_)
    ·refine wQ<|wR<|ws (lA (ps:=[_,_,_,_,_,_,_,_,_]) isAgg37 sizeOf37 rfl rfl rfl rfl) ?_;obtain⟨v18,hy19,h⟩:=zH h;refine xN (WS v15.1 v18 hy19) call13<|wm ?_;refine ws (LR.extract rfl rfl)<|ws (LR.extract rfl rfl)<|wa ?_;refine wa ?_;refine wN<|wQ ?_;refine wJ (zT h) (fun(v20:Bool) (_:Unit)=>⟨56,[(54,.d (.v (.bool v20)))],[]⟩) (fun h=>?_) ?_
     ·refine wR<|wm ?_;refine ws (nQ rfl rfl)<|wm ?_;refine xG (d:=49) h rfl (fun _ h=>?_) (fun _ h=>?_)
      ·refine wy (tl:=[(0,_),(9,_),(49,_)]) (to:=[]) ?_;refine wf<|wf<|wf<|wf<|ws (pT rfl rfl)<|wN ?_;exact⟨true,(),h,sP⟩
      ·refine wy (tl:=[(0,_),(9,_),(49,_)]) (to:=[]) ?_;refine wt (mV rfl)<|wt (mV rfl) ?_;obtain⟨v22,hy23,h⟩:=zH h;refine wt (cN (ZE b1 v18.1 v22 hy23) rfl call16 rfl rfl rfl rfl)<|wt (LR.not rfl)<|ws (pF rfl rfl)<|wN ?_;exact⟨(!v22),(),h,sP⟩
     ·rintro v20 _ h;refine xD h rfl (fun _ h=>?_) (fun _ h=>?_)
      ·refine wQ<|wR<|wa ?_;refine wN<|wX ?_;cases h;exact xT
      ·refine wK ?_;exact⟨(),(),h,sP⟩
    ·refine wK ?_;exact⟨(),(),h,sP⟩
   ·rintro _ _ h;refine wQ<|wR ?_;obtain⟨v25,hy26,h⟩:=zH h;refine ws (LR.callL hT (Wk v25 hy26) rfl call7 rfl rfl rfl rfl)<|wa ?_;refine wN<|wX ?_;cases h;exact xT
end Go.Proofs
namespace Go.Ep
open Go
theorem VC{n:Int}(h:-9223372036854775808<=n)(h':n<=9223372036854775807):IntKind.i64.wrap n=n:=by simp[IntKind.wrap,IntKind.bits,IntKind.signed];omega
theorem WJ{n:Int}(h:0<=n)(h':n<=18446744073709551615):IntKind.u64.wrap n=n:=by simp[IntKind.wrap,IntKind.bits,IntKind.signed];omega
theorem wU16{n:Int}(h:0<=n)(h':n<=65535):IntKind.u16.wrap n=n:=by simp[IntKind.wrap,IntKind.bits,IntKind.signed];omega
theorem wU8{n:Int}(h:0<=n)(h':n<=255):IntKind.u8.wrap n=n:=by simp[IntKind.wrap,IntKind.bits,IntKind.signed];omega
theorem wv{i:Nat}(h:i < 9223372036854775807):IntKind.i64.wrap ((i:Int)+1)=((i+1:Nat):Int):=by rw[VC (by omega) (by omega)];rfl
namespace M
variable{α β σ ρ τ ε:Type}
theorem Zq(p:Prop)[Decidable p](x y:M α):cond (decide p) x y=if p then x else y:=by by_cases h:p <;> simp[h]
theorem QQ{body:σ->M (Step σ ρ)}(l:List ε)(mk:Nat->τ->σ)(f:τ->ε->τ)(g:τ->M ρ)
  (I:Nat->τ->Prop) (h1:∀ (i:Nat) (x:ε) (t:τ),l[i]?=some x->i < l.length->I i t->body (mk i t)=pure (.next (mk (i+1) (f t x)))/\I (i+1) (f t x))
  (h2:∀ t,I l.length t->body (mk l.length t)=(g t).bind fun r=>pure (.done r)) (t0:τ) (h0:I 0 t0):loop body (mk 0 t0)=g (l.foldl f t0):=by
 have key:∀ k i t,i+k=l.length->I i t->loop body (mk i t)=g ((l.drop i).foldl f t):=by
  intro k
  induction k with
  | zero=>
   intro i t hi hI;have:i=l.length:=by omega
   subst this;rw[VP,h2 t hI,List.drop_length]
   rfl
  | succ k ih=>
   intro i t hi hI;have hlt:i < l.length:=by omega
   obtain⟨h3,h4⟩:=h1 i l[i] t (List.getElem?_eq_getElem hlt) hlt hI;rw[zt h3,ih (i+1) _ (by omega) h4,List.drop_eq_getElem_cons hlt]
   rfl
 simpa using key l.length 0 t0 (by omega) h0
theorem loopF{body:σ->M (Step σ ρ)}(l:List ε)(mk:Nat->σ)(p:Nat->ε->Bool)(r:Nat->ε->ρ)(d:M ρ)
  (h1:∀ (i:Nat) (x:ε),l[i]?=some x->i < l.length->body (mk i)=if p i x then pure (.done (r i x)) else pure (.next (mk (i+1))))
  (h2:body (mk l.length)=d.bind fun r=>pure (.done r)):loop body (mk 0)=match (l.zipIdx).find? (fun y=>p y.2 y.1) with | some y=>pure (r y.2 y.1) | none=>d:=by
 have key:∀ k i,i+k=l.length->loop body (mk i)=match ((l.drop i).zipIdx i).find? (fun y=>p y.2 y.1) with | some y=>pure (r y.2 y.1) | none=>d:=by
  intro k
  induction k with
  | zero=>
   intro i hi;have:i=l.length:=by omega
   subst this;rw[VP,h2,List.drop_length]
   rfl
  | succ k ih=>
   intro i hi;have hlt:i < l.length:=by omega
   have h3:=h1 i l[i] (List.getElem?_eq_getElem hlt) hlt;rw[List.drop_eq_getElem_cons hlt,List.zipIdx_cons,List.find?_cons]
   by_cases hp:p i l[i]=true
   ·rw[if_pos hp] at h3;rw[ze h3];simp[hp]
   ·rw[if_neg hp] at h3;rw[zt h3,ih (i+1) (by omega)];simp[hp]
 simpa using key l.length 0 (by omega)
theorem YV{body:σ->M (Step σ ρ)}(l:List ε)(mk:Nat->σ)(p:Nat->ε->Bool)(r1 r2:ρ)
  (h1:∀ (i:Nat) (x:ε),l[i]?=some x->i < l.length->body (mk i)=if p i x then pure (.next (mk (i+1))) else pure (.done r2))
  (h2:body (mk l.length)=pure (.done r1)):loop body (mk 0)=pure (if l.zipIdx.all (fun y=>p y.2 y.1) then r1 else r2):=by
 have key:∀ k i,i+k=l.length->loop body (mk i)=pure (if ((l.drop i).zipIdx i).all (fun y=>p y.2 y.1) then r1 else r2):=by
  intro k
  induction k with
  | zero=>
   intro i hi;have:i=l.length:=by omega
   subst this;rw[ze h2,List.drop_length]
   rfl
  | succ k ih=>
   intro i hi;have hlt:i < l.length:=by omega
   have h3:=h1 i l[i] (List.getElem?_eq_getElem hlt) hlt;rw[List.drop_eq_getElem_cons hlt,List.zipIdx_cons,List.all_cons]
   by_cases hp:p i l[i]=true
   ·rw[if_pos hp] at h3;rw[zt h3,ih (i+1) (by omega),hp,Bool.true_and]
   ·rw[if_neg hp] at h3;rw[ze h3];simp[hp]
 have:=key l.length 0 (by omega);rw[List.drop_zero] at this;exact this
def came{ε:Type}(m:List ε)(L:List Nat):List ε:=L.filterMap fun i=>m[i]?
theorem xQa{m:List ε}{L:List Nat}{i:Nat}{y:ε}(h:m[i]?=some y):came m (L++[i])=came m L++[y]:=by simp[came,h]
theorem jV{n:Nat}{L:List Nat}(hn:L.Nodup)(hb:∀ i∈L,i < n)(ha:∀ i,i < n->i∈L):L.Perm (List.range n):=by
 refine(List.perm_ext_iff_of_nodup hn List.nodup_range).2 fun i=>?_
 rw[List.mem_range];exact⟨hb i,ha i⟩
theorem xRa{m:List ε}{L:List Nat}(hn:L.Nodup)(hb:∀ i∈L,i < m.length)(ha:∀ i,i < m.length->i∈L):(came m L).Perm m:=by
 have h1:=(jV hn hb ha).filterMap fun i=>m[i]?
 have h2:(List.range m.length).filterMap (fun i=>m[i]?)=m:=by
  apply List.ext_getElem?;intro i;clear h1 hn hb ha;have:(List.range m.length).filterMap (fun i=>m[i]?)=m:=by
   induction m with
   | nil=>rfl
   | cons x r ih=>
    rw[List.length_cons,List.range_succ_eq_map,List.filterMap_cons];simp only[List.getElem?_cons_zero,List.filterMap_map]
    congr 1
  rw[this]
 rw[h2] at h1;exact h1
theorem xSa{n:Nat}{L:List Nat}(hn:L.Nodup)(hb:∀ i∈L,i < n):L.length<=n:=by
 have:=List.Nodup.length_le_of_subset hn (l₂:=List.range n) (fun i hi=>List.mem_range.2 (hb i hi));simpa using this
theorem full{n:Nat}{L:List Nat}(hn:L.Nodup)(hb:∀ i∈L,i < n)(hl:n<=L.length):∀ i,i < n->i∈L:=by
 intro i hi;refine Classical.byContradiction fun hni=>?_
 have:=xSa (n:=n) (L:=i::L) (List.nodup_cons.2 ⟨hni,hn⟩) (fun j hj=>by
  rcases List.mem_cons.1 hj with rfl | hj
  ·exact hi
  ·exact hb j hj)
 simp at this;omega
theorem loopM{body:σ->M (Step σ ρ)}(m:List ε)(mk:List Nat->τ->σ)(f:τ->ε->M τ)(g:τ->M ρ)(I:List ε->τ->Prop)(Q:ρ->Prop)
  (hb:∀ L t,(∀ i∈L,i < m.length)->body (mk L t)=xr (∀ i∈L,i < m.length) ((nxt m.length L).bind fun o=>match o with
   | none=>(g t).bind fun r=>pure (.done r)
   | some i=>(idx m (Int.ofNat i)).bind fun y=>(f t y).bind fun t'=>pure (.next (mk (L++[i]) t'))))
  (hs:∀ l t y,I l t->l.length < m.length->y∈m->∃ t',f t y=pure t'/\I (l++[y]) t') (he:∀ l t,l.Perm m->I l t->(g t).wp Q) (t0:τ) (h0:I [] t0):(loop body (mk [] t0)).wp Q:=by
 have key:∀ k L t,L.length+k=m.length->L.Nodup->(∀ i∈L,i < m.length)->I (came m L) t->UD body Q (mk L t):=by
  intro k
  induction k with
  | zero=>
   intro L t hk hn hlt hI;refine Zc ?_;rw[hb L t hlt];have hall:∀ i,i < m.length->i∈L:=fun i hi=>full hn hlt (by omega) i hi
   refine⟨hlt,⟨⟨none,hall⟩,fun o ho=>?_⟩⟩
   cases o with
   | none=>
    have:=he _ t (xRa hn hlt hall) hI;exact this
   | some i=>exact absurd (hall i ho.1) ho.2
  | succ k ih=>
   intro L t hk hn hlt hI;refine Zc ?_;rw[hb L t hlt];have hex:∃ i,i < m.length/\i∉L:=by
    refine Classical.byContradiction fun hno=>?_
    have hall:∀ i,i < m.length->i∈L:=fun i hi=>Classical.byContradiction fun h=>hno ⟨i,hi,h⟩
    have:=(jV hn hlt hall).length_eq;simp at this;omega
   obtain⟨i0,hi0⟩:=hex;refine⟨hlt,⟨⟨some i0,hi0⟩,fun o ho=>?_⟩⟩
   cases o with
   | none=>exact absurd (ho i0 hi0.1) hi0.2
   | some i=>
    have hi:=List.getElem?_eq_getElem ho.1;obtain⟨t',h1,h2⟩:=hs (came m L) t m[i] hI (by have:=List.length_filterMap_le (fun i=>m[i]?) L;unfold came;omega) (List.getElem_mem ho.1);show((idx m (Int.ofNat i)).bind _).wp _;rw[show(Int.ofNat i)=(i:Int) from rfl,zd hi,zA,h1,zA];refine ih (L++[i]) t' (by simp;omega) ?_ ?_ (by rw[xQa hi];exact h2)
    ·rw[List.nodup_append];refine⟨hn,by simp,fun a ha b hb'=>?_⟩;rw[List.mem_singleton.1 hb'];intro e;exact ho.2 (e▸ha)
    ·intro j hj;rcases List.mem_append.1 hj with hj | hj
     ·exact hlt j hj
     ·rw[List.mem_singleton.1 hj];exact ho.1
 exact key m.length [] t0 (by simp) List.nodup_nil (by simp) h0
theorem loopN{body:σ->M (Step σ ρ)}(n:Nat)(mk:List Nat->τ->σ)(I:List Nat->τ->Prop)(Q:ρ->Prop)
  (h:∀ L t,I L t->L.Nodup->(∀ i∈L,i < n)->∃ K:Option Nat->M (Step σ ρ),body (mk L t)=xr (∀ i∈L,i < n) ((nxt n L).bind K)/\((∀ i,i < n->i∈L)->(K none).wp (Step.post (fun _=>False) Q)) /\
   ∀ i,i < n->i∉L->∃ t',K (some i)=pure (.next (mk (L++[i]) t'))/\I (L++[i]) t') (t0:τ) (h0:I [] t0):(loop body (mk [] t0)).wp Q:=by
 have key:∀ k L t,L.length+k=n->L.Nodup->(∀ i∈L,i < n)->I L t->UD body Q (mk L t):=by
  intro k
  induction k with
  | zero=>
   intro L t hk hn hlt hI;obtain⟨K,h1,h2,h3⟩:=h L t hI hn hlt;refine Zc ?_;rw[h1];have hall:∀ i,i < n->i∈L:=full hn hlt (by omega);refine⟨hlt,⟨⟨none,hall⟩,fun o ho=>?_⟩⟩
   cases o with
   | none=>exact(K none).mono (fun a ha=>by cases a with | next s=>exact ha.elim | done r=>exact ha) (h2 hall)
   | some i=>exact absurd (hall i ho.1) ho.2
  | succ k ih=>
   intro L t hk hn hlt hI;obtain⟨K,h1,h2,h3⟩:=h L t hI hn hlt;refine Zc ?_;rw[h1];have hex:∃ i,i < n/\i∉L:=by
    refine Classical.byContradiction fun hno=>?_
    have hall:∀ i,i < n->i∈L:=fun i hi=>Classical.byContradiction fun h=>hno ⟨i,hi,h⟩
    have:=(jV hn hlt hall).length_eq;simp at this;omega
   obtain⟨i0,hi0⟩:=hex;refine⟨hlt,⟨⟨some i0,hi0⟩,fun o ho=>?_⟩⟩
   cases o with
   | none=>exact absurd (ho i0 hi0.1) hi0.2
   | some i=>
    obtain⟨t',h4,h5⟩:=h3 i ho.1 ho.2;show(K (some i)).wp _;rw[h4];refine ih (L++[i]) t' (by simp;omega) ?_ ?_ h5
    ·rw[List.nodup_append];refine⟨hn,by simp,fun a ha b hb'=>?_⟩;rw[List.mem_singleton.1 hb'];intro e;exact ho.2 (e▸ha)
    ·intro j hj;rcases List.mem_append.1 hj with hj | hj
     ·exact hlt j hj
     ·rw[List.mem_singleton.1 hj];exact ho.1
 exact key n [] t0 (by simp) List.nodup_nil (by simp) h0
end M
namespace AL
variable{κ ν:Type}[DecidableEq κ]
theorem xOa(m:List (κ×ν))(k q:κ)(v:ν):get (set m k v) q=if k=q then some v else get m q:=by
 induction m with
 | nil=>simp[set,get]
 | cons x r ih=>
  obtain⟨a,u⟩:=x
  by_cases h:a=k
  ·subst h;simp only[set,if_true,get];split <;> rfl
  ·simp only[set,h,if_false,get,ih]
   by_cases h2:a=q
   ·subst h2;simp[Ne.symm h]
   ·simp[h2]
theorem getZ_set(m:List (κ×ν))(k q:κ)(v z:ν):getZ (set m k v) q z=if k=q then v else getZ m q z:=by
 unfold getZ;rw[xOa];split <;> rfl
theorem keys_set(m:List (κ×ν))(k:κ)(v:ν):(set m k v).map (·.1)=if k∈m.map (·.1) then m.map (·.1) else m.map (·.1)++[k]:=by
 induction m with
 | nil=>simp[set]
 | cons x r ih=>
  obtain⟨a,u⟩:=x
  by_cases h:a=k
  ·subst h;simp[set]
  ·simp only[set,h,if_false,List.map_cons,ih,List.mem_cons,Ne.symm h,false_or]
   split <;> simp
theorem nodup_set{m:List (κ×ν)}(h:(m.map (·.1)).Nodup)(k:κ)(v:ν):((set m k v).map (·.1)).Nodup:=by
 rw[keys_set]
 split
 ·exact h
 ·rename_i hk
  rw[List.nodup_append];refine⟨h,by simp,fun a ha b hb=>?_⟩;rw[List.mem_singleton.1 hb];intro e;exact hk (e▸ha)
theorem get_none{m:List (κ×ν)}{k:κ}:get m k=none↔k∉m.map (·.1):=by
 induction m with
 | nil=>simp[get]
 | cons x r ih=>
  obtain⟨a,u⟩:=x
  by_cases h:a=k
  ·subst h;simp[get]
  ·simp[get,h,ih,Ne.symm h]
theorem get_mem{m:List (κ×ν)}{k:κ}{v:ν}(h:get m k=some v):(k,v)∈m:=by
 induction m with
 | nil=>simp[get] at h
 | cons x r ih=>
  obtain⟨a,u⟩:=x
  by_cases e:a=k
  ·subst e;simp[get] at h;subst h;simp
  ·simp only[get,e,if_false] at h;exact List.mem_cons_of_mem _ (ih h)
theorem mem_get{m:List (κ×ν)}(hn:(m.map (·.1)).Nodup){k:κ}{v:ν}(h:(k,v)∈m):get m k=some v:=by
 induction m with
 | nil=>simp at h
 | cons x r ih=>
  obtain⟨a,u⟩:=x;simp only[List.map_cons,List.nodup_cons] at hn;rcases List.mem_cons.1 h with e | h
  ·cases e;simp[get]
  ·have:a≠k:=fun e=>hn.1 (e▸List.mem_map.2 ⟨(k,v),h,rfl⟩)
   simp only[get,this,if_false];exact ih hn.2 h
theorem len_set(m:List (κ×ν))(k:κ)(v:ν):(set m k v).length<=m.length+1:=by
 induction m with
 | nil=>simp[set]
 | cons x r ih=>
  obtain⟨a,u⟩:=x;unfold set
  split
  ·simp
  ·simpa using ih
end AL
end Go.Ep
namespace Go.Ep.M.V
open Go
def yv(d:DT):Bool:=decide (1<=d.dev)&&(decide (1<=d.n)&&decide (d.n<=281474976710655))
theorem Xr{d:DT}:yv d=true↔1<=d.dev/\1<=d.n/\d.n<=281474976710655:=by simp[yv]
theorem ug(d:DT):uw d=pure (yv d):=by
 unfold uw;rw[xf,xf,zA];refine congrArg pure ?_;rw[Bool.eq_iff_iff,Xr];simp only[Bool.and_eq_true,decide_eq_true_eq];omega
theorem QR(a b:List DT)(h:a.length<=1000000000000):jB a b=pure (decide (a=b)):=by
 unfold jB
 by_cases hl:(a.length:Int)=b.length
 ·simp only[hl,decide_true,Bool.not_true,cond_false];have:=YV (body:=Zi a b) a (fun i=>(i:Int)) (fun i x=>decide (b[i]?=some x)) (.brk ()) (.ret false) (fun i x hx hi=>by
   have hb:i < b.length:=by omega
   unfold Zi;rw[zd hx,zd (List.getElem?_eq_getElem hb),wv (by omega)];simp only[zA,List.getElem?_eq_getElem hb,Option.some.injEq];have:decide ((i:Int) < (a.length:Int))=true:=by simpa using hi
   rw[this,cond_true]
   by_cases he:b[i]=x
   ·subst he;simp
   ·rw[if_neg (by simpa using he)];have:(decide (x.dev=b[i].dev)&&decide (x.n=b[i].n))=false:=by
     rw[Bool.eq_false_iff];intro hc;simp at hc;apply he
     cases x;cases hh:b[i];simp_all
    rw[this];rfl) (by
   unfold Zi;simp)
  rw[show(0:Int)=((0:Nat):Int) from rfl,this]
  by_cases he:a=b
  ·subst he;rw[if_pos]
   ·simp[zA,Ze]
   ·rw[List.all_eq_true];intro ⟨x,i⟩ hx;rw[List.mk_mem_zipIdx_iff_getElem?] at hx;simpa using hx
  ·rw[if_neg]
   ·simp[he,zA,VO]
   ·intro hall;rw[List.all_eq_true] at hall;apply he;apply List.ext_getElem (by omega);intro i h1 h2;have:=hall (a[i],i) (by rw[List.mk_mem_zipIdx_iff_getElem?];exact List.getElem?_eq_getElem h1);simp[h2] at this;exact this.symm
 ·have hne:a≠b:=fun e=>hl (by rw[e])
  simp[hl,hne]
def ofV : List DT->Int->Int
 | [],_=>0
 | d::r,dev=>if d.dev=dev/\yv d=true then max d.n (ofV r dev) else ofV r dev
theorem xTa(v:List DT)(dev:Int):0<=ofV v dev/\ofV v dev<=281474976710655:=by
 induction v with
 | nil=>simp[ofV]
 | cons d r ih=>
  simp only[ofV]
  split
  ·rename_i h;have:=Xr.1 h.2;omega
  ·exact ih
theorem ofV_pos{v:List DT}{dev:Int}:0 < ofV v dev↔∃ d∈v,d.dev=dev/\yv d=true:=by
 induction v with
 | nil=>simp[ofV]
 | cons d r ih=>
  simp only[ofV,List.mem_cons,exists_eq_or_imp]
  split
  ·rename_i h
   have:=Xr.1 h.2
   constructor
   ·intro _;exact .inl h
   ·intro _;omega
  ·rename_i h
   rw[ih]
   constructor
   ·exact .inr
   ·rintro(hh | hh)
    ·exact absurd hh h
    ·exact hh
def yJa : List Int->Int->List Int
 | [],k=>[k]
 | a::r,k=>if k < a then k::a::r else if k=a then a::r else a::yJa r k
theorem jW{l:List Int}{k q:Int}:q∈yJa l k↔q=k\/q∈l:=by
 induction l with
 | nil=>simp[yJa]
 | cons a r ih=>
  unfold yJa
  split
  ·simp
  ·split
   ·rename_i h;subst h;simp
   ·simp only[List.mem_cons,ih];constructor
    ·rintro(h | h | h) <;> simp[h]
    ·rintro(h | h | h) <;> simp[h]
theorem Va{l:List Int}(h:l.Pairwise (· < ·))(k:Int):(yJa l k).Pairwise (· < ·):=by
 induction l with
 | nil=>simp[yJa]
 | cons a r ih=>
  obtain⟨h1,h2⟩:=List.pairwise_cons.1 h;unfold yJa
  split
  ·rename_i hk
   refine List.pairwise_cons.2 ⟨fun x hx=>?_,h⟩;rcases List.mem_cons.1 hx with rfl | hx
   ·exact hk
   ·have:=h1 x hx;omega
  ·split
   ·exact h
   ·refine List.pairwise_cons.2 ⟨fun x hx=>?_,ih h2⟩;rcases jW.1 hx with rfl | hx
    ·omega
    ·exact h1 x hx
theorem zKa(l : List Int)(k : Int) : (yJa l k).length<=l.length+1 := by
  induction l with
  | nil => simp[yJa]
  | cons a r ih => unfold yJa; split <;> try split
                   all_goals simp_all
def Zr(l:List Int)(d:DT):List Int:=if yv d then yJa l d.dev else l
def devsL(v:List DT):List Int:=v.foldl Zr []
theorem Xs(v:List DT):∀ l:List Int,l.Pairwise (· < ·)->(v.foldl Zr l).Pairwise (· < ·)/\(∀ k,k∈v.foldl Zr l↔k∈l\/∃ d∈v,d.dev=k/\yv d=true)/\(v.foldl Zr l).length<=l.length+v.length:=by
 induction v with
 | nil=>intro l h;simp[h]
 | cons d r ih=>
  intro l h;simp only[List.foldl_cons];unfold Zr
  split
  ·rename_i hg
   obtain⟨h1,h2,h3⟩:=ih _ (Va h d.dev);refine⟨h1,fun k=>?_,?_⟩
   ·have:=h2 k;unfold Zr at this;rw[this,jW]
    constructor
    ·rintro((rfl | h) | ⟨e,he,h⟩)
     ·exact .inr ⟨d,by simp,rfl,hg⟩
     ·exact .inl h
     ·exact .inr ⟨e,by simp[he],h⟩
    ·rintro(h | ⟨e,he,h⟩)
     ·exact .inl (.inr h)
     ·rcases List.mem_cons.1 he with rfl | he
      ·exact .inl (.inl h.1.symm)
      ·exact .inr ⟨e,he,h⟩
   ·have:=zKa l d.dev;simp only[List.length_cons];unfold Zr at h3;omega
  ·rename_i hg
   obtain⟨h1,h2,h3⟩:=ih _ h;refine⟨h1,fun k=>?_,?_⟩
   ·have:=h2 k;unfold Zr at this;rw[this]
    constructor
    ·rintro(h | ⟨e,he,h⟩)
     ·exact .inl h
     ·exact .inr ⟨e,by simp[he],h⟩
    ·rintro(h | ⟨e,he,h⟩)
     ·exact .inl h
     ·rcases List.mem_cons.1 he with rfl | he
      ·exact absurd h.2 hg
      ·exact .inr ⟨e,he,h⟩
   ·simp only[List.length_cons];unfold Zr at h3;omega
theorem vX{v:List DT}{k:Int}:k∈devsL v↔0 < ofV v k:=by rw[ofV_pos];simpa[devsL] using (Xs v [] List.Pairwise.nil).2.1 k
def uE(m:List (Int×Int))(d:DT):List (Int×Int):=if yv d then AL.set m d.dev (max (AL.getZ m d.dev 0) d.n) else m
def vq(v:List DT):List (Int×Int):=v.foldl uE []
theorem jX(v:List DT):∀ m:List (Int×Int),(m.map (·.1)).Nodup->((v.foldl uE m).map (·.1)).Nodup/\((∀ k,0<=AL.getZ m k 0)->∀ k,AL.getZ (v.foldl uE m) k 0=max (AL.getZ m k 0) (ofV v k))/\(v.foldl uE m).length<=m.length+v.length/\(∀ k,k∈(v.foldl uE m).map (·.1)->k∈m.map (·.1)\/0 < ofV v k):=by
 induction v with
 | nil=>
  intro m h;refine⟨h,fun h0 k=>?_,by simp,fun k hk=>.inl hk⟩;have:=h0 k;simp only[List.foldl_nil,ofV];omega
 | cons d r ih=>
  intro m h;simp only[List.foldl_cons]
  by_cases hg:yv d=true
  ·have hd:=Xr.1 hg;have e:uE m d=AL.set m d.dev (max (AL.getZ m d.dev 0) d.n):=by simp[uE,hg]
   rw[e];obtain⟨h1,h2,h3,h4⟩:=ih _ (AL.nodup_set h d.dev (max (AL.getZ m d.dev 0) d.n));refine⟨h1,fun h0 k=>?_,?_,fun k hk=>?_⟩
   ·rw[h2 (fun q=>by rw[AL.getZ_set];have:=h0 q;have:=h0 d.dev;split <;> omega),AL.getZ_set];simp only[ofV]
    by_cases hk:d.dev=k
    ·subst hk;simp only[if_true,hg,and_self];omega
    ·simp[hk]
   ·have:=AL.len_set m d.dev (max (AL.getZ m d.dev 0) d.n);simp only[List.length_cons];omega
   ·simp only[ofV];rcases h4 k hk with h5 | h5
    ·rw[AL.keys_set] at h5
     split at h5
     ·exact .inl h5
     ·rcases List.mem_append.1 h5 with h5 | h5
      ·exact .inl h5
      ·right
       rw[List.mem_singleton.1 h5,if_pos ⟨rfl,hg⟩];omega
    ·right;split <;> omega
  ·have e:uE m d=m:=by simp[uE,hg]
   rw[e];obtain⟨h1,h2,h3,h4⟩:=ih m h;have e2:∀ k,ofV (d::r) k=ofV r k:=fun k=>by simp only[ofV];rw[if_neg (fun hh=>hg hh.2)]
   exact⟨h1,fun h0 k=>by rw[h2 h0,e2],by simp only[List.length_cons];omega,fun k hk=>by rw[e2];exact h4 k hk⟩
theorem uO(v:List DT):((vq v).map (·.1)).Nodup:=(jX v [] (by simp)).1
theorem vY(v:List DT)(k:Int):AL.getZ (vq v) k 0=ofV v k:=by
 have:=(jX v [] (by simp)).2.1 (fun _=>Int.le_refl _) k;have h2:=xTa v k;rw[vq,this];show max 0 (ofV v k)=_;omega
theorem Zs{v:List DT}{k n:Int}(h:(k,n)∈vq v):n=ofV v k/\0 < n:=by
 have h1:=AL.mem_get (uO v) h;have h2:AL.getZ (vq v) k 0=n:=by simp[AL.getZ,h1]
 rw[vY] at h2;have h3:=(jX v [] (by simp)).2.2.2 k (List.mem_map.2 ⟨_,h,rfl⟩);simp at h3;omega
def Ju(h:Int×Int->Int)(m:List (Int×Int))(L:List Nat):List (Int×Int):=m.zipIdx.map fun y=>if y.2∈L then (y.1.1,h y.1) else y.1
theorem uF{h:Int×Int->Int}{m:List (Int×Int)}{L:List Nat}{i:Nat}:(Ju h m L)[i]?=(m[i]?).map fun e=>if i∈L then (e.1,h e) else e:=by
 unfold Ju;rw[List.getElem?_map,List.getElem?_zipIdx]
 cases m[i]? <;> simp
theorem jY{h:Int×Int->Int}{m:List (Int×Int)}{L:List Nat}:(Ju h m L).length=m.length:=by simp[Ju]
theorem set_at{m:List (Int×Int)}(hn:(m.map (·.1)).Nodup){i:Nat}{e:Int×Int}(hi:m[i]?=some e)(v:Int):AL.set m e.1 v=m.set i (e.1,v):=by
 induction m generalizing i with
 | nil=>simp at hi
 | cons x r ih=>
  obtain⟨a,u⟩:=x;simp only[List.map_cons,List.nodup_cons] at hn
  cases i with
  | zero=>simp at hi;subst hi;simp[AL.set]
  | succ i=>
   simp only[List.getElem?_cons_succ] at hi;have:a≠e.1:=fun he=>hn.1 (he▸List.mem_map.2 ⟨e,List.mem_of_getElem? hi,rfl⟩)
   simp only[AL.set,this,if_false,List.set_cons_succ];rw[ih hn.2 hi]
theorem Vb{h:Int×Int->Int}{m:List (Int×Int)}{L:List Nat}:(Ju h m L).map (·.1)=m.map (·.1):=by
 apply List.ext_getElem?;intro i;rw[List.getElem?_map,uF,List.getElem?_map]
 cases m[i]? with
 | none=>rfl
 | some e=>simp only[Option.map_some];split <;> rfl
def ypa(a b:DT):Int:=if a=b then 0 else if zx a b then -1 else 1
theorem jZ{a b:DT}:ypa a b < 0↔zx a b=true:=by
 unfold ypa
 split
 ·rename_i h;subst h;simp[zx]
 ·split <;> simp_all
theorem equal_eq(a b:List DT)(h:a.length<=1000000000000):yP a b=pure (decide (a=b)):=by
 have e:yP a b=jB a b:=rfl;rw[e,QR a b h]
theorem QS(a b:List DT)(h:a.length<=1000000000000):Ww a b=pure (decide (a=b)):=by
 unfold Ww;rw[equal_eq a b h,zB,zA]
end Go.Ep.M.V
namespace Go.Ep.M.R
open Go
def YW(x:RN):Bool:=decide (1<=x.lo)&&(decide (x.lo<=x.hi)&&decide (x.hi<=281474976710655))
theorem zi{x:RN}:YW x=true↔1<=x.lo/\x.lo<=x.hi/\x.hi<=281474976710655:=by simp[YW]
def inR(n:Int)(x:RN):Bool:=YW x&&(decide (x.lo<=n)&&decide (n<=x.hi))
theorem ym{n:Int}{x:RN}:inR n x=true↔(1<=x.lo/\x.lo<=x.hi/\x.hi<=281474976710655)/\x.lo<=n/\n<=x.hi:=by simp[inR,YW]
def yh(l:List RN)(n:Int):Bool:=l.any (inR n)
theorem wH{l:List RN}{n:Int}:yh l n=true↔∃ x∈l,YW x=true/\x.lo<=n/\n<=x.hi:=by
 unfold yh;rw[List.any_eq_true];simp[inR]
@[simp] theorem ja(n:Int):yh [] n=false:=rfl
theorem xe(x:RN)(l:List RN)(n:Int):yh (x::l) n=(inR n x||yh l n):=rfl
theorem Zt(a b:List RN)(n:Int):yh (a++b) n=(yh a n||yh b n):=by simp[yh]
theorem vZ(x:RN)(n:Int):yh [x] n=inR n x:=by simp[yh]
theorem xUa{a b:List RN}(h:a.Perm b)(n:Int):yh a n=yh b n:=by
 rw[Bool.eq_iff_iff,wH,wH];simp only[h.mem_iff]
theorem QT(l:List RN)(n:Int):yh (l.filter YW) n=yh l n:=by
 rw[Bool.eq_iff_iff,wH,wH];simp only[List.mem_filter];exact⟨fun⟨x,⟨h1,_⟩,h3⟩=>⟨x,h1,h3⟩,fun⟨x,h1,h2,h3⟩=>⟨x,⟨h1,h2⟩,h2,h3⟩⟩
theorem yKa{l:List RN}{n:Int}(h:yh l n=true):1<=n/\n<=281474976710655:=by
 obtain⟨x,_,h2,h3,h4⟩:=wH.1 h;have:=zi.1 h2;omega
def Nf : List RN->Prop
 | []=>True
 | x::r=>YW x=true/\(∀ y∈r,x.hi+1 < y.lo)/\Nf r
theorem Nf.may{l:List RN}(h:Nf l):∀ x∈l,YW x=true:=by
 induction l with
 | nil=>simp
 | cons y r ih=>
  intro x hx;rcases List.mem_cons.1 hx with rfl | hx
  ·exact h.1
  ·exact ih h.2.2 x hx
theorem YX{l:List RN}{z:RN}:Nf (l++[z])↔Nf l/\YW z=true/\∀ p∈l,p.hi+1 < z.lo:=by
 induction l with
 | nil=>simp[Nf]
 | cons x r ih=>
  simp only[List.cons_append,Nf,ih,List.mem_append,List.mem_cons,List.not_mem_nil,or_false]
  constructor
  ·rintro⟨h1,h2,h3,h4,h5⟩;refine⟨⟨h1,fun y hy=>h2 y (.inl hy),h3⟩,h4,fun p hp=>?_⟩;rcases hp with rfl | hp
   ·exact h2 z (.inr rfl)
   ·exact h5 p hp
  ·rintro⟨⟨h1,h2,h3⟩,h4,h5⟩;refine⟨h1,fun y hy=>?_,h3,h4,fun p hp=>h5 p (.inr hp)⟩;rcases hy with hy | rfl
   ·exact h2 y hy
   ·exact h5 x (.inl rfl)
theorem Vc{x:RN}{r:List RN}(h:Nf (x::r)){n:Int}(hn:yh r n=true):x.hi+1 < n:=by
 obtain⟨y,h1,_,h3,_⟩:=wH.1 hn;have:=h.2.1 y h1;omega
theorem jb{x:RN}{r:List RN}(h:Nf (x::r)):yh (x::r) x.lo=true:=by
 rw[xe];have:=zi.1 h.1;rw[Bool.or_eq_true];exact .inl (ym.2 ⟨this,by omega,by omega⟩)
theorem jc{x:RN}{r:List RN}(h:Nf (x::r)){n:Int}(hn:yh (x::r) n=true):x.lo<=n:=by
 rw[xe,Bool.or_eq_true] at hn;rcases hn with hn | hn
 ·exact(ym.1 hn).2.1
 ·have:=Vc h hn;have:=zi.1 h.1;omega
theorem QU{x:RN}{r:List RN}(h:Nf (x::r)){n:Int}(h1:x.lo<=n):yh (x::r) n=true↔n<=x.hi\/yh r n=true:=by
 rw[xe,Bool.or_eq_true,ym];have:=zi.1 h.1
 constructor
 ·rintro(h2 | h2)
  ·exact .inl h2.2.2
  ·exact .inr h2
 ·rintro(h2 | h2)
  ·exact .inl ⟨this,h1,h2⟩
  ·exact .inr h2
theorem Ua : ∀ {a b:List RN},Nf a->Nf b->(∀ n,yh a n=yh b n)->a=b
 | [],[],_,_,_=>rfl
 | [],y::s,_,hb,h=>by have:=h y.lo;rw[jb hb] at this;simp at this
 | x::r,[],ha,_,h=>by have:=h x.lo;rw[jb ha] at this;simp at this
 | x::r,y::s,ha,hb,h=>by
  have h1:x.lo=y.lo:=by
   have h2:=jc hb (by rw[<- h];exact jb ha);have h3:=jc ha (by rw[h];exact jb hb);omega
  have hx:=zi.1 ha.1;have hy:=zi.1 hb.1;have hle:∀ {x y:RN} {r s:List RN},Nf (x::r)->Nf (y::s)->(∀ n,yh (x::r) n=yh (y::s) n)->x.lo=y.lo->y.hi<=x.hi:=by
   intro x y r s ha hb h h1;have hx:=zi.1 ha.1;refine Classical.byContradiction fun hc=>?_
   have h2:yh (y::s) (x.hi+1)=true:=(QU hb (by omega)).2 (.inl (by omega));rw[<- h,QU ha (by omega)] at h2;rcases h2 with h2 | h2
   ·omega
   ·have:=Vc ha h2;omega
  have h2:x.hi=y.hi:=by
   have:=hle ha hb h h1;have:=hle hb ha (fun n=>(h n).symm) h1.symm;omega
  have he:x=y:=by cases x;cases y;simp_all
  subst he;rw[Ua ha.2.2 hb.2.2 fun n=>?_];rw[Bool.eq_iff_iff];have h3:=h n
  constructor
  ·intro hn;have:=Vc ha hn;have h4:yh (x::r) n=true:=(QU ha (by omega)).2 (.inr hn);rw[h3,QU hb (by omega)] at h4;rcases h4 with h4 | h4
   ·omega
   ·exact h4
  ·intro hn;have:=Vc hb hn;have h4:yh (x::s) n=true:=(QU hb (by omega)).2 (.inr hn);rw[<- h3,QU ha (by omega)] at h4;rcases h4 with h4 | h4
   ·omega
   ·exact h4
def Ub(n:Int)(s:Bool×List Int)(x:Int):Bool×List Int:=
 let t:=if s.1=false/\n<=x then (true,s.2++[n]) else s
 if x=n then t else (t.1,t.2++[x])
def putP(l:List Int)(n:Int):List Int:=let t:=l.foldl (Ub n) (false,[]);if t.1 then t.2 else t.2++[n]
abbrev Up(l:List Int):Prop:=l.Pairwise (· < ·)
theorem Vd{l:List Int}{z:Int}:Up (l++[z])↔Up l/\∀ p∈l,p < z:=by
 unfold Up;rw[List.pairwise_append];simp
theorem Xt(n:Int):∀ (l:List Int) (s:Bool×List Int),Up l->Up s.2->(∀ p∈s.2,∀ x∈l,p < x\/(p=n/\s.1=true/\p<=x))->(s.1=true->n∈s.2)->(s.1=false->∀ p∈s.2,p < n) ->
  Up (l.foldl (Ub n) s).2/\(∀ m,m∈(l.foldl (Ub n) s).2↔m∈s.2\/(m∈l/\m≠n)\/(m=n/\(l.foldl (Ub n) s).1=true))/\((l.foldl (Ub n) s).1=false->∀ p∈(l.foldl (Ub n) s).2,p < n)/\(l.foldl (Ub n) s).2.length<=s.2.length+l.length+(if s.1 then 0 else 1)/\((l.foldl (Ub n) s).1=false->(l.foldl (Ub n) s).2.length<=s.2.length+l.length)
 | [],s,_,hs,_,h2,h3=>by
  refine⟨hs,fun m=>?_,h3,by simp,by simp⟩;simp only[List.foldl_nil,List.not_mem_nil,false_and,false_or];exact⟨fun h=>.inl h,fun h=>h.elim id fun⟨e,h⟩=>e▸h2 h⟩
 | x::r,(d,out),hl,hs,h1,h2,h3=>by
  rw[List.foldl_cons];have hl':=List.pairwise_cons.1 hl;simp only at hs h1 h2 h3
  by_cases hc:d=false/\n<=x
  ·obtain⟨rfl,hnx⟩:=hc
   by_cases hx:x=n
   ·have e:Ub n (false,out) x=(true,out++[n]):=by simp[Ub,hx]
    rw[e];obtain⟨i1,i2,i3,i4,i5⟩:=Xt n r (true,out++[n]) hl'.2 (Vd.2 ⟨hs,h3 rfl⟩) (fun p hp y hy=>by
     have:=hl'.1 y hy;rcases List.mem_append.1 hp with hp | hp
     ·have:=h3 rfl p hp;left;omega
     ·simp at hp;left;omega) (fun _=>by simp) (fun h=>by cases h)
    refine⟨i1,fun m=>?_,i3,?_,?_⟩
    ·rw[i2];simp only[List.mem_append,List.mem_cons,List.not_mem_nil,or_false]
     constructor
     ·rintro((h | h) | h | h)
      ·exact .inl h
      ·refine .inr (.inr ⟨h,?_⟩)
       cases hb:(r.foldl (Ub n) (true,out++[n])).1 with
       | true=>rfl
       | false=>have:=i3 hb n ((i2 n).2 (.inl (by simp)));omega
      ·exact .inr (.inl ⟨.inr h.1,h.2⟩)
      ·exact .inr (.inr h)
     ·rintro(h | ⟨h | h,h'⟩ | h)
      ·exact .inl (.inl h)
      ·exact absurd (h.trans hx) h'
      ·exact .inr (.inl ⟨h,h'⟩)
      ·exact .inr (.inr h)
    ·simp at i4 ⊢;omega
    ·intro hf;have:=i5 hf;simp at this ⊢;omega
   ·have e:Ub n (false,out) x=(true,out++[n]++[x]):=by simp[Ub,hx,hnx]
    rw[e];obtain⟨i1,i2,i3,i4,i5⟩:=Xt n r (true,out++[n]++[x]) hl'.2 (Vd.2 ⟨Vd.2 ⟨hs,h3 rfl⟩,fun p hp=>by
     rcases List.mem_append.1 hp with hp | hp
     ·have:=h3 rfl p hp;omega
     ·simp at hp;omega⟩) (fun p hp y hy=>by
     have:=hl'.1 y hy;simp only[List.mem_append,List.mem_singleton] at hp;rcases hp with(hp | hp) | hp
     ·have:=h3 rfl p hp;left;omega
     ·left;omega
     ·left;omega) (fun _=>by simp) (fun h=>by cases h)
    refine⟨i1,fun m=>?_,i3,?_,?_⟩
    ·rw[i2];simp only[List.mem_append,List.mem_cons,List.not_mem_nil,or_false]
     constructor
     ·rintro(((h | h) | h) | h | h)
      ·exact .inl h
      ·refine .inr (.inr ⟨h,?_⟩)
       cases hb:(r.foldl (Ub n) (true,out++[n]++[x])).1 with
       | true=>rfl
       | false=>have:=i3 hb n ((i2 n).2 (.inl (by simp)));omega
      ·exact .inr (.inl ⟨.inl h,fun e=>hx (h.symm.trans e)⟩)
      ·exact .inr (.inl ⟨.inr h.1,h.2⟩)
      ·exact .inr (.inr h)
     ·rintro(h | ⟨h | h,h'⟩ | h)
      ·exact .inl (.inl (.inl h))
      ·exact .inl (.inr h)
      ·exact .inr (.inl ⟨h,h'⟩)
      ·exact .inr (.inr h)
    ·simp at i4 ⊢;omega
    ·intro hf;have:=i5 hf;simp at this ⊢;exfalso;have:=i3 hf n ((i2 n).2 (.inl (by simp)));omega
  ·by_cases hx:x=n
   ·have hd:d=true:=by cases d with | true=>rfl | false=>exact absurd ⟨rfl,by omega⟩ hc
    subst hd;have e:Ub n (true,out) x=(true,out):=by simp[Ub,hx]
    rw[e];obtain⟨i1,i2,i3,i4,i5⟩:=Xt n r (true,out) hl'.2 hs (fun p hp y hy=>h1 p hp y (List.mem_cons_of_mem _ hy)) h2 h3;refine⟨i1,fun m=>?_,i3,?_,?_⟩
    ·rw[i2];simp only[List.mem_cons]
     constructor
     ·rintro(h | h | h)
      ·exact .inl h
      ·exact .inr (.inl ⟨.inr h.1,h.2⟩)
      ·exact .inr (.inr h)
     ·rintro(h | ⟨h | h,h'⟩ | h)
      ·exact .inl h
      ·exact absurd (h.trans hx) h'
      ·exact .inr (.inl ⟨h,h'⟩)
      ·exact .inr (.inr h)
    ·simp at i4 ⊢;omega
    ·intro hf;have:=i5 hf;simp at this ⊢;omega
   ·have e:Ub n (d,out) x=(d,out++[x]):=by
     unfold Ub;simp only[hc,if_false,hx]
    rw[e];have hlt:d=false->x < n:=fun h=>by
     have:¬ n<=x:=fun h'=>hc ⟨h,h'⟩
     omega
    obtain⟨i1,i2,i3,i4,i5⟩:=Xt n r (d,out++[x]) hl'.2 (Vd.2 ⟨hs,fun p hp=>by
     rcases h1 p hp x (by simp) with h | h
     ·exact h
     ·omega⟩) (fun p hp y hy=>by
     rcases List.mem_append.1 hp with hp | hp
     ·exact h1 p hp y (List.mem_cons_of_mem _ hy)
     ·simp at hp;have:=hl'.1 y hy;left;omega) (fun h=>List.mem_append_left _ (h2 h)) (fun h p hp=>by
     rcases List.mem_append.1 hp with hp | hp
     ·exact h3 h p hp
     ·simp at hp;rw[hp];exact hlt h)
    refine⟨i1,fun m=>?_,i3,?_,?_⟩
    ·rw[i2];simp only[List.mem_append,List.mem_cons,List.not_mem_nil,or_false]
     constructor
     ·rintro((h | h) | h | h)
      ·exact .inl h
      ·exact .inr (.inl ⟨.inl h,fun e=>hx (h.symm.trans e)⟩)
      ·exact .inr (.inl ⟨.inr h.1,h.2⟩)
      ·exact .inr (.inr h)
     ·rintro(h | ⟨h | h,h'⟩ | h)
      ·exact .inl (.inl h)
      ·exact .inl (.inr h)
      ·exact .inr (.inl ⟨h,h'⟩)
      ·exact .inr (.inr h)
    ·simp at i4 ⊢;omega
    ·intro hf;have:=i5 hf;simp at this ⊢;omega
theorem Uc{l:List Int}(h:Up l)(n:Int):Up (putP l n)/\(∀ m,m∈putP l n↔m∈l\/m=n)/\(putP l n).length<=l.length+1:=by
 obtain⟨i1,i2,i3,i4,i5⟩:=Xt n l (false,[]) h (by simp[Up]) (by simp) (by simp) (by simp);unfold putP;simp only
 cases hb:(l.foldl (Ub n) (false,[])).1 with
 | true=>
  simp only[if_true];refine⟨i1,fun m=>?_,by simpa using i4⟩;rw[i2,hb];simp only[List.not_mem_nil,false_or,and_true]
  constructor
  ·rintro(h | h)
   ·exact .inl h.1
   ·exact .inr h
  ·rintro(h | h)
   ·by_cases e:m=n
    ·exact .inr e
    ·exact .inl ⟨h,e⟩
   ·exact .inr h
 | false=>
  have:=i5 hb;rw[if_neg (by simp)];refine⟨Vd.2 ⟨i1,i3 hb⟩,fun m=>?_,by simp at this ⊢;omega⟩;simp only[List.mem_append,List.mem_singleton,i2,hb,List.not_mem_nil,false_or]
  constructor
  ·rintro((h | h) | h)
   ·exact .inl h.1
   ·cases h.2
   ·exact .inr h
  ·rintro(h | h)
   ·by_cases e:m=n
    ·exact .inr e
    ·exact .inl (.inl ⟨h,e⟩)
   ·exact .inr h
def ptS(out:List Int)(x:RN):List Int:=if YW x then putP (putP out x.lo) (x.hi+1) else out
def qh(l:List RN):List Int:=l.foldl ptS []
theorem QV : ∀ (l:List RN) (out:List Int),Up out->Up (l.foldl ptS out)/\(∀ m,m∈l.foldl ptS out↔m∈out\/∃ x∈l,YW x=true/\(m=x.lo\/m=x.hi+1))/\(l.foldl ptS out).length<=out.length+2*l.length
 | [],out,h=>⟨h,fun m=>by simp,by simp⟩
 | x::r,out,h=>by
  rw[List.foldl_cons];obtain⟨j1,j2,j3⟩:=Uc h x.lo;obtain⟨k1,k2,k3⟩:=Uc j1 (x.hi+1)
  by_cases hm:YW x=true
  ·have e:ptS out x=putP (putP out x.lo) (x.hi+1):=by simp[ptS,hm]
   rw[e];obtain⟨i1,i2,i3⟩:=QV r _ k1;refine⟨i1,fun m=>?_,by simp;omega⟩;rw[i2,k2,j2]
   constructor
   ·rintro(((h | h) | h) | ⟨y,h1,h2⟩)
    ·exact .inl h
    ·exact .inr ⟨x,by simp,hm,.inl h⟩
    ·exact .inr ⟨x,by simp,hm,.inr h⟩
    ·exact .inr ⟨y,by simp[h1],h2⟩
   ·rintro(h | ⟨y,h1,h2,h3⟩)
    ·exact .inl (.inl (.inl h))
    ·rcases List.mem_cons.1 h1 with rfl | h1
     ·rcases h3 with h3 | h3
      ·exact .inl (.inl (.inr h3))
      ·exact .inl (.inr h3)
     ·exact .inr ⟨y,h1,h2,h3⟩
  ·have e:ptS out x=out:=by simp[ptS,hm]
   rw[e];obtain⟨i1,i2,i3⟩:=QV r _ h;refine⟨i1,fun m=>?_,by simp;omega⟩;rw[i2]
   constructor
   ·rintro(h | ⟨y,h1,h2⟩)
    ·exact .inl h
    ·exact .inr ⟨y,by simp[h1],h2⟩
   ·rintro(h | ⟨y,h1,h2,h3⟩)
    ·exact .inl h
    ·rcases List.mem_cons.1 h1 with rfl | h1
     ·exact absurd h2 hm
     ·exact .inr ⟨y,h1,h2,h3⟩
theorem yLa(l:List RN):Up (qh l)/\(∀ m,m∈qh l↔∃ x∈l,YW x=true/\(m=x.lo\/m=x.hi+1))/\(qh l).length<=2*l.length:=by
 obtain⟨h1,h2,h3⟩:=QV l [] (by simp[Up]);exact⟨h1,fun m=>by rw[qh,h2];simp,by simpa[qh] using h3⟩
def zLa(out:List RN)(p:Int)(z:RN->RN)(x:RN):List RN:=match out.getLast? with
 | some y=>if y.hi+1=p then out.dropLast++[z y] else out++[x]
 | none=>out++[x]
def setS(op:Bool->Bool->Bool)(a b:List RN)(out:List RN)(pq:Int×Int):List RN:=
 if op (yh a pq.1) (yh b pq.1) then zLa out pq.1 (fun y=>⟨y.lo,pq.2 - 1⟩) ⟨pq.1,pq.2 - 1⟩ else out
def YK(l:List Int):List (Int×Int):=l.zip l.tail
def Ud(op:Bool->Bool->Bool)(a b:List RN):List RN:=(YK (qh (a++b))).foldl (setS op a b) []
theorem yMa(p:Int)(z:RN->RN)(x:RN):zLa [] p z x=[x]:=rfl
theorem QW(l:List RN)(y:RN)(p:Int)(z:RN->RN)(x:RN):zLa (l++[y]) p z x=if y.hi+1=p then l++[z y] else l++[y]++[x]:=by simp[zLa]
theorem yr{α:Type}(l:List α):l=[]\/∃ r y,l=r++[y]:=by
 rcases List.eq_nil_or_concat l with h | ⟨r,y,h⟩
 ·exact .inl h
 ·exact .inr ⟨r,y,by simpa using h⟩
theorem zMa(op:Bool->Bool->Bool)(a b:List RN):∀ (P:List Int) (p:Int) (out:List RN),Up (p::P)->(∀ q∈p::P,1<=q/\q<=281474976710656)->Nf out->(∀ y∈out,y.hi < p) ->
  Nf ((YK (p::P)).foldl (setS op a b) out)/\(∀ n,yh ((YK (p::P)).foldl (setS op a b) out) n=true↔yh out n=true\/∃ pq∈YK (p::P),pq.1<=n/\n < pq.2/\op (yh a pq.1) (yh b pq.1)=true)/\((YK (p::P)).foldl (setS op a b) out).length<=out.length+P.length
 | [],p,out,_,_,h,_=>by simp[YK,h]
 | q::P,p,out,hu,hr,h,hy=>by
  have e:YK (p::q::P)=(p,q)::YK (q::P):=rfl;rw[e,List.foldl_cons];have hu':=List.pairwise_cons.1 hu;have hpq:p < q:=hu'.1 q (by simp);have hp:=hr p (by simp);have hq:=hr q (by simp);have step:Nf (setS op a b out (p,q))/\(∀ n,yh (setS op a b out (p,q)) n=true↔yh out n=true\/(p<=n/\n < q/\op (yh a p) (yh b p)=true))/\(∀ y∈setS op a b out (p,q),y.hi < q)/\(setS op a b out (p,q)).length<=out.length+1:=by
   unfold setS;simp only
   by_cases hop:op (yh a p) (yh b p)=true
   ·rw[if_pos hop];rcases yr out with rfl | ⟨l,y,rfl⟩
    ·rw[yMa];have hm:YW (⟨p,q - 1⟩:RN)=true:=zi.2 ⟨hp.1,by simp only;omega,by simp only;omega⟩;refine⟨⟨hm,by simp,trivial⟩,fun n=>?_,fun y hy=>?_,by simp⟩
     ·rw[vZ,ym];have:=zi.1 hm;simp only at this ⊢;simp only[ja,Bool.false_eq_true,false_or,hop,and_true];omega
     ·simp at hy;subst hy;simp only;omega
    ·rw[QW];obtain⟨n1,n2,n3⟩:=YX.1 h;have hym:=zi.1 n2;have hyp:=hy y (by simp)
     by_cases hadj:y.hi+1=p
     ·rw[if_pos hadj];have hm:YW (⟨y.lo,q - 1⟩:RN)=true:=zi.2 ⟨hym.1,by simp only;omega,by simp only;omega⟩;refine⟨YX.2 ⟨n1,hm,n3⟩,fun n=>?_,fun z hz=>?_,by simp⟩
      ·rw[Zt,Zt,vZ,vZ,Bool.or_eq_true,Bool.or_eq_true,ym,ym];have:=zi.1 hm;simp only at this ⊢;simp only[hop,and_true]
       constructor
       ·rintro(h | h)
        ·exact .inl (.inl h)
        ·by_cases hc:n<=y.hi
         ·exact .inl (.inr ⟨hym,h.2.1,hc⟩)
         ·right;omega
       ·rintro((h | h) | h)
        ·exact .inl h
        ·right;omega
        ·right;omega
      ·rcases List.mem_append.1 hz with hz | hz
       ·have:=hy z (by simp[hz]);omega
       ·simp at hz;subst hz;simp only;omega
     ·rw[if_neg hadj];have hm:YW (⟨p,q - 1⟩:RN)=true:=zi.2 ⟨hp.1,by simp only;omega,by simp only;omega⟩;refine⟨YX.2 ⟨h,hm,fun z hz=>?_⟩,fun n=>?_,fun z hz=>?_,by simp⟩
      ·simp only;rcases List.mem_append.1 hz with hz | hz
       ·have:=n3 z hz;omega
       ·simp at hz;subst hz;omega
      ·rw[Zt (l++[y]),vZ,Bool.or_eq_true,ym];have:=zi.1 hm;simp only at this ⊢;simp only[hop,and_true]
       constructor
       ·rintro(h | h)
        ·exact .inl h
        ·right;omega
       ·rintro(h | h)
        ·exact .inl h
        ·right;omega
      ·rcases List.mem_append.1 hz with hz | hz
       ·have:=hy z hz;omega
       ·simp at hz;subst hz;simp only;omega
   ·rw[if_neg hop];refine⟨h,fun n=>?_,fun y hy'=>by have:=hy y hy';omega,by omega⟩;exact⟨fun h=>.inl h,fun h=>h.elim id fun h=>absurd h.2.2 hop⟩
  obtain⟨s1,s2,s3,s4⟩:=step;obtain⟨i1,i2,i3⟩:=zMa op a b P q _ hu'.2 (fun z hz=>hr z (List.mem_cons_of_mem _ hz)) s1 s3;refine⟨i1,fun n=>?_,by simp;omega⟩;rw[i2,s2];simp only[List.mem_cons,exists_eq_or_imp]
  constructor
  ·rintro((h | h) | h)
   ·exact .inl h
   ·exact .inr (.inl h)
   ·exact .inr (.inr h)
  ·rintro(h | h | h)
   ·exact .inl (.inl h)
   ·exact .inl (.inr h)
   ·exact .inr h
theorem WT : ∀ {P:List Int},Up P->∀ pq∈YK P,pq.1∈P/\pq.2∈P/\pq.1 < pq.2/\∀ m∈P,m<=pq.1\/pq.2<=m
 | [],_,pq,h=>by simp[YK] at h
 | [p],_,pq,h=>by simp[YK] at h
 | p::q::P,hu,pq,h=>by
  have e:YK (p::q::P)=(p,q)::YK (q::P):=rfl;rw[e] at h;have hu':=List.pairwise_cons.1 hu;rcases List.mem_cons.1 h with rfl | h
  ·refine⟨by simp,by simp,hu'.1 q (by simp),fun m hm=>?_⟩;rcases List.mem_cons.1 hm with rfl | hm
   ·simp
   ·right
    rcases List.mem_cons.1 hm with rfl | hm
    ·simp
    ·have:=(List.pairwise_cons.1 hu'.2).1 m hm;simp only;omega
  ·obtain⟨h1,h2,h3,h4⟩:=WT hu'.2 pq h;refine⟨List.mem_cons_of_mem _ h1,List.mem_cons_of_mem _ h2,h3,fun m hm=>?_⟩;rcases List.mem_cons.1 hm with rfl | hm
   ·left;have:=hu'.1 _ h1;omega
   ·exact h4 m hm
theorem Ue : ∀ {P:List Int},Up P->∀ {u v n:Int},u∈P->v∈P->u<=n->n < v->∃ pq∈YK P,pq.1<=n/\n < pq.2
 | [],_,_,_,_,h,_,_,_=>by simp at h
 | [p],_,u,v,n,h1,h2,h3,h4=>by simp at h1 h2;omega
 | p::q::P,hu,u,v,n,h1,h2,h3,h4=>by
  have e:YK (p::q::P)=(p,q)::YK (q::P):=rfl;have hu':=List.pairwise_cons.1 hu
  by_cases hc:n < q
  ·refine⟨(p,q),by rw[e];simp,?_,hc⟩;rcases List.mem_cons.1 h1 with rfl | h1
   ·exact h3
   ·have:q<=u:=by
     rcases List.mem_cons.1 h1 with rfl | h1
     ·omega
     ·have:=(List.pairwise_cons.1 hu'.2).1 u h1;omega
    simp only;omega
  ·have hv:v∈q::P:=by
    rcases List.mem_cons.1 h2 with rfl | h2
    ·have:=hu'.1 q (by simp);omega
    ·exact h2
   obtain⟨pq,h5,h6⟩:=Ue hu'.2 (u:=q) (by simp) hv (by omega) h4;exact⟨pq,by rw[e];exact List.mem_cons_of_mem _ h5,h6⟩
theorem Zu{l:List RN}{P:List Int}(hP:∀ x∈l,YW x=true->x.lo∈P/\x.hi+1∈P){p q n:Int}(h1:∀ m∈P,m<=p\/q<=m)(h2:p<=n)(h3:n < q):yh l n=yh l p:=by
 rw[Bool.eq_iff_iff,wH,wH]
 constructor
 ·rintro⟨x,hx,hm,h4,h5⟩;obtain⟨h6,h7⟩:=hP x hx hm;have:=h1 _ h6;have:=h1 _ h7;exact⟨x,hx,hm,by omega,by omega⟩
 ·rintro⟨x,hx,hm,h4,h5⟩;obtain⟨h6,h7⟩:=hP x hx hm;have:=h1 _ h6;have:=h1 _ h7;exact⟨x,hx,hm,by omega,by omega⟩
theorem yt(op:Bool->Bool->Bool)(h0:op false false=false)(a b:List RN):Nf (Ud op a b)/\(∀ n,yh (Ud op a b) n=op (yh a n) (yh b n))/\(Ud op a b).length<=2*(a.length+b.length):=by
 obtain⟨p1,p2,p3⟩:=yLa (a++b);have hrange:∀ q∈qh (a++b),1<=q/\q<=281474976710656:=fun q hq=>by
  obtain⟨x,_,h2,h3⟩:=(p2 q).1 hq;have:=zi.1 h2;omega
 have main:Nf (Ud op a b)/\(∀ n,yh (Ud op a b) n=true↔∃ pq∈YK (qh (a++b)),pq.1<=n/\n < pq.2/\op (yh a pq.1) (yh b pq.1)=true)/\(Ud op a b).length<=(qh (a++b)).length:=by
  unfold Ud
  generalize hP:qh (a++b)=P at p1 hrange
  cases P with
  | nil=>simp[YK,Nf]
  | cons p P=>
   obtain⟨i1,i2,i3⟩:=zMa op a b P p [] p1 hrange trivial (by simp);exact⟨i1,fun n=>by rw[i2];simp,by simp at i3 ⊢;omega⟩
 obtain⟨m1,m2,m3⟩:=main;refine⟨m1,fun n=>?_,by simp at p3;omega⟩;have hPa:∀ x∈a,YW x=true->x.lo∈qh (a++b)/\x.hi+1∈qh (a++b):=fun x hx hm=>⟨(p2 _).2 ⟨x,by simp[hx],hm,.inl rfl⟩,(p2 _).2 ⟨x,by simp[hx],hm,.inr rfl⟩⟩
 have hPb:∀ x∈b,YW x=true->x.lo∈qh (a++b)/\x.hi+1∈qh (a++b):=fun x hx hm=>⟨(p2 _).2 ⟨x,by simp[hx],hm,.inl rfl⟩,(p2 _).2 ⟨x,by simp[hx],hm,.inr rfl⟩⟩
 rw[Bool.eq_iff_iff,m2]
 constructor
 ·rintro⟨pq,h1,h2,h3,h4⟩;obtain⟨_,_,_,h5⟩:=WT p1 pq h1
  rwa [Zu hPa h5 h2 h3,Zu hPb h5 h2 h3]
 ·intro h;have hex:∃ u∈qh (a++b),∃ v∈qh (a++b),u<=n/\n < v:=by
   cases ha:yh a n with
   | true=>
    obtain⟨x,h1,h2,h3,h4⟩:=wH.1 ha;exact⟨_,(hPa x h1 h2).1,_,(hPa x h1 h2).2,h3,by omega⟩
   | false=>
    cases hb:yh b n with
    | true=>
     obtain⟨x,h1,h2,h3,h4⟩:=wH.1 hb;exact⟨_,(hPb x h1 h2).1,_,(hPb x h1 h2).2,h3,by omega⟩
    | false=>rw[ha,hb,h0] at h;cases h
  obtain⟨u,hu,v,hv,h1,h2⟩:=hex;obtain⟨pq,h3,h4,h5⟩:=Ue p1 hu hv h1 h2;obtain⟨_,_,_,h6⟩:=WT p1 pq h3;exact⟨pq,h3,h4,h5,by rwa [<- Zu hPa h6 h4 h5,<- Zu hPb h6 h4 h5]⟩
def nrm(l:List RN):List RN:=Ud (·||·) l []
theorem Xu(l:List RN):Nf (nrm l):=(yt _ rfl l []).1
theorem XQ(l:List RN)(n:Int):yh (nrm l) n=yh l n:=by rw[nrm,(yt _ rfl l []).2.1];simp
theorem XR(l:List RN):(nrm l).length<=2*l.length:=by
 have:=(yt (·||·) rfl l []).2.2;rw[List.length_nil,Nat.add_zero] at this;exact this
theorem nrm_of{l r:List RN}(h:Nf r)(h2:∀ n,yh r n=yh l n):r=nrm l:=Ua h (Xu l) fun n=>by rw[h2,XQ]
theorem jd{l:List RN}(h:Nf l):nrm l=l:=(nrm_of h fun _=>rfl).symm
theorem xVa(x y:RN):(decide (x.lo=y.lo)&&decide (x.hi=y.hi))=decide (x=y):=by
 rw[Bool.eq_iff_iff]
 cases x;cases y
 simp
theorem eqLoop{body:Int->M (Step Int (Ex Unit Bool))}(a b:List RN)(hl:a.length=b.length)(hn:a.length<=1000000000000)
  (hb:∀ i:Int,body i=cond (decide (i < (a.length:Int))) (M.bind (M.idx a i) fun x=>M.bind (M.idx b i) fun y=>cond (!(decide (x.lo=y.lo)&&decide (x.hi=y.hi))) (M.pure (.done (.ret false))) (M.pure (.next (IntKind.i64.wrap (i+1))))) (M.pure (.done (.brk ())))) :
  M.bind (M.loop body 0) (M.exk fun _=>M.pure true)=pure (decide (a=b)):=by
 have:=YV (body:=body) a (fun i=>(i:Int)) (fun i x=>decide (b[i]?=some x)) (.brk ()) (.ret false) (fun i x hx hi=>by
  have hb':i < b.length:=by omega
  rw[hb,zd hx,zd (List.getElem?_eq_getElem hb'),wv (by omega)];simp only[zA,List.getElem?_eq_getElem hb',Option.some.injEq,xVa];have:decide ((i:Int) < (a.length:Int))=true:=by simpa using hi
  rw[this,cond_true]
  by_cases he:b[i]=x
  ·subst he;simp
  ·rw[if_neg (by simpa using he)];have:decide (x=b[i])=false:=by simpa using fun h=>he h.symm
   rw[this];rfl) (by rw[hb];simp)
 rw[show(0:Int)=((0:Nat):Int) from rfl,this]
 by_cases he:a=b
 ·subst he;rw[if_pos]
  ·simp[zA,Ze]
  ·rw[List.all_eq_true];intro ⟨x,i⟩ hx;rw[List.mk_mem_zipIdx_iff_getElem?] at hx;simpa using hx
 ·rw[if_neg]
  ·simp[he,zA,VO]
  ·intro hall;rw[List.all_eq_true] at hall;apply he;apply List.ext_getElem (by omega);intro i h1 h2;have:=hall (a[i],i) (by rw[List.mk_mem_zipIdx_iff_getElem?];exact List.getElem?_eq_getElem h1);simp[h2] at this;exact this.symm
theorem seq_eq(a b:List RN)(h:a.length<=1000000000000):yQ a b=pure (decide (a=b)):=by
 unfold yQ
 by_cases hl:(a.length:Int)=b.length
 ·simp only[hl,decide_true,Bool.not_true,cond_false];exact eqLoop a b (by omega) h fun i=>rfl
 ·have hne:a≠b:=fun e=>hl (by rw[e])
  simp[hl,hne]
def Jv(out:List RN)(x:RN):List RN:=match out.getLast? with
 | some y=>if x.lo<=y.hi+1 then out.dropLast++[⟨y.lo,max y.hi x.hi⟩] else out++[x]
 | none=>out++[x]
theorem je(x:RN):Jv [] x=[x]:=rfl
theorem Ve(l:List RN)(y x:RN):Jv (l++[y]) x=if x.lo<=y.hi+1 then l++[⟨y.lo,max y.hi x.hi⟩] else l++[y]++[x]:=by simp[Jv]
theorem yNa{out:List RN}{x:RN}(h:Nf out)(hx:YW x=true)(hlo:∀ y∈out,y.lo<=x.lo):Nf (Jv out x)/\(∀ n,yh (Jv out x) n=(yh out n||inR n x))/\(∀ y∈Jv out x,y.lo<=x.lo)/\(Jv out x).length<=out.length+1:=by
 have hxm:=zi.1 hx;rcases yr out with rfl | ⟨l,y,rfl⟩
 ·rw[je];exact⟨⟨hx,by simp,trivial⟩,fun n=>by rw[vZ];simp,by simp,by simp⟩
 ·rw[Ve];obtain⟨n1,n2,n3⟩:=YX.1 h;have hym:=zi.1 n2;have hyx:=hlo y (by simp)
  by_cases hc:x.lo<=y.hi+1
  ·rw[if_pos hc];have hm:YW (⟨y.lo,max y.hi x.hi⟩:RN)=true:=zi.2 ⟨hym.1,by simp only;omega,by simp only;omega⟩;refine⟨YX.2 ⟨n1,hm,n3⟩,fun n=>?_,fun z hz=>?_,by simp⟩
   ·rw[Zt,Zt,vZ,vZ,Bool.or_assoc]
    congr 1
    rw[Bool.eq_iff_iff,Bool.or_eq_true,ym,ym,ym];have:=zi.1 hm;simp only at this ⊢;omega
   ·rcases List.mem_append.1 hz with hz | hz
    ·exact hlo z (by simp[hz])
    ·simp at hz;subst hz;exact hyx
  ·rw[if_neg hc];refine⟨YX.2 ⟨h,hx,fun z hz=>?_⟩,fun n=>by rw[Zt (l++[y]),vZ],fun z hz=>?_,by simp⟩
   ·rcases List.mem_append.1 hz with hz | hz
    ·have:=n3 z hz;omega
    ·simp at hz;subst hz;omega
   ·rcases List.mem_append.1 hz with hz | hz
    ·exact hlo z hz
    ·simp at hz;subst hz;exact Int.le_refl _
theorem Vf : ∀ (s out:List RN),Nf out->(∀ x∈s,YW x=true)->s.Pairwise (fun x y=>x.lo<=y.lo)->(∀ y∈out,∀ x∈s,y.lo<=x.lo)->Nf (s.foldl Jv out)/\(∀ n,yh (s.foldl Jv out) n=(yh out n||yh s n))/\(s.foldl Jv out).length<=out.length+s.length
 | [],out,h,_,_,_=>⟨h,by simp,by simp⟩
 | x::r,out,h,hm,hp,hlo=>by
  obtain⟨a1,a2,a3,a4⟩:=yNa h (hm x (by simp)) fun y hy=>hlo y hy x (by simp)
  obtain⟨p1,p2⟩:=List.pairwise_cons.1 hp;obtain⟨i1,i2,i3⟩:=Vf r _ a1 (fun y hy=>hm y (List.mem_cons_of_mem _ hy)) p2 fun y hy z hz=>by
   have:=a3 y hy;have:=p1 z hz;omega
  refine⟨i1,fun n=>?_,by simp;omega⟩;rw[List.foldl_cons,i2,a2,xe,Bool.or_assoc]
theorem xWa{l:List RN}{Q:List RN->Prop}(h:∀ s,s.Perm l->s.Pairwise (fun x y=>x.lo<=y.lo)->Q s):(srt UE l).wp Q:=by
 refine⟨⟨l.mergeSort (fun x y=>decide (x.lo<=y.lo)),List.mergeSort_perm _ _,?_⟩,fun s ⟨h1,h2⟩=>h s h1 (h2.imp fun {x y} h=>?_)⟩
 ·refine(List.pairwise_mergeSort (fun a b c h1 h2=>?_) (fun a b=>?_) l).imp fun {x y} h=>?_
  ·simp only[decide_eq_true_eq] at h1 h2 ⊢;omega
  ·simp only[Bool.or_eq_true,decide_eq_true_eq];omega
  ·simp only[decide_eq_true_eq] at h;unfold UE;simp only[decide_eq_false_iff_not];omega
 ·unfold UE at h;simp only[decide_eq_false_iff_not] at h;omega
theorem WU(l:List RN)(h:l.length<=1000000000000):xZ l=pure (nrm l):=by
 unfold xZ;have h1:=QQ (body:=vc l) l (fun i (t:List RN)=>((i:Int),t)) (fun t x=>if YW x then t++[x] else t) (fun t=>pure t) (fun i t=>t.length<=i) (fun i x t hx hi hI=>by
  have h1:decide ((i:Int) < (l.length:Int))=true:=by simpa using hi
  refine⟨?_,by split <;> (try simp only[List.length_append,List.length_singleton]) <;> omega⟩;unfold vc;simp only[h1,cond_true,zd hx,zA,wv (show i < 9223372036854775807 by omega)];have e:(cond (decide (0 < x.lo)) (cond (decide (x.lo<=x.hi)) (M.pure (decide (x.hi<=281474976710655))) (M.pure false)) (M.pure false):M Bool)=pure (YW x):=by
   rw[xf,xf];refine congrArg pure ?_;rw[Bool.eq_iff_iff,zi];simp only[Bool.and_eq_true,decide_eq_true_eq];omega
  rw[e,zA]
  cases hm:YW x with
  | false=>simp[zA]
  | true=>
   rw[cond_true,zM (by simp;omega)];simp[zA]) (fun t _=>by unfold vc;simp[zA]) [] (by simp)
 have hf:∀ (l t:List RN),l.foldl (fun t x=>if YW x then t++[x] else t) t=t++l.filter YW:=by
  intro l
  induction l with
  | nil=>simp
  | cons x r ih=>
   intro t;rw[List.foldl_cons,ih]
   cases hm:YW x <;> simp[hm]
 rw[hf,List.nil_append] at h1;have h1':loop (vc l) (0,[])=pure (l.filter YW):=h1;have hfl:(l.filter YW).length<=l.length:=List.length_filter_le _ _;rw[h1',zA,zM (by omega)];refine Zd (xWa fun s hs hp=>?_);have hsl:=hs.length_eq;have hmay:∀ x∈s,YW x=true:=fun x hx=>(List.mem_filter.1 (hs.mem_iff.1 hx)).2
 have hpre:∀ i,Nf ((s.take i).foldl Jv [])/\((s.take i).foldl Jv []).length<=i/\∀ x,s[i]?=some x->∀ y∈(s.take i).foldl Jv [],y.lo<=x.lo:=fun i=>by
  obtain⟨i1,i2,i3⟩:=Vf (s.take i) [] trivial (fun x hx=>hmay x (List.mem_of_mem_take hx)) (List.Pairwise.sublist (List.take_sublist _ _) hp) (by simp);refine⟨i1,by simp at i3;omega,fun x hx y hy=>?_⟩;have hmy:=zi.1 (i1.may y hy);have:yh ((s.take i).foldl Jv []) y.lo=true:=wH.2 ⟨y,hy,i1.may y hy,by omega,by omega⟩;rw[i2] at this;simp only[ja,Bool.false_or] at this;obtain⟨z,hz,_,h3,_⟩:=wH.1 this
  -- z is ahead of x; y begins where one of those ahead begins
  have hall:∀ (s out:List RN),(∀ y∈s.foldl Jv out,(∃ z∈out,y.lo=z.lo)\/∃ z∈s,y.lo=z.lo):=by
   intro s
   induction s with
   | nil=>intro out y hy;exact .inl ⟨y,hy,rfl⟩
   | cons a r ih=>
    intro out y hy;rcases ih _ y hy with⟨z,hz,e⟩ | ⟨z,hz,e⟩
    ·rcases yr out with rfl | ⟨q,w,rfl⟩
     ·rw[je] at hz;simp at hz;subst hz;exact .inr ⟨z,by simp,e⟩
     ·rw[Ve] at hz
      split at hz
      ·rcases List.mem_append.1 hz with hz | hz
       ·exact .inl ⟨z,by simp[hz],e⟩
       ·simp at hz;subst hz;exact .inl ⟨w,by simp,e⟩
      ·rcases List.mem_append.1 hz with hz | hz
       ·exact .inl ⟨z,hz,e⟩
       ·simp at hz;subst hz;exact .inr ⟨z,by simp,e⟩
    ·exact .inr ⟨z,by simp[hz],e⟩
  rcases hall _ _ y hy with⟨z,hz,_⟩ | ⟨z,hz,e⟩
  ·simp at hz
  ·obtain⟨j,hj,hje⟩:=List.getElem_of_mem hz;have hlt:=(List.getElem?_eq_some_iff.1 hx).1;have hji:j < i:=by simp at hj;omega
   have:=List.pairwise_iff_getElem.1 hp j i (by omega) hlt hji;rw[List.getElem_take] at hje;have hxe:s[i]=x:=by rw[List.getElem?_eq_getElem hlt] at hx;simpa using hx
   rw[hje,hxe] at this;omega
 have h2:=QQ (body:=vd (l.filter YW) s) s (fun i (t:List RN)=>((i:Int),t)) Jv (fun t=>pure t) (fun i t=>t=(s.take i).foldl Jv []) (fun i x t hx hi hI=>by
  obtain⟨v1,v2,v3⟩:=hpre i;have v3:=v3 x hx;rw[<- hI] at v1 v2 v3;have hxm:=zi.1 (hmay x (List.mem_of_getElem? hx));have h1:decide ((i:Int) < ((l.filter YW).length:Int))=true:=by simp;omega
  refine⟨?_,by rw[List.take_add_one,hx];simp[hI]⟩;unfold vd;simp only[h1,cond_true,zd hx,zA,wv (show i < 9223372036854775807 by omega)];rcases yr t with rfl | ⟨q,y,rfl⟩
  ·have e:decide ((0:Int)<=IntKind.i64.wrap (((([]:List RN).length:Nat):Int) - 1))=false:=by
    rw[VC (by simp) (by simp)];simp
   rw[e];simp only[cond_false,zA];rw[zM (by simp),je]
   rfl
  ·have hy:=(YX.1 v1).2.1;have hym:=zi.1 hy;have e0:IntKind.i64.wrap ((((q++[y]).length:Nat):Int) - 1)=(q.length:Int):=by
    simp only[List.length_append,List.length_singleton] at v2 ⊢;rw[VC (by omega) (by omega)];omega
   have e1:idx (q++[y]) (q.length:Int)=pure y:=zd (by simp);have e3:decide ((0:Int)<=(q.length:Int))=true:=by simp
   rw[e0,e3];simp only[cond_true,e1,zA,WJ (show 0<=y.hi+1 by omega) (by omega)];rw[Ve]
   by_cases hc:x.lo<=y.hi+1
   ·simp only[hc,decide_true,cond_true,if_true,Int.toNat_natCast];have:(q++[y]).set q.length (⟨y.lo,max y.hi x.hi⟩:RN)=q++[⟨y.lo,max y.hi x.hi⟩]:=by simp
    rw[this]
    rfl
   ·simp only[hc,decide_false,cond_false,if_false];rw[zM (by simp only[List.length_append,List.length_singleton] at v2 ⊢;omega)]
    rfl) (fun t _=>by
  unfold vd;have e:decide ((s.length:Int) < ((l.filter YW).length:Int))=false:=by simp;omega
  simp only[e,cond_false,zA]) [] (by simp)
 show(M.bind (M.loop (vd (l.filter YW) s) (0,[])) fun out38=>M.pure out38).wp (·=nrm l);rw[show((0:Int),([]:List RN))=(((0:Nat):Int),[]) from rfl,h2];obtain⟨i1,i2,_⟩:=Vf s [] trivial hmay hp (by simp);exact nrm_of i1 fun n=>by rw[i2,xUa hs,QT];simp
def xXa(x y:Int):Int:=if x < y then -1 else if y < x then 1 else 0
theorem xYa(x y:Int):yc x y=pure (xXa x y):=by
 unfold yc xz xXa;simp only[decide_true,Bool.not_true,zB,zA,cond_false,Zq]
 split
 ·rfl
 ·split <;> rfl
theorem xZa(x:RN)(n:Int):uV x n=pure (xXa x.hi n):=by
 unfold uV;rw[xYa,zB,zA]
def jf : List RN->Int->Nat
 | [],_=>0
 | x::r,n=>if x.hi < n then jf r n+1 else 0
theorem Jw : ∀ {v:List RN} {n:Int} {c:Nat},c<=v.length->(∀ (k:Nat) (x:RN),k < c->v[k]?=some x->x.hi < n)->(∀ (k:Nat) (x:RN),c<=k->v[k]?=some x->n<=x.hi)->c=jf v n
 | [],n,c,h,_,_=>by simp at h;simp[jf,h]
 | x::r,n,0,_,_,h2=>by
  have:=h2 0 x (by omega) rfl;simp only[jf];rw[if_neg (by omega)]
 | x::r,n,c+1,h,h1,h2=>by
  have:=h1 0 x (by omega) rfl;simp only[jf];rw[if_pos this,<- Jw (v:=r) (n:=n) (c:=c) (by simpa using h) (fun k y hk hy=>h1 (k+1) y (by omega) (by simpa using hy)) (fun k y hk hy=>h2 (k+1) y (by omega) (by simpa using hy))]
theorem xaa{v:List RN}(h:Nf v):∀ {i j:Nat} {x y:RN},i < j->v[i]?=some x->v[j]?=some y->x.hi < y.hi:=by
 induction v with
 | nil=>intro i j x y _ hx;simp at hx
 | cons z r ih=>
  intro i j x y hij hx hy
  cases j with
  | zero=>omega
  | succ j=>
   have hyr:r[j]?=some y:=by simpa using hy
   have hym:=List.mem_of_getElem? hyr
   cases i with
   | zero=>
    simp at hx;subst hx;have:=h.2.1 y hym;have:=zi.1 (h.2.2.may y hym);omega
   | succ i=>exact ih h.2.2 (show i < j by omega) (by simpa using hx) hyr
theorem bs_loop(v:List RN)(n:Int)(hv:Nf v)(hl:v.length<=1000000000000):loop (zW v n) (0,(v.length:Int))=pure (jf v n:Int):=by
 refine Zd (Qy (fun s=>∃ i j:Nat,s=((i:Int),(j:Int))/\i<=j/\j<=v.length/\(∀ (k:Nat) (x:RN),k < i->v[k]?=some x->x.hi < n)/\(∀ (k:Nat) (x:RN),j<=k->v[k]?=some x->n<=x.hi)) (fun s=>(s.2 - s.1).toNat) ?_ _ ⟨0,v.length,rfl,Nat.zero_le _,Nat.le_refl _,fun k x hk=>absurd hk (Nat.not_lt_zero _),fun k x hk hx=>absurd (List.getElem?_eq_some_iff.1 hx).1 (Nat.not_lt.2 hk)⟩);rintro _ ⟨i,j,rfl,hij,hj,h1,h2⟩;unfold zW;simp only[Zq]
 by_cases hc:(i:Int) < j
 ·rw[if_pos hc];have e:IntKind.i64.wrap (Int.fdiv (IntKind.u64.wrap (IntKind.i64.wrap ((i:Int)+j))) (2 ^ 1))=(((i+j) / 2:Nat):Int):=by
   rw[VC (n:=(i:Int)+j) (by omega) (by omega),WJ (by omega) (by omega),Int.fdiv_eq_ediv_of_nonneg _ (by decide)];have:((i:Int)+j) / 2 ^ 1=(((i+j) / 2:Nat):Int):=by omega
   rw[this,VC (by omega) (by omega)]
  have hm:(i+j) / 2 < v.length:=by omega
  rw[e];simp only[zd (List.getElem?_eq_getElem hm),zA,xZa,zB,wv (show(i+j) / 2 < 9223372036854775807 by omega)]
  by_cases hlt:v[(i+j) / 2].hi < n
  ·have:xXa v[(i+j) / 2].hi n < 0:=by unfold xXa;rw[if_pos hlt];decide
   rw[if_pos this];refine⟨⟨(i+j) / 2+1,j,rfl,by omega,hj,fun k x hk hx=>?_,h2⟩,?_⟩
   ·by_cases e:k=(i+j) / 2
    ·subst e;rw[List.getElem?_eq_getElem hm] at hx;cases hx;exact hlt
    ·have:=xaa hv (show k < (i+j) / 2 by omega) hx (List.getElem?_eq_getElem hm);omega
   ·simp only;omega
  ·have:¬ xXa v[(i+j) / 2].hi n < 0:=by unfold xXa;rw[if_neg hlt];split <;> decide
   rw[if_neg this];refine⟨⟨i,(i+j) / 2,rfl,by omega,by omega,h1,fun k x hk hx=>?_⟩,?_⟩
   ·by_cases e:k=(i+j) / 2
    ·subst e;rw[List.getElem?_eq_getElem hm] at hx;cases hx;omega
    ·have:=xaa hv (show(i+j) / 2 < k by omega) (List.getElem?_eq_getElem hm) hx;omega
   ·simp only;omega
 ·rw[if_neg hc];have hij':i=j:=by omega
  subst hij';show(i:Int)=(jf v n:Int)
  rw[<- Jw hj h1 h2]
def hitB(v:List RN)(n:Int):Bool:=match v[jf v n]? with | some x=>decide (xXa x.hi n=0) | none=>false
theorem bs_eq(v:List RN)(n:Int)(hv:Nf v)(hl:v.length<=1000000000000):zP v n=pure ((jf v n:Int),hitB v n):=by
 unfold zP hitB;rw[bs_loop v n hv hl,zA]
 by_cases hc:jf v n < v.length
 ·have:decide ((jf v n:Int) < (v.length:Int))=true:=by simpa using hc
  rw[this,cond_true,zd (List.getElem?_eq_getElem hc)];simp only[zA,xZa,zB,List.getElem?_eq_getElem hc]
 ·have:decide ((jf v n:Int) < (v.length:Int))=false:=by simpa using hc
  rw[this,cond_false,zA,List.getElem?_eq_none (by omega)]
theorem zNa : ∀ {v:List RN} (n:Int),Nf v->yh v n=(match v[jf v n]? with | some x=>decide (x.lo<=n) | none=>false)
 | [],n,_=>rfl
 | x::r,n,h=>by
  by_cases hc:x.hi < n
  ·simp only[jf,if_pos hc,List.getElem?_cons_succ];rw[<- zNa n h.2.2,xe];have:inR n x=false:=by
    rw[Bool.eq_false_iff];intro h;have:=(ym.1 h).2.2;omega
   rw[this,Bool.false_or]
  ·simp only[jf,if_neg hc,List.getElem?_cons_zero];rw[Bool.eq_iff_iff,decide_eq_true_eq]
   constructor
   ·exact jc h
   ·intro hle;exact(QU h hle).2 (.inl (by omega))
theorem YF(l:List RN)(n:Int)(h:l.length<=100000000000):Wx l n=pure (yh l n):=by
 unfold Wx;have hl:=XR l;rw[WU l (by omega),zB,zA,bs_eq _ n (Xu l) (by omega),zB,zA,<- XQ l n,zNa n (Xu l)]
 generalize nrm l=v
 by_cases hc:jf v n < v.length
 ·have:decide ((jf v n:Int) < (v.length:Int))=true:=by simpa using hc
  simp only[this,cond_true,zd (List.getElem?_eq_getElem hc),zA,List.getElem?_eq_getElem hc]
 ·have:decide ((jf v n:Int) < (v.length:Int))=false:=by simpa using hc
  simp only[this,cond_false,zA,List.getElem?_eq_none (show v.length<=jf v n by omega)]
theorem xba(A B:List RN)(hA:Nf A)(hB:Nf B)(hl:A.length+B.length<=1000000000000):(loop uy (A,B,[])).wp fun r=>Nf r/\∀ n,yh r n=(yh A n&&yh B n):=by
 refine Qy (fun s:List RN×List RN×List RN=>Nf s.1/\Nf s.2.1/\Nf s.2.2/\(∀ y∈s.2.2,∀ x∈s.1,∀ z∈s.2.1,y.hi+1 < max x.lo z.lo)/\(∀ n,(yh s.2.2 n||(yh s.1 n&&yh s.2.1 n))=(yh A n&&yh B n))/\s.2.2.length+s.1.length+s.2.1.length<=A.length+B.length) (fun s=>s.1.length+s.2.1.length) ?_ (A,B,[]) ⟨hA,hB,(trivial:Nf []),by simp,by simp,by simp⟩;rintro⟨a,b,out⟩ ⟨h1,h2,h3,h4,h5,h6⟩;simp only at h1 h2 h3 h4 h5 h6;unfold uy
 cases a with
 | nil=>exact⟨h3,fun n=>by rw[<- h5];simp⟩
 | cons x r=>
  cases b with
  | nil=>
   have e1:decide ((0:Int) < ((x::r).length:Int))=true:=by simp only[List.length_cons,decide_eq_true_eq];omega
   simp only[e1,cond_true];exact⟨h3,fun n=>by rw[<- h5];simp⟩
  | cons z q=>
   have hx:=zi.1 h1.1;have hz:=zi.1 h2.1;have e1:decide ((0:Int) < ((x::r).length:Int))=true:=by simp only[List.length_cons,decide_eq_true_eq];omega
   have e2:decide ((0:Int) < ((z::q).length:Int))=true:=by simp only[List.length_cons,decide_eq_true_eq];omega
   simp only[e1,e2,cond_true,zA,Wh (l:=x::r) (i:=0) (y:=x) (by omega) rfl,Wh (l:=z::q) (i:=0) (y:=z) (by omega) rfl]
   -- the new list
   have hout:∃ out',(cond (decide (max x.lo z.lo<=min x.hi z.hi)) (M.xr ((out.length+List.length [(⟨max x.lo z.lo,min x.hi z.hi⟩:RN)])*16<=140737488355328) (M.pure (out++[⟨max x.lo z.lo,min x.hi z.hi⟩]))) (M.pure out))=M.pure out'/\Nf out'/\(∀ n,yh out' n=(yh out n||(inR n x&&inR n z)))/\(∀ y∈out',y∈out\/y.hi=min x.hi z.hi)/\out'.length<=out.length+1:=by
    by_cases hc:max x.lo z.lo<=min x.hi z.hi
    ·refine⟨out++[⟨max x.lo z.lo,min x.hi z.hi⟩],?_,YX.2 ⟨h3,zi.2 ⟨by simp only;omega,hc,by simp only;omega⟩,fun y hy=>h4 y hy x (by simp) z (by simp)⟩,fun n=>?_,fun y hy=>?_,by simp⟩
     ·rw[decide_eq_true hc,cond_true,zM];simp at h6 ⊢;omega
     ·rw[Zt,vZ]
      congr 1
      rw[Bool.eq_iff_iff,Bool.and_eq_true,ym,ym,ym];simp only;omega
     ·rcases List.mem_append.1 hy with hy | hy
      ·exact .inl hy
      ·simp at hy;subst hy;exact .inr rfl
    ·refine⟨out,by rw[decide_eq_false hc];rfl,h3,fun n=>?_,fun y hy=>.inl hy,by omega⟩;have:(inR n x&&inR n z)=false:=by
      rw[Bool.eq_false_iff];intro h;rw[Bool.and_eq_true,ym,ym] at h;omega
     rw[this,Bool.or_false]
   obtain⟨out',o1,o2,o3,o4,o5⟩:=hout;have hh:∀ n,yh out' n=(yh out n||(inR n x&&inR n z)):=o3;rw[o1];simp only[zA,Zq]
   by_cases hc:x.hi < z.hi
   ·rw[if_pos hc,zM ⟨by omega,by simp only[List.length_cons];omega,by omega⟩];have ed:List.drop (Int.toNat 1) (List.take (Int.toNat ((x::r).length:Int)) (x::r))=r:=by simp
    rw[ed];refine⟨⟨h1.2.2,h2,o2,fun y hy x' hx' z' hz'=>?_,fun n=>?_,by simp at h6 ⊢;omega⟩,by simp only[List.length_cons];omega⟩
    ·rcases o4 y hy with hy | hy
     ·have:=h4 y hy x' (List.mem_cons_of_mem _ hx') z' hz';omega
     ·have:=h1.2.1 x' hx';omega
    ·simp only;rw[hh,<- h5,xe x,xe z,Bool.or_assoc]
     congr 1
     have hxq:(inR n x&&yh q n)=false:=by
      rw[Bool.eq_false_iff];intro h;rw[Bool.and_eq_true,ym] at h;have:=Vc h2 h.2;omega
     cases hv1:inR n x <;> cases hv2:inR n z <;> cases hv3:yh r n <;> cases hv4:yh q n <;> simp_all
   ·rw[if_neg hc,zM ⟨by omega,by simp only[List.length_cons];omega,by omega⟩];have ed:List.drop (Int.toNat 1) (List.take (Int.toNat ((z::q).length:Int)) (z::q))=q:=by simp
    rw[ed];refine⟨⟨h1,h2.2.2,o2,fun y hy x' hx' z' hz'=>?_,fun n=>?_,by simp at h6 ⊢;omega⟩,by simp only[List.length_cons];omega⟩
    ·rcases o4 y hy with hy | hy
     ·have:=h4 y hy x' hx' z' (List.mem_cons_of_mem _ hz');omega
     ·have:=h2.2.1 z' hz';omega
    ·simp only;rw[hh,<- h5,xe x,xe z,Bool.or_assoc]
     congr 1
     have hxq:(inR n z&&yh r n)=false:=by
      rw[Bool.eq_false_iff];intro h;rw[Bool.and_eq_true,ym] at h;have:=Vc h1 h.2;omega
     cases hv1:inR n x <;> cases hv2:inR n z <;> cases hv3:yh r n <;> cases hv4:yh q n <;> simp_all
theorem meetN_eq(a b:List RN)(ha:a.length<=100000000000)(hb:b.length<=100000000000):Xa a b=pure (Ud (·&&·) a b):=by
 unfold Xa;have la:=XR a;have lb:=XR b;rw[WU a (by omega),zB,zA,WU b (by omega),zB,zA];refine Zd ((loop uy (nrm a,nrm b,[])).mono (fun r ⟨h1,h2⟩=>?_) (xba (nrm a) (nrm b) (Xu a) (Xu b) (by omega)));obtain⟨s1,s2,_⟩:=yt (·&&·) rfl a b;exact Ua h1 s1 fun n=>by rw[h2,s2,XQ,XQ]
def UJ : Int->List RN->List RN
 | at_,[]=>[⟨at_,281474976710655⟩]
 | at_,x::r=>⟨at_,x.lo - 1⟩::UJ (x.hi+1) r
theorem xca(l:List RN)(p:Int):(UJ p l).length=l.length+1:=by
 induction l generalizing p with
 | nil=>rfl
 | cons x r ih=>simp[UJ,ih]
theorem Jx : ∀ (l:List RN) (p:Int),Nf l->1<=p->(∀ x∈l,p<=x.lo)->∀ n,yh (UJ p l) n=true↔p<=n/\n<=281474976710655/\yh l n=false
 | [],p,_,hp,_,n=>by
  rw[UJ,vZ,ym];simp only[ja,and_true];omega
 | x::r,p,h,hp,hlo,n=>by
  have hx:=zi.1 h.1;have:=hlo x (by simp);rw[UJ,xe,Bool.or_eq_true,Jx r (x.hi+1) h.2.2 (by omega) (fun y hy=>by have:=h.2.1 y hy;omega) n,ym];simp only;have hr:yh (x::r) n=false↔(n < x.lo\/x.hi < n)/\yh r n=false:=by
   rw[xe,Bool.or_eq_false_iff];refine and_congr_left fun _=>?_
   rw[Bool.eq_false_iff,ne_eq,ym];omega
  rw[hr];have hrl:n < x.lo->yh r n=false:=fun hn=>by
   rw[Bool.eq_false_iff];intro h2;have:=Vc h h2;omega
  constructor
  ·rintro(h2 | h2)
   ·exact⟨h2.2.1,by omega,.inl (by omega),hrl (by omega)⟩
   ·exact⟨by omega,h2.2.1,.inr (by omega),h2.2.2⟩
  ·rintro⟨h2,h3,h4,h5⟩;rcases h4 with h4 | h4
   ·left;omega
   ·right;exact⟨by omega,h3,h5⟩
theorem rest_eq(l:List RN)(h:l.length<=100000000000):Xb l=pure (UJ 1 (nrm l)):=by
 unfold Xb;have hl:=XR l;have hn:=Xu l;rw[WU l (by omega),zB,zA]
 generalize nrm l=v at hl hn
 have h1:=QQ (body:=uz v) v (fun i (t:Int×List RN)=>(t.1,(i:Int),t.2)) (fun t x=>(x.hi+1,t.2++[⟨t.1,x.lo - 1⟩])) (fun t=>pure t) (fun i t=>t.2.length=i) (fun i x t hx hi hI=>by
  have h1:decide ((i:Int) < (v.length:Int))=true:=by simpa using hi
  have hm:=zi.1 (hn.may x (List.mem_of_getElem? hx));refine⟨?_,by simp[hI]⟩;unfold uz;simp only[h1,cond_true,zd hx,zA,wv (show i < 9223372036854775807 by omega),WJ (show 0<=x.lo - 1 by omega) (by omega),WJ (show 0<=x.hi+1 by omega) (by omega)];rw[zM (by simp;omega)]) (fun t _=>by unfold uz;simp[zA]) (1,[]) rfl
 rw[show((1:Int),(0:Int),([]:List RN))=(1,((0:Nat):Int),[]) from rfl,h1];simp only[zA];have hf:∀ (l:List RN) (t:Int×List RN),(l.foldl (fun(t:Int×List RN) x=>(x.hi+1,t.2++[(⟨t.1,x.lo - 1⟩:RN)])) t).2++[⟨(l.foldl (fun(t:Int×List RN) x=>(x.hi+1,t.2++[(⟨t.1,x.lo - 1⟩:RN)])) t).1,281474976710655⟩]=t.2++UJ t.1 l/\(l.foldl (fun(t:Int×List RN) x=>(x.hi+1,t.2++[(⟨t.1,x.lo - 1⟩:RN)])) t).2.length=t.2.length+l.length:=by
  intro l
  induction l with
  | nil=>intro t;exact⟨rfl,by simp⟩
  | cons x r ih=>
   intro t;rw[List.foldl_cons];obtain⟨i1,i2⟩:=ih (x.hi+1,t.2++[⟨t.1,x.lo - 1⟩]);exact⟨by rw[i1];simp[UJ],by rw[i2];simp;omega⟩
 obtain⟨f1,f2⟩:=hf v (1,[])
 generalize v.foldl (fun(t:Int×List RN) x=>(x.hi+1,t.2++[(⟨t.1,x.lo - 1⟩:RN)])) (1,[])=t at f1 f2
 obtain⟨p,out⟩:=t;simp only[List.length_nil] at f1 f2 ⊢;rw[zM (by simp;omega),f1]
 rfl
theorem minus_eq(a b:List RN)(ha:a.length<=10000000000)(hb:b.length<=10000000000):ZO a b=pure (Ud (fun x y=>x&&!y) a b):=by
 unfold ZO;have lb:=XR b;have lr:=xca (nrm b) 1;rw[rest_eq b (by omega),zB,zA,meetN_eq a _ (by omega) (by omega),zB,zA];refine congrArg pure ?_;obtain⟨s1,s2,_⟩:=yt (·&&·) rfl a (UJ 1 (nrm b));obtain⟨t1,t2,_⟩:=yt (fun x y=>x&&!y) rfl a b;refine Ua s1 t1 fun n=>?_
 rw[s2,t2,<- XQ b]
 cases hh:yh a n with
 | false=>rfl
 | true=>
  have:=yKa hh;rw[Bool.true_and,Bool.true_and,Bool.eq_iff_iff,Jx (nrm b) 1 (Xu b) (by omega) (fun x hx=>(zi.1 ((Xu b).may x hx)).1) n];simp only[Bool.not_eq_true'];exact⟨fun h=>h.2.2,fun h=>⟨this.1,this.2,h⟩⟩
end Go.Ep.M.R

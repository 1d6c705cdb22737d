/- Side texts. -/
import Derived.Test.YtehbkmakbdlgnaaGreatADs3
import Derived.Test.YtehbkmakbdlgnaaGreatADs4
import Derived.Test.YtehbkmakbdlgnaaGreatADs5
import Derived.Test.YtehbkmakbdlgnaaGreatADs6
import Derived.Test.YtehbkmakbdlgnaaGreatADs7
import Derived.Test.YtehbkmakbdlgnaaGreatADs8
set_option linter.unusedVariables false
set_option linter.unusedSimpArgs false
namespace Go.Ep
open Go Go.RowKit
def PT.eN(N:Nat->Prop)(x:PT):List DV:=[.v (.int .u16 x.dev),.nw N (.sl (List.map RN.e x.runs))]
theorem MonoP.n(x:DV):MonoP fun N=>.d (.nw N x):=.d (.nw x)
theorem DRd.unN{w:World}{S N:Nat->Prop}{x:DV}{u:Value}(h:DRd w S (.nw N x) u):DRd0 w true (fun b=>S b/\N b) x u:=by cases h with | nw _ _ _ h=>exact h
theorem DRd.v0{w:World}{S S':Nat->Prop}{z:Value}{u:Value}{b:Bool}(h:DRd w S (.v z) u):DRd0 w b S' (.v z) u:=by cases h with | v _ h=>exact .v _ h
theorem vra(N:Nat->Prop)(c:List PT):Unm N (c.map (PT.eN N)) (c.map PT.e):=Unm.map (encN:=PT.eN N) (enc:=PT.e) (fun _=>rfl) (fun w S a j x x0 u h1 h2 h=>by
 match j,h1,h2 with
 | 0,h1,h2=>cases h1;cases h2;exact h.v0
 | 1,h1,h2=>cases h1;cases h2;exact h.unN
 | j+2,h1,_=>cases h1) c
theorem unmRun(N:Nat->Prop)(c:List RN):Unm N (c.map RN.e) (c.map RN.e):=Unm.map (encN:=RN.e) (enc:=RN.e) (fun _=>rfl) (fun w S a j x x0 u h1 h2 h=>by
 match j,h1,h2 with
 | 0,h1,h2=>cases h1;cases h2;exact h.v0
 | 1,h1,h2=>cases h1;cases h2;exact h.v0
 | j+2,h1,_=>cases h1) c
end Go.Ep
namespace Go.Proofs
open Go.Ep Tryz
set_option maxHeartbeats 1000000
set_option maxRecDepth 100000
set_option linter.unusedVariables false
set_option linter.unusedSimpArgs false
theorem rawPN(N:Nat->Prop)(w:World)(S:Nat->Prop)(x:PT)(us:List Value)(hl:us.length=2)(h:∀ (j:Nat) (d:DV) (u:Value),(PT.eN N x)[j]?=some d->us[j]?=some u->DRd w S d u):∃ r:RawTPart,RawTPart.v r=us/\RawTPart.R x r:=
 RawTPart.raw w S x us hl fun j d u h1 h2=>by
  match j,h1 with
  | 0,h1=>exact h 0 d u h1 h2
  | 1,h1=>cases h1;exact(h 1 _ u rfl h2).unmark
  | j+2,h1=>cases h1
theorem Vj{m1 r0}(h:(ww m1).wp (·=r0)):PNew prog 69 [.md [.u16] false (zO kI (eL RN.e) m1)] (fun N=>.d (.nw N (.sl (List.map PT.e r0)))):=by
 refine PNew.intro (sl:=[(0,_)]) func69 rfl ntmps69 rfl rfl ?_;intro ctx hK hK0;refine zC ?_;refine ws (aR 62 2 rfl) ?_;refine zL ?_;refine ws (aR 62 2 rfl) ?_;refine zF ?_;refine PWl.rangeD underlying103 rfl rfl rfl (fun bs2 ck2 hbl2 hbn2=>?_);refine g5 ?_;refine yN (zK h) 27 [] [] (fun c3=>([(3,.row 3 (c3.length))],[(3,.row 62 2 (List.map (PT.eN (zT ctx)) c3))])) (fun h=>?_) ?_
 ·refine g5 ?_;refine zc h 27 [7] [] (fun⟨seen28,c29⟩=>([(3,.row 3 (c29.length))],[(3,.row 62 2 (List.map (PT.eN (zT ctx)) c29)),(7,.iterD [.u16] false (zO kI (eL RN.e) m1) bs2 ck2 seen28)])) ?_;rintro N ⟨seen28,c29⟩ _ h;refine zC ?_;obtain⟨hy40,h⟩:=zq h;replace h:=w5a h;refine PWl.nextD rfl rfl (w8a hy40) rfl (fun hy31=>?_) (fun j30 hy32 hy33=>?_)
  ·replace h:=h.1 (w6a hy31);refine zL ?_;refine PWc.condF rfl<|wZ ?_;exact⟨c29,(),h,sP⟩
  ·replace h:=h.2 j30 (w7a hy32) hy33;refine zL ?_;refine PWc.condT rfl ?_;refine zH ?_;obtain⟨kv34,hy35,h⟩:=yF h;refine ws (LR.entryD rfl rfl (Yt hy35) rfl rfl) ?_;refine zl ?_;obtain⟨v36,hy37,h⟩:=zP h;refine ws (LR.rowN (wG hy37) rfl call113 rfl rfl rfl rfl) ?_;refine zl ?_;refine zE h (fun h=>?_) fun h=>?_
   ·refine zH ?_;refine PWl.sub (Sub.frzNw (n:=v36.length) [5,14,15,20] hK0 (unmRun _ v36) rfl (by simp) (fun j hj=>by simp only[List.mem_cons,List.not_mem_nil,or_false] at hj;rcases hj with rfl | rfl | rfl | rfl <;> rfl)) ?_;refine ws (LR.build (ns:=[_,_]) qv rfl rfl rfl)<|ws (LR.buildSliceD [.tmp 21] XF rfl rfl (.cons rfl rfl rfl<|.nil) (by decide) (by decide)) ?_;obtain⟨hy39,h⟩:=zq h;refine ws (LR.appT (enc:=PT.eN (zT ctx)) (L:=c29) (R:=[(⟨kv34.1,v36⟩:PT)]) [3,18] XF underlying24 rfl rfl rfl (Src.slT (enc:=PT.eN (zT ctx)) (R:=[(⟨kv34.1,v36⟩:PT)]) rfl (fun _=>rfl)) (fun _=>rfl) hy39 rfl rfl)<|yL [7,23] [3,7] ?_;refine zC ?_;exact⟨((seen28++[j30]),(c29++[(⟨kv34.1,v36⟩:PT)])),(),h,sP⟩
   ·refine g5 ?_;exact⟨((seen28++[j30]),c29),(),h,sP⟩
 ·rintro c3 _ h;refine zL ?_;obtain⟨hy42,h⟩:=zq h;refine PWl.sortFnR (encD:=PT.eN (zT ctx)) (enc:=RawTPart.v) (lt:=jc) (R:=RawTPart.R) (l:=c3) qB (rawPN (zT ctx)) rlt114 (fun _=>rfl) (fun _=>rfl) rfl call114 rfl rfl rfl (by simp) hy42 rfl (fun s41 hy43 hy44=>?_);replace h:=iSrt h s41 hy43 hy44;have hy43l:=hy43.length_eq;refine zV ?_;refine PWc.sub (Sub.frzNw (id:=3) (n:=c3.length) [2] hK0 (vra _ _) rfl (by rw[List.length_map];exact hy43l) (fun j hj=>by simp at hj;subst hj;rfl)) ?_;refine wX ?_;cases h;exact xT
theorem XR{c1 r0}(h:(vW c1).wp (·=r0)):PNew prog 28 [zZ PT.e c1] (fun N=>.d (.nw N (.sl (List.map PT.e r0)))):=by
 refine PNew.intro (sl:=[(0,_)]) func28 rfl ntmps28 rfl rfl ?_;intro ctx hK hK0;refine zC ?_;refine ws (aR 62 2 rfl) ?_;refine zH ?_;obtain⟨v2,hy3,h⟩:=zP h;refine PWl.mapN (xf hy3) rfl call70 rfl rfl rfl rfl rfl (fun bs4 ck4 _=>?_);obtain⟨v5,hy6,h⟩:=zP h;refine PWl.frzM [4] hK (.cons rfl<|.nil) rfl<|ws (LR.callNw (Vj hy6) (MonoP.n _) rfl call69 rfl rfl rfl rfl)<|wE (tl:=[(0,_),(3,_),(4,_),(5,_)]) (to:=[]) rfl (.c4 rfl rfl rfl rfl rfl rfl rfl rfl<|.nil) .nil ?_;refine zC ?_;refine wX ?_;cases h;exact xT
theorem Ud{a1 b2 r0}(h:(Xi a1 b2).wp (·=r0)):PNew prog 45 [zZ PT.e a1,zZ PT.e b2] (fun N=>.d (.nw N (.sl (List.map PT.e r0)))):=by
 refine PNew.intro (sl:=[(0,_),(1,_)]) func45 rfl ntmps45 rfl rfl ?_;intro ctx hK hK0;refine zC ?_;refine ws (aR 62 2 rfl) ?_;refine zF ?_;refine ws (LR.buildSliceD [.tmp 5,.tmp 6] vSa rfl rfl (.cons rfl rfl rfl<|.cons rfl rfl rfl<|.nil) (by decide) (by decide)) ?_;obtain⟨v3,hy4,h⟩:=zP h;refine ws (LR.rowN (wx hy4) rfl call95 rfl rfl rfl rfl) ?_;obtain⟨v5,hy6,h⟩:=zP h;refine PWl.frz [8] hK (.cons rfl<|.nil) rfl (by simp) ?_;refine ws (LR.callNw (XR hy6) (MonoP.n _) rfl call28 rfl rfl rfl rfl)<|wE (tl:=[(0,_),(1,_),(5,_),(6,_),(7,_),(8,_),(9,_)]) (to:=[]) rfl (.c4 rfl rfl rfl rfl rfl rfl rfl rfl<|.c2 rfl rfl rfl rfl<|.cons rfl rfl<|.nil) .nil ?_;refine zC ?_;refine wX ?_;cases h;exact xT
theorem yha{c1 l2 r0}(h:(UG c1 l2).wp (·=r0)):PNew prog 58 [zZ PT.e c1,zZ DT.e l2] (fun N=>.d (.nw N (.sl (List.map PT.e r0)))):=by
 refine PNew.intro (sl:=[(0,_),(1,_)]) func58 rfl ntmps58 rfl rfl ?_;intro ctx hK hK0;refine zC ?_;refine ws (aR 62 2 rfl) ?_;refine zF ?_;obtain⟨v3,hy4,h⟩:=zP h;refine ws (LR.rowN (zea hy4) rfl call104 rfl rfl rfl rfl) ?_;obtain⟨v5,hy6,h⟩:=zP h;refine PWl.frz [7] hK (.cons rfl<|.nil) rfl (by simp) ?_;refine ws (LR.callNw (Ud hy6) (MonoP.n _) rfl call45 rfl rfl rfl rfl)<|wE (tl:=[(0,_),(1,_),(5,_),(6,_),(7,_),(8,_)]) (to:=[]) rfl (.c4 rfl rfl rfl rfl rfl rfl rfl rfl<|.c2 rfl rfl rfl rfl<|.nil) .nil ?_;refine zC ?_;refine wX ?_;cases h;exact xT
theorem Yy{a1 b2 r0}(h:(xn a1 b2).wp (·=r0)):PNew prog 87 [zZ PT.e a1,zZ PT.e b2,.d (.v (.func (.func 88) #[] #[]))] (fun N=>.d (.nw N (.sl (List.map PT.e r0)))):=by
 refine PNew.intro (sl:=[(0,_),(1,_),(2,_)]) func87 rfl ntmps87 rfl rfl ?_;intro ctx hK hK0;refine zC ?_;refine ws (aR 62 2 rfl) ?_;refine zH ?_;obtain⟨v3,hy4,h⟩:=zP h;refine PWl.mapN (xf hy4) rfl call70 rfl rfl rfl rfl rfl (fun bs5 ck5 _=>?_);refine g5 ?_;obtain⟨v6,hy7,h⟩:=zP h;refine PWl.mapN (xf hy7) rfl call70 rfl rfl rfl rfl rfl (fun bs8 ck8 _=>?_);refine xV ?_;refine yN (zK h) 32 [7] [] (fun v9=>([],[(12,.map [.u16] false (zO kI (eL RN.e) v9) bs5 ck5)])) (fun h=>?_) ?_
 ·refine g5 ?_;refine zc h 32 [2,7,8,16] [14] (fun⟨seen32,v33⟩=>([],[(12,.map [.u16] false (zO kI (eL RN.e) v33) bs5 ck5),(16,.iterO 12 bs5 ck5 seen32)])) ?_;rintro N ⟨seen32,v33⟩ _ h;refine zC ?_;obtain⟨hy43,h⟩:=zq h;replace h:=w5a h;refine PWl.nextO rfl rfl rfl (w8a hy43) rfl (fun hy35=>?_) (fun j34 hy36 hy37=>?_)
  ·replace h:=h.1 (w6a hy35);refine zL ?_;refine PWc.condF rfl<|wZ ?_;exact⟨v33,(),h,sP⟩
  ·replace h:=h.2 j34 (w7a hy36) hy37;refine zL ?_;refine PWc.condT rfl ?_;refine zH ?_;obtain⟨kv38,hy39,h⟩:=yF h;refine ws (LR.entryO rfl rfl rfl (Yt hy39) rfl rfl) ?_;refine Yu ?_;refine ws (LR.getO (eV:=(eL RN.e)) (zv:=([]:List RN)) (q:=kv38.1) (m:=v6) VI underlying103 ZB zeroValue60 (zRd1 (.slice none 0 0) rfl) rfl rfl rfl rfl rfl rfl) ?_;obtain⟨v40,hy41,h⟩:=zP h;refine ws (LR.rowN (XP hy41) rfl call88 rfl rfl rfl rfl) ?_;obtain⟨hy42,h⟩:=zq h;refine PWl.frz [29] hK (.cons rfl<|.nil) rfl (by simp) ?_;refine ws (LR.setIn (eV:=(eL RN.e)) (q:=kv38.1) (v:=v40) (m:=v33) VI underlying103 ZB rfl rfl rfl rfl rfl rfl rfl (fun _=>rfl) hy42) ?_;refine g5 ?_;exact⟨((seen32++[j34]),(AL.set v33 kv38.1 v40)),(),h,sP⟩
 ·rintro v9 _ h;refine zL ?_;obtain⟨v44,hy45,h⟩:=zP h;refine PWl.frzM [7,30] hK (.cons rfl<|.cons rfl<|.nil) rfl<|ws (LR.callNw (Vj hy45) (MonoP.n _) rfl call69 rfl rfl rfl rfl) ?_;refine zC ?_;refine wX ?_;cases h;exact xT
theorem zfa{a1 b2 r0}(h:(Xh a1 b2).wp (·=r0)):PNew prog 38 [zZ PT.e a1,zZ PT.e b2] (fun N=>.d (.nw N (.sl (List.map PT.e r0)))):=by
 refine PNew.intro (sl:=[(0,_),(1,_)]) func38 rfl ntmps38 rfl rfl ?_;intro ctx hK hK0;refine zC ?_;refine ws (aR 62 2 rfl) ?_;refine zF ?_;obtain⟨v3,hy4,h⟩:=zP h;refine ws (LR.callNw (Yy hy4) (MonoP.n _) rfl call87 rfl rfl rfl rfl)<|wE (tl:=[(0,_),(1,_),(5,_),(6,_),(7,_)]) (to:=[]) rfl (.c4 rfl rfl rfl rfl rfl rfl rfl rfl<|.cons rfl rfl<|.nil) .nil ?_;refine zC ?_;refine wX ?_;cases h;exact xT
theorem wXa{l1 d2 r0}(h:(QA l1 d2).wp (·=r0)):PFun prog 119 [zZ DT.e l1,.agg (List.map .d (DT.e d2))] (.d (.v (.bool r0))):=by
 refine yB [0,1] func119 ntmps119 ?_;intro ctx hK;refine xV ?_;obtain⟨v3,hy4,h⟩:=zP h;refine xN (uY hy4) call139 ?_;refine zC ?_;refine wX ?_;cases h;exact xT
theorem Jh{e1 d2 r0}(h:(Wi e1 d2).wp (·=r0)):PFun prog 78 [.agg (List.map .d (EV.e e1)),.agg (List.map .d (DT.e d2))] (.d (.v (.bool r0))):=by
 refine yB [0,1] func78 ntmps78 ?_;intro ctx hK;refine vQ ?_;obtain⟨v3,hy4,h⟩:=zP h;refine xN (wXa hy4) call119 ?_;refine zC ?_;refine wX ?_;cases h;exact xT
theorem ve{l1 d2 r0}(h:(vR l1 d2).wp (·=r0)):PFun prog 31 [zZ EV.e l1,.agg (List.map .d (DT.e d2))] (.d (.v (.bool r0))):=by
 refine yB [0,1] func31 ntmps31 ?_;intro ctx hK;refine Yu ?_;refine vJ (zK h) 17 [] [] (fun _=>([],[])) (fun h=>?_) ?_
 ·refine g5 ?_;refine zc h 17 [3,7,8] [3] (fun v16=>([(9,zJ .i64 v16)],[])) ?_;rintro N v16 _ h;refine zF ?_;refine zE h (fun h=>?_) fun h=>?_
  ·refine zF ?_;obtain⟨x18,hy19,h⟩:=yF h;refine yZ hy19 ?_;refine zl ?_;obtain⟨v20,hy21,h⟩:=zP h;refine xN (Jh hy21) call78 ?_;refine g5 ?_;refine zE h (fun h=>?_) fun h=>?_
   ·refine zH ?_;refine wX ?_;cases h;exact xT
   ·refine zF ?_;exact⟨(IntKind.i64.wrap (v16+1)),(),h,sP⟩
  ·refine wZ ?_;exact⟨(),(),h,sP⟩
 ·rintro _ _ h;refine zH ?_;refine wX ?_;cases h;exact xT
theorem ZZ{s1_1 s2_2 r0}(h:(yv s1_1 s2_2).wp (·=r0)):PFun prog 122 [zZ RN.e s1_1,zZ RN.e s2_2] (.d (.v (.bool r0))):=by
 refine yB [0,1] func122 ntmps122 ?_;intro ctx hK;refine vn ?_;refine zE h (fun h=>?_) fun h=>?_
 ·refine zH ?_;refine wX ?_;cases h;exact xT
 ·refine zl ?_;refine vJ (zK h) 26 [] [] (fun _=>([],[])) (fun h=>?_) ?_
  ·refine g5 ?_;refine zc h 26 [0,1,12] [] (fun v17=>([(13,zJ .i64 v17)],[])) ?_;rintro N v17 _ h;refine zF ?_;refine zE h (fun h=>?_) fun h=>?_
   ·refine xl ?_;refine zy ?_;obtain⟨x19,hy20,h⟩:=yF h;refine xa hy20 ?_;refine yU ?_;obtain⟨x21,hy22,h⟩:=yF h;refine xa hy22 ?_;refine h5 ?_;refine qs (fun _ U W=>LR.neqAgg U U rfl rfl eq90) ?_;refine h5 ?_;refine zE h (fun h=>?_) fun h=>?_
    ·refine zH ?_;refine wX ?_;cases h;exact xT
    ·refine zF ?_;exact⟨(IntKind.i64.wrap (v17+1)),(),h,sP⟩
   ·refine wZ ?_;exact⟨(),(),h,sP⟩
  ·rintro _ _ h;refine zH ?_;refine wX ?_;cases h;exact xT
theorem zga{x1 y2 r0}(h:(jf x1 y2).wp (·=r0)):PFun prog 121 [.agg (List.map .d (PT.e x1)),.agg (List.map .d (PT.e y2))] (.d (.v (.bool r0))):=by
 refine yB [0,1] func121 ntmps121 ?_;intro ctx hK;refine zm ?_;refine yN (zK h) 17 [] [] (fun v3=>([(4,.d (.v (.bool v3)))],[])) (fun h=>?_) ?_
 ·refine zm ?_;refine yH 10 h (fun h=>?_) fun h=>?_
  ·refine zH ?_;obtain⟨v5,hy6,h⟩:=zP h;refine wt (cN (ZZ hy6) rfl call122 rfl rfl rfl rfl) ?_;refine zL ?_;exact⟨v5,(),h,sP⟩
  ·refine zl ?_;exact⟨false,(),h,sP⟩
 ·rintro v3 _ h;refine wX ?_;cases h;exact xT
theorem xW{s1_1 s2_2 r0}(h:(zi s1_1 s2_2).wp (·=r0)):PFun prog 120 [zZ PT.e s1_1,zZ PT.e s2_2,.d (.v (.func (.func 121) #[] #[]))] (.d (.v (.bool r0))):=by
 refine yB [0,1,2] func120 ntmps120 ?_;intro ctx hK;refine vn ?_;refine zE h (fun h=>?_) fun h=>?_
 ·refine zH ?_;refine wX ?_;cases h;exact xT
 ·refine zl ?_;refine vJ (zK h) 32 [] [] (fun _=>([],[])) (fun h=>?_) ?_
  ·refine g5 ?_;refine zc h 32 [1,2,15,16] [] (fun v21=>([(17,zJ .i64 v21)],[])) ?_;rintro N v21 _ h;refine zF ?_;refine zE h (fun h=>?_) fun h=>?_
   ·refine zV ?_;obtain⟨x23,hy24,h⟩:=yF h;refine yZ hy24 ?_;refine xV ?_;obtain⟨x25,hy26,h⟩:=yF h;refine yZ hy26 ?_;refine xV ?_;obtain⟨v27,hy28,h⟩:=zP h;refine xN (zga hy28) call121 ?_;refine zC ?_;refine zE h (fun h=>?_) fun h=>?_
    ·refine zC ?_;refine yL [] [] ?_;refine zC ?_;refine wX ?_;cases h;exact xT
    ·refine zC ?_;refine yL [1,2,15,16,17] [] ?_;refine zL ?_;exact⟨(IntKind.i64.wrap (v21+1)),(),h,sP⟩
   ·refine wZ ?_;exact⟨(),(),h,sP⟩
  ·rintro _ _ h;refine zH ?_;refine wX ?_;cases h;exact xT
theorem zha{a1 b2 r0}(h:(zXa a1 b2).wp (·=r0)):PFun prog 79 [zZ PT.e a1,zZ PT.e b2] (.d (.v (.bool r0))):=by
 refine yB [0,1] func79 ntmps79 ?_;intro ctx hK;refine zl ?_;obtain⟨v3,hy4,h⟩:=zP h;refine xN (xW hy4) call120 ?_;refine zC ?_;refine wX ?_;cases h;exact xT
theorem Yf{c1 r0}(h:(Xn c1).wp (·=r0)):PFun prog 33 [zZ PT.e c1] (.d (.v (.bool r0))):=by
 refine yB [0] func33 ntmps33 ?_;intro ctx hK;refine zl ?_;obtain⟨v2,hy3,h⟩:=zP h;refine ws (LR.rowN (vL hy3) rfl call28 rfl rfl rfl rfl) ?_;obtain⟨v4,hy5,h⟩:=zP h;refine PWl.frz [5] hK (.cons rfl<|.nil) rfl (by simp) ?_;refine xN (zha hy5) call79 ?_;refine zC ?_;refine wX ?_;cases h;exact xT
theorem QM{l1 c2 has3 r0}(h:(UH l1 c2 has3).wp (·=r0)):PRow prog 80 [zZ DT.e l1,zZ PT.e c2,.d (.v (.bool has3))] 54 2 (List.map DT.e r0):=by
 refine PRow.intro (sl:=[(0,_),(1,_),(2,_)]) func80 rfl ntmps80 rfl rfl ?_;intro ctx hK;refine zC ?_;refine ws (aR 54 2 rfl) ?_;refine zL ?_;refine ws (aR 54 2 rfl) ?_;refine zl ?_;refine yN (zK h) 28 [] [] (fun out4=>([(7,.row 7 (out4.length))],[(7,.row 54 2 (List.map DT.e out4))])) (fun h=>?_) ?_
 ·refine g5 ?_;refine zc h 28 [1,2,10,11] [] (fun⟨v23,out24⟩=>([(7,.row 7 (out24.length)),(12,zJ .i64 v23)],[(7,.row 54 2 (List.map DT.e out24))])) ?_;rintro N ⟨v23,out24⟩ _ h;refine zF ?_;refine zE h (fun h=>?_) fun h=>?_
  ·refine zC ?_;refine yN (zK h) 28 [1,2,10,11,12] [] (fun out26=>([(7,.row 7 (out26.length))],[(7,.row 54 2 (List.map DT.e out26))])) (fun h=>?_) ?_
   ·refine zL ?_;obtain⟨x27,hy28,h⟩:=yF h;refine yZ hy28 ?_;refine zl ?_;obtain⟨v29,hy30,h⟩:=zP h;refine xN (YI hy30) call42 ?_;refine zL ?_;refine zE h (fun h=>?_) fun h=>?_
    ·refine zL ?_;refine ws (LR.buildSliceD [.tmp 22] Zz rfl rfl (.cons rfl rfl rfl<|.nil) (by decide) (by decide)) ?_;obtain⟨hy32,h⟩:=zq h;refine ws (LR.appT (enc:=DT.e) (L:=out24) (R:=[x27]) [7,21] Zz underlying55 rfl rfl rfl (Src.slT (enc:=DT.e) (R:=[x27]) rfl (fun _=>rfl)) (fun _=>rfl) hy32 rfl rfl) ?_;refine zC ?_;exact⟨(out24++[x27]),(),h,sP⟩
    ·refine g5 ?_;exact⟨out24,(),h,sP⟩
   ·rintro out26 _ h;refine zH ?_;exact⟨((IntKind.i64.wrap (v23+1)),out26),(),h,sP⟩
  ·refine wZ ?_;exact⟨out24,(),h,sP⟩
 ·rintro out4 _ h;refine zL ?_;obtain⟨v33,hy34,h⟩:=zP h;refine PWl.frz [7,26] hK (.cons rfl<|.cons rfl<|.nil) rfl (by simp) ?_;refine ws (LR.rowN (jp hy34) rfl call81 rfl rfl rfl rfl) ?_;refine zC ?_;refine wX ?_;cases h;exact⟨.inr rfl,6,rfl,.inr ⟨27,_,rfl,(by simp),rfl⟩⟩
theorem Yg{l1 c2 r0}(h:(YC l1 c2).wp (·=r0)):PRow prog 34 [zZ DT.e l1,zZ PT.e c2] 54 2 (List.map DT.e r0):=by
 refine PRow.intro (sl:=[(0,_),(1,_)]) func34 rfl ntmps34 rfl rfl ?_;intro ctx hK;refine zC ?_;refine ws (aR 54 2 rfl) ?_;refine zF ?_;obtain⟨v3,hy4,h⟩:=zP h;refine ws (LR.rowN (QM hy4) rfl call80 rfl rfl rfl rfl)<|yL [0,1,5,6,7] [7] ?_;refine zC ?_;refine wX ?_;cases h;exact⟨.inr rfl,4,rfl,.inr ⟨7,_,rfl,(by simp),rfl⟩⟩
theorem zia{l1 r0}(h:(VS l1).wp (·=r0)):PRow prog 142 [zZ RN.e l1] 90 2 (List.map RN.e r0):=by
 refine PRow.intro (sl:=[(0,_)]) func142 rfl ntmps142 rfl rfl ?_;intro ctx hK;refine zC ?_;refine ws (aR 90 2 rfl) ?_;refine zL ?_;refine ws (aR 90 2 rfl) ?_;refine xV ?_;obtain⟨v2,hy3,h⟩:=zP h;refine ws (LR.rowN (wG hy3) rfl call113 rfl rfl rfl rfl) ?_;refine zL ?_;refine yN (zK h) 31 [] [] (fun⟨at4,out5⟩=>([(3,.row 3 (out5.length)),(4,zJ .u64 at4)],[(3,.row 90 2 (List.map RN.e out5))])) (fun h=>?_) ?_
 ·refine g5 ?_;refine zc h 31 [8,9] [8] (fun⟨at17,v18,out19⟩=>([(3,.row 3 (out19.length)),(4,zJ .u64 at17),(10,zJ .i64 v18)],[(3,.row 90 2 (List.map RN.e out19))])) ?_;rintro N ⟨at17,v18,out19⟩ _ h;refine zF ?_;refine zE h (fun h=>?_) fun h=>?_
  ·refine zF ?_;obtain⟨x21,hy22,h⟩:=yF h;refine ws (LR.idxRowT (L:=v2) (y:=x21) underlying60 sizeOf90 rfl rfl rfl hy22)<|ws (LR.loadRpT (enc:=RN.e) (L:=v2) (y:=x21) isAgg90 sizeOf90 rfl rfl hy22.2) ?_;refine xl ?_;refine ws (LR.build (ns:=[_,_]) Wg rfl rfl rfl)<|ws (LR.buildSliceD [.tmp 19] xw rfl rfl (.cons rfl rfl rfl<|.nil) (by decide) (by decide)) ?_;obtain⟨hy23,h⟩:=zq h;refine ws (LR.appT (enc:=RN.e) (L:=out19) (R:=[(⟨at17,(IntKind.u64.wrap (x21.lo - 1))⟩:RN)]) [3,14] xw underlying60 rfl rfl rfl (Src.slT (enc:=RN.e) (R:=[(⟨at17,(IntKind.u64.wrap (x21.lo - 1))⟩:RN)]) rfl (fun _=>rfl)) (fun _=>rfl) hy23 rfl rfl) ?_;refine zV ?_;refine yL [3,4,8,9,10,24] [3,8] ?_;refine zV ?_;exact⟨((IntKind.u64.wrap (x21.hi+1)),(IntKind.i64.wrap (v18+1)),(out19++[(⟨at17,(IntKind.u64.wrap (x21.lo - 1))⟩:RN)])),(),h,zEa⟩
  ·refine wZ ?_;exact⟨(at17,out19),(),h,sP⟩
 ·rintro⟨at4,out5⟩ _ h;refine zH ?_;refine ws (LR.build (ns:=[_,_]) Wg rfl rfl rfl)<|ws (LR.buildSliceD [.tmp 28] xw rfl rfl (.cons rfl rfl rfl<|.nil) (by decide) (by decide)) ?_;obtain⟨hy24,h⟩:=zq h;refine ws (LR.appT (enc:=RN.e) (L:=out5) (R:=[(⟨at4,281474976710655⟩:RN)]) [3,26] xw underlying60 rfl rfl rfl (Src.slT (enc:=RN.e) (R:=[(⟨at4,281474976710655⟩:RN)]) rfl (fun _=>rfl)) (fun _=>rfl) hy24 rfl rfl) ?_;refine zC ?_;refine wX ?_;cases h;exact⟨.inr rfl,2,rfl,.inr ⟨3,_,rfl,(by simp),rfl⟩⟩
theorem QN{a1 b2 r0}(h:(YD a1 b2).wp (·=r0)):PRow prog 129 [zZ RN.e a1,zZ RN.e b2] 90 2 (List.map RN.e r0):=by
 refine PRow.intro (sl:=[(0,_),(1,_)]) func129 rfl ntmps129 rfl rfl ?_;intro ctx hK;refine zC ?_;refine ws (aR 90 2 rfl) ?_;refine zF ?_;obtain⟨v3,hy4,h⟩:=zP h;refine ws (LR.rowN (zia hy4) rfl call142 rfl rfl rfl rfl) ?_;obtain⟨v5,hy6,h⟩:=zP h;refine PWl.frz [7] hK (.cons rfl<|.nil) rfl (by simp) ?_;refine ws (LR.rowN (XP hy6) rfl call88 rfl rfl rfl rfl)<|yL [0,1,5,6,7,8] [8] ?_;refine zC ?_;refine wX ?_;cases h;exact⟨.inr rfl,4,rfl,.inr ⟨8,_,rfl,(by simp),rfl⟩⟩
theorem Yz{a1 b2 r0}(h:(vK a1 b2).wp (·=r0)):PRow prog 87 [zZ PT.e a1,zZ PT.e b2,.d (.v (.func (.func 129) #[] #[]))] 62 2 (List.map PT.e r0):=by
 refine PRow.intro (sl:=[(0,_),(1,_),(2,_)]) func87 rfl ntmps87 rfl rfl ?_;intro ctx hK;refine zC ?_;refine ws (aR 62 2 rfl) ?_;refine zH ?_;obtain⟨v3,hy4,h⟩:=zP h;refine PWl.mapN (xf hy4) rfl call70 rfl rfl rfl rfl rfl (fun bs5 ck5 _=>?_);refine g5 ?_;obtain⟨v6,hy7,h⟩:=zP h;refine PWl.mapN (xf hy7) rfl call70 rfl rfl rfl rfl rfl (fun bs8 ck8 _=>?_);refine xV ?_;refine yN (zK h) 32 [7] [] (fun v9=>([],[(12,.map [.u16] false (zO kI (eL RN.e) v9) bs5 ck5)])) (fun h=>?_) ?_
 ·refine g5 ?_;refine zc h 32 [2,7,8,16] [14] (fun⟨seen32,v33⟩=>([],[(12,.map [.u16] false (zO kI (eL RN.e) v33) bs5 ck5),(16,.iterO 12 bs5 ck5 seen32)])) ?_;rintro N ⟨seen32,v33⟩ _ h;refine zC ?_;obtain⟨hy43,h⟩:=zq h;replace h:=w5a h;refine PWl.nextO rfl rfl rfl (w8a hy43) rfl (fun hy35=>?_) (fun j34 hy36 hy37=>?_)
  ·replace h:=h.1 (w6a hy35);refine zL ?_;refine PWc.condF rfl<|wZ ?_;exact⟨v33,(),h,sP⟩
  ·replace h:=h.2 j34 (w7a hy36) hy37;refine zL ?_;refine PWc.condT rfl ?_;refine zH ?_;obtain⟨kv38,hy39,h⟩:=yF h;refine ws (LR.entryO rfl rfl rfl (Yt hy39) rfl rfl) ?_;refine Yu ?_;refine ws (LR.getO (eV:=(eL RN.e)) (zv:=([]:List RN)) (q:=kv38.1) (m:=v6) VI underlying103 ZB zeroValue60 (zRd1 (.slice none 0 0) rfl) rfl rfl rfl rfl rfl rfl) ?_;obtain⟨v40,hy41,h⟩:=zP h;refine ws (LR.rowN (QN hy41) rfl call129 rfl rfl rfl rfl) ?_;obtain⟨hy42,h⟩:=zq h;refine PWl.frz [29] hK (.cons rfl<|.nil) rfl (by simp) ?_;refine ws (LR.setIn (eV:=(eL RN.e)) (q:=kv38.1) (v:=v40) (m:=v33) VI underlying103 ZB rfl rfl rfl rfl rfl rfl rfl (fun _=>rfl) hy42) ?_;refine g5 ?_;exact⟨((seen32++[j34]),(AL.set v33 kv38.1 v40)),(),h,sP⟩
 ·rintro v9 _ h;refine zL ?_;obtain⟨v44,hy45,h⟩:=zP h;refine PWl.frzM [7,30] hK (.cons rfl<|.cons rfl<|.nil) rfl<|ws (LR.rowN (Zi hy45) rfl call69 rfl rfl rfl rfl) ?_;refine zC ?_;refine wX ?_;cases h;exact⟨.inr rfl,6,rfl,.inr ⟨31,_,rfl,(by simp),rfl⟩⟩
theorem zja{a1 b2 r0}(h:(VT a1 b2).wp (·=r0)):PRow prog 96 [zZ PT.e a1,zZ PT.e b2] 62 2 (List.map PT.e r0):=by
 refine PRow.intro (sl:=[(0,_),(1,_)]) func96 rfl ntmps96 rfl rfl ?_;intro ctx hK;refine zC ?_;refine ws (aR 62 2 rfl) ?_;refine zF ?_;obtain⟨v3,hy4,h⟩:=zP h;refine ws (LR.rowN (Yz hy4) rfl call87 rfl rfl rfl rfl)<|yL [0,1,5,6,7] [7] ?_;refine zC ?_;refine wX ?_;cases h;exact⟨.inr rfl,4,rfl,.inr ⟨7,_,rfl,(by simp),rfl⟩⟩
theorem Yh{a1 b2 r0}(h:(YE a1 b2).wp (·=r0)):PFun prog 47 [zZ PT.e a1,zZ PT.e b2] (.d (.v (.bool r0))):=by
 refine yB [0,1] func47 ntmps47 ?_;intro ctx hK;refine zl ?_;obtain⟨v3,hy4,h⟩:=zP h;refine ws (LR.rowN (zja hy4) rfl call96 rfl rfl rfl rfl) ?_;refine zH ?_;refine wX ?_;cases h;exact xT
theorem Vk{d1 r0}(h:(Xo d1).wp (·=r0)):PFun prog 46 [.agg (List.map .d (DL.e d1))] (.d (.v (.bool r0))):=by
 refine yB [0] func46 ntmps46 ?_;intro ctx hK;refine zm ?_;refine yN (zK h) 84 [1] [1] (fun v2=>([(28,.d (.v (.bool v2)))],[])) (fun h=>?_) ?_
 ·refine zL ?_;obtain⟨v3,hy4,h⟩:=zP h;refine xN (Yf hy4) call33 ?_;refine zC ?_;refine yH 9 h (fun h=>?_) fun h=>?_
  ·refine Yu ?_;refine yL [1,15,21] [1] ?_;refine zl ?_;exact⟨true,(),h,sP⟩
  ·refine zC ?_;obtain⟨v6,hy7,h⟩:=zP h;refine wt (cN (Yf hy7) rfl call33 rfl rfl rfl rfl) ?_;refine zL ?_;refine yH 15 h (fun h=>?_) fun h=>?_
   ·refine zF ?_;refine yL [1,15,20] [1] ?_;refine xV ?_;exact⟨true,(),h,sP⟩
   ·refine zH ?_;obtain⟨v9,hy10,h⟩:=zP h;refine wt (cN (Yh hy10) rfl call47 rfl rfl rfl rfl)<|yL [1,15,20] [1] ?_;refine zL ?_;refine yH 23 h (fun h=>?_) fun h=>?_
    ·refine zV ?_;exact⟨true,(),h,sP⟩
    ·refine zV ?_;exact⟨(decide (4096 < (d1.events.length:Int))),(),h,sP⟩
 ·rintro v2 _ h;refine zE h (fun h=>?_) fun h=>?_
  ·refine zH ?_;refine wX ?_;cases h;exact xT
  ·refine xV ?_;refine vJ (zK h) 84 [1] [1] (fun _=>([],[])) (fun h=>?_) ?_
   ·refine g5 ?_;refine zc h 84 [1,30,31] [1] (fun v58=>([(32,zJ .i64 v58)],[])) ?_;rintro N v58 _ h;refine zF ?_;refine zE h (fun h=>?_) fun h=>?_
    ·refine zV ?_;obtain⟨x60,hy61,h⟩:=yF h;refine yZ hy61 ?_;refine zm ?_;refine yN (zK h) 84 [1,3,4,30,31,32] [1,4] (fun v62=>([(37,.d (.v (.bool v62)))],[])) (fun h=>?_) ?_
     ·refine zC ?_;obtain⟨v63,hy64,h⟩:=zP h;refine xN (vc hy64) call29 ?_;refine zC ?_;refine yH 41 h (fun h=>?_) fun h=>?_
      ·refine zV ?_;refine yL [1,3,4,30,31,32,42,43,44,45,46,47] [1,4] ?_;refine zC ?_;exact⟨true,(),h,sP⟩
      ·refine zH ?_;obtain⟨v66,hy67,h⟩:=zP h;refine wt (cN (YI hy67) rfl call42 rfl rfl rfl rfl) ?_;refine g5 ?_;refine yL [1,3,4,30,31,32,42,43,44,45,46,47] [1,4] ?_;refine zC ?_;exact⟨v66,(),h,sP⟩
     ·rintro v62 _ h;refine zE h (fun h=>?_) fun h=>?_
      ·refine zH ?_;refine wX ?_;cases h;exact xT
      ·refine g5 ?_;refine yN (zK h) 84 [1,4,30,31,32] [1,4] (fun v69=>([(48,.d (.v (.bool v69)))],[])) (fun h=>?_) ?_
       ·refine g5 ?_;refine yU ?_;refine qy 51 h (fun h=>?_) fun h=>?_
        ·refine vV ?_;obtain⟨x71,hy72,h⟩:=yF h;refine VP hy72 ?_;refine vV ?_;obtain⟨v73,hy74,h⟩:=zP h;refine qt (fun _ U W=>cN (WE hy74) U call30 (xY (fun a b=>U a b) rfl rfl) rfl rfl rfl) ?_;refine vV ?_;exact⟨(decide (0<=v73)),(),h,sP⟩
        ·refine hs14A6 ?_;exact⟨false,(),h,sP⟩
       ·rintro v69 _ h;refine zE h (fun h=>?_) fun h=>?_
        ·refine zH ?_;refine wX ?_;cases h;exact xT
        ·refine g5 ?_;refine yN (zK h) 84 [1,30,31,32] [1] (fun v76=>([(64,.d (.v (.bool v76)))],[])) (fun h=>?_) ?_
         ·refine zF ?_;refine yH 68 h (fun h=>?_) fun h=>?_
          ·refine zH ?_;obtain⟨v78,hy79,h⟩:=zP h;refine wt (cN (ve hy79) rfl call31 rfl rfl rfl rfl) ?_;refine zL ?_;exact⟨v78,(),h,sP⟩
          ·refine zl ?_;exact⟨false,(),h,sP⟩
         ·rintro v76 _ h;refine zE h (fun h=>?_) fun h=>?_
          ·refine zH ?_;refine wX ?_;cases h;exact xT
          ·refine zF ?_;exact⟨(IntKind.i64.wrap (v58+1)),(),h,sP⟩
    ·refine wZ ?_;exact⟨(),(),h,sP⟩
   ·rintro _ _ h;refine zC ?_;refine zy ?_;obtain⟨v81,hy82,h⟩:=zP h;refine qs (fun _ U W=>cN (PRow.fun (vd hy82)) U call35 (xY (fun a b=>U a b) rfl rfl) rfl rfl rfl) ?_;refine zy ?_;obtain⟨v83,hy84,h⟩:=zP h;refine qs (fun _ U W=>cN (PRow.fun (Yg hy84)) U call34 (xY (fun a b=>U a b) rfl rfl) rfl rfl rfl) ?_;refine qs (fun _ U W=>lM (enc:=DT.e) (L:=v83) underlying55 U) ?_;refine yU ?_;refine wX ?_;cases h;exact xT
theorem yia{a1 b2 r0}(h:(Uo a1 b2).wp (·=r0)):PFun prog 56 [zZ PT.e a1,zZ PT.e b2] (.d (.v (.bool r0))):=by
 refine yB [0,1] func56 ntmps56 ?_;intro ctx hK;refine zm ?_;obtain⟨v3,hy4,h⟩:=zP h;refine ws (LR.rowN (vL hy4) rfl call28 rfl rfl rfl rfl) ?_;refine g5 ?_;obtain⟨v5,hy6,h⟩:=zP h;refine ws (LR.rowN (vL hy6) rfl call28 rfl rfl rfl rfl) ?_;obtain⟨v7,hy8,h⟩:=zP h;refine PWl.frz [6] hK (.cons rfl<|.nil) rfl (by simp) ?_;refine PWl.frz [8] hK (.cons rfl<|.nil) rfl (by simp) ?_;refine xN (zha hy8) call79 ?_;refine zC ?_;refine wX ?_;cases h;exact xT
theorem Za{s1_1 s2_2 r0}(h:(yw s1_1 s2_2).wp (·=r0)):PFun prog 143 [zZ DT.e s1_1,zZ DT.e s2_2] (.d (.v (.bool r0))):=by
 refine yB [0,1] func143 ntmps143 ?_;intro ctx hK;refine vn ?_;refine zE h (fun h=>?_) fun h=>?_
 ·refine zH ?_;refine wX ?_;cases h;exact xT
 ·refine zl ?_;refine vJ (zK h) 26 [] [] (fun _=>([],[])) (fun h=>?_) ?_
  ·refine g5 ?_;refine zc h 26 [0,1,12] [] (fun v17=>([(13,zJ .i64 v17)],[])) ?_;rintro N v17 _ h;refine zF ?_;refine zE h (fun h=>?_) fun h=>?_
   ·refine xl ?_;refine zy ?_;obtain⟨x19,hy20,h⟩:=yF h;refine xa hy20 ?_;refine yU ?_;obtain⟨x21,hy22,h⟩:=yF h;refine xa hy22 ?_;refine h5 ?_;refine qs (fun _ U W=>LR.neqAgg U U rfl rfl vTa) ?_;refine h5 ?_;refine zE h (fun h=>?_) fun h=>?_
    ·refine zH ?_;refine wX ?_;cases h;exact xT
    ·refine zF ?_;exact⟨(IntKind.i64.wrap (v17+1)),(),h,sP⟩
   ·refine wZ ?_;exact⟨(),(),h,sP⟩
  ·rintro _ _ h;refine zH ?_;refine wX ?_;cases h;exact xT
theorem yja{a1 b2 r0}(h:(Uq a1 b2).wp (·=r0)):PFun prog 132 [zZ DT.e a1,zZ DT.e b2] (.d (.v (.bool r0))):=by
 refine yB [0,1] func132 ntmps132 ?_;intro ctx hK;refine zl ?_;obtain⟨v3,hy4,h⟩:=zP h;refine xN (Za hy4) call143 ?_;refine zC ?_;refine wX ?_;cases h;exact xT
theorem QO{a1 b2 r0}(h:(Xp a1 b2).wp (·=r0)):PFun prog 103 [.agg (List.map .d (EV.e a1)),.agg (List.map .d (EV.e b2))] (.d (.v (.bool r0))):=by
 refine yB [0,1] func103 ntmps103 ?_;intro ctx hK;refine zm ?_;refine yN (zK h) 45 [] [] (fun v3=>([(4,.d (.v (.bool v3)))],[])) (fun h=>?_) ?_
 ·refine zF ?_;refine ws (LR.eqlAgg rfl rfl rfl rfl vTa) ?_;refine g5 ?_;refine yH 10 h (fun h=>?_) fun h=>?_
  ·refine zm ?_;refine yH 17 h (fun h=>?_) fun h=>?_
   ·refine g5 ?_;refine yL [2,3,4,17,18] [2,3] ?_;refine zV ?_;refine yH 24 h (fun h=>?_) fun h=>?_
    ·refine zm ?_;refine yH 31 h (fun h=>?_) fun h=>?_
     ·refine g5 ?_;refine yL [2,3,4,31,32] [2,3] ?_;refine zV ?_;refine yH 38 h (fun h=>?_) fun h=>?_
      ·refine zH ?_;obtain⟨v9,hy10,h⟩:=zP h;refine wt (cN (yja hy10) rfl call132 rfl rfl rfl rfl) ?_;refine zL ?_;exact⟨v9,(),h,sP⟩
      ·refine zl ?_;exact⟨false,(),h,sP⟩
     ·refine g5 ?_;refine yL [2,3,4,31,32] [2,3] ?_;refine Jy ?_;exact⟨false,(),h,sP⟩
    ·refine xV ?_;refine yL [2,3,4,31,33] [2,3] ?_;refine vn ?_;exact⟨false,(),h,sP⟩
   ·refine g5 ?_;refine yL [2,3,4,17,18] [2,3] ?_;refine Jz ?_;refine yL [2,3,4,31,33,34] [2,3] ?_;refine Yu ?_;exact⟨false,(),h,sP⟩
  ·refine xV ?_;refine yL [2,3,4,17,19] [2,3] ?_;refine Jz ?_;refine yL [2,3,4,31,33,35] [2,3] ?_;refine vQ ?_;exact⟨false,(),h,sP⟩
 ·rintro v3 _ h;refine wX ?_;cases h;exact xT
theorem ye{s1_1 s2_2 r0}(h:(ze s1_1 s2_2).wp (·=r0)):PFun prog 102 [zZ EV.e s1_1,zZ EV.e s2_2,.d (.v (.func (.func 103) #[] #[]))] (.d (.v (.bool r0))):=by
 refine yB [0,1,2] func102 ntmps102 ?_;intro ctx hK;refine vn ?_;refine zE h (fun h=>?_) fun h=>?_
 ·refine zH ?_;refine wX ?_;cases h;exact xT
 ·refine zl ?_;refine vJ (zK h) 32 [] [] (fun _=>([],[])) (fun h=>?_) ?_
  ·refine g5 ?_;refine zc h 32 [1,2,15,16] [] (fun v21=>([(17,zJ .i64 v21)],[])) ?_;rintro N v21 _ h;refine zF ?_;refine zE h (fun h=>?_) fun h=>?_
   ·refine zV ?_;obtain⟨x23,hy24,h⟩:=yF h;refine yZ hy24 ?_;refine xV ?_;obtain⟨x25,hy26,h⟩:=yF h;refine yZ hy26 ?_;refine xV ?_;obtain⟨v27,hy28,h⟩:=zP h;refine xN (QO hy28) call103 ?_;refine zC ?_;refine zE h (fun h=>?_) fun h=>?_
    ·refine zC ?_;refine yL [] [] ?_;refine zC ?_;refine wX ?_;cases h;exact xT
    ·refine zC ?_;refine yL [1,2,15,16,17] [] ?_;refine zL ?_;exact⟨(IntKind.i64.wrap (v21+1)),(),h,sP⟩
   ·refine wZ ?_;exact⟨(),(),h,sP⟩
  ·rintro _ _ h;refine zH ?_;refine wX ?_;cases h;exact xT
theorem zka{a1 b2 r0}(h:(VU a1 b2).wp (·=r0)):PFun prog 57 [zZ EV.e a1,zZ EV.e b2] (.d (.v (.bool r0))):=by
 refine yB [0,1] func57 ntmps57 ?_;intro ctx hK;refine zl ?_;obtain⟨v3,hy4,h⟩:=zP h;refine xN (ye hy4) call102 ?_;refine zC ?_;refine wX ?_;cases h;exact xT
theorem Yi  (r0:List PT×Bool×(List (DT×EV))×Bool×(List (DT×EV))) (h:(vw ).wp (·=r0)):PObj prog 12 [] [] [] (.ref 2 0) (fun _:Unit=>[(2,.cells 73 [zZ PT.e r0.1,.mp 30041,.mp 30042]),(30041,.mapH r0.2.1 [.u16,.u64] true (zO DT.k EV.e r0.2.2.1)),(30042,.mapH r0.2.2.2.1 [.u16,.u64] true (zO DT.k EV.e r0.2.2.2.2))]):=by
 refine YV [] func12 ntmps12 ?_;intro ctx hK pv;refine zV ?_;refine ws (LR.buildR (ns:=[_,_,_]) qw rfl rfl rfl) ?_;refine g5 ?_;refine PWl.sub (Sub.nilCell (id:=2) (j:=0) rfl rfl)<|PWl.sub (Sub.ownMap (id:=2) (j:=1) (id':=30041) (ks:=[.u16,.u64]) (ag:=true) (ck:=0) rfl rfl rfl rfl)<|PWl.sub (Sub.ownMap (id:=2) (j:=2) (id':=30042) (ks:=[.u16,.u64]) (ag:=true) (ck:=0) rfl rfl rfl rfl)<|yL [0,2] [2,30041,30042] ?_;refine zC ?_;refine wX ?_;cases h;exact EndsO.mk () (.inr rfl) (Sub.trans (Sub.nToH (id:=30041) rfl)<|Sub.trans (Sub.nToH (id:=30042) rfl)<|yYa [0] [2,30041,30042]) (.cons (.tmp rfl)<|.nil) rfl rfl
theorem wg{e1 nl2 m3 r0}(h:(xK e1 nl2 m3).wp (·=r0)):PObj prog 32 [.mp 100,.agg (List.map .d (EV.e e1))] [(100,.mapH nl2 [.u16,.u64] true (zO DT.k EV.e m3))] [] (.mp 100) (fun _:Unit=>[(100,.mapH r0.1 [.u16,.u64] true (zO DT.k EV.e r0.2))]):=by
 refine YV [0,1] func32 ntmps32 ?_;intro ctx hK pv;refine vQ ?_;refine wJ (zK h) (fun(v4:List (DT×EV)) (⟨bs5,ck6⟩:List Nat×Nat)=>⟨14,[(  0,.mp 100),(  3,.ref 3 0)],[(  3,.cells 57 [zJ .u16 e1.dot.dev,zJ .u64 e1.dot.n,zJ .u8 e1.kind,zJ .u64 e1.cid,zJ .u8 e1.field,.d (.v (.string e1.text)),zZ DT.e e1.kills]),(100,.map [.u16,.u64] true (zO DT.k EV.e v4) bs5 ck6)]⟩) (fun h=>?_) ?_
 ·refine wC rfl (fun hc7=>?_) (fun hc7=>?_)
  ·replace h:=iT hc7 h;refine PWc.sub (Sub.hT (id:=100) rfl hc7) ?_;refine g5 ?_;refine ws (LR.makeMap [.u16,.u64] true rfl) ?_;refine g5 ?_;refine yL [0,1,3,4,6] [3,7,100] ?_;refine PWl.sub (Sub.moveMap (id1:=100) (id2:=7) (j:=0) rfl rfl rfl rfl) ?_;refine g5 ?_;exact⟨([]:List (DT×EV)),([],0),h,sP⟩
  ·replace h:=iF hc7 h;refine PWc.hF (id:=100) rfl hc7 (fun bs8 ck8=>?_);refine g5 ?_;exact⟨m3,(bs8,ck8),h,sP⟩
 ·rintro v4 ⟨bs5,ck6⟩ h;refine g5 ?_;refine uU [0,3] [3,100] ?_;refine PWc.regionE [zt [8] [100],zt [9] [3],⟨[10],[],[3],[],[],[],[],[]⟩,⟨[11],[],[3],[],[],[],[],[]⟩,{ws:=[12]},⟨[],[100],[100],[],[],[],[],[]⟩] (by kernel_rfl) (by kernel_rfl) rfl ?_;refine vV ?_;obtain⟨v9,hy10,h⟩:=zP h;refine kp (fun _ U W=>cN (uj hy10) U call44 (xY (fun a b=>U a b) rfl rfl) rfl rfl rfl) ?_;refine ks (fun _ U W=>LR.setM (eV:=EV.e) (q:=e1.dot) (v:=v9) (m:=v4) DT.k_inj underlying71 key71 U (W rfl rfl) U rfl rfl U rfl (fun h=>by cases h)) ?_;refine PQe.nil ?_;refine zF ?_;refine wX ?_;cases h;exact EndsO.mk () (.inr rfl) (Sub.trans (Sub.toH (id:=100) rfl)<|yYa [4] [100]) (.cons (.tmp rfl)<|.nil) rfl rfl
theorem Zj{e1 ctx_2 nl3 m4 nl5 m6 r0}(h:(yQ e1 ctx_2 nl3 m4 nl5 m6).wp (·=r0)):PObj prog 22 [.ref 100 0,.agg (List.map .d (EV.e e1))] [(100,.cells 73 [zZ PT.e ctx_2,.mp 101,.mp 102]),(101,.mapH nl3 [.u16,.u64] true (zO DT.k EV.e m4)),(102,.mapH nl5 [.u16,.u64] true (zO DT.k EV.e m6))] [100] (zJ .i64 r0.1) (fun _:Unit=>[(100,.cells 73 [zZ PT.e r0.2.1,.mp 101,.mp 102]),(101,.mapH r0.2.2.1 [.u16,.u64] true (zO DT.k EV.e r0.2.2.2.1)),(102,.mapH r0.2.2.2.2.1 [.u16,.u64] true (zO DT.k EV.e r0.2.2.2.2.2))]):=by
 refine YV [0,1] func22 ntmps22 ?_;intro ctx hK pv;refine vn ?_;obtain⟨v7,hy8,h⟩:=zP h;refine wt (cN (vc hy8) rfl call29 rfl rfl rfl rfl) ?_;refine zH ?_;refine zE h (fun h=>?_) fun h=>?_
 ·refine zH ?_;refine wX ?_;cases h;exact Zp [4] [100,101,102,1100]
 ·refine zC ?_;refine Wh ?_;obtain⟨v10,hy11,h⟩:=zP h;refine qs (fun _ U W=>cN (YI hy11) U call42 (xY (fun a b=>U a b) rfl rfl) rfl rfl rfl) ?_;refine zy ?_;refine zE h (fun h=>?_) fun h=>?_
  ·refine zH ?_;refine wX ?_;cases h;exact Zp [4] [100,101,102,1100]
  ·refine zC ?_;refine uU [0,3] [3,100,101,102,1100] ?_;refine PWc.regionE [zt [23] [100],zt [24] [100],zt [25] [100],zt [26] [100],⟨[27],[],[100],[],[],[],[],[]⟩,⟨[28],[],[3],[],[],[],[],[]⟩,{ws:=[29]},{ws:=[30]},{ws:=[31]},zt [32] [100],zt [33] [100],⟨[],[100],[100],[],[],[],[101,102],[]⟩] (by kernel_rfl) (by kernel_rfl) rfl ?_;refine Wh ?_;refine kp (fun _ U W=>LR.buildSliceD [.tmp 28] yh rfl rfl (.cons U rfl rfl<|.nil) (by decide) (by decide)) ?_;obtain⟨v13,hy14,h⟩:=zP h;refine kp (fun _ U W=>cN (PRow.fun (vd hy14)) U call35 (xY (fun a b=>U a b) rfl rfl) rfl rfl rfl) ?_;obtain⟨v15,hy16,h⟩:=zP h;refine kp (fun _ U W=>cN (PRow.fun (wWa hy16)) U call58 (xY (fun a b=>U a b) rfl rfl) rfl rfl rfl) ?_;refine zy ?_;refine ks (fun _ U W=>sB (ns:=[_,_,_]) sizeOf24 U U rfl rfl (W rfl rfl) rfl rfl)<|PQe.nil ?_;refine zl ?_;refine yN (zK h) 68 [0,3] [3,100,102,1100] (fun v17=>([],[(101,.mapH nl3 [.u16,.u64] true (zO DT.k EV.e v17))])) (fun h=>?_) ?_
   ·refine g5 ?_;refine zc h 68 [0,3,35,36] [3,100,102,1100] (fun⟨v26,v27⟩=>([(37,zJ .i64 v26)],[(101,.mapH nl3 [.u16,.u64] true (zO DT.k EV.e v27))])) ?_;rintro N ⟨v26,v27⟩ _ h;refine zF ?_;refine zE h (fun h=>?_) fun h=>?_
    ·refine zF ?_;obtain⟨x29,hy30,h⟩:=yF h;refine yZ hy30 ?_;refine zH ?_;refine uU [0,3,6,35,36,37] [3,6,100,101,102,1100] ?_;refine PWc.regionE [zt [41] [100],zt [42] [100],zt [43] [100],⟨[44],[],[100],[],[],[101],[],[]⟩,⟨[45],[],[6],[],[],[],[],[]⟩,⟨[],[101],[101],[],[],[],[],[]⟩] (by kernel_rfl) (by kernel_rfl) rfl ?_;refine wMa ?_;refine PQe.stepSD (fun _ U W=>LR.delH (eV:=EV.e) (q:=x29) (m:=v27) DT.k_inj underlying71 key71 (U rfl rfl) (W rfl rfl) (U rfl rfl) rfl rfl rfl) (.inl rfl) rfl<|PQe.nil ?_;refine zH ?_;exact⟨((IntKind.i64.wrap (v26+1)),(AL.del v27 x29)),(),h,sP⟩
    ·refine wZ ?_;exact⟨v27,(),h,sP⟩
   ·rintro v17 _ h;refine zm ?_;refine yN (zK h) 68 [] [100,1100] (fun⟨nl31,v32,nl33,v34⟩=>([],[(101,.mapH nl33 [.u16,.u64] true (zO DT.k EV.e v34)),(102,.mapH nl31 [.u16,.u64] true (zO DT.k EV.e v32))])) (fun h=>?_) ?_
    ·refine zE h (fun h=>?_) fun h=>?_
     ·refine uU [0,3] [3,100,101,102,1100] ?_;refine PWc.regionE [zt [50] [100],zt [51] [100],zt [52] [100],zt [53] [100],⟨[54],[],[100],[],[],[101],[],[]⟩,⟨[55],[],[3],[],[],[],[],[]⟩,⟨[54,56],[100,101],[100,101,102],[],[(101,[54])],[101],[102],[100,101,102]⟩,zt [57] [100],zt [58] [100],⟨[],[100],[100,101],[],[],[],[101,102],[]⟩] (by kernel_rfl) (by kernel_rfl) rfl ?_;refine Wh ?_;obtain⟨y36,hy37,h⟩:=zP h;refine qx [(100,101),(500,100),(501,102)] [54] [100,500,501] [100,500] [501] (PObj.frame [(500,.cells 73 [zZ PT.e v15,.mp 100,.mp 501]),(501,.mapH nl5 [.u16,.u64] true (zO DT.k EV.e m6))] [(500,.cells 73 [zZ PT.e v15,.junk,.mp 501]),(501,.mapH nl5 [.u16,.u64] true (zO DT.k EV.e m6))] (wg hy37) (fun _=>rfl) (fun _=>rfl) rfl rfl (.cons (.cells (.keep rfl<|.junk<|.keep rfl<|.nil))<|.cons (.same rfl)<|.nil)) call32 ?_;refine zy ?_;refine ks (fun _ U W=>sB (ns:=[_,_,_]) sizeOf71 U U rfl rfl (W rfl rfl) rfl rfl)<|PQe.nil ?_;exact⟨(nl5,m6,y36.1,y36.2),(),h,sP⟩
     ·refine uU [0,3] [3,100,101,102,1100] ?_;refine PWc.regionE [zt [59] [100],zt [60] [100],zt [61] [100],zt [62] [100],⟨[63],[],[100],[],[],[102],[],[]⟩,⟨[64],[],[3],[],[],[],[],[]⟩,⟨[63,65],[100,102],[100,101,102],[],[(102,[63])],[102],[101],[100,101,102]⟩,zt [66] [100],zt [67] [100],⟨[],[100],[100,102],[],[],[],[101,102],[]⟩] (by kernel_rfl) (by kernel_rfl) rfl ?_;refine Wh ?_;obtain⟨y38,hy39,h⟩:=zP h;refine qx [(100,102),(500,100),(501,101)] [63] [100,500,501] [100,500] [501] (PObj.frame [(500,.cells 73 [zZ PT.e v15,.mp 501,.mp 100]),(501,.mapH nl3 [.u16,.u64] true (zO DT.k EV.e v17))] [(500,.cells 73 [zZ PT.e v15,.mp 501,.junk]),(501,.mapH nl3 [.u16,.u64] true (zO DT.k EV.e v17))] (wg hy39) (fun _=>rfl) (fun _=>rfl) rfl rfl (.cons (.cells (.keep rfl<|.keep rfl<|.junk<|.nil))<|.cons (.same rfl)<|.nil)) call32 ?_;refine zy ?_;refine ks (fun _ U W=>sB (ns:=[_,_,_]) sizeOf71 U U rfl rfl (W rfl rfl) rfl rfl)<|PQe.nil ?_;exact⟨(y38.1,y38.2,nl3,v17),(),h,sP⟩
    ·rintro⟨nl31,v32,nl33,v34⟩ _ h;refine zH ?_;refine wX ?_;cases h;exact Zp [4] [100,101,102,1100]
end Go.Proofs
namespace Go.Ep
open Go.RowKit
section
variable{P:Program}{ctx:Ctx}{Q:PQ}{s:PState}
variable{dst:Option Tmp}{ty:TypeId}{pos:String}{after:Array Edge}{gd:Option (Nat×Bool)}
theorem EpRd.of{w:World}{g:zb}{S:Nat->Prop}{ds:List DV}{u:Value}(h:Rd w g S (.ep ds 0) u):EpRd w S ds u:=by
 cases h with
 | ep _ b off _ c hS hb hc hr=>exact⟨b,off,c,rfl,hS,hb,hc,hr⟩
theorem EpRd.rd{w:World}{g:zb}{S:Nat->Prop}{ds:List DV}{u:Value}(h:EpRd w S ds u):Rd w g S (.ep ds 0) u:=by
 obtain⟨b,off,c,rfl,hS,hb,hc,hr⟩:=h;exact .ep ds b off 0 c hS hb hc hr
theorem LR.makeClo{f:FuncId}{xs:List Operand}{cs:List (List DV)}(hps:s.evs xs=some (cs.map fun ds=>PV.ep ds 0)) :
  Local P ctx ⟨dst,.makeFunc (.func f) #[] xs.toArray,ty,pos,after,gd⟩ s (s.putD dst (.clo f cs)):=
 zG (o:=⟨dst,.makeFunc (.func f) #[] xs.toArray,ty,pos,after,gd⟩) fun a w g hg=>by
  obtain⟨hl,hrd⟩:=Jw hps hg;refine⟨.func (.func f) #[] (xs.map a.eval).toArray,by simp[execOp,Instr.makeFunc],.clo f cs _ (by simpa using hl) fun i ds u h1 h2=>EpRd.of (hrd i (.ep ds 0) u (by rw[List.getElem?_map,h1];rfl) h2)⟩
theorem LR.callC{x:Operand}{xs:List Operand}{ats:Array TypeId}{f:FuncId}{cs:List (List DV)}{ps qs ps':List PV}{r:PV}(hc:PFun P f ps' r)(hx:s.ev x=some (.clo f cs))(he:∀ args w,(callFunc f args).run P w=.ok (.enter f args) w)
  (hps:s.evs xs=some qs) (hq:qs.map PV.nilD=ps) (hd:PV.isData.isDataL ps=true) (hp':ps'=ps++cs.map fun ds=>PV.ep ds 0) (hr:r.isData=true) :
  Local P ctx ⟨dst,.call ⟨.value x,xs.toArray,ats⟩,ty,pos,after,gd⟩ s (s.putD dst r):=
 uw (o:=⟨dst,.call ⟨.value x,xs.toArray,ats⟩,ty,pos,after,gd⟩) fun a w g hg=>by
  subst hq;obtain⟨hlen,hreal⟩:=VC hps (vP hd) hg;have h:=hg.ev hx
  generalize hv:a.eval x=v at h
  cases h with
  | clo _ _ us hl hh=>
   refine⟨f,_,(by simp[execOp,resolve,Deferred.ofValue,invoke,hv,he]:(execOp a.eval ⟨dst,.call ⟨.value x,xs.toArray,ats⟩,ty,pos,after,gd⟩).run P w=.ok (.enter f ((xs.map a.eval)++us).toArray) w),?_⟩;subst hp';refine(hc w (zk ctx g s.objs) _ (by simp[hl] at hlen ⊢;omega) (fun i p v hp hu=>?_)).mono fun e w' ⟨u,he,hb,hru⟩=>⟨u,he,g,?_⟩
   ·rw[List.getElem?_append] at hp hu;rw[List.length_map,hlen] at hp
    split at hp
    ·rename_i hlt
     rw[if_pos hlt] at hu;rw[List.getElem?_map] at hp
     cases hq:qs[i]? with
     | none=>simp[hq] at hp
     | some q=>simp[hq] at hp;subst hp;exact(hreal i q v hq hu).nilD
    ·rename_i hlt
     rw[if_neg hlt] at hu;rw[List.getElem?_map] at hp
     cases hq:cs[i - (xs.map a.eval).length]? with
     | none=>rw[hq] at hp;cases hp
     | some ds=>rw[hq] at hp;cases hp;exact(hh _ ds v hq hu).rd
   ·exact(hg.below hb).put dst ((hru.data hr g).keep ⟨Nat.le_refl _,fun _ _ _=>rfl⟩ (fun b hb' _=>Xb hg hb') (fun _ _=>rfl))
end
section
variable{ctx:Ctx}{s:PState}
def PState.frzR(s:PState)(id:Nat)(ds:List DV)(js:List Nat):PState:={ n:=s.n,sl:=(s.sets (.ep ds 0) js).sl,objs:=vB id s.objs }
inductive AllRef (s:PState) (id:Nat):List Nat->Prop
 | nil:AllRef s id []
 | cons {j:Nat} {js:List Nat} (h:s.at j=some (.ref id 0)) (r:AllRef s id js):AllRef s id (j::js)
theorem AllRef.get{id:Nat}{js:List Nat}(h:AllRef s id js):∀ j∈js,s.at j=some (.ref id 0):=by
 induction h with
 | nil=>intro j hj;cases hj
 | cons h _ ih=>
  intro j hj;rcases List.mem_cons.1 hj with rfl | hj
  ·exact h
  ·exact ih j hj
theorem Sub.frzR{id:Nat}{T:TypeId}{cs:List PV}(ds:List DV)(js:List Nat)(hK:∀ b,ctx.K b->ctx.S b)(hl:look s.objs id=some (.cells T cs))(hcs:cs=ds.map PV.d)(hjs:AllRef s id js):Sub ctx s (s.frzR id ds js):=by
 rintro a w ⟨g,h⟩;have hF:∀ b,zk ctx g s.objs b->zk ctx g (vB id s.objs) b:=fun b ⟨h1,h2⟩=>⟨h1,fun j o m hj hg=>by
  rw[yJ] at hj
  split at hj
  ·cases hj
  ·exact h2 j o m hj hg⟩
 have hst:yV w w (zk ctx g s.objs):=⟨Nat.le_refl _,fun _ _ _=>rfl⟩
 have hlk:∀ {j:Nat} {o:Ob},look (vB id s.objs) j=some o->j≠id/\look s.objs j=some o:=fun {j o} hj=>by
  rw[yJ] at hj
  split at hj
  ·cases hj
  ·rename_i hne;exact⟨hne,hj⟩
 refine⟨g,⟨h.defers,h.size,?_,?_,?_,?_,h.os,h.tape,h.output,h.grows,h.keep⟩⟩
 ·intro i p hp;have old:s.at i=some p->Rd w g (zk ctx g (vB id s.objs)) p (a.tmps.getD i undef):=fun hq=>(h.slots i p hq).keep hst (fun b hb _=>hF b hb) (fun _ _=>rfl)
  have hp':(s.sets (.ep ds 0) js).at i=some p:=Zn (by rw[VA];exact Zu (s:=s.frzR id ds js) hp) (xL (s:=s.frzR id ds js) hp);rcases VB _ js s i p hp' with⟨h1,rfl⟩ | h2
  ·have hr:=h.slots i _ (hjs.get i h1);have hob:=h.objs id _ hl;show Rd w g (zk ctx g (vB id s.objs)) (.ep ds 0) (a.tmps.getD i undef)
   generalize hv:a.tmps.getD i undef=v at hr
   cases hr with
   | ref _ _ blk n hgi=>
    cases hob with
    | cells _ _ blk' n' us hgi' hh hlen hr' _=>
     rw[hgi] at hgi'
     cases hgi'
     have hown:=h.own id _ blk n hl hgi;have hfree:zk ctx g (vB id s.objs) blk:=⟨hown.2.elim .inr fun hh=>.inl (hK _ hh),fun j o m hj hgj=>by
      obtain⟨hne,hj'⟩:=hlk hj;exact hne (h.inj j id o _ blk m n hj' hl hgj hgi)⟩
     subst hcs;rw[List.length_map] at hlen;refine .ep ds blk 0 0 (fun j=>us.getD j undef) hfree hown.1 (fun j hj=>?_) (fun j x hx=>?_)
     ·rw[zU hh,Nat.zero_add];have:j < us.length:=by omega
      simp[this]
     ·have hj:j < us.length:=by rw[<- hlen];exact(List.getElem?_eq_some_iff.1 hx).1
      have hu:us[j]?=some us[j]:=List.getElem?_eq_getElem hj;have e:us.getD j undef=us[j]:=by simp[hj]
      show DRd w _ x (us.getD j undef);rw[e];have:=hr' j (.d x) _ (by rw[List.getElem?_map,hx];rfl) hu
      cases this with
      | d hd=>exact hd.keep hst (fun b hb _=>hF b hb)
  ·exact old h2
 ·intro j o hj;obtain⟨_,hj'⟩:=hlk hj;exact(h.objs j o hj').keep hst (fun b hb _=>hF b hb) (fun _ _ _=>rfl) rfl (fun _ _=>rfl)
 ·intro i j oi oj b n m hi hj;exact h.inj i j oi oj b n m (hlk hi).2 (hlk hj).2
 ·intro j o b n hj;exact h.own j o b n (hlk hj).2
end
inductive LendL (s:PState):List PV->List PV->Prop
 | nil:LendL s [] []
 | data {q p:PV} {qs ps:List PV} (h:q.nilD=p) (hd:p.isData=true) (t:LendL s qs ps):LendL s (q::qs) (p::ps)
 | row {id n k:Nat} {e:TypeId} {l:List (List DV)} {qs ps:List PV} (hl:look s.objs id=some (.row e k l)) (hn:l.length=n) (t:LendL s qs ps):LendL s (.row id n::qs) (.d (.sl l)::ps)
 | nest {id id2 n k:Nat} {e T:TypeId} {l:List (List DV)} {qs ps:List PV} (h2:look s.objs id2=some (.cells T [.row id n])) (hl:look s.objs id=some (.row e k l)) (hn:l.length=n) (t:LendL s qs ps):LendL s (.pa id2 0 1::qs) (.d (.sl [[.sl l]])::ps)
section
variable{P:Program}{ctx:Ctx}{Q:PQ}{s:PState}
variable{dst:Option Tmp}{ty:TypeId}{pos:String}{after:Array Edge}{gd:Option (Nat×Bool)}
def LentS(ctx:Ctx)(g:zb)(s:PState)(b:Nat):Prop:=zk ctx g s.objs b\/∃ id o n,look s.objs id=some o/\g id=some (b,n)
theorem vsa{g:zb}{a:Act}{w:World}(hg:RelG ctx g s a w){id n k:Nat}{e:TypeId}{l:List (List DV)}{v:Value}(hlk:look s.objs id=some (.row e k l))(hn:l.length=n)(hq:Rd w g (zk ctx g s.objs) (.row id n) v):DRd w (LentS ctx g s) (.sl l) v:=by
 have hst:yV w w (zk ctx g s.objs):=⟨Nat.le_refl _,fun _ _ _=>rfl⟩
 have hob:=hg.objs id _ hlk
 cases hob with
 | rowNil _ _ hgn=>
  cases hq with
  | row _ _ blk cap hgi=>rw[hgn] at hgi;cases hgi
  | rowNil=>exact .nil none 0 (Nat.zero_le _) (fun _=>rfl)
 | row _ _ _ blk' cap' cur hgi hh hlc hcap hcs hkk hr'=>
  cases hq with
  | rowNil _ hgn=>rw[hgn] at hgi;cases hgi
  | row _ _ blk cap hgi'=>
   rw[hgi] at hgi'
   cases hgi'
   subst hn;have hown:=hg.own id _ blk' cap' hlk hgi;refine .sl l blk' 0 cap' k (fun i j=>cur.getD (i*k+j) undef) hlc hcap (.inr ⟨id,_,cap',hlk,hgi⟩) hown.1 hkk ?_ ?_
   ·intro i j hi hj;have hlt:i*k+j < cur.length:=by rw[hcs];exact vl (by omega) hj
    rw[zU hh];simp[hlt]
   ·intro i cs j x hi hx;obtain⟨u,hu,hd⟩:=hr' i cs j x hi hx;have e:cur.getD (i*k+j) undef=u:=by simp[List.getD,hu]
    show DRd w _ x (cur.getD (i*k+j) undef);rw[e];exact hd.keep hst (fun b hb _=>.inl hb)
theorem LendL.rd{g:zb}{a:Act}{w:World}(hg:RelG ctx g s a w){qs ps:List PV}(h:LendL s qs ps):∀ (vs:List Value),qs.length=vs.length->(∀ (i:Nat) (q:PV) (v:Value),qs[i]?=some q->vs[i]?=some v->Rd w g (zk ctx g s.objs) q v) ->
  ps.length=vs.length/\∀ (i:Nat) (p:PV) (v:Value),ps[i]?=some p->vs[i]?=some v->Rd w g0 (LentS ctx g s) p v:=by
 have hst:yV w w (zk ctx g s.objs):=⟨Nat.le_refl _,fun _ _ _=>rfl⟩
 induction h with
 | nil=>intro vs hl _;exact⟨hl,fun i p v hp=>by simp at hp⟩
 | @data q p qs ps h hd _ ih=>
  intro vs hl hr
  cases vs with
  | nil=>simp at hl
  | cons v vs=>
   obtain⟨h1,h2⟩:=ih vs (by simpa using hl) (fun i q u hq hu=>hr (i+1) q u (by simpa using hq) (by simpa using hu));refine⟨by simp[h1],fun i p' u hp hu=>?_⟩
   cases i with
   | zero=>
    simp at hp hu;subst hp;subst hu;subst h;exact(((hr 0 q v rfl rfl).nilD).data hd g0).keep hst (fun b hb _=>.inl hb) (fun _ _=>rfl)
   | succ i=>exact h2 i p' u (by simpa using hp) (by simpa using hu)
 | @row id n k e l qs ps hlk hn _ ih=>
  intro vs hl hr
  cases vs with
  | nil=>simp at hl
  | cons v vs=>
   obtain⟨h1,h2⟩:=ih vs (by simpa using hl) (fun i q u hq hu=>hr (i+1) q u (by simpa using hq) (by simpa using hu));refine⟨by simp[h1],fun i p' u hp hu=>?_⟩
   cases i with
   | succ i=>exact h2 i p' u (by simpa using hp) (by simpa using hu)
   | zero=>
    simp at hp hu;subst hp;subst hu;exact .d (vsa hg hlk hn (hr 0 (.row id n) v rfl rfl))
 | @nest id id2 n k e T l qs ps h2 hlk hn _ ih=>
  intro vs hl hr
  cases vs with
  | nil=>simp at hl
  | cons v vs=>
   obtain⟨h1,h2'⟩:=ih vs (by simpa using hl) (fun i q u hq hu=>hr (i+1) q u (by simpa using hq) (by simpa using hu));refine⟨by simp[h1],fun i p' u hp hu=>?_⟩
   cases i with
   | succ i=>exact h2' i p' u (by simpa using hp) (by simpa using hu)
   | zero=>
    simp at hp hu;subst hp;subst hu;have hq:=hr 0 (.pa id2 0 1) v rfl rfl
    cases hg.objs id2 _ h2 with
    | cells _ _ blk' n' us h' hh hlen hr' ho=>
     cases hq with
     | pa _ _ _ blk c hgi=>
      rw[h'] at hgi
      cases hgi
      match us,hlen with
      | [u],_=>
       have hd:=vsa hg hlk hn (hr' 0 (.row id n) u rfl rfl);refine .d (.sl [[.sl l]] blk' 0 1 1 (fun _ _=>u) (by simp) (by decide) (.inr ⟨id2,_,n',h2,h'⟩) (hg.own id2 _ blk' n' h2 h').1 ?_ ?_ ?_)
       ·intro i cs hi
        cases i with
        | zero=>simp at hi;subst hi;rfl
        | succ i=>simp at hi
       ·intro i j hi hj;obtain rfl:i=0:=by simpa using hi
        obtain rfl:j=0:=by omega
        rw[zU hh];rfl
       ·intro i cs j x hi hx
        cases i with
        | succ i=>simp at hi
        | zero=>
         simp at hi;subst hi
         cases j with
         | succ j=>simp at hx
         | zero=>simp at hx;subst hx;exact hd
def PV.flat : PV->Bool
 | .d (.v _)=>true
 | .agg cs=>cs.all fun | .d (.v _)=>true | _=>false
 | _=>false
theorem Rd.flat{w:World}{g g':zb}{S S':Nat->Prop}{p:PV}{u:Value}(hf:p.flat=true)(h:Rd w g S p u):Rd w g' S' p u:=by
 cases h with
 | d hd=>cases hd with
  | v _ h=>exact .d (.v _ h)
  | _=>simp[PV.flat] at hf
 | agg cs us hl h h1=>
  simp only[PV.flat,List.all_eq_true] at hf;refine .agg cs us hl (fun i p u hp hu=>?_) h1;have hp':=hf p (List.mem_of_getElem? hp);have hi:=h i p u hp hu
  cases hi with
  | d hd=>cases hd with
   | v _ h=>exact .d (.v _ h)
   | _=>simp at hp'
  | _=>simp at hp'
 | _=>simp[PV.flat] at hf
theorem LR.callLendAt{x:Operand}{xs:List Operand}{ats:Array TypeId}{f:FuncId}{ps qs:List PV}{r:PV}(hc:∀ a w g,RelG ctx g s a w->FunAt P f ps r w (LentS ctx g s))(hx:s.ev x=some (.d (.v (.func (.func f) #[] #[]))))(he:∀ args w,(callFunc f args).run P w=.ok (.enter f args) w)
  (hps:s.evs xs=some qs) (hq:LendL s qs ps) (hf:r.flat=true) :
  Local P ctx ⟨dst,.call ⟨.value x,xs.toArray,ats⟩,ty,pos,after,gd⟩ s (s.putD dst r):=
 uw (o:=⟨dst,.call ⟨.value x,xs.toArray,ats⟩,ty,pos,after,gd⟩) fun a w g hg=>by
  obtain⟨hlen,hreal⟩:=Jw hps hg;obtain⟨h1,h2⟩:=hq.rd hg _ hlen hreal;refine⟨f,_,wv (o:=⟨dst,.call ⟨.value x,xs.toArray,ats⟩,ty,pos,after,gd⟩) rfl (Vz hg hx) he w,?_⟩;rw[List.map_toArray];exact(hc a w g hg _ h1 h2).mono fun e w' ⟨u,he,hb,hru⟩=>⟨u,he,g,(hg.below hb).put dst (hru.flat hf)⟩
theorem LR.callLend{x:Operand}{xs:List Operand}{ats:Array TypeId}{f:FuncId}{ps qs:List PV}{z:Value}(hc:PFun P f ps (.d (.v z)))(hx:s.ev x=some (.d (.v (.func (.func f) #[] #[]))))(he:∀ args w,(callFunc f args).run P w=.ok (.enter f args) w)
  (hps:s.evs xs=some qs) (hq:LendL s qs ps) :
  Local P ctx ⟨dst,.call ⟨.value x,xs.toArray,ats⟩,ty,pos,after,gd⟩ s (s.putD dst (.d (.v z))):=LR.callLendAt (fun _ w g _=>hc w (LentS ctx g s)) hx he hps hq rfl
end
end Go.Ep
namespace Go.Proofs
open Go.Ep Tryz
set_option maxHeartbeats 1000000
set_option maxRecDepth 100000
set_option linter.unusedVariables false
set_option linter.unusedSimpArgs false
theorem xS{ctx_1 nl2 m3 nl4 m5 r0}(h:(yY ctx_1 nl2 m3 nl4 m5).wp (·=r0)):PObj prog 37 [.ref 100 0] [(100,.cells 73 [zZ PT.e ctx_1,.mp 101,.mp 102]),(101,.mapH nl2 [.u16,.u64] true (zO DT.k EV.e m3)),(102,.mapH nl4 [.u16,.u64] true (zO DT.k EV.e m5))] [100,101,102] (zZ PT.e r0) (fun _:Unit=>[(100,.cells 73 [zZ PT.e ctx_1,.mp 101,.mp 102]),(101,.mapH nl2 [.u16,.u64] true (zO DT.k EV.e m3)),(102,.mapH nl4 [.u16,.u64] true (zO DT.k EV.e m5))]):=by
 refine YV [0] func37 ntmps37 ?_;intro ctx hK pv;refine zC ?_;refine ws (aR 62 2 rfl) ?_;refine zm ?_;refine PWc.condF rfl ?_;refine zm ?_;obtain⟨v6,hy7,h⟩:=zP h;refine ws (LR.rowN (vL hy7) rfl call28 rfl rfl rfl rfl)<|yL [0,3,4,5,6,7,8,9] [9,100,101,102,1100,1101,1102] ?_;refine zC ?_;refine wX ?_;cases h;exact EndsO.mk () (.inr rfl) (Sub.trans (Sub.frz [2,9] hK rfl (by simp) (AllRow.get (.cons rfl<|.cons rfl<|.nil)))<|yYa [2] [100,101,102,1100,1101,1102]) (.cons (.tmp rfl)<|.nil) rfl rfl
theorem jq{nl1 m2 nl3 m4 r0}(h:(uM nl1 m2 nl3 m4).wp (·=r0)):PObj prog 59 [.row 100 2] [(100,.cells 71 [.mp 101,.mp 102]),(101,.mapH nl1 [.u16,.u64] true (zO DT.k EV.e m2)),(102,.mapH nl3 [.u16,.u64] true (zO DT.k EV.e m4))] [100,101,102] (.row 3 (r0.length)) (fun _:Unit=>[(100,.cells 71 [.mp 101,.mp 102]),(101,.mapH nl1 [.u16,.u64] true (zO DT.k EV.e m2)),(102,.mapH nl3 [.u16,.u64] true (zO DT.k EV.e m4)),(3,.row 57 7 (List.map EV.e r0))]):=by
 refine YV [0] func59 ntmps59 ?_;intro ctx hK pv;refine zC ?_;refine ws (aR 57 7 rfl) ?_;refine zL ?_;refine ws (aR 57 7 rfl) ?_;refine zl ?_;refine yN (zK h) 29 [] [100,101,102,1100,1101,1102] (fun out5=>([(3,.row 3 (out5.length))],[(3,.row 57 7 (List.map EV.e out5))])) (fun h=>?_) ?_
 ·refine g5 ?_;refine PWc.loopU<|PWL.step ?_;refine zF ?_;refine PWc.condT rfl ?_;refine zC ?_;refine wJ (zK h) (fun(out8:List EV) (⟨bs6,ck7⟩:List Nat×Nat)=>⟨29,[(3,.row 3 (out8.length)),(  8,.row 100 2),(  9,zJ .i64 2),(  10,zJ .i64 0)],[(3,.row 57 7 (List.map EV.e out8)),(  100,.cells 71 [.mp 101,.mp 102]),(101,.mapN nl1 [.u16,.u64] true (zO DT.k EV.e m2) bs6 ck7),(  102,.mapH nl3 [.u16,.u64] true (zO DT.k EV.e m4)),(  1100,.pin 100 (pv 100)),(  1101,.pin 101 (pv 101)),(  1102,.pin 102 (pv 102))]⟩) (fun h=>?_) ?_
  ·refine zL ?_;refine ws (LR.idxCells (n:=0) underlying129 sizeOf71 rfl rfl rfl (by decide)) ?_;refine zV ?_;refine PWl.openH (id:=101) rfl (fun bs9 ck9=>?_);refine zL ?_;refine zc h 29 [8,9,10,15] [100,101,102,1100,1101,1102] (fun⟨seen32,out33⟩=>([(3,.row 3 (out33.length))],[(3,.row 57 7 (List.map EV.e out33)),(15,.iterO 101 bs9 ck9 seen32)])) ?_;rintro N ⟨seen32,out33⟩ _ h;refine zC ?_;obtain⟨hy43,h⟩:=zq h;replace h:=w5a h;refine PWl.nextN rfl rfl rfl (w8a hy43) rfl (fun hy35=>?_) (fun j34 hy36 hy37=>?_)
   ·replace h:=h.1 (w6a hy35);refine zL ?_;refine PWc.condF rfl<|wZ ?_;exact⟨out33,(bs9,ck9),h,sP⟩
   ·replace h:=h.2 j34 (w7a hy36) hy37;refine zL ?_;refine PWc.condT rfl ?_;refine zH ?_;obtain⟨kv38,hy39,h⟩:=yF h;refine ws (LR.entryN rfl rfl rfl (Yt hy39) rfl rfl) ?_;refine zm ?_;obtain⟨v40,hy41,h⟩:=zP h;refine xN (uj hy41) call44<|ws (LR.buildSliceD [.tmp 22] yh rfl rfl (.cons rfl rfl rfl<|.nil) (by decide) (by decide)) ?_;obtain⟨hy42,h⟩:=zq h;refine ws (LR.appT (enc:=EV.e) (L:=out33) (R:=[v40]) [3,20] yh underlying28 rfl rfl rfl (Src.slT (enc:=EV.e) (R:=[v40]) rfl (fun _=>rfl)) (fun _=>rfl) hy42 rfl rfl) ?_;refine zC ?_;exact⟨((seen32++[j34]),(out33++[v40])),(),h,sP⟩
  ·rintro out8 ⟨bs6,ck7⟩ h;refine zH ?_;refine PWL.step ?_;refine zF ?_;refine PWc.condT rfl ?_;refine zC ?_;refine wJ (zK h) (fun(out46:List EV) (⟨bs44,ck45⟩:List Nat×Nat)=>⟨29,[(3,.row 3 (out46.length)),(  8,.row 100 2),(  9,zJ .i64 2),(  10,zJ .i64 1)],[(3,.row 57 7 (List.map EV.e out46)),(  100,.cells 71 [.mp 101,.mp 102]),(  101,.mapN nl1 [.u16,.u64] true (zO DT.k EV.e m2) bs6 ck7),(102,.mapN nl3 [.u16,.u64] true (zO DT.k EV.e m4) bs44 ck45),(  1100,.pin 100 (pv 100)),(  1101,.pin 101 (pv 101)),(  1102,.pin 102 (pv 102))]⟩) (fun h=>?_) ?_
   ·refine zL ?_;refine ws (LR.idxCells (n:=1) underlying129 sizeOf71 rfl rfl rfl (by decide)) ?_;refine zV ?_;refine PWl.openH (id:=102) rfl (fun bs47 ck47=>?_);refine zL ?_;refine zc h 29 [8,9,10,15] [100,101,102,1100,1101,1102] (fun⟨seen70,out71⟩=>([(3,.row 3 (out71.length))],[(3,.row 57 7 (List.map EV.e out71)),(15,.iterO 102 bs47 ck47 seen70)])) ?_;rintro N ⟨seen70,out71⟩ _ h;refine zC ?_;obtain⟨hy81,h⟩:=zq h;replace h:=w5a h;refine PWl.nextN rfl rfl rfl (w8a hy81) rfl (fun hy73=>?_) (fun j72 hy74 hy75=>?_)
    ·replace h:=h.1 (w6a hy73);refine zL ?_;refine PWc.condF rfl<|wZ ?_;exact⟨out71,(bs47,ck47),h,sP⟩
    ·replace h:=h.2 j72 (w7a hy74) hy75;refine zL ?_;refine PWc.condT rfl ?_;refine zH ?_;obtain⟨kv76,hy77,h⟩:=yF h;refine ws (LR.entryN rfl rfl rfl (Yt hy77) rfl rfl) ?_;refine zm ?_;obtain⟨v78,hy79,h⟩:=zP h;refine xN (uj hy79) call44<|ws (LR.buildSliceD [.tmp 22] yh rfl rfl (.cons rfl rfl rfl<|.nil) (by decide) (by decide)) ?_;obtain⟨hy80,h⟩:=zq h;refine ws (LR.appT (enc:=EV.e) (L:=out71) (R:=[v78]) [3,20] yh underlying28 rfl rfl rfl (Src.slT (enc:=EV.e) (R:=[v78]) rfl (fun _=>rfl)) (fun _=>rfl) hy80 rfl rfl) ?_;refine zC ?_;exact⟨((seen70++[j72]),(out71++[v78])),(),h,sP⟩
   ·rintro out46 ⟨bs44,ck45⟩ h;refine zH ?_;refine PWL.step ?_;refine zF ?_;refine PWc.condF rfl<|wZ ?_;exact⟨out46,(),h,Sub.trans (Sub.nToH (id:=101) rfl)<|Sub.trans (Sub.nToH (id:=102) rfl)<|sP⟩
 ·rintro out5 _ h;refine zL ?_;obtain⟨hy83,h⟩:=zq h;refine PWl.sortFnR (encD:=EV.e) (enc:=RawTEvent.v) (lt:=Zq) (R:=RawTEvent.R) (l:=out5) UM RawTEvent.raw vfa (fun _=>rfl) (fun _=>rfl) rfl call105 rfl rfl rfl (by simp) hy83 rfl (fun s82 hy84 hy85=>?_);replace h:=iSrt h s82 hy84 hy85;have hy84l:=hy84.length_eq;refine zV ?_;refine wX ?_;cases h;exact EndsO.mk () (.inr rfl) (sO (tl:=[(2,_)]) (to:=[(100,_),(101,_),(102,_),(3,_),(1100,_),(1101,_),(1102,_)]) rfl (.cons rfl VQ<|.nil) (.c4 rfl rfl rfl rfl rfl rfl rfl rfl<|.c2 rfl rfl rfl rfl<|.cons rfl rfl<|.nil)) (.cons (.tmp rfl)<|.nil) rfl rfl
theorem xp{ctx_1 nl2 m3 nl4 m5 r0}(h:(ym ctx_1 nl2 m3 nl4 m5).wp (·=r0)):PObj prog 40 [.ref 100 0] [(100,.cells 73 [zZ PT.e ctx_1,.mp 101,.mp 102]),(101,.mapH nl2 [.u16,.u64] true (zO DT.k EV.e m3)),(102,.mapH nl4 [.u16,.u64] true (zO DT.k EV.e m5))] [100,101,102] (.row 14 (r0.length)) (fun _:Unit=>[(100,.cells 73 [zZ PT.e ctx_1,.mp 101,.mp 102]),(101,.mapH nl2 [.u16,.u64] true (zO DT.k EV.e m3)),(102,.mapH nl4 [.u16,.u64] true (zO DT.k EV.e m5)),(14,.row 57 7 (List.map EV.e r0))]):=by
 refine YV [0] func40 ntmps40 ?_;intro ctx hK pv;refine zC ?_;refine ws (aR 57 7 rfl) ?_;refine zm ?_;refine PWc.condF rfl ?_;refine zC ?_;refine uU [0] [100,101,102,1100,1101,1102] ?_;refine PWc.regionE [zt [5] [100],zt [6] [100],zt [7] [100],⟨[8],[],[100],[],[],[101],[],[]⟩,zt [9] [100],zt [10] [100],zt [11] [100],⟨[12],[],[100],[],[],[102],[],[]⟩,⟨[13],[13],[],[13],[],[13],[101,102],[]⟩,⟨[14],[14],[13,101,102],[14],[],[14],[],[]⟩,zt [2] [14]] (by kernel_rfl) (by kernel_rfl) rfl ?_;refine hs8A6 ?_;refine PQe.stepN (fun _ U W hf=>LR.buildSliceP [.tmp 8,.tmp 12] qr rfl rfl (xY U rfl rfl) rfl (by decide) hf) rfl (.inl rfl) rfl ?_;obtain⟨y6,hy7,h⟩:=zP h;refine qx [(100,13),(101,101),(102,102),(3,14)] [] [100,101,102,3] [3] [100,101,102] (jq hy7) call59 ?_;refine h5 ?_;refine PQe.nil<|wX ?_;cases h;exact EndsO.mk () (.inr rfl) (sO (tl:=[(2,_)]) (to:=[(100,_),(101,_),(102,_),(14,_),(1100,_),(1101,_),(1102,_)]) rfl (.cons rfl VQ<|.nil) (.c4 rfl rfl rfl rfl rfl rfl rfl rfl<|.c2 rfl rfl rfl rfl<|.cons rfl rfl<|.nil)) (.cons (.tmp rfl)<|.nil) rfl rfl
theorem wj{e1 cv2 r0}(h:(xZ e1 cv2).wp (·=r0)):PFun prog 41 [.agg (List.map .d (EV.e e1)),.ep ((eL PT.e) cv2) 0] (.d (.v (.bool r0))):=by
 refine yB [0,1] func41 ntmps41 ?_;intro ctx hK;refine xl ?_;obtain⟨v3,hy4,h⟩:=zP h;refine xN (YI hy4) call42 ?_;refine zC ?_;refine wX ?_;cases h;exact xT
theorem yM{s1 cv2 r0}(h:(zg s1 cv2).wp (·=r0)):PFun prog 89 [zZ EV.e s1,.clo 41 [(eL PT.e) cv2]] (zJ .i64 r0):=by
 refine yB [0,1] func89 ntmps89 ?_;intro ctx hK;refine vQ ?_;refine vJ (zK h) 19 [] [] (fun _=>([],[])) (fun h=>?_) ?_
 ·refine g5 ?_;refine zc h 19 [0,1,7] [] (fun v16=>([(8,zJ .i64 v16)],[])) ?_;rintro N v16 _ h;refine zF ?_;refine zE h (fun h=>?_) fun h=>?_
  ·refine vn ?_;obtain⟨x18,hy19,h⟩:=yF h;refine yZ hy19 ?_;refine g5 ?_;obtain⟨v20,hy21,h⟩:=zP h;refine ws (LR.callC (wj hy21) rfl call41 rfl rfl rfl rfl rfl) ?_;refine g5 ?_;refine zE h (fun h=>?_) fun h=>?_
   ·refine zF ?_;refine wX ?_;cases h;exact xT
   ·refine zF ?_;exact⟨(IntKind.i64.wrap (v16+1)),(),h,sP⟩
  ·refine wZ ?_;exact⟨(),(),h,sP⟩
 ·rintro _ _ h;refine zH ?_;refine wX ?_;cases h;exact xT
theorem yI{cv1 row2 r0}(h:(zM cv1 row2).wp (·=r0)):PObj prog 39 [.row 100 (row2.length),.clo 41 [(eL PT.e) cv1]] [(100,.row 57 7 (List.map EV.e row2))] [] (.row 100 (r0.length)) (fun _:Unit=>[(100,.row 57 7 (List.map EV.e r0))]):=by
 refine YV [0,1] func39 ntmps39 ?_;intro ctx hK pv;refine zC ?_;refine ws (aR 57 7 rfl) ?_;refine zF ?_;obtain⟨v3,hy4,h⟩:=zP h;refine ws (LR.callLend (yM hy4) rfl call89 rfl (.row rfl (by simp)<|.data rfl rfl<|.nil)) ?_;refine zl ?_;refine zE h (fun h=>?_) fun h=>?_
 ·refine zL ?_;refine yL [0,1,5,8,9,10,11,12,13] [100] ?_;refine zC ?_;refine wX ?_;cases h;exact EndsO.mk () (.inr rfl) (sO (tl:=[(4,_)]) (to:=[(100,_)]) rfl (.cons rfl VQ<|.nil) (.cons rfl rfl<|.nil)) (.cons (.tmp rfl)<|.nil) rfl rfl
 ·refine zl ?_;refine yN (zK h) 42 [] [] (fun⟨i6,v7⟩=>([(0,.row 100 (v7.length)),(5,zJ .i64 i6)],[(100,.row 57 7 (List.map EV.e v7))])) (fun h=>?_) ?_
  ·refine g5 ?_;refine zc h 42 [1] [] (fun⟨i31,j32,v33⟩=>([(0,.row 100 (v33.length)),(5,zJ .i64 i31),(6,zJ .i64 j32)],[(100,.row 57 7 (List.map EV.e v33))])) ?_;rintro N ⟨i31,j32,v33⟩ _ h;refine zl ?_;refine zE h (fun h=>?_) fun h=>?_
   ·refine zC ?_;refine yN (zK h) 42 [1,6] [] (fun⟨i35,v36⟩=>([(0,.row 100 (v36.length)),(5,zJ .i64 i35)],[(100,.row 57 7 (List.map EV.e v36))])) (fun h=>?_) ?_
    ·refine zF ?_;obtain⟨x37,hy38,h⟩:=yF h;refine ws (LR.idxRowT (L:=v33) (y:=x37) underlying28 sizeOf57 rfl rfl rfl hy38)<|ws (LR.loadRpT (enc:=EV.e) (L:=v33) (y:=x37) isAgg57 sizeOf57 rfl rfl hy38.2) ?_;refine zm ?_;obtain⟨v39,hy40,h⟩:=zP h;refine ws (LR.callC (wj hy40) rfl call41 rfl rfl rfl rfl rfl) ?_;refine zC ?_;refine zE h (fun h=>?_) fun h=>?_
     ·refine zF ?_;obtain⟨x42,hy43,h⟩:=yF h;refine ws (LR.idxRowT (L:=v33) (y:=x42) underlying28 sizeOf57 rfl rfl rfl hy43)<|yL [0,1,5,6,32,33] [100] ?_;refine ws (LR.storeRpT (enc:=EV.e) (L:=v33) (a:=x42) (b:=x37) sizeOf57 rfl rfl rfl rfl rfl hy43.2 rfl rfl) ?_;refine zV ?_;exact⟨((IntKind.i64.wrap (i31+1)),(List.set v33 (Int.toNat i31) x37)),(),h,zEa⟩
     ·refine g5 ?_;exact⟨(i31,v33),(),h,sP⟩
    ·rintro⟨i35,v36⟩ _ h;refine zF ?_;exact⟨(i35,(IntKind.i64.wrap (j32+1)),v36),(),h,sP⟩
   ·refine wZ ?_;exact⟨(i31,v33),(),h,sP⟩
  ·rintro⟨i6,v7⟩ _ h;refine zH ?_;obtain⟨hy44,h⟩:=zq h;refine ws (LR.pieceRowT (enc:=EV.e) (L:=v7) underlying28 sizeOf57 rfl rfl rfl rfl hy44) ?_;obtain⟨hy45,h⟩:=zq h;refine ws (LR.clearPcT (enc:=EV.e) (L:=v7) (z:=(⟨(⟨0,0⟩:DT),0,0,0,(⟨#[]⟩:ByteArray),([]:List DT)⟩:EV)) underlying28 rfl rfl zeroValue57 rfl rfl rfl rfl hy45 rfl) ?_;refine zF ?_;obtain⟨hy46,h⟩:=zq h;refine ws (LR.cutRowT (enc:=EV.e) (L:=(List.take (Int.toNat i6) v7++List.replicate (v7.length - Int.toNat i6) (⟨(⟨0,0⟩:DT),0,0,0,(⟨#[]⟩:ByteArray),([]:List DT)⟩:EV)++List.drop ((Int.toNat i6)+(v7.length - Int.toNat i6)) v7)) [0,36,38,39] underlying28 sizeOf57 rfl uc rfl rfl hy46 rfl) ?_;refine zC ?_;refine wX ?_;cases h;exact EndsO.mk () (.inr rfl) (sO (tl:=[(4,_)]) (to:=[(100,_)]) rfl (.cons rfl VQ<|.nil) (.cons rfl rfl<|.nil)) (.cons (.tmp rfl)<|.nil) rfl rfl
theorem Ug{from1 ctx_2 nl3 m4 nl5 m6 r0}(h:(xd from1 ctx_2 nl3 m4 nl5 m6).wp (·=r0)):PObj prog 10 [.ref 100 0,zZ PT.e from1] [(100,.cells 73 [zZ PT.e ctx_2,.mp 101,.mp 102]),(101,.mapH nl3 [.u16,.u64] true (zO DT.k EV.e m4)),(102,.mapH nl5 [.u16,.u64] true (zO DT.k EV.e m6))] [100,101,102] (.agg (List.map .d (DL.e r0))) (fun _:Unit=>[(100,.cells 73 [zZ PT.e ctx_2,.mp 101,.mp 102]),(101,.mapH nl3 [.u16,.u64] true (zO DT.k EV.e m4)),(102,.mapH nl5 [.u16,.u64] true (zO DT.k EV.e m6))]):=by
 refine YV [0,1] func10 ntmps10 ?_;intro ctx hK pv;refine zl ?_;obtain⟨y7,hy8,h⟩:=zP h;refine coA6 [(100,100),(101,101),(102,102)] [] [100,101,102] [] [100,101,102] (xS hy8) call37 ?_;refine yL [0,3,4,7] [3,4,100,101,102,1100,1101,1102] ?_;refine zV ?_;obtain⟨v9,hy10,h⟩:=zP h;refine ws (LR.rowN (jm hy10) rfl call38 rfl rfl rfl rfl) ?_;refine zC ?_;obtain⟨y11,hy12,h⟩:=zP h;refine coA6 [(100,100),(101,101),(102,102),(14,13)] [] [100,101,102,14] [14] [100,101,102] (xp hy12) call40 ?_;refine yL [3,4,10,11,13] [3,4,10,13,100,101,102,1100,1101,1102] ?_;refine PWl.sub (Sub.frzR (id:=3) ((eL PT.e) from1) [3] hK rfl rfl (.cons rfl<|.nil))<|ws (LR.makeClo (cs:=[(eL PT.e) from1]) rfl)<|yL [4,10,11,13,14] [4,10,13,100,101,102,1100,1101,1102] ?_;obtain⟨y13,hy14,h⟩:=zP h;refine xO [(100,13)] [13] [100] (yI hy14) call39<|yL [4,10,11,15] [4,10,13,100,101,102,1100,1101,1102] ?_;refine PWl.frz [10] hK (.cons rfl<|.nil) rfl (by simp) ?_;refine PWl.frz [15] hK (.cons rfl<|.nil) rfl (by simp) ?_;refine ws (LR.build (ns:=[_,_,_]) jb rfl rfl rfl) ?_;refine zC ?_;refine wX ?_;cases h;exact EndsO.mkX (ex:=[(4,_)]) () (.inr rfl) (yYa [4] [100,101,102,1100,1101,1102,4]) (.cons (.agg isAgg38 sizeOf38 rfl rfl rfl)<|.nil) rfl rfl
theorem Vl{c1 ctx_2 nl3 m4 nl5 m6 r0}(h:(yy c1 ctx_2 nl3 m4 nl5 m6).wp (·=r0)):PObj prog 13 [.ref 100 0,zZ PT.e c1] [(100,.cells 73 [zZ PT.e ctx_2,.mp 101,.mp 102]),(101,.mapH nl3 [.u16,.u64] true (zO DT.k EV.e m4)),(102,.mapH nl5 [.u16,.u64] true (zO DT.k EV.e m6))] [100,101,102] (.tup []) (fun _:Unit=>[(100,.cells 73 [zZ PT.e r0,.mp 101,.mp 102]),(101,.mapH nl3 [.u16,.u64] true (zO DT.k EV.e m4)),(102,.mapH nl5 [.u16,.u64] true (zO DT.k EV.e m6))]):=by
 refine YV [0,1] func13 ntmps13 ?_;intro ctx hK pv;refine zF ?_;refine PWc.condT rfl ?_;refine zm ?_;obtain⟨v7,hy8,h⟩:=zP h;refine ws (LR.rowN (jo hy8) rfl call45 rfl rfl rfl rfl) ?_;refine zC ?_;refine PWl.frz [12] hK (.cons rfl<|.nil) rfl (by simp) ?_;refine zC ?_;cases h;exact Zp [] [100,101,102,1100,1101,1102]
theorem Yv{d1 ctx_2 nl3 m4 nl5 m6 r0}(h:(yj d1 ctx_2 nl3 m4 nl5 m6).wp (·=r0)):PObj prog 14 [.ref 100 0,.agg (List.map .d (DL.e d1))] [(100,.cells 73 [zZ PT.e ctx_2,.mp 101,.mp 102]),(101,.mapH nl3 [.u16,.u64] true (zO DT.k EV.e m4)),(102,.mapH nl5 [.u16,.u64] true (zO DT.k EV.e m6))] [100] (zJ .i64 r0.1) (fun _:Unit=>[(100,.cells 73 [zZ PT.e r0.2.1,.mp 101,.mp 102]),(101,.mapH r0.2.2.1 [.u16,.u64] true (zO DT.k EV.e r0.2.2.2.1)),(102,.mapH r0.2.2.2.2.1 [.u16,.u64] true (zO DT.k EV.e r0.2.2.2.2.2))]):=by
 refine YV [0,1] func14 ntmps14 ?_;intro ctx hK pv;refine vn ?_;obtain⟨v7,hy8,h⟩:=zP h;refine wt (cN (Vk hy8) rfl call46 rfl rfl rfl rfl) ?_;refine zH ?_;refine zE h (fun h=>?_) fun h=>?_
 ·refine zH ?_;refine wX ?_;cases h;exact Zp [4] [100,101,102,1100]
 ·refine g5 ?_;refine uU [0,3] [3,100,101,102,1100] ?_;refine PWc.regionE [zt [16] [3],⟨[17],[],[3],[],[],[],[],[]⟩,zt [18] [100],⟨[19],[],[100,101,102],[],[],[],[],[]⟩,{ws:=[20]},{ws:=[21]},{ws:=[15]}] (by kernel_rfl) (by kernel_rfl) rfl ?_;refine yU ?_;obtain⟨y10,hy11,h⟩:=zP h;refine qx [(100,100),(101,101),(102,102)] [] [100,101,102] [] [100,101,102] (xS hy11) call37 ?_;obtain⟨v12,hy13,h⟩:=zP h;refine kp (fun _ U W=>cN (Yh hy13) U call47 (xY (fun a b=>U a b) rfl rfl) rfl rfl rfl) ?_;refine zy ?_;refine PQe.nil ?_;refine zE h (fun h=>?_) fun h=>?_
  ·refine g5 ?_;refine uU [] [100,101,102,1100] ?_;refine zL ?_;refine wX ?_;cases h;exact Zp [4] [100,101,102,1100]
  ·refine zL ?_;refine uU [0,3] [3,100,101,102,1100] ?_;refine zV ?_;refine yN (zK h) 37 [0,3] [3,1100] (fun⟨v15,nl16,v17,nl18,v19⟩=>([],[(100,.cells 73 [zZ PT.e v15,.mp 101,.mp 102]),(101,.mapH nl18 [.u16,.u64] true (zO DT.k EV.e v19)),(102,.mapH nl16 [.u16,.u64] true (zO DT.k EV.e v17))])) (fun h=>?_) ?_
   ·refine g5 ?_;refine zc h 37 [0,3,23,24] [3,1100] (fun⟨v36,v37,nl38,v39,nl40,v41⟩=>([(25,zJ .i64 v36)],[(100,.cells 73 [zZ PT.e v37,.mp 101,.mp 102]),(101,.mapH nl40 [.u16,.u64] true (zO DT.k EV.e v41)),(102,.mapH nl38 [.u16,.u64] true (zO DT.k EV.e v39))])) ?_;rintro N ⟨v36,v37,nl38,v39,nl40,v41⟩ _ h;refine zF ?_;refine zE h (fun h=>?_) fun h=>?_
    ·refine zF ?_;obtain⟨x43,hy44,h⟩:=yF h;refine yZ hy44 ?_;refine zm ?_;obtain⟨y45,hy46,h⟩:=zP h;refine xO [(100,100),(101,101),(102,102)] [] [100,101,102] (Zj hy46) call22 ?_;refine g5 ?_;refine uU [0,3,23,24,25] [3,100,101,102,1100] ?_;refine zH ?_;exact⟨((IntKind.i64.wrap (v36+1)),y45.2.1,y45.2.2.2.2.1,y45.2.2.2.2.2,y45.2.2.1,y45.2.2.2.1),(),h,sP⟩
    ·refine wZ ?_;exact⟨(v37,nl38,v39,nl40,v41),(),h,sP⟩
   ·rintro⟨v15,nl16,v17,nl18,v19⟩ _ h;refine zF ?_;obtain⟨y47,hy48,h⟩:=zP h;refine coA6 [(100,100),(101,101),(102,102)] [] [100,101,102] [100] [101,102] (Vl hy48) call13 ?_;refine zC ?_;refine uU [] [100,101,102,1100] ?_;refine zL ?_;refine wX ?_;cases h;exact Zp [4] [100,101,102,1100]
theorem XS{nl1 m2 r0}(h:(uN nl1 m2).wp (·=r0)):PObj prog 59 [.row 100 1] [(100,.cells 71 [.mp 101]),(101,.mapH nl1 [.u16,.u64] true (zO DT.k EV.e m2))] [100,101] (.row 3 (r0.length)) (fun _:Unit=>[(100,.cells 71 [.mp 101]),(101,.mapH nl1 [.u16,.u64] true (zO DT.k EV.e m2)),(3,.row 57 7 (List.map EV.e r0))]):=by
 refine YV [0] func59 ntmps59 ?_;intro ctx hK pv;refine zC ?_;refine ws (aR 57 7 rfl) ?_;refine zL ?_;refine ws (aR 57 7 rfl) ?_;refine zl ?_;refine yN (zK h) 29 [] [100,101,1100,1101] (fun out3=>([(3,.row 3 (out3.length))],[(3,.row 57 7 (List.map EV.e out3))])) (fun h=>?_) ?_
 ·refine g5 ?_;refine PWc.loopU<|PWL.step ?_;refine zF ?_;refine PWc.condT rfl ?_;refine zC ?_;refine wJ (zK h) (fun(out6:List EV) (⟨bs4,ck5⟩:List Nat×Nat)=>⟨29,[(3,.row 3 (out6.length)),(  8,.row 100 1),(  9,zJ .i64 1),(  10,zJ .i64 0)],[(3,.row 57 7 (List.map EV.e out6)),(  100,.cells 71 [.mp 101]),(101,.mapN nl1 [.u16,.u64] true (zO DT.k EV.e m2) bs4 ck5),(  1100,.pin 100 (pv 100)),(  1101,.pin 101 (pv 101))]⟩) (fun h=>?_) ?_
  ·refine zL ?_;refine ws (LR.idxCells (n:=0) underlying129 sizeOf71 rfl rfl rfl (by decide)) ?_;refine zV ?_;refine PWl.openH (id:=101) rfl (fun bs7 ck7=>?_);refine zL ?_;refine zc h 29 [8,9,10,15] [100,101,1100,1101] (fun⟨seen30,out31⟩=>([(3,.row 3 (out31.length))],[(3,.row 57 7 (List.map EV.e out31)),(15,.iterO 101 bs7 ck7 seen30)])) ?_;rintro N ⟨seen30,out31⟩ _ h;refine zC ?_;obtain⟨hy41,h⟩:=zq h;replace h:=w5a h;refine PWl.nextN rfl rfl rfl (w8a hy41) rfl (fun hy33=>?_) (fun j32 hy34 hy35=>?_)
   ·replace h:=h.1 (w6a hy33);refine zL ?_;refine PWc.condF rfl<|wZ ?_;exact⟨out31,(bs7,ck7),h,sP⟩
   ·replace h:=h.2 j32 (w7a hy34) hy35;refine zL ?_;refine PWc.condT rfl ?_;refine zH ?_;obtain⟨kv36,hy37,h⟩:=yF h;refine ws (LR.entryN rfl rfl rfl (Yt hy37) rfl rfl) ?_;refine zm ?_;obtain⟨v38,hy39,h⟩:=zP h;refine xN (uj hy39) call44<|ws (LR.buildSliceD [.tmp 22] yh rfl rfl (.cons rfl rfl rfl<|.nil) (by decide) (by decide)) ?_;obtain⟨hy40,h⟩:=zq h;refine ws (LR.appT (enc:=EV.e) (L:=out31) (R:=[v38]) [3,20] yh underlying28 rfl rfl rfl (Src.slT (enc:=EV.e) (R:=[v38]) rfl (fun _=>rfl)) (fun _=>rfl) hy40 rfl rfl) ?_;refine zC ?_;exact⟨((seen30++[j32]),(out31++[v38])),(),h,sP⟩
  ·rintro out6 ⟨bs4,ck5⟩ h;refine zH ?_;refine PWL.step ?_;refine zF ?_;refine PWc.condF rfl<|wZ ?_;exact⟨out6,(),h,Sub.trans (Sub.nToH (id:=101) rfl)<|sP⟩
 ·rintro out3 _ h;refine zL ?_;obtain⟨hy43,h⟩:=zq h;refine PWl.sortFnR (encD:=EV.e) (enc:=RawTEvent.v) (lt:=Zq) (R:=RawTEvent.R) (l:=out3) UM RawTEvent.raw vfa (fun _=>rfl) (fun _=>rfl) rfl call105 rfl rfl rfl (by simp) hy43 rfl (fun s42 hy44 hy45=>?_);replace h:=iSrt h s42 hy44 hy45;have hy44l:=hy44.length_eq;refine zV ?_;refine wX ?_;cases h;exact EndsO.mk () (.inr rfl) (sO (tl:=[(2,_)]) (to:=[(100,_),(101,_),(3,_),(1100,_),(1101,_)]) rfl (.cons rfl VQ<|.nil) (.c4 rfl rfl rfl rfl rfl rfl rfl rfl<|.cons rfl rfl<|.nil)) (.cons (.tmp rfl)<|.nil) rfl rfl
end Go.Proofs
namespace Go.Ep
def EV.eN(N:Nat->Prop)(x:EV):List DV:=[.v (.int .u16 x.dot.dev),.v (.int .u64 x.dot.n),.v (.int .u8 x.kind),.v (.int .u64 x.cid),.v (.int .u8 x.field),.v (.string x.text),.nw N (.sl (List.map DT.e x.kills))]
def EV.eO(N:Nat->Prop)(x:EV):List DV:=[.v (.int .u16 x.dot.dev),.v (.int .u64 x.dot.n),.v (.int .u8 x.kind),.v (.int .u64 x.cid),.v (.int .u8 x.field),.v (.string x.text),.od N (.sl (List.map DT.e x.kills))]
theorem MonoP.c(x:DV):MonoP fun _=>.d x:=.d (.const x)
theorem monoE(e:EV):MonoP fun N=>.agg (List.map .d (EV.eN N e)):=.agg (.cons (.c _)<|.cons (.c _)<|.cons (.c _)<|.cons (.c _)<|.cons (.c _)<|.cons (.c _)<|.cons (.n _)<|.nil)
theorem flatDot(a:DT):∀ x∈DT.e a,∃ v,x=.v v:=fun x hx=>by
 simp only[DT.e,List.mem_cons,List.not_mem_nil,or_false] at hx;rcases hx with rfl | rfl <;> exact⟨_,rfl⟩
theorem wlNO(N:Nat->Prop)(e:EV):WkL ((EV.eN N e).map .d) ((EV.eO N e).map .d):=.cons (.refl _)<|.cons (.refl _)<|.cons (.refl _)<|.cons (.refl _)<|.cons (.refl _)<|.cons (.refl _)<|.cons (.nwOd _ _)<|.nil
theorem wlO(N:Nat->Prop)(e:EV):WkL ((EV.eO N e).map .d) ((EV.e e).map .d):=.cons (.refl _)<|.cons (.refl _)<|.cons (.refl _)<|.cons (.refl _)<|.cons (.refl _)<|.cons (.refl _)<|.cons (.od _ _)<|.nil
theorem wkNO(N:Nat->Prop)(e:EV):Wk (.agg (List.map .d (EV.eN N e))) (.agg (List.map .d (EV.eO N e))):=(wlNO N e).agg
theorem wkO(N:Nat->Prop)(e:EV):Wk (.agg (List.map .d (EV.eO N e))) (.agg (List.map .d (EV.e e))):=(wlO N e).agg
end Go.Ep
namespace Go.Proofs
open Go.Ep Tryz
set_option maxHeartbeats 1000000
set_option maxRecDepth 100000
set_option linter.unusedVariables false
set_option linter.unusedSimpArgs false
theorem rawN(N:Nat->Prop)(w:World)(S:Nat->Prop)(x:EV)(us:List Value)(hl:us.length=7)(h:∀ (j:Nat) (d:DV) (u:Value),(EV.eN N x)[j]?=some d->us[j]?=some u->DRd w S d u):∃ r:RawTEvent,RawTEvent.v r=us/\RawTEvent.R x r:=
 RawTEvent.raw w S x us hl fun j d u h1 h2=>by
  match j,h1 with
  | 0,h1=>exact h 0 d u h1 h2
  | 1,h1=>exact h 1 d u h1 h2
  | 2,h1=>exact h 2 d u h1 h2
  | 3,h1=>exact h 3 d u h1 h2
  | 4,h1=>exact h 4 d u h1 h2
  | 5,h1=>exact h 5 d u h1 h2
  | 6,h1=>cases h1;exact(h 6 _ u rfl h2).unmark
  | j+7,h1=>cases h1
theorem uI(e1:EV)(r0:EV)(h:(yq e1).wp (·=r0)):PNew prog 44 [.agg (List.map .d (EV.e e1))] (fun N=>.agg (List.map .d (EV.eN N r0))):=by
 refine PNew.intro (sl:=[(0,_)]) func44 rfl ntmps44 rfl rfl ?_;intro ctx hK hK0;refine xV ?_;obtain⟨v2,hy3,h⟩:=zP h;refine ws (LR.callNw ((xH hy3).new (flatL.map flatDot _)) (MonoP.n _) rfl call94 rfl rfl rfl rfl) ?_;refine zl ?_;refine wX ?_;cases h;exact⟨.inr rfl,_,.cons (.agg isAgg57 sizeOf57 rfl rfl rfl rfl)<|.nil,rfl⟩
theorem WF(NN:Nat->Prop)(e1:EV)(nl2:Bool)(m3:List (DT×EV))(r0:Bool×(List (DT×EV)))(h:(xK e1 nl2 m3).wp (·=r0)):PObjN prog 32 NN [.mp 100,.agg (List.map .d (EV.e e1))] [(100,.mapH nl2 [.u16,.u64] true (zO DT.k (EV.eO NN) m3))] [] (.mp 100) (fun _:Unit=>[(100,.mapH r0.1 [.u16,.u64] true (zO DT.k (EV.eO NN) r0.2))]):=by
 refine PObjN.intro (sl:=[(0,_),(1,_)]) func32 rfl ntmps32 rfl rfl rfl ?_;intro ctx hK hN pv;refine vQ ?_;refine wJ (zK h) (fun(v4:List (DT×EV)) (⟨bs5,ck6⟩:List Nat×Nat)=>⟨14,[(  0,.mp 100),(  3,.ref 3 0)],[(  3,.cells 57 [zJ .u16 e1.dot.dev,zJ .u64 e1.dot.n,zJ .u8 e1.kind,zJ .u64 e1.cid,zJ .u8 e1.field,.d (.v (.string e1.text)),zZ DT.e e1.kills]),(100,.map [.u16,.u64] true (zO DT.k (EV.eO NN) v4) bs5 ck6)]⟩) (fun h=>?_) ?_
 ·refine wC rfl (fun hc7=>?_) (fun hc7=>?_)
  ·replace h:=iT hc7 h;refine PWc.sub (Sub.hT (id:=100) rfl hc7) ?_;refine g5 ?_;refine ws (LR.makeMap [.u16,.u64] true rfl) ?_;refine g5 ?_;refine yL [0,1,3,4,6] [3,7,100] ?_;refine PWl.sub (Sub.moveMap (id1:=100) (id2:=7) (j:=0) rfl rfl rfl rfl) ?_;refine g5 ?_;exact⟨([]:List (DT×EV)),([],0),h,sP⟩
  ·replace h:=iF hc7 h;refine PWc.hF (id:=100) rfl hc7 (fun bs8 ck8=>?_);refine g5 ?_;exact⟨m3,(bs8,ck8),h,sP⟩
 ·rintro v4 ⟨bs5,ck6⟩ h;refine g5 ?_;refine uU [0,3] [3,100] ?_;refine PWc.regionE [zt [8] [100],zt [9] [3],⟨[10],[],[3],[],[],[],[],[]⟩,⟨[11],[],[3],[],[],[],[],[]⟩,{ws:=[12]},⟨[],[100],[100],[],[],[],[],[]⟩] (by kernel_rfl) (by kernel_rfl) rfl ?_;refine vV ?_;obtain⟨v9,hy10,h⟩:=zP h;refine kp (fun _ U W=>LR.weak (LR.callNwN (uI e1 v9 hy10) (monoE _) hN U call44 (xY (fun a b=>U a b) rfl rfl) rfl rfl rfl) (wkNO NN v9)) ?_;refine ks (fun _ U W=>LR.setM (eV:=EV.eO NN) (q:=e1.dot) (v:=v9) (m:=v4) DT.k_inj underlying71 key71 U (W rfl rfl) U rfl rfl U rfl (fun h=>by cases h)) ?_;refine PQe.nil ?_;refine zF ?_;refine wX ?_;cases h;exact EndsO.mk () (.inr rfl) (Sub.trans (Sub.toH (id:=100) rfl)<|yYa [4] [100]) (.cons (.tmp rfl)<|.nil) rfl rfl
theorem wYa(NN:Nat->Prop)(e1:EV)(ctx_2:List PT)(nl3:Bool)(m4:List (DT×EV))(nl5:Bool)(m6:List (DT×EV))(r0:Int×List PT×Bool×(List (DT×EV))×Bool×(List (DT×EV)))(h:(yQ e1 ctx_2 nl3 m4 nl5 m6).wp (·=r0)):PObjN prog 22 NN [.ref 100 0,.agg (List.map .d (EV.e e1))] [(100,.cells 73 [.d (.od NN (.sl (List.map PT.e ctx_2))),.mp 101,.mp 102]),(101,.mapH nl3 [.u16,.u64] true (zO DT.k (EV.eO NN) m4)),(102,.mapH nl5 [.u16,.u64] true (zO DT.k (EV.eO NN) m6))] [100] (zJ .i64 r0.1) (fun _:Unit=>[(100,.cells 73 [.d (.od NN (.sl (List.map PT.e r0.2.1))),.mp 101,.mp 102]),(101,.mapH r0.2.2.1 [.u16,.u64] true (zO DT.k (EV.eO NN) r0.2.2.2.1)),(102,.mapH r0.2.2.2.2.1 [.u16,.u64] true (zO DT.k (EV.eO NN) r0.2.2.2.2.2))]):=by
 refine PObjN.intro (sl:=[(0,_),(1,_)]) func22 rfl ntmps22 rfl rfl rfl ?_;intro ctx hK hN pv;refine vn ?_;obtain⟨v7,hy8,h⟩:=zP h;refine wt (cN (vc hy8) rfl call29 rfl rfl rfl rfl) ?_;refine zH ?_;refine zE h (fun h=>?_) fun h=>?_
 ·refine zH ?_;refine wX ?_;cases h;exact Zp [4] [100,101,102,1100]
 ·refine zC ?_;refine yU ?_;refine qs (fun _ U W=>LR.weak (lD isAgg24 U (W rfl) rfl) (Wk.od _ _)) ?_;refine zy ?_;obtain⟨v10,hy11,h⟩:=zP h;refine qs (fun _ U W=>cN (YI hy11) U call42 (xY (fun a b=>U a b) rfl rfl) rfl rfl rfl) ?_;refine zy ?_;refine zE h (fun h=>?_) fun h=>?_
  ·refine zH ?_;refine wX ?_;cases h;exact Zp [4] [100,101,102,1100]
  ·refine zC ?_;refine uU [0,3] [3,100,101,102,1100] ?_;refine PWc.regionE [zt [23] [100],zt [24] [100],zt [25] [100],zt [26] [100],⟨[27],[],[100],[],[],[],[],[]⟩,⟨[28],[],[3],[],[],[],[],[]⟩,{ws:=[29]},{ws:=[30]},{ws:=[31]},zt [32] [100],zt [33] [100],⟨[],[100],[100],[],[],[],[101,102],[]⟩] (by kernel_rfl) (by kernel_rfl) rfl ?_;refine vV ?_;refine kp (fun _ U W=>LR.weak (lD isAgg24 U (W rfl rfl) rfl) (Wk.od _ _)) ?_;refine h5 ?_;refine kp (fun _ U W=>LR.buildSliceD [.tmp 28] yh rfl rfl (.cons U rfl rfl<|.nil) (by decide) (by decide)) ?_;obtain⟨v13,hy14,h⟩:=zP h;refine kp (fun _ U W=>cN (PRow.fun (vd hy14)) U call35 (xY (fun a b=>U a b) rfl rfl) rfl rfl rfl) ?_;obtain⟨v15,hy16,h⟩:=zP h;refine kp (fun _ U W=>LR.weak (LR.callNwN (yha hy16) (MonoP.n _) hN U call58 (xY (fun a b=>U a b) rfl rfl) rfl rfl rfl) (Wk.nwOd _ _)) ?_;refine zy ?_;refine ks (fun _ U W=>sB (ns:=[_,_,_]) sizeOf24 U U rfl rfl (W rfl rfl) rfl rfl)<|PQe.nil ?_;refine zl ?_;refine yN (zK h) 68 [0,3] [3,100,102,1100] (fun v17=>([],[(101,.mapH nl3 [.u16,.u64] true (zO DT.k (EV.eO NN) v17))])) (fun h=>?_) ?_
   ·refine g5 ?_;refine zc h 68 [0,3,35,36] [3,100,102,1100] (fun⟨v26,v27⟩=>([(37,zJ .i64 v26)],[(101,.mapH nl3 [.u16,.u64] true (zO DT.k (EV.eO NN) v27))])) ?_;rintro N ⟨v26,v27⟩ _ h;refine zF ?_;refine zE h (fun h=>?_) fun h=>?_
    ·refine zF ?_;obtain⟨x29,hy30,h⟩:=yF h;refine yZ hy30 ?_;refine zH ?_;refine uU [0,3,6,35,36,37] [3,6,100,101,102,1100] ?_;refine PWc.regionE [zt [41] [100],zt [42] [100],zt [43] [100],⟨[44],[],[100],[],[],[101],[],[]⟩,⟨[45],[],[6],[],[],[],[],[]⟩,⟨[],[101],[101],[],[],[],[],[]⟩] (by kernel_rfl) (by kernel_rfl) rfl ?_;refine wMa ?_;refine PQe.stepSD (fun _ U W=>LR.delH (eV:=EV.eO NN) (q:=x29) (m:=v27) DT.k_inj underlying71 key71 (U rfl rfl) (W rfl rfl) (U rfl rfl) rfl rfl rfl) (.inl rfl) rfl<|PQe.nil ?_;refine zH ?_;exact⟨((IntKind.i64.wrap (v26+1)),(AL.del v27 x29)),(),h,sP⟩
    ·refine wZ ?_;exact⟨v27,(),h,sP⟩
   ·rintro v17 _ h;refine zm ?_;refine yN (zK h) 68 [] [100,1100] (fun⟨nl31,v32,nl33,v34⟩=>([],[(101,.mapH nl33 [.u16,.u64] true (zO DT.k (EV.eO NN) v34)),(102,.mapH nl31 [.u16,.u64] true (zO DT.k (EV.eO NN) v32))])) (fun h=>?_) ?_
    ·refine zE h (fun h=>?_) fun h=>?_
     ·refine uU [0,3] [3,100,101,102,1100] ?_;refine PWc.regionE [zt [50] [100],zt [51] [100],zt [52] [100],zt [53] [100],⟨[54],[],[100],[],[],[101],[],[]⟩,⟨[55],[],[3],[],[],[],[],[]⟩,⟨[54,56],[100,101],[100,101,102],[],[(101,[54])],[101],[102],[100,101,102]⟩,zt [57] [100],zt [58] [100],⟨[],[100],[100,101],[],[],[],[101,102],[]⟩] (by kernel_rfl) (by kernel_rfl) rfl ?_;refine Wh ?_;obtain⟨y36,hy37,h⟩:=zP h;refine PQe.callObjSN [(100,101),(500,100),(501,102)] [54] [100,500,501] [(100,.mapH y36.1 [.u16,.u64] true (zO DT.k (EV.eO NN) y36.2)),(500,.cells 73 [.d (.od NN (.sl (List.map PT.e v15))),.junk,.mp 501])] [(501,.mapH nl5 [.u16,.u64] true (zO DT.k (EV.eO NN) m6))] (PObjN.frame [(500,.cells 73 [.d (.od NN (.sl (List.map PT.e v15))),.mp 100,.mp 501]),(501,.mapH nl5 [.u16,.u64] true (zO DT.k (EV.eO NN) m6))] [(500,.cells 73 [.d (.od NN (.sl (List.map PT.e v15))),.junk,.mp 501]),(501,.mapH nl5 [.u16,.u64] true (zO DT.k (EV.eO NN) m6))] (WF NN e1 nl3 v17 y36 hy37) (fun _=>rfl) (fun _=>rfl) rfl rfl (.cons (.cells (.keep rfl<|.junk<|.keep rfl<|.nil))<|.cons (.same rfl)<|.nil)) hN hK (fun _ U=>⟨U rfl rfl,xY U rfl rfl⟩) call32 (by first | rfl | (simp;done) | (simp[PV.nilD,PV.ren,rn] <;> omega)) (by repeat' first | constructor | (congr 1;first | (simp;done) | (simp;omega) | omega)) (.cons rfl<|.cons rfl<|.nil) (.cons rfl<|.nil) (.cons sibA6<|.nil) rfl rfl rfl rfl rfl rfl (.inl rfl) rfl ?_;refine zy ?_;refine ks (fun _ U W=>sB (ns:=[_,_,_]) sizeOf71 U U rfl rfl (W rfl rfl) rfl rfl)<|PQe.nil ?_;exact⟨(nl5,m6,y36.1,y36.2),(),h,sP⟩
     ·refine uU [0,3] [3,100,101,102,1100] ?_;refine PWc.regionE [zt [59] [100],zt [60] [100],zt [61] [100],zt [62] [100],⟨[63],[],[100],[],[],[102],[],[]⟩,⟨[64],[],[3],[],[],[],[],[]⟩,⟨[63,65],[100,102],[100,101,102],[],[(102,[63])],[102],[101],[100,101,102]⟩,zt [66] [100],zt [67] [100],⟨[],[100],[100,102],[],[],[],[101,102],[]⟩] (by kernel_rfl) (by kernel_rfl) rfl ?_;refine Wh ?_;obtain⟨y38,hy39,h⟩:=zP h;refine PQe.callObjSN [(100,102),(500,100),(501,101)] [63] [100,500,501] [(100,.mapH y38.1 [.u16,.u64] true (zO DT.k (EV.eO NN) y38.2)),(500,.cells 73 [.d (.od NN (.sl (List.map PT.e v15))),.mp 501,.junk])] [(501,.mapH nl3 [.u16,.u64] true (zO DT.k (EV.eO NN) v17))] (PObjN.frame [(500,.cells 73 [.d (.od NN (.sl (List.map PT.e v15))),.mp 501,.mp 100]),(501,.mapH nl3 [.u16,.u64] true (zO DT.k (EV.eO NN) v17))] [(500,.cells 73 [.d (.od NN (.sl (List.map PT.e v15))),.mp 501,.junk]),(501,.mapH nl3 [.u16,.u64] true (zO DT.k (EV.eO NN) v17))] (WF NN e1 nl5 m6 y38 hy39) (fun _=>rfl) (fun _=>rfl) rfl rfl (.cons (.cells (.keep rfl<|.keep rfl<|.junk<|.nil))<|.cons (.same rfl)<|.nil)) hN hK (fun _ U=>⟨U rfl rfl,xY U rfl rfl⟩) call32 (by first | rfl | (simp;done) | (simp[PV.nilD,PV.ren,rn] <;> omega)) (by repeat' first | constructor | (congr 1;first | (simp;done) | (simp;omega) | omega)) (.cons rfl<|.cons rfl<|.nil) (.cons rfl<|.nil) (.cons sibA6<|.nil) rfl rfl rfl rfl rfl rfl (.inl rfl) rfl ?_;refine zy ?_;refine ks (fun _ U W=>sB (ns:=[_,_,_]) sizeOf71 U U rfl rfl (W rfl rfl) rfl rfl)<|PQe.nil ?_;exact⟨(y38.1,y38.2,nl3,v17),(),h,sP⟩
    ·rintro⟨nl31,v32,nl33,v34⟩ _ h;refine zH ?_;refine wX ?_;cases h;exact Zp [4] [100,101,102,1100]
theorem qD(NN:Nat->Prop)(c1:List PT)(ctx_2:List PT)(nl3:Bool)(m4:List (DT×EV))(nl5:Bool)(m6:List (DT×EV))(r0:List PT)(h:(yy c1 ctx_2 nl3 m4 nl5 m6).wp (·=r0)):PObjN prog 13 NN [.ref 100 0,zZ PT.e c1] [(100,.cells 73 [.d (.od NN (.sl (List.map PT.e ctx_2))),.mp 101,.mp 102]),(101,.mapH nl3 [.u16,.u64] true (zO DT.k (EV.eO NN) m4)),(102,.mapH nl5 [.u16,.u64] true (zO DT.k (EV.eO NN) m6))] [100,101,102] (.tup []) (fun _:Unit=>[(100,.cells 73 [.d (.od NN (.sl (List.map PT.e r0))),.mp 101,.mp 102]),(101,.mapH nl3 [.u16,.u64] true (zO DT.k (EV.eO NN) m4)),(102,.mapH nl5 [.u16,.u64] true (zO DT.k (EV.eO NN) m6))]):=by
 refine PObjN.intro (sl:=[(0,_),(1,_)]) func13 rfl ntmps13 rfl rfl rfl ?_;intro ctx hK hN pv;refine zF ?_;refine PWc.condT rfl ?_;refine zF ?_;refine ws (LR.weak (lD isAgg24 rfl rfl rfl) (Wk.od _ _)) ?_;refine g5 ?_;obtain⟨v7,hy8,h⟩:=zP h;refine ws (LR.weak (LR.callNwN (Ud hy8) (MonoP.n _) hN rfl call45 rfl rfl rfl rfl) (Wk.nwOd _ _)) ?_;refine zH ?_;cases h;exact Zp [] [100,101,102,1100,1101,1102]
theorem zla(NN N0:Nat->Prop)(nl1:Bool)(m2:List (DT×EV))(nl3:Bool)(m4:List (DT×EV))(r0:List EV)(h:(uM nl1 m2 nl3 m4).wp (·=r0)):PObjN prog 59 NN [.row 100 2] [(100,.cells 71 [.mp 101,.mp 102]),(101,.mapH nl1 [.u16,.u64] true (zO DT.k (EV.eO N0) m2)),(102,.mapH nl3 [.u16,.u64] true (zO DT.k (EV.eO N0) m4))] [100,101,102] (.row 3 (r0.length)) (fun _:Unit=>[(100,.cells 71 [.mp 101,.mp 102]),(101,.mapH nl1 [.u16,.u64] true (zO DT.k (EV.eO N0) m2)),(102,.mapH nl3 [.u16,.u64] true (zO DT.k (EV.eO N0) m4)),(3,.row 57 7 (List.map (EV.eN NN) r0))]):=by
 refine PObjN.intro (sl:=[(0,_)]) func59 rfl ntmps59 rfl rfl rfl ?_;intro ctx hK hN pv;refine zC ?_;refine ws (aR 57 7 rfl) ?_;refine zL ?_;refine ws (aR 57 7 rfl) ?_;refine zl ?_;refine yN (zK h) 29 [] [100,101,102,1100,1101,1102] (fun out5=>([(3,.row 3 (out5.length))],[(3,.row 57 7 (List.map (EV.eN NN) out5))])) (fun h=>?_) ?_
 ·refine g5 ?_;refine PWc.loopU<|PWL.step ?_;refine zF ?_;refine PWc.condT rfl ?_;refine zC ?_;refine wJ (zK h) (fun(out8:List EV) (⟨bs6,ck7⟩:List Nat×Nat)=>⟨29,[(3,.row 3 (out8.length)),(  8,.row 100 2),(  9,zJ .i64 2),(  10,zJ .i64 0)],[(3,.row 57 7 (List.map (EV.eN NN) out8)),(  100,.cells 71 [.mp 101,.mp 102]),(101,.mapN nl1 [.u16,.u64] true (zO DT.k (EV.eO N0) m2) bs6 ck7),(  102,.mapH nl3 [.u16,.u64] true (zO DT.k (EV.eO N0) m4)),(  1100,.pin 100 (pv 100)),(  1101,.pin 101 (pv 101)),(  1102,.pin 102 (pv 102))]⟩) (fun h=>?_) ?_
  ·refine zL ?_;refine ws (LR.idxCells (n:=0) underlying129 sizeOf71 rfl rfl rfl (by decide)) ?_;refine zV ?_;refine PWl.openH (id:=101) rfl (fun bs9 ck9=>?_);refine zL ?_;refine zc h 29 [8,9,10,15] [100,101,102,1100,1101,1102] (fun⟨seen32,out33⟩=>([(3,.row 3 (out33.length))],[(3,.row 57 7 (List.map (EV.eN NN) out33)),(15,.iterO 101 bs9 ck9 seen32)])) ?_;rintro N ⟨seen32,out33⟩ _ h;refine zC ?_;obtain⟨hy43,h⟩:=zq h;replace h:=w5a h;refine PWl.nextN rfl rfl rfl (w8a hy43) rfl (fun hy35=>?_) (fun j34 hy36 hy37=>?_)
   ·replace h:=h.1 (w6a hy35);refine zL ?_;refine PWc.condF rfl<|wZ ?_;exact⟨out33,(bs9,ck9),h,sP⟩
   ·replace h:=h.2 j34 (w7a hy36) hy37;refine zL ?_;refine PWc.condT rfl ?_;refine zH ?_;obtain⟨kv38,hy39,h⟩:=yF h;refine ws (LR.entryN rfl rfl rfl (Yt hy39) rfl rfl) ?_;refine zV ?_;refine ws (LR.weak (lA (ps:=(EV.eO N0 kv38.2).map .d) isAgg57 sizeOf57 rfl rfl rfl rfl) (wkO N0 kv38.2)) ?_;obtain⟨v40,hy41,h⟩:=zP h;refine ws (LR.callNwN (uI kv38.2 v40 hy41) (monoE _) hN rfl call44 rfl rfl rfl rfl)<|ws (LR.buildSliceD [.tmp 22] yh rfl rfl (.cons rfl rfl rfl<|.nil) (by decide) (by decide)) ?_;obtain⟨hy42,h⟩:=zq h;refine ws (LR.appT (enc:=EV.eN NN) (L:=out33) (R:=[v40]) [3,20] yh underlying28 rfl rfl rfl (Src.slT (enc:=EV.eN NN) (R:=[v40]) rfl (fun _=>rfl)) (fun _=>rfl) hy42 rfl rfl) ?_;refine zC ?_;exact⟨((seen32++[j34]),(out33++[v40])),(),h,sP⟩
  ·rintro out8 ⟨bs6,ck7⟩ h;refine zH ?_;refine PWL.step ?_;refine zF ?_;refine PWc.condT rfl ?_;refine zC ?_;refine wJ (zK h) (fun(out46:List EV) (⟨bs44,ck45⟩:List Nat×Nat)=>⟨29,[(3,.row 3 (out46.length)),(  8,.row 100 2),(  9,zJ .i64 2),(  10,zJ .i64 1)],[(3,.row 57 7 (List.map (EV.eN NN) out46)),(  100,.cells 71 [.mp 101,.mp 102]),(  101,.mapN nl1 [.u16,.u64] true (zO DT.k (EV.eO N0) m2) bs6 ck7),(102,.mapN nl3 [.u16,.u64] true (zO DT.k (EV.eO N0) m4) bs44 ck45),(  1100,.pin 100 (pv 100)),(  1101,.pin 101 (pv 101)),(  1102,.pin 102 (pv 102))]⟩) (fun h=>?_) ?_
   ·refine zL ?_;refine ws (LR.idxCells (n:=1) underlying129 sizeOf71 rfl rfl rfl (by decide)) ?_;refine zV ?_;refine PWl.openH (id:=102) rfl (fun bs47 ck47=>?_);refine zL ?_;refine zc h 29 [8,9,10,15] [100,101,102,1100,1101,1102] (fun⟨seen70,out71⟩=>([(3,.row 3 (out71.length))],[(3,.row 57 7 (List.map (EV.eN NN) out71)),(15,.iterO 102 bs47 ck47 seen70)])) ?_;rintro N ⟨seen70,out71⟩ _ h;refine zC ?_;obtain⟨hy81,h⟩:=zq h;replace h:=w5a h;refine PWl.nextN rfl rfl rfl (w8a hy81) rfl (fun hy73=>?_) (fun j72 hy74 hy75=>?_)
    ·replace h:=h.1 (w6a hy73);refine zL ?_;refine PWc.condF rfl<|wZ ?_;exact⟨out71,(bs47,ck47),h,sP⟩
    ·replace h:=h.2 j72 (w7a hy74) hy75;refine zL ?_;refine PWc.condT rfl ?_;refine zH ?_;obtain⟨kv76,hy77,h⟩:=yF h;refine ws (LR.entryN rfl rfl rfl (Yt hy77) rfl rfl) ?_;refine zV ?_;refine ws (LR.weak (lA (ps:=(EV.eO N0 kv76.2).map .d) isAgg57 sizeOf57 rfl rfl rfl rfl) (wkO N0 kv76.2)) ?_;obtain⟨v78,hy79,h⟩:=zP h;refine ws (LR.callNwN (uI kv76.2 v78 hy79) (monoE _) hN rfl call44 rfl rfl rfl rfl)<|ws (LR.buildSliceD [.tmp 22] yh rfl rfl (.cons rfl rfl rfl<|.nil) (by decide) (by decide)) ?_;obtain⟨hy80,h⟩:=zq h;refine ws (LR.appT (enc:=EV.eN NN) (L:=out71) (R:=[v78]) [3,20] yh underlying28 rfl rfl rfl (Src.slT (enc:=EV.eN NN) (R:=[v78]) rfl (fun _=>rfl)) (fun _=>rfl) hy80 rfl rfl) ?_;refine zC ?_;exact⟨((seen70++[j72]),(out71++[v78])),(),h,sP⟩
   ·rintro out46 ⟨bs44,ck45⟩ h;refine zH ?_;refine PWL.step ?_;refine zF ?_;refine PWc.condF rfl<|wZ ?_;exact⟨out46,(),h,Sub.trans (Sub.nToH (id:=101) rfl)<|Sub.trans (Sub.nToH (id:=102) rfl)<|sP⟩
 ·rintro out5 _ h;refine zL ?_;obtain⟨hy83,h⟩:=zq h;refine PWl.sortFnR (encD:=EV.eN NN) (enc:=RawTEvent.v) (lt:=Zq) (R:=RawTEvent.R) (l:=out5) UM (rawN NN) vfa (fun _=>rfl) (fun _=>rfl) rfl call105 rfl rfl rfl (by simp) hy83 rfl (fun s82 hy84 hy85=>?_);replace h:=iSrt h s82 hy84 hy85;have hy84l:=hy84.length_eq;refine zV ?_;refine wX ?_;cases h;exact EndsO.mk () (.inr rfl) (sO (tl:=[(2,_)]) (to:=[(100,_),(101,_),(102,_),(3,_),(1100,_),(1101,_),(1102,_)]) rfl (.cons rfl VQ<|.nil) (.c4 rfl rfl rfl rfl rfl rfl rfl rfl<|.c2 rfl rfl rfl rfl<|.cons rfl rfl<|.nil)) (.cons (.tmp rfl)<|.nil) rfl rfl
theorem wZa(NN N0 N9:Nat->Prop)(ctx_1:List PT)(nl2:Bool)(m3:List (DT×EV))(nl4:Bool)(m5:List (DT×EV))(r0:List EV)(h:(ym ctx_1 nl2 m3 nl4 m5).wp (·=r0)):PObjN prog 40 NN [.ref 100 0] [(100,.cells 73 [.d (.od N9 (.sl (List.map PT.e ctx_1))),.mp 101,.mp 102]),(101,.mapH nl2 [.u16,.u64] true (zO DT.k (EV.eO N0) m3)),(102,.mapH nl4 [.u16,.u64] true (zO DT.k (EV.eO N0) m5))] [100,101,102] (.row 14 (r0.length)) (fun _:Unit=>[(100,.cells 73 [.d (.od N9 (.sl (List.map PT.e ctx_1))),.mp 101,.mp 102]),(101,.mapH nl2 [.u16,.u64] true (zO DT.k (EV.eO N0) m3)),(102,.mapH nl4 [.u16,.u64] true (zO DT.k (EV.eO N0) m5)),(14,.row 57 7 (List.map (EV.eN NN) r0))]):=by
 refine PObjN.intro (sl:=[(0,_)]) func40 rfl ntmps40 rfl rfl rfl ?_;intro ctx hK hN pv;refine zC ?_;refine ws (aR 57 7 rfl) ?_;refine zm ?_;refine PWc.condF rfl ?_;refine zC ?_;refine uU [0] [100,101,102,1100,1101,1102] ?_;refine PWc.regionE [zt [5] [100],zt [6] [100],zt [7] [100],⟨[8],[],[100],[],[],[101],[],[]⟩,zt [9] [100],zt [10] [100],zt [11] [100],⟨[12],[],[100],[],[],[102],[],[]⟩,⟨[13],[13],[],[13],[],[13],[101,102],[]⟩,⟨[14],[14],[13,101,102],[14],[],[14],[],[]⟩,zt [2] [14]] (by kernel_rfl) (by kernel_rfl) rfl ?_;refine hs8A6 ?_;refine PQe.stepN (fun _ U W hf=>LR.buildSliceP [.tmp 8,.tmp 12] qr rfl rfl (xY U rfl rfl) rfl (by decide) hf) rfl (.inl rfl) rfl ?_;obtain⟨y6,hy7,h⟩:=zP h;refine PQe.callObjSN [(100,13),(101,101),(102,102),(3,14)] [] [100,101,102,3] [(3,.row 57 7 (List.map (EV.eN NN) y6))] [(100,.cells 71 [.mp 101,.mp 102]),(101,.mapH nl2 [.u16,.u64] true (zO DT.k (EV.eO N0) m3)),(102,.mapH nl4 [.u16,.u64] true (zO DT.k (EV.eO N0) m5))] (zla NN N0 nl2 m3 nl4 m5 y6 hy7) hN hK (fun _ U=>⟨U rfl rfl,xY U rfl rfl⟩) call59 (by first | rfl | (simp;done) | (simp[PV.nilD,PV.ren,rn] <;> omega)) (by repeat' first | constructor | (congr 1;first | (simp;done) | (simp;omega) | omega)) (.cons rfl<|.nil) (.cons rfl<|.cons rfl<|.cons rfl<|.nil) (by repeat' first | constructor | (congr 1;first | (simp;done) | (simp;omega) | omega)) rfl rfl rfl rfl rfl rfl (.inl rfl) rfl ?_;refine h5 ?_;refine PQe.nil<|wX ?_;cases h;exact EndsO.mk () (.inr rfl) (sO (tl:=[(2,_)]) (to:=[(100,_),(101,_),(102,_),(14,_),(1100,_),(1101,_),(1102,_)]) rfl (.cons rfl VQ<|.nil) (.c4 rfl rfl rfl rfl rfl rfl rfl rfl<|.c2 rfl rfl rfl rfl<|.cons rfl rfl<|.nil)) (.cons (.tmp rfl)<|.nil) rfl rfl
theorem WO  (r0:List PT) (h:(vz ).wp (·=r0)):PRow prog 37 [.d (.v (.pointer none))] 62 2 (List.map PT.e r0):=by
 refine PRow.intro (sl:=[(0,_)]) func37 rfl ntmps37 rfl rfl ?_;intro ctx hK;refine zC ?_;refine ws (aR 62 2 rfl) ?_;refine zm ?_;refine PWc.condT rfl ?_;refine zC ?_;refine yL [0,3,4] [] ?_;refine ws (aR 62 2 rfl) ?_;refine g5 ?_;refine wX ?_;cases h;exact⟨.inr rfl,2,rfl,.inr ⟨2,_,rfl,uc,rfl⟩⟩
theorem WP  (r0:List EV) (h:(uA ).wp (·=r0)):PRow prog 40 [.d (.v (.pointer none))] 57 7 (List.map EV.e r0):=by
 refine PRow.intro (sl:=[(0,_)]) func40 rfl ntmps40 rfl rfl ?_;intro ctx hK;refine zC ?_;refine ws (aR 57 7 rfl) ?_;refine zm ?_;refine PWc.condT rfl ?_;refine zC ?_;refine yL [0,3,4] [] ?_;refine ws (aR 57 7 rfl) ?_;refine g5 ?_;refine wX ?_;cases h;exact⟨.inr rfl,2,rfl,.inr ⟨2,_,rfl,uc,rfl⟩⟩
theorem Vm{from1 r0}(h:(va from1).wp (·=r0)):PFun prog 10 [.d (.v (.pointer none)),zZ PT.e from1] (.agg (List.map .d (DL.e r0))):=by
 refine yB [0,1] func10 ntmps10 ?_;intro ctx hK;refine zl ?_;obtain⟨v2,hy3,h⟩:=zP h;refine ws (LR.rowN (WO v2 hy3) rfl call37 rfl rfl rfl rfl) ?_;refine zV ?_;obtain⟨v4,hy5,h⟩:=zP h;refine PWl.frz [5,7,9] hK (.cons rfl<|.cons rfl<|.cons rfl<|.nil) rfl (by simp) ?_;refine ws (LR.rowN (jm hy5) rfl call38 rfl rfl rfl rfl) ?_;refine zC ?_;obtain⟨v6,hy7,h⟩:=zP h;refine ws (LR.rowN (WP v6 hy7) rfl call40 rfl rfl rfl rfl)<|PWl.sub (Sub.frzR (id:=3) ((eL PT.e) from1) [3] hK rfl rfl (.cons rfl<|.nil))<|ws (LR.makeClo (cs:=[(eL PT.e) from1]) rfl)<|yL [4,10,11,13,14] [4,10,13] ?_;obtain⟨y8,hy9,h⟩:=zP h;refine xO [(100,13)] [13] [100] (yI hy9) call39<|PWl.frz [10] hK (.cons rfl<|.nil) rfl (by simp) ?_;refine PWl.frz [15] hK (.cons rfl<|.nil) rfl (by simp) ?_;refine ws (LR.build (ns:=[_,_,_]) jb rfl rfl rfl) ?_;refine zC ?_;refine wX ?_;cases h;exact⟨.inr rfl,_,.cons (.agg isAgg38 sizeOf38 rfl rfl rfl rfl)<|.nil,rfl⟩
theorem WQ{ctx_1 nl2 m3 nl4 m5 r0}(h:(we ctx_1 nl2 m3 nl4 m5).wp (·=r0)):PObj prog 54 [.ref 100 0] [(100,.cells 73 [zZ PT.e ctx_1,.mp 101,.mp 102]),(101,.mapH nl2 [.u16,.u64] true (zO DT.k EV.e m3)),(102,.mapH nl4 [.u16,.u64] true (zO DT.k EV.e m5))] [100,101,102] (.row 10 (r0.length)) (fun _:Unit=>[(100,.cells 73 [zZ PT.e ctx_1,.mp 101,.mp 102]),(101,.mapH nl2 [.u16,.u64] true (zO DT.k EV.e m3)),(102,.mapH nl4 [.u16,.u64] true (zO DT.k EV.e m5)),(10,.row 57 7 (List.map EV.e r0))]):=by
 refine YV [0] func54 ntmps54 ?_;intro ctx hK pv;refine zC ?_;refine ws (aR 57 7 rfl) ?_;refine zm ?_;refine PWc.condF rfl ?_;refine zm ?_;refine ws (LR.buildSliceP [.tmp 8] qr rfl rfl rfl rfl (by decide) rfl) ?_;obtain⟨y6,hy7,h⟩:=zP h;refine coA6 [(100,9),(101,102),(3,10)] [] [100,101,3] [3] [100,101] (XS hy7) call59 ?_;refine yL [2,10] [2,10,100,101,102,1100,1101,1102] ?_;refine yL [10] [10,100,101,102,1100,1101,1102] ?_;refine zC ?_;refine wX ?_;cases h;exact EndsO.mk () (.inr rfl) (sO (tl:=[(2,_)]) (to:=[(100,_),(101,_),(102,_),(10,_),(1100,_),(1101,_),(1102,_)]) rfl (.cons rfl VQ<|.nil) (.c4 rfl rfl rfl rfl rfl rfl rfl rfl<|.c2 rfl rfl rfl rfl<|.cons rfl rfl<|.nil)) (.cons (.tmp rfl)<|.nil) rfl rfl
end Go.Proofs
namespace Go.Ep
theorem PObjN.weakR{G:Type}{P:Program}{f:FuncId}{N:Nat->Prop}{ps:List PV}{os:List (Nat×Ob)}{pins:List Nat}{r r':PV}{os':G->List (Nat×Ob)}(h:PObjN P f N ps os pins r os')(hw:Wk r r'):PObjN P f N ps os pins r' os':=fun w hN S g vs h1 h2 h3 h4=>
 (h w hN S g vs h1 h2 h3 h4).mono fun _ _ ⟨u,g',gh,U,hp⟩=>⟨u,g',gh,U,⟨hp.eos,hp.tape,hp.output,hp.grows,hp.keep,hp.own,hp.pin,hw _ _ _ _ hp.res,hp.obs⟩⟩
section
variable{P:Program}{ctx:Ctx}{s:PState}{dst:Option Tmp}{ty:TypeId}{pos:String}{after:Array Edge}{gd:Option (Nat×Bool)}
theorem LR.callObjSN{x:Operand}{xs:List Operand}{ats:Array TypeId}{fn:FuncId}{ps qs:List PV}{os os':List (Nat×Ob)}{pins:List Nat}{r:PV}(ρ:List (Nat×Nat))(js ks:List Nat)(osV osS:List (Nat×Ob))
  {N:Nat->Prop} (hc:PObjN P fn N ps os pins r (fun _:Unit=>os')) (hN:∀ b,zT ctx b->N b) (hK:∀ b,ctx.K b->ctx.S b) (hx:s.ev x=some (.d (.v (.func (.func fn) #[] #[])))) (U:∀ args w,(callFunc fn args).run P w=.ok (.enter fn args) w) (hps:s.evs xs=some qs)
  (hq:qs.map PV.nilD=ps.map (PV.ren ρ)) (hos:AllOb s ρ os) (hV:LookIn os' osV) (hS:LookIn os' osS) (hAS:AllOb s ρ osS) (hcov:(os'.map (·.1)).all (fun i=>inL (osV.map (·.1)) i||inL (osS.map (·.1)) i)=true) (c3:(os.map (·.1)).all (inL ks)=true)
  (hks:os'.map (·.1)=ks) (hcl:os'.all (fun x=>x.2.named ks)=true) (hr:r.named ks=true) (hok:uz s ρ js (os.map (·.1)) pins ks=true) :
  Local P ctx ⟨dst,.call ⟨.value x,xs.toArray,ats⟩,ty,pos,after,gd⟩ s (s.app (UE ρ js dst r osV)):=
 (LR.callObjN (P:=P) (ctx:=ctx) (dst:=dst) (ty:=ty) (pos:=pos) (after:=after) (gd:=gd) (ats:=ats) ρ js ks hc hN hK hx U hps hq hos hks hcl hr hok).post (zVa ρ js ks osV osS hV hS hAS hcov c3 hks hok)
end
end Go.Ep
namespace Go.Proofs
open Go.Ep Tryz
set_option maxHeartbeats 1000000
set_option maxRecDepth 100000
set_option linter.unusedVariables false
set_option linter.unusedSimpArgs false
theorem qE(NN N0 N9:Nat->Prop)(ctx_1:List PT)(nl2:Bool)(m3:List (DT×EV))(nl4:Bool)(m5:List (DT×EV))(r0:List PT)(h:(yY ctx_1 nl2 m3 nl4 m5).wp (·=r0)):PObjN prog 37 NN [.ref 100 0] [(100,.cells 73 [.d (.od N9 (.sl (List.map PT.e ctx_1))),.mp 101,.mp 102]),(101,.mapH nl2 [.u16,.u64] true (zO DT.k (EV.eO N0) m3)),(102,.mapH nl4 [.u16,.u64] true (zO DT.k (EV.eO N0) m5))] [100,101,102] (.d (.nw NN (.sl (List.map PT.e r0)))) (fun _:Unit=>[(100,.cells 73 [.d (.od N9 (.sl (List.map PT.e ctx_1))),.mp 101,.mp 102]),(101,.mapH nl2 [.u16,.u64] true (zO DT.k (EV.eO N0) m3)),(102,.mapH nl4 [.u16,.u64] true (zO DT.k (EV.eO N0) m5))]):=by
 refine PObjN.intro (sl:=[(0,_)]) func37 rfl ntmps37 rfl rfl rfl ?_;intro ctx hK hN pv;refine zC ?_;refine ws (aR 62 2 rfl) ?_;refine zm ?_;refine PWc.condF rfl ?_;refine zV ?_;refine ws (LR.weak (lD isAgg24 rfl rfl rfl) (Wk.od _ _)) ?_;obtain⟨v6,hy7,h⟩:=zP h;refine ws (LR.callNwN (XR hy7) (MonoP.n _) hN rfl call28 rfl rfl rfl rfl)<|yL [0,3,4,5,6,7,8,9] [100,101,102,1100,1101,1102] ?_;refine zC ?_;refine wX ?_;cases h;exact Zp [2] [100,101,102,1100,1101,1102]
theorem QP(NN:Nat->Prop)(d1:DL)(ctx_2:List PT)(nl3:Bool)(m4:List (DT×EV))(nl5:Bool)(m6:List (DT×EV))(r0:Int×List PT×Bool×(List (DT×EV))×Bool×(List (DT×EV)))(h:(yj d1 ctx_2 nl3 m4 nl5 m6).wp (·=r0)):PObjN prog 14 NN [.ref 100 0,.agg (List.map .d (DL.e d1))] [(100,.cells 73 [.d (.od NN (.sl (List.map PT.e ctx_2))),.mp 101,.mp 102]),(101,.mapH nl3 [.u16,.u64] true (zO DT.k (EV.eO NN) m4)),(102,.mapH nl5 [.u16,.u64] true (zO DT.k (EV.eO NN) m6))] [100] (zJ .i64 r0.1) (fun _:Unit=>[(100,.cells 73 [.d (.od NN (.sl (List.map PT.e r0.2.1))),.mp 101,.mp 102]),(101,.mapH r0.2.2.1 [.u16,.u64] true (zO DT.k (EV.eO NN) r0.2.2.2.1)),(102,.mapH r0.2.2.2.2.1 [.u16,.u64] true (zO DT.k (EV.eO NN) r0.2.2.2.2.2))]):=by
 refine PObjN.intro (sl:=[(0,_),(1,_)]) func14 rfl ntmps14 rfl rfl rfl ?_;intro ctx hK hN pv;refine vn ?_;obtain⟨v7,hy8,h⟩:=zP h;refine wt (cN (Vk hy8) rfl call46 rfl rfl rfl rfl) ?_;refine zH ?_;refine zE h (fun h=>?_) fun h=>?_
 ·refine zH ?_;refine wX ?_;cases h;exact Zp [4] [100,101,102,1100]
 ·refine g5 ?_;refine uU [0,3] [3,100,101,102,1100] ?_;refine PWc.regionE [zt [16] [3],⟨[17],[],[3],[],[],[],[],[]⟩,zt [18] [100],⟨[19],[],[100,101,102],[],[],[],[],[]⟩,{ws:=[20]},{ws:=[21]},{ws:=[15]}] (by kernel_rfl) (by kernel_rfl) rfl ?_;refine yU ?_;obtain⟨y10,hy11,h⟩:=zP h;refine PQe.callObjSN [(100,100),(101,101),(102,102)] [] [100,101,102] [] [(100,.cells 73 [.d (.od NN (.sl (List.map PT.e ctx_2))),.mp 101,.mp 102]),(101,.mapH nl3 [.u16,.u64] true (zO DT.k (EV.eO NN) m4)),(102,.mapH nl5 [.u16,.u64] true (zO DT.k (EV.eO NN) m6))] (PObjN.weakR (qE NN NN NN ctx_2 nl3 m4 nl5 m6 y10 hy11) (Wk.nw _ _)) hN hK (fun _ U=>⟨U rfl rfl,xY U rfl rfl⟩) call37 (by first | rfl | (simp;done) | (simp[PV.nilD,PV.ren,rn] <;> omega)) (by repeat' first | constructor | (congr 1;first | (simp;done) | (simp;omega) | omega)) (.nil) (.cons rfl<|.cons rfl<|.cons rfl<|.nil) (by repeat' first | constructor | (congr 1;first | (simp;done) | (simp;omega) | omega)) rfl rfl rfl rfl rfl rfl (.inl rfl) rfl ?_;obtain⟨v12,hy13,h⟩:=zP h;refine kp (fun _ U W=>cN (Yh hy13) U call47 (xY (fun a b=>U a b) rfl rfl) rfl rfl rfl) ?_;refine zy ?_;refine PQe.nil ?_;refine zE h (fun h=>?_) fun h=>?_
  ·refine g5 ?_;refine uU [] [100,101,102,1100] ?_;refine zL ?_;refine wX ?_;cases h;exact Zp [4] [100,101,102,1100]
  ·refine zL ?_;refine uU [0,3] [3,100,101,102,1100] ?_;refine zV ?_;refine yN (zK h) 37 [0,3] [3,1100] (fun⟨v15,nl16,v17,nl18,v19⟩=>([],[(100,.cells 73 [.d (.od NN (.sl (List.map PT.e v15))),.mp 101,.mp 102]),(101,.mapH nl18 [.u16,.u64] true (zO DT.k (EV.eO NN) v19)),(102,.mapH nl16 [.u16,.u64] true (zO DT.k (EV.eO NN) v17))])) (fun h=>?_) ?_
   ·refine g5 ?_;refine zc h 37 [0,3,23,24] [3,1100] (fun⟨v36,v37,nl38,v39,nl40,v41⟩=>([(25,zJ .i64 v36)],[(100,.cells 73 [.d (.od NN (.sl (List.map PT.e v37))),.mp 101,.mp 102]),(101,.mapH nl40 [.u16,.u64] true (zO DT.k (EV.eO NN) v41)),(102,.mapH nl38 [.u16,.u64] true (zO DT.k (EV.eO NN) v39))])) ?_;rintro N ⟨v36,v37,nl38,v39,nl40,v41⟩ _ h;refine zF ?_;refine zE h (fun h=>?_) fun h=>?_
    ·refine zF ?_;obtain⟨x43,hy44,h⟩:=yF h;refine yZ hy44 ?_;refine zm ?_;obtain⟨y45,hy46,h⟩:=zP h;refine ws (LR.callObjN [(100,100),(101,101),(102,102)] [] [100,101,102] (wYa NN x43 v37 nl40 v41 nl38 v39 y45 hy46) hN hK rfl call22 rfl (by first | rfl | (simp;done) | (simp[PV.nilD,PV.ren,rn] <;> omega)) (by repeat' first | constructor | (congr 1;first | (simp;done) | (simp;omega) | omega)) rfl rfl rfl rfl) ?_;refine g5 ?_;refine uU [0,3,23,24,25] [3,100,101,102,1100] ?_;refine zH ?_;exact⟨((IntKind.i64.wrap (v36+1)),y45.2.1,y45.2.2.2.2.1,y45.2.2.2.2.2,y45.2.2.1,y45.2.2.2.1),(),h,sP⟩
    ·refine wZ ?_;exact⟨(v37,nl38,v39,nl40,v41),(),h,sP⟩
   ·rintro⟨v15,nl16,v17,nl18,v19⟩ _ h;refine zF ?_;obtain⟨y47,hy48,h⟩:=zP h;refine ws (LR.callObjSN [(100,100),(101,101),(102,102)] [] [100,101,102] [(100,.cells 73 [.d (.od NN (.sl (List.map PT.e y47))),.mp 101,.mp 102])] [(101,.mapH nl18 [.u16,.u64] true (zO DT.k (EV.eO NN) v19)),(102,.mapH nl16 [.u16,.u64] true (zO DT.k (EV.eO NN) v17))] (qD NN d1.to_ v15 nl18 v19 nl16 v17 y47 hy48) hN hK rfl call13 rfl (by first | rfl | (simp;done) | (simp[PV.nilD,PV.ren,rn] <;> omega)) (by repeat' first | constructor | (congr 1;first | (simp;done) | (simp;omega) | omega)) (.cons rfl<|.nil) (.cons rfl<|.cons rfl<|.nil) (by repeat' first | constructor | (congr 1;first | (simp;done) | (simp;omega) | omega)) rfl rfl rfl rfl rfl rfl) ?_;refine zC ?_;refine uU [] [100,101,102,1100] ?_;refine zL ?_;refine wX ?_;cases h;exact Zp [4] [100,101,102,1100]
theorem yka(NN N0 N9:Nat->Prop)(ctx_1:List PT)(nl2:Bool)(m3:List (DT×EV))(nl4:Bool)(m5:List (DT×EV)){Q:List PT×Bool×(List (DT×EV))×Bool×(List (DT×EV))->Prop}(h:(vG ctx_1 nl2 m3 nl4 m5).wp Q):PObjN prog 15 NN [.ref 100 0] [(100,.cells 73 [.d (.od N9 (.sl (List.map PT.e ctx_1))),.mp 101,.mp 102]),(101,.mapH nl2 [.u16,.u64] true (zO DT.k (EV.eO N0) m3)),(102,.mapH nl4 [.u16,.u64] true (zO DT.k (EV.eO N0) m5))] [100,101,102] (.ref 16 0) (fun gh:{y:List PT×Bool×(List (DT×EV))×Bool×(List (DT×EV)) // Q y}=>[(100,.cells 73 [.d (.od N9 (.sl (List.map PT.e ctx_1))),.mp 101,.mp 102]),(101,.mapH nl2 [.u16,.u64] true (zO DT.k (EV.eO N0) m3)),(102,.mapH nl4 [.u16,.u64] true (zO DT.k (EV.eO N0) m5)),(16,.cells 73 [.d (.od NN (.sl (List.map PT.e gh.1.1))),.mp 30321,.mp 30322]),(30321,.mapH gh.1.2.1 [.u16,.u64] true (zO DT.k (EV.eO NN) gh.1.2.2.1)),(30322,.mapH gh.1.2.2.2.1 [.u16,.u64] true (zO DT.k (EV.eO NN) gh.1.2.2.2.2))]):=by
 refine PObjN.intro (sl:=[(0,_)]) func15 rfl ntmps15 rfl rfl rfl ?_;intro ctx hK hN pv;refine xl ?_;refine PWc.condF rfl ?_;refine zV ?_;refine ws (LR.weak (lD isAgg24 rfl rfl rfl) (Wk.od _ _)) ?_;obtain⟨v6,hy7,h⟩:=zP h;refine ws (LR.weak (LR.callNwN (XR hy7) (MonoP.n _) hN rfl call28 rfl rfl rfl rfl) (Wk.nwOd _ _))<|ws (LR.buildR (ns:=[_,_,_]) qw rfl rfl rfl) ?_;refine g5 ?_;refine PWl.sub (Sub.ownMap (id:=16) (j:=1) (id':=30321) (ks:=[.u16,.u64]) (ag:=true) (ck:=0) rfl rfl rfl rfl)<|PWl.sub (Sub.ownMap (id:=16) (j:=2) (id':=30322) (ks:=[.u16,.u64]) (ag:=true) (ck:=0) rfl rfl rfl rfl)<|yL [0,16] [16,100,101,102,1100,1101,1102,30321,30322] ?_;refine xV ?_;refine PWl.openH (id:=101) rfl (fun bs8 ck8=>?_);refine zC ?_;refine yN (zK h) 54 [0,3] [16,100,101,102,1100,1101,1102] (fun⟨nl9,v10⟩=>([],[(30321,.mapH nl9 [.u16,.u64] true (zO DT.k (EV.eO NN) v10)),(30322,.mapH true [.u16,.u64] true (zO DT.k (EV.eO NN) ([]:List (DT×EV))))])) (fun h=>?_) ?_
 ·refine g5 ?_;refine zc h 54 [0,3,21] [16,100,101,102,1100,1101,1102] (fun⟨seen32,nl33,v34⟩=>([],[(21,.iterO 101 bs8 ck8 seen32),(30321,.mapH nl33 [.u16,.u64] true (zO DT.k (EV.eO NN) v34)),(30322,.mapH true [.u16,.u64] true (zO DT.k (EV.eO NN) ([]:List (DT×EV))))])) ?_ (hs:=Sub.trans (Sub.nToH (id:=30321) rfl)<|Sub.trans (Sub.nToH (id:=30322) rfl)<|sP);rintro N ⟨seen32,nl33,v34⟩ _ h;refine zC ?_;obtain⟨hy43,h⟩:=zq h;replace h:=w5a h;refine PWl.nextN rfl rfl rfl (w8a hy43) rfl (fun hy36=>?_) (fun j35 hy37 hy38=>?_)
  ·replace h:=h.1 (w6a hy36);refine zL ?_;refine PWc.condF rfl<|wZ ?_;exact⟨(nl33,v34),(),h,sP⟩
  ·replace h:=h.2 j35 (w7a hy37) hy38;refine zL ?_;refine PWc.condT rfl ?_;refine zH ?_;obtain⟨kv39,hy40,h⟩:=yF h;refine ws (LR.entryN rfl rfl rfl (Yt hy40) rfl rfl) ?_;refine zH ?_;refine uU [0,3,5,21] [5,16,21,100,101,102,1100,1101,1102,30321,30322] ?_;refine PWc.regionE [zt [26] [16],zt [27] [16],zt [28] [16],zt [29] [16],⟨[30],[],[16],[],[],[30321],[],[]⟩,⟨[31],[],[5],[],[],[],[],[]⟩,⟨[30,32],[16,30321],[16,30321,30322],[],[(30321,[30])],[30321],[30322],[16,30321,30322]⟩,zt [33] [16],zt [34] [16],⟨[],[16],[16,30321],[],[],[],[30321,30322],[]⟩] (by kernel_rfl) (by kernel_rfl) rfl ?_;refine wMa ?_;refine kp (fun _ U W=>LR.weak (lA (ps:=(EV.eO N0 kv39.2).map .d) isAgg57 sizeOf57 U (W rfl rfl) rfl rfl) (wkO N0 kv39.2)) ?_;obtain⟨y41,hy42,h⟩:=zP h;refine PQe.callObjSN [(100,30321),(500,16),(501,30322)] [30] [100,500,501] [(100,.mapH y41.1 [.u16,.u64] true (zO DT.k (EV.eO NN) y41.2)),(500,.cells 73 [.d (.od NN (.sl (List.map PT.e v6))),.junk,.mp 501])] [(501,.mapH true [.u16,.u64] true (zO DT.k (EV.eO NN) ([]:List (DT×EV))))] (PObjN.frame [(500,.cells 73 [.d (.od NN (.sl (List.map PT.e v6))),.mp 100,.mp 501]),(501,.mapH true [.u16,.u64] true (zO DT.k (EV.eO NN) ([]:List (DT×EV))))] [(500,.cells 73 [.d (.od NN (.sl (List.map PT.e v6))),.junk,.mp 501]),(501,.mapH true [.u16,.u64] true (zO DT.k (EV.eO NN) ([]:List (DT×EV))))] (WF NN kv39.2 nl33 v34 y41 hy42) (fun _=>rfl) (fun _=>rfl) rfl rfl (.cons (.cells (.keep rfl<|.junk<|.keep rfl<|.nil))<|.cons (.same rfl)<|.nil)) hN hK (fun _ U=>⟨U rfl rfl,xY U rfl rfl⟩) call32 (by first | rfl | (simp;done) | (simp[PV.nilD,PV.ren,rn] <;> omega)) (by repeat' first | constructor | (congr 1;first | (simp;done) | (simp;omega) | omega)) (.cons rfl<|.cons rfl<|.nil) (.cons rfl<|.nil) (.cons sibA6<|.nil) rfl rfl rfl rfl rfl rfl (.inl rfl) rfl ?_;refine zy ?_;refine ks (fun _ U W=>sB (ns:=[_,_,_]) sizeOf71 U U rfl rfl (W rfl rfl) rfl rfl)<|PQe.nil ?_;exact⟨((seen32++[j35]),y41.1,y41.2),(),h,sP⟩
 ·rintro⟨nl9,v10⟩ _ h;refine zm ?_;refine PWl.openH (id:=102) rfl (fun bs44 ck44=>?_);refine zC ?_;refine yN (zK h) 54 [3] [16,100,101,102,1100,1101,1102,30321] (fun⟨nl45,v46⟩=>([],[(30322,.mapH nl45 [.u16,.u64] true (zO DT.k (EV.eO NN) v46))])) (fun h=>?_) ?_
  ·refine g5 ?_;refine zc h 54 [3,39] [16,100,101,102,1100,1101,1102,30321] (fun⟨seen68,nl69,v70⟩=>([],[(39,.iterO 102 bs44 ck44 seen68),(30322,.mapH nl69 [.u16,.u64] true (zO DT.k (EV.eO NN) v70))])) ?_;rintro N ⟨seen68,nl69,v70⟩ _ h;refine zC ?_;obtain⟨hy79,h⟩:=zq h;replace h:=w5a h;refine PWl.nextN rfl rfl rfl (w8a hy79) rfl (fun hy72=>?_) (fun j71 hy73 hy74=>?_)
   ·replace h:=h.1 (w6a hy72);refine zL ?_;refine PWc.condF rfl<|wZ ?_;exact⟨(nl69,v70),(),h,sP⟩
   ·replace h:=h.2 j71 (w7a hy73) hy74;refine zL ?_;refine PWc.condT rfl ?_;refine zH ?_;obtain⟨kv75,hy76,h⟩:=yF h;refine ws (LR.entryN rfl rfl rfl (Yt hy76) rfl rfl) ?_;refine zH ?_;refine uU [3,7,39] [7,16,39,100,101,102,1100,1101,1102,30321,30322] ?_;refine PWc.regionE [zt [44] [16],zt [45] [16],zt [46] [16],zt [47] [16],⟨[48],[],[16],[],[],[30322],[],[]⟩,⟨[49],[],[7],[],[],[],[],[]⟩,⟨[48,50],[16,30322],[16,30321,30322],[],[(30322,[48])],[30322],[30321],[16,30321,30322]⟩,zt [51] [16],zt [52] [16],⟨[],[16],[16,30322],[],[],[],[30321,30322],[]⟩] (by kernel_rfl) (by kernel_rfl) rfl ?_;refine wMa ?_;refine kp (fun _ U W=>LR.weak (lA (ps:=(EV.eO N0 kv75.2).map .d) isAgg57 sizeOf57 U (W rfl rfl) rfl rfl) (wkO N0 kv75.2)) ?_;obtain⟨y77,hy78,h⟩:=zP h;refine PQe.callObjSN [(100,30322),(500,16),(501,30321)] [48] [100,500,501] [(100,.mapH y77.1 [.u16,.u64] true (zO DT.k (EV.eO NN) y77.2)),(500,.cells 73 [.d (.od NN (.sl (List.map PT.e v6))),.mp 501,.junk])] [(501,.mapH nl9 [.u16,.u64] true (zO DT.k (EV.eO NN) v10))] (PObjN.frame [(500,.cells 73 [.d (.od NN (.sl (List.map PT.e v6))),.mp 501,.mp 100]),(501,.mapH nl9 [.u16,.u64] true (zO DT.k (EV.eO NN) v10))] [(500,.cells 73 [.d (.od NN (.sl (List.map PT.e v6))),.mp 501,.junk]),(501,.mapH nl9 [.u16,.u64] true (zO DT.k (EV.eO NN) v10))] (WF NN kv75.2 nl69 v70 y77 hy78) (fun _=>rfl) (fun _=>rfl) rfl rfl (.cons (.cells (.keep rfl<|.keep rfl<|.junk<|.nil))<|.cons (.same rfl)<|.nil)) hN hK (fun _ U=>⟨U rfl rfl,xY U rfl rfl⟩) call32 (by first | rfl | (simp;done) | (simp[PV.nilD,PV.ren,rn] <;> omega)) (by repeat' first | constructor | (congr 1;first | (simp;done) | (simp;omega) | omega)) (.cons rfl<|.cons rfl<|.nil) (.cons rfl<|.nil) (.cons sibA6<|.nil) rfl rfl rfl rfl rfl rfl (.inl rfl) rfl ?_;refine zy ?_;refine ks (fun _ U W=>sB (ns:=[_,_,_]) sizeOf71 U U rfl rfl (W rfl rfl) rfl rfl)<|PQe.nil ?_;exact⟨((seen68++[j71]),y77.1,y77.2),(),h,sP⟩
  ·rintro⟨nl45,v46⟩ _ h;refine zF ?_;refine wX ?_;exact EndsO.mk ⟨(v6,nl9,v10,nl45,v46),h⟩ (.inr rfl) (Sub.trans (Sub.nToH (id:=101) rfl)<|Sub.trans (Sub.nToH (id:=102) rfl)<|yYa [2] [100,101,102,16,30321,30322,1100,1101,1102]) (.cons (.tmp rfl)<|.nil) rfl rfl
end Go.Proofs

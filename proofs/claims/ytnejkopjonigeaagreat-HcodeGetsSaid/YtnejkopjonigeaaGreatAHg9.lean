/- Side texts. -/
import Derived.Laws.Cover1
import Derived.Test.YtnejkopjonigeaaGreatAHg1
import Derived.Test.YtnejkopjonigeaaGreatAHg3
import Derived.Test.YtnejkopjonigeaaGreatAHg4
import Derived.Test.YtnejkopjonigeaaGreatAHg5
import Derived.Test.YtnejkopjonigeaaGreatAHg6
import Derived.Test.YtnejkopjonigeaaGreatAHg7
import Derived.Test.YtnejkopjonigeaaGreatAHg8
set_option linter.unusedVariables false
set_option linter.unusedSimpArgs false
namespace Go.Proofs
open Go.Ep Tryz
set_option maxHeartbeats 1000000
set_option maxRecDepth 100000
set_option linter.unusedVariables false
set_option linter.unusedSimpArgs false
theorem ZU{who1 nl2 m3 r0}(h:(wd who1 nl2 m3).wp (·=r0)):PObj prog 92 [.ref 100 0,zC .u16 who1] [(100,.cells 153 [.mp 101]),(101,.mapH nl2 [.u16,.u16] false (yI kP (eL RN.e) m3))] [100] (.d (.v (.bool r0.1))) (fun _:Unit=>[(100,.cells 153 [.mp 101]),(101,.mapH r0.2.1 [.u16,.u16] false (yI kP (eL RN.e) r0.2.2))]):=by
 refine yY [0,1] func92 ntmps92 ?_;intro ctx hK pv;refine zY ?_;refine yF (zO h) 19 [0,1] [100,101,1100] (fun v4=>([(15,.d (.v (.bool v4)))],[])) (fun h=>?_) ?_
 ·refine zl ?_;refine yK 11 h (fun h=>?_) fun h=>?_
  ·refine zK ?_;exact⟨true,(),h,sP⟩
  ·refine zE ?_;obtain⟨y6,hy7,h⟩:=zV h;refine wt (LR.callObjS [(100,100),(101,101)] [] [100,101] [] [(100,.cells 153 [.mp 101]),(101,.mapH nl2 [.u16,.u16] false (yI kP (eL RN.e) m3))] (Yn hy7) hK rfl call131 rfl (by first | rfl | (simp;done) | (simp[PV.nilD,PV.ren,rn] <;> omega)) (by repeat' first | constructor | (congr 1;first | (simp;done) | (simp;omega) | omega)) (.nil) (.cons rfl<|.cons rfl<|.nil) (by repeat' first | constructor | (congr 1;first | (simp;done) | (simp;omega) | omega)) rfl rfl rfl rfl rfl rfl) ?_;refine zE ?_;exact⟨y6,(),h,sP⟩
 ·rintro v4 _ h;refine zD h (fun h=>?_) fun h=>?_
  ·refine zG ?_;refine wX ?_;cases h;exact yl [4] [100,101,1100]
  ·refine zK ?_;obtain⟨y9,hy10,h⟩:=zV h;refine ZCa [(100,100),(101,101)] [] [100,101] [101] [100] (YO hy10) call132 ?_;refine zE ?_;refine zx [] [100,101,1100] ?_;refine zQ ?_;refine wX ?_;cases h;exact yl [4] [100,101,1100]
theorem YP{who1 nl2 m3 r0}(h:(xj who1 nl2 m3).wp (·=r0)):PObj prog 55 [.ref 100 0,zC .u16 who1] [(100,.cells 153 [.mp 101]),(101,.mapH nl2 [.u16,.u16] false (yI kP (eL RN.e) m3))] [100,101] (zW PT.e r0) (fun _:Unit=>[(100,.cells 153 [.mp 101]),(101,.mapH nl2 [.u16,.u16] false (yI kP (eL RN.e) m3))]):=by
 refine yY [0,1] func55 ntmps55 ?_;intro ctx hK pv;refine zE ?_;refine ws (aR 99 2 rfl) ?_;refine ze ?_;refine PWc.condF rfl ?_;refine zQ ?_;refine ws (aR 99 2 rfl) ?_;refine zl ?_;refine PWl.openH (id:=101) rfl (fun bs4 ck4=>?_);refine zE ?_;refine yF (zO h) 33 [] [100,101,1100,1101] (fun c5=>([(5,.row 5 (c5.length))],[(5,.row 99 2 (List.map PT.e c5))])) (fun h=>?_) ?_
 ·refine g5 ?_;refine zf h 33 [1,14] [100,101,1100,1101] (fun⟨seen30,c31⟩=>([(5,.row 5 (c31.length))],[(5,.row 99 2 (List.map PT.e c31)),(14,.iterO 101 bs4 ck4 seen30)])) ?_;rintro N ⟨seen30,c31⟩ _ h;refine zE ?_;obtain⟨hy42,h⟩:=zy h;replace h:=iNxt h;refine PWl.nextN rfl rfl rfl (nxtD hy42) rfl (fun hy33=>?_) (fun j32 hy34 hy35=>?_)
  ·replace h:=h.1 (nxtA hy33);refine zQ ?_;refine PWc.condF rfl<|wZ ?_;exact⟨c31,(),h,sP⟩
  ·replace h:=h.2 j32 (nxtB hy34) hy35;refine zQ ?_;refine PWc.condT rfl ?_;refine zG ?_;obtain⟨kv36,hy37,h⟩:=yO h;refine ws (LR.entryN rfl rfl rfl (xGa hy37) rfl rfl) ?_;refine zl ?_;refine ws (LR.idxArrK (j:=0) underlying162 rfl sizeOf23 rfl rfl rfl rfl) ?_;refine zG ?_;refine zD h (fun h=>?_) fun h=>?_
   ·refine zE ?_;refine ws (LR.idxArrK (j:=1) underlying162 rfl sizeOf23 rfl rfl rfl rfl) ?_;refine zE ?_;refine ws (LR.build (ns:=[_,_]) qq rfl rfl rfl)<|ws (LR.buildSliceD [.tmp 28] WE rfl rfl (.cons rfl rfl rfl<|.nil) (by decide) (by decide)) ?_;obtain⟨hy41,h⟩:=zy h;refine ws (LR.appT (enc:=PT.e) (L:=c31) (R:=[(⟨kv36.1.2,kv36.2⟩:PT)]) [5,24] WE underlying28 rfl rfl rfl (Src.slT (enc:=PT.e) (R:=[(⟨kv36.1.2,kv36.2⟩:PT)]) rfl (fun _=>rfl)) (fun _=>rfl) hy41 rfl rfl)<|xd [1,14,30] [5,14,100,101,1100,1101] ?_;refine zE ?_;exact⟨((seen30++[j32]),(c31++[(⟨kv36.1.2,kv36.2⟩:PT)])),(),h,sP⟩
   ·refine g5 ?_;exact⟨((seen30++[j32]),c31),(),h,sP⟩
 ·rintro c5 _ h;refine zQ ?_;obtain⟨v43,hy44,h⟩:=zV h;refine PWl.frz [5,31] hK (.cons rfl<|.cons rfl<|.nil) rfl (by simp) ?_;refine ws (LR.rowN (uE hy44) rfl call59 rfl rfl rfl rfl) ?_;refine zE ?_;refine wX ?_;cases h;exact EndsO.mk () (.inr rfl) (Sub.trans (Sub.frz [4,32] hK rfl (by simp) (AllRow.get (.cons rfl<|.cons rfl<|.nil)))<|Sub.trans (Sub.nToH (id:=101) rfl)<|vJ [4] [100,101,1100,1101]) (.cons (.tmp rfl)<|.nil) rfl rfl
theorem ZV{who1 c2 nl3 m4 r0}(h:(we who1 c2 nl3 m4).wp (·=r0)):PObj prog 93 [.ref 100 0,zC .u16 who1,zW PT.e c2] [(100,.cells 153 [.mp 101]),(101,.mapH nl3 [.u16,.u16] false (yI kP (eL RN.e) m4))] [100] (zC .i64 r0.1) (fun _:Unit=>[(100,.cells 153 [.mp 101]),(101,.mapH r0.2.1 [.u16,.u16] false (yI kP (eL RN.e) r0.2.2))]):=by
 refine yY [0,1,2] func93 ntmps93 ?_;intro ctx hK pv;refine ym ?_;obtain⟨y5,hy6,h⟩:=zV h;refine ZCa [(100,100),(101,101)] [] [100,101] [] [100,101] (Yn hy6) call131 ?_;refine zE ?_;refine zD h (fun h=>?_) fun h=>?_
 ·refine g5 ?_;refine zx [] [100,101,1100] ?_;refine zQ ?_;refine wX ?_;cases h;exact yl [6] [100,101,1100]
 ·refine zQ ?_;refine zx [0,1,2] [100,101,1100] ?_;refine zQ ?_;obtain⟨y8,hy9,h⟩:=zV h;refine ZCa [(100,100),(101,101)] [] [100,101] [] [100,101] (YP hy9) call55 ?_;refine g5 ?_;obtain⟨v10,hy11,h⟩:=zV h;refine ws (LR.rowN (wza hy11) rfl call133 rfl rfl rfl rfl) ?_;refine zQ ?_;refine yF (zO h) 31 [] [100,1100] (fun⟨nl12,v13⟩=>([],[(101,.mapH nl12 [.u16,.u16] false (yI kP (eL RN.e) v13))])) (fun h=>?_) ?_
  ·refine g5 ?_;refine zf h 31 [0,1,17,18] [17,100,1100] (fun⟨v27,nl28,v29⟩=>([(19,zC .i64 v27)],[(101,.mapH nl28 [.u16,.u16] false (yI kP (eL RN.e) v29))])) ?_;rintro N ⟨v27,nl28,v29⟩ _ h;refine zK ?_;refine zD h (fun h=>?_) fun h=>?_
   ·refine zK ?_;obtain⟨x31,hy32,h⟩:=yO h;refine ws (LR.idxRowT (L:=v10) (y:=x31) underlying28 sizeOf99 rfl rfl rfl hy32)<|ws (LR.loadRpT (enc:=PT.e) (L:=v10) (y:=x31) isAgg99 sizeOf99 rfl rfl hy32.2) ?_;refine wV ?_;obtain⟨y33,hy34,h⟩:=zV h;refine ZCa [(100,100),(101,101)] [] [100,101] [101] [100] (YO hy34) call132 ?_;refine g5 ?_;refine zx [0,1,17,18,19] [17,100,101,1100] ?_;refine zG ?_;exact⟨((IntKind.i64.wrap (v27+1)),y33.1,y33.2),(),h,sP⟩
   ·refine wZ ?_;exact⟨(nl28,v29),(),h,sP⟩
  ·rintro⟨nl12,v13⟩ _ h;refine zG ?_;refine wX ?_;cases h;exact yl [6] [100,101,1100]
theorem WF(s1:THubState)(r0:Unit⊕(Int×Int×A16×List PT×Bool×(List (Int×TMember))×Bool×(List ((Int×Int)×List RN))×Bool×(List (DT×EV))×Bool×(List (DT×EV))))(h:(uL s1).wp (·=r0)):(match r0 with | .inl r0=>PObj prog 56 [.agg (List.map .d (THubState.e s1))] [] [] (.tup [.d (.v (.pointer none)),zC .i64 1]) (fun _:Unit=>[]) | .inr r0=>PObj prog 56 [.agg (List.map .d (THubState.e s1))] [] [] (.tup [.ref 48 0,zC .i64 0]) (fun _:Unit=>[(48,.cells 112 [.ref 20380 0,.ref 45 0,.ref 20600 0]),(20380,.cells 150 (zC .u64 r0.1::zC .u16 r0.2.1::.mp 20381::wj r0.2.2.1 [])),(45,.cells 153 [.mp 20901]),(20600,.cells 156 [zW PT.e r0.2.2.2.1,.mp 20601,.mp 20602]),(20381,.mapH r0.2.2.2.2.1 [.u16] true (yI kI TMember.e r0.2.2.2.2.2.1)),(20901,.mapH r0.2.2.2.2.2.2.1 [.u16,.u16] false (yI kP (eL RN.e) r0.2.2.2.2.2.2.2.1)),(20601,.mapH r0.2.2.2.2.2.2.2.2.1 [.u16,.u64] true (yI DT.k EV.e r0.2.2.2.2.2.2.2.2.2.1)),(20602,.mapH r0.2.2.2.2.2.2.2.2.2.2.1 [.u16,.u64] true (yI DT.k EV.e r0.2.2.2.2.2.2.2.2.2.2.2))])):=by
 cases r0 with
 | inl r0=>
  refine yY [0] func56 ntmps56 ?_;intro ctx hK pv;refine zda ?_;obtain⟨y2,hy3,h⟩:=zV h;rcases y2 with z4 | z5
  ·replace h:=Z6a h;refine xO [] [] [] (uD hy3) call90 ?_;refine zl ?_;refine zx [1,4,5] [1] ?_;refine zG ?_;refine PWc.condT rfl ?_;refine zY ?_;refine wX ?_;replace h:(Sum.inl _:Unit⊕(Int×Int×A16×List PT×Bool×(List (Int×TMember))×Bool×(List ((Int×Int)×List RN))×Bool×(List (DT×EV))×Bool×(List (DT×EV))))=Sum.inl r0:=h;replace h:=Sum.inl.inj h;subst h;exact yl [2,3] []
  ·replace h:=Z7a h;refine xO [(26,20380),(20521,20381)] [] [26,20521] (uD hy3) call90 ?_;refine zl ?_;refine zx [1,4,5] [1,20380,20381] ?_;refine zG ?_;refine PWc.condF rfl ?_;refine ze ?_;obtain⟨y6,hy7,h⟩:=zV h;rcases y6 with z8 | z9
   ·replace h:=Z6a h;refine xO [] [] [] (ut hy7) call91 ?_;refine zl ?_;refine zx [1,4,5,6] [1,20380,20381] ?_;refine vu ?_;refine PWc.condT rfl ?_;refine zK ?_;refine wX ?_;replace h:(Sum.inl _:Unit⊕(Int×Int×A16×List PT×Bool×(List (Int×TMember))×Bool×(List ((Int×Int)×List RN))×Bool×(List (DT×EV))×Bool×(List (DT×EV))))=Sum.inl r0:=h;replace h:=Sum.inl.inj h;subst h;exact yl [2,3] []
   ·replace h:=Z7a h;refine xO [(12,20600),(30241,20601),(30242,20602)] [] [12,30241,30242] (ut hy7) call91 ?_;refine zl ?_;refine zx [1,4,5,6] [1,20380,20381,20600,20601,20602] ?_;refine vu ?_;refine wC rfl (fun hc10=>?_) (fun hc10=>?_)
    ·replace h:=iT hc10 h;refine zK ?_;refine wX ?_;replace h:(Sum.inl _:Unit⊕(Int×Int×A16×List PT×Bool×(List (Int×TMember))×Bool×(List ((Int×Int)×List RN))×Bool×(List (DT×EV))×Bool×(List (DT×EV))))=Sum.inl r0:=h;replace h:=Sum.inl.inj h;subst h;exact yl [2,3] []
    ·replace h:=iF hc10 h;refine zG ?_;obtain⟨y11,hy12,h⟩:=zV h;refine xO [(2,45),(30040,20901)] [] [2,30040] (Wj y11 hy12) call46<|xd [1,6,44,45] [1,45,20380,20381,20600,20601,20602,20901] ?_;refine g5 ?_;refine ws (LR.buildR (ns:=[_,_,_]) z7a rfl rfl rfl) ?_;refine vi ?_;refine wq (zO h) 90 [7] [45,48,20380,20381,20600,20601,20602] (fun⟨nl13,v14⟩=>([],[(20901,.mapH nl13 [.u16,.u16] false (yI kP (eL RN.e) v14))])) (fun h=>?_) ?_
     ·refine g5 ?_;refine zf h 90 [1,7,50,51] [1,45,48,20380,20381,20600,20601,20602] (fun⟨v46,nl47,v48⟩=>([(52,zC .i64 v46)],[(20901,.mapH nl47 [.u16,.u16] false (yI kP (eL RN.e) v48))])) ?_;rintro N ⟨v46,nl47,v48⟩ _ h;refine zK ?_;refine wC rfl (fun hc49=>?_) (fun hc49=>?_)
      ·replace h:=iT hc49 h;refine zY ?_;obtain⟨x50,hy51,h⟩:=yO h;refine xK hy51 ?_;refine ze ?_;refine yF (zO h) 90 [1,7,9,50,51,52] [1,9,45,48,20380,20381,20600,20601,20602,20901] (fun v52=>([(71,.d (.v (.bool v52)))],[])) (fun h=>?_) ?_
       ·refine g5 ?_;refine WJ ?_;obtain⟨x53,hy54,h⟩:=yO h;refine yz hy54 ?_;refine xX ?_;refine PQl.split (d:=66) rfl (fun hg55=>?_) (fun hg55=>?_)
        ·replace h:=iT hg55 h;refine Ys ?_;exact⟨true,(),h,sP⟩
        ·replace h:=iF hg55 h;refine yW ?_;obtain⟨v56,hy57,h⟩:=zV h;refine qt (fun _ U W=>cN (YK hy57) U call74 (Ya (fun a b=>U a b) rfl rfl) rfl rfl rfl) ?_;refine yC ?_;exact⟨(!v56),(),h,sP⟩
       ·rintro v52 _ h;refine wC rfl (fun hc58=>?_) (fun hc58=>?_)
        ·replace h:=iT hc58 h;refine zK ?_;refine wX ?_;replace h:(Sum.inl _:Unit⊕(Int×Int×A16×List PT×Bool×(List (Int×TMember))×Bool×(List ((Int×Int)×List RN))×Bool×(List (DT×EV))×Bool×(List (DT×EV))))=Sum.inl r0:=h;replace h:=Sum.inl.inj h;subst h;exact yl [2,3] []
        ·replace h:=iF hc58 h;refine zE ?_;refine zx [1,7,9,50,51,52] [1,9,45,48,20380,20381,20600,20601,20602,20901] ?_;refine PWc.regionE [yf [72] [48],yf [73] [48],yf [74] [48],⟨[75],[],[48],[],[],[45],[],[]⟩,yf [76] [9],⟨[77],[],[9],[],[],[],[],[]⟩,⟨[78],[20901],[45,20901],[],[(20901,[])],[],[],[45,20901]⟩] (by kernel_rfl) (by kernel_rfl) rfl ?_;refine Ys ?_;obtain⟨y59,hy60,h⟩:=zV h;refine Vl [(100,45),(101,20901)] [] [100,101] [101] [100] (ZU hy60) call92 ?_;refine PQe.nil<|zx [1,7,9,50,51,52] [1,9,45,48,20380,20381,20600,20601,20602,20901] ?_;refine PWc.regionE [yf [79] [48],yf [80] [48],yf [81] [48],⟨[82],[],[48],[],[],[45],[],[]⟩,yf [83] [9],⟨[84],[],[9],[],[],[],[],[]⟩,yf [85] [9],⟨[86],[],[9],[],[],[],[],[]⟩,⟨[87],[20901],[45,20901],[],[(20901,[])],[],[],[45,20901]⟩] (by kernel_rfl) (by kernel_rfl) rfl ?_;refine woa ?_;obtain⟨y61,hy62,h⟩:=zV h;refine Vl [(100,45),(101,20901)] [] [100,101] [101] [100] (ZV hy62) call93 ?_;refine PQe.nil<|zx [1,7,50,51,52] [1,45,48,20380,20381,20600,20601,20602,20901] ?_;refine zG ?_;exact⟨((IntKind.i64.wrap (v46+1)),y61.2.1,y61.2.2),(),h,sP⟩
      ·replace h:=iF hc49 h;refine wZ ?_;exact⟨(nl47,v48),(),h,sP⟩
     ·rintro⟨nl13,v14⟩ _ h;refine zY ?_;refine wX ?_;exact nomatch (show(Sum.inr _:Unit⊕(Int×Int×A16×List PT×Bool×(List (Int×TMember))×Bool×(List ((Int×Int)×List RN))×Bool×(List (DT×EV))×Bool×(List (DT×EV))))=Sum.inl r0 from h)
 | inr r0=>
  refine yY [0] func56 ntmps56 ?_;intro ctx hK pv;refine zda ?_;obtain⟨y2,hy3,h⟩:=zV h;rcases y2 with z4 | z5
  ·replace h:=Z6a h;refine xO [] [] [] (uD hy3) call90 ?_;refine zl ?_;refine zx [1,4,5] [1] ?_;refine zG ?_;refine PWc.condT rfl ?_;refine zY ?_;refine wX ?_;exact nomatch (show(Sum.inl _:Unit⊕(Int×Int×A16×List PT×Bool×(List (Int×TMember))×Bool×(List ((Int×Int)×List RN))×Bool×(List (DT×EV))×Bool×(List (DT×EV))))=Sum.inr r0 from h)
  ·replace h:=Z7a h;refine xO [(26,20380),(20521,20381)] [] [26,20521] (uD hy3) call90 ?_;refine zl ?_;refine zx [1,4,5] [1,20380,20381] ?_;refine zG ?_;refine PWc.condF rfl ?_;refine ze ?_;obtain⟨y6,hy7,h⟩:=zV h;rcases y6 with z8 | z9
   ·replace h:=Z6a h;refine xO [] [] [] (ut hy7) call91 ?_;refine zl ?_;refine zx [1,4,5,6] [1,20380,20381] ?_;refine vu ?_;refine PWc.condT rfl ?_;refine zK ?_;refine wX ?_;exact nomatch (show(Sum.inl _:Unit⊕(Int×Int×A16×List PT×Bool×(List (Int×TMember))×Bool×(List ((Int×Int)×List RN))×Bool×(List (DT×EV))×Bool×(List (DT×EV))))=Sum.inr r0 from h)
   ·replace h:=Z7a h;refine xO [(12,20600),(30241,20601),(30242,20602)] [] [12,30241,30242] (ut hy7) call91 ?_;refine zl ?_;refine zx [1,4,5,6] [1,20380,20381,20600,20601,20602] ?_;refine vu ?_;refine wC rfl (fun hc10=>?_) (fun hc10=>?_)
    ·replace h:=iT hc10 h;refine zK ?_;refine wX ?_;exact nomatch (show(Sum.inl _:Unit⊕(Int×Int×A16×List PT×Bool×(List (Int×TMember))×Bool×(List ((Int×Int)×List RN))×Bool×(List (DT×EV))×Bool×(List (DT×EV))))=Sum.inr r0 from h)
    ·replace h:=iF hc10 h;refine zG ?_;obtain⟨y11,hy12,h⟩:=zV h;refine xO [(2,45),(30040,20901)] [] [2,30040] (Wj y11 hy12) call46<|xd [1,6,44,45] [1,45,20380,20381,20600,20601,20602,20901] ?_;refine g5 ?_;refine ws (LR.buildR (ns:=[_,_,_]) z7a rfl rfl rfl) ?_;refine vi ?_;refine wq (zO h) 90 [7] [45,48,20380,20381,20600,20601,20602] (fun⟨nl13,v14⟩=>([],[(20901,.mapH nl13 [.u16,.u16] false (yI kP (eL RN.e) v14))])) (fun h=>?_) ?_
     ·refine g5 ?_;refine zf h 90 [1,7,50,51] [1,45,48,20380,20381,20600,20601,20602] (fun⟨v46,nl47,v48⟩=>([(52,zC .i64 v46)],[(20901,.mapH nl47 [.u16,.u16] false (yI kP (eL RN.e) v48))])) ?_;rintro N ⟨v46,nl47,v48⟩ _ h;refine zK ?_;refine wC rfl (fun hc49=>?_) (fun hc49=>?_)
      ·replace h:=iT hc49 h;refine zY ?_;obtain⟨x50,hy51,h⟩:=yO h;refine xK hy51 ?_;refine ze ?_;refine yF (zO h) 90 [1,7,9,50,51,52] [1,9,45,48,20380,20381,20600,20601,20602,20901] (fun v52=>([(71,.d (.v (.bool v52)))],[])) (fun h=>?_) ?_
       ·refine g5 ?_;refine WJ ?_;obtain⟨x53,hy54,h⟩:=yO h;refine yz hy54 ?_;refine xX ?_;refine PQl.split (d:=66) rfl (fun hg55=>?_) (fun hg55=>?_)
        ·replace h:=iT hg55 h;refine Ys ?_;exact⟨true,(),h,sP⟩
        ·replace h:=iF hg55 h;refine yW ?_;obtain⟨v56,hy57,h⟩:=zV h;refine qt (fun _ U W=>cN (YK hy57) U call74 (Ya (fun a b=>U a b) rfl rfl) rfl rfl rfl) ?_;refine yC ?_;exact⟨(!v56),(),h,sP⟩
       ·rintro v52 _ h;refine wC rfl (fun hc58=>?_) (fun hc58=>?_)
        ·replace h:=iT hc58 h;refine zK ?_;refine wX ?_;exact nomatch (show(Sum.inl _:Unit⊕(Int×Int×A16×List PT×Bool×(List (Int×TMember))×Bool×(List ((Int×Int)×List RN))×Bool×(List (DT×EV))×Bool×(List (DT×EV))))=Sum.inr r0 from h)
        ·replace h:=iF hc58 h;refine zE ?_;refine zx [1,7,9,50,51,52] [1,9,45,48,20380,20381,20600,20601,20602,20901] ?_;refine PWc.regionE [yf [72] [48],yf [73] [48],yf [74] [48],⟨[75],[],[48],[],[],[45],[],[]⟩,yf [76] [9],⟨[77],[],[9],[],[],[],[],[]⟩,⟨[78],[20901],[45,20901],[],[(20901,[])],[],[],[45,20901]⟩] (by kernel_rfl) (by kernel_rfl) rfl ?_;refine Ys ?_;obtain⟨y59,hy60,h⟩:=zV h;refine Vl [(100,45),(101,20901)] [] [100,101] [101] [100] (ZU hy60) call92 ?_;refine PQe.nil<|zx [1,7,9,50,51,52] [1,9,45,48,20380,20381,20600,20601,20602,20901] ?_;refine PWc.regionE [yf [79] [48],yf [80] [48],yf [81] [48],⟨[82],[],[48],[],[],[45],[],[]⟩,yf [83] [9],⟨[84],[],[9],[],[],[],[],[]⟩,yf [85] [9],⟨[86],[],[9],[],[],[],[],[]⟩,⟨[87],[20901],[45,20901],[],[(20901,[])],[],[],[45,20901]⟩] (by kernel_rfl) (by kernel_rfl) rfl ?_;refine woa ?_;obtain⟨y61,hy62,h⟩:=zV h;refine Vl [(100,45),(101,20901)] [] [100,101] [101] [100] (ZV hy62) call93 ?_;refine PQe.nil<|zx [1,7,50,51,52] [1,45,48,20380,20381,20600,20601,20602,20901] ?_;refine zG ?_;exact⟨((IntKind.i64.wrap (v46+1)),y61.2.1,y61.2.2),(),h,sP⟩
      ·replace h:=iF hc49 h;refine wZ ?_;exact⟨(nl47,v48),(),h,sP⟩
     ·rintro⟨nl13,v14⟩ _ h;refine zY ?_;refine wX ?_;replace h:(Sum.inr _:Unit⊕(Int×Int×A16×List PT×Bool×(List (Int×TMember))×Bool×(List ((Int×Int)×List RN))×Bool×(List (DT×EV))×Bool×(List (DT×EV))))=Sum.inr r0:=h;replace h:=Sum.inr.inj h;subst h;exact yl [2,3] [48,20380,45,20600,20381,20901,20601,20602]
theorem jB{s1 r0}(h:(Zq s1).wp (·=r0)):PFun prog 18 [.agg (List.map .d (THubState.e s1))] (.d (.v (.bool r0))):=by
 refine ya [0] func18 ntmps18 ?_;intro ctx hK;refine zY ?_;refine yF (zO h) 18 [1] [1] (fun e2=>([(4,zC .i64 e2)],[])) (fun h=>?_) ?_
 ·refine zE ?_;obtain⟨y3,hy4,h⟩:=zV h;rcases y3 with z5 | z6
  ·replace h:=Z6a h;refine xO [] [] [] (WF s1 (.inl z5) hy4) call56 ?_;refine zY ?_;exact⟨1,(),h,sP⟩
  ·replace h:=Z7a h;refine xO [(48,20140),(20380,20141),(45,20142),(20600,20143),(20381,20144),(20901,20145),(20601,20146),(20602,20147)] [] [48,20380,45,20600,20381,20901,20601,20602] (WF s1 (.inr z6) hy4) call56 ?_;refine zY ?_;exact⟨0,(),h,sP⟩
 ·rintro e2 _ h;refine g5 ?_;refine yF (zO h) 18 [] [] (fun v7=>([(2,.d (.v (.bool v7)))],[])) (fun h=>?_) ?_
  ·refine zG ?_;refine yK 12 h (fun h=>?_) fun h=>?_
   ·refine ze ?_;exact⟨(decide ((s1.all.length:Int)<=4096)),(),h,sP⟩
   ·refine ze ?_;exact⟨false,(),h,sP⟩
  ·rintro v7 _ h;refine wX ?_;cases h;exact xT
theorem xaa{v1 r0}(h:(Uo v1).wp (·=r0)):PFun prog 94 [zC .u64 v1] (zC .i64 r0):=by
 refine ya [0] func94 ntmps94 ?_;intro ctx hK;refine ym ?_;refine yF (zO h) 11 [] [] (fun n2=>([(3,zC .i64 n2)],[])) (fun h=>?_) ?_
 ·refine g5 ?_;refine zf h 11 [] [] (fun⟨v7,n8⟩=>([(0,zC .u64 v7),(3,zC .i64 n8)],[])) ?_;rintro N ⟨v7,n8⟩ _ h;refine zY ?_;refine zD h (fun h=>?_) fun h=>?_
  ·refine vu ?_;exact⟨((Int.fdiv v7 (2 ^ 8)),(IntKind.i64.wrap (n8+1))),(),h,sP⟩
  ·refine wZ ?_;exact⟨n8,(),h,sP⟩
 ·rintro n2 _ h;refine zK ?_;refine wX ?_;cases h;exact xT
theorem yTa{v1 i2 r0}(h:(VG v1 i2).wp (·=r0)):PFun prog 95 [zC .u64 v1,zC .i64 i2] (zC .u8 r0):=by
 refine ya [0,1] func95 ntmps95 ?_;intro ctx hK;refine zl ?_;refine ws (LR.convInt underlying183 (by rw[underlying3];rfl) rfl rfl) ?_;refine zE ?_;refine zD h (fun h=>?_) fun h=>?_
 ·refine zG ?_;refine wX ?_;cases h;exact xT
 ·refine zK ?_;refine ws (LR.convInt underlying183 (by rw[underlying3];rfl) rfl rfl) ?_;refine g5 ?_;obtain⟨hy4,h⟩:=zy h;refine ws (LR.shr rfl rfl hy4 rfl) ?_;refine ws (LR.convInt underlying5 (by rw[underlying22];rfl) rfl rfl) ?_;refine zE ?_;refine wX ?_;cases h;exact xT
theorem yUa{b1 v2 r0}(h:(VH b1 v2).wp (·=r0)):PRow prog 58 [zW (eK .u8) b1,zC .u64 v2] 5 1 (List.map (eK .u8) r0):=by
 refine PRow.intro (sl:=[(0,_),(1,_)]) func58 rfl ntmps58 rfl rfl ?_;intro ctx hK;refine zE ?_;refine ws (aR 5 1 rfl) ?_;refine zG ?_;obtain⟨v3,hy4,h⟩:=zV h;refine xN (xaa hy4) call94 ?_;refine ym ?_;obtain⟨hy5,h⟩:=zy h;refine ws (LR.make0 (n:=Int.toNat ((IntKind.i64.wrap (((IntKind.i64.wrap ((b1.length:Int)+v3)))+1)))) WR rfl rfl (by omega) (by omega) (by omega) rfl) ?_;refine zY ?_;obtain⟨hy6,h⟩:=zy h;refine ws (LR.appT (enc:=(eK .u8)) (L:=([]:List Int)) (R:=b1) [6,15,16] WR underlying34 rfl vD rfl (Src.slT (enc:=(eK .u8)) (R:=b1) rfl (fun _=>rfl)) (fun _=>rfl) hy6 rfl rfl) ?_;refine g5 ?_;refine ws (LR.convInt underlying5 (by rw[underlying3];rfl) rfl rfl) ?_;refine ws (LR.buildSliceD [.tmp 20] WR rfl rfl (.cons rfl rfl rfl<|.nil) (by decide) (by decide)) ?_;obtain⟨hy7,h⟩:=zy h;refine ws (LR.appT (enc:=(eK .u8)) (L:=(([]:List Int)++b1)) (R:=[(IntKind.u8.wrap v3)]) [18] WR underlying34 rfl rfl rfl (Src.slT (enc:=(eK .u8)) (R:=[(IntKind.u8.wrap v3)]) rfl (fun _=>rfl)) (fun _=>rfl) hy7 rfl rfl) ?_;refine zK ?_;refine xd [1,5,6] [15] ?_;refine zG ?_;refine yF (zO h) 36 [] [] (fun v8=>([(6,.row 15 (v8.length))],[(15,.row 5 1 (List.map (eK .u8) v8))])) (fun h=>?_) ?_
 ·refine g5 ?_;refine zf h 36 [1] [] (fun⟨i19,v20⟩=>([(6,.row 15 (v20.length)),(7,zC .i64 i19)],[(15,.row 5 1 (List.map (eK .u8) v20))])) ?_ (hs:=zca);rintro N ⟨i19,v20⟩ _ h;refine zY ?_;refine zD h (fun h=>?_) fun h=>?_
  ·refine ze ?_;obtain⟨v22,hy23,h⟩:=zV h;refine xN (yTa hy23) call95<|ws (LR.buildSliceD [.tmp 32] WR rfl rfl (.cons rfl rfl rfl<|.nil) (by decide) (by decide)) ?_;obtain⟨hy24,h⟩:=zy h;refine ws (LR.appT (enc:=(eK .u8)) (L:=v20) (R:=[v22]) [6,29] WR underlying34 rfl rfl rfl (Src.slT (enc:=(eK .u8)) (R:=[v22]) rfl (fun _=>rfl)) (fun _=>rfl) hy24 rfl rfl) ?_;refine ze ?_;exact⟨((IntKind.i64.wrap (i19 - 1)),(v20++[v22])),(),h,sP⟩
  ·refine wZ ?_;exact⟨v20,(),h,sP⟩
 ·rintro v8 _ h;refine zK ?_;refine wX ?_;cases h;exact⟨.inr rfl,4,rfl,.inr ⟨15,_,rfl,(by simp),rfl⟩⟩
theorem vp{b1 row2 r0}(h:(xY b1 row2).wp (·=r0)):PObj prog 57 [.ref 100 0,zW (eK .u8) b1] [(100,.cells 56 [.row 101 (row2.length)]),(101,.row 5 1 (List.map (eK .u8) row2))] [100] (.tup []) (fun _:Unit=>[(100,.cells 56 [.row 101 (r0.length)]),(101,.row 5 1 (List.map (eK .u8) r0))]):=by
 refine yY [0,1] func57 ntmps57 ?_;intro ctx hK pv;refine zK ?_;refine PWc.condT rfl ?_;refine ze ?_;obtain⟨hy3,h⟩:=zy h;refine PWl.sub (Sub.junkCell (id:=100) (j:=0) rfl)<|ws (LR.appT (enc:=(eK .u8)) (L:=row2) (R:=b1) [10] WR underlying34 rfl rfl rfl (Src.slT (enc:=(eK .u8)) (R:=b1) rfl (fun _=>rfl)) (fun _=>rfl) hy3 rfl rfl) ?_;refine zG ?_;cases h;exact EndsO.mk () (.inl rfl) (sO (tl:=[]) (to:=[(100,_),(101,_),(1100,_)]) rfl (.nil) (.cons rfl zJa<|.c2 rfl rfl rfl rfl<|.nil)) (.nil) rfl rfl
theorem za{v1 row2 r0}(h:(zb v1 row2).wp (·=r0)):PObj prog 19 [.ref 100 0,zC .u64 v1] [(100,.cells 56 [.row 101 (row2.length)]),(101,.row 5 1 (List.map (eK .u8) row2))] [100] (.tup []) (fun _:Unit=>[(100,.cells 56 [.row 101 (r0.length)]),(101,.row 5 1 (List.map (eK .u8) r0))]):=by
 refine yY [0,1] func19 ntmps19 ?_;intro ctx hK pv;refine zQ ?_;obtain⟨v3,hy4,h⟩:=zV h;refine ws (LR.rowN (yUa hy4) rfl call58 rfl rfl rfl rfl) ?_;obtain⟨y5,hy6,h⟩:=zV h;refine PWl.frz [6] hK (.cons rfl<|.nil) rfl (by simp) ?_;refine xO [(100,100),(101,101)] [] [100,101] (vp hy6) call57 ?_;refine g5 ?_;cases h;exact EndsO.mk () (.inl rfl) (sO (tl:=[]) (to:=[(100,_),(101,_),(1100,_)]) rfl (.nil) (.cons rfl zJa<|.c2 rfl rfl rfl rfl<|.nil)) (.nil) rfl rfl
theorem vV{c1 row2 r0}(h:(xH c1 row2).wp (·=r0)):PObj prog 20 [.ref 100 0,zC .u8 c1] [(100,.cells 56 [.row 101 (row2.length)]),(101,.row 5 1 (List.map (eK .u8) row2))] [100] (.tup []) (fun _:Unit=>[(100,.cells 56 [.row 101 (r0.length)]),(101,.row 5 1 (List.map (eK .u8) r0))]):=by
 refine yY [0,1] func20 ntmps20 ?_;intro ctx hK pv;refine zQ ?_;refine ws (LR.buildSliceD [.tmp 5] WR rfl rfl (.cons rfl rfl rfl<|.nil) (by decide) (by decide)) ?_;obtain⟨y3,hy4,h⟩:=zV h;refine xO [(100,100),(101,101)] [] [100,101] (vp hy4) call57 ?_;refine g5 ?_;cases h;exact EndsO.mk () (.inl rfl) (sO (tl:=[]) (to:=[(100,_),(101,_),(1100,_)]) rfl (.nil) (.cons rfl zJa<|.c2 rfl rfl rfl rfl<|.nil)) (.nil) rfl rfl
theorem XJ{c1 row2 r0}(h:(vG c1 row2).wp (·=r0)):PObj prog 21 [.ref 100 0,zW PT.e c1] [(100,.cells 56 [.row 101 (row2.length)]),(101,.row 5 1 (List.map (eK .u8) row2))] [100] (.tup []) (fun _:Unit=>[(100,.cells 56 [.row 101 (r0.length)]),(101,.row 5 1 (List.map (eK .u8) r0))]):=by
 refine yY [0,1] func21 ntmps21 ?_;intro ctx hK pv;refine zQ ?_;obtain⟨v3,hy4,h⟩:=zV h;refine ws (LR.rowN (uE hy4) rfl call59 rfl rfl rfl rfl) ?_;refine ze ?_;refine ws (LR.convInt underlying22 (by rw[underlying3];rfl) rfl rfl) ?_;obtain⟨y5,hy6,h⟩:=zV h;refine xO [(100,100),(101,101)] [] [100,101] (za hy6) call19 ?_;refine zE ?_;refine zx [0,1] [9,100,101,1100] ?_;refine zY ?_;refine zf h 49 [0,15,16] [9,1100] (fun⟨v75,v76⟩=>([(17,zC .i64 v75)],[(100,.cells 56 [.row 101 (v76.length)]),(101,.row 5 1 (List.map (eK .u8) v76))])) ?_;rintro N ⟨v75,v76⟩ _ h;refine zK ?_;refine zD h (fun h=>?_) fun h=>?_
 ·refine zE ?_;refine yF (zO h) 49 [0,15,16,17] [9,1100] (fun v78=>([],[(100,.cells 56 [.row 101 (v78.length)]),(101,.row 5 1 (List.map (eK .u8) v78))])) (fun h=>?_) ?_
  ·refine zQ ?_;obtain⟨x79,hy80,h⟩:=yO h;refine ws (LR.idxRowT (L:=v3) (y:=x79) underlying28 sizeOf99 rfl rfl rfl hy80)<|ws (LR.loadRpT (enc:=PT.e) (L:=v3) (y:=x79) isAgg99 sizeOf99 rfl rfl hy80.2) ?_;refine zl ?_;refine ws (LR.convInt underlying22 (by rw[underlying23];rfl) rfl rfl) ?_;obtain⟨y81,hy82,h⟩:=zV h;refine xO [(100,100),(101,101)] [] [100,101] (za hy82) call19 ?_;refine zE ?_;refine zx [0,5,15,16,17] [5,9,100,101,1100] ?_;refine zK ?_;refine ws (LR.convInt underlying22 (by rw[underlying3];rfl) rfl rfl) ?_;obtain⟨y83,hy84,h⟩:=zV h;refine xO [(100,100),(101,101)] [] [100,101] (za hy84) call19 ?_;refine zE ?_;refine zx [0,5,15,16,17] [5,9,100,101,1100] ?_;refine ze ?_;refine zf h 49 [0,15,16,17,33,34] [9,1100] (fun⟨v101,v102⟩=>([(35,zC .i64 v101)],[(100,.cells 56 [.row 101 (v102.length)]),(101,.row 5 1 (List.map (eK .u8) v102))])) ?_;rintro N ⟨v101,v102⟩ _ h;refine zK ?_;refine zD h (fun h=>?_) fun h=>?_
   ·refine zK ?_;obtain⟨x104,hy105,h⟩:=yO h;refine xK hy105 ?_;refine ym ?_;obtain⟨y106,hy107,h⟩:=zV h;refine xO [(100,100),(101,101)] [] [100,101] (za hy107) call19 ?_;refine g5 ?_;refine zx [0,7,15,16,17,33,34,35] [7,9,100,101,1100] ?_;refine zG ?_;obtain⟨y108,hy109,h⟩:=zV h;refine xO [(100,100),(101,101)] [] [100,101] (za hy109) call19 ?_;refine g5 ?_;refine zx [0,15,16,17,33,34,35] [9,100,101,1100] ?_;refine zG ?_;exact⟨((IntKind.i64.wrap (v101+1)),y108),(),h,sP⟩
   ·refine wZ ?_;exact⟨v102,(),h,sP⟩
  ·rintro v78 _ h;refine zG ?_;exact⟨((IntKind.i64.wrap (v75+1)),v78),(),h,sP⟩
 ·refine wZ ?_;cases h;exact EndsO.mk () (.inl rfl) (sO (tl:=[]) (to:=[(100,_),(101,_),(1100,_)]) rfl (.nil) (.cons rfl zJa<|.c2 rfl rfl rfl rfl<|.nil)) (.nil) rfl rfl
theorem XK{d1 row2 r0}(h:(vv d1 row2).wp (·=r0)):PObj prog 98 [.ref 100 0,.agg (List.map .d (DT.e d1))] [(100,.cells 56 [.row 101 (row2.length)]),(101,.row 5 1 (List.map (eK .u8) row2))] [100] (.tup []) (fun _:Unit=>[(100,.cells 56 [.row 101 (r0.length)]),(101,.row 5 1 (List.map (eK .u8) r0))]):=by
 refine yY [0,1] func98 ntmps98 ?_;intro ctx hK pv;refine ym ?_;refine ws (LR.convInt underlying22 (by rw[underlying23];rfl) rfl rfl) ?_;obtain⟨y3,hy4,h⟩:=zV h;refine xO [(100,100),(101,101)] [] [100,101] (za hy4) call19 ?_;refine g5 ?_;refine zx [0,3] [3,100,101,1100] ?_;refine zG ?_;obtain⟨y5,hy6,h⟩:=zV h;refine xO [(100,100),(101,101)] [] [100,101] (za hy6) call19 ?_;refine g5 ?_;cases h;exact EndsO.mk () (.inl rfl) (sO (tl:=[]) (to:=[(100,_),(101,_),(1100,_)]) rfl (.nil) (.cons rfl zJa<|.c2 rfl rfl rfl rfl<|.nil)) (.nil) rfl rfl
theorem Wk{s1 row2 r0}(h:(vN s1 row2).wp (·=r0)):PObj prog 99 [.ref 100 0,.d (.v (.string s1))] [(100,.cells 56 [.row 101 (row2.length)]),(101,.row 5 1 (List.map (eK .u8) row2))] [100] (.tup []) (fun _:Unit=>[(100,.cells 56 [.row 101 (r0.length)]),(101,.row 5 1 (List.map (eK .u8) r0))]):=by
 refine yY [0,1] func99 ntmps99 ?_;intro ctx hK pv;refine zK ?_;refine ws (LR.convInt underlying22 (by rw[underlying3];rfl) rfl rfl) ?_;obtain⟨y3,hy4,h⟩:=zV h;refine xO [(100,100),(101,101)] [] [100,101] (za hy4) call19 ?_;refine g5 ?_;refine zx [0,1] [100,101,1100] ?_;refine zQ ?_;obtain⟨hy5,h⟩:=zy h;refine ws (LR.strBytes underlying9 underlying34 underlying5 rfl hy5) ?_;obtain⟨y6,hy7,h⟩:=zV h;refine xO [(100,100),(101,101)] [] [100,101] (vp hy7) call57 ?_;refine g5 ?_;cases h;exact EndsO.mk () (.inl rfl) (sO (tl:=[]) (to:=[(100,_),(101,_),(1100,_)]) rfl (.nil) (.cons rfl zJa<|.c2 rfl rfl rfl rfl<|.nil)) (.nil) rfl rfl
theorem jC{l1 row2 r0}(h:(uM l1 row2).wp (·=r0)):PObj prog 100 [.ref 100 0,zW DT.e l1] [(100,.cells 56 [.row 101 (row2.length)]),(101,.row 5 1 (List.map (eK .u8) row2))] [100] (.tup []) (fun _:Unit=>[(100,.cells 56 [.row 101 (r0.length)]),(101,.row 5 1 (List.map (eK .u8) r0))]):=by
 refine yY [0,1] func100 ntmps100 ?_;intro ctx hK pv;refine zE ?_;refine ws (aR 101 2 rfl) ?_;refine zl ?_;refine yF (zO h) 39 [0] [100,101,1100] (fun some3=>([(4,.row 4 (some3.length))],[(4,.row 101 2 (List.map DT.e some3))])) (fun h=>?_) ?_
 ·refine g5 ?_;refine zf h 39 [0,9,10] [100,101,1100] (fun⟨v22,some23⟩=>([(4,.row 4 (some23.length)),(11,zC .i64 v22)],[(4,.row 101 2 (List.map DT.e some23))])) ?_;rintro N ⟨v22,some23⟩ _ h;refine zK ?_;refine zD h (fun h=>?_) fun h=>?_
  ·refine zE ?_;refine yF (zO h) 39 [0,9,10,11] [100,101,1100] (fun some25=>([(4,.row 4 (some25.length))],[(4,.row 101 2 (List.map DT.e some25))])) (fun h=>?_) ?_
   ·refine zQ ?_;obtain⟨x26,hy27,h⟩:=yO h;refine xK hy27 ?_;refine ze ?_;obtain⟨v28,hy29,h⟩:=zV h;refine xN (YL hy29) call137 ?_;refine g5 ?_;refine zD h (fun h=>?_) fun h=>?_
    ·refine zQ ?_;refine ws (LR.buildSliceD [.tmp 18] wn rfl rfl (.cons rfl rfl rfl<|.nil) (by decide) (by decide)) ?_;obtain⟨hy31,h⟩:=zy h;refine ws (LR.appT (enc:=DT.e) (L:=some23) (R:=[x26]) [4,17] wn underlying102 rfl rfl rfl (Src.slT (enc:=DT.e) (R:=[x26]) rfl (fun _=>rfl)) (fun _=>rfl) hy31 rfl rfl) ?_;refine zE ?_;exact⟨(some23++[x26]),(),h,sP⟩
    ·refine g5 ?_;exact⟨some23,(),h,sP⟩
   ·rintro some25 _ h;refine zG ?_;exact⟨((IntKind.i64.wrap (v22+1)),some25),(),h,sP⟩
  ·refine wZ ?_;exact⟨some23,(),h,sP⟩
 ·rintro some3 _ h;refine zQ ?_;obtain⟨v32,hy33,h⟩:=zV h;refine PWl.frz [4,22] hK (.cons rfl<|.cons rfl<|.nil) rfl (by simp) ?_;refine ws (LR.rowN (UO hy33) rfl call138 rfl rfl rfl rfl) ?_;refine ze ?_;refine ws (LR.convInt underlying22 (by rw[underlying3];rfl) rfl rfl) ?_;obtain⟨y34,hy35,h⟩:=zV h;refine xO [(100,100),(101,101)] [] [100,101] (za hy35) call19 ?_;refine zE ?_;refine zx [0,4] [23,100,101,1100] ?_;refine zY ?_;refine zf h 39 [0,29,30] [23,1100] (fun⟨v48,v49⟩=>([(31,zC .i64 v48)],[(100,.cells 56 [.row 101 (v49.length)]),(101,.row 5 1 (List.map (eK .u8) v49))])) ?_;rintro N ⟨v48,v49⟩ _ h;refine zK ?_;refine zD h (fun h=>?_) fun h=>?_
  ·refine zK ?_;obtain⟨x51,hy52,h⟩:=yO h;refine ws (LR.idxRowT (L:=v32) (y:=x51) underlying102 sizeOf101 rfl rfl rfl hy52)<|ws (LR.loadRpT (enc:=DT.e) (L:=v32) (y:=x51) isAgg101 sizeOf101 rfl rfl hy52.2) ?_;refine zY ?_;obtain⟨y53,hy54,h⟩:=zV h;refine xO [(100,100),(101,101)] [] [100,101] (XK hy54) call98 ?_;refine g5 ?_;refine zx [0,29,30,31] [23,100,101,1100] ?_;refine zG ?_;exact⟨((IntKind.i64.wrap (v48+1)),y53),(),h,sP⟩
  ·refine wZ ?_;cases h;exact EndsO.mk () (.inl rfl) (sO (tl:=[]) (to:=[(100,_),(101,_),(1100,_)]) rfl (.nil) (.cons rfl zJa<|.c2 rfl rfl rfl rfl<|.nil)) (.nil) rfl rfl
theorem zOa{e1 row2 r0}(h:(Xf e1 row2).wp (·=r0)):PObj prog 60 [.ref 100 0,.agg (List.map .d (EV.e e1))] [(100,.cells 56 [.row 101 (row2.length)]),(101,.row 5 1 (List.map (eK .u8) row2))] [100] (.tup []) (fun _:Unit=>[(100,.cells 56 [.row 101 (r0.length)]),(101,.row 5 1 (List.map (eK .u8) r0))]):=by
 refine yY [0,1] func60 ntmps60 ?_;intro ctx hK pv;refine ym ?_;obtain⟨y3,hy4,h⟩:=zV h;refine xO [(100,100),(101,101)] [] [100,101] (XK hy4) call98 ?_;refine zE ?_;refine zx [0,3] [3,100,101,1100] ?_;refine zG ?_;obtain⟨y5,hy6,h⟩:=zV h;refine xO [(100,100),(101,101)] [] [100,101] (vV hy6) call20 ?_;refine zE ?_;refine zx [0,3] [3,100,101,1100] ?_;refine zG ?_;obtain⟨y7,hy8,h⟩:=zV h;refine xO [(100,100),(101,101)] [] [100,101] (za hy8) call19 ?_;refine zE ?_;refine zx [0,3] [3,100,101,1100] ?_;refine zG ?_;obtain⟨y9,hy10,h⟩:=zV h;refine xO [(100,100),(101,101)] [] [100,101] (vV hy10) call20 ?_;refine zE ?_;refine zx [0,3] [3,100,101,1100] ?_;refine zG ?_;obtain⟨y11,hy12,h⟩:=zV h;refine xO [(100,100),(101,101)] [] [100,101] (Wk hy12) call99 ?_;refine g5 ?_;refine zx [0,3] [3,100,101,1100] ?_;refine zG ?_;obtain⟨y13,hy14,h⟩:=zV h;refine xO [(100,100),(101,101)] [] [100,101] (jC hy14) call100 ?_;refine g5 ?_;cases h;exact EndsO.mk () (.inl rfl) (sO (tl:=[]) (to:=[(100,_),(101,_),(1100,_)]) rfl (.nil) (.cons rfl zJa<|.c2 rfl rfl rfl rfl<|.nil)) (.nil) rfl rfl
theorem jp{l1 row2 r0}(h:(uo l1 row2).wp (·=r0)):PObj prog 22 [.ref 100 0,zW EV.e l1] [(100,.cells 56 [.row 101 (row2.length)]),(101,.row 5 1 (List.map (eK .u8) row2))] [100] (.tup []) (fun _:Unit=>[(100,.cells 56 [.row 101 (r0.length)]),(101,.row 5 1 (List.map (eK .u8) r0))]):=by
 refine yY [0,1] func22 ntmps22 ?_;intro ctx hK pv;refine zK ?_;refine ws (LR.convInt underlying22 (by rw[underlying3];rfl) rfl rfl) ?_;obtain⟨y3,hy4,h⟩:=zV h;refine xO [(100,100),(101,101)] [] [100,101] (za hy4) call19 ?_;refine zE ?_;refine zx [0,1] [100,101,1100] ?_;refine zY ?_;refine zf h 21 [0,11,12] [1100] (fun⟨v17,v18⟩=>([(13,zC .i64 v17)],[(100,.cells 56 [.row 101 (v18.length)]),(101,.row 5 1 (List.map (eK .u8) v18))])) ?_;rintro N ⟨v17,v18⟩ _ h;refine zK ?_;refine zD h (fun h=>?_) fun h=>?_
 ·refine zK ?_;obtain⟨x20,hy21,h⟩:=yO h;refine xK hy21 ?_;refine ze ?_;obtain⟨y22,hy23,h⟩:=zV h;refine xO [(100,100),(101,101)] [] [100,101] (zOa hy23) call60 ?_;refine g5 ?_;refine zx [0,11,12,13] [100,101,1100] ?_;refine zG ?_;exact⟨((IntKind.i64.wrap (v17+1)),y22),(),h,sP⟩
 ·refine wZ ?_;cases h;exact EndsO.mk () (.inl rfl) (sO (tl:=[]) (to:=[(100,_),(101,_),(1100,_)]) rfl (.nil) (.cons rfl zJa<|.c2 rfl rfl rfl rfl<|.nil)) (.nil) rfl rfl
theorem WK{row1 r0}(h:(ww row1).wp (·=r0)):PObj prog 23 [.ref 100 0] [(100,.cells 56 [.row 101 (row1.length)]),(101,.row 5 1 (List.map (eK .u8) row1))] [100] (zW (eK .u8) r0.1) (fun _:Unit=>[(100,.cells 56 [.row 101 (r0.2.length)]),(101,.row 5 1 (List.map (eK .u8) r0.2))]):=by
 refine yY [0] func23 ntmps23 ?_;intro ctx hK pv;refine zE ?_;refine ws (aR 5 1 rfl) ?_;refine ze ?_;refine PWc.condF rfl ?_;refine ze ?_;obtain⟨hy2,h⟩:=zy h;refine ws (LR.appNilT (enc:=(eK .u8)) (R:=row1) WR underlying34 rfl (Src.rowT (enc:=(eK .u8)) (R:=row1) rfl rfl rfl) (fun _=>rfl) hy2 rfl rfl)<|xd [0,3,4,5,6,7,8,9] [9,100,101,1100] ?_;refine zE ?_;refine wX ?_;cases h;exact EndsO.mk () (.inr rfl) (Sub.trans (Sub.frz [2,9] hK rfl (by simp) (AllRow.get (.cons rfl<|.cons rfl<|.nil)))<|sO (tl:=[(2,_)]) (to:=[(100,_),(101,_),(1100,_)]) rfl (.cons rfl rfl<|.nil) (.cons rfl zJa<|.c2 rfl rfl rfl rfl<|.nil)) (.cons (.tmp rfl)<|.nil) rfl rfl
theorem xba{s1 r0}(h:(Uq s1).wp (·=r0)):PFun prog 8 [.agg (List.map .d (THubState.e s1))] (.tup [zW (eK .u8) r0.1,zC .i64 r0.2]):=by
 refine ya [0] func8 ntmps8 ?_;intro ctx hK;refine zQ ?_;refine ws (aR 5 1 rfl) ?_;refine zY ?_;obtain⟨v2,hy3,h⟩:=zV h;refine xN (jB hy3) call18 ?_;refine zE ?_;refine zD h (fun h=>?_) fun h=>?_
 ·refine zE ?_;refine xd [0,1,3,11,12,13] [1] ?_;refine ws (aR 5 1 rfl) ?_;refine zE ?_;refine wX ?_;cases h;exact⟨.inr rfl,_,.cons (.row rfl rfl vD)<|.cons (.tmp rfl rfl)<|.nil,rfl⟩
 ·refine zG ?_;refine PWl.sub (Sub.ownNil (id:=4) (j:=0) (id':=30080) (e:=5) (k:=1) rfl rfl rfl rfl) ?_;refine zE ?_;refine zx [1,4] [1,4,30080] ?_;refine zQ ?_;obtain⟨y5,hy6,h⟩:=zV h;refine xO [(100,4),(101,30080)] [] [100,101] (za hy6) call19 ?_;refine zE ?_;refine zx [1,4] [1,4,30080] ?_;refine zQ ?_;refine ws (LR.convInt underlying22 (by rw[underlying23];rfl) rfl rfl) ?_;obtain⟨y7,hy8,h⟩:=zV h;refine xO [(100,4),(101,30080)] [] [100,101] (za hy8) call19 ?_;refine zE ?_;refine zx [1,4] [1,4,30080] ?_;refine zG ?_;refine ws (LR.convInt underlying22 (by rw[underlying3];rfl) rfl rfl) ?_;obtain⟨y9,hy10,h⟩:=zV h;refine xO [(100,4),(101,30080)] [] [100,101] (za hy10) call19 ?_;refine zQ ?_;refine zx [1,4] [1,4,30080] ?_;refine zY ?_;refine yF (zO h) 72 [1,4] [1] (fun v11=>([],[(4,.cells 56 [.row 30080 (v11.length)]),(30080,.row 5 1 (List.map (eK .u8) v11))])) (fun h=>?_) ?_
  ·refine g5 ?_;refine zf h 72 [1,4,27,28] [1] (fun⟨v32,v33⟩=>([(29,zC .i64 v32)],[(4,.cells 56 [.row 30080 (v33.length)]),(30080,.row 5 1 (List.map (eK .u8) v33))])) ?_;rintro N ⟨v32,v33⟩ _ h;refine zK ?_;refine zD h (fun h=>?_) fun h=>?_
   ·refine zK ?_;obtain⟨x35,hy36,h⟩:=yO h;refine xK hy36 ?_;refine zl ?_;refine ws (LR.convInt underlying22 (by rw[underlying23];rfl) rfl rfl) ?_;obtain⟨y37,hy38,h⟩:=zV h;refine xO [(100,4),(101,30080)] [] [100,101] (za hy38) call19 ?_;refine zE ?_;refine zx [1,4,6,27,28,29] [1,4,6,30080] ?_;refine zQ ?_;obtain⟨y39,hy40,h⟩:=zV h;refine xO [(100,4),(101,30080)] [] [100,101] (vV hy40) call20 ?_;refine g5 ?_;refine zx [1,4,6,27,28,29] [1,4,6,30080] ?_;refine zQ ?_;obtain⟨y41,hy42,h⟩:=zV h;refine xO [(100,4),(101,30080)] [] [100,101] (za hy42) call19 ?_;refine g5 ?_;refine zx [1,4,27,28,29] [1,4,30080] ?_;refine zG ?_;exact⟨((IntKind.i64.wrap (v32+1)),y41),(),h,sP⟩
   ·refine wZ ?_;exact⟨v33,(),h,sP⟩
  ·rintro v11 _ h;refine zl ?_;refine yF (zO h) 72 [1,4] [1] (fun v43=>([],[(4,.cells 56 [.row 30080 (v43.length)]),(30080,.row 5 1 (List.map (eK .u8) v43))])) (fun h=>?_) ?_
   ·refine g5 ?_;refine zf h 72 [1,4,45,46] [1] (fun⟨v56,v57⟩=>([(47,zC .i64 v56)],[(4,.cells 56 [.row 30080 (v57.length)]),(30080,.row 5 1 (List.map (eK .u8) v57))])) ?_;rintro N ⟨v56,v57⟩ _ h;refine zK ?_;refine zD h (fun h=>?_) fun h=>?_
    ·refine zK ?_;obtain⟨x59,hy60,h⟩:=yO h;refine xK hy60 ?_;refine zK ?_;obtain⟨y61,hy62,h⟩:=zV h;refine xO [(100,4),(101,30080)] [] [100,101] (za hy62) call19 ?_;refine g5 ?_;refine zx [1,4,45,46,47] [1,4,30080] ?_;refine zG ?_;exact⟨((IntKind.i64.wrap (v56+1)),y61),(),h,sP⟩
    ·refine wZ ?_;exact⟨v57,(),h,sP⟩
   ·rintro v43 _ h;refine zl ?_;refine yF (zO h) 72 [1,4] [1] (fun v63=>([],[(4,.cells 56 [.row 30080 (v63.length)]),(30080,.row 5 1 (List.map (eK .u8) v63))])) (fun h=>?_) ?_
    ·refine g5 ?_;refine zf h 72 [1,4,55,56] [1] (fun⟨v76,v77⟩=>([(57,zC .i64 v76)],[(4,.cells 56 [.row 30080 (v77.length)]),(30080,.row 5 1 (List.map (eK .u8) v77))])) ?_;rintro N ⟨v76,v77⟩ _ h;refine zK ?_;refine zD h (fun h=>?_) fun h=>?_
     ·refine zK ?_;obtain⟨x79,hy80,h⟩:=yO h;refine xK hy80 ?_;refine ze ?_;obtain⟨y81,hy82,h⟩:=zV h;refine xO [(100,4),(101,30080)] [] [100,101] (XJ hy82) call21 ?_;refine g5 ?_;refine zx [1,4,55,56,57] [1,4,30080] ?_;refine zG ?_;exact⟨((IntKind.i64.wrap (v76+1)),y81),(),h,sP⟩
     ·refine wZ ?_;exact⟨v77,(),h,sP⟩
    ·rintro v63 _ h;refine zG ?_;obtain⟨y83,hy84,h⟩:=zV h;refine xO [(100,4),(101,30080)] [] [100,101] (XJ hy84) call21 ?_;refine zE ?_;refine zx [1,4] [1,4,30080] ?_;refine zQ ?_;obtain⟨y85,hy86,h⟩:=zV h;refine xO [(100,4),(101,30080)] [] [100,101] (jp hy86) call22 ?_;refine zE ?_;refine zx [4] [4,30080] ?_;refine g5 ?_;obtain⟨y87,hy88,h⟩:=zV h;refine xO [(100,4),(101,30080)] [] [100,101] (WK hy88) call23 ?_;refine zQ ?_;refine wX ?_;cases h;exact Um
theorem xca{a1 b2 r0}(h:(WY a1 b2).wp (·=r0)):PFun prog 10 [zW (eK .u8) a1,zW (eK .u8) b2] (.d (.v (.bool r0))):=by
 refine ya [0,1] func10 ntmps10 ?_;intro ctx hK;refine vu ?_;refine wX ?_;cases h;exact xT
end Go.Proofs
namespace Go.Ep
open Go.RowKit
def accF(acc:List (List Nat))(o:Oper):List (List Nat):=acc++[o.after.toList.foldl (fun l e=>bif Region.binds .any e&&!inL l e.on then e.on::(((acc[e.on]?).getD []).filter (fun x=>!inL l x)++l) else l) []]
def predsF(ops:List Oper):List (List Nat):=ops.foldl accF []
def drawF(ops:Array Oper)(fs:List Ft):Bool:=
 let pr:=predsF ops.toList
 Nat.beq fs.length ops.size &&
 ((List.range ops.size).all fun j=>match ops[j]?,fs[j]? with
  | some o,some g=>o.after.toList.all (fun e=>Nat.blt e.on j||!Region.binds .any e)&&g.fr.all (fun id=>!inL g.ro id)&&(List.range j).all fun i=>match fs[i]? with
    | some f=>!xIa f g&&(!Xc f g (vI ops i) (vI ops j)||inL ((pr[j]?).getD []) i)
    | none=>false
  | _,_=>false)
def SubL(a b:List (List Nat)):Prop:=a.length=b.length/\∀ (j:Nat) (x:Nat),x∈(a[j]?).getD []->x∈(b[j]?).getD []
theorem xda{a b:List (List Nat)}(h:SubL a b):∀ (es:List Edge) (l m:List Nat),(∀ x∈l,x∈m) ->
  ∀ x∈es.foldl (fun l e=>bif Region.binds .any e&&!inL l e.on then e.on::(((a[e.on]?).getD []).filter (fun x=>!inL l x)++l) else l) l,x∈es.foldl (fun l e=>bif Region.binds .any e then e.on::((b[e.on]?).getD []++l) else l) m
 | [],l,m,hl=>hl
 | e::r,l,m,hl=>by
  rw[List.foldl_cons,List.foldl_cons];refine xda h r _ _ fun x hx=>?_
  cases hb:Region.binds .any e with
  | false=>rw[hb,Bool.false_and,cond_false] at hx;rw[cond_false];exact hl x hx
  | true=>
   rw[hb,Bool.true_and] at hx;rw[cond_true]
   cases hi:inL l e.on with
   | true=>rw[hi,Bool.not_true,cond_false] at hx;exact List.mem_cons_of_mem _ (List.mem_append_right _ (hl x hx))
   | false=>
    rw[hi,Bool.not_false,cond_true] at hx;rcases List.mem_cons.1 hx with rfl | hx
    ·exact List.mem_cons_self
    ·rcases List.mem_append.1 hx with hx | hx
     ·exact List.mem_cons_of_mem _ (List.mem_append_left _ (h.2 _ x (List.mem_filter.1 hx).1))
     ·exact List.mem_cons_of_mem _ (List.mem_append_right _ (hl x hx))
theorem accF_sub{a b:List (List Nat)}(h:SubL a b)(o:Oper):SubL (accF a o) (y5a b o):=by
 refine⟨by simp[accF,y5a,h.1],fun j x hx=>?_⟩;unfold accF at hx;unfold y5a
 by_cases hj:j < a.length
 ·rw[List.getElem?_append_left hj] at hx;rw[List.getElem?_append_left (by rw[<- h.1];exact hj)];exact h.2 j x hx
 ·rw[List.getElem?_append_right (by omega)] at hx;rw[List.getElem?_append_right (by rw[<- h.1];omega),<- h.1]
  cases hk:j - a.length with
  | zero=>
   rw[hk] at hx;exact xda h _ [] [] (fun _ h=>h) x hx
  | succ k=>rw[hk] at hx;cases hx
theorem xea : ∀ (l:List Oper) (a b:List (List Nat)),SubL a b->SubL (l.foldl accF a) (l.foldl y5a b)
 | [],_,_,h=>h
 | o::r,_,_,h=>xea r _ _ (accF_sub h o)
theorem ZPa(l:List Oper):SubL (predsF l) (jb l):=xea l [] [] ⟨rfl,fun _ _ h=>h⟩
theorem drawF_E{ops:Array Oper}{fs:List Ft}(h:drawF ops fs=true):Z9a ops fs=true:=by
 unfold drawF at h;unfold Z9a;simp only[Bool.and_eq_true] at h ⊢;refine⟨h.1,?_⟩;rw[List.all_eq_true];intro j hj;have h2:=List.all_eq_true.1 h.2 j hj
 revert h2
 cases ops[j]? with
 | none=>exact id
 | some o=>
  cases fs[j]? with
  | none=>exact id
  | some g=>
   simp only[Bool.and_eq_true,List.all_eq_true];rintro⟨h1,h3⟩;refine⟨h1,fun i hi=>?_⟩;have h4:=h3 i hi
   revert h4
   cases fs[i]? with
   | none=>exact id
   | some f=>
    simp only[Bool.and_eq_true,Bool.or_eq_true];rintro⟨q1,q2⟩;exact⟨q1,q2.imp_right fun q=>zp.2 ((ZPa ops.toList).2 j i (zp.1 q))⟩
theorem PWc.regionF{P:Program}{ctx:Ctx}{Q:PQ}{s:PState}{id:Nat}{l:List Oper}(fs:List Ft)(hm:P.follows .mixedOrders=true)(hB:drawF l.toArray fs=true)(hS:vza s fs=true)(h:PQe P ctx l.toArray (Q .normal) l fs s):PWc P ctx (.region id l.toArray true) Q s:=PWc.regionE fs hm (drawF_E hB) hS h
end Go.Ep
namespace Go.Ep
open Go.RowKit
section
variable{P:Program}{ctx:Ctx}{s:PState}
variable{dst:Option Tmp}{ty:TypeId}{pos:String}{after:Array Edge}{gd:Option (Nat×Bool)}
theorem LR.makeD{α:Type}{enc:α->List DV}{z:α}{n k bs:Nat}{t e:TypeId}{x y:Operand}{kl kc:IntKind}{L C:Int}{zv:Value}{zs:List Value}(hE:ElemOK P t e k bs)(hzv:∀ w,(zeroValue e).run P w=.ok zv w)(hzc:zv.cells=zs.toArray)(h1:(zs.all Value.oneCell')=true)
  (hz:enc z=zs.map zdv) (hx:s.ev x=some (.d (.v (.int kl L)))) (hy:s.ev y=some (.d (.v (.int kc C)))) (hL:L=n) (hC:C=n) (hb:bs*n<=281474976710656) (hn:n<=281474976710656) :
  Local P ctx ⟨dst,.makeSlice t x y,ty,pos,after,gd⟩ s (s.putD dst (.d (.sl (List.map enc (List.replicate n z))))):=
 yT (o:=⟨dst,.makeSlice t x y,ty,pos,after,gd⟩) fun a w g hg=>by
  obtain⟨i,z',hi,hz',hsize,hbytes,hzs⟩:=hE.i;have hzz:z'=zv:=by
   have:=hzv w;simp[zeroValue,typeInfo,hi,hz'] at this;exact this
  subst hzz;subst hC;subst hL;have hzl:zs.length=k:=by rw[hzc] at hzs;simpa using hzs
  have hrun:=run_make (P:=P) w t e i z' hE.u hi hz' kl kc (n:Int) (n:Int) (by omega) (by omega) (by rw[hbytes];exact qe hb) (by omega);have hres:=hg.newData (dst:=dst) (e:=e) (k:=k) (cap:=n) (l:=List.replicate n (zs.map zdv)) (cur:=(madeCells z'.cells (n*k)).toList) (by simp) (by unfold maxLen;omega) (by simp[size_madeCells])
   (fun j cs hj=>by
    rw[List.getElem?_replicate] at hj
    split at hj
    ·simp at hj;subst hj;simpa using hzl
    ·cases hj)
   (fun j cs t x hj hx=>by
    rw[List.getElem?_replicate] at hj
    split at hj
    ·rename_i hjn
     simp only[Option.some.injEq] at hj;subst hj;have ht:t < zs.length:=by have:=(List.getElem?_eq_some_iff.1 hx).1;simpa using this
     have hlt:j*k+t < n*k:=Zv hjn (by omega);simp[ht] at hx;subst hx;refine⟨zs[t],?_,vra w _ _ (by simp at h1;exact h1 _ (List.getElem_mem ht))⟩;have e2:(j*k+t) % k=t:=by rw[Nat.mul_comm,Nat.mul_add_mod,Nat.mod_eq_of_lt (by omega)]
     simp[madeCells,hlt,hzc,hzl,e2];rw[List.getElem?_eq_getElem ht];rfl
    ·cases hj)
  simp only[List.length_replicate] at hres;rw[<- hz,<- List.map_replicate] at hres;refine⟨_,_,?_,hres⟩;simp only[execOp,Sem.run_bind,wP hg hx,wP hg hy,hrun,Result.andThen_ok,Sem.run_pure];simp[hsize]
end
end Go.Ep
namespace Go.Proofs
open Go.Ep Tryz
set_option maxHeartbeats 1000000
set_option maxRecDepth 100000
set_option linter.unusedVariables false
set_option linter.unusedSimpArgs false
theorem uU{s1 r0}(h:(yh s1).wp (·=r0)):PRow prog 88 [zW (eK .u64) s1] 22 1 (List.map (eK .u64) r0):=by
 refine PRow.intro (sl:=[(0,_)]) func88 rfl ntmps88 rfl rfl ?_;intro ctx hK;refine zE ?_;refine ws (aR 22 1 rfl) ?_;refine zK ?_;replace h:=iNil h;refine PWl.eqlNilT (enc:=(eK .u64)) (L:=s1) underlying25 rfl rfl (fun b2 hy3=>?_);replace h:=h b2 hy3;refine g5 ?_;refine zD h (fun h=>?_) fun h=>?_
 ·refine zE ?_;refine xd [0,3,4] [] ?_;refine ws (aR 22 1 rfl) ?_;refine g5 ?_;refine wX ?_;cases h;exact⟨.inr rfl,2,rfl,.inr ⟨2,_,rfl,vD,rfl⟩⟩
 ·refine zK ?_;obtain⟨hy5,h⟩:=zy h;refine ws (LR.appT (enc:=(eK .u64)) (L:=([]:List Int)) (R:=s1) [5] XB underlying25 rfl vD rfl (Src.slT (enc:=(eK .u64)) (R:=s1) rfl (fun _=>rfl)) (fun _=>rfl) hy5 rfl rfl) ?_;refine xd [0,3,4,6,7] [5] ?_;refine zE ?_;refine wX ?_;cases h;exact⟨.inr rfl,2,rfl,.inr ⟨5,_,rfl,(by simp),rfl⟩⟩
theorem yVa  (r0:List PT×Bool×(List (DT×EV))×Bool×(List (DT×EV))) (h:(je ).wp (·=r0)):PObj prog 47 [] [] [] (.ref 2 0) (fun _:Unit=>[(2,.cells 156 [zW PT.e r0.1,.mp 30041,.mp 30042]),(30041,.mapH r0.2.1 [.u16,.u64] true (yI DT.k EV.e r0.2.2.1)),(30042,.mapH r0.2.2.2.1 [.u16,.u64] true (yI DT.k EV.e r0.2.2.2.2))]):=by
 refine yY [] func47 ntmps47 ?_;intro ctx hK pv;refine zY ?_;refine ws (LR.buildR (ns:=[_,_,_]) z9a rfl rfl rfl) ?_;refine g5 ?_;refine PWl.sub (Sub.nilCell (id:=2) (j:=0) rfl rfl)<|PWl.sub (Sub.ownMap (id:=2) (j:=1) (id':=30041) (ks:=[.u16,.u64]) (ag:=true) (ck:=0) rfl rfl rfl rfl)<|PWl.sub (Sub.ownMap (id:=2) (j:=2) (id':=30042) (ks:=[.u16,.u64]) (ag:=true) (ck:=0) rfl rfl rfl rfl)<|xd [0,2] [2,30041,30042] ?_;refine zE ?_;refine wX ?_;cases h;exact EndsO.mk () (.inr rfl) (Sub.trans (Sub.nToH (id:=30041) rfl)<|Sub.trans (Sub.nToH (id:=30042) rfl)<|vJ [0] [2,30041,30042]) (.cons (.tmp rfl)<|.nil) rfl rfl
theorem QH  (r0:Int×Int×A16×List PT×Bool×(List (Int×TMember))×Bool×(List ((Int×Int)×List RN))×Bool×(List (DT×EV))×Bool×(List (DT×EV))) (h:(WZ ).wp (·=r0)):PObj prog 16 [] [] [] (.ref 5 0) (fun _:Unit=>[(5,.cells 112 [.ref 1 0,.ref 2 0,.ref 3 0]),(1,.cells 150 (zC .u64 r0.1::zC .u16 r0.2.1::.mp 20021::wj r0.2.2.1 [])),(2,.cells 153 [.mp 20041]),(3,.cells 156 [zW PT.e r0.2.2.2.1,.mp 20061,.mp 20062]),(20021,.mapH r0.2.2.2.2.1 [.u16] true (yI kI TMember.e r0.2.2.2.2.2.1)),(20041,.mapH r0.2.2.2.2.2.2.1 [.u16,.u16] false (yI kP (eL RN.e) r0.2.2.2.2.2.2.2.1)),(20061,.mapH r0.2.2.2.2.2.2.2.2.1 [.u16,.u64] true (yI DT.k EV.e r0.2.2.2.2.2.2.2.2.2.1)),(20062,.mapH r0.2.2.2.2.2.2.2.2.2.2.1 [.u16,.u64] true (yI DT.k EV.e r0.2.2.2.2.2.2.2.2.2.2.2))]):=by
 refine yY [] func16 ntmps16 ?_;intro ctx hK pv;refine zY ?_;obtain⟨y1,hy2,h⟩:=zV h;refine xO [(3,1),(1,20021)] [] [3,1] (YN y1 hy2) call45 ?_;obtain⟨y3,hy4,h⟩:=zV h;refine xO [(2,2),(30040,20041)] [] [2,30040] (Wj y3 hy4) call46<|xd [0,1,2] [1,2,20021,20041] ?_;obtain⟨y5,hy6,h⟩:=zV h;refine xO [(2,3),(30041,20061),(30042,20062)] [] [2,30041,30042] (yVa y5 hy6) call47<|ws (LR.buildR (ns:=[_,_,_]) z7a rfl rfl rfl) ?_;refine zQ ?_;refine wX ?_;cases h;exact yl [0] [5,1,2,3,20021,20041,20061,20062]
theorem Xr{epoch_1 last_2 c3 ctx_4 nl5 m6 nl7 m8 nl9 m10 nl11 m12 r0}(h:(vo epoch_1 last_2 c3 ctx_4 nl5 m6 nl7 m8 nl9 m10 nl11 m12).wp (·=r0)):PObj prog 48 [.ref 100 0] [(100,.cells 112 [.ref 101 0,.ref 102 0,.ref 103 0]),(101,.cells 150 (zC .u64 epoch_1::zC .u16 last_2::.mp 104::wj c3 [])),(102,.cells 153 [.mp 105]),(103,.cells 156 [zW PT.e ctx_4,.mp 106,.mp 107]),(104,.mapH nl5 [.u16] true (yI kI TMember.e m6)),(105,.mapH nl7 [.u16,.u16] false (yI kP (eL RN.e) m8)),(106,.mapH nl9 [.u16,.u64] true (yI DT.k EV.e m10)),(107,.mapH nl11 [.u16,.u64] true (yI DT.k EV.e m12))] [100,101,102,103,104,105,106,107] (.d (.v (.bool r0))) (fun _:Unit=>[(100,.cells 112 [.ref 101 0,.ref 102 0,.ref 103 0]),(101,.cells 150 (zC .u64 epoch_1::zC .u16 last_2::.mp 104::wj c3 [])),(102,.cells 153 [.mp 105]),(103,.cells 156 [zW PT.e ctx_4,.mp 106,.mp 107]),(104,.mapH nl5 [.u16] true (yI kI TMember.e m6)),(105,.mapH nl7 [.u16,.u16] false (yI kP (eL RN.e) m8)),(106,.mapH nl9 [.u16,.u64] true (yI DT.k EV.e m10)),(107,.mapH nl11 [.u16,.u64] true (yI DT.k EV.e m12))]):=by
 refine yY [0] func48 ntmps48 ?_;intro ctx hK pv;refine qu ?_;refine wX ?_;cases h;exact yl [2] [100,101,102,103,104,105,106,107,1100,1101,1102,1103,1104,1105,1106,1107]
theorem XL{epoch_1 last_2 c3 nl4 m5 r0}(h:(xu epoch_1 last_2 c3 nl4 m5).wp (·=r0)):PObj prog 49 [.ref 100 0] [(100,.cells 150 (zC .u64 epoch_1::zC .u16 last_2::.mp 101::wj c3 [])),(101,.mapH nl4 [.u16] true (yI kI TMember.e m5))] [100,101] (zC .u64 r0) (fun _:Unit=>[(100,.cells 150 (zC .u64 epoch_1::zC .u16 last_2::.mp 101::wj c3 [])),(101,.mapH nl4 [.u16] true (yI kI TMember.e m5))]):=by
 refine yY [0] func49 ntmps49 ?_;intro ctx hK pv;refine zl ?_;obtain⟨y6,hy7,h⟩:=zV h;refine ZCa [(100,100),(101,101)] [] [100,101] [] [100,101] (xV hy7) call84 ?_;refine g5 ?_;refine zD h (fun h=>?_) fun h=>?_
 ·refine g5 ?_;refine zx [] [100,101,1100,1101] ?_;refine zQ ?_;refine wX ?_;cases h;exact yl [2] [100,101,1100,1101]
 ·refine zE ?_;refine zx [0] [100,101,1100,1101] ?_;refine ze ?_;refine wX ?_;cases h;exact yl [2] [100,101,1100,1101]
theorem Xs{epoch_1 last_2 c3 nl4 m5 r0}(h:(wW epoch_1 last_2 c3 nl4 m5).wp (·=r0)):PObj prog 50 [.ref 100 0] [(100,.cells 150 (zC .u64 epoch_1::zC .u16 last_2::.mp 101::wj c3 [])),(101,.mapH nl4 [.u16] true (yI kI TMember.e m5))] [100,101] (zC .u16 r0) (fun _:Unit=>[(100,.cells 150 (zC .u64 epoch_1::zC .u16 last_2::.mp 101::wj c3 [])),(101,.mapH nl4 [.u16] true (yI kI TMember.e m5))]):=by
 refine yY [0] func50 ntmps50 ?_;intro ctx hK pv;refine zl ?_;obtain⟨y6,hy7,h⟩:=zV h;refine ZCa [(100,100),(101,101)] [] [100,101] [] [100,101] (xV hy7) call84 ?_;refine g5 ?_;refine zD h (fun h=>?_) fun h=>?_
 ·refine g5 ?_;refine zx [] [100,101,1100,1101] ?_;refine zQ ?_;refine wX ?_;cases h;exact yl [2] [100,101,1100,1101]
 ·refine zE ?_;refine zx [0] [100,101,1100,1101] ?_;refine ze ?_;refine wX ?_;cases h;exact yl [2] [100,101,1100,1101]
theorem XM{epoch_1 last_2 c3 nl4 m5 r0}(h:(xv epoch_1 last_2 c3 nl4 m5).wp (·=r0)):PObj prog 52 [.ref 100 0] [(100,.cells 150 (zC .u64 epoch_1::zC .u16 last_2::.mp 101::wj c3 [])),(101,.mapH nl4 [.u16] true (yI kI TMember.e m5))] [100,101] (.row 2 (r0.length)) (fun _:Unit=>[(100,.cells 150 (zC .u64 epoch_1::zC .u16 last_2::.mp 101::wj c3 [])),(101,.mapH nl4 [.u16] true (yI kI TMember.e m5)),(2,.row 22 1 (List.map (eK .u64) r0))]):=by
 refine yY [0] func52 ntmps52 ?_;intro ctx hK pv;refine zE ?_;refine ws (aR 22 1 rfl) ?_;refine zK ?_;obtain⟨y6,hy7,h⟩:=zV h;refine ZCa [(100,100),(101,101)] [] [100,101] [] [100,101] (xV hy7) call84 ?_;refine g5 ?_;refine zD h (fun h=>?_) fun h=>?_
 ·refine g5 ?_;refine zx [] [100,101,1100,1101] ?_;refine g5 ?_;refine ws (aR 22 1 rfl) ?_;refine g5 ?_;refine wX ?_;cases h;exact EndsO.mk () (.inr rfl) (sO (tl:=[(2,_)]) (to:=[(100,_),(101,_),(2,_),(1100,_),(1101,_)]) rfl (.cons rfl ZDa<|.nil) (.c4 rfl rfl rfl rfl rfl rfl rfl rfl<|.cons rfl rfl<|.nil)) (.cons (.tmp rfl)<|.nil) rfl rfl
 ·refine zE ?_;refine zx [0] [100,101,1100,1101] ?_;refine zK ?_;obtain⟨v9,hy10,h⟩:=zV h;refine ws (LR.rowLendPa (L:=v9) .u64 c3 (uU hy10) rfl call88 rfl rfl rfl rfl) ?_;refine zE ?_;refine wX ?_;replace h:_=r0:=h;subst h;exact EndsO.mk () (.inr rfl) (Sub.rnm [(2,9)] (tl:=[(2,.row 2 (v9.length))]) (to:=[(100,.cells 150 (zC .u64 epoch_1::zC .u16 last_2::.mp 101::wj c3 [])),(101,.mapH nl4 [.u16] true (yI kI TMember.e m5)),(2,.row 22 1 (List.map (eK .u64) v9)),(1100,.pin 100 (pv 100)),(1101,.pin 101 (pv 101))]) rfl (.cons YMa<|.nil) (by repeat' first | constructor | (congr 1;first | (simp;done) | (simp;omega) | omega)) rfl) (.cons (.tmp rfl)<|.nil) rfl rfl
theorem jD{ctx_1 nl2 m3 nl4 m5 r0}(h:(uN ctx_1 nl2 m3 nl4 m5).wp (·=r0)):PObj prog 53 [.ref 100 0] [(100,.cells 156 [zW PT.e ctx_1,.mp 101,.mp 102]),(101,.mapH nl2 [.u16,.u64] true (yI DT.k EV.e m3)),(102,.mapH nl4 [.u16,.u64] true (yI DT.k EV.e m5))] [100,101,102] (zW PT.e r0) (fun _:Unit=>[(100,.cells 156 [zW PT.e ctx_1,.mp 101,.mp 102]),(101,.mapH nl2 [.u16,.u64] true (yI DT.k EV.e m3)),(102,.mapH nl4 [.u16,.u64] true (yI DT.k EV.e m5))]):=by
 refine yY [0] func53 ntmps53 ?_;intro ctx hK pv;refine zE ?_;refine ws (aR 99 2 rfl) ?_;refine ze ?_;refine PWc.condF rfl ?_;refine ze ?_;obtain⟨v6,hy7,h⟩:=zV h;refine ws (LR.rowN (uE hy7) rfl call59 rfl rfl rfl rfl)<|xd [0,3,4,5,6,7,8,9] [9,100,101,102,1100,1101,1102] ?_;refine zE ?_;refine wX ?_;cases h;exact EndsO.mk () (.inr rfl) (Sub.trans (Sub.frz [2,9] hK rfl (by simp) (AllRow.get (.cons rfl<|.cons rfl<|.nil)))<|vJ [2] [100,101,102,1100,1101,1102]) (.cons (.tmp rfl)<|.nil) rfl rfl
theorem QI{nl1 m2 nl3 m4 r0}(h:(Yk nl1 m2 nl3 m4).wp (·=r0)):PObj prog 89 [.row 100 2] [(100,.cells 154 [.mp 101,.mp 102]),(101,.mapH nl1 [.u16,.u64] true (yI DT.k EV.e m2)),(102,.mapH nl3 [.u16,.u64] true (yI DT.k EV.e m4))] [100,101,102] (.row 3 (r0.length)) (fun _:Unit=>[(100,.cells 154 [.mp 101,.mp 102]),(101,.mapH nl1 [.u16,.u64] true (yI DT.k EV.e m2)),(102,.mapH nl3 [.u16,.u64] true (yI DT.k EV.e m4)),(3,.row 104 7 (List.map EV.e r0))]):=by
 refine yY [0] func89 ntmps89 ?_;intro ctx hK pv;refine zE ?_;refine ws (aR 104 7 rfl) ?_;refine zQ ?_;refine ws (aR 104 7 rfl) ?_;refine zl ?_;refine yF (zO h) 29 [] [100,101,102,1100,1101,1102] (fun out5=>([(3,.row 3 (out5.length))],[(3,.row 104 7 (List.map EV.e out5))])) (fun h=>?_) ?_
 ·refine g5 ?_;refine PWc.loopU<|PWL.step ?_;refine zK ?_;refine PWc.condT rfl ?_;refine zE ?_;refine wJ (zO h) (fun(out8:List EV) (⟨bs6,ck7⟩:List Nat×Nat)=>⟨29,[(3,.row 3 (out8.length)),(  8,.row 100 2),(  9,zC .i64 2),(  10,zC .i64 0)],[(3,.row 104 7 (List.map EV.e out8)),(  100,.cells 154 [.mp 101,.mp 102]),(101,.mapN nl1 [.u16,.u64] true (yI DT.k EV.e m2) bs6 ck7),(  102,.mapH nl3 [.u16,.u64] true (yI DT.k EV.e m4)),(  1100,.pin 100 (pv 100)),(  1101,.pin 101 (pv 101)),(  1102,.pin 102 (pv 102))]⟩) (fun h=>?_) ?_
  ·refine zQ ?_;refine ws (LR.idxCells (n:=0) underlying194 sizeOf154 rfl rfl rfl (by decide)) ?_;refine zY ?_;refine PWl.openH (id:=101) rfl (fun bs9 ck9=>?_);refine zQ ?_;refine zf h 29 [8,9,10,15] [100,101,102,1100,1101,1102] (fun⟨seen32,out33⟩=>([(3,.row 3 (out33.length))],[(3,.row 104 7 (List.map EV.e out33)),(15,.iterO 101 bs9 ck9 seen32)])) ?_;rintro N ⟨seen32,out33⟩ _ h;refine zE ?_;obtain⟨hy43,h⟩:=zy h;replace h:=iNxt h;refine PWl.nextN rfl rfl rfl (nxtD hy43) rfl (fun hy35=>?_) (fun j34 hy36 hy37=>?_)
   ·replace h:=h.1 (nxtA hy35);refine zQ ?_;refine PWc.condF rfl<|wZ ?_;exact⟨out33,(bs9,ck9),h,sP⟩
   ·replace h:=h.2 j34 (nxtB hy36) hy37;refine zQ ?_;refine PWc.condT rfl ?_;refine zG ?_;obtain⟨kv38,hy39,h⟩:=yO h;refine ws (LR.entryN rfl rfl rfl (xGa hy39) rfl rfl) ?_;refine ze ?_;obtain⟨v40,hy41,h⟩:=zV h;refine xN (Xp hy41) call123<|ws (LR.buildSliceD [.tmp 22] JO rfl rfl (.cons rfl rfl rfl<|.nil) (by decide) (by decide)) ?_;obtain⟨hy42,h⟩:=zy h;refine ws (LR.appT (enc:=EV.e) (L:=out33) (R:=[v40]) [3,20] JO underlying29 rfl rfl rfl (Src.slT (enc:=EV.e) (R:=[v40]) rfl (fun _=>rfl)) (fun _=>rfl) hy42 rfl rfl) ?_;refine zE ?_;exact⟨((seen32++[j34]),(out33++[v40])),(),h,sP⟩
  ·rintro out8 ⟨bs6,ck7⟩ h;refine zG ?_;refine PWL.step ?_;refine zK ?_;refine PWc.condT rfl ?_;refine zE ?_;refine wJ (zO h) (fun(out46:List EV) (⟨bs44,ck45⟩:List Nat×Nat)=>⟨29,[(3,.row 3 (out46.length)),(  8,.row 100 2),(  9,zC .i64 2),(  10,zC .i64 1)],[(3,.row 104 7 (List.map EV.e out46)),(  100,.cells 154 [.mp 101,.mp 102]),(  101,.mapN nl1 [.u16,.u64] true (yI DT.k EV.e m2) bs6 ck7),(102,.mapN nl3 [.u16,.u64] true (yI DT.k EV.e m4) bs44 ck45),(  1100,.pin 100 (pv 100)),(  1101,.pin 101 (pv 101)),(  1102,.pin 102 (pv 102))]⟩) (fun h=>?_) ?_
   ·refine zQ ?_;refine ws (LR.idxCells (n:=1) underlying194 sizeOf154 rfl rfl rfl (by decide)) ?_;refine zY ?_;refine PWl.openH (id:=102) rfl (fun bs47 ck47=>?_);refine zQ ?_;refine zf h 29 [8,9,10,15] [100,101,102,1100,1101,1102] (fun⟨seen70,out71⟩=>([(3,.row 3 (out71.length))],[(3,.row 104 7 (List.map EV.e out71)),(15,.iterO 102 bs47 ck47 seen70)])) ?_;rintro N ⟨seen70,out71⟩ _ h;refine zE ?_;obtain⟨hy81,h⟩:=zy h;replace h:=iNxt h;refine PWl.nextN rfl rfl rfl (nxtD hy81) rfl (fun hy73=>?_) (fun j72 hy74 hy75=>?_)
    ·replace h:=h.1 (nxtA hy73);refine zQ ?_;refine PWc.condF rfl<|wZ ?_;exact⟨out71,(bs47,ck47),h,sP⟩
    ·replace h:=h.2 j72 (nxtB hy74) hy75;refine zQ ?_;refine PWc.condT rfl ?_;refine zG ?_;obtain⟨kv76,hy77,h⟩:=yO h;refine ws (LR.entryN rfl rfl rfl (xGa hy77) rfl rfl) ?_;refine ze ?_;obtain⟨v78,hy79,h⟩:=zV h;refine xN (Xp hy79) call123<|ws (LR.buildSliceD [.tmp 22] JO rfl rfl (.cons rfl rfl rfl<|.nil) (by decide) (by decide)) ?_;obtain⟨hy80,h⟩:=zy h;refine ws (LR.appT (enc:=EV.e) (L:=out71) (R:=[v78]) [3,20] JO underlying29 rfl rfl rfl (Src.slT (enc:=EV.e) (R:=[v78]) rfl (fun _=>rfl)) (fun _=>rfl) hy80 rfl rfl) ?_;refine zE ?_;exact⟨((seen70++[j72]),(out71++[v78])),(),h,sP⟩
   ·rintro out46 ⟨bs44,ck45⟩ h;refine zG ?_;refine PWL.step ?_;refine zK ?_;refine PWc.condF rfl<|wZ ?_;exact⟨out46,(),h,Sub.trans (Sub.nToH (id:=101) rfl)<|Sub.trans (Sub.nToH (id:=102) rfl)<|sP⟩
 ·rintro out5 _ h;refine zQ ?_;obtain⟨hy83,h⟩:=zy h;refine PWl.sortFnR (encD:=EV.e) (enc:=RawTEvent.v) (lt:=UI) (R:=RawTEvent.R) (l:=out5) ZHa RawTEvent.raw rlt124 (fun _=>rfl) (fun _=>rfl) rfl call124 rfl rfl rfl (by simp) hy83 rfl (fun s82 hy84 hy85=>?_);replace h:=iSrt h s82 hy84 hy85;have hy84l:=hy84.length_eq;refine zY ?_;refine wX ?_;cases h;exact EndsO.mk () (.inr rfl) (sO (tl:=[(2,_)]) (to:=[(100,_),(101,_),(102,_),(3,_),(1100,_),(1101,_),(1102,_)]) rfl (.cons rfl ZDa<|.nil) (.c4 rfl rfl rfl rfl rfl rfl rfl rfl<|.c2 rfl rfl rfl rfl<|.cons rfl rfl<|.nil)) (.cons (.tmp rfl)<|.nil) rfl rfl
theorem jE{ctx_1 nl2 m3 nl4 m5 r0}(h:(uO ctx_1 nl2 m3 nl4 m5).wp (·=r0)):PObj prog 54 [.ref 100 0] [(100,.cells 156 [zW PT.e ctx_1,.mp 101,.mp 102]),(101,.mapH nl2 [.u16,.u64] true (yI DT.k EV.e m3)),(102,.mapH nl4 [.u16,.u64] true (yI DT.k EV.e m5))] [100,101,102] (.row 14 (r0.length)) (fun _:Unit=>[(100,.cells 156 [zW PT.e ctx_1,.mp 101,.mp 102]),(101,.mapH nl2 [.u16,.u64] true (yI DT.k EV.e m3)),(102,.mapH nl4 [.u16,.u64] true (yI DT.k EV.e m5)),(14,.row 104 7 (List.map EV.e r0))]):=by
 refine yY [0] func54 ntmps54 ?_;intro ctx hK pv;refine zE ?_;refine ws (aR 104 7 rfl) ?_;refine ze ?_;refine PWc.condF rfl ?_;refine zE ?_;refine zx [0] [100,101,102,1100,1101,1102] ?_;refine PWc.regionE [yf [5] [100],yf [6] [100],yf [7] [100],⟨[8],[],[100],[],[],[101],[],[]⟩,yf [9] [100],yf [10] [100],yf [11] [100],⟨[12],[],[100],[],[],[102],[],[]⟩,⟨[13],[13],[],[13],[],[13],[101,102],[]⟩,⟨[14],[14],[13,101,102],[14],[],[14],[],[]⟩,yf [2] [14]] (by kernel_rfl) (by kernel_rfl) rfl ?_;refine woa ?_;refine PQe.stepN (fun _ U W hf=>LR.buildSliceP [.tmp 8,.tmp 12] elem194 rfl rfl (Ya U rfl rfl) rfl (by decide) hf) rfl (.inl rfl) rfl ?_;obtain⟨y6,hy7,h⟩:=zV h;refine Vl [(100,13),(101,101),(102,102),(3,14)] [] [100,101,102,3] [3] [100,101,102] (QI hy7) call89 ?_;refine h5 ?_;refine PQe.nil<|wX ?_;cases h;exact EndsO.mk () (.inr rfl) (sO (tl:=[(2,_)]) (to:=[(100,_),(101,_),(102,_),(14,_),(1100,_),(1101,_),(1102,_)]) rfl (.cons rfl ZDa<|.nil) (.c4 rfl rfl rfl rfl rfl rfl rfl rfl<|.c2 rfl rfl rfl rfl<|.cons rfl rfl<|.nil)) (.cons (.tmp rfl)<|.nil) rfl rfl
theorem XN{epoch_1 last_2 c3 ctx_4 nl5 m6 nl7 m8 nl9 m10 nl11 m12 r0}(h:(xw epoch_1 last_2 c3 ctx_4 nl5 m6 nl7 m8 nl9 m10 nl11 m12).wp (·=r0)):PObj prog 17 [.ref 100 0] [(100,.cells 112 [.ref 101 0,.ref 102 0,.ref 103 0]),(101,.cells 150 (zC .u64 epoch_1::zC .u16 last_2::.mp 104::wj c3 [])),(102,.cells 153 [.mp 105]),(103,.cells 156 [zW PT.e ctx_4,.mp 106,.mp 107]),(104,.mapH nl5 [.u16] true (yI kI TMember.e m6)),(105,.mapH nl7 [.u16,.u16] false (yI kP (eL RN.e) m8)),(106,.mapH nl9 [.u16,.u64] true (yI DT.k EV.e m10)),(107,.mapH nl11 [.u16,.u64] true (yI DT.k EV.e m12))] [100,101,102,103,104,105,106,107] (.agg (List.map .d (THubState.e r0))) (fun _:Unit=>[(100,.cells 112 [.ref 101 0,.ref 102 0,.ref 103 0]),(101,.cells 150 (zC .u64 epoch_1::zC .u16 last_2::.mp 104::wj c3 [])),(102,.cells 153 [.mp 105]),(103,.cells 156 [zW PT.e ctx_4,.mp 106,.mp 107]),(104,.mapH nl5 [.u16] true (yI kI TMember.e m6)),(105,.mapH nl7 [.u16,.u16] false (yI kP (eL RN.e) m8)),(106,.mapH nl9 [.u16,.u64] true (yI DT.k EV.e m10)),(107,.mapH nl11 [.u16,.u64] true (yI DT.k EV.e m12))]):=by
 refine yY [0] func17 ntmps17 ?_;intro ctx hK pv;refine zl ?_;obtain⟨y13,hy14,h⟩:=zV h;refine ZCa [(100,100),(101,101),(102,102),(103,103),(104,104),(105,105),(106,106),(107,107)] [] [100,101,102,103,104,105,106,107] [] [100,101,102,103,104,105,106,107] (Xr hy14) call48 ?_;refine g5 ?_;refine zD h (fun h=>?_) fun h=>?_
 ·refine g5 ?_;refine zx [2] [2,100,101,102,103,104,105,106,107,1100,1101,1102,1103,1104,1105,1106,1107] ?_;refine g5 ?_;refine ws (LR.build (ns:=[_,_,_,_,_,_,_]) UH rfl rfl rfl) ?_;refine zE ?_;refine wX ?_;cases h;exact EndsO.mkX (ex:=[(2,_)]) () (.inr rfl) (vJ [2] [100,101,102,103,104,105,106,107,1100,1101,1102,1103,1104,1105,1106,1107,2]) (.cons (.agg isAgg31 sizeOf31 rfl rfl rfl)<|.nil) rfl rfl
 ·refine zE ?_;refine zx [0,2] [2,100,101,102,103,104,105,106,107,1100,1101,1102,1103,1104,1105,1106,1107] ?_;refine PWc.regionF [yf [9] [100],yf [10] [100],yf [11] [100],⟨[12],[],[100],[],[],[101],[],[]⟩,⟨[13],[],[101,104],[],[],[],[],[]⟩,yf [14] [100],yf [15] [100],yf [16] [100],⟨[17],[],[100],[],[],[101],[],[]⟩,⟨[18],[],[101,104],[],[],[],[],[]⟩,yf [19] [100],yf [20] [100],yf [21] [100],⟨[22],[],[100],[],[],[101],[],[]⟩,⟨[23],[],[101,104],[],[],[],[],[]⟩,yf [24] [100],yf [25] [100],yf [26] [100],⟨[27],[],[100],[],[],[101],[],[]⟩,⟨[28],[],[101,104],[],[],[],[],[]⟩,yf [29] [100],yf [30] [100],yf [31] [100],⟨[32],[],[100],[],[],[103],[],[]⟩,⟨[33],[],[103,106,107],[],[],[],[],[]⟩,yf [34] [100],yf [35] [100],yf [36] [100],⟨[37],[],[100],[],[],[103],[],[]⟩,⟨[38],[],[103,106,107],[],[],[],[],[]⟩,{ws:=[39]},⟨[3],[3],[],[3],[],[3],[],[]⟩,⟨[],[3],[3],[],[],[],[30064],[]⟩] (by kernel_rfl) (by kernel_rfl) rfl ?_;refine xX ?_;obtain⟨y16,hy17,h⟩:=zV h;refine Vl [(100,101),(101,104)] [] [100,101] [] [100,101] (XL hy17) call49 ?_;refine xX ?_;obtain⟨y18,hy19,h⟩:=zV h;refine Vl [(100,101),(101,104)] [] [100,101] [] [100,101] (Xs hy19) call50 ?_;refine xX ?_;obtain⟨y20,hy21,h⟩:=zV h;refine Vl [(100,101),(101,104)] [] [100,101] [] [100,101] (vl hy21) call51 ?_;refine xX ?_;obtain⟨y22,hy23,h⟩:=zV h;refine Vl [(100,101),(101,104),(2,28)] [] [100,101] [] [100,101] (PObj.dropRow (os1:=fun _=>[(100,.cells 150 (zC .u64 epoch_1::zC .u16 last_2::.mp 101::wj c3 [])),(101,.mapH nl5 [.u16] true (yI kI TMember.e m6))]) (XM hy23) (fun _=>rfl) (by simp) (fun _=>rfl)) call52 ?_;refine xX ?_;obtain⟨y24,hy25,h⟩:=zV h;refine Vl [(100,103),(101,106),(102,107)] [] [100,101,102] [] [100,101,102] (jD hy25) call53 ?_;refine xX ?_;obtain⟨y26,hy27,h⟩:=zV h;refine Vl [(100,103),(101,106),(102,107),(14,38)] [] [100,101,102] [] [100,101,102] (PObj.dropRow (os1:=fun _=>[(100,.cells 156 [zW PT.e ctx_4,.mp 101,.mp 102]),(101,.mapH nl9 [.u16,.u64] true (yI DT.k EV.e m10)),(102,.mapH nl11 [.u16,.u64] true (yI DT.k EV.e m12))]) (jE hy27) (fun _=>rfl) (by simp) (fun _=>rfl)) call54 ?_;refine kp (fun _ U W=>LR.buildR (ns:=[_,_,_,_,_,_,_]) UH rfl (evpE (fun a b=>U a b) rfl rfl) rfl) ?_;refine PQe.stepN (fun _ U W hf=>LR.allocZ (cs:=[_,_,_,_,_,_,_]) zeroValue31 rfl rfl rfl hf) rfl (.inl rfl) rfl ?_;refine ks (fun _ U W=>sB (ns:=[_,_,_,_,_,_,_]) sizeOf31 U U rfl rfl (W rfl rfl) rfl rfl)<|PQe.nil ?_;refine zE ?_;refine PWc.sub (Sub.ownNil (id:=3) (j:=4) (id':=30064) (e:=51) (k:=2) rfl rfl rfl rfl)<|zx [0,2,3] [2,3,100,101,102,103,104,105,106,107,1100,1101,1102,1103,1104,1105,1106,1107,30064] ?_;refine zY ?_;refine yF (zO h) 64 [2,3] [2,100,101,102,103,104,105,106,107,1100,1101,1102,1103,1104,1105,1106,1107] (fun v28=>([],[(3,.cells 31 [zC .u64 y16,zC .u16 y18,zW TMember.e y20,zW (eK .u64) y22,.row 30064 (v28.length),zW PT.e y24,zW EV.e y26]),(30064,.row 51 2 (List.map TRow.e v28))])) (fun h=>?_) ?_
  ·refine g5 ?_;refine zf h 64 [0,2,3,41,42] [2,100,101,102,103,104,105,106,107,1100,1101,1102,1103,1104,1105,1106,1107] (fun⟨v43,v44⟩=>([(43,zC .i64 v43)],[(3,.cells 31 [zC .u64 y16,zC .u16 y18,zW TMember.e y20,zW (eK .u64) y22,.row 30064 (v44.length),zW PT.e y24,zW EV.e y26]),(30064,.row 51 2 (List.map TRow.e v44))])) ?_;rintro N ⟨v43,v44⟩ _ h;refine zK ?_;refine zD h (fun h=>?_) fun h=>?_
   ·refine zK ?_;obtain⟨x46,hy47,h⟩:=yO h;refine xK hy47 ?_;refine zG ?_;refine zx [0,2,3,5,41,42,43] [2,3,5,100,101,102,103,104,105,106,107,1100,1101,1102,1103,1104,1105,1106,1107,30064] ?_;refine PWc.regionE [yf [47] [3],⟨[48],[],[3],[],[],[30064],[],[]⟩,yf [49] [5],⟨[50],[],[5],[],[],[],[],[]⟩,yf [51] [100],yf [52] [100],yf [53] [100],⟨[54],[],[100],[],[],[102],[],[]⟩,yf [55] [5],⟨[56],[],[5],[],[],[],[],[]⟩,⟨[57],[],[102,105],[],[],[],[],[]⟩,{ws:=[58]},{ws:=[59]},⟨[48,60],[3,30064],[3,30064],[],[(30064,[48])],[30064],[],[3]⟩,yf [61] [3],⟨[],[3],[3,30064],[],[],[],[30064],[]⟩] (by kernel_rfl) (by kernel_rfl) rfl ?_;refine JQ ?_;obtain⟨y48,hy49,h⟩:=zV h;refine Vl [(100,102),(101,105)] [] [100,101] [] [100,101] (YP hy49) call55 ?_;refine kp (fun _ U W=>LR.build (ns:=[_,_]) wla rfl (evpE (fun a b=>U a b) rfl rfl) rfl) ?_;refine kp (fun _ U W=>LR.buildSliceD [.tmp 58] JN rfl rfl (.cons U rfl rfl<|.nil) (by decide) (by decide)) ?_;obtain⟨hy50,h⟩:=zy h;refine PQe.stepX [48] (fun _ U W ha=>LR.appC (enc:=TRow.e) (L:=v44) (R:=[(⟨x46.dev,y48⟩:TRow)]) (j:=4) [48] JN underlying26 (U rfl rfl) rfl (W rfl rfl) (W rfl rfl) rfl rfl (fun _ h1 h2=>Src.slT (enc:=TRow.e) (R:=[(⟨x46.dev,y48⟩:TRow)]) (zga h1 h2 (U rfl rfl)) (fun _=>rfl)) (fun _=>rfl) hy50 rfl ha) rfl rfl (.inl rfl) rfl ?_;refine h5 ?_;refine ks (fun _ U W=>sB (ns:=[_,_,_,_,_,_,_]) sizeOf26 U U rfl rfl (W rfl rfl) rfl rfl)<|PQe.nil<|zx [0,2,3,41,42,43] [2,3,100,101,102,103,104,105,106,107,1100,1101,1102,1103,1104,1105,1106,1107,30064] ?_;refine zG ?_;exact⟨((IntKind.i64.wrap (v43+1)),(v44++[(⟨x46.dev,y48⟩:TRow)])),(),h,sP⟩
   ·refine wZ ?_;exact⟨v44,(),h,sP⟩
  ·rintro v28 _ h;refine zE ?_;refine PWl.frzC (id:=30064) (oid:=3) (j:=4) (n:=v28.length) [] hK (.nil) rfl (by simp) rfl (by first | rfl | (congr 2;first | (simp;done) | (simp;omega) | omega)) rfl ?_;refine zQ ?_;refine wX ?_;cases h;exact EndsO.mkX (ex:=[(2,_)]) () (.inr rfl) (vJ [2] [100,101,102,103,104,105,106,107,1100,1101,1102,1103,1104,1105,1106,1107,2]) (.cons (.agg isAgg31 sizeOf31 rfl rfl rfl)<|.nil) rfl rfl
theorem JS  (r0:Bool) (h:(Wc ).wp (·=r0)):PFun prog 7 [] (.d (.v (.bool r0))):=by
 refine ya [] func7 ntmps7 ?_;intro ctx hK;refine zY ?_;obtain⟨y1,hy2,h⟩:=zV h;refine xO [(5,4),(1,20081),(2,20082),(3,20083),(20021,20084),(20041,20085),(20061,20086),(20062,20087)] [] [5,1,2,3,20021,20041,20061,20062] (QH y1 hy2) call16 ?_;obtain⟨y3,hy4,h⟩:=zV h;refine ZCa [(100,4),(101,20081),(102,20082),(103,20083),(104,20084),(105,20085),(106,20086),(107,20087)] [] [100,101,102,103,104,105,106,107] [] [100,101,102,103,104,105,106,107] (XN hy4) call17 ?_;refine xd [5] [] ?_;obtain⟨v5,hy6,h⟩:=zV h;refine xN (xba hy6) call8 ?_;refine ze ?_;refine yF (zO h) 34 [] [] (fun v7=>([(0,.d (.v (.bool v7)))],[])) (fun h=>?_) ?_
 ·refine g5 ?_;refine yC ?_;refine vn 11 h (fun h=>?_) fun h=>?_
  ·refine h5 ?_;refine qt (fun _ U W=>lM (enc:=(eK .u8)) (L:=v5.1) underlying34 U) ?_;refine yC ?_;refine vn 16 h (fun h=>?_) fun h=>?_
   ·refine h5 ?_;obtain⟨x10,hy11,h⟩:=yO h;refine vS hy11 ?_;refine xX ?_;refine vn 22 h (fun h=>?_) fun h=>?_
    ·refine h5 ?_;obtain⟨x13,hy14,h⟩:=yO h;refine vS hy14 ?_;refine xX ?_;refine vn 28 h (fun h=>?_) fun h=>?_
     ·refine h5 ?_;obtain⟨hy16,h⟩:=zy h;refine qt (fun _ U W=>LR.cutLT (enc:=(eK .u8)) (L:=v5.1) underlying34 sizeOf5 U (fun _=>rfl) U hy16) ?_;refine qt (fun _ U W=>LR.makeD (n:=20) (enc:=(eK .u8)) (z:=0) WR zeroValue5 rfl rfl rfl U U rfl rfl (by decide) (by decide)) ?_;obtain⟨v17,hy18,h⟩:=zV h;refine qt (fun _ U W=>cN (xca hy18) U call10 (Ya (fun a b=>U a b) rfl rfl) rfl rfl rfl) ?_;refine yC ?_;exact⟨v17,(),h,sP⟩
     ·refine zKa ?_;exact⟨false,(),h,sP⟩
    ·refine JR ?_;exact⟨false,(),h,sP⟩
   ·refine hs19A6 ?_;exact⟨false,(),h,sP⟩
  ·refine hs24A6 ?_;exact⟨false,(),h,sP⟩
 ·rintro v7 _ h;refine wX ?_;cases h;exact xT
theorem w0a{epoch1 last2 l3 tries4 r0}(h:(Jp epoch1 last2 l3 tries4).wp (·=r0)):PFun prog 61 [zC .u64 epoch1,zC .u16 last2,zW TMember.e l3,zW (eK .u64) tries4] (.d (.v (.bool r0))):=by
 refine ya [0,1,2,3] func61 ntmps61 ?_;intro ctx hK;refine zY ?_;refine yF (zO h) 90 [1,2,3] [] (fun v5=>([(22,.d (.v (.bool v5)))],[])) (fun h=>?_) ?_
 ·refine zG ?_;refine yK 14 h (fun h=>?_) fun h=>?_
  ·refine ym ?_;exact⟨true,(),h,sP⟩
  ·refine zG ?_;refine yK 18 h (fun h=>?_) fun h=>?_
   ·refine zK ?_;exact⟨true,(),h,sP⟩
   ·refine zK ?_;exact⟨(!decide ((tries4.length:Int)=16)),(),h,sP⟩
 ·rintro v5 _ h;refine zD h (fun h=>?_) fun h=>?_
  ·refine zG ?_;refine wX ?_;cases h;exact xT
  ·refine zY ?_;refine wq (zO h) 90 [] [] (fun _=>([],[])) (fun h=>?_) ?_
   ·refine g5 ?_;refine zf h 90 [1,2,3] [] (fun i76=>([(9,zC .i64 i76)],[])) ?_;rintro N i76 _ h;refine zl ?_;refine zD h (fun h=>?_) fun h=>?_
    ·refine zE ?_;refine wq (zO h) 90 [1,2,3,9] [] (fun _=>([],[])) (fun h=>?_) ?_
     ·refine zK ?_;obtain⟨x78,hy79,h⟩:=yO h;refine xK hy79 ?_;refine zY ?_;refine yF (zO h) 90 [1,2,3,9,10] [10] (fun v80=>([(76,.d (.v (.bool v80)))],[])) (fun h=>?_) ?_
      ·refine g5 ?_;refine xX ?_;refine vn 36 h (fun h=>?_) fun h=>?_
       ·refine hs19A6 ?_;refine jX [1,2,3,9,10,37,38,39,40,42,43,44,45,46,47,48,49,50,51,52,53,54,55] ?_;refine hs22A6 ?_;exact⟨true,(),h,sP⟩
       ·refine Ys ?_;refine vn 42 h (fun h=>?_) fun h=>?_
        ·refine hs12A6 ?_;refine jX [1,2,3,9,10,37,38,39,40,42,43,44,45,46,47,48,49,50,51,52,53,54] ?_;refine hs23A6 ?_;exact⟨true,(),h,sP⟩
        ·refine yC ?_;refine vn 45 h (fun h=>?_) fun h=>?_
         ·refine yC ?_;obtain⟨x84,hy85,h⟩:=yO h;refine vS hy85 ?_;refine xX ?_;refine jX [1,2,3,9,10,37,38,39,40,42,43,44,45,46,47,48,49,50,51,52,53] ?_;refine xX ?_;refine vn 57 h (fun h=>?_) fun h=>?_
          ·refine xPa ?_;exact⟨true,(),h,sP⟩
          ·refine WJ ?_;refine vn 62 h (fun h=>?_) fun h=>?_
           ·refine v7a ?_;exact⟨true,(),h,sP⟩
           ·refine WJ ?_;refine vn 67 h (fun h=>?_) fun h=>?_
            ·refine jX [1,2,3,9,10,37,38,39,40,43,44,45,46,47,48,49,50,51,52,53,54,55,58,59,60,63,64,65,67] ?_;refine JQ ?_;exact⟨true,(),h,sP⟩
            ·refine jX [1,2,3,9,10,37,38,39,40,43,44,45,46,47,48,49,50,51,52,53,54,55,58,59,60,63,64,65,67] ?_;refine yC ?_;obtain⟨x89,hy90,h⟩:=yO h;refine vS hy90 ?_;refine Ys ?_;exact⟨(!decide (x89=x78.try_)),(),h,sP⟩
         ·refine woa ?_;refine jX [1,2,3,9,10,37,38,39,40,42,43,44,45,46,47,48,49,50,51,52,53] ?_;refine yBa ?_;refine vn 62 h (fun h=>?_) fun h=>?_
          ·refine v7a ?_;exact⟨true,(),h,sP⟩
          ·refine WJ ?_;refine vn 67 h (fun h=>?_) fun h=>?_
           ·refine JQ ?_;exact⟨true,(),h,sP⟩
           ·refine yC ?_;obtain⟨x93,hy94,h⟩:=yO h;refine vS hy94 ?_;refine Ys ?_;exact⟨(!decide (x93=x78.try_)),(),h,sP⟩
      ·rintro v80 _ h;refine zD h (fun h=>?_) fun h=>?_
       ·refine zG ?_;refine wX ?_;cases h;exact xT
       ·refine zY ?_;refine zf h 90 [1,2,3,9,10] [10] (fun k105=>([(11,zC .i64 k105)],[])) ?_;rintro N k105 _ h;refine ze ?_;refine zD h (fun h=>?_) fun h=>?_
        ·refine zK ?_;refine yW ?_;obtain⟨x107,hy108,h⟩:=yO h;refine yz hy108 ?_;refine Ys ?_;refine zD h (fun h=>?_) fun h=>?_
         ·refine zG ?_;refine wX ?_;cases h;exact xT
         ·refine zY ?_;exact⟨(IntKind.i64.wrap (k105+1)),(),h,sP⟩
        ·refine wZ ?_;exact⟨(),(),h,sP⟩
     ·rintro _ _ h;refine zK ?_;exact⟨(IntKind.i64.wrap (i76+1)),(),h,sP⟩
    ·refine wZ ?_;exact⟨(),(),h,sP⟩
   ·rintro _ _ h;refine zG ?_;refine wX ?_;cases h;exact xT
theorem Yma{a1 b2 r0}(h:(v9a a1 b2).wp (·=r0)):PFun prog 82 [zW RN.e a1,zW RN.e b2] (.d (.v (.bool r0))):=by
 refine ya [0,1] func82 ntmps82 ?_;intro ctx hK;refine vu ?_;refine zD h (fun h=>?_) fun h=>?_
 ·refine zG ?_;refine wX ?_;cases h;exact xT
 ·refine zY ?_;refine wq (zO h) 26 [] [] (fun _=>([],[])) (fun h=>?_) ?_
  ·refine g5 ?_;refine zf h 26 [0,1] [] (fun i17=>([(5,zC .i64 i17)],[])) ?_;rintro N i17 _ h;refine zl ?_;refine zD h (fun h=>?_) fun h=>?_
   ·refine zK ?_;refine yW ?_;obtain⟨x19,hy20,h⟩:=yO h;refine yz hy20 ?_;refine yC ?_;obtain⟨x21,hy22,h⟩:=yO h;refine yz hy22 ?_;refine h5 ?_;refine qs (fun _ U W=>LR.neqAgg U U rfl rfl eq124) ?_;refine h5 ?_;refine zD h (fun h=>?_) fun h=>?_
    ·refine zG ?_;refine wX ?_;cases h;exact xT
    ·refine zY ?_;exact⟨(IntKind.i64.wrap (i17+1)),(),h,sP⟩
   ·refine wZ ?_;exact⟨(),(),h,sP⟩
  ·rintro _ _ h;refine zG ?_;refine wX ?_;cases h;exact xT
theorem QJ{a1 b2 r0}(h:(qy a1 b2).wp (·=r0)):PFun prog 43 [zW PT.e a1,zW PT.e b2] (.d (.v (.bool r0))):=by
 refine ya [0,1] func43 ntmps43 ?_;intro ctx hK;refine vu ?_;refine zD h (fun h=>?_) fun h=>?_
 ·refine zG ?_;refine wX ?_;cases h;exact xT
 ·refine zY ?_;refine wq (zO h) 42 [] [] (fun _=>([],[])) (fun h=>?_) ?_
  ·refine g5 ?_;refine zf h 42 [0,1] [] (fun i33=>([(5,zC .i64 i33)],[])) ?_;rintro N i33 _ h;refine zl ?_;refine zD h (fun h=>?_) fun h=>?_
   ·refine zG ?_;refine yF (zO h) 42 [0,1,5] [] (fun v35=>([(41,.d (.v (.bool v35)))],[])) (fun h=>?_) ?_
    ·refine g5 ?_;refine yW ?_;obtain⟨x36,hy37,h⟩:=yO h;refine yz hy37 ?_;refine xX ?_;obtain⟨x38,hy39,h⟩:=yO h;refine yz hy39 ?_;refine xX ?_;refine vn 28 h (fun h=>?_) fun h=>?_
     ·refine YPa ?_;exact⟨true,(),h,sP⟩
     ·refine yW ?_;obtain⟨x41,hy42,h⟩:=yO h;refine vS hy42 ?_;refine xX ?_;obtain⟨x43,hy44,h⟩:=yO h;refine vS hy44 ?_;refine yW ?_;obtain⟨v45,hy46,h⟩:=zV h;refine qt (fun _ U W=>cN (Yma hy46) U call82 (Ya (fun a b=>U a b) rfl rfl) rfl rfl rfl) ?_;refine yC ?_;exact⟨(!v45),(),h,sP⟩
    ·rintro v35 _ h;refine zD h (fun h=>?_) fun h=>?_
     ·refine zG ?_;refine wX ?_;cases h;exact xT
     ·refine zY ?_;exact⟨(IntKind.i64.wrap (i33+1)),(),h,sP⟩
   ·refine wZ ?_;exact⟨(),(),h,sP⟩
  ·rintro _ _ h;refine zG ?_;refine wX ?_;cases h;exact xT
theorem Zr{a1 b2 r0}(h:(ZK a1 b2).wp (·=r0)):PFun prog 80 [.agg (List.map .d (DT.e a1)),.agg (List.map .d (DT.e b2))] (zC .i64 r0):=by
 refine ya [0,1] func80 ntmps80 ?_;intro ctx hK;refine vi ?_;refine ws (LR.eqlAgg rfl rfl rfl rfl yAa) ?_;refine g5 ?_;refine zD h (fun h=>?_) fun h=>?_
 ·refine zG ?_;refine wX ?_;cases h;exact xT
 ·refine zQ ?_;refine yF (zO h) 27 [] [] (fun v4=>([(26,.d (.v (.bool v4)))],[])) (fun h=>?_) ?_
  ·refine ze ?_;refine yK 13 h (fun h=>?_) fun h=>?_
   ·refine zY ?_;refine xd [2,3,13,19] [2,3] ?_;refine zl ?_;exact⟨true,(),h,sP⟩
   ·refine zY ?_;refine xd [2,3,13,19] [2,3] ?_;refine yK 19 h (fun h=>?_) fun h=>?_
    ·refine zl ?_;exact⟨(decide (a1.n < b2.n)),(),h,sP⟩
    ·refine zl ?_;exact⟨false,(),h,sP⟩
  ·rintro v4 _ h;refine zD h (fun h=>?_) fun h=>?_
   ·refine zG ?_;refine wX ?_;cases h;exact xT
   ·refine zK ?_;refine wX ?_;cases h;exact xT
theorem XO{l1 d2 r0}(h:(Yt l1 d2).wp (·=r0)):PRow prog 146 [zW DT.e l1,.agg (List.map .d (DT.e d2))] 101 2 (List.map DT.e r0):=by
 refine PRow.intro (sl:=[(0,_),(1,_)]) func146 rfl ntmps146 rfl rfl ?_;intro ctx hK;refine zQ ?_;refine ws (aR 101 2 rfl) ?_;refine zQ ?_;refine ws (aR 101 2 rfl) ?_;refine zY ?_;refine yF (zO h) 53 [0,3] [3] (fun out3=>([(5,.row 5 (out3.length))],[(5,.row 101 2 (List.map DT.e out3))])) (fun h=>?_) ?_
 ·refine g5 ?_;refine zf h 53 [0,3] [3] (fun⟨i26,out27⟩=>([(5,.row 5 (out27.length)),(6,zC .i64 i26)],[(5,.row 101 2 (List.map DT.e out27))])) ?_;rintro N ⟨i26,out27⟩ _ h;refine zl ?_;refine zD h (fun h=>?_) fun h=>?_
  ·refine zE ?_;refine yF (zO h) 53 [0,3,6] [3] (fun out29=>([(5,.row 5 (out29.length))],[(5,.row 101 2 (List.map DT.e out29))])) (fun h=>?_) ?_
   ·refine zQ ?_;refine yW ?_;obtain⟨x30,hy31,h⟩:=yO h;refine yz hy31 ?_;refine yW ?_;obtain⟨v32,hy33,h⟩:=zV h;refine qs (fun _ U W=>cN (Zr hy33) U call80 (Ya (fun a b=>U a b) rfl rfl) rfl rfl rfl) ?_;refine yW ?_;refine zD h (fun h=>?_) fun h=>?_
    ·refine zG ?_;obtain⟨x35,hy36,h⟩:=yO h;refine xK hy36 ?_;refine g5 ?_;refine ws (LR.buildSliceD [.tmp 25] wn rfl rfl (.cons rfl rfl rfl<|.nil) (by decide) (by decide))<|xd [0,3,5,6,21,26] [3,5] ?_;obtain⟨hy37,h⟩:=zy h;refine ws (LR.appT (enc:=DT.e) (L:=out27) (R:=[x35]) [5,21] wn underlying102 rfl rfl rfl (Src.slT (enc:=DT.e) (R:=[x35]) rfl (fun _=>rfl)) (fun _=>rfl) hy37 rfl rfl) ?_;refine zE ?_;exact⟨(out27++[x35]),(),h,sP⟩
    ·refine g5 ?_;exact⟨out27,(),h,sP⟩
   ·rintro out29 _ h;refine zK ?_;exact⟨((IntKind.i64.wrap (i26+1)),out29),(),h,sP⟩
  ·refine wZ ?_;exact⟨out27,(),h,sP⟩
 ·rintro out3 _ h;refine zG ?_;refine ws (LR.buildSliceD [.tmp 29] wn rfl rfl (.cons rfl rfl rfl<|.nil) (by decide) (by decide)) ?_;obtain⟨hy38,h⟩:=zy h;refine ws (LR.appT (enc:=DT.e) (L:=out3) (R:=[d2]) [5,28] wn underlying102 rfl rfl rfl (Src.slT (enc:=DT.e) (R:=[d2]) rfl (fun _=>rfl)) (fun _=>rfl) hy38 rfl rfl) ?_;refine ze ?_;refine yF (zO h) 53 [] [] (fun out39=>([(5,.row 5 (out39.length))],[(5,.row 101 2 (List.map DT.e out39))])) (fun h=>?_) ?_
  ·refine g5 ?_;refine zf h 53 [0,3] [3] (fun⟨i62,out63⟩=>([(5,.row 5 (out63.length)),(7,zC .i64 i62)],[(5,.row 101 2 (List.map DT.e out63))])) ?_;rintro N ⟨i62,out63⟩ _ h;refine zl ?_;refine zD h (fun h=>?_) fun h=>?_
   ·refine zE ?_;refine yF (zO h) 53 [0,3,7] [3] (fun out65=>([(5,.row 5 (out65.length))],[(5,.row 101 2 (List.map DT.e out65))])) (fun h=>?_) ?_
    ·refine zQ ?_;refine yW ?_;obtain⟨x66,hy67,h⟩:=yO h;refine yz hy67 ?_;refine yW ?_;obtain⟨v68,hy69,h⟩:=zV h;refine qs (fun _ U W=>cN (Zr hy69) U call80 (Ya (fun a b=>U a b) rfl rfl) rfl rfl rfl) ?_;refine yW ?_;refine zD h (fun h=>?_) fun h=>?_
     ·refine zG ?_;obtain⟨x71,hy72,h⟩:=yO h;refine xK hy72 ?_;refine g5 ?_;refine ws (LR.buildSliceD [.tmp 49] wn rfl rfl (.cons rfl rfl rfl<|.nil) (by decide) (by decide))<|xd [0,3,5,7,45,50] [3,5] ?_;obtain⟨hy73,h⟩:=zy h;refine ws (LR.appT (enc:=DT.e) (L:=out63) (R:=[x71]) [5,45] wn underlying102 rfl rfl rfl (Src.slT (enc:=DT.e) (R:=[x71]) rfl (fun _=>rfl)) (fun _=>rfl) hy73 rfl rfl) ?_;refine zE ?_;exact⟨(out63++[x71]),(),h,sP⟩
     ·refine g5 ?_;exact⟨out63,(),h,sP⟩
    ·rintro out65 _ h;refine zK ?_;exact⟨((IntKind.i64.wrap (i62+1)),out65),(),h,sP⟩
   ·refine wZ ?_;exact⟨out63,(),h,sP⟩
  ·rintro out39 _ h;refine zK ?_;refine wX ?_;cases h;exact⟨.inr rfl,4,rfl,.inr ⟨5,_,rfl,(by simp),rfl⟩⟩
theorem w1a{a1 b2 r0}(h:(Jq a1 b2).wp (·=r0)):PFun prog 147 [zW PT.e a1,zW PT.e b2] (zW DT.e r0):=by
 refine ya [0,1] func147 ntmps147 ?_;intro ctx hK;refine zE ?_;refine ws (aR 101 2 rfl) ?_;refine zQ ?_;refine ws (aR 101 2 rfl) ?_;refine zY ?_;refine yF (zO h) 37 [1] [] (fun out3=>([(5,zW DT.e out3)],[])) (fun h=>?_) ?_
 ·refine g5 ?_;refine zf h 37 [0,1] [] (fun⟨out16,i17⟩=>([(5,zW DT.e out16),(6,zC .i64 i17)],[])) ?_ (hs:=Sub.trans (Sub.frz [5] hK rfl vD (AllRow.get (.cons rfl<|.nil)))<|sP);rintro N ⟨out16,i17⟩ _ h;refine zl ?_;refine zD h (fun h=>?_) fun h=>?_
  ·refine ze ?_;obtain⟨x19,hy20,h⟩:=yO h;refine xK hy20 ?_;refine zE ?_;refine ws (LR.build (ns:=[_,_]) um rfl rfl rfl) ?_;obtain⟨v21,hy22,h⟩:=zV h;refine ws (LR.rowN (XO hy22) rfl call146 rfl rfl rfl rfl) ?_;refine ze ?_;exact⟨(v21,(IntKind.i64.wrap (i17+1))),(),h,Sub.trans (Sub.frz [5,21] hK rfl (by simp) (AllRow.get (.cons rfl<|.cons rfl<|.nil)))<|sP⟩
  ·refine wZ ?_;exact⟨out16,(),h,sP⟩
 ·rintro out3 _ h;refine zK ?_;refine yF (zO h) 37 [] [] (fun out23=>([(5,zW DT.e out23)],[])) (fun h=>?_) ?_
  ·refine g5 ?_;refine zf h 37 [1] [] (fun⟨out36,i37⟩=>([(5,zW DT.e out36),(7,zC .i64 i37)],[])) ?_;rintro N ⟨out36,i37⟩ _ h;refine zl ?_;refine zD h (fun h=>?_) fun h=>?_
   ·refine ze ?_;obtain⟨x39,hy40,h⟩:=yO h;refine xK hy40 ?_;refine zE ?_;refine ws (LR.build (ns:=[_,_]) um rfl rfl rfl) ?_;obtain⟨v41,hy42,h⟩:=zV h;refine ws (LR.rowN (XO hy42) rfl call146 rfl rfl rfl rfl) ?_;refine ze ?_;exact⟨(v41,(IntKind.i64.wrap (i37+1))),(),h,Sub.trans (Sub.frz [5,35] hK rfl (by simp) (AllRow.get (.cons rfl<|.cons rfl<|.nil)))<|sP⟩
   ·refine wZ ?_;exact⟨out36,(),h,sP⟩
  ·rintro out23 _ h;refine zK ?_;refine wX ?_;cases h;exact xT
theorem zha{x1 r0}(h:(qz x1).wp (·=r0)):PFun prog 210 [.agg (List.map .d (RN.e x1))] (.d (.v (.bool r0))):=by
 refine ya [0] func210 ntmps210 ?_;intro ctx hK;refine zY ?_;refine yF (zO h) 18 [] [] (fun v2=>([(2,.d (.v (.bool v2)))],[])) (fun h=>?_) ?_
 ·refine zK ?_;refine yK 6 h (fun h=>?_) fun h=>?_
  ·refine ze ?_;refine yK 13 h (fun h=>?_) fun h=>?_
   ·refine zY ?_;exact⟨(decide (x1.hi<=281474976710655)),(),h,sP⟩
   ·refine zY ?_;exact⟨false,(),h,sP⟩
  ·refine vu ?_;exact⟨false,(),h,sP⟩
 ·rintro v2 _ h;refine wX ?_;cases h;exact xT
theorem jq{l1 n2 r0}(h:(jf l1 n2).wp (·=r0)):PFun prog 181 [zW RN.e l1,zC .u64 n2] (.d (.v (.bool r0))):=by
 refine ya [0,1] func181 ntmps181 ?_;intro ctx hK;refine ym ?_;refine wq (zO h) 35 [] [] (fun _=>([],[])) (fun h=>?_) ?_
 ·refine g5 ?_;refine zf h 35 [0,1] [] (fun i30=>([(5,zC .i64 i30)],[])) ?_;rintro N i30 _ h;refine zl ?_;refine zD h (fun h=>?_) fun h=>?_
  ·refine zG ?_;refine yF (zO h) 35 [0,1,5] [] (fun v32=>([(34,.d (.v (.bool v32)))],[])) (fun h=>?_) ?_
   ·refine zQ ?_;obtain⟨x33,hy34,h⟩:=yO h;refine xK hy34 ?_;refine g5 ?_;obtain⟨v35,hy36,h⟩:=zV h;refine xN (zha hy36) call210 ?_;refine g5 ?_;refine yK 17 h (fun h=>?_) fun h=>?_
    ·refine zE ?_;obtain⟨x38,hy39,h⟩:=yO h;refine zba hy39 ?_;refine zG ?_;refine xd [0,1,5,17,18,19,20,21,22,23,24] [] ?_;refine zE ?_;refine yK 26 h (fun h=>?_) fun h=>?_
     ·refine zQ ?_;obtain⟨x41,hy42,h⟩:=yO h;refine zba hy42 ?_;refine zK ?_;exact⟨(decide (n2<=x41.hi)),(),h,sP⟩
     ·refine ym ?_;exact⟨false,(),h,sP⟩
    ·refine ze ?_;refine xd [0,1,5,17,18,19,20,21,22,23,24] [] ?_;refine vi ?_;exact⟨false,(),h,sP⟩
   ·rintro v32 _ h;refine zD h (fun h=>?_) fun h=>?_
    ·refine zG ?_;refine wX ?_;cases h;exact xT
    ·refine zY ?_;exact⟨(IntKind.i64.wrap (i30+1)),(),h,sP⟩
  ·refine wZ ?_;exact⟨(),(),h,sP⟩
 ·rintro _ _ h;refine zG ?_;refine wX ?_;cases h;exact xT
theorem zia{l1 n2 r0}(h:(QA l1 n2).wp (·=r0)):PRow prog 238 [zW (eK .u64) l1,zC .u64 n2] 22 1 (List.map (eK .u64) r0):=by
 refine PRow.intro (sl:=[(0,_),(1,_)]) func238 rfl ntmps238 rfl rfl ?_;intro ctx hK;refine zE ?_;refine ws (aR 22 1 rfl) ?_;refine zQ ?_;refine ws (aR 22 1 rfl) ?_;refine wV ?_;refine yF (zO h) 48 [1] [] (fun⟨done3,out4⟩=>([(5,.row 5 (out4.length)),(6,.d (.v (.bool done3)))],[(5,.row 22 1 (List.map (eK .u64) out4))])) (fun h=>?_) ?_
 ·refine g5 ?_;refine zf h 48 [0,1] [] (fun⟨done43,i44,out45⟩=>([(5,.row 5 (out45.length)),(6,.d (.v (.bool done43))),(7,zC .i64 i44)],[(5,.row 22 1 (List.map (eK .u64) out45))])) ?_;rintro N ⟨done43,i44,out45⟩ _ h;refine zl ?_;refine zD h (fun h=>?_) fun h=>?_
  ·refine zE ?_;refine yF (zO h) 48 [0,1,7] [] (fun⟨done47,out48⟩=>([(5,.row 5 (out48.length)),(6,.d (.v (.bool done47)))],[(5,.row 22 1 (List.map (eK .u64) out48))])) (fun h=>?_) ?_
   ·refine zQ ?_;refine yF (zO h) 48 [0,1,5,6,7] [5] (fun v49=>([(23,.d (.v (.bool v49)))],[])) (fun h=>?_) ?_
    ·refine zG ?_;refine yK 16 h (fun h=>?_) fun h=>?_
     ·refine zE ?_;obtain⟨x51,hy52,h⟩:=yO h;refine zba hy52 ?_;refine zK ?_;exact⟨(decide (n2<=x51)),(),h,sP⟩
     ·refine zl ?_;exact⟨false,(),h,sP⟩
    ·rintro v49 _ h;refine yF (zO h) 48 [0,1,7] [] (fun⟨done53,out54⟩=>([(5,.row 5 (out54.length)),(6,.d (.v (.bool done53)))],[(5,.row 22 1 (List.map (eK .u64) out54))])) (fun h=>?_) ?_
     ·refine zD h (fun h=>?_) fun h=>?_
      ·refine zG ?_;refine ws (LR.buildSliceD [.tmp 25] XB rfl rfl (.cons rfl rfl rfl<|.nil) (by decide) (by decide)) ?_;obtain⟨hy56,h⟩:=zy h;refine ws (LR.appT (enc:=(eK .u64)) (L:=out45) (R:=[n2]) [5,24] XB underlying25 rfl rfl rfl (Src.slT (enc:=(eK .u64)) (R:=[n2]) rfl (fun _=>rfl)) (fun _=>rfl) hy56 rfl rfl) ?_;refine zK ?_;exact⟨(true,(out45++[n2])),(),h,sP⟩
      ·refine g5 ?_;exact⟨(done43,out45),(),h,sP⟩
     ·rintro⟨done53,out54⟩ _ h;refine zG ?_;obtain⟨x57,hy58,h⟩:=yO h;refine xK hy58 ?_;refine zG ?_;refine zD h (fun h=>?_) fun h=>?_
      ·refine zG ?_;obtain⟨x60,hy61,h⟩:=yO h;refine xK hy61 ?_;refine g5 ?_;refine ws (LR.buildSliceD [.tmp 38] XB rfl rfl (.cons rfl rfl rfl<|.nil) (by decide) (by decide)) ?_;obtain⟨hy62,h⟩:=zy h;refine ws (LR.appT (enc:=(eK .u64)) (L:=out54) (R:=[x60]) [5,34] XB underlying25 rfl rfl rfl (Src.slT (enc:=(eK .u64)) (R:=[x60]) rfl (fun _=>rfl)) (fun _=>rfl) hy62 rfl rfl) ?_;refine zE ?_;exact⟨(done53,(out54++[x60])),(),h,sP⟩
      ·refine g5 ?_;exact⟨(done53,out54),(),h,sP⟩
   ·rintro⟨done47,out48⟩ _ h;refine zK ?_;exact⟨(done47,(IntKind.i64.wrap (i44+1)),out48),(),h,sP⟩
  ·refine wZ ?_;exact⟨(done43,out45),(),h,sP⟩
 ·rintro⟨done3,out4⟩ _ h;refine zY ?_;refine yF (zO h) 48 [] [] (fun out63=>([(5,.row 5 (out63.length))],[(5,.row 22 1 (List.map (eK .u64) out63))])) (fun h=>?_) ?_
  ·refine zD h (fun h=>?_) fun h=>?_
   ·refine zQ ?_;refine ws (LR.buildSliceD [.tmp 44] XB rfl rfl (.cons rfl rfl rfl<|.nil) (by decide) (by decide)) ?_;obtain⟨hy65,h⟩:=zy h;refine ws (LR.appT (enc:=(eK .u64)) (L:=out4) (R:=[n2]) [5,43] XB underlying25 rfl rfl rfl (Src.slT (enc:=(eK .u64)) (R:=[n2]) rfl (fun _=>rfl)) (fun _=>rfl) hy65 rfl rfl) ?_;refine zE ?_;exact⟨(out4++[n2]),(),h,sP⟩
   ·refine g5 ?_;exact⟨out4,(),h,sP⟩
  ·rintro out63 _ h;refine zK ?_;refine wX ?_;cases h;exact⟨.inr rfl,4,rfl,.inr ⟨5,_,rfl,(by simp),rfl⟩⟩
theorem yWa{a1 b2 r0}(h:(VL a1 b2).wp (·=r0)):PFun prog 211 [zW RN.e a1,zW RN.e b2] (zW (eK .u64) r0):=by
 refine ya [0,1] func211 ntmps211 ?_;intro ctx hK;refine zE ?_;refine ws (aR 22 1 rfl) ?_;refine zQ ?_;refine ws (aR 22 1 rfl) ?_;refine zK ?_;obtain⟨hy3,h⟩:=zy h;refine ws (LR.appT (enc:=RN.e) (L:=([]:List RN)) (R:=a1) [8] ZS underlying97 rfl vD rfl (Src.slT (enc:=RN.e) (R:=a1) rfl (fun _=>rfl)) (fun _=>rfl) hy3 rfl rfl) ?_;refine g5 ?_;obtain⟨hy4,h⟩:=zy h;refine ws (LR.appT (enc:=RN.e) (L:=(([]:List RN)++a1)) (R:=b2) [10] ZS underlying97 rfl rfl rfl (Src.slT (enc:=RN.e) (R:=b2) rfl (fun _=>rfl)) (fun _=>rfl) hy4 rfl rfl) ?_;refine ze ?_;refine yF (zO h) 40 [] [] (fun out5=>([(5,zW (eK .u64) out5)],[])) (fun h=>?_) ?_
 ·refine g5 ?_;refine zf h 40 [6] [8] (fun⟨out38,i39⟩=>([(5,zW (eK .u64) out38),(7,zC .i64 i39)],[])) ?_ (hs:=Sub.trans (Sub.frz [5] hK rfl vD (AllRow.get (.cons rfl<|.nil)))<|zca);rintro N ⟨out38,i39⟩ _ h;refine zl ?_;refine zD h (fun h=>?_) fun h=>?_
  ·refine zE ?_;refine yF (zO h) 40 [6,7] [8] (fun out41=>([(5,zW (eK .u64) out41)],[])) (fun h=>?_) ?_
   ·refine zK ?_;obtain⟨x42,hy43,h⟩:=yO h;refine ws (LR.idxRowT (L:=((([]:List RN)++a1)++b2)) (y:=x42) underlying97 sizeOf124 rfl vD rfl hy43) ?_;refine ws (LR.loadRpT (enc:=RN.e) (L:=((([]:List RN)++a1)++b2)) (y:=x42) isAgg124 sizeOf124 rfl rfl hy43.2) ?_;obtain⟨v44,hy45,h⟩:=zV h;refine xN (zha hy45) call210 ?_;refine g5 ?_;refine zD h (fun h=>?_) fun h=>?_
    ·refine zK ?_;obtain⟨x47,hy48,h⟩:=yO h;refine ws (LR.idxRowT (L:=((([]:List RN)++a1)++b2)) (y:=x47) underlying97 sizeOf124 rfl vD rfl hy48) ?_;refine g5 ?_;refine ws (LR.loadRpF (enc:=RN.e) (L:=((([]:List RN)++a1)++b2)) (y:=x47) isAgg22 rfl rfl hy48.2 rfl) ?_;obtain⟨v49,hy50,h⟩:=zV h;refine ws (LR.rowN (zia hy50) rfl call238 rfl rfl rfl rfl) ?_;refine zG ?_;refine xd [5,6,7,31] [8,30] ?_;refine zE ?_;obtain⟨x51,hy52,h⟩:=yO h;refine ws (LR.idxRowT (L:=((([]:List RN)++a1)++b2)) (y:=x51) underlying97 sizeOf124 rfl vD rfl hy52) ?_;refine g5 ?_;refine ws (LR.loadRpF (enc:=RN.e) (L:=((([]:List RN)++a1)++b2)) (y:=x51) isAgg22 rfl rfl hy52.2 rfl) ?_;refine g5 ?_;obtain⟨v53,hy54,h⟩:=zV h;refine PWl.frz [5,31] hK (.cons rfl<|.cons rfl<|.nil) rfl (by simp) ?_;refine ws (LR.rowN (zia hy54) rfl call238 rfl rfl rfl rfl) ?_;refine zE ?_;exact⟨v53,(),h,Sub.trans (Sub.frz [5,38] hK rfl (by simp) (AllRow.get (.cons rfl<|.cons rfl<|.nil)))<|zca⟩
    ·refine g5 ?_;exact⟨out38,(),h,zca⟩
   ·rintro out41 _ h;refine zK ?_;exact⟨(out41,(IntKind.i64.wrap (i39+1))),(),h,zca⟩
  ·refine wZ ?_;exact⟨out38,(),h,sP⟩
 ·rintro out5 _ h;refine zK ?_;refine wX ?_;cases h;exact xT
theorem jr{a1 b2 how3 r0}(h:(jg a1 b2 how3).wp (·=r0)):PRow prog 182 [zW RN.e a1,zW RN.e b2,zC .i64 how3] 124 2 (List.map RN.e r0):=by
 refine PRow.intro (sl:=[(0,_),(1,_),(2,_)]) func182 rfl ntmps182 rfl rfl ?_;intro ctx hK;refine zE ?_;refine ws (aR 124 2 rfl) ?_;refine zK ?_;obtain⟨v4,hy5,h⟩:=zV h;refine xN (yWa hy5) call211 ?_;refine zG ?_;refine ws (aR 124 2 rfl) ?_;refine zY ?_;refine yF (zO h) 100 [] [] (fun out6=>([(8,.row 8 (out6.length))],[(8,.row 124 2 (List.map RN.e out6))])) (fun h=>?_) ?_
 ·refine g5 ?_;refine zf h 100 [0,1,2,7] [] (fun⟨i85,out86⟩=>([(8,.row 8 (out86.length)),(9,zC .i64 i85)],[(8,.row 124 2 (List.map RN.e out86))])) ?_;rintro N ⟨i85,out86⟩ _ h;refine ym ?_;refine zD h (fun h=>?_) fun h=>?_
  ·refine zE ?_;refine yF (zO h) 100 [0,1,2,7,9] [] (fun out88=>([(8,.row 8 (out88.length))],[(8,.row 124 2 (List.map RN.e out88))])) (fun h=>?_) ?_
   ·refine zQ ?_;refine yC ?_;obtain⟨x89,hy90,h⟩:=yO h;refine yz hy90 ?_;refine h5 ?_;obtain⟨v91,hy92,h⟩:=zV h;refine qs (fun _ U W=>cN (jq hy92) U call181 (Ya (fun a b=>U a b) rfl rfl) rfl rfl rfl) ?_;refine yC ?_;obtain⟨x93,hy94,h⟩:=yO h;refine yz hy94 ?_;refine h5 ?_;obtain⟨v95,hy96,h⟩:=zV h;refine qs (fun _ U W=>cN (jq hy96) U call181 (Ya (fun a b=>U a b) rfl rfl) rfl rfl rfl) ?_;refine yC ?_;refine g5 ?_;refine zx [0,1,2,7,8,9,10,11] [8] ?_;refine yF (zO h) 100 [0,1,2,7,8,9,10,11] [8] (fun in97=>([(12,.d (.v (.bool in97)))],[])) (fun h=>?_) ?_
    ·refine zQ ?_;refine yK 37 h (fun h=>?_) fun h=>?_
     ·refine zG ?_;exact⟨true,(),h,sP⟩
     ·refine zG ?_;exact⟨v95,(),h,sP⟩
    ·rintro in97 _ h;refine zY ?_;refine yF (zO h) 100 [0,1,2,7,8,9,10,11] [8] (fun in99=>([(12,.d (.v (.bool in99)))],[])) (fun h=>?_) ?_
     ·refine zD h (fun h=>?_) fun h=>?_
      ·refine yF (zO h) 100 [0,1,2,7,8,9,10,11] [8] (fun in101=>([(12,.d (.v (.bool in101)))],[])) (fun h=>?_) ?_
       ·refine zQ ?_;refine yK 43 h (fun h=>?_) fun h=>?_
        ·refine zG ?_;exact⟨v95,(),h,sP⟩
        ·refine zG ?_;exact⟨false,(),h,sP⟩
       ·rintro in101 _ h;exact⟨in101,(),h,sP⟩
      ·refine g5 ?_;exact⟨in97,(),h,sP⟩
     ·rintro in99 _ h;refine zY ?_;refine yF (zO h) 100 [0,1,2,7,8,9] [8] (fun in103=>([(12,.d (.v (.bool in103)))],[])) (fun h=>?_) ?_
      ·refine zD h (fun h=>?_) fun h=>?_
       ·refine yF (zO h) 100 [0,1,2,7,8,9] [8] (fun in105=>([(12,.d (.v (.bool in105)))],[])) (fun h=>?_) ?_
        ·refine zQ ?_;refine yK 49 h (fun h=>?_) fun h=>?_
         ·refine zK ?_;exact⟨(!v95),(),h,sP⟩
         ·refine zK ?_;exact⟨false,(),h,sP⟩
        ·rintro in105 _ h;exact⟨in105,(),h,sP⟩
       ·refine g5 ?_;exact⟨in99,(),h,sP⟩
      ·rintro in103 _ h;refine zl ?_;refine yF (zO h) 100 [0,1,2,7,8,9,12,13] [8] (fun v107=>([(73,.d (.v (.bool v107)))],[])) (fun h=>?_) ?_
       ·refine g5 ?_;refine yW ?_;refine vn 57 h (fun h=>?_) fun h=>?_
        ·refine xX ?_;refine vn 61 h (fun h=>?_) fun h=>?_
         ·refine yW ?_;obtain⟨x110,hy111,h⟩:=yO h;refine qt (fun _ U W=>LR.idxRowT (L:=out86) (y:=x110) underlying97 sizeOf124 U rfl U hy111) ?_;refine h5 ?_;refine qt (fun _ U W=>LR.loadRpF (enc:=RN.e) (L:=out86) (y:=x110) isAgg22 U (W rfl) hy111.2 rfl) ?_;refine yC ?_;obtain⟨x112,hy113,h⟩:=yO h;refine vS hy113 ?_;refine xX ?_;exact⟨(decide ((IntKind.u64.wrap (x110.hi+1))=x112)),(),h,sP⟩
         ·refine JR ?_;exact⟨false,(),h,sP⟩
        ·refine hs17A6 ?_;exact⟨false,(),h,sP⟩
       ·rintro v107 _ h;refine zD h (fun h=>?_) fun h=>?_
        ·refine zY ?_;obtain⟨x115,hy116,h⟩:=yO h;refine xK hy116 ?_;refine zE ?_;obtain⟨x117,hy118,h⟩:=yO h;refine ws (LR.idxRowT (L:=out86) (y:=x117) underlying97 sizeOf124 rfl rfl rfl hy118) ?_;refine g5 ?_;refine ws (LR.storeRpT (enc:=RN.e) (L:=out86) (a:=x117) (b:=(⟨x117.lo,(IntKind.u64.wrap (x115 - 1))⟩:RN)) sizeOf22 rfl rfl rfl rfl rfl hy118.2 rfl rfl) ?_;refine g5 ?_;exact⟨(List.set out86 ((Int.toNat ((IntKind.i64.wrap ((out86.length:Int) - 1))))) ((⟨x117.lo,(IntKind.u64.wrap (x115 - 1))⟩:RN))),(),h,zca⟩
        ·refine zG ?_;refine zD h (fun h=>?_) fun h=>?_
         ·refine zx [0,1,2,7,8,9] [8] ?_;refine PWc.regionE [yf [85] [8],{ws:=[86]},{ws:=[87]},{ws:=[88]},{ws:=[89]},{ws:=[90]},{ws:=[91]},{ws:=[92]},{ws:=[93]},{ws:=[94]},{ws:=[95]},{ws:=[96]},{ws:=[97]},⟨[8,85,98],[8],[8],[],[(8,[8,85])],[8],[],[]⟩,yf [8] [8]] (by kernel_rfl) (by kernel_rfl) rfl ?_;refine yC ?_;obtain⟨x120,hy121,h⟩:=yO h;refine kp (fun _ U W=>iX (enc:=(eK .u64)) (L:=v4) (y:=x120) underlying25 sizeOf22 U U hy121 (fun _=>rfl)) ?_;refine xX ?_;obtain⟨x122,hy123,h⟩:=yO h;refine kp (fun _ U W=>iX (enc:=(eK .u64)) (L:=v4) (y:=x122) underlying25 sizeOf22 U U hy123 (fun _=>rfl)) ?_;refine yW ?_;refine kp (fun _ U W=>LR.build (ns:=[_,_]) z8a rfl (evpE (fun a b=>U a b) rfl rfl) rfl) ?_;refine kp (fun _ U W=>LR.buildSliceD [.tmp 96] ZS rfl rfl (.cons U rfl rfl<|.nil) (by decide) (by decide)) ?_;obtain⟨hy124,h⟩:=zy h;refine PQe.stepA [8,85] (fun _ U W ha=>LR.appT (enc:=RN.e) (L:=out86) (R:=[(⟨x120,(IntKind.u64.wrap (x122 - 1))⟩:RN)]) [8,85] ZS underlying97 (U rfl rfl) rfl (W rfl rfl) (Src.slT (enc:=RN.e) (R:=[(⟨x120,(IntKind.u64.wrap (x122 - 1))⟩:RN)]) (U rfl rfl) (fun _=>rfl)) (fun _=>rfl) hy124 rfl ha) rfl (.inl rfl) rfl ?_;refine h5 ?_;refine PQe.nil ?_;exact⟨(out86++[(⟨x120,(IntKind.u64.wrap (x122 - 1))⟩:RN)]),(),h,zca⟩
         ·refine g5 ?_;exact⟨out86,(),h,sP⟩
   ·rintro out88 _ h;refine zK ?_;exact⟨((IntKind.i64.wrap (i85+1)),out88),(),h,sP⟩
  ·refine wZ ?_;exact⟨out86,(),h,sP⟩
 ·rintro out6 _ h;refine zK ?_;refine wX ?_;cases h;exact⟨.inr rfl,6,rfl,.inr ⟨8,_,rfl,(by simp),rfl⟩⟩
theorem QK{a1 b2 r0}(h:(Us a1 b2).wp (·=r0)):PRow prog 149 [zW RN.e a1,zW RN.e b2] 124 2 (List.map RN.e r0):=by
 refine PRow.intro (sl:=[(0,_),(1,_)]) func149 rfl ntmps149 rfl rfl ?_;intro ctx hK;refine zE ?_;refine ws (aR 124 2 rfl) ?_;refine zK ?_;obtain⟨v3,hy4,h⟩:=zV h;refine ws (LR.rowN (jr hy4) rfl call182 rfl rfl rfl rfl)<|xd [0,1,5,6,7] [7] ?_;refine zE ?_;refine wX ?_;cases h;exact⟨.inr rfl,4,rfl,.inr ⟨7,_,rfl,(by simp),rfl⟩⟩
theorem UP{c1 dev2 r0}(h:(VN c1 dev2).wp (·=r0)):PFun prog 148 [zW PT.e c1,zC .u16 dev2] (zW RN.e r0):=by
 refine ya [0,1] func148 ntmps148 ?_;intro ctx hK;refine zE ?_;refine ws (aR 124 2 rfl) ?_;refine zQ ?_;refine ws (aR 124 2 rfl) ?_;refine zY ?_;refine yF (zO h) 32 [] [] (fun out3=>([(5,zW RN.e out3)],[])) (fun h=>?_) ?_
 ·refine g5 ?_;refine zf h 32 [0,1] [] (fun⟨out28,i29⟩=>([(5,zW RN.e out28),(6,zC .i64 i29)],[])) ?_ (hs:=Sub.trans (Sub.frz [5] hK rfl vD (AllRow.get (.cons rfl<|.nil)))<|sP);rintro N ⟨out28,i29⟩ _ h;refine zl ?_;refine zD h (fun h=>?_) fun h=>?_
  ·refine zE ?_;refine yF (zO h) 32 [0,1,6] [] (fun out31=>([(5,zW RN.e out31)],[])) (fun h=>?_) ?_
   ·refine zE ?_;refine yF (zO h) 32 [0,1,5,6] [] (fun v32=>([(23,.d (.v (.bool v32)))],[])) (fun h=>?_) ?_
    ·refine zQ ?_;obtain⟨x33,hy34,h⟩:=yO h;refine xK hy34 ?_;refine zK ?_;refine yK 20 h (fun h=>?_) fun h=>?_
     ·refine zG ?_;exact⟨(!decide (dev2=0)),(),h,sP⟩
     ·refine zG ?_;exact⟨false,(),h,sP⟩
    ·rintro v32 _ h;refine zD h (fun h=>?_) fun h=>?_
     ·refine zG ?_;obtain⟨x37,hy38,h⟩:=yO h;refine xK hy38 ?_;refine zE ?_;obtain⟨v39,hy40,h⟩:=zV h;refine ws (LR.rowN (QK hy40) rfl call149 rfl rfl rfl rfl) ?_;refine zE ?_;exact⟨v39,(),h,Sub.trans (Sub.frz [5,30] hK rfl (by simp) (AllRow.get (.cons rfl<|.cons rfl<|.nil)))<|sP⟩
     ·refine g5 ?_;exact⟨out28,(),h,sP⟩
   ·rintro out31 _ h;refine zK ?_;exact⟨(out31,(IntKind.i64.wrap (i29+1))),(),h,sP⟩
  ·refine wZ ?_;exact⟨out28,(),h,sP⟩
 ·rintro out3 _ h;refine zK ?_;refine wX ?_;cases h;exact xT
theorem w2a{a1 b2 r0}(h:(Jr a1 b2).wp (·=r0)):PRow prog 150 [zW RN.e a1,zW RN.e b2] 124 2 (List.map RN.e r0):=by
 refine PRow.intro (sl:=[(0,_),(1,_)]) func150 rfl ntmps150 rfl rfl ?_;intro ctx hK;refine zE ?_;refine ws (aR 124 2 rfl) ?_;refine zK ?_;obtain⟨v3,hy4,h⟩:=zV h;refine ws (LR.rowN (jr hy4) rfl call182 rfl rfl rfl rfl)<|xd [0,1,5,6,7] [7] ?_;refine zE ?_;refine wX ?_;cases h;exact⟨.inr rfl,4,rfl,.inr ⟨7,_,rfl,(by simp),rfl⟩⟩
theorem xfa{a1 b2 r0}(h:(Ut a1 b2).wp (·=r0)):PRow prog 151 [zW RN.e a1,zW RN.e b2] 124 2 (List.map RN.e r0):=by
 refine PRow.intro (sl:=[(0,_),(1,_)]) func151 rfl ntmps151 rfl rfl ?_;intro ctx hK;refine zE ?_;refine ws (aR 124 2 rfl) ?_;refine zK ?_;obtain⟨v3,hy4,h⟩:=zV h;refine ws (LR.rowN (jr hy4) rfl call182 rfl rfl rfl rfl)<|xd [0,1,5,6,7] [7] ?_;refine zE ?_;refine wX ?_;cases h;exact⟨.inr rfl,4,rfl,.inr ⟨7,_,rfl,(by simp),rfl⟩⟩
theorem ZQa{a1 b2 how3 r0}(h:(yDa a1 b2 how3).wp (·=r0)):PRow prog 105 [zW PT.e a1,zW PT.e b2,zC .i64 how3] 99 2 (List.map PT.e r0):=by
 refine PRow.intro (sl:=[(0,_),(1,_),(2,_)]) func105 rfl ntmps105 rfl rfl ?_;intro ctx hK;refine zE ?_;refine ws (aR 99 2 rfl) ?_;refine zQ ?_;refine ws (aR 99 2 rfl) ?_;refine zK ?_;obtain⟨v4,hy5,h⟩:=zV h;refine xN (w1a hy5) call147 ?_;refine ze ?_;refine yF (zO h) 63 [] [] (fun out6=>([(7,.row 7 (out6.length))],[(7,.row 99 2 (List.map PT.e out6))])) (fun h=>?_) ?_
 ·refine g5 ?_;refine zf h 63 [0,1,2,8] [] (fun⟨i57,out58⟩=>([(7,.row 7 (out58.length)),(9,zC .i64 i57)],[(7,.row 99 2 (List.map PT.e out58))])) ?_;rintro N ⟨i57,out58⟩ _ h;refine zl ?_;refine zD h (fun h=>?_) fun h=>?_
  ·refine zE ?_;refine yF (zO h) 63 [0,1,2,8,9] [] (fun out60=>([(7,.row 7 (out60.length))],[(7,.row 99 2 (List.map PT.e out60))])) (fun h=>?_) ?_
   ·refine zQ ?_;refine yC ?_;obtain⟨x61,hy62,h⟩:=yO h;refine yz hy62 ?_;refine yW ?_;obtain⟨v63,hy64,h⟩:=zV h;refine qs (fun _ U W=>cN (UP hy64) U call148 (Ya (fun a b=>U a b) rfl rfl) rfl rfl rfl) ?_;refine yC ?_;obtain⟨x65,hy66,h⟩:=yO h;refine yz hy66 ?_;refine yW ?_;obtain⟨v67,hy68,h⟩:=zV h;refine qs (fun _ U W=>cN (UP hy68) U call148 (Ya (fun a b=>U a b) rfl rfl) rfl rfl rfl) ?_;refine yC ?_;refine g5 ?_;refine zx [0,1,2,7,8,9,10,11] [7] ?_;refine zQ ?_;obtain⟨v69,hy70,h⟩:=zV h;refine ws (LR.rowN (QK hy70) rfl call149 rfl rfl rfl rfl) ?_;refine zl ?_;refine yF (zO h) 63 [0,1,2,7,8,9,10,11] [7] (fun z71=>([(12,zW RN.e z71)],[])) (fun h=>?_) ?_
    ·refine zD h (fun h=>?_) fun h=>?_
     ·refine zQ ?_;obtain⟨v73,hy74,h⟩:=zV h;refine ws (LR.rowN (w2a hy74) rfl call150 rfl rfl rfl rfl) ?_;refine zE ?_;exact⟨v73,(),h,Sub.trans (Sub.frz [38] hK rfl (by simp) (AllRow.get (.cons rfl<|.nil)))<|Sub.trans (Sub.frz [12,43] hK rfl (by simp) (AllRow.get (.cons rfl<|.cons rfl<|.nil)))<|sP⟩
     ·refine g5 ?_;exact⟨v69,(),h,Sub.trans (Sub.frz [12,38] hK rfl (by simp) (AllRow.get (.cons rfl<|.cons rfl<|.nil)))<|sP⟩
    ·rintro z71 _ h;refine zY ?_;refine yF (zO h) 63 [0,1,2,7,8,9] [7] (fun z75=>([(12,zW RN.e z75)],[])) (fun h=>?_) ?_
     ·refine zD h (fun h=>?_) fun h=>?_
      ·refine zQ ?_;obtain⟨v77,hy78,h⟩:=zV h;refine ws (LR.rowN (xfa hy78) rfl call151 rfl rfl rfl rfl) ?_;refine zE ?_;exact⟨v77,(),h,Sub.trans (Sub.frz [12,48] hK rfl (by simp) (AllRow.get (.cons rfl<|.cons rfl<|.nil)))<|sP⟩
      ·refine g5 ?_;exact⟨z71,(),h,sP⟩
     ·rintro z75 _ h;refine zY ?_;refine zD h (fun h=>?_) fun h=>?_
      ·refine zG ?_;obtain⟨x80,hy81,h⟩:=yO h;refine xK hy81 ?_;refine zQ ?_;refine ws (LR.build (ns:=[_,_]) qq rfl rfl rfl)<|ws (LR.buildSliceD [.tmp 59] WE rfl rfl (.cons rfl rfl rfl<|.nil) (by decide) (by decide)) ?_;obtain⟨hy82,h⟩:=zy h;refine ws (LR.appT (enc:=PT.e) (L:=out58) (R:=[(⟨x80.dev,z75⟩:PT)]) [7,52] WE underlying28 rfl rfl rfl (Src.slT (enc:=PT.e) (R:=[(⟨x80.dev,z75⟩:PT)]) rfl (fun _=>rfl)) (fun _=>rfl) hy82 rfl rfl) ?_;refine zE ?_;exact⟨(out58++[(⟨x80.dev,z75⟩:PT)]),(),h,sP⟩
      ·refine g5 ?_;exact⟨out58,(),h,sP⟩
   ·rintro out60 _ h;refine zK ?_;exact⟨((IntKind.i64.wrap (i57+1)),out60),(),h,sP⟩
  ·refine wZ ?_;exact⟨out58,(),h,sP⟩
 ·rintro out6 _ h;refine zK ?_;refine wX ?_;cases h;exact⟨.inr rfl,6,rfl,.inr ⟨7,_,rfl,(by simp),rfl⟩⟩
theorem w3a{c1 r0}(h:(Uu c1).wp (·=r0)):PRow prog 66 [zW PT.e c1] 99 2 (List.map PT.e r0):=by
 refine PRow.intro (sl:=[(0,_)]) func66 rfl ntmps66 rfl rfl ?_;intro ctx hK;refine zE ?_;refine ws (aR 99 2 rfl) ?_;refine zG ?_;obtain⟨v2,hy3,h⟩:=zV h;refine ws (LR.rowN (ZQa hy3) rfl call105 rfl rfl rfl rfl)<|xd [0,3,4] [4] ?_;refine zE ?_;refine wX ?_;cases h;exact⟨.inr rfl,2,rfl,.inr ⟨4,_,rfl,(by simp),rfl⟩⟩
theorem UQ{c1 r0}(h:(VP c1).wp (·=r0)):PFun prog 63 [zW PT.e c1] (.d (.v (.bool r0))):=by
 refine ya [0] func63 ntmps63 ?_;intro ctx hK;refine zl ?_;obtain⟨v2,hy3,h⟩:=zV h;refine ws (LR.rowN (w3a hy3) rfl call66 rfl rfl rfl rfl) ?_;obtain⟨v4,hy5,h⟩:=zV h;refine PWl.frz [5] hK (.cons rfl<|.nil) rfl (by simp) ?_;refine xN (QJ hy5) call43 ?_;refine zE ?_;refine wX ?_;cases h;exact xT
theorem YQ{d1 r0}(h:(uq d1).wp (·=r0)):PFun prog 140 [.agg (List.map .d (DT.e d1))] (.d (.v (.bool r0))):=by
 refine ya [0] func140 ntmps140 ?_;intro ctx hK;refine zY ?_;refine yF (zO h) 16 [] [] (fun v2=>([(2,.d (.v (.bool v2)))],[])) (fun h=>?_) ?_
 ·refine zK ?_;refine yK 6 h (fun h=>?_) fun h=>?_
  ·refine zK ?_;refine yK 11 h (fun h=>?_) fun h=>?_
   ·refine zY ?_;exact⟨(decide (d1.n < 281474976710656)),(),h,sP⟩
   ·refine zY ?_;exact⟨false,(),h,sP⟩
  ·refine vi ?_;exact⟨false,(),h,sP⟩
 ·rintro v2 _ h;refine wX ?_;cases h;exact xT
theorem xga{v1 r0}(h:(Uv v1).wp (·=r0)):PFun prog 180 [zC .u64 v1] (.tup [zC .u16 r0.1,zC .u64 r0.2]):=by
 refine ya [0] func180 ntmps180 ?_;intro ctx hK;refine ym ?_;refine ws (LR.convInt underlying23 (by rw[underlying22];rfl) rfl rfl) ?_;refine zK ?_;refine wX ?_;cases h;exact Um
theorem yXa{v1 r0}(h:(VQ v1).wp (·=r0)):PFun prog 139 [zC .u64 v1] (.tup [.agg (List.map .d (DT.e r0.1)),.d (.v (.bool r0.2))]):=by
 refine ya [0] func139 ntmps139 ?_;intro ctx hK;refine zl ?_;obtain⟨v2,hy3,h⟩:=zV h;refine xN (xga hy3) call180 ?_;refine wV ?_;refine ws (LR.build (ns:=[_,_]) um rfl rfl rfl) ?_;refine ze ?_;obtain⟨v4,hy5,h⟩:=zV h;refine xN (YQ hy5) call140 ?_;refine zE ?_;refine zD h (fun h=>?_) fun h=>?_
 ·refine zE ?_;refine ws (LR.build (ns:=[_,_]) um rfl rfl rfl) ?_;refine zQ ?_;refine wX ?_;cases h;exact⟨.inr rfl,_,.cons (.agg isAgg101 sizeOf101 rfl rfl rfl rfl)<|.cons (.tmp rfl rfl)<|.nil,rfl⟩
 ·refine ze ?_;refine wX ?_;cases h;exact⟨.inr rfl,_,.cons (.agg isAgg101 sizeOf101 rfl rfl rfl rfl)<|.cons (.tmp rfl rfl)<|.nil,rfl⟩
theorem w4a{f1 r0}(h:(Js f1).wp (·=r0)):PFun prog 141 [zC .u8 f1] (.d (.v (.bool r0))):=by
 refine ya [0] func141 ntmps141 ?_;intro ctx hK;refine zK ?_;refine yF (zO h) 9 [] [] (fun v2=>([(2,.d (.v (.bool v2)))],[])) (fun h=>?_) ?_
 ·refine zG ?_;refine yK 5 h (fun h=>?_) fun h=>?_
  ·refine zK ?_;exact⟨(decide (f1<=5)),(),h,sP⟩
  ·refine zK ?_;exact⟨false,(),h,sP⟩
 ·rintro v2 _ h;refine wX ?_;cases h;exact xT
theorem w5a{s1 r0}(h:(Jt s1).wp (·=r0)):PFun prog 142 [.d (.v (.string s1))] (.d (.v (.bool r0))):=by
 refine ya [0] func142 ntmps142 ?_;intro ctx hK;refine ym ?_;refine wq (zO h) 23 [0] [] (fun _=>([],[])) (fun h=>?_) ?_
 ·refine g5 ?_;refine zf h 23 [0] [] (fun i19=>([(3,zC .i64 i19)],[])) ?_;rintro N i19 _ h;refine zl ?_;refine zD h (fun h=>?_) fun h=>?_
  ·refine zG ?_;refine yF (zO h) 23 [0,3] [] (fun v21=>([(19,.d (.v (.bool v21)))],[])) (fun h=>?_) ?_
   ·refine zQ ?_;obtain⟨b22,hy23,h⟩:=yO h;refine ws (LR.strIdx underlying9 rfl rfl hy23) ?_;refine zE ?_;refine yK 14 h (fun h=>?_) fun h=>?_
    ·refine zY ?_;exact⟨true,(),h,sP⟩
    ·refine zE ?_;obtain⟨b25,hy26,h⟩:=yO h;refine wt (LR.strIdx underlying9 rfl rfl hy26) ?_;refine zQ ?_;exact⟨(decide (126 < b25)),(),h,sP⟩
   ·rintro v21 _ h;refine zD h (fun h=>?_) fun h=>?_
    ·refine zG ?_;refine wX ?_;cases h;exact xT
    ·refine zY ?_;exact⟨(IntKind.i64.wrap (i19+1)),(),h,sP⟩
  ·refine wZ ?_;exact⟨(),(),h,sP⟩
 ·rintro _ _ h;refine ze ?_;refine wX ?_;cases h;exact xT
theorem yYa{l1 r0}(h:(VR l1).wp (·=r0)):PFun prog 143 [zW DT.e l1] (.d (.v (.bool r0))):=by
 refine ya [0] func143 ntmps143 ?_;intro ctx hK;refine ym ?_;refine wq (zO h) 21 [] [] (fun _=>([],[])) (fun h=>?_) ?_
 ·refine g5 ?_;refine zf h 21 [0] [] (fun i19=>([(3,zC .i64 i19)],[])) ?_;rintro N i19 _ h;refine zl ?_;refine zD h (fun h=>?_) fun h=>?_
  ·refine zK ?_;refine yC ?_;obtain⟨x21,hy22,h⟩:=yO h;refine yz hy22 ?_;refine yC ?_;obtain⟨x23,hy24,h⟩:=yO h;refine yz hy24 ?_;refine h5 ?_;obtain⟨v25,hy26,h⟩:=zV h;refine qs (fun _ U W=>cN (Zr hy26) U call80 (Ya (fun a b=>U a b) rfl rfl) rfl rfl rfl) ?_;refine yW ?_;refine zD h (fun h=>?_) fun h=>?_
   ·refine zG ?_;refine wX ?_;cases h;exact xT
   ·refine zY ?_;exact⟨(IntKind.i64.wrap (i19+1)),(),h,sP⟩
  ·refine wZ ?_;exact⟨(),(),h,sP⟩
 ·rintro _ _ h;refine zG ?_;refine wX ?_;cases h;exact xT
theorem zja{l1 d2 r0}(h:(QB l1 d2).wp (·=r0)):PFun prog 144 [zW DT.e l1,.agg (List.map .d (DT.e d2))] (.d (.v (.bool r0))):=by
 refine ya [0,1] func144 ntmps144 ?_;intro ctx hK;refine wV ?_;refine wq (zO h) 18 [] [] (fun _=>([],[])) (fun h=>?_) ?_
 ·refine g5 ?_;refine zf h 18 [0,3] [3] (fun i12=>([(5,zC .i64 i12)],[])) ?_;rintro N i12 _ h;refine zl ?_;refine zD h (fun h=>?_) fun h=>?_
  ·refine zK ?_;refine yW ?_;obtain⟨x14,hy15,h⟩:=yO h;refine yz hy15 ?_;refine yW ?_;refine qs (fun _ U W=>LR.eqlAgg U U rfl rfl yAa) ?_;refine h5 ?_;refine zD h (fun h=>?_) fun h=>?_
   ·refine zG ?_;refine wX ?_;cases h;exact xT
   ·refine zY ?_;exact⟨(IntKind.i64.wrap (i12+1)),(),h,sP⟩
  ·refine wZ ?_;exact⟨(),(),h,sP⟩
 ·rintro _ _ h;refine zG ?_;refine wX ?_;cases h;exact xT
theorem QL{e1 r0}(h:(VT e1).wp (·=r0)):PFun prog 101 [.agg (List.map .d (EV.e e1))] (.d (.v (.bool r0))):=by
 refine ya [0] func101 ntmps101 ?_;intro ctx hK;refine ym ?_;obtain⟨v2,hy3,h⟩:=zV h;refine xN (yXa hy3) call139 ?_;refine ym ?_;refine yF (zO h) 91 [1] [1] (fun v4=>([(29,.d (.v (.bool v4)))],[])) (fun h=>?_) ?_
 ·refine zG ?_;refine yK 14 h (fun h=>?_) fun h=>?_
  ·refine zY ?_;refine xd [1,20] [1] ?_;refine wV ?_;exact⟨true,(),h,sP⟩
  ·refine zE ?_;obtain⟨v6,hy7,h⟩:=zV h;refine wt (cN (YQ hy7) rfl call140 rfl rfl rfl rfl) ?_;refine zQ ?_;refine xd [1,20] [1] ?_;refine yK 20 h (fun h=>?_) fun h=>?_
   ·refine wV ?_;exact⟨true,(),h,sP⟩
   ·refine zG ?_;refine yK 24 h (fun h=>?_) fun h=>?_
    ·refine zY ?_;exact⟨(!decide (e1.kind=2)),(),h,sP⟩
    ·refine zY ?_;exact⟨false,(),h,sP⟩
 ·rintro v4 _ h;refine zD h (fun h=>?_) fun h=>?_
  ·refine zG ?_;refine wX ?_;cases h;exact xT
  ·refine zQ ?_;refine yF (zO h) 91 [1] [1] (fun v11=>([(59,.d (.v (.bool v11)))],[])) (fun h=>?_) ?_
   ·refine zK ?_;refine yK 33 h (fun h=>?_) fun h=>?_
    ·refine zE ?_;obtain⟨v13,hy14,h⟩:=zV h;refine wt (cN (w4a hy14) rfl call141 rfl rfl rfl rfl) ?_;refine zE ?_;refine yK 38 h (fun h=>?_) fun h=>?_
     ·refine zl ?_;refine xd [1,45,46] [1] ?_;refine JP ?_;exact⟨true,(),h,sP⟩
     ·refine zE ?_;obtain⟨v16,hy17,h⟩:=zV h;refine wt (cN (w5a hy17) rfl call142 rfl rfl rfl rfl) ?_;refine zG ?_;refine yK 45 h (fun h=>?_) fun h=>?_
      ·refine xd [1,45] [1] ?_;refine gs15A6 ?_;exact⟨true,(),h,sP⟩
      ·refine xd [1,45] [1] ?_;refine zG ?_;refine yK 49 h (fun h=>?_) fun h=>?_
       ·refine zG ?_;refine yK 53 h (fun h=>?_) fun h=>?_
        ·refine ze ?_;exact⟨true,(),h,sP⟩
        ·refine ze ?_;exact⟨(!decide (e1.text=(⟨#[]⟩:ByteArray))),(),h,sP⟩
       ·refine vi ?_;exact⟨false,(),h,sP⟩
    ·refine JP ?_;refine xd [1,45,47] [1] ?_;refine zE ?_;refine yK 49 h (fun h=>?_) fun h=>?_
     ·refine zG ?_;refine yK 53 h (fun h=>?_) fun h=>?_
      ·refine ze ?_;exact⟨true,(),h,sP⟩
      ·refine ze ?_;exact⟨(!decide (e1.text=(⟨#[]⟩:ByteArray))),(),h,sP⟩
     ·refine vi ?_;exact⟨false,(),h,sP⟩
   ·rintro v11 _ h;refine zD h (fun h=>?_) fun h=>?_
    ·refine zG ?_;refine wX ?_;cases h;exact xT
    ·refine zY ?_;refine wq (zO h) 91 [1] [1] (fun _=>([],[])) (fun h=>?_) ?_
     ·refine g5 ?_;refine zf h 91 [1] [1] (fun i37=>([(5,zC .i64 i37)],[])) ?_;rintro N i37 _ h;refine ym ?_;refine zD h (fun h=>?_) fun h=>?_
      ·refine zl ?_;obtain⟨x39,hy40,h⟩:=yO h;refine xK hy40 ?_;refine g5 ?_;obtain⟨v41,hy42,h⟩:=zV h;refine xN (YQ hy42) call140 ?_;refine zE ?_;refine zD h (fun h=>?_) fun h=>?_
       ·refine zG ?_;refine wX ?_;cases h;exact xT
       ·refine zY ?_;exact⟨(IntKind.i64.wrap (i37+1)),(),h,sP⟩
      ·refine wZ ?_;exact⟨(),(),h,sP⟩
     ·rintro _ _ h;refine g5 ?_;refine yF (zO h) 91 [] [] (fun v44=>([(2,.d (.v (.bool v44)))],[])) (fun h=>?_) ?_
      ·refine zY ?_;refine yK 78 h (fun h=>?_) fun h=>?_
       ·refine zE ?_;obtain⟨v46,hy47,h⟩:=zV h;refine wt (cN (yYa hy47) rfl call143 rfl rfl rfl rfl) ?_;refine zE ?_;refine yK 83 h (fun h=>?_) fun h=>?_
        ·refine zG ?_;obtain⟨v49,hy50,h⟩:=zV h;refine wt (cN (zja hy50) rfl call144 rfl rfl rfl rfl) ?_;refine zG ?_;exact⟨(!v49),(),h,sP⟩
        ·refine ym ?_;exact⟨false,(),h,sP⟩
       ·refine JP ?_;exact⟨false,(),h,sP⟩
      ·rintro v44 _ h;refine wX ?_;cases h;exact xT
theorem QM{l1 d2 r0}(h:(Uw l1 d2).wp (·=r0)):PFun prog 102 [zW EV.e l1,.agg (List.map .d (DT.e d2))] (.d (.v (.bool r0))):=by
 refine ya [0,1] func102 ntmps102 ?_;intro ctx hK;refine wV ?_;refine wq (zO h) 19 [] [] (fun _=>([],[])) (fun h=>?_) ?_
 ·refine g5 ?_;refine zf h 19 [0,3] [3] (fun i_16=>([(5,zC .i64 i_16)],[])) ?_;rintro N i_16 _ h;refine zl ?_;refine zD h (fun h=>?_) fun h=>?_
  ·refine zK ?_;refine yW ?_;obtain⟨x18,hy19,h⟩:=yO h;refine yz hy19 ?_;refine yC ?_;obtain⟨v20,hy21,h⟩:=zV h;refine qs (fun _ U W=>cN (zja hy21) U call144 (Ya (fun a b=>U a b) rfl rfl) rfl rfl rfl) ?_;refine h5 ?_;refine zD h (fun h=>?_) fun h=>?_
   ·refine zG ?_;refine wX ?_;cases h;exact xT
   ·refine zY ?_;exact⟨(IntKind.i64.wrap (i_16+1)),(),h,sP⟩
  ·refine wZ ?_;exact⟨(),(),h,sP⟩
 ·rintro _ _ h;refine zG ?_;refine wX ?_;cases h;exact xT
end Go.Proofs

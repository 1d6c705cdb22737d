/- Side texts. -/
import Derived.Test.YthldiocaakcolaaGreatDoorMMr2
import Derived.Test.YthldiocaakcolaaGreatDoorMMr3
import Derived.Test.YthldiocaakcolaaGreatDoorMMr4
import Derived.Test.YthldiocaakcolaaGreatDoorMMr5
import Derived.Test.YthldiocaakcolaaGreatDoorMMr6
import Derived.Test.YthldiocaakcolaaGreatDoorMMr7
set_option linter.unusedVariables false
set_option linter.unusedSimpArgs false
namespace Go.Proofs
open Go.Ep Tryz
set_option maxHeartbeats 1000000
set_option maxRecDepth 100000
set_option linter.unusedVariables false
set_option linter.unusedSimpArgs false


theorem YH (most1:Int) (b_2:List Int) (bad_3:Int) (r0:List EV × List Int × Int) (h:(wI most1 b_2 bad_3).wp (· = r0)):PObj prog 57 [.ref 100 0,.d (.v (.int .i64 most1))] [(100,.cells 90 [.d (.sl (List.map (eK .u8) b_2)),.d (.v (.int .i64 bad_3))])] [100] (.d (.sl (List.map EV.e r0.1))) (fun _:Unit=>[(100,.cells 90 [.d (.sl (List.map (eK .u8) r0.2.1)),.d (.v (.int .i64 r0.2.2))])]):=by
 refine PObj.intro (sl:=[(0,_),(1,_)]) func57 rfl ntmps57 rfl rfl rfl ?_;intro ctx hK pv;(iterate 2 refine g5 ?_);refine ws (aR 108 7 rfl) ?_;(iterate 4 refine g5 ?_);obtain ⟨y4,hy5,h⟩:=zI h;refine xO [(100,100)] [] [100] (zZ b_2 bad_3 y4 hy5) call53 ?_;(iterate 4 refine g5 ?_);refine wz (tl:=[(0,_),(1,_),(5,_)]) (to:=[(100,_),(1100,_)]) ?_;(iterate 4 refine g5 ?_);refine ws (LR.convInt underlying24 (by rw [underlying3];rfl) rfl rfl) ?_;(iterate 2 refine g5 ?_);refine xD h rfl (fun _ h=>?_) (fun _ h=>?_)
 ·(iterate 3 refine g5 ?_);obtain ⟨y7,hy8,h⟩:=zI h;refine xO [(100,100)] [] [100] (zR 3 y4.2.1 y4.2.2 y7 hy8) call59 ?_;(iterate 2 refine g5 ?_);refine wz (tl:=[]) (to:=[(100,_),(1100,_)]) ?_;refine g5 ?_;refine ws (aR 108 7 rfl) ?_;refine g5 ?_;refine wX ?_;cases h;exact EndsO.mk () (.inr rfl) (Sub.trans (Sub.frz [4] hK rfl (by first | (simp;done) | (simp;omega) | omega) (AllRow.get (.cons rfl<|.nil)))<|sP (tl:=[(4,_)]) (to:=[(100,_),(1100,_)])) (.cons (.tmp rfl)<|.nil) rfl rfl
 ·(iterate 3 refine g5 ?_);refine ws (aR 108 7 rfl) ?_;(iterate 7 refine g5 ?_);refine PWc.jnX (zF h) (fun (⟨out9,v10,v11⟩:List EV × List Int × Int) (_:Unit)=>⟨50,[(6,.row 6 (out9.length))],[(6,.row 108 7 (List.map EV.e out9)),(100,.cells 90 [.d (.sl (List.map (eK .u8) v10)),.d (.v (.int .i64 v11))]),(1100,.pin 100 (pv 100))]⟩) (fun h=>?_) ?_
  ·refine g5 ?_;refine wM (fun (⟨v52,out53,v54,v55⟩:Int × List EV × List Int × Int) (_:Unit)=>⟨50,[(0,.ref 100 0),(6,.row 6 (out53.length)),(18,.d (.v (.int .u64 y4.1))),(19,.d (.v (.int .u64 v52)))],[(6,.row 108 7 (List.map EV.e out53)),(100,.cells 90 [.d (.sl (List.map (eK .u8) v54)),.d (.v (.int .i64 v55))]),(1100,.pin 100 (pv 100))]⟩) () h (sP) ?_;rintro N ⟨v52,out53,v54,v55⟩ _ h;(iterate 5 refine g5 ?_);refine xD h rfl (fun _ h=>?_) (fun _ h=>?_)
   ·(iterate 6 refine g5 ?_);obtain ⟨y57,hy58,h⟩:=zI h;refine xO [(100,100)] [] [100] (qE v54 v55 y57 hy58) call93 ?_;(iterate 5 refine g5 ?_);refine wz (tl:=[(0,_),(6,_),(7,_),(18,_),(19,_)]) (to:=[(6,_),(7,_),(100,_),(1100,_)]) ?_;(iterate 7 refine g5 ?_);refine wJ (zF h) (fun (v59:Bool) (_:Unit)=>⟨50,[(0,.ref 100 0),(6,.row 6 (out53.length)),(7,.ref 7 0),(18,.d (.v (.int .u64 y4.1))),(19,.d (.v (.int .u64 v52))),(38,.d (.v (.bool v59)))],[(6,.row 108 7 (List.map EV.e out53)),(7,.cells 108 [.d (.v (.int .u16 y57.1.dot.dev)),.d (.v (.int .u64 y57.1.dot.n)),.d (.v (.int .u8 y57.1.kind)),.d (.v (.int .u64 y57.1.cid)),.d (.v (.int .u8 y57.1.field)),.d (.v (.string y57.1.text)),.d (.sl (List.map DT.e y57.1.kills))]),(100,.cells 90 [.d (.sl (List.map (eK .u8) y57.2.1)),.d (.v (.int .i64 y57.2.2))]),(1100,.pin 100 (pv 100))]⟩) (fun h=>?_) ?_
    ·refine g5 ?_;(iterate 3 refine h5 ?_);refine xQ (d:=28) h rfl (fun _ h=>?_) (fun _ h=>?_)
     ·(iterate 2 refine h5 ?_);obtain ⟨x61,hy62,h⟩:=yF h;refine qt (fun _ U W=>LR.idxRowT (L:=out53) (y:=x61) underlying28 sizeOf108 U rfl U hy62) ?_;refine h5 ?_;refine qt (fun _ U W=>LR.loadRpPartT (enc:=EV.e) (L:=out53) (y:=x61) isAgg105 sizeOf105 U (W rfl) hy62.2 rfl rfl) ?_;(iterate 2 refine h5 ?_);obtain ⟨v63,hy64,h⟩:=zI h;refine qt (fun _ U W=>cN (YE x61.dot y57.1.dot v63 hy64) U call94 (vu (fun a b=>U a b) rfl rfl) rfl rfl rfl) ?_;(iterate 3 refine h5 ?_);exact ⟨(decide (0 <= v63)),(),h,sP⟩
     ·(iterate 11 refine h5 ?_);exact ⟨false,(),h,sP⟩
    ·rintro v59 _ h;refine wJ (zF h) (fun (⟨v65,v66⟩:List Int × Int) (_:Unit)=>⟨50,[(0,.ref 100 0),(6,.row 6 (out53.length)),(7,.ref 7 0),(18,.d (.v (.int .u64 y4.1))),(19,.d (.v (.int .u64 v52)))],[(6,.row 108 7 (List.map EV.e out53)),(7,.cells 108 [.d (.v (.int .u16 y57.1.dot.dev)),.d (.v (.int .u64 y57.1.dot.n)),.d (.v (.int .u8 y57.1.kind)),.d (.v (.int .u64 y57.1.cid)),.d (.v (.int .u8 y57.1.field)),.d (.v (.string y57.1.text)),.d (.sl (List.map DT.e y57.1.kills))]),(100,.cells 90 [.d (.sl (List.map (eK .u8) v65)),.d (.v (.int .i64 v66))]),(1100,.pin 100 (pv 100))]⟩) (fun h=>?_) ?_
     ·refine xD h rfl (fun _ h=>?_) (fun _ h=>?_)
      ·(iterate 2 refine g5 ?_);obtain ⟨y68,hy69,h⟩:=zI h;refine xO [(100,100)] [] [100] (zR 4 y57.2.1 y57.2.2 y68 hy69) call59 ?_;refine g5 ?_;exact ⟨(y68.1,y68.2),(),h,sP⟩
      ·refine g5 ?_;exact ⟨(y57.2.1,y57.2.2),(),h,sP⟩
     ·rintro ⟨v65,v66⟩ _ h;(iterate 4 refine g5 ?_);obtain ⟨y70,hy71,h⟩:=zI h;refine xO [(100,100)] [] [100] (ze v65 v66 y70 hy71) call60 ?_;(iterate 2 refine g5 ?_);refine xD h rfl (fun _ h=>?_) (fun _ h=>?_)
      ·refine g5 ?_;refine wz (tl:=[]) (to:=[(100,_),(1100,_)]) ?_;refine g5 ?_;refine ws (aR 108 7 rfl) ?_;refine g5 ?_;refine wX ?_;cases h;exact EndsO.mk () (.inr rfl) (Sub.trans (Sub.frz [4] hK rfl (by first | (simp;done) | (simp;omega) | omega) (AllRow.get (.cons rfl<|.nil)))<|sP (tl:=[(4,_)]) (to:=[(100,_),(1100,_)])) (.cons (.tmp rfl)<|.nil) rfl rfl
      ·refine g5 ?_;refine wz (tl:=[(0,_),(6,_),(7,_),(18,_),(19,_)]) (to:=[(6,_),(7,_),(100,_),(1100,_)]) ?_;(iterate 3 refine g5 ?_);refine ws (LR.buildSliceD [.tmp 45] wKa rfl rfl (.cons rfl rfl rfl<|.nil) (by decide) (by decide)) ?_;obtain ⟨hy73,h⟩:=zm h;refine ws (LR.appT (enc:=EV.e) (L:=out53) (R:=[y57.1]) [6,44] wKa underlying28 rfl rfl rfl (Src.slT (enc:=EV.e) (R:=[y57.1]) rfl (fun _=>rfl)) (fun _=>rfl) hy73 rfl rfl) ?_;(iterate 6 refine g5 ?_);exact ⟨((IntKind.u64.wrap (v52 + 1)),(out53 ++ [y57.1]),y70.2.1,y70.2.2),(),h,sP⟩
   ·refine wZ ?_;exact ⟨(out53,v54,v55),(),h,sP⟩
  ·rintro ⟨out9,v10,v11⟩ _ h;(iterate 5 refine g5 ?_);refine wX ?_;cases h;exact EndsO.mk () (.inr rfl) (Sub.trans (Sub.frz [4,6,49] hK rfl (by simp) (AllRow.get (.cons rfl<|.cons rfl<|.cons rfl<|.nil)))<|sP (tl:=[(4,_)]) (to:=[(100,_),(1100,_)])) (.cons (.tmp rfl)<|.nil) rfl rfl

theorem XD (b_1:List Int) (bad_2:Int) (r0:DL × List Int × Int) (h:(vJ b_1 bad_2).wp (· = r0)):PObj prog 56 [.ref 100 0] [(100,.cells 90 [.d (.sl (List.map (eK .u8) b_1)),.d (.v (.int .i64 bad_2))])] [100] (.agg (List.map .d (DL.e r0.1))) (fun _:Unit=>[(100,.cells 90 [.d (.sl (List.map (eK .u8) r0.2.1)),.d (.v (.int .i64 r0.2.2))])]):=by
 refine PObj.intro (sl:=[(0,_)]) func56 rfl ntmps56 rfl rfl rfl ?_;intro ctx hK pv;(iterate 7 refine g5 ?_);obtain ⟨y3,hy4,h⟩:=zI h;refine xO [(100,100)] [] [100] (wP b_1 bad_2 y3 hy4) call55<|ws (LR.build (ns:=[_,_,_]) UM rfl rfl rfl) ?_;(iterate 4 refine g5 ?_);refine wz (tl:=[(0,_),(2,_),(3,_)]) (to:=[(2,_),(3,_),(100,_),(1100,_)]) ?_;(iterate 2 refine g5 ?_);obtain ⟨y5,hy6,h⟩:=zI h;refine xO [(100,100)] [] [100] (wP y3.2.1 y3.2.2 y5 hy6) call55 ?_;(iterate 4 refine g5 ?_);refine wz (tl:=[(0,_),(2,_),(3,_)]) (to:=[(2,_),(3,_),(100,_),(1100,_)]) ?_;(iterate 2 refine g5 ?_);obtain ⟨y7,hy8,h⟩:=zI h;refine xO [(100,100)] [] [100] (YH 4096 y5.2.1 y5.2.2 y7 hy8) call57 ?_;(iterate 5 refine g5 ?_);refine wz (tl:=[(0,_),(2,_),(3,_)]) (to:=[(2,_),(3,_),(100,_),(1100,_)]) ?_;(iterate 2 refine g5 ?_);obtain ⟨v9,hy10,h⟩:=zI h;refine xN (Yt (⟨y3.1,y5.1,y7.1⟩:DL) v9 hy10) call65 ?_;(iterate 2 refine g5 ?_);refine wJ (zF h) (fun (⟨v11,v12⟩:List Int × Int) (_:Unit)=>⟨23,[(0,.ref 100 0),(2,.ref 2 0),(3,.ref 3 0)],[(2,.cells 30 [.d (.sl (List.map PT.e ([]:List PT))),.d (.sl (List.map PT.e ([]:List PT))),.d (.sl (List.map EV.e ([]:List EV)))]),(3,.cells 30 [.d (.sl (List.map PT.e y3.1)),.d (.sl (List.map PT.e y5.1)),.d (.sl (List.map EV.e y7.1))]),(100,.cells 90 [.d (.sl (List.map (eK .u8) v11)),.d (.v (.int .i64 v12))]),(1100,.pin 100 (pv 100))]⟩) (fun h=>?_) ?_
 ·refine xD h rfl (fun _ h=>?_) (fun _ h=>?_)
  ·(iterate 2 refine g5 ?_);obtain ⟨y14,hy15,h⟩:=zI h;refine xO [(100,100)] [] [100] (zR 4 y7.2.1 y7.2.2 y14 hy15) call59 ?_;refine g5 ?_;exact ⟨(y14.1,y14.2),(),h,sP⟩
  ·refine g5 ?_;exact ⟨(y7.2.1,y7.2.2),(),h,sP⟩
 ·rintro ⟨v11,v12⟩ _ h;(iterate 4 refine g5 ?_);obtain ⟨y16,hy17,h⟩:=zI h;refine xO [(100,100)] [] [100] (ze v11 v12 y16 hy17) call60 ?_;(iterate 2 refine g5 ?_);refine xD h rfl (fun _ h=>?_) (fun _ h=>?_)
  ·refine g5 ?_;refine wz (tl:=[(2,_)]) (to:=[(2,_),(100,_),(1100,_)]) ?_;refine g5 ?_;refine ws (LR.build (ns:=[_,_,_]) UM rfl rfl rfl) ?_;(iterate 2 refine g5 ?_);refine wX ?_;cases h;exact EndsO.mkX (ex:=[(2,_)]) () (.inr rfl) (sP (tl:=[(2,_)]) (to:=[(100,_),(1100,_),(2,_)])) (.cons (.agg isAgg30 sizeOf30 rfl rfl rfl)<|.nil) rfl rfl
  ·(iterate 2 refine g5 ?_);refine wz (tl:=[(2,_),(3,_)]) (to:=[(2,_),(3,_),(100,_),(1100,_)]) ?_;(iterate 4 refine g5 ?_);refine wX ?_;cases h;exact EndsO.mkX (ex:=[(2,_)]) () (.inr rfl) (sP (tl:=[(2,_)]) (to:=[(100,_),(1100,_),(2,_)])) (.cons (.agg isAgg30 sizeOf30 rfl rfl rfl)<|.nil) rfl rfl

theorem UR (kind1:Int) (b_2:List Int) (bad_3:Int) (r0:TMsg × List Int × Int) (h:(wO kind1 b_2 bad_3).wp (· = r0)):PObj prog 18 [.ref 100 0,.d (.v (.int .u8 kind1))] [(100,.cells 90 [.d (.sl (List.map (eK .u8) b_2)),.d (.v (.int .i64 bad_3))])] [100] (.agg (List.map .d (TMsg.e r0.1))) (fun _:Unit=>[(100,.cells 90 [.d (.sl (List.map (eK .u8) r0.2.1)),.d (.v (.int .i64 r0.2.2))])]):=by
 refine PObj.intro (sl:=[(0,_),(1,_)]) func18 rfl ntmps18 rfl rfl rfl ?_;intro ctx hK pv;(iterate 7 refine g5 ?_);refine ws (LR.build (ns:=[_,_,_,_,_,_,_,_,_,_,_]) Zj rfl rfl rfl) ?_;(iterate 5 refine g5 ?_);refine wJ (zF h) (fun (v4:Bool) (_:Unit)=>⟨65,[(0,.ref 100 0),(1,.d (.v (.int .u8 kind1))),(4,.ref 4 0),(5,.ref 5 0),(13,.d (.v (.bool v4)))],[(4,.cells 32 [.d (.v (.int .u8 0)),.d (.v (.int .u8 0)),.d (.v (.int .u64 0)),.d (.v (.int .u16 0)),.d (.v (.int .u64 0)),.d (.v (.int .u8 0)),.d (.sl (List.map PT.e ([]:List PT))),.d (.sl (List.map PT.e ([]:List PT))),.d (.sl (List.map PT.e ([]:List PT))),.d (.sl (List.map PT.e ([]:List PT))),.d (.sl (List.map EV.e ([]:List EV)))]),(5,.cells 32 [.d (.v (.int .u8 kind1)),.d (.v (.int .u8 0)),.d (.v (.int .u64 0)),.d (.v (.int .u16 0)),.d (.v (.int .u64 0)),.d (.v (.int .u8 0)),.d (.sl (List.map PT.e ([]:List PT))),.d (.sl (List.map PT.e ([]:List PT))),.d (.sl (List.map PT.e ([]:List PT))),.d (.sl (List.map PT.e ([]:List PT))),.d (.sl (List.map EV.e ([]:List EV)))]),(100,.cells 90 [.d (.sl (List.map (eK .u8) b_2)),.d (.v (.int .i64 bad_3))]),(1100,.pin 100 (pv 100))]⟩) (fun h=>?_) ?_
 ·(iterate 4 refine g5 ?_);refine xG (d:=10) h rfl (fun _ h=>?_) (fun _ h=>?_)
  ·(iterate 4 refine g5 ?_);exact ⟨true,(),h,sP⟩
  ·(iterate 4 refine g5 ?_);exact ⟨(decide (kind1 = 2)),(),h,sP⟩
 ·rintro v4 _ h;refine wJ (zF h) (fun (⟨m6,m7,v8,v9⟩:Int × Int × List Int × Int) (_:Unit)=>⟨65,[(0,.ref 100 0),(1,.d (.v (.int .u8 kind1))),(4,.ref 4 0),(5,.ref 5 0)],[(4,.cells 32 [.d (.v (.int .u8 0)),.d (.v (.int .u8 0)),.d (.v (.int .u64 0)),.d (.v (.int .u16 0)),.d (.v (.int .u64 0)),.d (.v (.int .u8 0)),.d (.sl (List.map PT.e ([]:List PT))),.d (.sl (List.map PT.e ([]:List PT))),.d (.sl (List.map PT.e ([]:List PT))),.d (.sl (List.map PT.e ([]:List PT))),.d (.sl (List.map EV.e ([]:List EV)))]),(5,.cells 32 [.d (.v (.int .u8 kind1)),.d (.v (.int .u8 m6)),.d (.v (.int .u64 m7)),.d (.v (.int .u16 0)),.d (.v (.int .u64 0)),.d (.v (.int .u8 0)),.d (.sl (List.map PT.e ([]:List PT))),.d (.sl (List.map PT.e ([]:List PT))),.d (.sl (List.map PT.e ([]:List PT))),.d (.sl (List.map PT.e ([]:List PT))),.d (.sl (List.map EV.e ([]:List EV)))]),(100,.cells 90 [.d (.sl (List.map (eK .u8) v8)),.d (.v (.int .i64 v9))]),(1100,.pin 100 (pv 100))]⟩) (fun h=>?_) ?_
  ·refine xD h rfl (fun _ h=>?_) (fun _ h=>?_)
   ·(iterate 3 refine g5 ?_);obtain ⟨y11,hy12,h⟩:=zI h;refine xO [(100,100)] [] [100] (yx b_2 bad_3 y11 hy12) call52 ?_;(iterate 3 refine g5 ?_);refine wz (tl:=[(0,_),(1,_),(4,_),(5,_)]) (to:=[(4,_),(5,_),(100,_),(1100,_)]) ?_;(iterate 2 refine g5 ?_);obtain ⟨y13,hy14,h⟩:=zI h;refine xO [(100,100)] [] [100] (zZ y11.2.1 y11.2.2 y13 hy14) call53 ?_;(iterate 3 refine g5 ?_);exact ⟨(y11.1,y13.1,y13.2.1,y13.2.2),(),h,sP⟩
   ·refine g5 ?_;exact ⟨(0,0,b_2,bad_3),(),h,sP⟩
  ·rintro ⟨m6,m7,v8,v9⟩ _ h;(iterate 6 refine g5 ?_);refine wJ (zF h) (fun (⟨m15,m16,v17,v18⟩:Int × Int × List Int × Int) (_:Unit)=>⟨65,[(0,.ref 100 0),(1,.d (.v (.int .u8 kind1))),(4,.ref 4 0),(5,.ref 5 0)],[(4,.cells 32 [.d (.v (.int .u8 0)),.d (.v (.int .u8 0)),.d (.v (.int .u64 0)),.d (.v (.int .u16 0)),.d (.v (.int .u64 0)),.d (.v (.int .u8 0)),.d (.sl (List.map PT.e ([]:List PT))),.d (.sl (List.map PT.e ([]:List PT))),.d (.sl (List.map PT.e ([]:List PT))),.d (.sl (List.map PT.e ([]:List PT))),.d (.sl (List.map EV.e ([]:List EV)))]),(5,.cells 32 [.d (.v (.int .u8 kind1)),.d (.v (.int .u8 m6)),.d (.v (.int .u64 m7)),.d (.v (.int .u16 m15)),.d (.v (.int .u64 m16)),.d (.v (.int .u8 0)),.d (.sl (List.map PT.e ([]:List PT))),.d (.sl (List.map PT.e ([]:List PT))),.d (.sl (List.map PT.e ([]:List PT))),.d (.sl (List.map PT.e ([]:List PT))),.d (.sl (List.map EV.e ([]:List EV)))]),(100,.cells 90 [.d (.sl (List.map (eK .u8) v17)),.d (.v (.int .i64 v18))]),(1100,.pin 100 (pv 100))]⟩) (fun h=>?_) ?_
   ·refine xD h rfl (fun _ h=>?_) (fun _ h=>?_)
    ·(iterate 3 refine g5 ?_);obtain ⟨y20,hy21,h⟩:=zI h;refine xO [(100,100)] [] [100] (xi 65535 v8 v9 y20 hy21) call54 ?_;refine ws (LR.convInt underlying25 (by rw [underlying24];rfl) rfl rfl) ?_;(iterate 3 refine g5 ?_);refine wz (tl:=[(0,_),(1,_),(4,_),(5,_)]) (to:=[(4,_),(5,_),(100,_),(1100,_)]) ?_;(iterate 2 refine g5 ?_);obtain ⟨y22,hy23,h⟩:=zI h;refine xO [(100,100)] [] [100] (zZ y20.2.1 y20.2.2 y22 hy23) call53 ?_;(iterate 3 refine g5 ?_);exact ⟨((IntKind.u16.wrap y20.1),y22.1,y22.2.1,y22.2.2),(),h,sP⟩
    ·refine g5 ?_;exact ⟨(0,0,v8,v9),(),h,sP⟩
   ·rintro ⟨m15,m16,v17,v18⟩ _ h;(iterate 5 refine g5 ?_);refine wJ (zF h) (fun (⟨m24,m25,m26,m27,m28,m29,v30,v31⟩:Int × List PT × List PT × List PT × List PT × List EV × List Int × Int) (_:Unit)=>⟨65,[(4,.ref 4 0),(5,.ref 5 0)],[(4,.cells 32 [.d (.v (.int .u8 0)),.d (.v (.int .u8 0)),.d (.v (.int .u64 0)),.d (.v (.int .u16 0)),.d (.v (.int .u64 0)),.d (.v (.int .u8 0)),.d (.sl (List.map PT.e ([]:List PT))),.d (.sl (List.map PT.e ([]:List PT))),.d (.sl (List.map PT.e ([]:List PT))),.d (.sl (List.map PT.e ([]:List PT))),.d (.sl (List.map EV.e ([]:List EV)))]),(5,.cells 32 [.d (.v (.int .u8 kind1)),.d (.v (.int .u8 m6)),.d (.v (.int .u64 m7)),.d (.v (.int .u16 m15)),.d (.v (.int .u64 m16)),.d (.v (.int .u8 m24)),.d (.sl (List.map PT.e m25)),.d (.sl (List.map PT.e m26)),.d (.sl (List.map PT.e m27)),.d (.sl (List.map PT.e m28)),.d (.sl (List.map EV.e m29))]),(100,.cells 90 [.d (.sl (List.map (eK .u8) v30)),.d (.v (.int .i64 v31))]),(1100,.pin 100 (pv 100))]⟩) (fun h=>?_) ?_
    ·(iterate 6 refine g5 ?_);refine xD h rfl (fun _ h=>?_) (fun _ h=>?_)
     ·(iterate 2 refine g5 ?_);obtain ⟨y33,hy34,h⟩:=zI h;refine xO [(100,100)] [] [100] (yx v17 v18 y33 hy34) call52 ?_;(iterate 3 refine g5 ?_);exact ⟨(y33.1,([]:List PT),([]:List PT),([]:List PT),([]:List PT),([]:List EV),y33.2.1,y33.2.2),(),h,sP⟩
     ·(iterate 6 refine g5 ?_);refine wJ (zF h) (fun (v35:Bool) (_:Unit)=>⟨65,[(0,.ref 100 0),(4,.ref 4 0),(5,.ref 5 0),(29,.d (.v (.int .u8 kind1))),(35,.d (.v (.bool v35)))],[(4,.cells 32 [.d (.v (.int .u8 0)),.d (.v (.int .u8 0)),.d (.v (.int .u64 0)),.d (.v (.int .u16 0)),.d (.v (.int .u64 0)),.d (.v (.int .u8 0)),.d (.sl (List.map PT.e ([]:List PT))),.d (.sl (List.map PT.e ([]:List PT))),.d (.sl (List.map PT.e ([]:List PT))),.d (.sl (List.map PT.e ([]:List PT))),.d (.sl (List.map EV.e ([]:List EV)))]),(5,.cells 32 [.d (.v (.int .u8 kind1)),.d (.v (.int .u8 m6)),.d (.v (.int .u64 m7)),.d (.v (.int .u16 m15)),.d (.v (.int .u64 m16)),.d (.v (.int .u8 0)),.d (.sl (List.map PT.e ([]:List PT))),.d (.sl (List.map PT.e ([]:List PT))),.d (.sl (List.map PT.e ([]:List PT))),.d (.sl (List.map PT.e ([]:List PT))),.d (.sl (List.map EV.e ([]:List EV)))]),(100,.cells 90 [.d (.sl (List.map (eK .u8) v17)),.d (.v (.int .i64 v18))]),(1100,.pin 100 (pv 100))]⟩) (fun h=>?_) ?_
      ·refine xD h rfl (fun _ h=>?_) (fun _ h=>?_)
       ·refine g5 ?_;exact ⟨(decide (kind1 = 3)),(),h,sP⟩
       ·(iterate 5 refine g5 ?_);refine xD h rfl (fun _ h=>?_) (fun _ h=>?_)
        ·refine g5 ?_;exact ⟨(decide (kind1 = 6)),(),h,sP⟩
        ·(iterate 4 refine g5 ?_);exact ⟨(decide (kind1 = 7)),(),h,sP⟩
      ·rintro v35 _ h;refine xD h rfl (fun _ h=>?_) (fun _ h=>?_)
       ·(iterate 2 refine g5 ?_);obtain ⟨y39,hy40,h⟩:=zI h;refine xO [(100,100)] [] [100] (wP v17 v18 y39 hy40) call55 ?_;(iterate 3 refine g5 ?_);exact ⟨(0,y39.1,([]:List PT),([]:List PT),([]:List PT),([]:List EV),y39.2.1,y39.2.2),(),h,sP⟩
       ·(iterate 5 refine g5 ?_);refine xD h rfl (fun _ h=>?_) (fun _ h=>?_)
        ·(iterate 2 refine g5 ?_);obtain ⟨y42,hy43,h⟩:=zI h;refine xO [(100,100)] [] [100] (XD v17 v18 y42 hy43) call56 ?_;(iterate 3 refine g5 ?_);exact ⟨(0,([]:List PT),([]:List PT),y42.1.from_,y42.1.to_,y42.1.events,y42.2.1,y42.2.2),(),h,sP⟩
        ·(iterate 5 refine g5 ?_);refine xD h rfl (fun _ h=>?_) (fun _ h=>?_)
         ·(iterate 3 refine g5 ?_);obtain ⟨y45,hy46,h⟩:=zI h;refine xO [(100,100)] [] [100] (XD v17 v18 y45 hy46) call56 ?_;(iterate 3 refine g5 ?_);refine wz (tl:=[(0,_),(4,_),(5,_)]) (to:=[(4,_),(5,_),(100,_),(1100,_)]) ?_;(iterate 2 refine g5 ?_);obtain ⟨y47,hy48,h⟩:=zI h;refine xO [(100,100)] [] [100] (wP y45.2.1 y45.2.2 y47 hy48) call55 ?_;(iterate 3 refine g5 ?_);exact ⟨(0,([]:List PT),y47.1,y45.1.from_,y45.1.to_,y45.1.events,y47.2.1,y47.2.2),(),h,sP⟩
         ·(iterate 5 refine g5 ?_);refine xD h rfl (fun _ h=>?_) (fun _ h=>?_)
          ·(iterate 3 refine g5 ?_);obtain ⟨y50,hy51,h⟩:=zI h;refine xO [(100,100)] [] [100] (wP v17 v18 y50 hy51) call55 ?_;(iterate 3 refine g5 ?_);refine wz (tl:=[(0,_),(4,_),(5,_)]) (to:=[(4,_),(5,_),(100,_),(1100,_)]) ?_;(iterate 2 refine g5 ?_);obtain ⟨y52,hy53,h⟩:=zI h;refine xO [(100,100)] [] [100] (YH 4 y50.2.1 y50.2.2 y52 hy53) call57 ?_;(iterate 4 refine g5 ?_);exact ⟨(0,y50.1,([]:List PT),([]:List PT),([]:List PT),y52.1,y52.2.1,y52.2.2),(),h,sP⟩
          ·refine g5 ?_;exact ⟨(0,([]:List PT),([]:List PT),([]:List PT),([]:List PT),([]:List EV),v17,v18),(),h,sP⟩
    ·rintro ⟨m24,m25,m26,m27,m28,m29,v30,v31⟩ _ h;(iterate 5 refine g5 ?_);refine wX ?_;cases h;exact EndsO.mkX (ex:=[(4,_)]) () (.inr rfl) (sP (tl:=[(4,_)]) (to:=[(100,_),(1100,_),(4,_)])) (.cons (.agg isAgg32 sizeOf32 rfl rfl rfl)<|.nil) rfl rfl

theorem WY (b_1:List Int) (bad_2:Int) (r0:Int × List Int × Int) (h:(xq b_1 bad_2).wp (· = r0)):PObj prog 19 [.ref 100 0] [(100,.cells 90 [.d (.sl (List.map (eK .u8) b_1)),.d (.v (.int .i64 bad_2))])] [100] (.d (.v (.int .i64 r0.1))) (fun _:Unit=>[(100,.cells 90 [.d (.sl (List.map (eK .u8) r0.2.1)),.d (.v (.int .i64 r0.2.2))])]):=by
 refine PObj.intro (sl:=[(0,_)]) func19 rfl ntmps19 rfl rfl rfl ?_;intro ctx hK pv;(iterate 8 refine g5 ?_);obtain ⟨y3,hy4,h⟩:=zI h;refine xO [(100,100)] [] [100] (xh b_1 bad_2 y3 hy4) call58 ?_;(iterate 2 refine g5 ?_);refine wJ (zF h) (fun (⟨v5,v6⟩:List Int × Int) (_:Unit)=>⟨10,[(0,.ref 100 0)],[(100,.cells 90 [.d (.sl (List.map (eK .u8) v5)),.d (.v (.int .i64 v6))]),(1100,.pin 100 (pv 100))]⟩) (fun h=>?_) ?_
 ·refine xD h rfl (fun _ h=>?_) (fun _ h=>?_)
  ·refine wz (tl:=[(0,_)]) (to:=[(100,_),(1100,_)]) ?_;(iterate 2 refine g5 ?_);obtain ⟨y8,hy9,h⟩:=zI h;refine xO [(100,100)] [] [100] (zR 4 y3.2.1 y3.2.2 y8 hy9) call59 ?_;refine g5 ?_;exact ⟨(y8.1,y8.2),(),h,sP⟩
  ·refine g5 ?_;exact ⟨(y3.2.1,y3.2.2),(),h,sP⟩
 ·rintro ⟨v5,v6⟩ _ h;(iterate 3 refine g5 ?_);obtain ⟨y10,hy11,h⟩:=zI h;refine xO [(100,100)] [] [100] (ze v5 v6 y10 hy11) call60 ?_;(iterate 2 refine g5 ?_);refine wX ?_;cases h;exact EndsO.mk () (.inr rfl) (sP (tl:=[(2,_)]) (to:=[(100,_),(1100,_)])) (.cons (.tmp rfl)<|.nil) rfl rfl

theorem XY (b1:List Int) (r0:TMsg × Int) (h:(uA b1).wp (· = r0)):PFunL (Tab 0 .u32 tabG) prog 7 [.d (.sl (List.map (eK .u8) b1))] (.tup [.agg (List.map .d (TMsg.e r0.1)),.d (.v (.int .i64 r0.2))]):=by
 refine PFunL.intro (sl:=[(0,_)]) func7 rfl ntmps7 rfl rfl ?_;intro ctx hK hT;(iterate 8 refine g5 ?_);obtain ⟨v2,hy3,h⟩:=zI h;refine ws (LR.callL hT (yBa b1 v2 hy3) rfl call16 rfl rfl rfl rfl) ?_;(iterate 14 refine g5 ?_);refine xD h rfl (fun _ h=>?_) (fun _ h=>?_)
 ·(iterate 2 refine g5 ?_);refine ws (LR.build (ns:=[_,_,_,_,_,_,_,_,_,_,_]) Zj rfl rfl rfl) ?_;(iterate 4 refine g5 ?_);refine wX ?_;cases h;exact ⟨.inr rfl,_,.cons (.agg isAgg32 sizeOf32 rfl rfl rfl rfl)<|.cons (.tmp rfl rfl)<|.nil,rfl⟩
 ·(iterate 3 refine g5 ?_);refine wJ (zF h) (fun (v5:Bool) (_:Unit)=>⟨43,[(2,.ref 2 0),(4,.d (.v (.int .u8 v2.1))),(5,.d (.sl (List.map (eK .u8) v2.2.1))),(25,.d (.v (.bool v5)))],[(2,.cells 32 [.d (.v (.int .u8 0)),.d (.v (.int .u8 0)),.d (.v (.int .u64 0)),.d (.v (.int .u16 0)),.d (.v (.int .u64 0)),.d (.v (.int .u8 0)),.d (.sl (List.map PT.e ([]:List PT))),.d (.sl (List.map PT.e ([]:List PT))),.d (.sl (List.map PT.e ([]:List PT))),.d (.sl (List.map PT.e ([]:List PT))),.d (.sl (List.map EV.e ([]:List EV)))])]⟩) (fun h=>?_) ?_
  ·(iterate 4 refine g5 ?_);refine xG (d:=22) h rfl (fun _ h=>?_) (fun _ h=>?_)
   ·(iterate 4 refine g5 ?_);exact ⟨true,(),h,sP⟩
   ·(iterate 4 refine g5 ?_);exact ⟨(decide (9 < v2.1)),(),h,sP⟩
  ·rintro v5 _ h;refine xD h rfl (fun _ h=>?_) (fun _ h=>?_)
   ·(iterate 2 refine g5 ?_);refine ws (LR.build (ns:=[_,_,_,_,_,_,_,_,_,_,_]) Zj rfl rfl rfl) ?_;(iterate 3 refine g5 ?_);refine wX ?_;cases h;exact ⟨.inr rfl,_,.cons (.agg isAgg32 sizeOf32 rfl rfl rfl rfl)<|.cons (.tmp rfl rfl)<|.nil,rfl⟩
   ·(iterate 4 refine g5 ?_);obtain ⟨y8,hy9,h⟩:=zI h;refine xO [(7,28)] [] [7] (Ql v2.2.1 y8 hy9) call17 ?_;(iterate 3 refine g5 ?_);refine wz (tl:=[(2,_),(4,_),(7,_)]) (to:=[(2,_),(28,_)]) ?_;(iterate 3 refine g5 ?_);obtain ⟨y10,hy11,h⟩:=zI h;refine xO [(100,28)] [] [100] (UR v2.1 y8.1 y8.2 y10 hy11) call18 ?_;(iterate 5 refine g5 ?_);refine wz (tl:=[(2,_),(7,_),(8,_)]) (to:=[(2,_),(8,_),(28,_)]) ?_;(iterate 2 refine g5 ?_);obtain ⟨y12,hy13,h⟩:=zI h;refine xO [(100,28)] [] [100] (WY y10.2.1 y10.2.2 y12 hy13) call19 ?_;(iterate 3 refine g5 ?_);refine wz (tl:=[(2,_),(8,_),(9,_)]) (to:=[(2,_),(8,_)]) ?_;(iterate 4 refine g5 ?_);refine xD h rfl (fun _ h=>?_) (fun _ h=>?_)
    ·(iterate 2 refine g5 ?_);refine ws (LR.build (ns:=[_,_,_,_,_,_,_,_,_,_,_]) Zj rfl rfl rfl) ?_;(iterate 4 refine g5 ?_);refine wX ?_;cases h;exact ⟨.inr rfl,_,.cons (.agg isAgg32 sizeOf32 rfl rfl rfl rfl)<|.cons (.tmp rfl rfl)<|.nil,rfl⟩
    ·(iterate 5 refine g5 ?_);obtain ⟨v15,hy16,h⟩:=zI h;refine xN (JF y10.1 v15 hy16) call20 ?_;(iterate 2 refine g5 ?_);refine xD h rfl (fun _ h=>?_) (fun _ h=>?_)
     ·(iterate 2 refine g5 ?_);refine ws (LR.build (ns:=[_,_,_,_,_,_,_,_,_,_,_]) Zj rfl rfl rfl) ?_;(iterate 3 refine g5 ?_);refine wX ?_;cases h;exact ⟨.inr rfl,_,.cons (.agg isAgg32 sizeOf32 rfl rfl rfl rfl)<|.cons (.tmp rfl rfl)<|.nil,rfl⟩
     ·(iterate 7 refine g5 ?_);refine wX ?_;cases h;exact ⟨.inr rfl,_,.cons (.agg isAgg32 sizeOf32 rfl rfl rfl rfl)<|.cons (.tmp rfl rfl)<|.nil,rfl⟩


theorem uja (a1:List RN) (b2:List RN) (r0:Bool) (h:(wMa a1 b2).wp (· = r0)):PFun prog 108 [.d (.sl (List.map RN.e a1)),.d (.sl (List.map RN.e b2))] (.d (.v (.bool r0))):=by
 refine fI (sl:=[(0,_),(1,_)]) func108 rfl ntmps108 rfl rfl ?_;intro ctx hK;(iterate 13 refine g5 ?_);refine xD h rfl (fun _ h=>?_) (fun _ h=>?_)
 ·(iterate 4 refine g5 ?_);refine wX ?_;cases h;exact xT
 ·(iterate 6 refine g5 ?_);refine PWc.jnX (zF h) (fun (_:Unit) (_:Unit)=>⟨26,[],[]⟩) (fun h=>?_) ?_
  ·refine g5 ?_;refine wM (fun (i17:Int) (_:Unit)=>⟨26,[(0,.d (.sl (List.map RN.e a1))),(1,.d (.sl (List.map RN.e b2))),(5,.d (.v (.int .i64 i17)))],[]⟩) () h (sP) ?_;rintro N i17 _ h;(iterate 8 refine g5 ?_);refine xD h rfl (fun _ h=>?_) (fun _ h=>?_)
   ·(iterate 5 refine g5 ?_);(iterate 2 refine h5 ?_);obtain ⟨x19,hy20,h⟩:=yF h;refine qs (fun _ U W=>iX (enc:=RN.e) (L:=a1) (y:=x19) underlying99 sizeOf103 U U hy20 (fun _=>rfl)) ?_;(iterate 3 refine h5 ?_);obtain ⟨x21,hy22,h⟩:=yF h;refine qs (fun _ U W=>iX (enc:=RN.e) (L:=b2) (y:=x21) underlying99 sizeOf103 U U hy22 (fun _=>rfl)) ?_;refine h5 ?_;refine qs (fun _ U W=>LR.neqAgg U U rfl rfl eq103) ?_;refine h5 ?_;refine xD h rfl (fun _ h=>?_) (fun _ h=>?_)
    ·(iterate 4 refine g5 ?_);refine wX ?_;cases h;exact xT
    ·(iterate 6 refine g5 ?_);exact ⟨(IntKind.i64.wrap (i17 + 1)),(),h,sP⟩
   ·refine wZ ?_;exact ⟨(),(),h,sP⟩
  ·rintro _ _ h;(iterate 4 refine g5 ?_);refine wX ?_;cases h;exact xT

theorem yCa (a1:List PT) (b2:List PT) (r0:Bool) (h:(qW a1 b2).wp (· = r0)):PFun prog 74 [.d (.sl (List.map PT.e a1)),.d (.sl (List.map PT.e b2))] (.d (.v (.bool r0))):=by
 refine fI (sl:=[(0,_),(1,_)]) func74 rfl ntmps74 rfl rfl ?_;intro ctx hK;(iterate 13 refine g5 ?_);refine xD h rfl (fun _ h=>?_) (fun _ h=>?_)
 ·(iterate 4 refine g5 ?_);refine wX ?_;cases h;exact xT
 ·(iterate 6 refine g5 ?_);refine PWc.jnX (zF h) (fun (_:Unit) (_:Unit)=>⟨42,[],[]⟩) (fun h=>?_) ?_
  ·refine g5 ?_;refine wM (fun (i33:Int) (_:Unit)=>⟨42,[(0,.d (.sl (List.map PT.e a1))),(1,.d (.sl (List.map PT.e b2))),(5,.d (.v (.int .i64 i33)))],[]⟩) () h (sP) ?_;rintro N i33 _ h;(iterate 8 refine g5 ?_);refine xD h rfl (fun _ h=>?_) (fun _ h=>?_)
   ·(iterate 4 refine g5 ?_);refine wJ (zF h) (fun (v35:Bool) (_:Unit)=>⟨42,[(0,.d (.sl (List.map PT.e a1))),(1,.d (.sl (List.map PT.e b2))),(5,.d (.v (.int .i64 i33))),(41,.d (.v (.bool v35)))],[]⟩) (fun h=>?_) ?_
    ·refine g5 ?_;(iterate 2 refine h5 ?_);obtain ⟨x36,hy37,h⟩:=yF h;refine qs (fun _ U W=>iX (enc:=PT.e) (L:=a1) (y:=x36) underlying27 sizeOf101 U U hy37 (fun _=>rfl)) ?_;(iterate 4 refine h5 ?_);obtain ⟨x38,hy39,h⟩:=yF h;refine qs (fun _ U W=>iX (enc:=PT.e) (L:=b2) (y:=x38) underlying27 sizeOf101 U U hy39 (fun _=>rfl)) ?_;(iterate 4 refine h5 ?_);refine xQ (d:=28) h rfl (fun _ h=>?_) (fun _ h=>?_)
     ·(iterate 14 refine h5 ?_);exact ⟨true,(),h,sP⟩
     ·(iterate 2 refine h5 ?_);obtain ⟨x41,hy42,h⟩:=yF h;refine qt (fun _ U W=>iX (enc:=PT.e) (L:=a1) (y:=x41) underlying27 sizeOf101 U U hy42 (fun _=>rfl)) ?_;(iterate 4 refine h5 ?_);obtain ⟨x43,hy44,h⟩:=yF h;refine qt (fun _ U W=>iX (enc:=PT.e) (L:=b2) (y:=x43) underlying27 sizeOf101 U U hy44 (fun _=>rfl)) ?_;(iterate 2 refine h5 ?_);obtain ⟨v45,hy46,h⟩:=zI h;refine qt (fun _ U W=>cN (uja x41.runs x43.runs v45 hy46) U call108 (vu (fun a b=>U a b) rfl rfl) rfl rfl rfl) ?_;(iterate 3 refine h5 ?_);exact ⟨(!v45),(),h,sP⟩
    ·rintro v35 _ h;refine xD h rfl (fun _ h=>?_) (fun _ h=>?_)
     ·(iterate 4 refine g5 ?_);refine wX ?_;cases h;exact xT
     ·(iterate 6 refine g5 ?_);exact ⟨(IntKind.i64.wrap (i33 + 1)),(),h,sP⟩
   ·refine wZ ?_;exact ⟨(),(),h,sP⟩
  ·rintro _ _ h;(iterate 4 refine g5 ?_);refine wX ?_;cases h;exact xT

theorem qc (x1:RN) (r0:Bool) (h:(jv x1).wp (· = r0)):PFun prog 154 [.agg (List.map .d (RN.e x1))] (.d (.v (.bool r0))):=by
 refine fI (sl:=[(0,_)]) func154 rfl ntmps154 rfl rfl ?_;intro ctx hK;(iterate 6 refine g5 ?_);refine wJ (zF h) (fun (v2:Bool) (_:Unit)=>⟨18,[(2,.d (.v (.bool v2)))],[]⟩) (fun h=>?_) ?_
 ·(iterate 5 refine g5 ?_);refine xG (d:=6) h rfl (fun _ h=>?_) (fun _ h=>?_)
  ·(iterate 7 refine g5 ?_);refine xG (d:=13) h rfl (fun _ h=>?_) (fun _ h=>?_)
   ·(iterate 6 refine g5 ?_);exact ⟨(decide (x1.hi <= 281474976710655)),(),h,sP⟩
   ·(iterate 6 refine g5 ?_);exact ⟨false,(),h,sP⟩
  ·(iterate 13 refine g5 ?_);exact ⟨false,(),h,sP⟩
 ·rintro v2 _ h;refine wX ?_;cases h;exact xT

theorem US (l1:List RN) (n2:Int) (r0:Bool) (h:(UO l1 n2).wp (· = r0)):PFun prog 118 [.d (.sl (List.map RN.e l1)),.d (.v (.int .u64 n2))] (.d (.v (.bool r0))):=by
 refine fI (sl:=[(0,_),(1,_)]) func118 rfl ntmps118 rfl rfl ?_;intro ctx hK;(iterate 9 refine g5 ?_);refine PWc.jnX (zF h) (fun (_:Unit) (_:Unit)=>⟨35,[],[]⟩) (fun h=>?_) ?_
 ·refine g5 ?_;refine wM (fun (i30:Int) (_:Unit)=>⟨35,[(0,.d (.sl (List.map RN.e l1))),(1,.d (.v (.int .u64 n2))),(5,.d (.v (.int .i64 i30)))],[]⟩) () h (sP) ?_;rintro N i30 _ h;(iterate 8 refine g5 ?_);refine xD h rfl (fun _ h=>?_) (fun _ h=>?_)
  ·(iterate 4 refine g5 ?_);refine wJ (zF h) (fun (v32:Bool) (_:Unit)=>⟨35,[(0,.d (.sl (List.map RN.e l1))),(1,.d (.v (.int .u64 n2))),(5,.d (.v (.int .i64 i30))),(34,.d (.v (.bool v32)))],[]⟩) (fun h=>?_) ?_
   ·(iterate 3 refine g5 ?_);obtain ⟨x33,hy34,h⟩:=yF h;refine ws (iX (enc:=RN.e) (L:=l1) (y:=x33) underlying99 sizeOf103 rfl rfl hy34 (fun _=>rfl)) ?_;refine g5 ?_;obtain ⟨v35,hy36,h⟩:=zI h;refine xN (qc x33 v35 hy36) call154 ?_;refine g5 ?_;refine xG (d:=17) h rfl (fun _ h=>?_) (fun _ h=>?_)
    ·(iterate 2 refine g5 ?_);obtain ⟨x38,hy39,h⟩:=yF h;refine wt (iX (enc:=RN.e) (L:=l1) (y:=x38) underlying99 sizeOf103 rfl rfl hy39 (fun _=>rfl)) ?_;(iterate 4 refine g5 ?_);refine wy (tl:=[(0,_),(1,_),(5,_),(17,_),(18,_),(19,_),(20,_),(21,_),(22,_),(23,_),(24,_)]) (to:=[]) ?_;(iterate 2 refine g5 ?_);refine xG (d:=26) h rfl (fun _ h=>?_) (fun _ h=>?_)
     ·(iterate 3 refine g5 ?_);obtain ⟨x41,hy42,h⟩:=yF h;refine wt (iX (enc:=RN.e) (L:=l1) (y:=x41) underlying99 sizeOf103 rfl rfl hy42 (fun _=>rfl)) ?_;(iterate 5 refine g5 ?_);exact ⟨(decide (n2 <= x41.hi)),(),h,sP⟩
     ·(iterate 9 refine g5 ?_);exact ⟨false,(),h,sP⟩
    ·(iterate 7 refine g5 ?_);refine wy (tl:=[(0,_),(1,_),(5,_),(17,_),(18,_),(19,_),(20,_),(21,_),(22,_),(23,_),(24,_)]) (to:=[]) ?_;(iterate 11 refine g5 ?_);exact ⟨false,(),h,sP⟩
   ·rintro v32 _ h;refine xD h rfl (fun _ h=>?_) (fun _ h=>?_)
    ·(iterate 4 refine g5 ?_);refine wX ?_;cases h;exact xT
    ·(iterate 6 refine g5 ?_);exact ⟨(IntKind.i64.wrap (i30 + 1)),(),h,sP⟩
  ·refine wZ ?_;exact ⟨(),(),h,sP⟩
 ·rintro _ _ h;(iterate 4 refine g5 ?_);refine wX ?_;cases h;exact xT

theorem qd (l1:List Int) (n2:Int) (r0:List Int) (h:(jw l1 n2).wp (· = r0)):PRow prog 176 [.d (.sl (List.map (eK .u64) l1)),.d (.v (.int .u64 n2))] 24 1 (List.map (eK .u64) r0):=by
 refine PRow.intro (sl:=[(0,_),(1,_)]) func176 rfl ntmps176 rfl rfl ?_;intro ctx hK;(iterate 2 refine g5 ?_);refine ws (aR 24 1 rfl) ?_;(iterate 3 refine g5 ?_);refine ws (aR 24 1 rfl) ?_;(iterate 10 refine g5 ?_);refine wJ (zF h) (fun (⟨done3,out4⟩:Bool × List Int) (_:Unit)=>⟨48,[(1,.d (.v (.int .u64 n2))),(5,.row 5 (out4.length)),(6,.d (.v (.bool done3)))],[(5,.row 24 1 (List.map (eK .u64) out4))]⟩) (fun h=>?_) ?_
 ·refine g5 ?_;refine wM (fun (⟨done43,i44,out45⟩:Bool × Int × List Int) (_:Unit)=>⟨48,[(0,.d (.sl (List.map (eK .u64) l1))),(1,.d (.v (.int .u64 n2))),(5,.row 5 (out45.length)),(6,.d (.v (.bool done43))),(7,.d (.v (.int .i64 i44)))],[(5,.row 24 1 (List.map (eK .u64) out45))]⟩) () h (sP) ?_;rintro N ⟨done43,i44,out45⟩ _ h;(iterate 8 refine g5 ?_);refine xD h rfl (fun _ h=>?_) (fun _ h=>?_)
  ·(iterate 2 refine g5 ?_);refine wJ (zF h) (fun (⟨done47,out48⟩:Bool × List Int) (_:Unit)=>⟨48,[(0,.d (.sl (List.map (eK .u64) l1))),(1,.d (.v (.int .u64 n2))),(5,.row 5 (out48.length)),(6,.d (.v (.bool done47))),(7,.d (.v (.int .i64 i44)))],[(5,.row 24 1 (List.map (eK .u64) out48))]⟩) (fun h=>?_) ?_
   ·(iterate 3 refine g5 ?_);refine wJ (zF h) (fun (v49:Bool) (_:Unit)=>⟨48,[(0,.d (.sl (List.map (eK .u64) l1))),(1,.d (.v (.int .u64 n2))),(5,.row 5 (out45.length)),(6,.d (.v (.bool done43))),(7,.d (.v (.int .i64 i44))),(23,.d (.v (.bool v49)))],[(5,.row 24 1 (List.map (eK .u64) out45))]⟩) (fun h=>?_) ?_
    ·(iterate 4 refine g5 ?_);refine xG (d:=16) h rfl (fun _ h=>?_) (fun _ h=>?_)
     ·(iterate 2 refine g5 ?_);obtain ⟨x51,hy52,h⟩:=yF h;refine wt (iX (enc:=(eK .u64)) (L:=l1) (y:=x51) underlying184 sizeOf24 rfl rfl hy52 (fun _=>rfl)) ?_;(iterate 5 refine g5 ?_);exact ⟨(decide (n2 <= x51)),(),h,sP⟩
     ·(iterate 8 refine g5 ?_);exact ⟨false,(),h,sP⟩
    ·rintro v49 _ h;refine wJ (zF h) (fun (⟨done53,out54⟩:Bool × List Int) (_:Unit)=>⟨48,[(0,.d (.sl (List.map (eK .u64) l1))),(1,.d (.v (.int .u64 n2))),(5,.row 5 (out54.length)),(6,.d (.v (.bool done53))),(7,.d (.v (.int .i64 i44)))],[(5,.row 24 1 (List.map (eK .u64) out54))]⟩) (fun h=>?_) ?_
     ·refine xD h rfl (fun _ h=>?_) (fun _ h=>?_)
      ·(iterate 4 refine g5 ?_);refine ws (LR.buildSliceD [.tmp 25] UL rfl rfl (.cons rfl rfl rfl<|.nil) (by decide) (by decide)) ?_;obtain ⟨hy56,h⟩:=zm h;refine ws (LR.appT (enc:=(eK .u64)) (L:=out45) (R:=[n2]) [5,24] UL underlying184 rfl rfl rfl (Src.slT (enc:=(eK .u64)) (R:=[n2]) rfl (fun _=>rfl)) (fun _=>rfl) hy56 rfl rfl) ?_;(iterate 5 refine g5 ?_);exact ⟨(true,(out45 ++ [n2])),(),h,sP⟩
      ·refine g5 ?_;exact ⟨(done43,out45),(),h,sP⟩
     ·rintro ⟨done53,out54⟩ _ h;(iterate 4 refine g5 ?_);obtain ⟨x57,hy58,h⟩:=yF h;refine ws (iX (enc:=(eK .u64)) (L:=l1) (y:=x57) underlying184 sizeOf24 rfl rfl hy58 (fun _=>rfl)) ?_;(iterate 4 refine g5 ?_);refine xD h rfl (fun _ h=>?_) (fun _ h=>?_)
      ·(iterate 4 refine g5 ?_);obtain ⟨x60,hy61,h⟩:=yF h;refine ws (iX (enc:=(eK .u64)) (L:=l1) (y:=x60) underlying184 sizeOf24 rfl rfl hy61 (fun _=>rfl)) ?_;refine g5 ?_;refine ws (LR.buildSliceD [.tmp 38] UL rfl rfl (.cons rfl rfl rfl<|.nil) (by decide) (by decide)) ?_;obtain ⟨hy62,h⟩:=zm h;refine ws (LR.appT (enc:=(eK .u64)) (L:=out54) (R:=[x60]) [5,34] UL underlying184 rfl rfl rfl (Src.slT (enc:=(eK .u64)) (R:=[x60]) rfl (fun _=>rfl)) (fun _=>rfl) hy62 rfl rfl) ?_;(iterate 2 refine g5 ?_);exact ⟨(done53,(out54 ++ [x60])),(),h,sP⟩
      ·refine g5 ?_;exact ⟨(done53,out54),(),h,sP⟩
   ·rintro ⟨done47,out48⟩ _ h;(iterate 5 refine g5 ?_);exact ⟨(done47,(IntKind.i64.wrap (i44 + 1)),out48),(),h,sP⟩
  ·refine wZ ?_;exact ⟨(done43,out45),(),h,sP⟩
 ·rintro ⟨done3,out4⟩ _ h;(iterate 6 refine g5 ?_);refine wJ (zF h) (fun (out63:List Int) (_:Unit)=>⟨48,[(5,.row 5 (out63.length))],[(5,.row 24 1 (List.map (eK .u64) out63))]⟩) (fun h=>?_) ?_
  ·refine xD h rfl (fun _ h=>?_) (fun _ h=>?_)
   ·(iterate 3 refine g5 ?_);refine ws (LR.buildSliceD [.tmp 44] UL rfl rfl (.cons rfl rfl rfl<|.nil) (by decide) (by decide)) ?_;obtain ⟨hy65,h⟩:=zm h;refine ws (LR.appT (enc:=(eK .u64)) (L:=out4) (R:=[n2]) [5,43] UL underlying184 rfl rfl rfl (Src.slT (enc:=(eK .u64)) (R:=[n2]) rfl (fun _=>rfl)) (fun _=>rfl) hy65 rfl rfl) ?_;(iterate 2 refine g5 ?_);exact ⟨(out4 ++ [n2]),(),h,sP⟩
   ·refine g5 ?_;exact ⟨out4,(),h,sP⟩
  ·rintro out63 _ h;(iterate 5 refine g5 ?_);refine wX ?_;cases h;exact ⟨.inr rfl,4,rfl,.inr ⟨5,_,rfl,(by simp),rfl⟩⟩


theorem Qm (a1:List RN) (b2:List RN) (r0:List Int) (h:(WG a1 b2).wp (· = r0)):PFun prog 169 [.d (.sl (List.map RN.e a1)),.d (.sl (List.map RN.e b2))] (.d (.sl (List.map (eK .u64) r0))):=by
 refine fI (sl:=[(0,_),(1,_)]) func169 rfl ntmps169 rfl rfl ?_;intro ctx hK;(iterate 2 refine g5 ?_);refine ws (aR 24 1 rfl) ?_;(iterate 3 refine g5 ?_);refine ws (aR 24 1 rfl) ?_;(iterate 5 refine g5 ?_);obtain ⟨hy3,h⟩:=zm h;refine ws (LR.appT (enc:=RN.e) (L:=([]:List RN)) (R:=a1) [8] xv underlying99 rfl (by first | (simp;done) | (simp;omega) | omega) rfl (Src.slT (enc:=RN.e) (R:=a1) rfl (fun _=>rfl)) (fun _=>rfl) hy3 rfl rfl) ?_;refine g5 ?_;obtain ⟨hy4,h⟩:=zm h;refine ws (LR.appT (enc:=RN.e) (L:=(([]:List RN) ++ a1)) (R:=b2) [10] xv underlying99 rfl rfl rfl (Src.slT (enc:=RN.e) (R:=b2) rfl (fun _=>rfl)) (fun _=>rfl) hy4 rfl rfl) ?_;(iterate 7 refine g5 ?_);refine wJ (zF h) (fun (out5:List Int) (_:Unit)=>⟨40,[(5,.d (.sl (List.map (eK .u64) out5)))],[]⟩) (fun h=>?_) ?_
 ·refine g5 ?_;refine wM (fun (⟨out38,i39⟩:List Int × Int) (_:Unit)=>⟨40,[(5,.d (.sl (List.map (eK .u64) out38))),(6,.row 8 ((List.length ((([]:List RN) ++ a1) ++ b2)))),(7,.d (.v (.int .i64 i39)))],[(8,.row 103 2 (List.map RN.e (((([]:List RN) ++ a1) ++ b2))))]⟩) () h (Sub.trans (Sub.frz [5] hK rfl (by first | (simp;done) | (simp;omega) | omega) (AllRow.get (.cons rfl<|.nil)))<|sO rfl (.cons rfl rfl<|.cons rfl (by first | rfl | (simp;done) | (congr 1;first | (simp;done) | (simp;omega) | omega))<|.cons rfl rfl<|.nil) (.cons rfl rfl<|.nil)) ?_;rintro N ⟨out38,i39⟩ _ h;(iterate 8 refine g5 ?_);refine xD h rfl (fun _ h=>?_) (fun _ h=>?_)
  ·(iterate 2 refine g5 ?_);refine wJ (zF h) (fun (out41:List Int) (_:Unit)=>⟨40,[(5,.d (.sl (List.map (eK .u64) out41))),(6,.row 8 ((List.length ((([]:List RN) ++ a1) ++ b2)))),(7,.d (.v (.int .i64 i39)))],[(8,.row 103 2 (List.map RN.e (((([]:List RN) ++ a1) ++ b2))))]⟩) (fun h=>?_) ?_
   ·(iterate 5 refine g5 ?_);obtain ⟨x42,hy43,h⟩:=yF h;refine ws (LR.idxRowT (L:=((([]:List RN) ++ a1) ++ b2)) (y:=x42) underlying99 sizeOf103 rfl (by first | (simp;done) | (simp;omega) | omega) rfl hy43) ?_;refine ws (LR.loadRpT (enc:=RN.e) (L:=((([]:List RN) ++ a1) ++ b2)) (y:=x42) isAgg103 sizeOf103 rfl rfl hy43.2) ?_;obtain ⟨v44,hy45,h⟩:=zI h;refine xN (qc x42 v44 hy45) call154 ?_;refine g5 ?_;refine xD h rfl (fun _ h=>?_) (fun _ h=>?_)
    ·(iterate 5 refine g5 ?_);obtain ⟨x47,hy48,h⟩:=yF h;refine ws (LR.idxRowT (L:=((([]:List RN) ++ a1) ++ b2)) (y:=x47) underlying99 sizeOf103 rfl (by first | (simp;done) | (simp;omega) | omega) rfl hy48) ?_;refine g5 ?_;refine ws (LR.loadRpF (enc:=RN.e) (L:=((([]:List RN) ++ a1) ++ b2)) (y:=x47) isAgg24 rfl rfl hy48.2 rfl) ?_;obtain ⟨v49,hy50,h⟩:=zI h;refine ws (LR.rowN (qd out38 x47.lo v49 hy50) rfl call176 rfl rfl rfl rfl) ?_;(iterate 4 refine g5 ?_);refine wy (tl:=[(5,_),(6,_),(7,_),(31,_)]) (to:=[(8,_),(30,_)]) ?_;(iterate 2 refine g5 ?_);obtain ⟨x51,hy52,h⟩:=yF h;refine ws (LR.idxRowT (L:=((([]:List RN) ++ a1) ++ b2)) (y:=x51) underlying99 sizeOf103 rfl (by first | (simp;done) | (simp;omega) | omega) rfl hy52) ?_;refine g5 ?_;refine ws (LR.loadRpF (enc:=RN.e) (L:=((([]:List RN) ++ a1) ++ b2)) (y:=x51) isAgg24 rfl rfl hy52.2 rfl) ?_;refine g5 ?_;obtain ⟨v53,hy54,h⟩:=zI h;refine PWl.frz [5,31] hK (.cons rfl<|.cons rfl<|.nil) rfl (by simp) ?_;refine ws (LR.rowN (qd v49 (IntKind.u64.wrap (x51.hi + 1)) v53 hy54) rfl call176 rfl rfl rfl rfl) ?_;(iterate 2 refine g5 ?_);exact ⟨v53,(),h,Sub.trans (Sub.frz [5,38] hK rfl (by simp) (AllRow.get (.cons rfl<|.cons rfl<|.nil)))<|sO rfl (.cons rfl rfl<|.cons rfl (by first | rfl | (simp;done) | (congr 1;first | (simp;done) | (simp;omega) | omega))<|.cons rfl rfl<|.nil) (.cons rfl rfl<|.nil)⟩
    ·refine g5 ?_;exact ⟨out38,(),h,sO rfl (.cons rfl rfl<|.cons rfl (by first | rfl | (simp;done) | (congr 1;first | (simp;done) | (simp;omega) | omega))<|.cons rfl rfl<|.nil) (.cons rfl rfl<|.nil)⟩
   ·rintro out41 _ h;(iterate 5 refine g5 ?_);exact ⟨(out41,(IntKind.i64.wrap (i39 + 1))),(),h,sO rfl (.cons rfl rfl<|.cons rfl (by first | rfl | (simp;done) | (congr 1;first | (simp;done) | (simp;omega) | omega))<|.cons rfl rfl<|.nil) (.cons rfl rfl<|.nil)⟩
  ·refine wZ ?_;exact ⟨out38,(),h,sP⟩
 ·rintro out5 _ h;(iterate 5 refine g5 ?_);refine wX ?_;cases h;exact xT

theorem UT (a1:List RN) (b2:List RN) (how3:Int) (r0:List RN) (h:(UP a1 b2 how3).wp (· = r0)):PRow prog 152 [.d (.sl (List.map RN.e a1)),.d (.sl (List.map RN.e b2)),.d (.v (.int .i64 how3))] 103 2 (List.map RN.e r0):=by
 refine PRow.intro (sl:=[(0,_),(1,_),(2,_)]) func152 rfl ntmps152 rfl rfl ?_;intro ctx hK;(iterate 2 refine g5 ?_);refine ws (aR 103 2 rfl) ?_;(iterate 5 refine g5 ?_);obtain ⟨v4,hy5,h⟩:=zI h;refine xN (Qm a1 b2 v4 hy5) call169 ?_;(iterate 4 refine g5 ?_);refine ws (aR 103 2 rfl) ?_;(iterate 6 refine g5 ?_);refine wJ (zF h) (fun (out6:List RN) (_:Unit)=>⟨100,[(8,.row 8 (out6.length))],[(8,.row 103 2 (List.map RN.e out6))]⟩) (fun h=>?_) ?_
 ·refine g5 ?_;refine wM (fun (⟨i85,out86⟩:Int × List RN) (_:Unit)=>⟨100,[(0,.d (.sl (List.map RN.e a1))),(1,.d (.sl (List.map RN.e b2))),(2,.d (.v (.int .i64 how3))),(7,.d (.sl (List.map (eK .u64) v4))),(8,.row 8 (out86.length)),(9,.d (.v (.int .i64 i85)))],[(8,.row 103 2 (List.map RN.e out86))]⟩) () h (sP) ?_;rintro N ⟨i85,out86⟩ _ h;(iterate 9 refine g5 ?_);refine xD h rfl (fun _ h=>?_) (fun _ h=>?_)
  ·(iterate 2 refine g5 ?_);refine wJ (zF h) (fun (out88:List RN) (_:Unit)=>⟨100,[(0,.d (.sl (List.map RN.e a1))),(1,.d (.sl (List.map RN.e b2))),(2,.d (.v (.int .i64 how3))),(7,.d (.sl (List.map (eK .u64) v4))),(8,.row 8 (out88.length)),(9,.d (.v (.int .i64 i85)))],[(8,.row 103 2 (List.map RN.e out88))]⟩) (fun h=>?_) ?_
   ·(iterate 3 refine g5 ?_);(iterate 3 refine h5 ?_);obtain ⟨x89,hy90,h⟩:=yF h;refine qs (fun _ U W=>iX (enc:=(eK .u64)) (L:=v4) (y:=x89) underlying184 sizeOf24 U U hy90 (fun _=>rfl)) ?_;refine h5 ?_;obtain ⟨v91,hy92,h⟩:=zI h;refine qs (fun _ U W=>cN (US a1 x89 v91 hy92) U call118 (vu (fun a b=>U a b) rfl rfl) rfl rfl rfl) ?_;(iterate 3 refine h5 ?_);obtain ⟨x93,hy94,h⟩:=yF h;refine qs (fun _ U W=>iX (enc:=(eK .u64)) (L:=v4) (y:=x93) underlying184 sizeOf24 U U hy94 (fun _=>rfl)) ?_;refine h5 ?_;obtain ⟨v95,hy96,h⟩:=zI h;refine qs (fun _ U W=>cN (US b2 x93 v95 hy96) U call118 (vu (fun a b=>U a b) rfl rfl) rfl rfl rfl) ?_;(iterate 3 refine h5 ?_);refine g5 ?_;refine wz (tl:=[(0,_),(1,_),(2,_),(7,_),(8,_),(9,_),(10,_),(11,_)]) (to:=[(8,_)]) ?_;refine wJ (zF h) (fun (in97:Bool) (_:Unit)=>⟨100,[(0,.d (.sl (List.map RN.e a1))),(1,.d (.sl (List.map RN.e b2))),(2,.d (.v (.int .i64 how3))),(7,.d (.sl (List.map (eK .u64) v4))),(8,.row 8 (out86.length)),(9,.d (.v (.int .i64 i85))),(10,.d (.v (.bool v91))),(11,.d (.v (.bool v95))),(12,.d (.v (.bool in97)))],[(8,.row 103 2 (List.map RN.e out86))]⟩) (fun h=>?_) ?_
    ·(iterate 3 refine g5 ?_);refine xG (d:=37) h rfl (fun _ h=>?_) (fun _ h=>?_)
     ·(iterate 4 refine g5 ?_);exact ⟨true,(),h,sP⟩
     ·(iterate 4 refine g5 ?_);exact ⟨v95,(),h,sP⟩
    ·rintro in97 _ h;(iterate 6 refine g5 ?_);refine wJ (zF h) (fun (in99:Bool) (_:Unit)=>⟨100,[(0,.d (.sl (List.map RN.e a1))),(1,.d (.sl (List.map RN.e b2))),(2,.d (.v (.int .i64 how3))),(7,.d (.sl (List.map (eK .u64) v4))),(8,.row 8 (out86.length)),(9,.d (.v (.int .i64 i85))),(10,.d (.v (.bool v91))),(11,.d (.v (.bool v95))),(12,.d (.v (.bool in99)))],[(8,.row 103 2 (List.map RN.e out86))]⟩) (fun h=>?_) ?_
     ·refine xD h rfl (fun _ h=>?_) (fun _ h=>?_)
      ·refine wJ (zF h) (fun (in101:Bool) (_:Unit)=>⟨100,[(0,.d (.sl (List.map RN.e a1))),(1,.d (.sl (List.map RN.e b2))),(2,.d (.v (.int .i64 how3))),(7,.d (.sl (List.map (eK .u64) v4))),(8,.row 8 (out86.length)),(9,.d (.v (.int .i64 i85))),(10,.d (.v (.bool v91))),(11,.d (.v (.bool v95))),(12,.d (.v (.bool in101)))],[(8,.row 103 2 (List.map RN.e out86))]⟩) (fun h=>?_) ?_
       ·(iterate 3 refine g5 ?_);refine xG (d:=43) h rfl (fun _ h=>?_) (fun _ h=>?_)
        ·(iterate 4 refine g5 ?_);exact ⟨v95,(),h,sP⟩
        ·(iterate 4 refine g5 ?_);exact ⟨false,(),h,sP⟩
       ·rintro in101 _ h;exact ⟨in101,(),h,sP⟩
      ·refine g5 ?_;exact ⟨in97,(),h,sP⟩
     ·rintro in99 _ h;(iterate 6 refine g5 ?_);refine wJ (zF h) (fun (in103:Bool) (_:Unit)=>⟨100,[(0,.d (.sl (List.map RN.e a1))),(1,.d (.sl (List.map RN.e b2))),(2,.d (.v (.int .i64 how3))),(7,.d (.sl (List.map (eK .u64) v4))),(8,.row 8 (out86.length)),(9,.d (.v (.int .i64 i85))),(12,.d (.v (.bool in103)))],[(8,.row 103 2 (List.map RN.e out86))]⟩) (fun h=>?_) ?_
      ·refine xD h rfl (fun _ h=>?_) (fun _ h=>?_)
       ·refine wJ (zF h) (fun (in105:Bool) (_:Unit)=>⟨100,[(0,.d (.sl (List.map RN.e a1))),(1,.d (.sl (List.map RN.e b2))),(2,.d (.v (.int .i64 how3))),(7,.d (.sl (List.map (eK .u64) v4))),(8,.row 8 (out86.length)),(9,.d (.v (.int .i64 i85))),(12,.d (.v (.bool in105)))],[(8,.row 103 2 (List.map RN.e out86))]⟩) (fun h=>?_) ?_
        ·(iterate 3 refine g5 ?_);refine xG (d:=49) h rfl (fun _ h=>?_) (fun _ h=>?_)
         ·(iterate 5 refine g5 ?_);exact ⟨(!v95),(),h,sP⟩
         ·(iterate 5 refine g5 ?_);exact ⟨false,(),h,sP⟩
        ·rintro in105 _ h;exact ⟨in105,(),h,sP⟩
       ·refine g5 ?_;exact ⟨in99,(),h,sP⟩
      ·rintro in103 _ h;(iterate 8 refine g5 ?_);refine wJ (zF h) (fun (v107:Bool) (_:Unit)=>⟨100,[(0,.d (.sl (List.map RN.e a1))),(1,.d (.sl (List.map RN.e b2))),(2,.d (.v (.int .i64 how3))),(7,.d (.sl (List.map (eK .u64) v4))),(8,.row 8 (out86.length)),(9,.d (.v (.int .i64 i85))),(12,.d (.v (.bool in103))),(13,.d (.v (.int .i64 ((IntKind.i64.wrap ((out86.length:Int) - 1)))))),(73,.d (.v (.bool v107)))],[(8,.row 103 2 (List.map RN.e out86))]⟩) (fun h=>?_) ?_
       ·refine g5 ?_;(iterate 2 refine h5 ?_);refine xQ (d:=57) h rfl (fun _ h=>?_) (fun _ h=>?_)
        ·(iterate 4 refine h5 ?_);refine xQ (d:=61) h rfl (fun _ h=>?_) (fun _ h=>?_)
         ·(iterate 2 refine h5 ?_);obtain ⟨x110,hy111,h⟩:=yF h;refine qt (fun _ U W=>LR.idxRowT (L:=out86) (y:=x110) underlying99 sizeOf103 U rfl U hy111) ?_;refine h5 ?_;refine qt (fun _ U W=>LR.loadRpF (enc:=RN.e) (L:=out86) (y:=x110) isAgg24 U (W rfl) hy111.2 rfl) ?_;(iterate 3 refine h5 ?_);obtain ⟨x112,hy113,h⟩:=yF h;refine qt (fun _ U W=>iX (enc:=(eK .u64)) (L:=v4) (y:=x112) underlying184 sizeOf24 U U hy113 (fun _=>rfl)) ?_;(iterate 4 refine h5 ?_);exact ⟨(decide ((IntKind.u64.wrap (x110.hi + 1)) = x112)),(),h,sP⟩
         ·(iterate 13 refine h5 ?_);exact ⟨false,(),h,sP⟩
        ·(iterate 17 refine h5 ?_);exact ⟨false,(),h,sP⟩
       ·rintro v107 _ h;refine xD h rfl (fun _ h=>?_) (fun _ h=>?_)
        ·(iterate 6 refine g5 ?_);obtain ⟨x115,hy116,h⟩:=yF h;refine ws (iX (enc:=(eK .u64)) (L:=v4) (y:=x115) underlying184 sizeOf24 rfl rfl hy116 (fun _=>rfl)) ?_;(iterate 2 refine g5 ?_);obtain ⟨x117,hy118,h⟩:=yF h;refine ws (LR.idxRowT (L:=out86) (y:=x117) underlying99 sizeOf103 rfl rfl rfl hy118) ?_;refine g5 ?_;refine ws (LR.storeRpT (enc:=RN.e) (L:=out86) (a:=x117) (b:=(⟨x117.lo,(IntKind.u64.wrap (x115 - 1))⟩:RN)) sizeOf24 rfl rfl rfl rfl rfl hy118.2 rfl rfl) ?_;refine g5 ?_;exact ⟨(List.set out86 ((Int.toNat ((IntKind.i64.wrap ((out86.length:Int) - 1))))) ((⟨x117.lo,(IntKind.u64.wrap (x115 - 1))⟩:RN))),(),h,sO rfl (.c4 rfl rfl rfl rfl rfl rfl rfl rfl<|.cons rfl (by first | rfl | (simp;done) | (congr 1;first | (simp;done) | (simp;omega) | omega))<|.cons rfl rfl<|.nil) (.cons rfl rfl<|.nil)⟩
        ·(iterate 4 refine g5 ?_);refine xD h rfl (fun _ h=>?_) (fun _ h=>?_)
         ·refine wz (tl:=[(0,_),(1,_),(2,_),(7,_),(8,_),(9,_)]) (to:=[(8,_)]) ?_;refine PWc.regionE [⟨[85],[],[],[],[],[8],[],[]⟩,{ws:=[86]},{ws:=[87]},{ws:=[88]},{ws:=[89]},{ws:=[90]},{ws:=[91]},{ws:=[92]},{ws:=[93]},{ws:=[94]},{ws:=[95]},{ws:=[96]},{ws:=[97]},⟨[8,85,98],[8],[8],[],[(8,[8,85])],[8],[],[]⟩,⟨[8],[],[],[],[],[8],[],[]⟩] (by kernel_rfl) (by kernel_rfl) rfl ?_;(iterate 3 refine h5 ?_);obtain ⟨x120,hy121,h⟩:=yF h;refine kp (fun _ U W=>iX (enc:=(eK .u64)) (L:=v4) (y:=x120) underlying184 sizeOf24 U U hy121 (fun _=>rfl)) ?_;(iterate 4 refine h5 ?_);obtain ⟨x122,hy123,h⟩:=yF h;refine kp (fun _ U W=>iX (enc:=(eK .u64)) (L:=v4) (y:=x122) underlying184 sizeOf24 U U hy123 (fun _=>rfl)) ?_;(iterate 2 refine h5 ?_);refine kp (fun _ U W=>LR.build (ns:=[_,_]) Xp rfl (evpE (fun a b=>U a b) rfl rfl) rfl) ?_;refine kp (fun _ U W=>LR.buildSliceD [.tmp 96] xv rfl rfl (.cons U rfl rfl<|.nil) (by decide) (by decide)) ?_;obtain ⟨hy124,h⟩:=zm h;refine PQe.stepA [8,85] (fun _ U W ha=>LR.appT (enc:=RN.e) (L:=out86) (R:=[(⟨x120,(IntKind.u64.wrap (x122 - 1))⟩:RN)]) [8,85] xv underlying99 (U rfl rfl) rfl (W rfl rfl) (Src.slT (enc:=RN.e) (R:=[(⟨x120,(IntKind.u64.wrap (x122 - 1))⟩:RN)]) (U rfl rfl) (fun _=>rfl)) (fun _=>rfl) hy124 rfl ha) rfl (.inl rfl) rfl ?_;refine h5 ?_;refine PQe.nil ?_;exact ⟨(out86 ++ [(⟨x120,(IntKind.u64.wrap (x122 - 1))⟩:RN)]),(),h,sO rfl (.c4 rfl rfl rfl rfl rfl rfl rfl rfl<|.cons rfl (by first | rfl | (simp;done) | (congr 1;first | (simp;done) | (simp;omega) | omega))<|.cons rfl rfl<|.nil) (.cons rfl rfl<|.nil)⟩
         ·refine g5 ?_;exact ⟨out86,(),h,sP⟩
   ·rintro out88 _ h;(iterate 5 refine g5 ?_);exact ⟨((IntKind.i64.wrap (i85 + 1)),out88),(),h,sP⟩
  ·refine wZ ?_;exact ⟨out86,(),h,sP⟩
 ·rintro out6 _ h;(iterate 5 refine g5 ?_);refine wX ?_;cases h;exact ⟨.inr rfl,6,rfl,.inr ⟨8,_,rfl,(by simp),rfl⟩⟩

theorem JK (a1:List RN) (b2:List RN) (r0:List RN) (h:(VT a1 b2).wp (· = r0)):PRow prog 111 [.d (.sl (List.map RN.e a1)),.d (.sl (List.map RN.e b2))] 103 2 (List.map RN.e r0):=by
 refine PRow.intro (sl:=[(0,_),(1,_)]) func111 rfl ntmps111 rfl rfl ?_;intro ctx hK;(iterate 2 refine g5 ?_);refine ws (aR 103 2 rfl) ?_;(iterate 5 refine g5 ?_);obtain ⟨v3,hy4,h⟩:=zI h;refine ws (LR.rowN (UT a1 b2 0 v3 hy4) rfl call152 rfl rfl rfl rfl)<|wy (tl:=[(0,_),(1,_),(5,_),(6,_),(7,_)]) (to:=[(7,_)]) ?_;(iterate 2 refine g5 ?_);refine wX ?_;cases h;exact ⟨.inr rfl,4,rfl,.inr ⟨7,_,rfl,(by simp),rfl⟩⟩

theorem Yu (c1:List PT) (dev2:Int) (r0:List RN) (h:(Yb c1 dev2).wp (· = r0)):PFun prog 78 [.d (.sl (List.map PT.e c1)),.d (.v (.int .u16 dev2))] (.d (.sl (List.map RN.e r0))):=by
 refine fI (sl:=[(0,_),(1,_)]) func78 rfl ntmps78 rfl rfl ?_;intro ctx hK;(iterate 2 refine g5 ?_);refine ws (aR 103 2 rfl) ?_;(iterate 3 refine g5 ?_);refine ws (aR 103 2 rfl) ?_;(iterate 6 refine g5 ?_);refine wJ (zF h) (fun (out3:List RN) (_:Unit)=>⟨32,[(5,.d (.sl (List.map RN.e out3)))],[]⟩) (fun h=>?_) ?_
 ·refine g5 ?_;refine wM (fun (⟨out28,i29⟩:List RN × Int) (_:Unit)=>⟨32,[(0,.d (.sl (List.map PT.e c1))),(1,.d (.v (.int .u16 dev2))),(5,.d (.sl (List.map RN.e out28))),(6,.d (.v (.int .i64 i29)))],[]⟩) () h (Sub.trans (Sub.frz [5] hK rfl (by first | (simp;done) | (simp;omega) | omega) (AllRow.get (.cons rfl<|.nil)))<|sP) ?_;rintro N ⟨out28,i29⟩ _ h;(iterate 8 refine g5 ?_);refine xD h rfl (fun _ h=>?_) (fun _ h=>?_)
  ·(iterate 2 refine g5 ?_);refine wJ (zF h) (fun (out31:List RN) (_:Unit)=>⟨32,[(0,.d (.sl (List.map PT.e c1))),(1,.d (.v (.int .u16 dev2))),(5,.d (.sl (List.map RN.e out31))),(6,.d (.v (.int .i64 i29)))],[]⟩) (fun h=>?_) ?_
   ·(iterate 2 refine g5 ?_);refine wJ (zF h) (fun (v32:Bool) (_:Unit)=>⟨32,[(0,.d (.sl (List.map PT.e c1))),(1,.d (.v (.int .u16 dev2))),(5,.d (.sl (List.map RN.e out28))),(6,.d (.v (.int .i64 i29))),(23,.d (.v (.bool v32)))],[]⟩) (fun h=>?_) ?_
    ·(iterate 3 refine g5 ?_);obtain ⟨x33,hy34,h⟩:=yF h;refine ws (iX (enc:=PT.e) (L:=c1) (y:=x33) underlying27 sizeOf101 rfl rfl hy34 (fun _=>rfl)) ?_;(iterate 5 refine g5 ?_);refine xG (d:=20) h rfl (fun _ h=>?_) (fun _ h=>?_)
     ·(iterate 4 refine g5 ?_);exact ⟨(!decide (dev2 = 0)),(),h,sP⟩
     ·(iterate 4 refine g5 ?_);exact ⟨false,(),h,sP⟩
    ·rintro v32 _ h;refine xD h rfl (fun _ h=>?_) (fun _ h=>?_)
     ·(iterate 4 refine g5 ?_);obtain ⟨x37,hy38,h⟩:=yF h;refine ws (iX (enc:=PT.e) (L:=c1) (y:=x37) underlying27 sizeOf101 rfl rfl hy38 (fun _=>rfl)) ?_;(iterate 2 refine g5 ?_);obtain ⟨v39,hy40,h⟩:=zI h;refine ws (LR.rowN (JK out28 x37.runs v39 hy40) rfl call111 rfl rfl rfl rfl) ?_;(iterate 2 refine g5 ?_);exact ⟨v39,(),h,Sub.trans (Sub.frz [5,30] hK rfl (by simp) (AllRow.get (.cons rfl<|.cons rfl<|.nil)))<|sP⟩
     ·refine g5 ?_;exact ⟨out28,(),h,sP⟩
   ·rintro out31 _ h;(iterate 5 refine g5 ?_);exact ⟨(out31,(IntKind.i64.wrap (i29 + 1))),(),h,sP⟩
  ·refine wZ ?_;exact ⟨out28,(),h,sP⟩
 ·rintro out3 _ h;(iterate 5 refine g5 ?_);refine wX ?_;cases h;exact xT

theorem vY (a1:DT) (b2:DT) (r0:Int) (h:(vK a1 b2).wp (· = r0)):PFun prog 71 [.agg (List.map .d (DT.e a1)),.agg (List.map .d (DT.e b2))] (.d (.v (.int .i64 r0))):=by
 refine fI (sl:=[(0,_),(1,_)]) func71 rfl ntmps71 rfl rfl ?_;intro ctx hK;(iterate 11 refine g5 ?_);refine ws (LR.eqlAgg rfl rfl rfl rfl zma) ?_;refine g5 ?_;refine xD h rfl (fun _ h=>?_) (fun _ h=>?_)
 ·(iterate 4 refine g5 ?_);refine wX ?_;cases h;exact xT
 ·(iterate 3 refine g5 ?_);refine wJ (zF h) (fun (v4:Bool) (_:Unit)=>⟨27,[(26,.d (.v (.bool v4)))],[]⟩) (fun h=>?_) ?_
  ·(iterate 7 refine g5 ?_);refine xG (d:=13) h rfl (fun _ h=>?_) (fun _ h=>?_)
   ·(iterate 6 refine g5 ?_);refine wy (tl:=[(2,_),(3,_),(13,_),(19,_)]) (to:=[(2,_),(3,_)]) ?_;(iterate 8 refine g5 ?_);exact ⟨true,(),h,sP⟩
   ·(iterate 6 refine g5 ?_);refine wy (tl:=[(2,_),(3,_),(13,_),(19,_)]) (to:=[(2,_),(3,_)]) ?_;refine xG (d:=19) h rfl (fun _ h=>?_) (fun _ h=>?_)
    ·(iterate 8 refine g5 ?_);exact ⟨(decide (a1.n < b2.n)),(),h,sP⟩
    ·(iterate 8 refine g5 ?_);exact ⟨false,(),h,sP⟩
  ·rintro v4 _ h;refine xD h rfl (fun _ h=>?_) (fun _ h=>?_)
   ·(iterate 4 refine g5 ?_);refine wX ?_;cases h;exact xT
   ·(iterate 5 refine g5 ?_);refine wX ?_;cases h;exact xT


theorem YI (l1:List DT) (d2:DT) (r0:List DT) (h:(Yc l1 d2).wp (· = r0)):PRow prog 119 [.d (.sl (List.map DT.e l1)),.agg (List.map .d (DT.e d2))] 105 2 (List.map DT.e r0):=by
 refine PRow.intro (sl:=[(0,_),(1,_)]) func119 rfl ntmps119 rfl rfl ?_;intro ctx hK;(iterate 3 refine g5 ?_);refine ws (aR 105 2 rfl) ?_;(iterate 3 refine g5 ?_);refine ws (aR 105 2 rfl) ?_;(iterate 6 refine g5 ?_);refine wJ (zF h) (fun (out3:List DT) (_:Unit)=>⟨53,[(0,.d (.sl (List.map DT.e l1))),(3,.ref 3 0),(5,.row 5 (out3.length))],[(3,.cells 105 [.d (.v (.int .u16 d2.dev)),.d (.v (.int .u64 d2.n))]),(5,.row 105 2 (List.map DT.e out3))]⟩) (fun h=>?_) ?_
 ·refine g5 ?_;refine wM (fun (⟨i26,out27⟩:Int × List DT) (_:Unit)=>⟨53,[(0,.d (.sl (List.map DT.e l1))),(3,.ref 3 0),(5,.row 5 (out27.length)),(6,.d (.v (.int .i64 i26)))],[(3,.cells 105 [.d (.v (.int .u16 d2.dev)),.d (.v (.int .u64 d2.n))]),(5,.row 105 2 (List.map DT.e out27))]⟩) () h (sP) ?_;rintro N ⟨i26,out27⟩ _ h;(iterate 8 refine g5 ?_);refine xD h rfl (fun _ h=>?_) (fun _ h=>?_)
  ·(iterate 2 refine g5 ?_);refine wJ (zF h) (fun (out29:List DT) (_:Unit)=>⟨53,[(0,.d (.sl (List.map DT.e l1))),(3,.ref 3 0),(5,.row 5 (out29.length)),(6,.d (.v (.int .i64 i26)))],[(3,.cells 105 [.d (.v (.int .u16 d2.dev)),.d (.v (.int .u64 d2.n))]),(5,.row 105 2 (List.map DT.e out29))]⟩) (fun h=>?_) ?_
   ·(iterate 3 refine g5 ?_);(iterate 2 refine h5 ?_);obtain ⟨x30,hy31,h⟩:=yF h;refine qs (fun _ U W=>iX (enc:=DT.e) (L:=l1) (y:=x30) underlying106 sizeOf105 U U hy31 (fun _=>rfl)) ?_;(iterate 2 refine h5 ?_);obtain ⟨v32,hy33,h⟩:=zI h;refine qs (fun _ U W=>cN (vY x30 d2 v32 hy33) U call71 (vu (fun a b=>U a b) rfl rfl) rfl rfl rfl) ?_;(iterate 2 refine h5 ?_);refine xD h rfl (fun _ h=>?_) (fun _ h=>?_)
    ·(iterate 4 refine g5 ?_);obtain ⟨x35,hy36,h⟩:=yF h;refine ws (iX (enc:=DT.e) (L:=l1) (y:=x35) underlying106 sizeOf105 rfl rfl hy36 (fun _=>rfl)) ?_;refine g5 ?_;refine ws (LR.buildSliceD [.tmp 25] xI rfl rfl (.cons rfl rfl rfl<|.nil) (by decide) (by decide))<|wy (tl:=[(0,_),(3,_),(5,_),(6,_),(21,_),(26,_)]) (to:=[(3,_),(5,_)]) ?_;obtain ⟨hy37,h⟩:=zm h;refine ws (LR.appT (enc:=DT.e) (L:=out27) (R:=[x35]) [5,21] xI underlying106 rfl rfl rfl (Src.slT (enc:=DT.e) (R:=[x35]) rfl (fun _=>rfl)) (fun _=>rfl) hy37 rfl rfl) ?_;(iterate 2 refine g5 ?_);exact ⟨(out27 ++ [x35]),(),h,sP⟩
    ·refine g5 ?_;exact ⟨out27,(),h,sP⟩
   ·rintro out29 _ h;(iterate 5 refine g5 ?_);exact ⟨((IntKind.i64.wrap (i26 + 1)),out29),(),h,sP⟩
  ·refine wZ ?_;exact ⟨out27,(),h,sP⟩
 ·rintro out3 _ h;(iterate 4 refine g5 ?_);refine ws (LR.buildSliceD [.tmp 29] xI rfl rfl (.cons rfl rfl rfl<|.nil) (by decide) (by decide)) ?_;obtain ⟨hy38,h⟩:=zm h;refine ws (LR.appT (enc:=DT.e) (L:=out3) (R:=[d2]) [5,28] xI underlying106 rfl rfl rfl (Src.slT (enc:=DT.e) (R:=[d2]) rfl (fun _=>rfl)) (fun _=>rfl) hy38 rfl rfl) ?_;(iterate 7 refine g5 ?_);refine wJ (zF h) (fun (out39:List DT) (_:Unit)=>⟨53,[(5,.row 5 (out39.length))],[(5,.row 105 2 (List.map DT.e out39))]⟩) (fun h=>?_) ?_
  ·refine g5 ?_;refine wM (fun (⟨i62,out63⟩:Int × List DT) (_:Unit)=>⟨53,[(0,.d (.sl (List.map DT.e l1))),(3,.ref 3 0),(5,.row 5 (out63.length)),(7,.d (.v (.int .i64 i62)))],[(3,.cells 105 [.d (.v (.int .u16 d2.dev)),.d (.v (.int .u64 d2.n))]),(5,.row 105 2 (List.map DT.e out63))]⟩) () h (sP) ?_;rintro N ⟨i62,out63⟩ _ h;(iterate 8 refine g5 ?_);refine xD h rfl (fun _ h=>?_) (fun _ h=>?_)
   ·(iterate 2 refine g5 ?_);refine wJ (zF h) (fun (out65:List DT) (_:Unit)=>⟨53,[(0,.d (.sl (List.map DT.e l1))),(3,.ref 3 0),(5,.row 5 (out65.length)),(7,.d (.v (.int .i64 i62)))],[(3,.cells 105 [.d (.v (.int .u16 d2.dev)),.d (.v (.int .u64 d2.n))]),(5,.row 105 2 (List.map DT.e out65))]⟩) (fun h=>?_) ?_
    ·(iterate 3 refine g5 ?_);(iterate 2 refine h5 ?_);obtain ⟨x66,hy67,h⟩:=yF h;refine qs (fun _ U W=>iX (enc:=DT.e) (L:=l1) (y:=x66) underlying106 sizeOf105 U U hy67 (fun _=>rfl)) ?_;(iterate 2 refine h5 ?_);obtain ⟨v68,hy69,h⟩:=zI h;refine qs (fun _ U W=>cN (vY x66 d2 v68 hy69) U call71 (vu (fun a b=>U a b) rfl rfl) rfl rfl rfl) ?_;(iterate 2 refine h5 ?_);refine xD h rfl (fun _ h=>?_) (fun _ h=>?_)
     ·(iterate 4 refine g5 ?_);obtain ⟨x71,hy72,h⟩:=yF h;refine ws (iX (enc:=DT.e) (L:=l1) (y:=x71) underlying106 sizeOf105 rfl rfl hy72 (fun _=>rfl)) ?_;refine g5 ?_;refine ws (LR.buildSliceD [.tmp 49] xI rfl rfl (.cons rfl rfl rfl<|.nil) (by decide) (by decide))<|wy (tl:=[(0,_),(3,_),(5,_),(7,_),(45,_),(50,_)]) (to:=[(3,_),(5,_)]) ?_;obtain ⟨hy73,h⟩:=zm h;refine ws (LR.appT (enc:=DT.e) (L:=out63) (R:=[x71]) [5,45] xI underlying106 rfl rfl rfl (Src.slT (enc:=DT.e) (R:=[x71]) rfl (fun _=>rfl)) (fun _=>rfl) hy73 rfl rfl) ?_;(iterate 2 refine g5 ?_);exact ⟨(out63 ++ [x71]),(),h,sP⟩
     ·refine g5 ?_;exact ⟨out63,(),h,sP⟩
    ·rintro out65 _ h;(iterate 5 refine g5 ?_);exact ⟨((IntKind.i64.wrap (i62 + 1)),out65),(),h,sP⟩
   ·refine wZ ?_;exact ⟨out63,(),h,sP⟩
  ·rintro out39 _ h;(iterate 5 refine g5 ?_);refine wX ?_;cases h;exact ⟨.inr rfl,4,rfl,.inr ⟨5,_,rfl,(by simp),rfl⟩⟩

theorem xHa (a1:List PT) (b2:List PT) (r0:List DT) (h:(jD a1 b2).wp (· = r0)):PFun prog 148 [.d (.sl (List.map PT.e a1)),.d (.sl (List.map PT.e b2))] (.d (.sl (List.map DT.e r0))):=by
 refine fI (sl:=[(0,_),(1,_)]) func148 rfl ntmps148 rfl rfl ?_;intro ctx hK;(iterate 2 refine g5 ?_);refine ws (aR 105 2 rfl) ?_;(iterate 3 refine g5 ?_);refine ws (aR 105 2 rfl) ?_;(iterate 6 refine g5 ?_);refine wJ (zF h) (fun (out3:List DT) (_:Unit)=>⟨37,[(1,.d (.sl (List.map PT.e b2))),(5,.d (.sl (List.map DT.e out3)))],[]⟩) (fun h=>?_) ?_
 ·refine g5 ?_;refine wM (fun (⟨out16,i17⟩:List DT × Int) (_:Unit)=>⟨37,[(0,.d (.sl (List.map PT.e a1))),(1,.d (.sl (List.map PT.e b2))),(5,.d (.sl (List.map DT.e out16))),(6,.d (.v (.int .i64 i17)))],[]⟩) () h (Sub.trans (Sub.frz [5] hK rfl (by first | (simp;done) | (simp;omega) | omega) (AllRow.get (.cons rfl<|.nil)))<|sP) ?_;rintro N ⟨out16,i17⟩ _ h;(iterate 8 refine g5 ?_);refine xD h rfl (fun _ h=>?_) (fun _ h=>?_)
  ·(iterate 7 refine g5 ?_);obtain ⟨x19,hy20,h⟩:=yF h;refine ws (iX (enc:=PT.e) (L:=a1) (y:=x19) underlying27 sizeOf101 rfl rfl hy20 (fun _=>rfl)) ?_;(iterate 2 refine g5 ?_);refine ws (LR.build (ns:=[_,_]) vi rfl rfl rfl) ?_;obtain ⟨v21,hy22,h⟩:=zI h;refine ws (LR.rowN (YI out16 (⟨x19.dev,1⟩:DT) v21 hy22) rfl call119 rfl rfl rfl rfl) ?_;(iterate 7 refine g5 ?_);exact ⟨(v21,(IntKind.i64.wrap (i17 + 1))),(),h,Sub.trans (Sub.frz [5,21] hK rfl (by simp) (AllRow.get (.cons rfl<|.cons rfl<|.nil)))<|sP⟩
  ·refine wZ ?_;exact ⟨out16,(),h,sP⟩
 ·rintro out3 _ h;(iterate 5 refine g5 ?_);refine wJ (zF h) (fun (out23:List DT) (_:Unit)=>⟨37,[(5,.d (.sl (List.map DT.e out23)))],[]⟩) (fun h=>?_) ?_
  ·refine g5 ?_;refine wM (fun (⟨out36,i37⟩:List DT × Int) (_:Unit)=>⟨37,[(1,.d (.sl (List.map PT.e b2))),(5,.d (.sl (List.map DT.e out36))),(7,.d (.v (.int .i64 i37)))],[]⟩) () h (sP) ?_;rintro N ⟨out36,i37⟩ _ h;(iterate 8 refine g5 ?_);refine xD h rfl (fun _ h=>?_) (fun _ h=>?_)
   ·(iterate 7 refine g5 ?_);obtain ⟨x39,hy40,h⟩:=yF h;refine ws (iX (enc:=PT.e) (L:=b2) (y:=x39) underlying27 sizeOf101 rfl rfl hy40 (fun _=>rfl)) ?_;(iterate 2 refine g5 ?_);refine ws (LR.build (ns:=[_,_]) vi rfl rfl rfl) ?_;obtain ⟨v41,hy42,h⟩:=zI h;refine ws (LR.rowN (YI out36 (⟨x39.dev,1⟩:DT) v41 hy42) rfl call119 rfl rfl rfl rfl) ?_;(iterate 7 refine g5 ?_);exact ⟨(v41,(IntKind.i64.wrap (i37 + 1))),(),h,Sub.trans (Sub.frz [5,35] hK rfl (by simp) (AllRow.get (.cons rfl<|.cons rfl<|.nil)))<|sP⟩
   ·refine wZ ?_;exact ⟨out36,(),h,sP⟩
  ·rintro out23 _ h;(iterate 5 refine g5 ?_);refine wX ?_;cases h;exact xT

theorem xIa (a1:List RN) (b2:List RN) (r0:List RN) (h:(jE a1 b2).wp (· = r0)):PRow prog 149 [.d (.sl (List.map RN.e a1)),.d (.sl (List.map RN.e b2))] 103 2 (List.map RN.e r0):=by
 refine PRow.intro (sl:=[(0,_),(1,_)]) func149 rfl ntmps149 rfl rfl ?_;intro ctx hK;(iterate 2 refine g5 ?_);refine ws (aR 103 2 rfl) ?_;(iterate 5 refine g5 ?_);obtain ⟨v3,hy4,h⟩:=zI h;refine ws (LR.rowN (UT a1 b2 1 v3 hy4) rfl call152 rfl rfl rfl rfl)<|wy (tl:=[(0,_),(1,_),(5,_),(6,_),(7,_)]) (to:=[(7,_)]) ?_;(iterate 2 refine g5 ?_);refine wX ?_;cases h;exact ⟨.inr rfl,4,rfl,.inr ⟨7,_,rfl,(by simp),rfl⟩⟩

theorem yDa (a1:List RN) (b2:List RN) (r0:List RN) (h:(VU a1 b2).wp (· = r0)):PRow prog 150 [.d (.sl (List.map RN.e a1)),.d (.sl (List.map RN.e b2))] 103 2 (List.map RN.e r0):=by
 refine PRow.intro (sl:=[(0,_),(1,_)]) func150 rfl ntmps150 rfl rfl ?_;intro ctx hK;(iterate 2 refine g5 ?_);refine ws (aR 103 2 rfl) ?_;(iterate 5 refine g5 ?_);obtain ⟨v3,hy4,h⟩:=zI h;refine ws (LR.rowN (UT a1 b2 2 v3 hy4) rfl call152 rfl rfl rfl rfl)<|wy (tl:=[(0,_),(1,_),(5,_),(6,_),(7,_)]) (to:=[(7,_)]) ?_;(iterate 2 refine g5 ?_);refine wX ?_;cases h;exact ⟨.inr rfl,4,rfl,.inr ⟨7,_,rfl,(by simp),rfl⟩⟩

theorem qe (a1:List PT) (b2:List PT) (how3:Int) (r0:List PT) (h:(jx a1 b2 how3).wp (· = r0)):PRow prog 109 [.d (.sl (List.map PT.e a1)),.d (.sl (List.map PT.e b2)),.d (.v (.int .i64 how3))] 101 2 (List.map PT.e r0):=by
 refine PRow.intro (sl:=[(0,_),(1,_),(2,_)]) func109 rfl ntmps109 rfl rfl ?_;intro ctx hK;(iterate 2 refine g5 ?_);refine ws (aR 101 2 rfl) ?_;(iterate 3 refine g5 ?_);refine ws (aR 101 2 rfl) ?_;(iterate 5 refine g5 ?_);obtain ⟨v4,hy5,h⟩:=zI h;refine xN (xHa a1 b2 v4 hy5) call148 ?_;(iterate 7 refine g5 ?_);refine wJ (zF h) (fun (out6:List PT) (_:Unit)=>⟨63,[(7,.row 7 (out6.length))],[(7,.row 101 2 (List.map PT.e out6))]⟩) (fun h=>?_) ?_
 ·refine g5 ?_;refine wM (fun (⟨i57,out58⟩:Int × List PT) (_:Unit)=>⟨63,[(0,.d (.sl (List.map PT.e a1))),(1,.d (.sl (List.map PT.e b2))),(2,.d (.v (.int .i64 how3))),(7,.row 7 (out58.length)),(8,.d (.sl (List.map DT.e v4))),(9,.d (.v (.int .i64 i57)))],[(7,.row 101 2 (List.map PT.e out58))]⟩) () h (sP) ?_;rintro N ⟨i57,out58⟩ _ h;(iterate 8 refine g5 ?_);refine xD h rfl (fun _ h=>?_) (fun _ h=>?_)
  ·(iterate 2 refine g5 ?_);refine wJ (zF h) (fun (out60:List PT) (_:Unit)=>⟨63,[(0,.d (.sl (List.map PT.e a1))),(1,.d (.sl (List.map PT.e b2))),(2,.d (.v (.int .i64 how3))),(7,.row 7 (out60.length)),(8,.d (.sl (List.map DT.e v4))),(9,.d (.v (.int .i64 i57)))],[(7,.row 101 2 (List.map PT.e out60))]⟩) (fun h=>?_) ?_
   ·(iterate 3 refine g5 ?_);(iterate 3 refine h5 ?_);obtain ⟨x61,hy62,h⟩:=yF h;refine qs (fun _ U W=>iX (enc:=DT.e) (L:=v4) (y:=x61) underlying106 sizeOf105 U U hy62 (fun _=>rfl)) ?_;(iterate 2 refine h5 ?_);obtain ⟨v63,hy64,h⟩:=zI h;refine qs (fun _ U W=>cN (Yu a1 x61.dev v63 hy64) U call78 (vu (fun a b=>U a b) rfl rfl) rfl rfl rfl) ?_;(iterate 3 refine h5 ?_);obtain ⟨x65,hy66,h⟩:=yF h;refine qs (fun _ U W=>iX (enc:=DT.e) (L:=v4) (y:=x65) underlying106 sizeOf105 U U hy66 (fun _=>rfl)) ?_;(iterate 2 refine h5 ?_);obtain ⟨v67,hy68,h⟩:=zI h;refine qs (fun _ U W=>cN (Yu b2 x65.dev v67 hy68) U call78 (vu (fun a b=>U a b) rfl rfl) rfl rfl rfl) ?_;(iterate 3 refine h5 ?_);refine g5 ?_;refine wz (tl:=[(0,_),(1,_),(2,_),(7,_),(8,_),(9,_),(10,_),(11,_)]) (to:=[(7,_)]) ?_;(iterate 3 refine g5 ?_);obtain ⟨v69,hy70,h⟩:=zI h;refine ws (LR.rowN (JK v63 v67 v69 hy70) rfl call111 rfl rfl rfl rfl) ?_;(iterate 8 refine g5 ?_);refine wJ (zF h) (fun (z71:List RN) (_:Unit)=>⟨63,[(0,.d (.sl (List.map PT.e a1))),(1,.d (.sl (List.map PT.e b2))),(2,.d (.v (.int .i64 how3))),(7,.row 7 (out58.length)),(8,.d (.sl (List.map DT.e v4))),(9,.d (.v (.int .i64 i57))),(10,.d (.sl (List.map RN.e v63))),(11,.d (.sl (List.map RN.e v67))),(12,.d (.sl (List.map RN.e z71)))],[(7,.row 101 2 (List.map PT.e out58))]⟩) (fun h=>?_) ?_
    ·refine xD h rfl (fun _ h=>?_) (fun _ h=>?_)
     ·(iterate 3 refine g5 ?_);obtain ⟨v73,hy74,h⟩:=zI h;refine ws (LR.rowN (xIa v63 v67 v73 hy74) rfl call149 rfl rfl rfl rfl) ?_;(iterate 2 refine g5 ?_);exact ⟨v73,(),h,Sub.trans (Sub.frz [38] hK rfl (by simp) (AllRow.get (.cons rfl<|.nil)))<|Sub.trans (Sub.frz [12,43] hK rfl (by simp) (AllRow.get (.cons rfl<|.cons rfl<|.nil)))<|sP⟩
     ·refine g5 ?_;exact ⟨v69,(),h,Sub.trans (Sub.frz [12,38] hK rfl (by simp) (AllRow.get (.cons rfl<|.cons rfl<|.nil)))<|sP⟩
    ·rintro z71 _ h;(iterate 6 refine g5 ?_);refine wJ (zF h) (fun (z75:List RN) (_:Unit)=>⟨63,[(0,.d (.sl (List.map PT.e a1))),(1,.d (.sl (List.map PT.e b2))),(2,.d (.v (.int .i64 how3))),(7,.row 7 (out58.length)),(8,.d (.sl (List.map DT.e v4))),(9,.d (.v (.int .i64 i57))),(12,.d (.sl (List.map RN.e z75)))],[(7,.row 101 2 (List.map PT.e out58))]⟩) (fun h=>?_) ?_
     ·refine xD h rfl (fun _ h=>?_) (fun _ h=>?_)
      ·(iterate 3 refine g5 ?_);obtain ⟨v77,hy78,h⟩:=zI h;refine ws (LR.rowN (yDa v63 v67 v77 hy78) rfl call150 rfl rfl rfl rfl) ?_;(iterate 2 refine g5 ?_);exact ⟨v77,(),h,Sub.trans (Sub.frz [12,48] hK rfl (by simp) (AllRow.get (.cons rfl<|.cons rfl<|.nil)))<|sP⟩
      ·refine g5 ?_;exact ⟨z71,(),h,sP⟩
     ·rintro z75 _ h;(iterate 6 refine g5 ?_);refine xD h rfl (fun _ h=>?_) (fun _ h=>?_)
      ·(iterate 4 refine g5 ?_);obtain ⟨x80,hy81,h⟩:=yF h;refine ws (iX (enc:=DT.e) (L:=v4) (y:=x80) underlying106 sizeOf105 rfl rfl hy81 (fun _=>rfl)) ?_;(iterate 3 refine g5 ?_);refine ws (LR.build (ns:=[_,_]) Xo rfl rfl rfl)<|ws (LR.buildSliceD [.tmp 59] Wc rfl rfl (.cons rfl rfl rfl<|.nil) (by decide) (by decide)) ?_;obtain ⟨hy82,h⟩:=zm h;refine ws (LR.appT (enc:=PT.e) (L:=out58) (R:=[(⟨x80.dev,z75⟩:PT)]) [7,52] Wc underlying27 rfl rfl rfl (Src.slT (enc:=PT.e) (R:=[(⟨x80.dev,z75⟩:PT)]) rfl (fun _=>rfl)) (fun _=>rfl) hy82 rfl rfl) ?_;(iterate 2 refine g5 ?_);exact ⟨(out58 ++ [(⟨x80.dev,z75⟩:PT)]),(),h,sP⟩
      ·refine g5 ?_;exact ⟨out58,(),h,sP⟩
   ·rintro out60 _ h;(iterate 5 refine g5 ?_);exact ⟨((IntKind.i64.wrap (i57 + 1)),out60),(),h,sP⟩
  ·refine wZ ?_;exact ⟨out58,(),h,sP⟩
 ·rintro out6 _ h;(iterate 5 refine g5 ?_);refine wX ?_;cases h;exact ⟨.inr rfl,6,rfl,.inr ⟨7,_,rfl,(by simp),rfl⟩⟩


theorem Wx (c1:List PT) (r0:List PT) (h:(WK c1).wp (· = r0)):PRow prog 75 [.d (.sl (List.map PT.e c1))] 101 2 (List.map PT.e r0):=by
 refine PRow.intro (sl:=[(0,_)]) func75 rfl ntmps75 rfl rfl ?_;intro ctx hK;(iterate 2 refine g5 ?_);refine ws (aR 101 2 rfl) ?_;(iterate 4 refine g5 ?_);obtain ⟨v2,hy3,h⟩:=zI h;refine ws (LR.rowN (qe c1 ([]:List PT) 0 v2 hy3) rfl call109 rfl rfl rfl rfl)<|wy (tl:=[(0,_),(3,_),(4,_)]) (to:=[(4,_)]) ?_;(iterate 2 refine g5 ?_);refine wX ?_;cases h;exact ⟨.inr rfl,2,rfl,.inr ⟨4,_,rfl,(by simp),rfl⟩⟩

theorem xj (a1:List PT) (b2:List PT) (r0:Bool) (h:(vL a1 b2).wp (· = r0)):PFun prog 31 [.d (.sl (List.map PT.e a1)),.d (.sl (List.map PT.e b2))] (.d (.v (.bool r0))):=by
 refine fI (sl:=[(0,_),(1,_)]) func31 rfl ntmps31 rfl rfl ?_;intro ctx hK;(iterate 7 refine g5 ?_);obtain ⟨v3,hy4,h⟩:=zI h;refine ws (LR.rowN (Wx a1 v3 hy4) rfl call75 rfl rfl rfl rfl) ?_;refine g5 ?_;obtain ⟨v5,hy6,h⟩:=zI h;refine ws (LR.rowN (Wx b2 v5 hy6) rfl call75 rfl rfl rfl rfl) ?_;obtain ⟨v7,hy8,h⟩:=zI h;refine PWl.frz [6] hK (.cons rfl<|.nil) rfl (by simp) ?_;refine PWl.frz [8] hK (.cons rfl<|.nil) rfl (by simp) ?_;refine xN (yCa v3 v5 v7 hy8) call74 ?_;(iterate 2 refine g5 ?_);refine wX ?_;cases h;exact xT

theorem Yv (n1:Int) (r0:Bool) (h:(ul n1).wp (· = r0)):PFun prog 35 [.d (.v (.int .u64 n1))] (.d (.v (.bool r0))):=by
 refine fI (sl:=[(0,_)]) func35 rfl ntmps35 rfl rfl ?_;intro ctx hK;(iterate 5 refine g5 ?_);refine wJ (zF h) (fun (v2:Bool) (_:Unit)=>⟨9,[(2,.d (.v (.bool v2)))],[]⟩) (fun h=>?_) ?_
 ·(iterate 4 refine g5 ?_);refine xG (d:=5) h rfl (fun _ h=>?_) (fun _ h=>?_)
  ·(iterate 5 refine g5 ?_);exact ⟨(decide (n1 <= 281474976710655)),(),h,sP⟩
  ·(iterate 5 refine g5 ?_);exact ⟨false,(),h,sP⟩
 ·rintro v2 _ h;refine wX ?_;cases h;exact xT

theorem wn (c1:List PT) (r0:Bool) (h:(vj c1).wp (· = r0)):PFun prog 36 [.d (.sl (List.map PT.e c1))] (.d (.v (.bool r0))):=by
 refine fI (sl:=[(0,_)]) func36 rfl ntmps36 rfl rfl ?_;intro ctx hK;(iterate 8 refine g5 ?_);obtain ⟨v2,hy3,h⟩:=zI h;refine ws (LR.rowN (Wx c1 v2 hy3) rfl call75 rfl rfl rfl rfl) ?_;obtain ⟨v4,hy5,h⟩:=zI h;refine PWl.frz [5] hK (.cons rfl<|.nil) rfl (by simp) ?_;refine xN (yCa c1 v2 v4 hy5) call74 ?_;(iterate 2 refine g5 ?_);refine wX ?_;cases h;exact xT

theorem Yw (c1:List PT) (dev2:Int) (r0:List PT) (h:(Ye c1 dev2).wp (· = r0)):PFun prog 37 [.d (.sl (List.map PT.e c1)),.d (.v (.int .u16 dev2))] (.d (.sl (List.map PT.e r0))):=by
 refine fI (sl:=[(0,_),(1,_)]) func37 rfl ntmps37 rfl rfl ?_;intro ctx hK;(iterate 2 refine g5 ?_);refine ws (aR 101 2 rfl) ?_;(iterate 5 refine g5 ?_);obtain ⟨v3,hy4,h⟩:=zI h;refine xN (Yu c1 dev2 v3 hy4) call78 ?_;(iterate 9 refine g5 ?_);refine xD h rfl (fun _ h=>?_) (fun _ h=>?_)
 ·(iterate 2 refine g5 ?_);refine wy (tl:=[(0,_),(1,_),(5,_),(6,_),(7,_),(8,_),(9,_),(10,_),(11,_)]) (to:=[]) ?_;refine ws (aR 101 2 rfl) ?_;refine g5 ?_;refine wX ?_;cases h;exact ⟨.inr rfl,_,.cons (.row rfl rfl (by first | (simp;done) | (simp;omega) | omega))<|.nil,rfl⟩
 ·(iterate 5 refine g5 ?_);refine ws (LR.build (ns:=[_,_]) Xo rfl rfl rfl)<|ws (LR.buildSliceD [.tmp 14] Wc rfl rfl (.cons rfl rfl rfl<|.nil) (by decide) (by decide))<|wy (tl:=[(0,_),(1,_),(5,_),(6,_),(7,_),(8,_),(9,_),(10,_),(11,_),(12,_),(13,_),(14,_),(15,_)]) (to:=[]) ?_;(iterate 2 refine g5 ?_);refine wX ?_;cases h;exact xT


theorem yEa (a1:List PT) (b2:List PT) (r0:List PT) (h:(VV a1 b2).wp (· = r0)):PRow prog 79 [.d (.sl (List.map PT.e a1)),.d (.sl (List.map PT.e b2))] 101 2 (List.map PT.e r0):=by
 refine PRow.intro (sl:=[(0,_),(1,_)]) func79 rfl ntmps79 rfl rfl ?_;intro ctx hK;(iterate 2 refine g5 ?_);refine ws (aR 101 2 rfl) ?_;(iterate 5 refine g5 ?_);obtain ⟨v3,hy4,h⟩:=zI h;refine ws (LR.rowN (qe a1 b2 2 v3 hy4) rfl call109 rfl rfl rfl rfl)<|wy (tl:=[(0,_),(1,_),(5,_),(6,_),(7,_)]) (to:=[(7,_)]) ?_;(iterate 2 refine g5 ?_);refine wX ?_;cases h;exact ⟨.inr rfl,4,rfl,.inr ⟨7,_,rfl,(by simp),rfl⟩⟩

theorem Yx (a1:List PT) (b2:List PT) (r0:Bool) (h:(um a1 b2).wp (· = r0)):PFun prog 38 [.d (.sl (List.map PT.e a1)),.d (.sl (List.map PT.e b2))] (.d (.v (.bool r0))):=by
 refine fI (sl:=[(0,_),(1,_)]) func38 rfl ntmps38 rfl rfl ?_;intro ctx hK;(iterate 8 refine g5 ?_);obtain ⟨v3,hy4,h⟩:=zI h;refine ws (LR.rowN (yEa a1 b2 v3 hy4) rfl call79 rfl rfl rfl rfl) ?_;(iterate 4 refine g5 ?_);refine wX ?_;cases h;exact xT

theorem ZI (d1:DT) (r0:Bool) (h:(uc d1).wp (· = r0)):PFun prog 113 [.agg (List.map .d (DT.e d1))] (.d (.v (.bool r0))):=by
 refine fI (sl:=[(0,_)]) func113 rfl ntmps113 rfl rfl ?_;intro ctx hK;(iterate 6 refine g5 ?_);refine wJ (zF h) (fun (v2:Bool) (_:Unit)=>⟨16,[(2,.d (.v (.bool v2)))],[]⟩) (fun h=>?_) ?_
 ·(iterate 5 refine g5 ?_);refine xG (d:=6) h rfl (fun _ h=>?_) (fun _ h=>?_)
  ·(iterate 5 refine g5 ?_);refine xG (d:=11) h rfl (fun _ h=>?_) (fun _ h=>?_)
   ·(iterate 6 refine g5 ?_);exact ⟨(decide (d1.n < 281474976710656)),(),h,sP⟩
   ·(iterate 6 refine g5 ?_);exact ⟨false,(),h,sP⟩
  ·(iterate 11 refine g5 ?_);exact ⟨false,(),h,sP⟩
 ·rintro v2 _ h;refine wX ?_;cases h;exact xT

theorem yFa (v1:Int) (r0:Int × Int) (h:(VW v1).wp (· = r0)):PFun prog 153 [.d (.v (.int .u64 v1))] (.tup [.d (.v (.int .u16 r0.1)),.d (.v (.int .u64 r0.2))]):=by
 refine fI (sl:=[(0,_)]) func153 rfl ntmps153 rfl rfl ?_;intro ctx hK;(iterate 9 refine g5 ?_);refine ws (LR.convInt underlying25 (by rw [underlying24];rfl) rfl rfl) ?_;(iterate 5 refine g5 ?_);refine wX ?_;cases h;exact ⟨.inr rfl,_,.cons (.tmp rfl rfl)<|.cons (.tmp rfl rfl)<|.nil,rfl⟩

theorem Qn (v1:Int) (r0:DT × Bool) (h:(WL v1).wp (· = r0)):PFun prog 112 [.d (.v (.int .u64 v1))] (.tup [.agg (List.map .d (DT.e r0.1)),.d (.v (.bool r0.2))]):=by
 refine fI (sl:=[(0,_)]) func112 rfl ntmps112 rfl rfl ?_;intro ctx hK;(iterate 8 refine g5 ?_);obtain ⟨v2,hy3,h⟩:=zI h;refine xN (yFa v1 v2 hy3) call153 ?_;(iterate 10 refine g5 ?_);refine ws (LR.build (ns:=[_,_]) vi rfl rfl rfl) ?_;(iterate 7 refine g5 ?_);obtain ⟨v4,hy5,h⟩:=zI h;refine xN (ZI (⟨v2.1,v2.2⟩:DT) v4 hy5) call113 ?_;(iterate 2 refine g5 ?_);refine xD h rfl (fun _ h=>?_) (fun _ h=>?_)
 ·(iterate 2 refine g5 ?_);refine ws (LR.build (ns:=[_,_]) vi rfl rfl rfl) ?_;(iterate 3 refine g5 ?_);refine wX ?_;cases h;exact ⟨.inr rfl,_,.cons (.agg isAgg105 sizeOf105 rfl rfl rfl rfl)<|.cons (.tmp rfl rfl)<|.nil,rfl⟩
 ·(iterate 7 refine g5 ?_);refine wX ?_;cases h;exact ⟨.inr rfl,_,.cons (.agg isAgg105 sizeOf105 rfl rfl rfl rfl)<|.cons (.tmp rfl rfl)<|.nil,rfl⟩


theorem xJa (f1:Int) (r0:Bool) (h:(jF f1).wp (· = r0)):PFun prog 114 [.d (.v (.int .u8 f1))] (.d (.v (.bool r0))):=by
 refine fI (sl:=[(0,_)]) func114 rfl ntmps114 rfl rfl ?_;intro ctx hK;(iterate 5 refine g5 ?_);refine wJ (zF h) (fun (v2:Bool) (_:Unit)=>⟨9,[(2,.d (.v (.bool v2)))],[]⟩) (fun h=>?_) ?_
 ·(iterate 4 refine g5 ?_);refine xG (d:=5) h rfl (fun _ h=>?_) (fun _ h=>?_)
  ·(iterate 5 refine g5 ?_);exact ⟨(decide (f1 <= 5)),(),h,sP⟩
  ·(iterate 5 refine g5 ?_);exact ⟨false,(),h,sP⟩
 ·rintro v2 _ h;refine wX ?_;cases h;exact xT

theorem xKa (s1:ByteArray) (r0:Bool) (h:(jG s1).wp (· = r0)):PFun prog 115 [.d (.v (.string s1))] (.d (.v (.bool r0))):=by
 refine fI (sl:=[(0,_)]) func115 rfl ntmps115 rfl rfl ?_;intro ctx hK;(iterate 9 refine g5 ?_);refine PWc.jnX (zF h) (fun (_:Unit) (_:Unit)=>⟨23,[(0,.d (.v (.string s1)))],[]⟩) (fun h=>?_) ?_
 ·refine g5 ?_;refine wM (fun (i19:Int) (_:Unit)=>⟨23,[(0,.d (.v (.string s1))),(3,.d (.v (.int .i64 i19)))],[]⟩) () h (sP) ?_;rintro N i19 _ h;(iterate 8 refine g5 ?_);refine xD h rfl (fun _ h=>?_) (fun _ h=>?_)
  ·(iterate 4 refine g5 ?_);refine wJ (zF h) (fun (v21:Bool) (_:Unit)=>⟨23,[(0,.d (.v (.string s1))),(3,.d (.v (.int .i64 i19))),(19,.d (.v (.bool v21)))],[]⟩) (fun h=>?_) ?_
   ·(iterate 3 refine g5 ?_);obtain ⟨b22,hy23,h⟩:=yF h;refine ws (LR.strIdx underlying9 rfl rfl hy23) ?_;(iterate 2 refine g5 ?_);refine xG (d:=14) h rfl (fun _ h=>?_) (fun _ h=>?_)
    ·(iterate 6 refine g5 ?_);exact ⟨true,(),h,sP⟩
    ·(iterate 2 refine g5 ?_);obtain ⟨b25,hy26,h⟩:=yF h;refine wt (LR.strIdx underlying9 rfl rfl hy26) ?_;(iterate 3 refine g5 ?_);exact ⟨(decide (126 < b25)),(),h,sP⟩
   ·rintro v21 _ h;refine xD h rfl (fun _ h=>?_) (fun _ h=>?_)
    ·(iterate 4 refine g5 ?_);refine wX ?_;cases h;exact xT
    ·(iterate 6 refine g5 ?_);exact ⟨(IntKind.i64.wrap (i19 + 1)),(),h,sP⟩
  ·refine wZ ?_;exact ⟨(),(),h,sP⟩
 ·rintro _ _ h;(iterate 7 refine g5 ?_);refine wX ?_;cases h;exact xT

theorem Qo (l1:List DT) (r0:Bool) (h:(WM l1).wp (· = r0)):PFun prog 116 [.d (.sl (List.map DT.e l1))] (.d (.v (.bool r0))):=by
 refine fI (sl:=[(0,_)]) func116 rfl ntmps116 rfl rfl ?_;intro ctx hK;(iterate 9 refine g5 ?_);refine PWc.jnX (zF h) (fun (_:Unit) (_:Unit)=>⟨21,[],[]⟩) (fun h=>?_) ?_
 ·refine g5 ?_;refine wM (fun (i19:Int) (_:Unit)=>⟨21,[(0,.d (.sl (List.map DT.e l1))),(3,.d (.v (.int .i64 i19)))],[]⟩) () h (sP) ?_;rintro N i19 _ h;(iterate 8 refine g5 ?_);refine xD h rfl (fun _ h=>?_) (fun _ h=>?_)
  ·(iterate 5 refine g5 ?_);(iterate 3 refine h5 ?_);obtain ⟨x21,hy22,h⟩:=yF h;refine qs (fun _ U W=>iX (enc:=DT.e) (L:=l1) (y:=x21) underlying106 sizeOf105 U U hy22 (fun _=>rfl)) ?_;(iterate 3 refine h5 ?_);obtain ⟨x23,hy24,h⟩:=yF h;refine qs (fun _ U W=>iX (enc:=DT.e) (L:=l1) (y:=x23) underlying106 sizeOf105 U U hy24 (fun _=>rfl)) ?_;refine h5 ?_;obtain ⟨v25,hy26,h⟩:=zI h;refine qs (fun _ U W=>cN (vY x21 x23 v25 hy26) U call71 (vu (fun a b=>U a b) rfl rfl) rfl rfl rfl) ?_;(iterate 2 refine h5 ?_);refine xD h rfl (fun _ h=>?_) (fun _ h=>?_)
   ·(iterate 4 refine g5 ?_);refine wX ?_;cases h;exact xT
   ·(iterate 6 refine g5 ?_);exact ⟨(IntKind.i64.wrap (i19 + 1)),(),h,sP⟩
  ·refine wZ ?_;exact ⟨(),(),h,sP⟩
 ·rintro _ _ h;(iterate 4 refine g5 ?_);refine wX ?_;cases h;exact xT

theorem qf (l1:List DT) (d2:DT) (r0:Bool) (h:(jy l1 d2).wp (· = r0)):PFun prog 117 [.d (.sl (List.map DT.e l1)),.agg (List.map .d (DT.e d2))] (.d (.v (.bool r0))):=by
 refine fI (sl:=[(0,_),(1,_)]) func117 rfl ntmps117 rfl rfl ?_;intro ctx hK;(iterate 10 refine g5 ?_);refine PWc.jnX (zF h) (fun (_:Unit) (_:Unit)=>⟨18,[],[]⟩) (fun h=>?_) ?_
 ·refine g5 ?_;refine wM (fun (i12:Int) (_:Unit)=>⟨18,[(0,.d (.sl (List.map DT.e l1))),(3,.ref 3 0),(5,.d (.v (.int .i64 i12)))],[(3,.cells 105 [.d (.v (.int .u16 d2.dev)),.d (.v (.int .u64 d2.n))])]⟩) () h (sP) ?_;rintro N i12 _ h;(iterate 8 refine g5 ?_);refine xD h rfl (fun _ h=>?_) (fun _ h=>?_)
  ·(iterate 5 refine g5 ?_);(iterate 2 refine h5 ?_);obtain ⟨x14,hy15,h⟩:=yF h;refine qs (fun _ U W=>iX (enc:=DT.e) (L:=l1) (y:=x14) underlying106 sizeOf105 U U hy15 (fun _=>rfl)) ?_;(iterate 2 refine h5 ?_);refine qs (fun _ U W=>LR.eqlAgg U U rfl rfl zma) ?_;refine h5 ?_;refine xD h rfl (fun _ h=>?_) (fun _ h=>?_)
   ·(iterate 4 refine g5 ?_);refine wX ?_;cases h;exact xT
   ·(iterate 6 refine g5 ?_);exact ⟨(IntKind.i64.wrap (i12 + 1)),(),h,sP⟩
  ·refine wZ ?_;exact ⟨(),(),h,sP⟩
 ·rintro _ _ h;(iterate 4 refine g5 ?_);refine wX ?_;cases h;exact xT

theorem Wy (e1:EV) (r0:Bool) (h:(Yf e1).wp (· = r0)):PFun prog 80 [.agg (List.map .d (EV.e e1))] (.d (.v (.bool r0))):=by
 refine fI (sl:=[(0,_)]) func80 rfl ntmps80 rfl rfl ?_;intro ctx hK;(iterate 9 refine g5 ?_);obtain ⟨v2,hy3,h⟩:=zI h;refine xN (Qn e1.cid v2 hy3) call112 ?_;(iterate 9 refine g5 ?_);refine wJ (zF h) (fun (v4:Bool) (_:Unit)=>⟨91,[(1,.ref 1 0),(29,.d (.v (.bool v4)))],[(1,.cells 108 [.d (.v (.int .u16 e1.dot.dev)),.d (.v (.int .u64 e1.dot.n)),.d (.v (.int .u8 e1.kind)),.d (.v (.int .u64 e1.cid)),.d (.v (.int .u8 e1.field)),.d (.v (.string e1.text)),.d (.sl (List.map DT.e e1.kills))])]⟩) (fun h=>?_) ?_
 ·(iterate 4 refine g5 ?_);refine xG (d:=14) h rfl (fun _ h=>?_) (fun _ h=>?_)
  ·(iterate 6 refine g5 ?_);refine wy (tl:=[(1,_),(20,_)]) (to:=[(1,_)]) ?_;(iterate 10 refine g5 ?_);exact ⟨true,(),h,sP⟩
  ·(iterate 2 refine g5 ?_);obtain ⟨v6,hy7,h⟩:=zI h;refine wt (cN (ZI e1.dot v6 hy7) rfl call113 rfl rfl rfl rfl) ?_;(iterate 3 refine g5 ?_);refine wy (tl:=[(1,_),(20,_)]) (to:=[(1,_)]) ?_;refine xG (d:=20) h rfl (fun _ h=>?_) (fun _ h=>?_)
   ·(iterate 10 refine g5 ?_);exact ⟨true,(),h,sP⟩
   ·(iterate 4 refine g5 ?_);refine xG (d:=24) h rfl (fun _ h=>?_) (fun _ h=>?_)
    ·(iterate 6 refine g5 ?_);exact ⟨(!decide (e1.kind = 2)),(),h,sP⟩
    ·(iterate 6 refine g5 ?_);exact ⟨false,(),h,sP⟩
 ·rintro v4 _ h;refine xD h rfl (fun _ h=>?_) (fun _ h=>?_)
  ·(iterate 4 refine g5 ?_);refine wX ?_;cases h;exact xT
  ·(iterate 3 refine g5 ?_);refine wJ (zF h) (fun (v11:Bool) (_:Unit)=>⟨91,[(1,.ref 1 0),(59,.d (.v (.bool v11)))],[(1,.cells 108 [.d (.v (.int .u16 e1.dot.dev)),.d (.v (.int .u64 e1.dot.n)),.d (.v (.int .u8 e1.kind)),.d (.v (.int .u64 e1.cid)),.d (.v (.int .u8 e1.field)),.d (.v (.string e1.text)),.d (.sl (List.map DT.e e1.kills))])]⟩) (fun h=>?_) ?_
   ·(iterate 5 refine g5 ?_);refine xG (d:=33) h rfl (fun _ h=>?_) (fun _ h=>?_)
    ·(iterate 2 refine g5 ?_);obtain ⟨v13,hy14,h⟩:=zI h;refine wt (cN (xJa e1.field v13 hy14) rfl call114 rfl rfl rfl rfl) ?_;(iterate 2 refine g5 ?_);refine xG (d:=38) h rfl (fun _ h=>?_) (fun _ h=>?_)
     ·(iterate 8 refine g5 ?_);refine wy (tl:=[(1,_),(45,_),(46,_)]) (to:=[(1,_)]) ?_;(iterate 14 refine g5 ?_);exact ⟨true,(),h,sP⟩
     ·(iterate 2 refine g5 ?_);obtain ⟨v16,hy17,h⟩:=zI h;refine wt (cN (xKa e1.text v16 hy17) rfl call115 rfl rfl rfl rfl) ?_;(iterate 4 refine g5 ?_);refine xG (d:=45) h rfl (fun _ h=>?_) (fun _ h=>?_)
      ·refine wy (tl:=[(1,_),(45,_)]) (to:=[(1,_)]) ?_;(iterate 15 refine g5 ?_);exact ⟨true,(),h,sP⟩
      ·refine wy (tl:=[(1,_),(45,_)]) (to:=[(1,_)]) ?_;(iterate 4 refine g5 ?_);refine xG (d:=49) h rfl (fun _ h=>?_) (fun _ h=>?_)
       ·(iterate 4 refine g5 ?_);refine xG (d:=53) h rfl (fun _ h=>?_) (fun _ h=>?_)
        ·(iterate 7 refine g5 ?_);exact ⟨true,(),h,sP⟩
        ·(iterate 7 refine g5 ?_);exact ⟨(!decide (e1.text = (⟨#[]⟩:ByteArray))),(),h,sP⟩
       ·(iterate 11 refine g5 ?_);exact ⟨false,(),h,sP⟩
    ·(iterate 14 refine g5 ?_);refine wy (tl:=[(1,_),(45,_),(47,_)]) (to:=[(1,_)]) ?_;(iterate 2 refine g5 ?_);refine xG (d:=49) h rfl (fun _ h=>?_) (fun _ h=>?_)
     ·(iterate 4 refine g5 ?_);refine xG (d:=53) h rfl (fun _ h=>?_) (fun _ h=>?_)
      ·(iterate 7 refine g5 ?_);exact ⟨true,(),h,sP⟩
      ·(iterate 7 refine g5 ?_);exact ⟨(!decide (e1.text = (⟨#[]⟩:ByteArray))),(),h,sP⟩
     ·(iterate 11 refine g5 ?_);exact ⟨false,(),h,sP⟩
   ·rintro v11 _ h;refine xD h rfl (fun _ h=>?_) (fun _ h=>?_)
    ·(iterate 4 refine g5 ?_);refine wX ?_;cases h;exact xT
    ·(iterate 6 refine g5 ?_);refine PWc.jnX (zF h) (fun (_:Unit) (_:Unit)=>⟨91,[(1,.ref 1 0)],[(1,.cells 108 [.d (.v (.int .u16 e1.dot.dev)),.d (.v (.int .u64 e1.dot.n)),.d (.v (.int .u8 e1.kind)),.d (.v (.int .u64 e1.cid)),.d (.v (.int .u8 e1.field)),.d (.v (.string e1.text)),.d (.sl (List.map DT.e e1.kills))])]⟩) (fun h=>?_) ?_
     ·refine g5 ?_;refine wM (fun (i37:Int) (_:Unit)=>⟨91,[(1,.ref 1 0),(5,.d (.v (.int .i64 i37)))],[(1,.cells 108 [.d (.v (.int .u16 e1.dot.dev)),.d (.v (.int .u64 e1.dot.n)),.d (.v (.int .u8 e1.kind)),.d (.v (.int .u64 e1.cid)),.d (.v (.int .u8 e1.field)),.d (.v (.string e1.text)),.d (.sl (List.map DT.e e1.kills))])]⟩) () h (sP) ?_;rintro N i37 _ h;(iterate 9 refine g5 ?_);refine xD h rfl (fun _ h=>?_) (fun _ h=>?_)
      ·(iterate 8 refine g5 ?_);obtain ⟨x39,hy40,h⟩:=yF h;refine ws (iX (enc:=DT.e) (L:=e1.kills) (y:=x39) underlying106 sizeOf105 rfl rfl hy40 (fun _=>rfl)) ?_;refine g5 ?_;obtain ⟨v41,hy42,h⟩:=zI h;refine xN (ZI x39 v41 hy42) call113 ?_;(iterate 2 refine g5 ?_);refine xD h rfl (fun _ h=>?_) (fun _ h=>?_)
       ·(iterate 4 refine g5 ?_);refine wX ?_;cases h;exact xT
       ·(iterate 6 refine g5 ?_);exact ⟨(IntKind.i64.wrap (i37 + 1)),(),h,sP⟩
      ·refine wZ ?_;exact ⟨(),(),h,sP⟩
     ·rintro _ _ h;refine g5 ?_;refine wJ (zF h) (fun (v44:Bool) (_:Unit)=>⟨91,[(2,.d (.v (.bool v44)))],[]⟩) (fun h=>?_) ?_
      ·(iterate 6 refine g5 ?_);refine xG (d:=78) h rfl (fun _ h=>?_) (fun _ h=>?_)
       ·(iterate 2 refine g5 ?_);obtain ⟨v46,hy47,h⟩:=zI h;refine wt (cN (Qo e1.kills v46 hy47) rfl call116 rfl rfl rfl rfl) ?_;(iterate 2 refine g5 ?_);refine xG (d:=83) h rfl (fun _ h=>?_) (fun _ h=>?_)
        ·(iterate 4 refine g5 ?_);obtain ⟨v49,hy50,h⟩:=zI h;refine wt (cN (qf e1.kills e1.dot v49 hy50) rfl call117 rfl rfl rfl rfl) ?_;(iterate 4 refine g5 ?_);exact ⟨(!v49),(),h,sP⟩
        ·(iterate 9 refine g5 ?_);exact ⟨false,(),h,sP⟩
       ·(iterate 14 refine g5 ?_);exact ⟨false,(),h,sP⟩
      ·rintro v44 _ h;refine wX ?_;cases h;exact xT


theorem WQ (c1:List PT) (d2:DT) (r0:Bool) (h:(Wr c1 d2).wp (· = r0)):PFun prog 81 [.d (.sl (List.map PT.e c1)),.agg (List.map .d (DT.e d2))] (.d (.v (.bool r0))):=by
 refine fI (sl:=[(0,_),(1,_)]) func81 rfl ntmps81 rfl rfl ?_;intro ctx hK;(iterate 6 refine g5 ?_);refine wJ (zF h) (fun (v3:Bool) (_:Unit)=>⟨16,[(4,.d (.v (.bool v3)))],[]⟩) (fun h=>?_) ?_
 ·refine g5 ?_;refine h5 ?_;obtain ⟨v4,hy5,h⟩:=zI h;refine qs (fun _ U W=>cN (ZI d2 v4 hy5) U call113 (vu (fun a b=>U a b) rfl rfl) rfl rfl rfl) ?_;refine h5 ?_;refine xQ (d:=7) h rfl (fun _ h=>?_) (fun _ h=>?_)
  ·(iterate 3 refine h5 ?_);obtain ⟨v7,hy8,h⟩:=zI h;refine qt (fun _ U W=>cN (Yu c1 d2.dev v7 hy8) U call78 (vu (fun a b=>U a b) rfl rfl) rfl rfl rfl) ?_;(iterate 2 refine h5 ?_);obtain ⟨v9,hy10,h⟩:=zI h;refine qt (fun _ U W=>cN (US v7 d2.n v9 hy10) U call118 (vu (fun a b=>U a b) rfl rfl) rfl rfl rfl) ?_;(iterate 3 refine h5 ?_);exact ⟨v9,(),h,sP⟩
  ·(iterate 10 refine h5 ?_);exact ⟨false,(),h,sP⟩
 ·rintro v3 _ h;refine wX ?_;cases h;exact xT

theorem JL (l1:List EV) (d2:DT) (r0:Bool) (h:(VX l1 d2).wp (· = r0)):PFun prog 82 [.d (.sl (List.map EV.e l1)),.agg (List.map .d (DT.e d2))] (.d (.v (.bool r0))):=by
 refine fI (sl:=[(0,_),(1,_)]) func82 rfl ntmps82 rfl rfl ?_;intro ctx hK;(iterate 10 refine g5 ?_);refine PWc.jnX (zF h) (fun (_:Unit) (_:Unit)=>⟨19,[],[]⟩) (fun h=>?_) ?_
 ·refine g5 ?_;refine wM (fun (i_16:Int) (_:Unit)=>⟨19,[(0,.d (.sl (List.map EV.e l1))),(3,.ref 3 0),(5,.d (.v (.int .i64 i_16)))],[(3,.cells 105 [.d (.v (.int .u16 d2.dev)),.d (.v (.int .u64 d2.n))])]⟩) () h (sP) ?_;rintro N i_16 _ h;(iterate 8 refine g5 ?_);refine xD h rfl (fun _ h=>?_) (fun _ h=>?_)
  ·(iterate 5 refine g5 ?_);(iterate 2 refine h5 ?_);obtain ⟨x18,hy19,h⟩:=yF h;refine qs (fun _ U W=>iX (enc:=EV.e) (L:=l1) (y:=x18) underlying28 sizeOf108 U U hy19 (fun _=>rfl)) ?_;(iterate 3 refine h5 ?_);obtain ⟨v20,hy21,h⟩:=zI h;refine qs (fun _ U W=>cN (qf x18.kills d2 v20 hy21) U call117 (vu (fun a b=>U a b) rfl rfl) rfl rfl rfl) ?_;refine h5 ?_;refine xD h rfl (fun _ h=>?_) (fun _ h=>?_)
   ·(iterate 4 refine g5 ?_);refine wX ?_;cases h;exact xT
   ·(iterate 6 refine g5 ?_);exact ⟨(IntKind.i64.wrap (i_16 + 1)),(),h,sP⟩
  ·refine wZ ?_;exact ⟨(),(),h,sP⟩
 ·rintro _ _ h;(iterate 4 refine g5 ?_);refine wX ?_;cases h;exact xT

theorem xLa (l1:List DT) (c2:List PT) (r0:List DT) (h:(jH l1 c2).wp (· = r0)):PFun prog 83 [.d (.sl (List.map DT.e l1)),.d (.sl (List.map PT.e c2))] (.d (.sl (List.map DT.e r0))):=by
 refine fI (sl:=[(0,_),(1,_)]) func83 rfl ntmps83 rfl rfl ?_;intro ctx hK;(iterate 2 refine g5 ?_);refine ws (aR 105 2 rfl) ?_;(iterate 3 refine g5 ?_);refine ws (aR 105 2 rfl) ?_;(iterate 6 refine g5 ?_);refine wJ (zF h) (fun (out3:List DT) (_:Unit)=>⟨27,[(5,.d (.sl (List.map DT.e out3)))],[]⟩) (fun h=>?_) ?_
 ·refine g5 ?_;refine wM (fun (⟨out28,i29⟩:List DT × Int) (_:Unit)=>⟨27,[(0,.d (.sl (List.map DT.e l1))),(1,.d (.sl (List.map PT.e c2))),(5,.d (.sl (List.map DT.e out28))),(6,.d (.v (.int .i64 i29)))],[]⟩) () h (Sub.trans (Sub.frz [5] hK rfl (by first | (simp;done) | (simp;omega) | omega) (AllRow.get (.cons rfl<|.nil)))<|sP) ?_;rintro N ⟨out28,i29⟩ _ h;(iterate 8 refine g5 ?_);refine xD h rfl (fun _ h=>?_) (fun _ h=>?_)
  ·(iterate 2 refine g5 ?_);refine wJ (zF h) (fun (out31:List DT) (_:Unit)=>⟨27,[(0,.d (.sl (List.map DT.e l1))),(1,.d (.sl (List.map PT.e c2))),(5,.d (.sl (List.map DT.e out31))),(6,.d (.v (.int .i64 i29)))],[]⟩) (fun h=>?_) ?_
   ·(iterate 6 refine g5 ?_);obtain ⟨x32,hy33,h⟩:=yF h;refine ws (iX (enc:=DT.e) (L:=l1) (y:=x32) underlying106 sizeOf105 rfl rfl hy33 (fun _=>rfl)) ?_;refine g5 ?_;obtain ⟨v34,hy35,h⟩:=zI h;refine xN (WQ c2 x32 v34 hy35) call81 ?_;(iterate 2 refine g5 ?_);refine xD h rfl (fun _ h=>?_) (fun _ h=>?_)
    ·(iterate 4 refine g5 ?_);obtain ⟨x37,hy38,h⟩:=yF h;refine ws (iX (enc:=DT.e) (L:=l1) (y:=x37) underlying106 sizeOf105 rfl rfl hy38 (fun _=>rfl)) ?_;refine g5 ?_;obtain ⟨v39,hy40,h⟩:=zI h;refine ws (LR.rowN (YI out28 x37 v39 hy40) rfl call119 rfl rfl rfl rfl)<|wy (tl:=[(0,_),(1,_),(5,_),(6,_),(25,_)]) (to:=[(25,_)]) ?_;(iterate 2 refine g5 ?_);exact ⟨v39,(),h,Sub.trans (Sub.frz [5,25] hK rfl (by simp) (AllRow.get (.cons rfl<|.cons rfl<|.nil)))<|sP⟩
    ·refine g5 ?_;exact ⟨out28,(),h,sP⟩
   ·rintro out31 _ h;(iterate 5 refine g5 ?_);exact ⟨(out31,(IntKind.i64.wrap (i29 + 1))),(),h,sP⟩
  ·refine wZ ?_;exact ⟨out28,(),h,sP⟩
 ·rintro out3 _ h;(iterate 5 refine g5 ?_);refine wX ?_;cases h;exact xT

theorem xMa (l1:List EV) (r0:List DT) (h:(jI l1).wp (· = r0)):PFun prog 84 [.d (.sl (List.map EV.e l1))] (.d (.sl (List.map DT.e r0))):=by
 refine fI (sl:=[(0,_)]) func84 rfl ntmps84 rfl rfl ?_;intro ctx hK;(iterate 2 refine g5 ?_);refine ws (aR 105 2 rfl) ?_;(iterate 3 refine g5 ?_);refine ws (aR 105 2 rfl) ?_;(iterate 6 refine g5 ?_);refine wJ (zF h) (fun (out2:List DT) (_:Unit)=>⟨40,[(3,.d (.sl (List.map DT.e out2)))],[]⟩) (fun h=>?_) ?_
 ·refine g5 ?_;refine wM (fun (⟨out79,i80⟩:List DT × Int) (_:Unit)=>⟨40,[(0,.d (.sl (List.map EV.e l1))),(3,.d (.sl (List.map DT.e out79))),(4,.d (.v (.int .i64 i80)))],[]⟩) () h (Sub.trans (Sub.frz [3] hK rfl (by first | (simp;done) | (simp;omega) | omega) (AllRow.get (.cons rfl<|.nil)))<|sP) ?_;rintro N ⟨out79,i80⟩ _ h;(iterate 8 refine g5 ?_);refine xD h rfl (fun _ h=>?_) (fun _ h=>?_)
  ·(iterate 2 refine g5 ?_);refine wJ (zF h) (fun (out82:List DT) (_:Unit)=>⟨40,[(0,.d (.sl (List.map EV.e l1))),(3,.d (.sl (List.map DT.e out82))),(4,.d (.v (.int .i64 i80)))],[]⟩) (fun h=>?_) ?_
   ·(iterate 6 refine g5 ?_);obtain ⟨x83,hy84,h⟩:=yF h;refine ws (iX (enc:=EV.e) (L:=l1) (y:=x83) underlying28 sizeOf108 rfl rfl hy84 (fun _=>rfl)) ?_;(iterate 2 refine g5 ?_);obtain ⟨v85,hy86,h⟩:=zI h;refine ws (LR.rowN (YI out79 x83.dot v85 hy86) rfl call119 rfl rfl rfl rfl) ?_;(iterate 7 refine g5 ?_);refine wM (fun (⟨out107,k108⟩:List DT × Int) (_:Unit)=>⟨40,[(0,.d (.sl (List.map EV.e l1))),(3,.d (.sl (List.map DT.e out107))),(4,.d (.v (.int .i64 i80))),(5,.d (.v (.int .i64 k108)))],[]⟩) () h (Sub.trans (Sub.frz [3,18] hK rfl (by simp) (AllRow.get (.cons rfl<|.cons rfl<|.nil)))<|sP) ?_;rintro N ⟨out107,k108⟩ _ h;(iterate 6 refine g5 ?_);obtain ⟨x109,hy110,h⟩:=yF h;refine ws (iX (enc:=EV.e) (L:=l1) (y:=x109) underlying28 sizeOf108 rfl rfl hy110 (fun _=>rfl)) ?_;(iterate 5 refine g5 ?_);refine xD h rfl (fun _ h=>?_) (fun _ h=>?_)
    ·(iterate 7 refine g5 ?_);obtain ⟨x112,hy113,h⟩:=yF h;refine ws (iX (enc:=EV.e) (L:=l1) (y:=x112) underlying28 sizeOf108 rfl rfl hy113 (fun _=>rfl)) ?_;(iterate 3 refine g5 ?_);obtain ⟨x114,hy115,h⟩:=yF h;refine ws (iX (enc:=DT.e) (L:=x112.kills) (y:=x114) underlying106 sizeOf105 rfl rfl hy115 (fun _=>rfl)) ?_;refine g5 ?_;refine wy (tl:=[(0,_),(3,_),(4,_),(5,_),(29,_),(37,_)]) (to:=[]) ?_;obtain ⟨v116,hy117,h⟩:=zI h;refine ws (LR.rowN (YI out107 x114 v116 hy117) rfl call119 rfl rfl rfl rfl) ?_;(iterate 7 refine g5 ?_);exact ⟨(v116,(IntKind.i64.wrap (k108 + 1))),(),h,Sub.trans (Sub.frz [3,38] hK rfl (by simp) (AllRow.get (.cons rfl<|.cons rfl<|.nil)))<|sP⟩
    ·refine wZ ?_;exact ⟨out107,(),h,sP⟩
   ·rintro out82 _ h;(iterate 5 refine g5 ?_);exact ⟨(out82,(IntKind.i64.wrap (i80 + 1))),(),h,sP⟩
  ·refine wZ ?_;exact ⟨out79,(),h,sP⟩
 ·rintro out2 _ h;(iterate 5 refine g5 ?_);refine wX ?_;cases h;exact xT

theorem Wz (d1:DL) (r0:Bool) (h:(Zf d1).wp (· = r0)):PFun prog 39 [.agg (List.map .d (DL.e d1))] (.d (.v (.bool r0))):=by
 refine fI (sl:=[(0,_)]) func39 rfl ntmps39 rfl rfl ?_;intro ctx hK;(iterate 7 refine g5 ?_);refine wJ (zF h) (fun (v2:Bool) (_:Unit)=>⟨88,[(1,.ref 1 0),(28,.d (.v (.bool v2)))],[(1,.cells 30 [.d (.sl (List.map PT.e d1.from_)),.d (.sl (List.map PT.e d1.to_)),.d (.sl (List.map EV.e d1.events))])]⟩) (fun h=>?_) ?_
 ·(iterate 3 refine g5 ?_);obtain ⟨v3,hy4,h⟩:=zI h;refine xN (wn d1.from_ v3 hy4) call36 ?_;(iterate 2 refine g5 ?_);refine xG (d:=9) h rfl (fun _ h=>?_) (fun _ h=>?_)
  ·(iterate 12 refine g5 ?_);refine wy (tl:=[(1,_),(15,_),(21,_)]) (to:=[(1,_)]) ?_;(iterate 8 refine g5 ?_);exact ⟨true,(),h,sP⟩
  ·(iterate 2 refine g5 ?_);obtain ⟨v6,hy7,h⟩:=zI h;refine wt (cN (wn d1.to_ v6 hy7) rfl call36 rfl rfl rfl rfl) ?_;(iterate 3 refine g5 ?_);refine xG (d:=15) h rfl (fun _ h=>?_) (fun _ h=>?_)
   ·(iterate 5 refine g5 ?_);refine wy (tl:=[(1,_),(15,_),(20,_)]) (to:=[(1,_)]) ?_;(iterate 9 refine g5 ?_);exact ⟨true,(),h,sP⟩
   ·(iterate 4 refine g5 ?_);obtain ⟨v9,hy10,h⟩:=zI h;refine wt (cN (Yx d1.from_ d1.to_ v9 hy10) rfl call38 rfl rfl rfl rfl)<|wy (tl:=[(1,_),(15,_),(20,_)]) (to:=[(1,_)]) ?_;(iterate 3 refine g5 ?_);refine xG (d:=23) h rfl (fun _ h=>?_) (fun _ h=>?_)
    ·(iterate 6 refine g5 ?_);exact ⟨true,(),h,sP⟩
    ·(iterate 6 refine g5 ?_);exact ⟨(decide (4096 < (d1.events.length:Int))),(),h,sP⟩
 ·rintro v2 _ h;refine xD h rfl (fun _ h=>?_) (fun _ h=>?_)
  ·(iterate 4 refine g5 ?_);refine wX ?_;cases h;exact xT
  ·(iterate 6 refine g5 ?_);refine PWc.jnX (zF h) (fun (_:Unit) (_:Unit)=>⟨88,[(1,.ref 1 0)],[(1,.cells 30 [.d (.sl (List.map PT.e d1.from_)),.d (.sl (List.map PT.e d1.to_)),.d (.sl (List.map EV.e d1.events))])]⟩) (fun h=>?_) ?_
   ·refine g5 ?_;refine wM (fun (i66:Int) (_:Unit)=>⟨88,[(1,.ref 1 0),(3,.d (.v (.int .i64 i66)))],[(1,.cells 30 [.d (.sl (List.map PT.e d1.from_)),.d (.sl (List.map PT.e d1.to_)),.d (.sl (List.map EV.e d1.events))])]⟩) () h (sP) ?_;rintro N i66 _ h;(iterate 9 refine g5 ?_);refine xD h rfl (fun _ h=>?_) (fun _ h=>?_)
    ·(iterate 8 refine g5 ?_);obtain ⟨x68,hy69,h⟩:=yF h;refine ws (iX (enc:=EV.e) (L:=d1.events) (y:=x68) underlying28 sizeOf108 rfl rfl hy69 (fun _=>rfl)) ?_;(iterate 5 refine g5 ?_);refine wJ (zF h) (fun (v70:Bool) (_:Unit)=>⟨88,[(1,.ref 1 0),(3,.d (.v (.int .i64 i66))),(79,.d (.v (.bool v70)))],[(1,.cells 30 [.d (.sl (List.map PT.e d1.from_)),.d (.sl (List.map PT.e d1.to_)),.d (.sl (List.map EV.e d1.events))])]⟩) (fun h=>?_) ?_
     ·refine g5 ?_;refine h5 ?_;obtain ⟨v71,hy72,h⟩:=zI h;refine qs (fun _ U W=>cN (Wy x68 v71 hy72) U call80 (vu (fun a b=>U a b) rfl rfl) rfl rfl rfl) ?_;(iterate 2 refine h5 ?_);refine xQ (d:=44) h rfl (fun _ h=>?_) (fun _ h=>?_)
      ·(iterate 19 refine h5 ?_);refine kK (tl:=[(1,_),(3,_),(4,_),(45,_),(46,_),(47,_),(48,_),(49,_),(50,_),(51,_),(52,_),(53,_),(54,_),(55,_),(56,_),(57,_),(58,_),(59,_),(61,_),(62,_),(63,_)]) ?_;(iterate 17 refine h5 ?_);exact ⟨true,(),h,sP⟩
      ·(iterate 3 refine h5 ?_);refine xQ (d:=47) h rfl (fun _ h=>?_) (fun _ h=>?_)
       ·(iterate 4 refine h5 ?_);obtain ⟨x75,hy76,h⟩:=yF h;refine qt (fun _ U W=>iX (enc:=EV.e) (L:=d1.events) (y:=x75) underlying28 sizeOf108 U U hy76 (fun _=>rfl)) ?_;(iterate 4 refine h5 ?_);obtain ⟨v77,hy78,h⟩:=zI h;refine qt (fun _ U W=>cN (vY x75.dot x68.dot v77 hy78) U call71 (vu (fun a b=>U a b) rfl rfl) rfl rfl rfl) ?_;(iterate 4 refine h5 ?_);refine xQ (d:=61) h rfl (fun _ h=>?_) (fun _ h=>?_)
        ·refine kK (tl:=[(1,_),(3,_),(4,_),(45,_),(46,_),(47,_),(48,_),(49,_),(50,_),(51,_),(52,_),(53,_),(54,_),(55,_),(56,_),(57,_),(58,_),(59,_),(61,_)]) ?_;(iterate 19 refine h5 ?_);exact ⟨true,(),h,sP⟩
        ·refine kK (tl:=[(1,_),(3,_),(4,_),(45,_),(46,_),(47,_),(48,_),(49,_),(50,_),(51,_),(52,_),(53,_),(54,_),(55,_),(56,_),(57,_),(58,_),(59,_),(61,_)]) ?_;(iterate 4 refine h5 ?_);obtain ⟨v80,hy81,h⟩:=zI h;refine qt (fun _ U W=>cN (WQ d1.from_ x68.dot v80 hy81) U call81 (vu (fun a b=>U a b) rfl rfl) rfl rfl rfl) ?_;(iterate 2 refine h5 ?_);refine xQ (d:=68) h rfl (fun _ h=>?_) (fun _ h=>?_)
         ·(iterate 12 refine h5 ?_);exact ⟨true,(),h,sP⟩
         ·(iterate 4 refine h5 ?_);refine xQ (d:=72) h rfl (fun _ h=>?_) (fun _ h=>?_)
          ·(iterate 4 refine h5 ?_);obtain ⟨v84,hy85,h⟩:=zI h;refine qt (fun _ U W=>cN (JL d1.events x68.dot v84 hy85) U call82 (vu (fun a b=>U a b) rfl rfl) rfl rfl rfl) ?_;(iterate 3 refine h5 ?_);exact ⟨v84,(),h,sP⟩
          ·(iterate 8 refine h5 ?_);exact ⟨false,(),h,sP⟩
       ·(iterate 15 refine h5 ?_);refine kK (tl:=[(1,_),(3,_),(4,_),(45,_),(46,_),(47,_),(48,_),(49,_),(50,_),(51,_),(52,_),(53,_),(54,_),(55,_),(56,_),(57,_),(58,_),(59,_),(61,_),(62,_)]) ?_;(iterate 3 refine h5 ?_);obtain ⟨v86,hy87,h⟩:=zI h;refine qt (fun _ U W=>cN (WQ d1.from_ x68.dot v86 hy87) U call81 (vu (fun a b=>U a b) rfl rfl) rfl rfl rfl) ?_;(iterate 2 refine h5 ?_);refine xQ (d:=68) h rfl (fun _ h=>?_) (fun _ h=>?_)
        ·(iterate 12 refine h5 ?_);exact ⟨true,(),h,sP⟩
        ·(iterate 4 refine h5 ?_);refine xQ (d:=72) h rfl (fun _ h=>?_) (fun _ h=>?_)
         ·(iterate 4 refine h5 ?_);obtain ⟨v90,hy91,h⟩:=zI h;refine qt (fun _ U W=>cN (JL d1.events x68.dot v90 hy91) U call82 (vu (fun a b=>U a b) rfl rfl) rfl rfl rfl) ?_;(iterate 3 refine h5 ?_);exact ⟨v90,(),h,sP⟩
         ·(iterate 8 refine h5 ?_);exact ⟨false,(),h,sP⟩
     ·rintro v70 _ h;refine xD h rfl (fun _ h=>?_) (fun _ h=>?_)
      ·(iterate 4 refine g5 ?_);refine wX ?_;cases h;exact xT
      ·(iterate 6 refine g5 ?_);exact ⟨(IntKind.i64.wrap (i66 + 1)),(),h,sP⟩
    ·refine wZ ?_;exact ⟨(),(),h,sP⟩
   ·rintro _ _ h;(iterate 2 refine g5 ?_);(iterate 2 refine h5 ?_);obtain ⟨v93,hy94,h⟩:=zI h;refine qs (fun _ U W=>cN (xMa d1.events v93 hy94) U call84 (vu (fun a b=>U a b) rfl rfl) rfl rfl rfl) ?_;(iterate 2 refine h5 ?_);obtain ⟨v95,hy96,h⟩:=zI h;refine qs (fun _ U W=>cN (xLa v93 d1.to_ v95 hy96) U call83 (vu (fun a b=>U a b) rfl rfl) rfl rfl rfl) ?_;refine qs (fun _ U W=>lM (enc:=DT.e) (L:=v95) underlying106 U) ?_;(iterate 3 refine h5 ?_);refine wX ?_;cases h;exact xT
end Go.Proofs


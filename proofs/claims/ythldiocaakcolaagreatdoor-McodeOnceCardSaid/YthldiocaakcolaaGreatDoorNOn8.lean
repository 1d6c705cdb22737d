/- Side texts. -/
import Derived.Test.YthldiocaakcolaaGreatDoorNOn2
import Derived.Test.YthldiocaakcolaaGreatDoorNOn3
import Derived.Test.YthldiocaakcolaaGreatDoorNOn4
import Derived.Test.YthldiocaakcolaaGreatDoorNOn5
import Derived.Test.YthldiocaakcolaaGreatDoorNOn6
import Derived.Test.YthldiocaakcolaaGreatDoorNOn7
set_option linter.unusedVariables false
set_option linter.unusedSimpArgs false
namespace Go.Proofs
open Go.Ep Tryz
set_option maxHeartbeats 1000000
set_option maxRecDepth 100000
set_option linter.unusedVariables false
set_option linter.unusedSimpArgs false


theorem wb (n1:Int) (b_2:List Int) (bad_3:Int) (r0:List Int × List Int × Int) (h:(yY n1 b_2 bad_3).wp (· = r0)):PObj prog 90 [.ref 100 0,.d (.v (.int .i64 n1))] [(100,.cells 90 [.d (.sl (List.map (eK .u8) b_2)),.d (.v (.int .i64 bad_3))])] [100] (.d (.sl (List.map (eK .u8) r0.1))) (fun _:Unit=>[(100,.cells 90 [.d (.sl (List.map (eK .u8) r0.2.1)),.d (.v (.int .i64 r0.2.2))])]):=by
 refine PObj.intro (sl:=[(0,_),(1,_)]) func90 rfl ntmps90 rfl rfl rfl ?_;intro ctx hK pv;refine wQ<|wR<|ws (aR 5 1 rfl)<|wN<|wQ<|wR<|wm ?_;refine ws (LR.nilCheckRef rfl)<|ws (fR underlying88 rfl sizeOf22 (by decide) rfl rfl)<|ws (lD isAgg22 rfl rfl rfl)<|wm ?_;obtain ⟨hy4,h⟩:=zt h;refine ws (LR.cutHT (enc:=(eK .u8)) (L:=b_2) underlying22 sizeOf5 rfl (fun _=>rfl) rfl hy4)<|wa ?_;refine wN<|wQ<|wR<|wm ?_;refine wm ?_;refine ws (LR.nilCheckRef rfl)<|ws (fR underlying88 rfl sizeOf22 (by decide) rfl rfl)<|ws (lD isAgg22 rfl rfl rfl)<|wm ?_;obtain ⟨hy5,h⟩:=zt h;refine ws (LR.cutLT (enc:=(eK .u8)) (L:=b_2) underlying22 sizeOf5 rfl (fun _=>rfl) rfl hy5)<|ws (LR.nilCheckRef rfl)<|ws (fR underlying88 rfl sizeOf22 (by decide) rfl rfl)<|ws (sB (ns:=[_,_]) sizeOf22 rfl rfl rfl rfl rfl rfl rfl)<|wN<|wQ<|wR<|wm ?_;refine wy (tl:=[(0,_),(1,_),(5,_),(6,_),(7,_),(8,_),(9,_),(10,_),(11,_),(12,_),(13,_),(14,_),(15,_),(16,_),(17,_),(18,_),(19,_),(20,_),(21,_)]) (to:=[(100,_),(1100,_)]) ?_;refine wa ?_;refine wN<|wX ?_;cases h;exact EndsO.mk () (.inr rfl) (sP (tl:=[(4,_)]) (to:=[(100,_),(1100,_)])) (.cons (.tmp rfl)<|.nil) rfl rfl

theorem yj (b_1:List Int) (bad_2:Int) (r0:Int × List Int × Int) (h:(zd b_1 bad_2).wp (· = r0)):PObj prog 52 [.ref 100 0] [(100,.cells 90 [.d (.sl (List.map (eK .u8) b_1)),.d (.v (.int .i64 bad_2))])] [100] (.d (.v (.int .u8 r0.1))) (fun _:Unit=>[(100,.cells 90 [.d (.sl (List.map (eK .u8) r0.2.1)),.d (.v (.int .i64 r0.2.2))])]):=by
 refine PObj.intro (sl:=[(0,_)]) func52 rfl ntmps52 rfl rfl rfl ?_;intro ctx hK pv;refine wQ<|wR<|wa ?_;refine wN<|wQ<|wQ<|wR<|wm ?_;obtain ⟨y3,hy4,h⟩:=zP h;refine xO [(100,100)] [] [100] (zY b_1 bad_2 y3 hy4) call60<|ws (nQ rfl rfl)<|wN ?_;refine xD h rfl (fun _ h=>?_) (fun _ h=>?_)
 ·refine wQ<|wz (tl:=[]) (to:=[(100,_),(1100,_)]) ?_;refine wR<|wa ?_;refine wN<|wX ?_;cases h;exact EndsO.mk () (.inr rfl) (sP (tl:=[(2,_)]) (to:=[(100,_),(1100,_)])) (.cons (.tmp rfl)<|.nil) rfl rfl
 ·refine wK<|wQ<|wQ<|wz (tl:=[(0,_)]) (to:=[(100,_),(1100,_)]) ?_;refine wR<|wm ?_;obtain ⟨y6,hy7,h⟩:=zP h;refine xO [(100,100)] [] [100] (xR y3.2.1 y3.2.2 y6 hy7) call58<|ws (eQ rfl rfl)<|wN ?_;refine xD h rfl (fun _ h=>?_) (fun _ h=>?_)
  ·refine wQ<|wz (tl:=[(0,_)]) (to:=[(100,_),(1100,_)]) ?_;refine wR<|wm ?_;obtain ⟨y9,hy10,h⟩:=zP h;refine xO [(100,100)] [] [100] (zI 2 y6.2.1 y6.2.2 y9 hy10) call59<|wN<|wQ<|wz (tl:=[]) (to:=[(100,_),(1100,_)]) ?_;refine wR<|wa ?_;refine wN<|wX ?_;cases h;exact EndsO.mk () (.inr rfl) (sP (tl:=[(2,_)]) (to:=[(100,_),(1100,_)])) (.cons (.tmp rfl)<|.nil) rfl rfl
  ·refine wK<|wQ<|wz (tl:=[(0,_)]) (to:=[(100,_),(1100,_)]) ?_;refine wR<|wm ?_;refine ws (LR.nilCheckRef rfl)<|ws (fR underlying90 rfl sizeOf88 (by decide) rfl rfl) ?_;obtain ⟨y11,hy12,h⟩:=zP h;refine xO [(100,100)] [] [100] (wb 1 y6.2.1 y6.2.2 y11 hy12) call90 ?_;obtain ⟨x13,hy14,h⟩:=vI h;refine ws (iX (enc:=(eK .u8)) (L:=y11.1) (y:=x13) underlying22 sizeOf5 rfl rfl hy14 (fun _=>rfl))<|ws (LR.loadEp isAgg5 rfl rfl)<|wa ?_;refine wN<|wX ?_;cases h;exact EndsO.mk () (.inr rfl) (sP (tl:=[(2,_)]) (to:=[(100,_),(1100,_)])) (.cons (.tmp rfl)<|.nil) rfl rfl

theorem zQ (b_1:List Int) (bad_2:Int) (r0:Int × List Int × Int) (h:(zJ b_1 bad_2).wp (· = r0)):PObj prog 53 [.ref 100 0] [(100,.cells 90 [.d (.sl (List.map (eK .u8) b_1)),.d (.v (.int .i64 bad_2))])] [100] (.d (.v (.int .u64 r0.1))) (fun _:Unit=>[(100,.cells 90 [.d (.sl (List.map (eK .u8) r0.2.1)),.d (.v (.int .i64 r0.2.2))])]):=by
 refine PObj.intro (sl:=[(0,_)]) func53 rfl ntmps53 rfl rfl rfl ?_;intro ctx hK pv;refine wQ<|wR<|wa ?_;refine wN<|wQ<|wQ<|wR<|wm ?_;obtain ⟨y3,hy4,h⟩:=zP h;refine xO [(100,100)] [] [100] (zY b_1 bad_2 y3 hy4) call60<|ws (nQ rfl rfl)<|wN ?_;refine xD h rfl (fun _ h=>?_) (fun _ h=>?_)
 ·refine wQ<|wz (tl:=[]) (to:=[(100,_),(1100,_)]) ?_;refine wR<|wa ?_;refine wN<|wX ?_;cases h;exact EndsO.mk () (.inr rfl) (sP (tl:=[(2,_)]) (to:=[(100,_),(1100,_)])) (.cons (.tmp rfl)<|.nil) rfl rfl
 ·refine wK<|wQ<|wz (tl:=[(0,_)]) (to:=[(100,_),(1100,_)]) ?_;refine wR<|wm ?_;refine ws (LR.nilCheckRef rfl)<|ws (fR underlying90 rfl sizeOf88 (by decide) rfl rfl)<|ws (fR underlying88 rfl sizeOf22 (by decide) rfl rfl)<|ws (lD isAgg22 rfl rfl rfl) ?_;obtain ⟨v6,hy7,h⟩:=zP h;refine xN (yXa y3.2.1 0 v6 hy7) call91<|wm ?_;refine ws (LR.extract rfl rfl)<|ws (LR.extract rfl rfl)<|ws (LR.extract rfl rfl)<|wa ?_;refine wa ?_;refine wa ?_;refine wN<|wQ<|wQ<|wR<|wm ?_;refine ws (nQ rfl rfl)<|wN ?_;refine xD h rfl (fun _ h=>?_) (fun _ h=>?_)
  ·refine wQ<|wR<|wm ?_;refine wm ?_;obtain ⟨y9,hy10,h⟩:=zP h;refine xO [(100,100)] [] [100] (zI v6.2.2 y3.2.1 y3.2.2 y9 hy10) call59<|wN<|wQ<|wz (tl:=[]) (to:=[(100,_),(1100,_)]) ?_;refine wR<|wa ?_;refine wN<|wX ?_;cases h;exact EndsO.mk () (.inr rfl) (sP (tl:=[(2,_)]) (to:=[(100,_),(1100,_)])) (.cons (.tmp rfl)<|.nil) rfl rfl
  ·refine wK<|wQ<|wR<|wm ?_;refine ws (LR.nilCheckRef rfl)<|ws (fR underlying90 rfl sizeOf88 (by decide) rfl rfl)<|wm ?_;obtain ⟨y11,hy12,h⟩:=zP h;refine xO [(100,100)] [] [100] (wb v6.2.1 y3.2.1 y3.2.2 y11 hy12) call90<|wN<|wQ<|wz (tl:=[(3,_)]) (to:=[(100,_),(1100,_)]) ?_;refine wR<|wm ?_;refine wa ?_;refine wN<|wX ?_;cases h;exact EndsO.mk () (.inr rfl) (sP (tl:=[(2,_)]) (to:=[(100,_),(1100,_)])) (.cons (.tmp rfl)<|.nil) rfl rfl

theorem xS (most1:Int) (b_2:List Int) (bad_3:Int) (r0:Int × List Int × Int) (h:(yA most1 b_2 bad_3).wp (· = r0)):PObj prog 54 [.ref 100 0,.d (.v (.int .u64 most1))] [(100,.cells 90 [.d (.sl (List.map (eK .u8) b_2)),.d (.v (.int .i64 bad_3))])] [100] (.d (.v (.int .u64 r0.1))) (fun _:Unit=>[(100,.cells 90 [.d (.sl (List.map (eK .u8) r0.2.1)),.d (.v (.int .i64 r0.2.2))])]):=by
 refine PObj.intro (sl:=[(0,_),(1,_)]) func54 rfl ntmps54 rfl rfl rfl ?_;intro ctx hK pv;refine wQ<|wR<|wa ?_;refine wN<|wQ<|wR<|wm ?_;obtain ⟨y4,hy5,h⟩:=zP h;refine xO [(100,100)] [] [100] (zQ b_2 bad_3 y4 hy5) call53<|wa ?_;refine wN<|wQ<|wQ<|wz (tl:=[(0,_),(1,_),(5,_)]) (to:=[(100,_),(1100,_)]) ?_;refine wR<|wm ?_;refine wm ?_;refine ws (LR.gtr rfl rfl)<|wN ?_;refine xD h rfl (fun _ h=>?_) (fun _ h=>?_)
 ·refine wQ<|wR<|wm ?_;obtain ⟨y7,hy8,h⟩:=zP h;refine xO [(100,100)] [] [100] (zI 4 y4.2.1 y4.2.2 y7 hy8) call59<|wN<|wQ<|wz (tl:=[]) (to:=[(100,_),(1100,_)]) ?_;refine wR<|wa ?_;refine wN<|wX ?_;cases h;exact EndsO.mk () (.inr rfl) (sP (tl:=[(4,_)]) (to:=[(100,_),(1100,_)])) (.cons (.tmp rfl)<|.nil) rfl rfl
 ·refine wK<|wQ<|wR<|wm ?_;refine wa ?_;refine wN<|wX ?_;cases h;exact EndsO.mk () (.inr rfl) (sP (tl:=[(4,_)]) (to:=[(100,_),(1100,_)])) (.cons (.tmp rfl)<|.nil) rfl rfl

theorem jJ (b_1:List Int) (bad_2:Int) (r0:PT × List Int × Int) (h:(ZE b_1 bad_2).wp (· = r0)):PObj prog 92 [.ref 100 0] [(100,.cells 90 [.d (.sl (List.map (eK .u8) b_1)),.d (.v (.int .i64 bad_2))])] [100] (.agg (List.map .d (PT.e r0.1))) (fun _:Unit=>[(100,.cells 90 [.d (.sl (List.map (eK .u8) r0.2.1)),.d (.v (.int .i64 r0.2.2))])]):=by
 refine PObj.intro (sl:=[(0,_)]) func92 rfl ntmps92 rfl rfl rfl ?_;intro ctx hK pv;refine wQ<|wR<|ws (LR.allocZ (cs:=[_,_]) zeroValue101 rfl rfl rfl rfl)<|wN<|wQ<|wR<|wm ?_;obtain ⟨y3,hy4,h⟩:=zP h;refine xO [(100,100)] [] [100] (xS 65535 b_1 bad_2 y3 hy4) call54 ?_;refine ws (LR.convInt underlying25 (by rw [underlying24];rfl) rfl rfl) ?_;refine ws (LR.buildR (ns:=[_,_]) Jw rfl rfl rfl)<|ws (LR.allocZ (cs:=[_,_]) zeroValue101 rfl rfl rfl rfl)<|ws (sB (ns:=[_,_]) sizeOf101 rfl rfl rfl rfl rfl rfl rfl)<|PWl.sub (Sub.ownNil (id:=3) (j:=1) (id':=30061) (e:=103) (k:=2) rfl rfl rfl rfl)<|wN<|wQ<|wQ<|wz (tl:=[(0,_),(2,_),(3,_)]) (to:=[(2,_),(3,_),(100,_),(1100,_),(30061,_)]) ?_;refine wR<|wm ?_;obtain ⟨y5,hy6,h⟩:=zP h;refine xO [(100,100)] [] [100] (zQ y3.2.1 y3.2.2 y5 hy6) call53<|wm ?_;refine wN ?_;refine wJ (zR h) (fun (⟨v7,v8,v9⟩:List RN × List Int × Int) (_:Unit)=>⟨29,[(2,.ref 2 0),(3,.ref 3 0)],[(2,.cells 101 [.d (.v (.int .u16 0)),.d (.sl (List.map RN.e ([]:List RN)))]),(3,.cells 101 [.d (.v (.int .u16 (IntKind.u16.wrap y3.1))),.row 30061 (v7.length)]),(100,.cells 90 [.d (.sl (List.map (eK .u8) v8)),.d (.v (.int .i64 v9))]),(1100,.pin 100 (pv 100)),(30061,.row 103 2 (List.map RN.e v7))]⟩) (fun h=>?_) ?_
 ·refine wB<|wM (fun (⟨v32,v33,v34,v35⟩:Int × List RN × List Int × Int) (_:Unit)=>⟨29,[(0,.ref 100 0),(2,.ref 2 0),(3,.ref 3 0),(10,.d (.v (.int .u64 y5.1))),(11,.d (.v (.int .u64 v32)))],[(2,.cells 101 [.d (.v (.int .u16 0)),.d (.sl (List.map RN.e ([]:List RN)))]),(3,.cells 101 [.d (.v (.int .u16 (IntKind.u16.wrap y3.1))),.row 30061 (v33.length)]),(100,.cells 90 [.d (.sl (List.map (eK .u8) v34)),.d (.v (.int .i64 v35))]),(1100,.pin 100 (pv 100)),(30061,.row 103 2 (List.map RN.e v33))]⟩) () h (sP) ?_;rintro N ⟨v32,v33,v34,v35⟩ _ h;refine wQ<|wR<|ws (LR.lss rfl rfl)<|wN<|wQ ?_;refine xD h rfl (fun _ h=>?_) (fun _ h=>?_)
  ·refine wK<|wQ<|wB<|wQ<|wR<|wm ?_;obtain ⟨y37,hy38,h⟩:=zP h;refine xO [(100,100)] [] [100] (zQ v34 v35 y37 hy38) call53<|wa ?_;refine wN<|wQ<|wz (tl:=[(0,_),(2,_),(3,_),(4,_),(10,_),(11,_)]) (to:=[(2,_),(3,_),(100,_),(1100,_),(30061,_)]) ?_;refine PWc.regionE [⟨[15],[],[],[],[],[3],[],[]⟩,⟨[16],[],[3],[],[],[30061],[],[]⟩,{ws:=[17]},⟨[18],[],[],[],[],[100],[],[]⟩,⟨[19],[100],[100],[],[],[],[],[]⟩,{ws:=[20]},{ws:=[21]},⟨[16,22],[3,30061],[3,30061],[],[(30061,[16])],[30061],[],[3]⟩,⟨[23],[],[],[],[],[3],[],[]⟩,⟨[],[3],[3,30061],[],[],[],[30061],[]⟩] (by kernel_rfl) (by kernel_rfl) rfl ?_;refine kp (fun _ U W=>fR underlying101 rfl sizeOf99 (by decide) rfl U) ?_;refine kp (fun _ U W=>lD isAgg99 U (W rfl rfl) rfl)<|km ?_;refine km ?_;obtain ⟨y39,hy40,h⟩:=zP h;refine PQe.callObj [(100,100)] [] [100] (zQ y37.2.1 y37.2.2 y39 hy40) hK (fun _ U=>⟨U rfl rfl,yAa U rfl rfl⟩) call53 (by first | rfl | (simp;done) | (simp [PV.nilD,PV.ren,rn] <;> omega)) (.cons (by first | rfl | (congr 1;first | (simp;done) | (simp;omega) | omega))<|.nil) rfl rfl rfl rfl (.inl rfl) rfl ?_;refine kp (fun _ U W=>LR.build (ns:=[_,_]) UG rfl (evpE (fun a b=>U a b) rfl rfl) rfl) ?_;refine kp (fun _ U W=>LR.buildSliceD [.tmp 20] uy rfl rfl (.cons U rfl rfl<|.nil) (by decide) (by decide)) ?_;obtain ⟨hy41,h⟩:=zt h;refine PQe.stepX [16] (fun _ U W ha=>LR.appC (enc:=RN.e) (L:=v33) (R:=[(⟨y37.1,y39.1⟩:RN)]) (j:=1) [16] uy underlying99 (U rfl rfl) rfl (W rfl rfl) (W rfl rfl) rfl rfl (fun _ h1 h2=>Src.slT (enc:=RN.e) (R:=[(⟨y37.1,y39.1⟩:RN)]) (vYa h1 h2 (U rfl rfl)) (fun _=>rfl)) (fun _=>rfl) hy41 rfl ha) rfl rfl (.inl rfl) rfl ?_;refine kp (fun _ U W=>fR underlying101 rfl sizeOf99 (by decide) rfl U) ?_;refine ks (fun _ U W=>sB (ns:=[_,_]) sizeOf99 U U rfl rfl (W rfl rfl) rfl rfl)<|PQe.nil<|wQ<|wz (tl:=[(0,_),(2,_),(3,_),(10,_),(11,_)]) (to:=[(2,_),(3,_),(100,_),(1100,_),(30061,_)]) ?_;refine wR<|wm ?_;obtain ⟨y42,hy43,h⟩:=zP h;refine xO [(100,100)] [] [100] (zY y39.2.1 y39.2.2 y42 hy43) call60<|ws (nQ rfl rfl)<|wN ?_;refine xD h rfl (fun _ h=>?_) (fun _ h=>?_)
   ·refine wZ ?_;exact ⟨((v33 ++ [(⟨y37.1,y39.1⟩:RN)]),y42.2.1,y42.2.2),(),h,sP⟩
   ·refine wK<|wz (tl:=[(0,_),(2,_),(3,_),(10,_),(11,_)]) (to:=[(2,_),(3,_),(100,_),(1100,_),(30061,_)]) ?_;refine wR<|ws (LR.addW rfl rfl)<|wm ?_;refine wN ?_;exact ⟨((IntKind.u64.wrap (v32 + 1)),(v33 ++ [(⟨y37.1,y39.1⟩:RN)]),y42.2.1,y42.2.2),(),h,sP⟩
  ·refine wZ ?_;exact ⟨(v33,v34,v35),(),h,sP⟩
 ·rintro ⟨v7,v8,v9⟩ _ h;refine wQ<|wR ?_;refine PWl.frzC (id:=30061) (oid:=3) (j:=1) (n:=v7.length) [] hK (.nil) rfl (by simp) rfl (by first | rfl | (congr 2;first | (simp;done) | (simp;omega) | omega)) rfl ?_;refine ws (lA (ps:=[_,_]) isAgg101 sizeOf101 rfl rfl rfl rfl)<|ws (sB (ns:=[_,_]) sizeOf101 rfl rfl rfl rfl rfl rfl rfl)<|wN<|wX ?_;cases h;exact EndsO.mkX (ex:=[(2,_)]) () (.inr rfl) (sP (tl:=[(2,_)]) (to:=[(100,_),(1100,_),(2,_)])) (.cons (.agg isAgg101 sizeOf101 rfl rfl rfl)<|.nil) rfl rfl


theorem xw (b_1:List Int) (bad_2:Int) (r0:List PT × List Int × Int) (h:(xP b_1 bad_2).wp (· = r0)):PObj prog 55 [.ref 100 0] [(100,.cells 90 [.d (.sl (List.map (eK .u8) b_1)),.d (.v (.int .i64 bad_2))])] [100] (.d (.sl (List.map PT.e r0.1))) (fun _:Unit=>[(100,.cells 90 [.d (.sl (List.map (eK .u8) r0.2.1)),.d (.v (.int .i64 r0.2.2))])]):=by
 refine PObj.intro (sl:=[(0,_)]) func55 rfl ntmps55 rfl rfl rfl ?_;intro ctx hK pv;refine wQ<|wR<|ws (aR 101 2 rfl)<|wN<|wQ<|wR<|ws (aR 101 2 rfl)<|wN<|wQ ?_;refine wQ<|wR<|wm ?_;obtain ⟨y3,hy4,h⟩:=zP h;refine xO [(100,100)] [] [100] (zQ b_1 bad_2 y3 hy4) call53<|wm ?_;refine wN ?_;refine PWc.jnX (zR h) (fun (⟨c5,v6,v7⟩:List PT × List Int × Int) (_:Unit)=>⟨23,[(0,.ref 100 0),(3,.row 3 (c5.length))],[(3,.row 101 2 (List.map PT.e c5)),(100,.cells 90 [.d (.sl (List.map (eK .u8) v6)),.d (.v (.int .i64 v7))]),(1100,.pin 100 (pv 100))]⟩) (fun h=>?_) ?_
 ·refine wB<|wM (fun (⟨v26,c27,v28,v29⟩:Int × List PT × List Int × Int) (_:Unit)=>⟨23,[(0,.ref 100 0),(3,.row 3 (c27.length)),(5,.d (.v (.int .u64 y3.1))),(6,.d (.v (.int .u64 v26)))],[(3,.row 101 2 (List.map PT.e c27)),(100,.cells 90 [.d (.sl (List.map (eK .u8) v28)),.d (.v (.int .i64 v29))]),(1100,.pin 100 (pv 100))]⟩) () h (sP) ?_;rintro N ⟨v26,c27,v28,v29⟩ _ h;refine wQ<|wR<|ws (LR.lss rfl rfl)<|wN<|wQ ?_;refine xD h rfl (fun _ h=>?_) (fun _ h=>?_)
  ·refine wK<|wQ<|wB<|wQ<|wR<|wm ?_;refine wm ?_;obtain ⟨y31,hy32,h⟩:=zP h;refine xO [(100,100)] [] [100] (jJ v28 v29 y31 hy32) call92<|ws (LR.buildSliceD [.tmp 10] Qv rfl rfl (.cons rfl rfl rfl<|.nil) (by decide) (by decide)) ?_;obtain ⟨hy33,h⟩:=zt h;refine ws (LR.appT (enc:=PT.e) (L:=c27) (R:=[y31.1]) [3,8] Qv underlying27 rfl rfl rfl (Src.slT (enc:=PT.e) (R:=[y31.1]) rfl (fun _=>rfl)) (fun _=>rfl) hy33 rfl rfl)<|wa ?_;refine wN<|wQ<|wz (tl:=[(0,_),(3,_),(5,_),(6,_)]) (to:=[(3,_),(100,_),(1100,_)]) ?_;refine wR<|wm ?_;obtain ⟨y34,hy35,h⟩:=zP h;refine xO [(100,100)] [] [100] (zY y31.2.1 y31.2.2 y34 hy35) call60<|ws (nQ rfl rfl)<|wN ?_;refine xD h rfl (fun _ h=>?_) (fun _ h=>?_)
   ·refine wQ<|wz (tl:=[]) (to:=[(100,_),(1100,_)]) ?_;refine wR<|ws (aR 101 2 rfl)<|wN<|wX ?_;cases h;exact EndsO.mk () (.inr rfl) (Sub.trans (Sub.frz [2] hK rfl (by first | (simp;done) | (simp;omega) | omega) (AllRow.get (.cons rfl<|.nil)))<|sP (tl:=[(2,_)]) (to:=[(100,_),(1100,_)])) (.cons (.tmp rfl)<|.nil) rfl rfl
   ·refine wK<|wz (tl:=[(0,_),(3,_),(5,_),(6,_)]) (to:=[(3,_),(100,_),(1100,_)]) ?_;refine wR<|ws (LR.addW rfl rfl)<|wm ?_;refine wN ?_;exact ⟨((IntKind.u64.wrap (v26 + 1)),(c27 ++ [y31.1]),y34.2.1,y34.2.2),(),h,sP⟩
  ·refine wZ ?_;exact ⟨(c27,v28,v29),(),h,sP⟩
 ·rintro ⟨c5,v6,v7⟩ _ h;refine wQ<|wQ<|wR<|wm ?_;obtain ⟨v37,hy38,h⟩:=zP h;refine PWl.frz [3,17] hK (.cons rfl<|.cons rfl<|.nil) rfl (by simp) ?_;refine xN (vP c5 v37 hy38) call64<|ws (LR.not rfl)<|wN ?_;refine xD h rfl (fun _ h=>?_) (fun _ h=>?_)
  ·refine wQ<|wR<|wm ?_;obtain ⟨y40,hy41,h⟩:=zP h;refine xO [(100,100)] [] [100] (zI 4 v6 v7 y40 hy41) call59<|wN<|wQ<|wz (tl:=[]) (to:=[(100,_),(1100,_)]) ?_;refine wR<|ws (aR 101 2 rfl)<|wN<|wX ?_;cases h;exact EndsO.mk () (.inr rfl) (Sub.trans (Sub.frz [2] hK rfl (by first | (simp;done) | (simp;omega) | omega) (AllRow.get (.cons rfl<|.nil)))<|sP (tl:=[(2,_)]) (to:=[(100,_),(1100,_)])) (.cons (.tmp rfl)<|.nil) rfl rfl
  ·refine wK<|wQ<|wR<|wm ?_;refine wa ?_;refine wN<|wX ?_;cases h;exact EndsO.mk () (.inr rfl) (sP (tl:=[(2,_)]) (to:=[(100,_),(1100,_)])) (.cons (.tmp rfl)<|.nil) rfl rfl

theorem Xo (b_1:List Int) (bad_2:Int) (r0:DT × List Int × Int) (h:(vN b_1 bad_2).wp (· = r0)):PObj prog 128 [.ref 100 0] [(100,.cells 90 [.d (.sl (List.map (eK .u8) b_1)),.d (.v (.int .i64 bad_2))])] [100] (.agg (List.map .d (DT.e r0.1))) (fun _:Unit=>[(100,.cells 90 [.d (.sl (List.map (eK .u8) r0.2.1)),.d (.v (.int .i64 r0.2.2))])]):=by
 refine PObj.intro (sl:=[(0,_)]) func128 rfl ntmps128 rfl rfl rfl ?_;intro ctx hK pv;refine wQ<|wR<|ws (LR.allocZ (cs:=[_,_]) zeroValue105 rfl rfl rfl rfl)<|wN<|wQ<|wR<|wm ?_;obtain ⟨y3,hy4,h⟩:=zP h;refine xO [(100,100)] [] [100] (xS 65535 b_1 bad_2 y3 hy4) call54<|wa ?_;refine wN<|wQ<|wz (tl:=[(0,_),(2,_),(3,_)]) (to:=[(2,_),(100,_),(1100,_)]) ?_;refine wR<|wm ?_;refine ws (LR.convInt underlying25 (by rw [underlying24];rfl) rfl rfl) ?_;refine wm ?_;obtain ⟨y5,hy6,h⟩:=zP h;refine xO [(100,100)] [] [100] (zQ y3.2.1 y3.2.2 y5 hy6) call53<|ws (LR.build (ns:=[_,_]) UH rfl rfl rfl)<|ws (LR.allocZ (cs:=[_,_]) zeroValue105 rfl rfl rfl rfl)<|ws (sB (ns:=[_,_]) sizeOf105 rfl rfl rfl rfl rfl rfl rfl)<|wN<|wQ<|wQ<|wz (tl:=[(0,_),(2,_),(4,_)]) (to:=[(2,_),(4,_),(100,_),(1100,_)]) ?_;refine wR<|ws (lA (ps:=[_,_]) isAgg105 sizeOf105 rfl rfl rfl rfl) ?_;obtain ⟨v7,hy8,h⟩:=zP h;refine xN (ui (⟨(IntKind.u16.wrap y3.1),y5.1⟩:DT) v7 hy8) call138<|ws (LR.not rfl)<|wN ?_;refine wJ (zR h) (fun (⟨v9,v10⟩:List Int × Int) (_:Unit)=>⟨22,[(0,.ref 100 0),(2,.ref 2 0),(4,.ref 4 0)],[(2,.cells 105 [.d (.v (.int .u16 0)),.d (.v (.int .u64 0))]),(4,.cells 105 [.d (.v (.int .u16 (IntKind.u16.wrap y3.1))),.d (.v (.int .u64 y5.1))]),(100,.cells 90 [.d (.sl (List.map (eK .u8) v9)),.d (.v (.int .i64 v10))]),(1100,.pin 100 (pv 100))]⟩) (fun h=>?_) ?_
 ·refine xD h rfl (fun _ h=>?_) (fun _ h=>?_)
  ·refine wR<|wm ?_;obtain ⟨y12,hy13,h⟩:=zP h;refine xO [(100,100)] [] [100] (zI 4 y5.2.1 y5.2.2 y12 hy13) call59<|wN ?_;exact ⟨(y12.1,y12.2),(),h,sP⟩
  ·refine wK ?_;exact ⟨(y5.2.1,y5.2.2),(),h,sP⟩
 ·rintro ⟨v9,v10⟩ _ h;refine wQ<|wQ<|wR<|wm ?_;obtain ⟨y14,hy15,h⟩:=zP h;refine xO [(100,100)] [] [100] (zY v9 v10 y14 hy15) call60<|ws (nQ rfl rfl)<|wN ?_;refine xD h rfl (fun _ h=>?_) (fun _ h=>?_)
  ·refine wQ<|wz (tl:=[(2,_)]) (to:=[(2,_),(100,_),(1100,_)]) ?_;refine wR<|ws (LR.build (ns:=[_,_]) UH rfl rfl rfl)<|ws (sB (ns:=[_,_]) sizeOf105 rfl rfl rfl rfl rfl rfl rfl)<|wN<|wX ?_;cases h;exact EndsO.mkX (ex:=[(2,_)]) () (.inr rfl) (sP (tl:=[(2,_)]) (to:=[(100,_),(1100,_),(2,_)])) (.cons (.agg isAgg105 sizeOf105 rfl rfl rfl)<|.nil) rfl rfl
  ·refine wK<|wQ<|wz (tl:=[(2,_),(4,_)]) (to:=[(2,_),(4,_),(100,_),(1100,_)]) ?_;refine wR<|ws (lA (ps:=[_,_]) isAgg105 sizeOf105 rfl rfl rfl rfl)<|ws (sB (ns:=[_,_]) sizeOf105 rfl rfl rfl rfl rfl rfl rfl)<|wN<|wX ?_;cases h;exact EndsO.mkX (ex:=[(2,_)]) () (.inr rfl) (sP (tl:=[(2,_)]) (to:=[(100,_),(1100,_),(2,_)])) (.cons (.agg isAgg105 sizeOf105 rfl rfl rfl)<|.nil) rfl rfl

theorem Yr (most1:Int) (b_2:List Int) (bad_3:Int) (r0:ByteArray × List Int × Int) (h:(yh most1 b_2 bad_3).wp (· = r0)):PObj prog 129 [.ref 100 0,.d (.v (.int .i64 most1))] [(100,.cells 90 [.d (.sl (List.map (eK .u8) b_2)),.d (.v (.int .i64 bad_3))])] [100] (.d (.v (.string r0.1))) (fun _:Unit=>[(100,.cells 90 [.d (.sl (List.map (eK .u8) r0.2.1)),.d (.v (.int .i64 r0.2.2))])]):=by
 refine PObj.intro (sl:=[(0,_),(1,_)]) func129 rfl ntmps129 rfl rfl rfl ?_;intro ctx hK pv;refine wQ<|wR<|wa ?_;refine wN<|wQ<|wR<|wm ?_;obtain ⟨y4,hy5,h⟩:=zP h;refine xO [(100,100)] [] [100] (zQ b_2 bad_3 y4 hy5) call53<|wa ?_;refine wN<|wQ<|wB<|wQ<|wz (tl:=[(0,_),(1,_),(5,_)]) (to:=[(100,_),(1100,_)]) ?_;refine wR<|wm ?_;obtain ⟨y6,hy7,h⟩:=zP h;refine xO [(100,100)] [] [100] (zY y4.2.1 y4.2.2 y6 hy7) call60<|ws (nQ rfl rfl)<|wa ?_;refine wN ?_;refine xD h rfl (fun _ h=>?_) (fun _ h=>?_)
 ·refine wQ<|wz (tl:=[]) (to:=[(100,_),(1100,_)]) ?_;refine wR<|wa ?_;refine wN<|wX ?_;cases h;exact EndsO.mk () (.inr rfl) (sP (tl:=[(4,_)]) (to:=[(100,_),(1100,_)])) (.cons (.tmp rfl)<|.nil) rfl rfl
 ·refine wQ<|wz (tl:=[(0,_),(1,_),(5,_)]) (to:=[(100,_),(1100,_)]) ?_;refine wR<|wm ?_;refine wm ?_;refine ws (LR.maxI rfl rfl) ?_;refine ws (LR.convInt underlying24 (by rw [underlying3];rfl) rfl rfl) ?_;refine ws (LR.gtr rfl rfl)<|wa ?_;refine wN ?_;refine xD h rfl (fun _ h=>?_) (fun _ h=>?_)
  ·refine wQ<|wR<|wm ?_;obtain ⟨y10,hy11,h⟩:=zP h;refine xO [(100,100)] [] [100] (zI 3 y6.2.1 y6.2.2 y10 hy11) call59<|wN<|wQ<|wz (tl:=[]) (to:=[(100,_),(1100,_)]) ?_;refine wR<|wa ?_;refine wN<|wX ?_;cases h;exact EndsO.mk () (.inr rfl) (sP (tl:=[(4,_)]) (to:=[(100,_),(1100,_)])) (.cons (.tmp rfl)<|.nil) rfl rfl
  ·refine wQ<|wR<|wm ?_;refine wm ?_;obtain ⟨y12,hy13,h⟩:=zP h;refine xO [(100,100)] [] [100] (xR y6.2.1 y6.2.2 y12 hy13) call58 ?_;refine ws (LR.convInt underlying24 (by rw [underlying3];rfl) rfl rfl) ?_;refine ws (LR.gtr rfl rfl)<|wa ?_;refine wN ?_;refine xD h rfl (fun _ h=>?_) (fun _ h=>?_)
   ·refine wQ<|wz (tl:=[(0,_)]) (to:=[(100,_),(1100,_)]) ?_;refine wR<|wm ?_;obtain ⟨y15,hy16,h⟩:=zP h;refine xO [(100,100)] [] [100] (zI 2 y12.2.1 y12.2.2 y15 hy16) call59<|wN<|wQ<|wz (tl:=[]) (to:=[(100,_),(1100,_)]) ?_;refine wR<|wa ?_;refine wN<|wX ?_;cases h;exact EndsO.mk () (.inr rfl) (sP (tl:=[(4,_)]) (to:=[(100,_),(1100,_)])) (.cons (.tmp rfl)<|.nil) rfl rfl
   ·refine wK<|wQ<|wz (tl:=[(0,_),(5,_)]) (to:=[(100,_),(1100,_)]) ?_;refine wR<|wm ?_;refine ws (LR.nilCheckRef rfl)<|ws (fR underlying90 rfl sizeOf88 (by decide) rfl rfl)<|wm ?_;refine ws (LR.convInt underlying3 (by rw [underlying24];rfl) rfl rfl) ?_;obtain ⟨y17,hy18,h⟩:=zP h;refine xO [(100,100)] [] [100] (wb (IntKind.i64.wrap y4.1) y12.2.1 y12.2.2 y17 hy18) call90<|ws (LR.bytesStr underlying22 underlying5 underlying9 rfl)<|wa ?_;refine wN<|wX ?_;cases h;exact EndsO.mk () (.inr rfl) (sP (tl:=[(4,_)]) (to:=[(100,_),(1100,_)])) (.cons (.tmp rfl)<|.nil) rfl rfl

theorem jK (most1:Int) (b_2:List Int) (bad_3:Int) (r0:List DT × List Int × Int) (h:(vj most1 b_2 bad_3).wp (· = r0)):PObj prog 130 [.ref 100 0,.d (.v (.int .i64 most1))] [(100,.cells 90 [.d (.sl (List.map (eK .u8) b_2)),.d (.v (.int .i64 bad_3))])] [100] (.d (.sl (List.map DT.e r0.1))) (fun _:Unit=>[(100,.cells 90 [.d (.sl (List.map (eK .u8) r0.2.1)),.d (.v (.int .i64 r0.2.2))])]):=by
 refine PObj.intro (sl:=[(0,_),(1,_)]) func130 rfl ntmps130 rfl rfl rfl ?_;intro ctx hK pv;refine wQ<|wR<|ws (aR 105 2 rfl)<|wN<|wQ<|wR<|wm ?_;obtain ⟨y4,hy5,h⟩:=zP h;refine xO [(100,100)] [] [100] (zQ b_2 bad_3 y4 hy5) call53<|wa ?_;refine wN<|wQ<|wQ<|wz (tl:=[(0,_),(1,_),(5,_)]) (to:=[(100,_),(1100,_)]) ?_;refine wR<|wm ?_;refine wm ?_;refine ws (LR.maxI rfl rfl) ?_;refine ws (LR.convInt underlying24 (by rw [underlying3];rfl) rfl rfl) ?_;refine ws (LR.gtr rfl rfl)<|wN ?_;refine xD h rfl (fun _ h=>?_) (fun _ h=>?_)
 ·refine wQ<|wR<|wm ?_;obtain ⟨y7,hy8,h⟩:=zP h;refine xO [(100,100)] [] [100] (zI 3 y4.2.1 y4.2.2 y7 hy8) call59<|wN<|wQ<|wz (tl:=[]) (to:=[(100,_),(1100,_)]) ?_;refine wR<|ws (aR 105 2 rfl)<|wN<|wX ?_;cases h;exact EndsO.mk () (.inr rfl) (Sub.trans (Sub.frz [4] hK rfl (by first | (simp;done) | (simp;omega) | omega) (AllRow.get (.cons rfl<|.nil)))<|sP (tl:=[(4,_)]) (to:=[(100,_),(1100,_)])) (.cons (.tmp rfl)<|.nil) rfl rfl
 ·refine wK<|wQ<|wR<|ws (aR 105 2 rfl)<|wN<|wQ<|wQ<|wR<|wm ?_;refine wm ?_;refine wN ?_;refine PWc.jnX (zR h) (fun (⟨out9,v10,v11⟩:List DT × List Int × Int) (_:Unit)=>⟨48,[(6,.row 6 (out9.length))],[(6,.row 105 2 (List.map DT.e out9)),(100,.cells 90 [.d (.sl (List.map (eK .u8) v10)),.d (.v (.int .i64 v11))]),(1100,.pin 100 (pv 100))]⟩) (fun h=>?_) ?_
  ·refine wB<|wM (fun (⟨v52,out53,v54,v55⟩:Int × List DT × List Int × Int) (_:Unit)=>⟨48,[(0,.ref 100 0),(6,.row 6 (out53.length)),(18,.d (.v (.int .u64 y4.1))),(19,.d (.v (.int .u64 v52)))],[(6,.row 105 2 (List.map DT.e out53)),(100,.cells 90 [.d (.sl (List.map (eK .u8) v54)),.d (.v (.int .i64 v55))]),(1100,.pin 100 (pv 100))]⟩) () h (sP) ?_;rintro N ⟨v52,out53,v54,v55⟩ _ h;refine wQ<|wR<|ws (LR.lss rfl rfl)<|wN<|wQ ?_;refine xD h rfl (fun _ h=>?_) (fun _ h=>?_)
   ·refine wK<|wQ<|wB<|wQ<|wR<|wm ?_;obtain ⟨y57,hy58,h⟩:=zP h;refine xO [(100,100)] [] [100] (Xo v54 v55 y57 hy58) call128<|ws (LR.allocZ (cs:=[_,_]) zeroValue105 rfl rfl rfl rfl)<|ws (sB (ns:=[_,_]) sizeOf105 rfl rfl rfl rfl rfl rfl rfl)<|wN<|wQ<|wQ<|wz (tl:=[(0,_),(6,_),(7,_),(18,_),(19,_)]) (to:=[(6,_),(7,_),(100,_),(1100,_)]) ?_;refine wR<|wm ?_;refine ws (LR.lenRow underlying106 rfl)<|ws (LR.subW rfl rfl)<|wa ?_;refine wN<|wQ ?_;refine wJ (zR h) (fun (v59:Bool) (_:Unit)=>⟨48,[(0,.ref 100 0),(6,.row 6 (out53.length)),(7,.ref 7 0),(18,.d (.v (.int .u64 y4.1))),(19,.d (.v (.int .u64 v52))),(36,.d (.v (.bool v59)))],[(6,.row 105 2 (List.map DT.e out53)),(7,.cells 105 [.d (.v (.int .u16 y57.1.dev)),.d (.v (.int .u64 y57.1.n))]),(100,.cells 90 [.d (.sl (List.map (eK .u8) y57.2.1)),.d (.v (.int .i64 y57.2.2))]),(1100,.pin 100 (pv 100))]⟩) (fun h=>?_) ?_
    ·refine wD (by kernel_rfl) (by kernel_rfl)<|qm ?_;refine qs (fun _ U W=>LR.geq U U)<|qm ?_;refine xQ (d:=28) h rfl (fun _ h=>?_) (fun _ h=>?_)
     ·refine qt (fun _ U W=>mV U) ?_;refine qt (fun _ U W=>mV U) ?_;obtain ⟨x61,hy62,h⟩:=vI h;refine qt (fun _ U W=>LR.idxRowT (L:=out53) (y:=x61) underlying106 sizeOf105 U rfl U hy62) ?_;refine qt (fun _ U W=>LR.loadRpT (enc:=DT.e) (L:=out53) (y:=x61) isAgg105 sizeOf105 U (W rfl) hy62.2) ?_;refine qt (fun _ U W=>lA (ps:=[_,_]) isAgg105 sizeOf105 U (W rfl) rfl rfl) ?_;obtain ⟨v63,hy64,h⟩:=zP h;refine qt (fun _ U W=>cN (ZZ x61 y57.1 v63 hy64) U call94 (yAa (fun a b=>U a b) rfl rfl) rfl rfl rfl) ?_;refine qt (fun _ U W=>LR.geq U U) ?_;refine qs (fun _ U W=>pT U U)<|qN ?_;exact ⟨(decide (0 <= v63)),(),h,sP⟩
     ·refine kF<|kF<|kF<|kF<|kF<|kF<|kF ?_;refine qs (fun _ U W=>pF U U)<|qN ?_;exact ⟨false,(),h,sP⟩
    ·rintro v59 _ h;refine wJ (zR h) (fun (⟨v65,v66⟩:List Int × Int) (_:Unit)=>⟨48,[(0,.ref 100 0),(6,.row 6 (out53.length)),(7,.ref 7 0),(18,.d (.v (.int .u64 y4.1))),(19,.d (.v (.int .u64 v52)))],[(6,.row 105 2 (List.map DT.e out53)),(7,.cells 105 [.d (.v (.int .u16 y57.1.dev)),.d (.v (.int .u64 y57.1.n))]),(100,.cells 90 [.d (.sl (List.map (eK .u8) v65)),.d (.v (.int .i64 v66))]),(1100,.pin 100 (pv 100))]⟩) (fun h=>?_) ?_
     ·refine xD h rfl (fun _ h=>?_) (fun _ h=>?_)
      ·refine wR<|wm ?_;obtain ⟨y68,hy69,h⟩:=zP h;refine xO [(100,100)] [] [100] (zI 4 y57.2.1 y57.2.2 y68 hy69) call59<|wN ?_;exact ⟨(y68.1,y68.2),(),h,sP⟩
      ·refine wK ?_;exact ⟨(y57.2.1,y57.2.2),(),h,sP⟩
     ·rintro ⟨v65,v66⟩ _ h;refine wQ<|wQ<|wR<|wm ?_;obtain ⟨y70,hy71,h⟩:=zP h;refine xO [(100,100)] [] [100] (zY v65 v66 y70 hy71) call60<|ws (nQ rfl rfl)<|wN ?_;refine xD h rfl (fun _ h=>?_) (fun _ h=>?_)
      ·refine wQ<|wz (tl:=[]) (to:=[(100,_),(1100,_)]) ?_;refine wR<|ws (aR 105 2 rfl)<|wN<|wX ?_;cases h;exact EndsO.mk () (.inr rfl) (Sub.trans (Sub.frz [4] hK rfl (by first | (simp;done) | (simp;omega) | omega) (AllRow.get (.cons rfl<|.nil)))<|sP (tl:=[(4,_)]) (to:=[(100,_),(1100,_)])) (.cons (.tmp rfl)<|.nil) rfl rfl
      ·refine wK<|wz (tl:=[(0,_),(6,_),(7,_),(18,_),(19,_)]) (to:=[(6,_),(7,_),(100,_),(1100,_)]) ?_;refine wR<|wm ?_;refine ws (lA (ps:=[_,_]) isAgg105 sizeOf105 rfl rfl rfl rfl)<|ws (LR.buildSliceD [.tmp 43] uW rfl rfl (.cons rfl rfl rfl<|.nil) (by decide) (by decide)) ?_;obtain ⟨hy73,h⟩:=zt h;refine ws (LR.appT (enc:=DT.e) (L:=out53) (R:=[y57.1]) [6,42] uW underlying106 rfl rfl rfl (Src.slT (enc:=DT.e) (R:=[y57.1]) rfl (fun _=>rfl)) (fun _=>rfl) hy73 rfl rfl)<|wa ?_;refine wN<|wR<|ws (LR.addW rfl rfl)<|wm ?_;refine wN ?_;exact ⟨((IntKind.u64.wrap (v52 + 1)),(out53 ++ [y57.1]),y70.2.1,y70.2.2),(),h,sP⟩
   ·refine wZ ?_;exact ⟨(out53,v54,v55),(),h,sP⟩
  ·rintro ⟨out9,v10,v11⟩ _ h;refine wQ<|wR<|wm ?_;refine wa ?_;refine wN<|wX ?_;cases h;exact EndsO.mk () (.inr rfl) (Sub.trans (Sub.frz [4,6,47] hK rfl (by simp) (AllRow.get (.cons rfl<|.cons rfl<|.cons rfl<|.nil)))<|sP (tl:=[(4,_)]) (to:=[(100,_),(1100,_)])) (.cons (.tmp rfl)<|.nil) rfl rfl

theorem JC (b_1:List Int) (bad_2:Int) (r0:EV × List Int × Int) (h:(Zv b_1 bad_2).wp (· = r0)):PObj prog 93 [.ref 100 0] [(100,.cells 90 [.d (.sl (List.map (eK .u8) b_1)),.d (.v (.int .i64 bad_2))])] [100] (.agg (List.map .d (EV.e r0.1))) (fun _:Unit=>[(100,.cells 90 [.d (.sl (List.map (eK .u8) r0.2.1)),.d (.v (.int .i64 r0.2.2))])]):=by
 refine PObj.intro (sl:=[(0,_)]) func93 rfl ntmps93 rfl rfl rfl ?_;intro ctx hK pv;refine wQ<|wR<|ws (LR.allocZ (cs:=[_,_,_,_,_,_,_]) zeroValue108 rfl rfl rfl rfl)<|wN<|wQ<|wR<|wm ?_;obtain ⟨y3,hy4,h⟩:=zP h;refine xO [(100,100)] [] [100] (Xo b_1 bad_2 y3 hy4) call128<|ws (LR.build (ns:=[_,_,_,_,_,_,_]) xFa rfl rfl rfl)<|ws (LR.allocZ (cs:=[_,_,_,_,_,_,_]) zeroValue108 rfl rfl rfl rfl)<|ws (sB (ns:=[_,_,_,_,_,_,_]) sizeOf108 rfl rfl rfl rfl rfl rfl rfl)<|wN<|wQ<|wz (tl:=[(0,_),(2,_),(3,_)]) (to:=[(2,_),(3,_),(100,_),(1100,_)]) ?_;refine wR<|wm ?_;obtain ⟨y5,hy6,h⟩:=zP h;refine xO [(100,100)] [] [100] (yj y3.2.1 y3.2.2 y5 hy6) call52<|ws (fR underlying108 rfl sizeOf5 (by decide) rfl rfl)<|ws (sB (ns:=[_,_,_,_,_,_,_]) sizeOf5 rfl rfl rfl rfl rfl rfl rfl)<|wN<|wQ<|wz (tl:=[(0,_),(2,_),(3,_)]) (to:=[(2,_),(3,_),(100,_),(1100,_)]) ?_;refine wR<|wm ?_;obtain ⟨y7,hy8,h⟩:=zP h;refine xO [(100,100)] [] [100] (zQ y5.2.1 y5.2.2 y7 hy8) call53<|ws (fR underlying108 rfl sizeOf24 (by decide) rfl rfl)<|ws (sB (ns:=[_,_,_,_,_,_,_]) sizeOf24 rfl rfl rfl rfl rfl rfl rfl)<|wN<|wQ<|wz (tl:=[(0,_),(2,_),(3,_)]) (to:=[(2,_),(3,_),(100,_),(1100,_)]) ?_;refine wR<|wm ?_;obtain ⟨y9,hy10,h⟩:=zP h;refine xO [(100,100)] [] [100] (yj y7.2.1 y7.2.2 y9 hy10) call52<|ws (fR underlying108 rfl sizeOf5 (by decide) rfl rfl)<|ws (sB (ns:=[_,_,_,_,_,_,_]) sizeOf5 rfl rfl rfl rfl rfl rfl rfl)<|wN<|wQ<|wz (tl:=[(0,_),(2,_),(3,_)]) (to:=[(2,_),(3,_),(100,_),(1100,_)]) ?_;refine wR<|wm ?_;obtain ⟨y11,hy12,h⟩:=zP h;refine xO [(100,100)] [] [100] (Yr 60 y9.2.1 y9.2.2 y11 hy12) call129<|ws (fR underlying108 rfl sizeOf9 (by decide) rfl rfl)<|ws (sB (ns:=[_,_,_,_,_,_,_]) sizeOf9 rfl rfl rfl rfl rfl rfl rfl)<|wN<|wQ<|wz (tl:=[(0,_),(2,_),(3,_)]) (to:=[(2,_),(3,_),(100,_),(1100,_)]) ?_;refine wR<|wm ?_;obtain ⟨y13,hy14,h⟩:=zP h;refine xO [(100,100)] [] [100] (jK 256 y11.2.1 y11.2.2 y13 hy14) call130<|ws (fR underlying108 rfl sizeOf106 (by decide) rfl rfl)<|ws (sB (ns:=[_,_,_,_,_,_,_]) sizeOf106 rfl rfl rfl rfl rfl rfl rfl)<|wN<|wQ<|wQ<|wz (tl:=[(0,_),(2,_),(3,_)]) (to:=[(2,_),(3,_),(100,_),(1100,_)]) ?_;refine wR<|ws (lA (ps:=[_,_,_,_,_,_,_]) isAgg108 sizeOf108 rfl rfl rfl rfl) ?_;obtain ⟨v15,hy16,h⟩:=zP h;refine xN (YI (⟨y3.1,y5.1,y7.1,y9.1,y11.1,y13.1⟩:EV) v15 hy16) call98<|ws (LR.not rfl)<|wN ?_;refine wJ (zR h) (fun (⟨v17,v18⟩:List Int × Int) (_:Unit)=>⟨32,[(0,.ref 100 0),(2,.ref 2 0),(3,.ref 3 0)],[(2,.cells 108 [.d (.v (.int .u16 0)),.d (.v (.int .u64 0)),.d (.v (.int .u8 0)),.d (.v (.int .u64 0)),.d (.v (.int .u8 0)),.d (.v (.string (⟨#[]⟩:ByteArray))),.d (.sl (List.map DT.e ([]:List DT)))]),(3,.cells 108 [.d (.v (.int .u16 y3.1.dev)),.d (.v (.int .u64 y3.1.n)),.d (.v (.int .u8 y5.1)),.d (.v (.int .u64 y7.1)),.d (.v (.int .u8 y9.1)),.d (.v (.string y11.1)),.d (.sl (List.map DT.e y13.1))]),(100,.cells 90 [.d (.sl (List.map (eK .u8) v17)),.d (.v (.int .i64 v18))]),(1100,.pin 100 (pv 100))]⟩) (fun h=>?_) ?_
 ·refine xD h rfl (fun _ h=>?_) (fun _ h=>?_)
  ·refine wR<|wm ?_;obtain ⟨y20,hy21,h⟩:=zP h;refine xO [(100,100)] [] [100] (zI 4 y13.2.1 y13.2.2 y20 hy21) call59<|wN ?_;exact ⟨(y20.1,y20.2),(),h,sP⟩
  ·refine wK ?_;exact ⟨(y13.2.1,y13.2.2),(),h,sP⟩
 ·rintro ⟨v17,v18⟩ _ h;refine wQ<|wQ<|wR<|wm ?_;obtain ⟨y22,hy23,h⟩:=zP h;refine xO [(100,100)] [] [100] (zY v17 v18 y22 hy23) call60<|ws (nQ rfl rfl)<|wN ?_;refine xD h rfl (fun _ h=>?_) (fun _ h=>?_)
  ·refine wQ<|wz (tl:=[(2,_)]) (to:=[(2,_),(100,_),(1100,_)]) ?_;refine wR<|ws (LR.build (ns:=[_,_,_,_,_,_,_]) xFa rfl rfl rfl)<|ws (sB (ns:=[_,_,_,_,_,_,_]) sizeOf108 rfl rfl rfl rfl rfl rfl rfl)<|wN<|wX ?_;cases h;exact EndsO.mkX (ex:=[(2,_)]) () (.inr rfl) (sP (tl:=[(2,_)]) (to:=[(100,_),(1100,_),(2,_)])) (.cons (.agg isAgg108 sizeOf108 rfl rfl rfl)<|.nil) rfl rfl
  ·refine wK<|wQ<|wz (tl:=[(2,_),(3,_)]) (to:=[(2,_),(3,_),(100,_),(1100,_)]) ?_;refine wR<|ws (lA (ps:=[_,_,_,_,_,_,_]) isAgg108 sizeOf108 rfl rfl rfl rfl)<|ws (sB (ns:=[_,_,_,_,_,_,_]) sizeOf108 rfl rfl rfl rfl rfl rfl rfl)<|wN<|wX ?_;cases h;exact EndsO.mkX (ex:=[(2,_)]) () (.inr rfl) (sP (tl:=[(2,_)]) (to:=[(100,_),(1100,_),(2,_)])) (.cons (.agg isAgg108 sizeOf108 rfl rfl rfl)<|.nil) rfl rfl


theorem Zc (most1:Int) (b_2:List Int) (bad_3:Int) (r0:List EV × List Int × Int) (h:(xt most1 b_2 bad_3).wp (· = r0)):PObj prog 57 [.ref 100 0,.d (.v (.int .i64 most1))] [(100,.cells 90 [.d (.sl (List.map (eK .u8) b_2)),.d (.v (.int .i64 bad_3))])] [100] (.d (.sl (List.map EV.e r0.1))) (fun _:Unit=>[(100,.cells 90 [.d (.sl (List.map (eK .u8) r0.2.1)),.d (.v (.int .i64 r0.2.2))])]):=by
 refine PObj.intro (sl:=[(0,_),(1,_)]) func57 rfl ntmps57 rfl rfl rfl ?_;intro ctx hK pv;refine wQ<|wR<|ws (aR 108 7 rfl)<|wN<|wQ<|wR<|wm ?_;obtain ⟨y4,hy5,h⟩:=zP h;refine xO [(100,100)] [] [100] (zQ b_2 bad_3 y4 hy5) call53<|wa ?_;refine wN<|wQ<|wQ<|wz (tl:=[(0,_),(1,_),(5,_)]) (to:=[(100,_),(1100,_)]) ?_;refine wR<|wm ?_;refine wm ?_;refine ws (LR.maxI rfl rfl) ?_;refine ws (LR.convInt underlying24 (by rw [underlying3];rfl) rfl rfl) ?_;refine ws (LR.gtr rfl rfl)<|wN ?_;refine xD h rfl (fun _ h=>?_) (fun _ h=>?_)
 ·refine wQ<|wR<|wm ?_;obtain ⟨y7,hy8,h⟩:=zP h;refine xO [(100,100)] [] [100] (zI 3 y4.2.1 y4.2.2 y7 hy8) call59<|wN<|wQ<|wz (tl:=[]) (to:=[(100,_),(1100,_)]) ?_;refine wR<|ws (aR 108 7 rfl)<|wN<|wX ?_;cases h;exact EndsO.mk () (.inr rfl) (Sub.trans (Sub.frz [4] hK rfl (by first | (simp;done) | (simp;omega) | omega) (AllRow.get (.cons rfl<|.nil)))<|sP (tl:=[(4,_)]) (to:=[(100,_),(1100,_)])) (.cons (.tmp rfl)<|.nil) rfl rfl
 ·refine wK<|wQ<|wR<|ws (aR 108 7 rfl)<|wN<|wQ<|wQ<|wR<|wm ?_;refine wm ?_;refine wN ?_;refine PWc.jnX (zR h) (fun (⟨out9,v10,v11⟩:List EV × List Int × Int) (_:Unit)=>⟨50,[(6,.row 6 (out9.length))],[(6,.row 108 7 (List.map EV.e out9)),(100,.cells 90 [.d (.sl (List.map (eK .u8) v10)),.d (.v (.int .i64 v11))]),(1100,.pin 100 (pv 100))]⟩) (fun h=>?_) ?_
  ·refine wB<|wM (fun (⟨v52,out53,v54,v55⟩:Int × List EV × List Int × Int) (_:Unit)=>⟨50,[(0,.ref 100 0),(6,.row 6 (out53.length)),(18,.d (.v (.int .u64 y4.1))),(19,.d (.v (.int .u64 v52)))],[(6,.row 108 7 (List.map EV.e out53)),(100,.cells 90 [.d (.sl (List.map (eK .u8) v54)),.d (.v (.int .i64 v55))]),(1100,.pin 100 (pv 100))]⟩) () h (sP) ?_;rintro N ⟨v52,out53,v54,v55⟩ _ h;refine wQ<|wR<|ws (LR.lss rfl rfl)<|wN<|wQ ?_;refine xD h rfl (fun _ h=>?_) (fun _ h=>?_)
   ·refine wK<|wQ<|wB<|wQ<|wR<|wm ?_;obtain ⟨y57,hy58,h⟩:=zP h;refine xO [(100,100)] [] [100] (JC v54 v55 y57 hy58) call93<|ws (LR.allocZ (cs:=[_,_,_,_,_,_,_]) zeroValue108 rfl rfl rfl rfl)<|ws (sB (ns:=[_,_,_,_,_,_,_]) sizeOf108 rfl rfl rfl rfl rfl rfl rfl)<|wN<|wQ<|wQ<|wz (tl:=[(0,_),(6,_),(7,_),(18,_),(19,_)]) (to:=[(6,_),(7,_),(100,_),(1100,_)]) ?_;refine wR<|wm ?_;refine ws (LR.lenRow underlying28 rfl)<|ws (LR.subW rfl rfl)<|wa ?_;refine wN<|wQ ?_;refine wJ (zR h) (fun (v59:Bool) (_:Unit)=>⟨50,[(0,.ref 100 0),(6,.row 6 (out53.length)),(7,.ref 7 0),(18,.d (.v (.int .u64 y4.1))),(19,.d (.v (.int .u64 v52))),(38,.d (.v (.bool v59)))],[(6,.row 108 7 (List.map EV.e out53)),(7,.cells 108 [.d (.v (.int .u16 y57.1.dot.dev)),.d (.v (.int .u64 y57.1.dot.n)),.d (.v (.int .u8 y57.1.kind)),.d (.v (.int .u64 y57.1.cid)),.d (.v (.int .u8 y57.1.field)),.d (.v (.string y57.1.text)),.d (.sl (List.map DT.e y57.1.kills))]),(100,.cells 90 [.d (.sl (List.map (eK .u8) y57.2.1)),.d (.v (.int .i64 y57.2.2))]),(1100,.pin 100 (pv 100))]⟩) (fun h=>?_) ?_
    ·refine wD (by kernel_rfl) (by kernel_rfl)<|qm ?_;refine qs (fun _ U W=>LR.geq U U)<|qm ?_;refine xQ (d:=28) h rfl (fun _ h=>?_) (fun _ h=>?_)
     ·refine qt (fun _ U W=>mV U) ?_;refine qt (fun _ U W=>mV U) ?_;obtain ⟨x61,hy62,h⟩:=vI h;refine qt (fun _ U W=>LR.idxRowT (L:=out53) (y:=x61) underlying28 sizeOf108 U rfl U hy62) ?_;refine qt (fun _ U W=>LR.fieldRp underlying108 rfl sizeOf105 (by decide) rfl U) ?_;refine qt (fun _ U W=>LR.loadRpPartT (enc:=EV.e) (L:=out53) (y:=x61) isAgg105 sizeOf105 U (W rfl) hy62.2 rfl rfl) ?_;refine qt (fun _ U W=>fR underlying108 rfl sizeOf105 (by decide) rfl U) ?_;refine qt (fun _ U W=>lA (ps:=[_,_]) isAgg105 sizeOf105 U (W rfl) rfl rfl) ?_;obtain ⟨v63,hy64,h⟩:=zP h;refine qt (fun _ U W=>cN (ZZ x61.dot y57.1.dot v63 hy64) U call94 (yAa (fun a b=>U a b) rfl rfl) rfl rfl rfl) ?_;refine qt (fun _ U W=>LR.geq U U) ?_;refine qs (fun _ U W=>pT U U)<|qN ?_;exact ⟨(decide (0 <= v63)),(),h,sP⟩
     ·refine kF<|kF<|kF<|kF<|kF<|kF<|kF<|kF<|kF ?_;refine qs (fun _ U W=>pF U U)<|qN ?_;exact ⟨false,(),h,sP⟩
    ·rintro v59 _ h;refine wJ (zR h) (fun (⟨v65,v66⟩:List Int × Int) (_:Unit)=>⟨50,[(0,.ref 100 0),(6,.row 6 (out53.length)),(7,.ref 7 0),(18,.d (.v (.int .u64 y4.1))),(19,.d (.v (.int .u64 v52)))],[(6,.row 108 7 (List.map EV.e out53)),(7,.cells 108 [.d (.v (.int .u16 y57.1.dot.dev)),.d (.v (.int .u64 y57.1.dot.n)),.d (.v (.int .u8 y57.1.kind)),.d (.v (.int .u64 y57.1.cid)),.d (.v (.int .u8 y57.1.field)),.d (.v (.string y57.1.text)),.d (.sl (List.map DT.e y57.1.kills))]),(100,.cells 90 [.d (.sl (List.map (eK .u8) v65)),.d (.v (.int .i64 v66))]),(1100,.pin 100 (pv 100))]⟩) (fun h=>?_) ?_
     ·refine xD h rfl (fun _ h=>?_) (fun _ h=>?_)
      ·refine wR<|wm ?_;obtain ⟨y68,hy69,h⟩:=zP h;refine xO [(100,100)] [] [100] (zI 4 y57.2.1 y57.2.2 y68 hy69) call59<|wN ?_;exact ⟨(y68.1,y68.2),(),h,sP⟩
      ·refine wK ?_;exact ⟨(y57.2.1,y57.2.2),(),h,sP⟩
     ·rintro ⟨v65,v66⟩ _ h;refine wQ<|wQ<|wR<|wm ?_;obtain ⟨y70,hy71,h⟩:=zP h;refine xO [(100,100)] [] [100] (zY v65 v66 y70 hy71) call60<|ws (nQ rfl rfl)<|wN ?_;refine xD h rfl (fun _ h=>?_) (fun _ h=>?_)
      ·refine wQ<|wz (tl:=[]) (to:=[(100,_),(1100,_)]) ?_;refine wR<|ws (aR 108 7 rfl)<|wN<|wX ?_;cases h;exact EndsO.mk () (.inr rfl) (Sub.trans (Sub.frz [4] hK rfl (by first | (simp;done) | (simp;omega) | omega) (AllRow.get (.cons rfl<|.nil)))<|sP (tl:=[(4,_)]) (to:=[(100,_),(1100,_)])) (.cons (.tmp rfl)<|.nil) rfl rfl
      ·refine wK<|wz (tl:=[(0,_),(6,_),(7,_),(18,_),(19,_)]) (to:=[(6,_),(7,_),(100,_),(1100,_)]) ?_;refine wR<|wm ?_;refine ws (lA (ps:=[_,_,_,_,_,_,_]) isAgg108 sizeOf108 rfl rfl rfl rfl)<|ws (LR.buildSliceD [.tmp 45] elem28 rfl rfl (.cons rfl rfl rfl<|.nil) (by decide) (by decide)) ?_;obtain ⟨hy73,h⟩:=zt h;refine ws (LR.appT (enc:=EV.e) (L:=out53) (R:=[y57.1]) [6,44] elem28 underlying28 rfl rfl rfl (Src.slT (enc:=EV.e) (R:=[y57.1]) rfl (fun _=>rfl)) (fun _=>rfl) hy73 rfl rfl)<|wa ?_;refine wN<|wR<|ws (LR.addW rfl rfl)<|wm ?_;refine wN ?_;exact ⟨((IntKind.u64.wrap (v52 + 1)),(out53 ++ [y57.1]),y70.2.1,y70.2.2),(),h,sP⟩
   ·refine wZ ?_;exact ⟨(out53,v54,v55),(),h,sP⟩
  ·rintro ⟨out9,v10,v11⟩ _ h;refine wQ<|wR<|wm ?_;refine wa ?_;refine wN<|wX ?_;cases h;exact EndsO.mk () (.inr rfl) (Sub.trans (Sub.frz [4,6,49] hK rfl (by simp) (AllRow.get (.cons rfl<|.cons rfl<|.cons rfl<|.nil)))<|sP (tl:=[(4,_)]) (to:=[(100,_),(1100,_)])) (.cons (.tmp rfl)<|.nil) rfl rfl

theorem YY (b_1:List Int) (bad_2:Int) (r0:DL × List Int × Int) (h:(vA b_1 bad_2).wp (· = r0)):PObj prog 56 [.ref 100 0] [(100,.cells 90 [.d (.sl (List.map (eK .u8) b_1)),.d (.v (.int .i64 bad_2))])] [100] (.agg (List.map .d (DL.e r0.1))) (fun _:Unit=>[(100,.cells 90 [.d (.sl (List.map (eK .u8) r0.2.1)),.d (.v (.int .i64 r0.2.2))])]):=by
 refine PObj.intro (sl:=[(0,_)]) func56 rfl ntmps56 rfl rfl rfl ?_;intro ctx hK pv;refine wQ<|wR<|ws (LR.allocZ (cs:=[_,_,_]) zeroValue30 rfl rfl rfl rfl)<|wN<|wQ<|wR<|wm ?_;obtain ⟨y3,hy4,h⟩:=zP h;refine xO [(100,100)] [] [100] (xw b_1 bad_2 y3 hy4) call55<|ws (LR.build (ns:=[_,_,_]) Jv rfl rfl rfl)<|ws (LR.allocZ (cs:=[_,_,_]) zeroValue30 rfl rfl rfl rfl)<|ws (sB (ns:=[_,_,_]) sizeOf30 rfl rfl rfl rfl rfl rfl rfl)<|wN<|wQ<|wz (tl:=[(0,_),(2,_),(3,_)]) (to:=[(2,_),(3,_),(100,_),(1100,_)]) ?_;refine wR<|wm ?_;obtain ⟨y5,hy6,h⟩:=zP h;refine xO [(100,100)] [] [100] (xw y3.2.1 y3.2.2 y5 hy6) call55<|ws (fR underlying30 rfl sizeOf27 (by decide) rfl rfl)<|ws (sB (ns:=[_,_,_]) sizeOf27 rfl rfl rfl rfl rfl rfl rfl)<|wN<|wQ<|wz (tl:=[(0,_),(2,_),(3,_)]) (to:=[(2,_),(3,_),(100,_),(1100,_)]) ?_;refine wR<|wm ?_;obtain ⟨y7,hy8,h⟩:=zP h;refine xO [(100,100)] [] [100] (Zc 4096 y5.2.1 y5.2.2 y7 hy8) call57<|ws (fR underlying30 rfl sizeOf28 (by decide) rfl rfl)<|ws (sB (ns:=[_,_,_]) sizeOf28 rfl rfl rfl rfl rfl rfl rfl)<|wN<|wQ<|wQ<|wz (tl:=[(0,_),(2,_),(3,_)]) (to:=[(2,_),(3,_),(100,_),(1100,_)]) ?_;refine wR<|ws (lA (ps:=[_,_,_]) isAgg30 sizeOf30 rfl rfl rfl rfl) ?_;obtain ⟨v9,hy10,h⟩:=zP h;refine xN (YJ (⟨y3.1,y5.1,y7.1⟩:DL) v9 hy10) call65<|ws (LR.not rfl)<|wN ?_;refine wJ (zR h) (fun (⟨v11,v12⟩:List Int × Int) (_:Unit)=>⟨23,[(0,.ref 100 0),(2,.ref 2 0),(3,.ref 3 0)],[(2,.cells 30 [.d (.sl (List.map PT.e ([]:List PT))),.d (.sl (List.map PT.e ([]:List PT))),.d (.sl (List.map EV.e ([]:List EV)))]),(3,.cells 30 [.d (.sl (List.map PT.e y3.1)),.d (.sl (List.map PT.e y5.1)),.d (.sl (List.map EV.e y7.1))]),(100,.cells 90 [.d (.sl (List.map (eK .u8) v11)),.d (.v (.int .i64 v12))]),(1100,.pin 100 (pv 100))]⟩) (fun h=>?_) ?_
 ·refine xD h rfl (fun _ h=>?_) (fun _ h=>?_)
  ·refine wR<|wm ?_;obtain ⟨y14,hy15,h⟩:=zP h;refine xO [(100,100)] [] [100] (zI 4 y7.2.1 y7.2.2 y14 hy15) call59<|wN ?_;exact ⟨(y14.1,y14.2),(),h,sP⟩
  ·refine wK ?_;exact ⟨(y7.2.1,y7.2.2),(),h,sP⟩
 ·rintro ⟨v11,v12⟩ _ h;refine wQ<|wQ<|wR<|wm ?_;obtain ⟨y16,hy17,h⟩:=zP h;refine xO [(100,100)] [] [100] (zY v11 v12 y16 hy17) call60<|ws (nQ rfl rfl)<|wN ?_;refine xD h rfl (fun _ h=>?_) (fun _ h=>?_)
  ·refine wQ<|wz (tl:=[(2,_)]) (to:=[(2,_),(100,_),(1100,_)]) ?_;refine wR<|ws (LR.build (ns:=[_,_,_]) Jv rfl rfl rfl)<|ws (sB (ns:=[_,_,_]) sizeOf30 rfl rfl rfl rfl rfl rfl rfl)<|wN<|wX ?_;cases h;exact EndsO.mkX (ex:=[(2,_)]) () (.inr rfl) (sP (tl:=[(2,_)]) (to:=[(100,_),(1100,_),(2,_)])) (.cons (.agg isAgg30 sizeOf30 rfl rfl rfl)<|.nil) rfl rfl
  ·refine wK<|wQ<|wz (tl:=[(2,_),(3,_)]) (to:=[(2,_),(3,_),(100,_),(1100,_)]) ?_;refine wR<|ws (lA (ps:=[_,_,_]) isAgg30 sizeOf30 rfl rfl rfl rfl)<|ws (sB (ns:=[_,_,_]) sizeOf30 rfl rfl rfl rfl rfl rfl rfl)<|wN<|wX ?_;cases h;exact EndsO.mkX (ex:=[(2,_)]) () (.inr rfl) (sP (tl:=[(2,_)]) (to:=[(100,_),(1100,_),(2,_)])) (.cons (.agg isAgg30 sizeOf30 rfl rfl rfl)<|.nil) rfl rfl

theorem VY (kind1:Int) (b_2:List Int) (bad_3:Int) (r0:TMsg × List Int × Int) (h:(xu kind1 b_2 bad_3).wp (· = r0)):PObj prog 18 [.ref 100 0,.d (.v (.int .u8 kind1))] [(100,.cells 90 [.d (.sl (List.map (eK .u8) b_2)),.d (.v (.int .i64 bad_3))])] [100] (.agg (List.map .d (TMsg.e r0.1))) (fun _:Unit=>[(100,.cells 90 [.d (.sl (List.map (eK .u8) r0.2.1)),.d (.v (.int .i64 r0.2.2))])]):=by
 refine PObj.intro (sl:=[(0,_),(1,_)]) func18 rfl ntmps18 rfl rfl rfl ?_;intro ctx hK pv;refine wQ<|wR<|ws (LR.allocZ (cs:=[_,_,_,_,_,_,_,_,_,_,_]) zeroValue32 rfl rfl rfl rfl)<|wN<|wQ<|wR<|wm ?_;refine ws (LR.build (ns:=[_,_,_,_,_,_,_,_,_,_,_]) VR rfl rfl rfl)<|ws (LR.allocZ (cs:=[_,_,_,_,_,_,_,_,_,_,_]) zeroValue32 rfl rfl rfl rfl)<|ws (sB (ns:=[_,_,_,_,_,_,_,_,_,_,_]) sizeOf32 rfl rfl rfl rfl rfl rfl rfl)<|wN<|wQ<|wQ ?_;refine wJ (zR h) (fun (v4:Bool) (_:Unit)=>⟨65,[(0,.ref 100 0),(1,.d (.v (.int .u8 kind1))),(4,.ref 4 0),(5,.ref 5 0),(13,.d (.v (.bool v4)))],[(4,.cells 32 [.d (.v (.int .u8 0)),.d (.v (.int .u8 0)),.d (.v (.int .u64 0)),.d (.v (.int .u16 0)),.d (.v (.int .u64 0)),.d (.v (.int .u8 0)),.d (.sl (List.map PT.e ([]:List PT))),.d (.sl (List.map PT.e ([]:List PT))),.d (.sl (List.map PT.e ([]:List PT))),.d (.sl (List.map PT.e ([]:List PT))),.d (.sl (List.map EV.e ([]:List EV)))]),(5,.cells 32 [.d (.v (.int .u8 kind1)),.d (.v (.int .u8 0)),.d (.v (.int .u64 0)),.d (.v (.int .u16 0)),.d (.v (.int .u64 0)),.d (.v (.int .u8 0)),.d (.sl (List.map PT.e ([]:List PT))),.d (.sl (List.map PT.e ([]:List PT))),.d (.sl (List.map PT.e ([]:List PT))),.d (.sl (List.map PT.e ([]:List PT))),.d (.sl (List.map EV.e ([]:List EV)))]),(100,.cells 90 [.d (.sl (List.map (eK .u8) b_2)),.d (.v (.int .i64 bad_3))]),(1100,.pin 100 (pv 100))]⟩) (fun h=>?_) ?_
 ·refine wR<|wm ?_;refine ws (eQ rfl rfl)<|wm ?_;refine xG (d:=10) h rfl (fun _ h=>?_) (fun _ h=>?_)
  ·refine wf<|wf<|ws (pT rfl rfl)<|wN ?_;exact ⟨true,(),h,sP⟩
  ·refine wt (mV rfl)<|wt (eQ rfl rfl)<|ws (pF rfl rfl)<|wN ?_;exact ⟨(decide (kind1 = 2)),(),h,sP⟩
 ·rintro v4 _ h;refine wJ (zR h) (fun (⟨m6,m7,v8,v9⟩:Int × Int × List Int × Int) (_:Unit)=>⟨65,[(0,.ref 100 0),(1,.d (.v (.int .u8 kind1))),(4,.ref 4 0),(5,.ref 5 0)],[(4,.cells 32 [.d (.v (.int .u8 0)),.d (.v (.int .u8 0)),.d (.v (.int .u64 0)),.d (.v (.int .u16 0)),.d (.v (.int .u64 0)),.d (.v (.int .u8 0)),.d (.sl (List.map PT.e ([]:List PT))),.d (.sl (List.map PT.e ([]:List PT))),.d (.sl (List.map PT.e ([]:List PT))),.d (.sl (List.map PT.e ([]:List PT))),.d (.sl (List.map EV.e ([]:List EV)))]),(5,.cells 32 [.d (.v (.int .u8 kind1)),.d (.v (.int .u8 m6)),.d (.v (.int .u64 m7)),.d (.v (.int .u16 0)),.d (.v (.int .u64 0)),.d (.v (.int .u8 0)),.d (.sl (List.map PT.e ([]:List PT))),.d (.sl (List.map PT.e ([]:List PT))),.d (.sl (List.map PT.e ([]:List PT))),.d (.sl (List.map PT.e ([]:List PT))),.d (.sl (List.map EV.e ([]:List EV)))]),(100,.cells 90 [.d (.sl (List.map (eK .u8) v8)),.d (.v (.int .i64 v9))]),(1100,.pin 100 (pv 100))]⟩) (fun h=>?_) ?_
  ·refine xD h rfl (fun _ h=>?_) (fun _ h=>?_)
   ·refine wQ<|wR<|wm ?_;obtain ⟨y11,hy12,h⟩:=zP h;refine xO [(100,100)] [] [100] (yj b_2 bad_3 y11 hy12) call52<|ws (fR underlying32 rfl sizeOf5 (by decide) rfl rfl)<|ws (sB (ns:=[_,_,_,_,_,_,_,_,_,_,_]) sizeOf5 rfl rfl rfl rfl rfl rfl rfl)<|wN<|wz (tl:=[(0,_),(1,_),(4,_),(5,_)]) (to:=[(4,_),(5,_),(100,_),(1100,_)]) ?_;refine wR<|wm ?_;obtain ⟨y13,hy14,h⟩:=zP h;refine xO [(100,100)] [] [100] (zQ y11.2.1 y11.2.2 y13 hy14) call53<|ws (fR underlying32 rfl sizeOf24 (by decide) rfl rfl)<|ws (sB (ns:=[_,_,_,_,_,_,_,_,_,_,_]) sizeOf24 rfl rfl rfl rfl rfl rfl rfl)<|wN ?_;exact ⟨(y11.1,y13.1,y13.2.1,y13.2.2),(),h,sP⟩
   ·refine wK ?_;exact ⟨(0,0,b_2,bad_3),(),h,sP⟩
  ·rintro ⟨m6,m7,v8,v9⟩ _ h;refine wQ<|wQ<|wR<|wm ?_;refine ws (nQ rfl rfl)<|wN ?_;refine wJ (zR h) (fun (⟨m15,m16,v17,v18⟩:Int × Int × List Int × Int) (_:Unit)=>⟨65,[(0,.ref 100 0),(1,.d (.v (.int .u8 kind1))),(4,.ref 4 0),(5,.ref 5 0)],[(4,.cells 32 [.d (.v (.int .u8 0)),.d (.v (.int .u8 0)),.d (.v (.int .u64 0)),.d (.v (.int .u16 0)),.d (.v (.int .u64 0)),.d (.v (.int .u8 0)),.d (.sl (List.map PT.e ([]:List PT))),.d (.sl (List.map PT.e ([]:List PT))),.d (.sl (List.map PT.e ([]:List PT))),.d (.sl (List.map PT.e ([]:List PT))),.d (.sl (List.map EV.e ([]:List EV)))]),(5,.cells 32 [.d (.v (.int .u8 kind1)),.d (.v (.int .u8 m6)),.d (.v (.int .u64 m7)),.d (.v (.int .u16 m15)),.d (.v (.int .u64 m16)),.d (.v (.int .u8 0)),.d (.sl (List.map PT.e ([]:List PT))),.d (.sl (List.map PT.e ([]:List PT))),.d (.sl (List.map PT.e ([]:List PT))),.d (.sl (List.map PT.e ([]:List PT))),.d (.sl (List.map EV.e ([]:List EV)))]),(100,.cells 90 [.d (.sl (List.map (eK .u8) v17)),.d (.v (.int .i64 v18))]),(1100,.pin 100 (pv 100))]⟩) (fun h=>?_) ?_
   ·refine xD h rfl (fun _ h=>?_) (fun _ h=>?_)
    ·refine wQ<|wR<|wm ?_;obtain ⟨y20,hy21,h⟩:=zP h;refine xO [(100,100)] [] [100] (xS 65535 v8 v9 y20 hy21) call54 ?_;refine ws (LR.convInt underlying25 (by rw [underlying24];rfl) rfl rfl) ?_;refine ws (fR underlying32 rfl sizeOf25 (by decide) rfl rfl)<|ws (sB (ns:=[_,_,_,_,_,_,_,_,_,_,_]) sizeOf25 rfl rfl rfl rfl rfl rfl rfl)<|wN<|wz (tl:=[(0,_),(1,_),(4,_),(5,_)]) (to:=[(4,_),(5,_),(100,_),(1100,_)]) ?_;refine wR<|wm ?_;obtain ⟨y22,hy23,h⟩:=zP h;refine xO [(100,100)] [] [100] (zQ y20.2.1 y20.2.2 y22 hy23) call53<|ws (fR underlying32 rfl sizeOf24 (by decide) rfl rfl)<|ws (sB (ns:=[_,_,_,_,_,_,_,_,_,_,_]) sizeOf24 rfl rfl rfl rfl rfl rfl rfl)<|wN ?_;exact ⟨((IntKind.u16.wrap y20.1),y22.1,y22.2.1,y22.2.2),(),h,sP⟩
    ·refine wK ?_;exact ⟨(0,0,v8,v9),(),h,sP⟩
   ·rintro ⟨m15,m16,v17,v18⟩ _ h;refine wQ<|wQ<|wR<|wm ?_;refine wN ?_;refine wJ (zR h) (fun (⟨m24,m25,m26,m27,m28,m29,v30,v31⟩:Int × List PT × List PT × List PT × List PT × List EV × List Int × Int) (_:Unit)=>⟨65,[(4,.ref 4 0),(5,.ref 5 0)],[(4,.cells 32 [.d (.v (.int .u8 0)),.d (.v (.int .u8 0)),.d (.v (.int .u64 0)),.d (.v (.int .u16 0)),.d (.v (.int .u64 0)),.d (.v (.int .u8 0)),.d (.sl (List.map PT.e ([]:List PT))),.d (.sl (List.map PT.e ([]:List PT))),.d (.sl (List.map PT.e ([]:List PT))),.d (.sl (List.map PT.e ([]:List PT))),.d (.sl (List.map EV.e ([]:List EV)))]),(5,.cells 32 [.d (.v (.int .u8 kind1)),.d (.v (.int .u8 m6)),.d (.v (.int .u64 m7)),.d (.v (.int .u16 m15)),.d (.v (.int .u64 m16)),.d (.v (.int .u8 m24)),.d (.sl (List.map PT.e m25)),.d (.sl (List.map PT.e m26)),.d (.sl (List.map PT.e m27)),.d (.sl (List.map PT.e m28)),.d (.sl (List.map EV.e m29))]),(100,.cells 90 [.d (.sl (List.map (eK .u8) v30)),.d (.v (.int .i64 v31))]),(1100,.pin 100 (pv 100))]⟩) (fun h=>?_) ?_
    ·refine wB<|wQ<|wR<|ws (eQ rfl rfl)<|wa ?_;refine wN ?_;refine xD h rfl (fun _ h=>?_) (fun _ h=>?_)
     ·refine wR<|wm ?_;obtain ⟨y33,hy34,h⟩:=zP h;refine xO [(100,100)] [] [100] (yj v17 v18 y33 hy34) call52<|ws (fR underlying32 rfl sizeOf5 (by decide) rfl rfl)<|ws (sB (ns:=[_,_,_,_,_,_,_,_,_,_,_]) sizeOf5 rfl rfl rfl rfl rfl rfl rfl)<|wN ?_;exact ⟨(y33.1,([]:List PT),([]:List PT),([]:List PT),([]:List PT),([]:List EV),y33.2.1,y33.2.2),(),h,sP⟩
     ·refine wQ<|wQ<|wR<|ws (eQ rfl rfl)<|wa ?_;refine wN ?_;refine wJ (zR h) (fun (v35:Bool) (_:Unit)=>⟨65,[(0,.ref 100 0),(4,.ref 4 0),(5,.ref 5 0),(29,.d (.v (.int .u8 kind1))),(35,.d (.v (.bool v35)))],[(4,.cells 32 [.d (.v (.int .u8 0)),.d (.v (.int .u8 0)),.d (.v (.int .u64 0)),.d (.v (.int .u16 0)),.d (.v (.int .u64 0)),.d (.v (.int .u8 0)),.d (.sl (List.map PT.e ([]:List PT))),.d (.sl (List.map PT.e ([]:List PT))),.d (.sl (List.map PT.e ([]:List PT))),.d (.sl (List.map PT.e ([]:List PT))),.d (.sl (List.map EV.e ([]:List EV)))]),(5,.cells 32 [.d (.v (.int .u8 kind1)),.d (.v (.int .u8 m6)),.d (.v (.int .u64 m7)),.d (.v (.int .u16 m15)),.d (.v (.int .u64 m16)),.d (.v (.int .u8 0)),.d (.sl (List.map PT.e ([]:List PT))),.d (.sl (List.map PT.e ([]:List PT))),.d (.sl (List.map PT.e ([]:List PT))),.d (.sl (List.map PT.e ([]:List PT))),.d (.sl (List.map EV.e ([]:List EV)))]),(100,.cells 90 [.d (.sl (List.map (eK .u8) v17)),.d (.v (.int .i64 v18))]),(1100,.pin 100 (pv 100))]⟩) (fun h=>?_) ?_
      ·refine xD h rfl (fun _ h=>?_) (fun _ h=>?_)
       ·refine wK ?_;exact ⟨(decide (kind1 = 3)),(),h,sP⟩
       ·refine wQ<|wR<|ws (eQ rfl rfl)<|wa ?_;refine wN ?_;refine xD h rfl (fun _ h=>?_) (fun _ h=>?_)
        ·refine wK ?_;exact ⟨(decide (kind1 = 6)),(),h,sP⟩
        ·refine wR<|ws (eQ rfl rfl)<|wa ?_;refine wN ?_;exact ⟨(decide (kind1 = 7)),(),h,sP⟩
      ·rintro v35 _ h;refine xD h rfl (fun _ h=>?_) (fun _ h=>?_)
       ·refine wR<|wm ?_;obtain ⟨y39,hy40,h⟩:=zP h;refine xO [(100,100)] [] [100] (xw v17 v18 y39 hy40) call55<|ws (fR underlying32 rfl sizeOf27 (by decide) rfl rfl)<|ws (sB (ns:=[_,_,_,_,_,_,_,_,_,_,_]) sizeOf27 rfl rfl rfl rfl rfl rfl rfl)<|wN ?_;exact ⟨(0,y39.1,([]:List PT),([]:List PT),([]:List PT),([]:List EV),y39.2.1,y39.2.2),(),h,sP⟩
       ·refine wQ<|wR<|ws (eQ rfl rfl)<|wa ?_;refine wN ?_;refine xD h rfl (fun _ h=>?_) (fun _ h=>?_)
        ·refine wR<|wm ?_;obtain ⟨y42,hy43,h⟩:=zP h;refine xO [(100,100)] [] [100] (YY v17 v18 y42 hy43) call56<|ws (fR underlying32 rfl sizeOf30 (by decide) rfl rfl)<|ws (sB (ns:=[_,_,_,_,_,_,_,_,_,_,_]) sizeOf30 rfl rfl rfl rfl rfl rfl rfl)<|wN ?_;exact ⟨(0,([]:List PT),([]:List PT),y42.1.from_,y42.1.to_,y42.1.events,y42.2.1,y42.2.2),(),h,sP⟩
        ·refine wQ<|wR<|ws (eQ rfl rfl)<|wa ?_;refine wN ?_;refine xD h rfl (fun _ h=>?_) (fun _ h=>?_)
         ·refine wQ<|wR<|wm ?_;obtain ⟨y45,hy46,h⟩:=zP h;refine xO [(100,100)] [] [100] (YY v17 v18 y45 hy46) call56<|ws (fR underlying32 rfl sizeOf30 (by decide) rfl rfl)<|ws (sB (ns:=[_,_,_,_,_,_,_,_,_,_,_]) sizeOf30 rfl rfl rfl rfl rfl rfl rfl)<|wN<|wz (tl:=[(0,_),(4,_),(5,_)]) (to:=[(4,_),(5,_),(100,_),(1100,_)]) ?_;refine wR<|wm ?_;obtain ⟨y47,hy48,h⟩:=zP h;refine xO [(100,100)] [] [100] (xw y45.2.1 y45.2.2 y47 hy48) call55<|ws (fR underlying32 rfl sizeOf27 (by decide) rfl rfl)<|ws (sB (ns:=[_,_,_,_,_,_,_,_,_,_,_]) sizeOf27 rfl rfl rfl rfl rfl rfl rfl)<|wN ?_;exact ⟨(0,([]:List PT),y47.1,y45.1.from_,y45.1.to_,y45.1.events,y47.2.1,y47.2.2),(),h,sP⟩
         ·refine wQ<|wR<|ws (eQ rfl rfl)<|wa ?_;refine wN ?_;refine xD h rfl (fun _ h=>?_) (fun _ h=>?_)
          ·refine wQ<|wR<|wm ?_;obtain ⟨y50,hy51,h⟩:=zP h;refine xO [(100,100)] [] [100] (xw v17 v18 y50 hy51) call55<|ws (fR underlying32 rfl sizeOf27 (by decide) rfl rfl)<|ws (sB (ns:=[_,_,_,_,_,_,_,_,_,_,_]) sizeOf27 rfl rfl rfl rfl rfl rfl rfl)<|wN<|wz (tl:=[(0,_),(4,_),(5,_)]) (to:=[(4,_),(5,_),(100,_),(1100,_)]) ?_;refine wR<|wm ?_;obtain ⟨y52,hy53,h⟩:=zP h;refine xO [(100,100)] [] [100] (Zc 4 y50.2.1 y50.2.2 y52 hy53) call57<|ws (fR underlying32 rfl sizeOf30 (by decide) rfl rfl)<|ws (fR underlying30 rfl sizeOf28 (by decide) rfl rfl)<|ws (sB (ns:=[_,_,_,_,_,_,_,_,_,_,_]) sizeOf28 rfl rfl rfl rfl rfl rfl rfl)<|wN ?_;exact ⟨(0,y50.1,([]:List PT),([]:List PT),([]:List PT),y52.1,y52.2.1,y52.2.2),(),h,sP⟩
          ·refine wK ?_;exact ⟨(0,([]:List PT),([]:List PT),([]:List PT),([]:List PT),([]:List EV),v17,v18),(),h,sP⟩
    ·rintro ⟨m24,m25,m26,m27,m28,m29,v30,v31⟩ _ h;refine wQ<|wR<|ws (lA (ps:=[_,_,_,_,_,_,_,_,_,_,_]) isAgg32 sizeOf32 rfl rfl rfl rfl)<|ws (sB (ns:=[_,_,_,_,_,_,_,_,_,_,_]) sizeOf32 rfl rfl rfl rfl rfl rfl rfl)<|wN<|wX ?_;cases h;exact EndsO.mkX (ex:=[(4,_)]) () (.inr rfl) (sP (tl:=[(4,_)]) (to:=[(100,_),(1100,_),(4,_)])) (.cons (.agg isAgg32 sizeOf32 rfl rfl rfl)<|.nil) rfl rfl

theorem Xh (b_1:List Int) (bad_2:Int) (r0:Int × List Int × Int) (h:(xb b_1 bad_2).wp (· = r0)):PObj prog 19 [.ref 100 0] [(100,.cells 90 [.d (.sl (List.map (eK .u8) b_1)),.d (.v (.int .i64 bad_2))])] [100] (.d (.v (.int .i64 r0.1))) (fun _:Unit=>[(100,.cells 90 [.d (.sl (List.map (eK .u8) r0.2.1)),.d (.v (.int .i64 r0.2.2))])]):=by
 refine PObj.intro (sl:=[(0,_)]) func19 rfl ntmps19 rfl rfl rfl ?_;intro ctx hK pv;refine wQ<|wR<|wa ?_;refine wN<|wQ<|wQ<|wR<|wm ?_;obtain ⟨y3,hy4,h⟩:=zP h;refine xO [(100,100)] [] [100] (xR b_1 bad_2 y3 hy4) call58<|ws (LR.gtr rfl rfl)<|wN ?_;refine wJ (zR h) (fun (⟨v5,v6⟩:List Int × Int) (_:Unit)=>⟨10,[(0,.ref 100 0)],[(100,.cells 90 [.d (.sl (List.map (eK .u8) v5)),.d (.v (.int .i64 v6))]),(1100,.pin 100 (pv 100))]⟩) (fun h=>?_) ?_
 ·refine xD h rfl (fun _ h=>?_) (fun _ h=>?_)
  ·refine wz (tl:=[(0,_)]) (to:=[(100,_),(1100,_)]) ?_;refine wR<|wm ?_;obtain ⟨y8,hy9,h⟩:=zP h;refine xO [(100,100)] [] [100] (zI 4 y3.2.1 y3.2.2 y8 hy9) call59<|wN ?_;exact ⟨(y8.1,y8.2),(),h,sP⟩
  ·refine wK ?_;exact ⟨(y3.2.1,y3.2.2),(),h,sP⟩
 ·rintro ⟨v5,v6⟩ _ h;refine wQ<|wR<|wm ?_;obtain ⟨y10,hy11,h⟩:=zP h;refine xO [(100,100)] [] [100] (zY v5 v6 y10 hy11) call60<|wa ?_;refine wN<|wX ?_;cases h;exact EndsO.mk () (.inr rfl) (sP (tl:=[(2,_)]) (to:=[(100,_),(1100,_)])) (.cons (.tmp rfl)<|.nil) rfl rfl

theorem Ys (b1:List Int) (r0:TMsg × Int) (h:(vk b1).wp (· = r0)):PFunL (Tab 0 .u32 tabG) prog 7 [.d (.sl (List.map (eK .u8) b1))] (.tup [.agg (List.map .d (TMsg.e r0.1)),.d (.v (.int .i64 r0.2))]):=by
 refine PFunL.intro (sl:=[(0,_)]) func7 rfl ntmps7 rfl rfl ?_;intro ctx hK hT;refine wQ<|wR<|ws (LR.allocZ (cs:=[_,_,_,_,_,_,_,_,_,_,_]) zeroValue32 rfl rfl rfl rfl)<|wa ?_;refine wN<|wQ<|wR<|wm ?_;obtain ⟨v2,hy3,h⟩:=zP h;refine ws (LR.callL hT (zTa b1 v2 hy3) rfl call16 rfl rfl rfl rfl)<|wm ?_;refine ws (LR.extract rfl rfl)<|ws (LR.extract rfl rfl)<|ws (LR.extract rfl rfl)<|wa ?_;refine wa ?_;refine wa ?_;refine wN<|wQ<|wQ<|wR<|wm ?_;refine ws (nQ rfl rfl)<|wN ?_;refine xD h rfl (fun _ h=>?_) (fun _ h=>?_)
 ·refine wQ<|wR<|ws (LR.build (ns:=[_,_,_,_,_,_,_,_,_,_,_]) VR rfl rfl rfl)<|wm ?_;refine ws (sB (ns:=[_,_,_,_,_,_,_,_,_,_,_]) sizeOf32 rfl rfl rfl rfl rfl rfl rfl)<|wa ?_;refine wN<|wX ?_;cases h;exact ⟨.inr rfl,_,.cons (.agg isAgg32 sizeOf32 rfl rfl rfl rfl)<|.cons (.tmp rfl rfl)<|.nil,rfl⟩
 ·refine wK<|wQ<|wQ ?_;refine wJ (zR h) (fun (v5:Bool) (_:Unit)=>⟨43,[(2,.ref 2 0),(4,.d (.v (.int .u8 v2.1))),(5,.d (.sl (List.map (eK .u8) v2.2.1))),(25,.d (.v (.bool v5)))],[(2,.cells 32 [.d (.v (.int .u8 0)),.d (.v (.int .u8 0)),.d (.v (.int .u64 0)),.d (.v (.int .u16 0)),.d (.v (.int .u64 0)),.d (.v (.int .u8 0)),.d (.sl (List.map PT.e ([]:List PT))),.d (.sl (List.map PT.e ([]:List PT))),.d (.sl (List.map PT.e ([]:List PT))),.d (.sl (List.map PT.e ([]:List PT))),.d (.sl (List.map EV.e ([]:List EV)))])]⟩) (fun h=>?_) ?_
  ·refine wR<|wm ?_;refine ws (eQ rfl rfl)<|wm ?_;refine xG (d:=22) h rfl (fun _ h=>?_) (fun _ h=>?_)
   ·refine wf<|wf<|ws (pT rfl rfl)<|wN ?_;exact ⟨true,(),h,sP⟩
   ·refine wt (mV rfl)<|wt (LR.gtr rfl rfl)<|ws (pF rfl rfl)<|wN ?_;exact ⟨(decide (9 < v2.1)),(),h,sP⟩
  ·rintro v5 _ h;refine xD h rfl (fun _ h=>?_) (fun _ h=>?_)
   ·refine wQ<|wR<|ws (LR.build (ns:=[_,_,_,_,_,_,_,_,_,_,_]) VR rfl rfl rfl)<|ws (sB (ns:=[_,_,_,_,_,_,_,_,_,_,_]) sizeOf32 rfl rfl rfl rfl rfl rfl rfl)<|wa ?_;refine wN<|wX ?_;cases h;exact ⟨.inr rfl,_,.cons (.agg isAgg32 sizeOf32 rfl rfl rfl rfl)<|.cons (.tmp rfl rfl)<|.nil,rfl⟩
   ·refine wK<|wQ<|wR<|wm ?_;obtain ⟨y8,hy9,h⟩:=zP h;refine xO [(7,28)] [] [7] (qi v2.2.1 y8 hy9) call17<|wa ?_;refine wN<|wQ<|wz (tl:=[(2,_),(4,_),(7,_)]) (to:=[(2,_),(28,_)]) ?_;refine wR<|wm ?_;refine wm ?_;obtain ⟨y10,hy11,h⟩:=zP h;refine xO [(100,28)] [] [100] (VY v2.1 y8.1 y8.2 y10 hy11) call18<|ws (LR.allocZ (cs:=[_,_,_,_,_,_,_,_,_,_,_]) zeroValue32 rfl rfl rfl rfl)<|ws (sB (ns:=[_,_,_,_,_,_,_,_,_,_,_]) sizeOf32 rfl rfl rfl rfl rfl rfl rfl)<|wN<|wQ<|wQ<|wz (tl:=[(2,_),(7,_),(8,_)]) (to:=[(2,_),(8,_),(28,_)]) ?_;refine wR<|wm ?_;obtain ⟨y12,hy13,h⟩:=zP h;refine xO [(100,28)] [] [100] (Xh y10.2.1 y10.2.2 y12 hy13) call19<|wa ?_;refine wN<|wQ<|wz (tl:=[(2,_),(8,_),(9,_)]) (to:=[(2,_),(8,_)]) ?_;refine wR<|wm ?_;refine ws (nQ rfl rfl)<|wN ?_;refine xD h rfl (fun _ h=>?_) (fun _ h=>?_)
    ·refine wQ<|wR<|ws (LR.build (ns:=[_,_,_,_,_,_,_,_,_,_,_]) VR rfl rfl rfl)<|wm ?_;refine ws (sB (ns:=[_,_,_,_,_,_,_,_,_,_,_]) sizeOf32 rfl rfl rfl rfl rfl rfl rfl)<|wa ?_;refine wN<|wX ?_;cases h;exact ⟨.inr rfl,_,.cons (.agg isAgg32 sizeOf32 rfl rfl rfl rfl)<|.cons (.tmp rfl rfl)<|.nil,rfl⟩
    ·refine wK<|wQ<|wQ<|wR<|ws (lA (ps:=[_,_,_,_,_,_,_,_,_,_,_]) isAgg32 sizeOf32 rfl rfl rfl rfl) ?_;obtain ⟨v15,hy16,h⟩:=zP h;refine xN (jH y10.1 v15 hy16) call20<|ws (LR.not rfl)<|wN ?_;refine xD h rfl (fun _ h=>?_) (fun _ h=>?_)
     ·refine wQ<|wR<|ws (LR.build (ns:=[_,_,_,_,_,_,_,_,_,_,_]) VR rfl rfl rfl)<|ws (sB (ns:=[_,_,_,_,_,_,_,_,_,_,_]) sizeOf32 rfl rfl rfl rfl rfl rfl rfl)<|wa ?_;refine wN<|wX ?_;cases h;exact ⟨.inr rfl,_,.cons (.agg isAgg32 sizeOf32 rfl rfl rfl rfl)<|.cons (.tmp rfl rfl)<|.nil,rfl⟩
     ·refine wK<|wQ<|wR<|ws (lA (ps:=[_,_,_,_,_,_,_,_,_,_,_]) isAgg32 sizeOf32 rfl rfl rfl rfl)<|ws (sB (ns:=[_,_,_,_,_,_,_,_,_,_,_]) sizeOf32 rfl rfl rfl rfl rfl rfl rfl)<|wa ?_;refine wN<|wX ?_;cases h;exact ⟨.inr rfl,_,.cons (.agg isAgg32 sizeOf32 rfl rfl rfl rfl)<|.cons (.tmp rfl rfl)<|.nil,rfl⟩


theorem yYa (c1:Int) (x2:Int) (r0:Int) (h:(UP c1 x2).wp (· = r0)):PFun prog 73 [.d (.v (.int .u32 c1)),.d (.v (.int .u8 x2))] (.d (.v (.int .u32 r0))):=by
 refine fI (sl:=[(0,_),(1,_)]) func73 rfl ntmps73 rfl rfl ?_;intro ctx hK;refine wQ<|wR<|wa ?_;refine wN<|wQ<|wR<|wm ?_;refine wm ?_;refine ws (LR.convInt underlying41 (by rw [underlying5];rfl) rfl rfl) ?_;refine ws (LR.xor rfl rfl)<|wa ?_;refine wN<|wQ<|wQ<|wR<|wa ?_;refine wN ?_;refine wJ (zR h) (fun (c3:Int) (_:Unit)=>⟨24,[(0,.d (.v (.int .u32 c3)))],[]⟩) (fun h=>?_) ?_
 ·refine wB<|wM (fun (⟨c12,i13⟩:Int × Int) (_:Unit)=>⟨24,[(0,.d (.v (.int .u32 c12))),(5,.d (.v (.int .i64 i13)))],[]⟩) () h (sP) ?_;rintro N ⟨c12,i13⟩ _ h;refine wQ<|wQ<|wR<|wm ?_;refine ws (LR.lss rfl rfl)<|wN ?_;refine xD h rfl (fun _ h=>?_) (fun _ h=>?_)
  ·refine wK<|wQ ?_;refine wJ (zR h) (fun (c15:Int) (_:Unit)=>⟨24,[(0,.d (.v (.int .u32 c15))),(5,.d (.v (.int .i64 i13)))],[]⟩) (fun h=>?_) ?_
   ·refine wB<|wQ<|wR<|wm ?_;refine ws (LR.rem rfl rfl (by decide))<|ws (eQ rfl rfl)<|wa ?_;refine wN<|wQ<|wR<|wm ?_;refine ws (LR.quoW rfl rfl (by decide))<|wa ?_;refine wN<|wQ<|wR<|wm ?_;refine wN ?_;refine xD h rfl (fun _ h=>?_) (fun _ h=>?_)
    ·refine wR<|wm ?_;refine ws (LR.xor rfl rfl)<|wa ?_;refine wN ?_;exact ⟨(WU .u32 (IntKind.u32.wrap (Int.tdiv c12 2)) 3988292384),(),h,sP⟩
    ·refine wK ?_;exact ⟨(IntKind.u32.wrap (Int.tdiv c12 2)),(),h,sP⟩
   ·rintro c15 _ h;refine wR<|wm ?_;refine ws (LR.addW rfl rfl)<|wa ?_;refine wN ?_;exact ⟨(c15,(IntKind.i64.wrap (i13 + 1))),(),h,sP⟩
  ·refine wZ ?_;exact ⟨c12,(),h,sP⟩
 ·rintro c3 _ h;refine wQ<|wR<|wm ?_;refine wa ?_;refine wN<|wX ?_;cases h;exact xT

theorem yZa (sum1:Int) (b2:List Int) (r0:Int) (h:(Wg sum1 b2).wp (· = r0)):PFun prog 30 [.d (.v (.int .u32 sum1)),.d (.sl (List.map (eK .u8) b2))] (.d (.v (.int .u32 r0))):=by
 refine fI (sl:=[(0,_),(1,_)]) func30 rfl ntmps30 rfl rfl ?_;intro ctx hK;refine wQ<|wR<|wa ?_;refine wN<|wQ<|wR<|wm ?_;refine ws (LR.xor rfl rfl)<|wa ?_;refine wN<|wQ<|wQ<|wR<|wa ?_;refine wN ?_;refine wJ (zR h) (fun (c3:Int) (_:Unit)=>⟨23,[(5,.d (.v (.int .u32 c3)))],[]⟩) (fun h=>?_) ?_
 ·refine wB<|wM (fun (⟨c16,i17⟩:Int × Int) (_:Unit)=>⟨23,[(1,.d (.sl (List.map (eK .u8) b2))),(5,.d (.v (.int .u32 c16))),(6,.d (.v (.int .i64 i17)))],[]⟩) () h (sP) ?_;rintro N ⟨c16,i17⟩ _ h;refine wQ<|wQ<|wR<|wm ?_;refine wm ?_;refine ws (lM (enc:=(eK .u8)) (L:=b2) underlying22 rfl)<|ws (LR.lss rfl rfl)<|wN ?_;refine xD h rfl (fun _ h=>?_) (fun _ h=>?_)
  ·refine wK<|wQ<|wB<|wR<|wm ?_;refine wm ?_;refine wm ?_;obtain ⟨x19,hy20,h⟩:=vI h;refine ws (iX (enc:=(eK .u8)) (L:=b2) (y:=x19) underlying22 sizeOf5 rfl rfl hy20 (fun _=>rfl))<|ws (LR.loadEp isAgg5 rfl rfl) ?_;obtain ⟨v21,hy22,h⟩:=zP h;refine xN (yYa c16 x19 v21 hy22) call73<|wa ?_;refine wN<|wR<|wm ?_;refine ws (LR.addW rfl rfl)<|wa ?_;refine wN ?_;exact ⟨(v21,(IntKind.i64.wrap (i17 + 1))),(),h,sP⟩
  ·refine wZ ?_;exact ⟨c16,(),h,sP⟩
 ·rintro c3 _ h;refine wQ<|wR<|wm ?_;refine ws (LR.xor rfl rfl)<|wa ?_;refine wN<|wX ?_;cases h;exact xT

theorem jL (kind1:Int) (body2:List Int) (r0:List Int) (h:(Wh kind1 body2).wp (· = r0)):PRow prog 9 [.d (.v (.int .u8 kind1)),.d (.sl (List.map (eK .u8) body2))] 5 1 (List.map (eK .u8) r0):=by
 refine PRow.intro (sl:=[(0,_),(1,_)]) func9 rfl ntmps9 rfl rfl ?_;intro ctx hK;refine wQ<|wR<|ws (aR 5 1 rfl)<|wN<|wQ<|wR<|wm ?_;refine ws (LR.buildSlice [.tmp 8] xq rfl rfl (.cons rfl rfl rfl<|.nil) (by decide) (by decide) rfl)<|wm ?_;obtain ⟨hy3,h⟩:=zt h;refine ws (LR.appT (enc:=(eK .u8)) (L:=[kind1]) (R:=body2) [9] xq underlying22 rfl (by first | (simp;done) | (simp;omega) | omega) rfl (Src.slT (enc:=(eK .u8)) (R:=body2) rfl (fun _=>rfl)) (fun _=>rfl) hy3 rfl rfl) ?_;refine wa ?_;refine wN<|wQ<|wR<|wm ?_;obtain ⟨v4,hy5,h⟩:=zP h;refine ws (LR.callLend (yZa 0 ([kind1] ++ body2) v4 hy5) rfl call30 rfl (.data rfl rfl<|.row rfl (by simp)<|.nil)) ?_;refine wa ?_;refine wN<|wQ<|wQ<|wR<|wa ?_;refine wN ?_;refine wJ (zR h) (fun (v6:List Int) (_:Unit)=>⟨27,[(5,.row 9 (v6.length))],[(9,.row 5 1 (List.map (eK .u8) v6))]⟩) (fun h=>?_) ?_
 ·refine wB<|wM (fun (⟨c14,i15,v16⟩:Int × Int × List Int) (_:Unit)=>⟨27,[(5,.row 9 (v16.length)),(6,.d (.v (.int .u32 c14))),(7,.d (.v (.int .i64 i15)))],[(9,.row 5 1 (List.map (eK .u8) v16))]⟩) () h (sP) ?_;rintro N ⟨c14,i15,v16⟩ _ h;refine wQ<|wQ<|wR<|wm ?_;refine ws (LR.lss rfl rfl)<|wN ?_;refine xD h rfl (fun _ h=>?_) (fun _ h=>?_)
  ·refine wK<|wQ<|wB<|wQ<|wR<|wm ?_;refine wm ?_;refine ws (LR.rem rfl rfl (by decide)) ?_;refine ws (LR.convInt underlying5 (by rw [underlying41];rfl) rfl rfl) ?_;refine ws (LR.buildSliceD [.tmp 21] xq rfl rfl (.cons rfl rfl rfl<|.nil) (by decide) (by decide)) ?_;obtain ⟨hy18,h⟩:=zt h;refine ws (LR.appT (enc:=(eK .u8)) (L:=v16) (R:=[(IntKind.u8.wrap (Int.tmod c14 256))]) [5,18] xq underlying22 rfl rfl rfl (Src.slT (enc:=(eK .u8)) (R:=[(IntKind.u8.wrap (Int.tmod c14 256))]) rfl (fun _=>rfl)) (fun _=>rfl) hy18 rfl rfl)<|wa ?_;refine wN<|wR<|wm ?_;refine ws (LR.quoW rfl rfl (by decide))<|wa ?_;refine wN<|wR<|wm ?_;refine ws (LR.addW rfl rfl)<|wa ?_;refine wN ?_;exact ⟨((IntKind.u32.wrap (Int.tdiv c14 256)),(IntKind.i64.wrap (i15 + 1)),(v16 ++ [(IntKind.u8.wrap (Int.tmod c14 256))])),(),h,sO rfl (.cons rfl (by first | rfl | (simp;done) | (congr 1;first | (simp;done) | (simp;omega) | omega))<|.c2 rfl rfl rfl rfl<|.nil) (.cons rfl rfl<|.nil)⟩
  ·refine wZ ?_;exact ⟨v16,(),h,sP⟩
 ·rintro v6 _ h;refine wQ<|wR<|wm ?_;refine wa ?_;refine wN<|wX ?_;cases h;exact ⟨.inr rfl,4,rfl,.inr ⟨9,_,rfl,(by simp),rfl⟩⟩

theorem UA (b1:List Int) (kind2:Int) (r0:Bool) (h:(uJ b1 kind2).wp (· = r0)):PFunL (Tab 0 .u32 tabG) prog 5 [.d (.sl (List.map (eK .u8) b1)),.d (.v (.int .u8 kind2))] (.d (.v (.bool r0))):=by
 refine PFunL.intro (sl:=[(0,_),(1,_)]) func5 rfl ntmps5 rfl rfl ?_;intro ctx hK hT;refine wQ<|wR<|wa ?_;refine wN<|wQ<|wQ<|wR<|wm ?_;refine ws (lM (enc:=(eK .u8)) (L:=b1) underlying22 rfl)<|ws (LR.gtr rfl rfl)<|wN ?_;refine xD h rfl (fun _ h=>?_) (fun _ h=>?_)
 ·refine wQ<|wR ?_;obtain ⟨v4,hy5,h⟩:=zP h;refine ws (LR.callL hT (Yq v4 hy5) rfl call6 rfl rfl rfl rfl)<|wa ?_;refine wN<|wX ?_;cases h;exact xT
 ·refine wK<|wQ<|wR<|wm ?_;refine wm ?_;obtain ⟨v6,hy7,h⟩:=zP h;refine ws (LR.rowN (jL kind2 b1 v6 hy7) rfl call9 rfl rfl rfl rfl)<|wa ?_;refine wN<|wQ<|wR<|wm ?_;obtain ⟨v8,hy9,h⟩:=zP h;refine PWl.frz [5,18,20] hK (.cons rfl<|.cons rfl<|.cons rfl<|.nil) rfl (by simp) ?_;refine ws (LR.callL hT (Ys v6 v8 hy9) rfl call7 rfl rfl rfl rfl)<|wm ?_;refine ws (LR.extract rfl rfl)<|ws (LR.extract rfl rfl)<|ws (LR.allocZ (cs:=[_,_,_,_,_,_,_,_,_,_,_]) zeroValue32 rfl rfl rfl rfl)<|ws (sB (ns:=[_,_,_,_,_,_,_,_,_,_,_]) sizeOf32 rfl rfl rfl rfl rfl rfl rfl)<|wa ?_;refine wN<|wQ<|wQ<|wR<|wm ?_;refine ws (nQ rfl rfl)<|wN ?_;refine xD h rfl (fun _ h=>?_) (fun _ h=>?_)
  ·refine wQ ?_;refine wJ (zR h) (fun (v11:Bool) (_:Unit)=>⟨63,[(4,.d (.v (.bool v11)))],[]⟩) (fun h=>?_) ?_
   ·refine wR<|ws (fR underlying32 rfl sizeOf5 (by decide) rfl rfl)<|ws (lD isAgg5 rfl rfl rfl)<|wy (tl:=[(4,_),(27,_)]) (to:=[]) ?_;refine ws (eQ rfl rfl)<|wm ?_;refine xG (d:=29) h rfl (fun _ h=>?_) (fun _ h=>?_)
    ·obtain ⟨v13,hy14,h⟩:=zP h;refine wt (LR.callL hT (Yq v13 hy14) rfl call6 rfl rfl rfl rfl)<|ws (pT rfl rfl)<|wa ?_;refine wN ?_;exact ⟨v13,(),h,sP⟩
    ·refine wf<|ws (pF rfl rfl)<|wa ?_;refine wN ?_;exact ⟨false,(),h,sP⟩
   ·rintro v11 _ h;refine wX ?_;cases h;exact xT
  ·refine wK<|wQ<|wR<|ws (lA (ps:=[_,_,_,_,_,_,_,_,_,_,_]) isAgg32 sizeOf32 rfl rfl rfl rfl) ?_;obtain ⟨v15,hy16,h⟩:=zP h;refine ws (LR.callL hT (Yp v8.1 v15 hy16) rfl call13 rfl rfl rfl rfl)<|wy (tl:=[(0,_),(1,_),(5,_),(34,_)]) (to:=[]) ?_;refine wm ?_;refine ws (LR.extract rfl rfl)<|ws (LR.extract rfl rfl)<|wa ?_;refine wa ?_;refine wN<|wQ<|wR<|wm ?_;refine wm ?_;refine wm ?_;refine ws (lM (enc:=(eK .u8)) (L:=b1) underlying22 rfl)<|ws (LR.subW rfl rfl)<|ws (LR.maxI rfl rfl) ?_;obtain ⟨hy17,h⟩:=zt h;refine ws (LR.cutHT (enc:=(eK .u8)) (L:=b1) underlying22 sizeOf5 rfl (fun _=>rfl) rfl hy17) ?_;obtain ⟨v18,hy19,h⟩:=zP h;refine ws (LR.rowN (jL kind2 ((List.drop (Int.toNat 0) (List.take (Int.toNat ((max ((IntKind.i64.wrap ((b1.length:Int) - 1))) 0))) b1))) v18 hy19) rfl call9 rfl rfl rfl rfl) ?_;obtain ⟨v20,hy21,h⟩:=zP h;refine PWl.frz [45] hK (.cons rfl<|.nil) rfl (by simp) ?_;refine ws (LR.callL hT (Ys v18 v20 hy21) rfl call7 rfl rfl rfl rfl)<|wm ?_;refine ws (LR.extract rfl rfl)<|ws (LR.extract rfl rfl)<|wy (tl:=[(5,_),(8,_),(9,_),(47,_),(48,_)]) (to:=[]) ?_;refine ws (LR.allocZ (cs:=[_,_,_,_,_,_,_,_,_,_,_]) zeroValue32 rfl rfl rfl rfl)<|ws (sB (ns:=[_,_,_,_,_,_,_,_,_,_,_]) sizeOf32 rfl rfl rfl rfl rfl rfl rfl)<|wa ?_;refine wN<|wQ ?_;refine wJ (zR h) (fun (v22:Bool) (_:Unit)=>⟨63,[(4,.d (.v (.bool v22)))],[]⟩) (fun h=>?_) ?_
   ·refine wR<|wm ?_;refine ws (eQ rfl rfl)<|wm ?_;refine xG (d:=51) h rfl (fun _ h=>?_) (fun _ h=>?_)
    ·refine wt (mV rfl)<|wt (mV rfl) ?_;obtain ⟨v24,hy25,h⟩:=zP h;refine wt (cN (Vx v6 v15.1 v24 hy25) rfl call15 rfl rfl rfl rfl)<|ws (pT rfl rfl)<|wm ?_;refine xG (d:=56) h rfl (fun _ h=>?_) (fun _ h=>?_)
     ·refine wt (mV rfl)<|wt (nQ rfl rfl)<|ws (pT rfl rfl)<|wm ?_;refine wy (tl:=[(60,_)]) (to:=[]) ?_;refine xG (d:=60) h rfl (fun _ h=>?_) (fun _ h=>?_)
      ·obtain ⟨v28,hy29,h⟩:=zP h;refine wt (LR.callL hT (Yq v28 hy29) rfl call6 rfl rfl rfl rfl)<|ws (pT rfl rfl)<|wa ?_;refine wN ?_;exact ⟨v28,(),h,sP⟩
      ·refine wf<|ws (pF rfl rfl)<|wa ?_;refine wN ?_;exact ⟨false,(),h,sP⟩
     ·refine wf<|wf<|ws (pF rfl rfl)<|wm ?_;refine wy (tl:=[(60,_)]) (to:=[]) ?_;refine wf<|ws (pF rfl rfl)<|wa ?_;refine wN ?_;exact ⟨false,(),h,sP⟩
    ·refine wf<|wf<|wf<|ws (pF rfl rfl)<|wm ?_;refine wf<|wf<|ws (pF rfl rfl)<|wm ?_;refine wf<|wy (tl:=[(60,_),(61,_)]) (to:=[]) ?_;refine ws (pF rfl rfl)<|wa ?_;refine wN ?_;exact ⟨false,(),h,sP⟩
   ·rintro v22 _ h;refine wX ?_;cases h;exact xT
end Go.Proofs

namespace Go.Ep
open Go

theorem Yt {n:Int} (h:-9223372036854775808 <= n) (h':n <= 9223372036854775807):IntKind.i64.wrap n = n:=by simp [IntKind.wrap,IntKind.bits,IntKind.signed];omega
theorem WF {n:Int} (h:0 <= n) (h':n <= 18446744073709551615):IntKind.u64.wrap n = n:=by simp [IntKind.wrap,IntKind.bits,IntKind.signed];omega
theorem wU16 {n:Int} (h:0 <= n) (h':n <= 65535):IntKind.u16.wrap n = n:=by simp [IntKind.wrap,IntKind.bits,IntKind.signed];omega
theorem wU8 {n:Int} (h:0 <= n) (h':n <= 255):IntKind.u8.wrap n = n:=by simp [IntKind.wrap,IntKind.bits,IntKind.signed];omega
theorem yN {i:Nat} (h:i < 9223372036854775807):IntKind.i64.wrap ((i:Int) + 1) = ((i + 1:Nat):Int):=by rw [Yt (by omega) (by omega)];rfl
namespace M
variable {α β σ ρ τ ε:Type}
theorem vC (p:Prop) [Decidable p] (x y:M α):cond (decide p) x y = if p then x else y:=by by_cases h:p <;> simp [h]
theorem Yu {body:σ -> M (Step σ ρ)} (l:List ε) (mk:Nat -> τ -> σ) (f:τ -> ε -> τ) (g:τ -> M ρ)
  (I:Nat -> τ -> Prop) (h1:∀ (i:Nat) (x:ε) (t:τ),l[i]? = some x -> i < l.length -> I i t -> body (mk i t) = pure (.next (mk (i + 1) (f t x))) /\ I (i + 1) (f t x))
  (h2:∀ t,I l.length t -> body (mk l.length t) = (g t).bind fun r=>pure (.done r)) (t0:τ) (h0:I 0 t0):loop body (mk 0 t0) = g (l.foldl f t0):=by
 have key:∀ k i t,i + k = l.length -> I i t -> loop body (mk i t) = g ((l.drop i).foldl f t):=by
  intro k
  induction k with
  | zero=>
   intro i t hi hI;have:i = l.length:=by omega
   subst this;rw [Um,h2 t hI,List.drop_length]
   rfl
  | succ k ih=>
   intro i t hi hI;have hlt:i < l.length:=by omega
   obtain ⟨h3,h4⟩:=h1 i l[i] t (List.getElem?_eq_getElem hlt) hlt hI;rw [zT h3,ih (i + 1) _ (by omega) h4,List.drop_eq_getElem_cons hlt]
   rfl
 simpa using key l.length 0 t0 (by omega) h0
theorem loopF {body:σ -> M (Step σ ρ)} (l:List ε) (mk:Nat -> σ) (p:Nat -> ε -> Bool) (r:Nat -> ε -> ρ) (d:M ρ)
  (h1:∀ (i:Nat) (x:ε),l[i]? = some x -> i < l.length -> body (mk i) = if p i x then pure (.done (r i x)) else pure (.next (mk (i + 1))))
  (h2:body (mk l.length) = d.bind fun r=>pure (.done r)):loop body (mk 0) = match (l.zipIdx).find? (fun y=>p y.2 y.1) with | some y=>pure (r y.2 y.1) | none=>d:=by
 have key:∀ k i,i + k = l.length -> loop body (mk i) = match ((l.drop i).zipIdx i).find? (fun y=>p y.2 y.1) with | some y=>pure (r y.2 y.1) | none=>d:=by
  intro k
  induction k with
  | zero=>
   intro i hi;have:i = l.length:=by omega
   subst this;rw [Um,h2,List.drop_length]
   rfl
  | succ k ih=>
   intro i hi;have hlt:i < l.length:=by omega
   have h3:=h1 i l[i] (List.getElem?_eq_getElem hlt) hlt;rw [List.drop_eq_getElem_cons hlt,List.zipIdx_cons,List.find?_cons]
   by_cases hp:p i l[i] = true
   ·rw [if_pos hp] at h3;rw [zV h3];simp [hp]
   ·rw [if_neg hp] at h3;rw [zT h3,ih (i + 1) (by omega)];simp [hp]
 simpa using key l.length 0 (by omega)
theorem xU {body:σ -> M (Step σ ρ)} (l:List ε) (mk:Nat -> σ) (p:Nat -> ε -> Bool) (r1 r2:ρ)
  (h1:∀ (i:Nat) (x:ε),l[i]? = some x -> i < l.length -> body (mk i) = if p i x then pure (.next (mk (i + 1))) else pure (.done r2))
  (h2:body (mk l.length) = pure (.done r1)):loop body (mk 0) = pure (if l.zipIdx.all (fun y=>p y.2 y.1) then r1 else r2):=by
 have key:∀ k i,i + k = l.length -> loop body (mk i) = pure (if ((l.drop i).zipIdx i).all (fun y=>p y.2 y.1) then r1 else r2):=by
  intro k
  induction k with
  | zero=>
   intro i hi;have:i = l.length:=by omega
   subst this;rw [zV h2,List.drop_length]
   rfl
  | succ k ih=>
   intro i hi;have hlt:i < l.length:=by omega
   have h3:=h1 i l[i] (List.getElem?_eq_getElem hlt) hlt;rw [List.drop_eq_getElem_cons hlt,List.zipIdx_cons,List.all_cons]
   by_cases hp:p i l[i] = true
   ·rw [if_pos hp] at h3;rw [zT h3,ih (i + 1) (by omega),hp,Bool.true_and]
   ·rw [if_neg hp] at h3;rw [zV h3];simp [hp]
 have:=key l.length 0 (by omega);rw [List.drop_zero] at this;exact this

def came {ε:Type} (m:List ε) (L:List Nat):List ε:=L.filterMap fun i=>m[i]?
theorem vma {m:List ε} {L:List Nat} {i:Nat} {y:ε} (h:m[i]? = some y):came m (L ++ [i]) = came m L ++ [y]:=by simp [came,h]
theorem qj {n:Nat} {L:List Nat} (hn:L.Nodup) (hb:∀ i ∈ L,i < n) (ha:∀ i,i < n -> i ∈ L):L.Perm (List.range n):=by
 refine (List.perm_ext_iff_of_nodup hn List.nodup_range).2 fun i=>?_
 rw [List.mem_range];exact ⟨hb i,ha i⟩
theorem vna {m:List ε} {L:List Nat} (hn:L.Nodup) (hb:∀ i ∈ L,i < m.length) (ha:∀ i,i < m.length -> i ∈ L):(came m L).Perm m:=by
 have h1:=(qj hn hb ha).filterMap fun i=>m[i]?
 have h2:(List.range m.length).filterMap (fun i=>m[i]?) = m:=by
  apply List.ext_getElem?;intro i;clear h1 hn hb ha;have:(List.range m.length).filterMap (fun i=>m[i]?) = m:=by
   induction m with
   | nil=>rfl
   | cons x r ih=>
    rw [List.length_cons,List.range_succ_eq_map,List.filterMap_cons];simp only [List.getElem?_cons_zero,List.filterMap_map]
    congr 1
  rw [this]
 rw [h2] at h1;exact h1
theorem voa {n:Nat} {L:List Nat} (hn:L.Nodup) (hb:∀ i ∈ L,i < n):L.length <= n:=by
 have:=List.Nodup.length_le_of_subset hn (l₂:=List.range n) (fun i hi=>List.mem_range.2 (hb i hi));simpa using this

theorem full {n:Nat} {L:List Nat} (hn:L.Nodup) (hb:∀ i ∈ L,i < n) (hl:n <= L.length):∀ i,i < n -> i ∈ L:=by
 intro i hi;refine Classical.byContradiction fun hni=>?_
 have:=voa (n:=n) (L:=i :: L) (List.nodup_cons.2 ⟨hni,hn⟩) (fun j hj=>by
  rcases List.mem_cons.1 hj with rfl | hj
  ·exact hi
  ·exact hb j hj)
 simp at this;omega
theorem loopM {body:σ -> M (Step σ ρ)} (m:List ε) (mk:List Nat -> τ -> σ) (f:τ -> ε -> M τ) (g:τ -> M ρ) (I:List ε -> τ -> Prop) (Q:ρ -> Prop)
  (hb:∀ L t,(∀ i ∈ L,i < m.length) -> body (mk L t) = yV (∀ i ∈ L,i < m.length) ((nxt m.length L).bind fun o=>match o with
   | none=>(g t).bind fun r=>pure (.done r)
   | some i=>(idx m (Int.ofNat i)).bind fun y=>(f t y).bind fun t'=>pure (.next (mk (L ++ [i]) t'))))
  (hs:∀ l t y,I l t -> l.length < m.length -> y ∈ m -> ∃ t',f t y = pure t' /\ I (l ++ [y]) t') (he:∀ l t,l.Perm m -> I l t -> (g t).wp Q) (t0:τ) (h0:I [] t0):(loop body (mk [] t0)).wp Q:=by
 have key:∀ k L t,L.length + k = m.length -> L.Nodup -> (∀ i ∈ L,i < m.length) -> I (came m L) t -> jx body Q (mk L t):=by
  intro k
  induction k with
  | zero=>
   intro L t hk hn hlt hI;refine Zp ?_;rw [hb L t hlt];have hall:∀ i,i < m.length -> i ∈ L:=fun i hi=>full hn hlt (by omega) i hi
   refine ⟨hlt,⟨⟨none,hall⟩,fun o ho=>?_⟩⟩
   cases o with
   | none=>
    have:=he _ t (vna hn hlt hall) hI;exact this
   | some i=>exact absurd (hall i ho.1) ho.2
  | succ k ih=>
   intro L t hk hn hlt hI;refine Zp ?_;rw [hb L t hlt];have hex:∃ i,i < m.length /\ i ∉ L:=by
    refine Classical.byContradiction fun hno=>?_
    have hall:∀ i,i < m.length -> i ∈ L:=fun i hi=>Classical.byContradiction fun h=>hno ⟨i,hi,h⟩
    have:=(qj hn hlt hall).length_eq;simp at this;omega
   obtain ⟨i0,hi0⟩:=hex;refine ⟨hlt,⟨⟨some i0,hi0⟩,fun o ho=>?_⟩⟩
   cases o with
   | none=>exact absurd (ho i0 hi0.1) hi0.2
   | some i=>
    have hi:=List.getElem?_eq_getElem ho.1;obtain ⟨t',h1,h2⟩:=hs (came m L) t m[i] hI (by have:=List.length_filterMap_le (fun i=>m[i]?) L;unfold came;omega) (List.getElem_mem ho.1);show ((idx m (Int.ofNat i)).bind _).wp _;rw [show (Int.ofNat i) = (i:Int) from rfl,zH hi,zA,h1,zA];refine ih (L ++ [i]) t' (by simp;omega) ?_ ?_ (by rw [vma hi];exact h2)
    ·rw [List.nodup_append];refine ⟨hn,by simp,fun a ha b hb'=>?_⟩;rw [List.mem_singleton.1 hb'];intro e;exact ho.2 (e ▸ ha)
    ·intro j hj;rcases List.mem_append.1 hj with hj | hj
     ·exact hlt j hj
     ·rw [List.mem_singleton.1 hj];exact ho.1
 exact key m.length [] t0 (by simp) List.nodup_nil (by simp) h0

theorem loopN {body:σ -> M (Step σ ρ)} (n:Nat) (mk:List Nat -> τ -> σ) (I:List Nat -> τ -> Prop) (Q:ρ -> Prop)
  (h:∀ L t,I L t -> L.Nodup -> (∀ i ∈ L,i < n) -> ∃ K:Option Nat -> M (Step σ ρ),body (mk L t) = yV (∀ i ∈ L,i < n) ((nxt n L).bind K) /\ ((∀ i,i < n -> i ∈ L) -> (K none).wp (Step.post (fun _=>False) Q)) /\
   ∀ i,i < n -> i ∉ L -> ∃ t',K (some i) = pure (.next (mk (L ++ [i]) t')) /\ I (L ++ [i]) t') (t0:τ) (h0:I [] t0):(loop body (mk [] t0)).wp Q:=by
 have key:∀ k L t,L.length + k = n -> L.Nodup -> (∀ i ∈ L,i < n) -> I L t -> jx body Q (mk L t):=by
  intro k
  induction k with
  | zero=>
   intro L t hk hn hlt hI;obtain ⟨K,h1,h2,h3⟩:=h L t hI hn hlt;refine Zp ?_;rw [h1];have hall:∀ i,i < n -> i ∈ L:=full hn hlt (by omega);refine ⟨hlt,⟨⟨none,hall⟩,fun o ho=>?_⟩⟩
   cases o with
   | none=>exact (K none).mono (fun a ha=>by cases a with | next s=>exact ha.elim | done r=>exact ha) (h2 hall)
   | some i=>exact absurd (hall i ho.1) ho.2
  | succ k ih=>
   intro L t hk hn hlt hI;obtain ⟨K,h1,h2,h3⟩:=h L t hI hn hlt;refine Zp ?_;rw [h1];have hex:∃ i,i < n /\ i ∉ L:=by
    refine Classical.byContradiction fun hno=>?_
    have hall:∀ i,i < n -> i ∈ L:=fun i hi=>Classical.byContradiction fun h=>hno ⟨i,hi,h⟩
    have:=(qj hn hlt hall).length_eq;simp at this;omega
   obtain ⟨i0,hi0⟩:=hex;refine ⟨hlt,⟨⟨some i0,hi0⟩,fun o ho=>?_⟩⟩
   cases o with
   | none=>exact absurd (ho i0 hi0.1) hi0.2
   | some i=>
    obtain ⟨t',h4,h5⟩:=h3 i ho.1 ho.2;show (K (some i)).wp _;rw [h4];refine ih (L ++ [i]) t' (by simp;omega) ?_ ?_ h5
    ·rw [List.nodup_append];refine ⟨hn,by simp,fun a ha b hb'=>?_⟩;rw [List.mem_singleton.1 hb'];intro e;exact ho.2 (e ▸ ha)
    ·intro j hj;rcases List.mem_append.1 hj with hj | hj
     ·exact hlt j hj
     ·rw [List.mem_singleton.1 hj];exact ho.1
 exact key n [] t0 (by simp) List.nodup_nil (by simp) h0
end M

namespace AL
variable {κ ν:Type} [DecidableEq κ]
theorem vja (m:List (κ × ν)) (k q:κ) (v:ν):get (set m k v) q = if k = q then some v else get m q:=by
 induction m with
 | nil=>simp [set,get]
 | cons x r ih=>
  obtain ⟨a,u⟩:=x
  by_cases h:a = k
  ·subst h;simp only [set,if_true,get];split <;> rfl
  ·simp only [set,h,if_false,get,ih]
   by_cases h2:a = q
   ·subst h2;simp [Ne.symm h]
   ·simp [h2]
theorem getZ_set (m:List (κ × ν)) (k q:κ) (v z:ν):getZ (set m k v) q z = if k = q then v else getZ m q z:=by
 unfold getZ;rw [vja];split <;> rfl
theorem keys_set (m:List (κ × ν)) (k:κ) (v:ν):(set m k v).map (·.1) = if k ∈ m.map (·.1) then m.map (·.1) else m.map (·.1) ++ [k]:=by
 induction m with
 | nil=>simp [set]
 | cons x r ih=>
  obtain ⟨a,u⟩:=x
  by_cases h:a = k
  ·subst h;simp [set]
  ·simp only [set,h,if_false,List.map_cons,ih,List.mem_cons,Ne.symm h,false_or]
   split <;> simp
theorem nodup_set {m:List (κ × ν)} (h:(m.map (·.1)).Nodup) (k:κ) (v:ν):((set m k v).map (·.1)).Nodup:=by
 rw [keys_set]
 split
 ·exact h
 ·rename_i hk
  rw [List.nodup_append];refine ⟨h,by simp,fun a ha b hb=>?_⟩;rw [List.mem_singleton.1 hb];intro e;exact hk (e ▸ ha)
theorem get_none {m:List (κ × ν)} {k:κ}:get m k = none ↔ k ∉ m.map (·.1):=by
 induction m with
 | nil=>simp [get]
 | cons x r ih=>
  obtain ⟨a,u⟩:=x
  by_cases h:a = k
  ·subst h;simp [get]
  ·simp [get,h,ih,Ne.symm h]
theorem get_mem {m:List (κ × ν)} {k:κ} {v:ν} (h:get m k = some v):(k,v) ∈ m:=by
 induction m with
 | nil=>simp [get] at h
 | cons x r ih=>
  obtain ⟨a,u⟩:=x
  by_cases e:a = k
  ·subst e;simp [get] at h;subst h;simp
  ·simp only [get,e,if_false] at h;exact List.mem_cons_of_mem _ (ih h)
theorem mem_get {m:List (κ × ν)} (hn:(m.map (·.1)).Nodup) {k:κ} {v:ν} (h:(k,v) ∈ m):get m k = some v:=by
 induction m with
 | nil=>simp at h
 | cons x r ih=>
  obtain ⟨a,u⟩:=x;simp only [List.map_cons,List.nodup_cons] at hn;rcases List.mem_cons.1 h with e | h
  ·cases e;simp [get]
  ·have:a ≠ k:=fun e=>hn.1 (e ▸ List.mem_map.2 ⟨(k,v),h,rfl⟩)
   simp only [get,this,if_false];exact ih hn.2 h
theorem len_set (m:List (κ × ν)) (k:κ) (v:ν):(set m k v).length <= m.length + 1:=by
 induction m with
 | nil=>simp [set]
 | cons x r ih=>
  obtain ⟨a,u⟩:=x;unfold set
  split
  ·simp
  ·simpa using ih
end AL
end Go.Ep

namespace Go.Ep.M.V
open Go

def yF (d:DT):Bool:=decide (1 <= d.dev) && (decide (1 <= d.n) && decide (d.n <= 281474976710655))
theorem uk {d:DT}:yF d = true ↔ 1 <= d.dev /\ 1 <= d.n /\ d.n <= 281474976710655:=by simp [yF]
theorem ul (d:DT):ZC d = pure (yF d):=by
 unfold ZC;rw [zW,zW,zA];refine congrArg pure ?_;rw [Bool.eq_iff_iff,uk];simp only [Bool.and_eq_true,decide_eq_true_eq];omega
theorem YK (d:DT):XZ d = pure (yF d):=by
 unfold XZ;rw [zW,zW,zA];refine congrArg pure ?_;rw [Bool.eq_iff_iff,uk];simp only [Bool.and_eq_true,decide_eq_true_eq];omega
theorem yaa (a b:List DT) (h:a.length <= 1000000000000):qD a b = pure (decide (a = b)):=by
 unfold qD
 by_cases hl:(a.length:Int) = b.length
 ·simp only [hl,decide_true,Bool.not_true,cond_false];have:=xU (body:=Zz a b) a (fun i=>(i:Int)) (fun i x=>decide (b[i]? = some x)) (.brk ()) (.ret false) (fun i x hx hi=>by
   have hb:i < b.length:=by omega
   unfold Zz;rw [zH hx,zH (List.getElem?_eq_getElem hb),yN (by omega)];simp only [zA,List.getElem?_eq_getElem hb,Option.some.injEq];have:decide ((i:Int) < (a.length:Int)) = true:=by simpa using hi
   rw [this,cond_true]
   by_cases he:b[i] = x
   ·subst he;simp
   ·rw [if_neg (by simpa using he)];have:(decide (x.dev = b[i].dev) && decide (x.n = b[i].n)) = false:=by
     rw [Bool.eq_false_iff];intro hc;simp at hc;apply he
     cases x;cases hh:b[i];simp_all
    rw [this];rfl) (by
   unfold Zz;simp)
  rw [show (0:Int) = ((0:Nat):Int) from rfl,this]
  by_cases he:a = b
  ·subst he;rw [if_pos]
   ·simp [zA,wV]
   ·rw [List.all_eq_true];intro ⟨x,i⟩ hx;rw [List.mk_mem_zipIdx_iff_getElem?] at hx;simpa using hx
  ·rw [if_neg]
   ·simp [he,zA,wn]
   ·intro hall;rw [List.all_eq_true] at hall;apply he;apply List.ext_getElem (by omega);intro i h1 h2;have:=hall (a[i],i) (by rw [List.mk_mem_zipIdx_iff_getElem?];exact List.getElem?_eq_getElem h1);simp [h2] at this;exact this.symm
 ·have hne:a ≠ b:=fun e=>hl (by rw [e])
  simp [hl,hne]

def ofV : List DT -> Int -> Int
 | [],_=>0
 | d :: r,dev=>if d.dev = dev /\ yF d = true then max d.n (ofV r dev) else ofV r dev
theorem vpa (v:List DT) (dev:Int):0 <= ofV v dev /\ ofV v dev <= 281474976710655:=by
 induction v with
 | nil=>simp [ofV]
 | cons d r ih=>
  simp only [ofV]
  split
  ·rename_i h;have:=uk.1 h.2;omega
  ·exact ih
theorem ofV_pos {v:List DT} {dev:Int}:0 < ofV v dev ↔ ∃ d ∈ v,d.dev = dev /\ yF d = true:=by
 induction v with
 | nil=>simp [ofV]
 | cons d r ih=>
  simp only [ofV,List.mem_cons,exists_eq_or_imp]
  split
  ·rename_i h
   have:=uk.1 h.2
   constructor
   ·intro _;exact .inl h
   ·intro _;omega
  ·rename_i h
   rw [ih]
   constructor
   ·exact .inr
   ·rintro (hh | hh)
    ·exact absurd hh h
    ·exact hh
def jq : List Int -> Int -> List Int
 | [],k=>[k]
 | a :: r,k=>if k < a then k :: a :: r else if k = a then a :: r else a :: jq r k
theorem US {l:List Int} {k q:Int}:q ∈ jq l k ↔ q = k \/ q ∈ l:=by
 induction l with
 | nil=>simp [jq]
 | cons a r ih=>
  unfold jq
  split
  ·simp
  ·split
   ·rename_i h;subst h;simp
   ·simp only [List.mem_cons,ih];constructor
    ·rintro (h | h | h) <;> simp [h]
    ·rintro (h | h | h) <;> simp [h]
theorem um {l:List Int} (h:l.Pairwise (· < ·)) (k:Int):(jq l k).Pairwise (· < ·):=by
 induction l with
 | nil=>simp [jq]
 | cons a r ih=>
  obtain ⟨h1,h2⟩:=List.pairwise_cons.1 h;unfold jq
  split
  ·rename_i hk
   refine List.pairwise_cons.2 ⟨fun x hx=>?_,h⟩;rcases List.mem_cons.1 hx with rfl | hx
   ·exact hk
   ·have:=h1 x hx;omega
  ·split
   ·exact h
   ·refine List.pairwise_cons.2 ⟨fun x hx=>?_,ih h2⟩;rcases US.1 hx with rfl | hx
    ·omega
    ·exact h1 x hx
theorem Wq (l : List Int) (k : Int) : (jq l k).length <= l.length + 1 := by
  induction l with
  | nil => simp [jq]
  | cons a r ih => unfold jq; split <;> try split
                   all_goals simp_all
def YL (l:List Int) (d:DT):List Int:=if yF d then jq l d.dev else l
def vqa (v:List DT):List Int:=v.foldl YL []
theorem YM (v:List DT):∀ l:List Int,l.Pairwise (· < ·) -> (v.foldl YL l).Pairwise (· < ·) /\ (∀ k,k ∈ v.foldl YL l ↔ k ∈ l \/ ∃ d ∈ v,d.dev = k /\ yF d = true) /\ (v.foldl YL l).length <= l.length + v.length:=by
 induction v with
 | nil=>intro l h;simp [h]
 | cons d r ih=>
  intro l h;simp only [List.foldl_cons];unfold YL
  split
  ·rename_i hg
   obtain ⟨h1,h2,h3⟩:=ih _ (um h d.dev);refine ⟨h1,fun k=>?_,?_⟩
   ·have:=h2 k;unfold YL at this;rw [this,US]
    constructor
    ·rintro ((rfl | h) | ⟨e,he,h⟩)
     ·exact .inr ⟨d,by simp,rfl,hg⟩
     ·exact .inl h
     ·exact .inr ⟨e,by simp [he],h⟩
    ·rintro (h | ⟨e,he,h⟩)
     ·exact .inl (.inr h)
     ·rcases List.mem_cons.1 he with rfl | he
      ·exact .inl (.inl h.1.symm)
      ·exact .inr ⟨e,he,h⟩
   ·have:=Wq l d.dev;simp only [List.length_cons];unfold YL at h3;omega
  ·rename_i hg
   obtain ⟨h1,h2,h3⟩:=ih _ h;refine ⟨h1,fun k=>?_,?_⟩
   ·have:=h2 k;unfold YL at this;rw [this]
    constructor
    ·rintro (h | ⟨e,he,h⟩)
     ·exact .inl h
     ·exact .inr ⟨e,by simp [he],h⟩
    ·rintro (h | ⟨e,he,h⟩)
     ·exact .inl h
     ·rcases List.mem_cons.1 he with rfl | he
      ·exact absurd h.2 hg
      ·exact .inr ⟨e,he,h⟩
   ·simp only [List.length_cons];unfold YL at h3;omega
theorem xV (v:List DT):(vqa v).Pairwise (· < ·):=(YM v [] List.Pairwise.nil).1
theorem wO {v:List DT} {k:Int}:k ∈ vqa v ↔ 0 < ofV v k:=by rw [ofV_pos];simpa [vqa] using (YM v [] List.Pairwise.nil).2.1 k
theorem xQa (v:List DT):(vqa v).length <= v.length:=by simpa [vqa] using (YM v [] List.Pairwise.nil).2.2
def uK (m:List (Int × Int)) (d:DT):List (Int × Int):=if yF d then AL.set m d.dev (max (AL.getZ m d.dev 0) d.n) else m
def wh (v:List DT):List (Int × Int):=v.foldl uK []
theorem UT (v:List DT):∀ m:List (Int × Int),(m.map (·.1)).Nodup -> ((v.foldl uK m).map (·.1)).Nodup /\ ((∀ k,0 <= AL.getZ m k 0) -> ∀ k,AL.getZ (v.foldl uK m) k 0 = max (AL.getZ m k 0) (ofV v k)) /\ (v.foldl uK m).length <= m.length + v.length /\ (∀ k,k ∈ (v.foldl uK m).map (·.1) -> k ∈ m.map (·.1) \/ 0 < ofV v k):=by
 induction v with
 | nil=>
  intro m h;refine ⟨h,fun h0 k=>?_,by simp,fun k hk=>.inl hk⟩;have:=h0 k;simp only [List.foldl_nil,ofV];omega
 | cons d r ih=>
  intro m h;simp only [List.foldl_cons]
  by_cases hg:yF d = true
  ·have hd:=uk.1 hg;have e:uK m d = AL.set m d.dev (max (AL.getZ m d.dev 0) d.n):=by simp [uK,hg]
   rw [e];obtain ⟨h1,h2,h3,h4⟩:=ih _ (AL.nodup_set h d.dev (max (AL.getZ m d.dev 0) d.n));refine ⟨h1,fun h0 k=>?_,?_,fun k hk=>?_⟩
   ·rw [h2 (fun q=>by rw [AL.getZ_set];have:=h0 q;have:=h0 d.dev;split <;> omega),AL.getZ_set];simp only [ofV]
    by_cases hk:d.dev = k
    ·subst hk;simp only [if_true,hg,and_self];omega
    ·simp [hk]
   ·have:=AL.len_set m d.dev (max (AL.getZ m d.dev 0) d.n);simp only [List.length_cons];omega
   ·simp only [ofV];rcases h4 k hk with h5 | h5
    ·rw [AL.keys_set] at h5
     split at h5
     ·exact .inl h5
     ·rcases List.mem_append.1 h5 with h5 | h5
      ·exact .inl h5
      ·right
       rw [List.mem_singleton.1 h5,if_pos ⟨rfl,hg⟩];omega
    ·right;split <;> omega
  ·have e:uK m d = m:=by simp [uK,hg]
   rw [e];obtain ⟨h1,h2,h3,h4⟩:=ih m h;have e2:∀ k,ofV (d :: r) k = ofV r k:=fun k=>by simp only [ofV];rw [if_neg (fun hh=>hg hh.2)]
   exact ⟨h1,fun h0 k=>by rw [h2 h0,e2],by simp only [List.length_cons];omega,fun k hk=>by rw [e2];exact h4 k hk⟩
theorem uR (v:List DT):((wh v).map (·.1)).Nodup:=(UT v [] (by simp)).1
theorem vD (v:List DT) (k:Int):AL.getZ (wh v) k 0 = ofV v k:=by
 have:=(UT v [] (by simp)).2.1 (fun _=>Int.le_refl _) k;have h2:=vpa v k;rw [wh,this];show max 0 (ofV v k) = _;omega
theorem ql (v:List DT):(wh v).length <= v.length:=by simpa [wh] using (UT v [] (by simp)).2.2.1
theorem YN {v:List DT} {k n:Int} (h:(k,n) ∈ wh v):n = ofV v k /\ 0 < n:=by
 have h1:=AL.mem_get (uR v) h;have h2:AL.getZ (wh v) k 0 = n:=by simp [AL.getZ,h1]
 rw [vD] at h2;have h3:=(UT v [] (by simp)).2.2.2 k (List.mem_map.2 ⟨_,h,rfl⟩);simp at h3;omega
def JD (h:Int × Int -> Int) (m:List (Int × Int)) (L:List Nat):List (Int × Int):=m.zipIdx.map fun y=>if y.2 ∈ L then (y.1.1,h y.1) else y.1
theorem xf {h:Int × Int -> Int} {m:List (Int × Int)} {L:List Nat} {i:Nat}:(JD h m L)[i]? = (m[i]?).map fun e=>if i ∈ L then (e.1,h e) else e:=by
 unfold JD;rw [List.getElem?_map,List.getElem?_zipIdx]
 cases m[i]? <;> simp
theorem UU {h:Int × Int -> Int} {m:List (Int × Int)} {L:List Nat}:(JD h m L).length = m.length:=by simp [JD]
theorem vra {m:List (Int × Int)} (hn:(m.map (·.1)).Nodup) {i:Nat} {e:Int × Int} (hi:m[i]? = some e) (v:Int):AL.set m e.1 v = m.set i (e.1,v):=by
 induction m generalizing i with
 | nil=>simp at hi
 | cons x r ih=>
  obtain ⟨a,u⟩:=x;simp only [List.map_cons,List.nodup_cons] at hn
  cases i with
  | zero=>simp at hi;subst hi;simp [AL.set]
  | succ i=>
   simp only [List.getElem?_cons_succ] at hi;have:a ≠ e.1:=fun he=>hn.1 (he ▸ List.mem_map.2 ⟨e,List.mem_of_getElem? hi,rfl⟩)
   simp only [AL.set,this,if_false,List.set_cons_succ];rw [ih hn.2 hi]
theorem Wr {h:Int × Int -> Int} {m:List (Int × Int)} {L:List Nat}:(JD h m L).map (·.1) = m.map (·.1):=by
 apply List.ext_getElem?;intro i;rw [List.getElem?_map,xf,List.getElem?_map]
 cases m[i]? with
 | none=>rfl
 | some e=>simp only [Option.map_some];split <;> rfl
theorem zUa {h:Int × Int -> Int} {m:List (Int × Int)} (hn:(m.map (·.1)).Nodup) {L:List Nat} {i:Nat} {e:Int × Int} (hi:m[i]? = some e) (hL:i ∉ L):AL.set (JD h m L) e.1 (h e) = JD h m (L ++ [i]):=by
 have h1:(JD h m L)[i]? = some e:=by rw [xf,hi];simp [hL]
 rw [vra (by rw [Wr];exact hn) h1];apply List.ext_getElem?;intro j;rw [List.getElem?_set,UU,xf,xf]
 by_cases hj:i = j
 ·subst hj;have:=(List.getElem?_eq_some_iff.1 hi).1;rw [if_pos rfl,if_pos this,hi];simp
 ·rw [if_neg hj];have:j ∈ L ++ [i] ↔ j ∈ L:=by simp;exact fun e=>absurd e.symm hj
  simp only [this]
theorem xRa {h:Int × Int -> Int} {m:List (Int × Int)} {L:List Nat} (hL:∀ i,i < m.length -> i ∈ L):JD h m L = m.map fun e=>(e.1,h e):=by
 apply List.ext_getElem?;intro i;rw [xf,List.getElem?_map]
 cases hm:m[i]? with
 | none=>rfl
 | some e=>simp [hL i (List.getElem?_eq_some_iff.1 hm).1]
theorem yba {v:List DT} {k:Int} (h:0 < ofV v k):(k,ofV v k) ∈ wh v:=by
 have h1:AL.getZ (wh v) k 0 = ofV v k:=vD v k;unfold AL.getZ at h1
 cases hg:AL.get (wh v) k with
 | none=>rw [hg] at h1;simp at h1;omega
 | some n=>rw [hg] at h1;simp at h1;subst h1;exact AL.get_mem hg

def yCa (a b:DT):Int:=if a = b then 0 else if za a b then -1 else 1
theorem Zd (a b:DT):Zx a b = pure (yCa a b):=by
 unfold Zx yCa;have h1:(decide (a.dev = b.dev) && decide (a.n = b.n)) = decide (a = b):=by
  rw [Bool.eq_iff_iff];cases a;cases b;simp
 have h2:(cond (decide (a.dev < b.dev)) (pure true) (cond (decide (a.dev = b.dev)) (pure (decide (a.n < b.n))) (pure false)):M Bool) = pure (za a b):=by
  rw [zW,Qu];rfl
 rw [h1,h2,vC,zA]
 split
 ·rfl
 ·cases za a b <;> rfl
theorem UV {a b:DT}:yCa a b < 0 ↔ za a b = true:=by
 unfold yCa
 split
 ·rename_i h;subst h;simp [za]
 ·split <;> simp_all
theorem cmpD_pos {a b:DT}:0 < yCa a b ↔ za b a = true:=by
 unfold yCa
 by_cases h:a = b
 ·subst h;simp [za]
 ·rw [if_neg h]
  cases a;cases b
  simp only [DT.mk.injEq] at h;simp only [za,Bool.or_eq_true,Bool.and_eq_true,decide_eq_true_eq]
  split <;> omega
theorem VZ (l:List DT) (d:DT) (h:l.length <= 1000000000000):Yl l d = pure ((l.filter fun x=>za x d) ++ [d] ++ (l.filter fun x=>za d x)):=by
 unfold Yl;have c0:∀ o:List DT,o.length <= 1000000000000 -> True:=fun _ _=>trivial
 have h1:=Yu (body:=XV l d) l (fun i (o:List DT)=>((i:Int),o)) (fun o x=>if za x d then o ++ [x] else o) (fun o=>pure o) (fun i o=>o.length <= i) (fun i x o hx hi ho=>by
  have h1:decide ((i:Int) < (l.length:Int)) = true:=by simpa using hi
  unfold XV;simp only [h1,cond_true,zH hx,zA,Zd,zB,yN (show i < 9223372036854775807 by omega),vC,UV]
  split
  ·rw [zC (by simp;omega)];exact ⟨rfl,by simp;omega⟩
  ·exact ⟨rfl,by omega⟩) (fun o _=>by unfold XV;simp [zA]) [] (by simp)
 have h2:∀ o0:List DT,o0.length <= 1000000000001 -> loop (ZV l d) (0,o0) = pure (l.foldl (fun o x=>if za d x then o ++ [x] else o) o0):=fun o0 ho0=>by
  have:=Yu (body:=ZV l d) l (fun i (o:List DT)=>((i:Int),o)) (fun o x=>if za d x then o ++ [x] else o) (fun o=>pure o) (fun i o=>o.length <= o0.length + i) (fun i x o hx hi ho=>by
   have h1:decide ((i:Int) < (l.length:Int)) = true:=by simpa using hi
   unfold ZV;simp only [h1,cond_true,zH hx,zA,Zd,zB,yN (show i < 9223372036854775807 by omega),vC,cmpD_pos]
   split
   ·rw [zC (by simp;omega)];exact ⟨rfl,by simp;omega⟩
   ·exact ⟨rfl,by omega⟩) (fun o _=>by unfold ZV;simp [zA]) o0 (by simp)
  exact this
 have hf:∀ (p:DT -> Bool) (l o:List DT),l.foldl (fun o x=>if p x then o ++ [x] else o) o = o ++ l.filter p:=by
  intro p l
  induction l with
  | nil=>simp
  | cons x r ih=>
   intro o;rw [List.foldl_cons,ih,List.filter_cons]
   split <;> simp
 rw [show ((0:Int),([]:List DT)) = (((0:Nat):Int),[]) from rfl,h1,hf,zA,zC,h2,hf,zA]
 ·rfl
 ·have:=List.length_filter_le (fun x=>za x d) l;simp;omega
 ·have:=List.length_filter_le (fun x=>za x d) l;simp;omega
def Xi (l:List Int):List DT:=l.map fun k=>⟨k,1⟩
theorem xSa {l:List Int} (h:l.Pairwise (· < ·)) (k:Int):((Xi l).filter fun x=>za x ⟨k,1⟩) ++ [⟨k,1⟩] ++ ((Xi l).filter fun x=>za ⟨k,1⟩ x) = Xi (jq l k):=by
 induction l with
 | nil=>rfl
 | cons a r ih=>
  obtain ⟨h1,h2⟩:=List.pairwise_cons.1 h;have i2:=ih h2;unfold jq
  by_cases c1:k < a
  ·rw [if_pos c1];have e1:(Xi (a :: r)).filter (fun x=>za x ⟨k,1⟩) = []:=by
    rw [List.filter_eq_nil_iff];intro x hx;simp only [Xi,List.map_cons,List.mem_cons,List.mem_map] at hx;rcases hx with rfl | ⟨b,hb,rfl⟩
    ·simp [za];omega
    ·have:=h1 b hb;simp [za];omega
   have e2:(Xi (a :: r)).filter (fun x=>za ⟨k,1⟩ x) = Xi (a :: r):=by
    rw [List.filter_eq_self];intro x hx;simp only [Xi,List.map_cons,List.mem_cons,List.mem_map] at hx;rcases hx with rfl | ⟨b,hb,rfl⟩
    ·simp [za];omega
    ·have:=h1 b hb;simp [za];omega
   rw [e1,e2];rfl
  ·rw [if_neg c1]
   by_cases c2:k = a
   ·subst c2;rw [if_pos rfl];have e1:(Xi (k :: r)).filter (fun x=>za x ⟨k,1⟩) = []:=by
     rw [List.filter_eq_nil_iff];intro x hx;simp only [Xi,List.map_cons,List.mem_cons,List.mem_map] at hx;rcases hx with rfl | ⟨b,hb,rfl⟩
     ·simp [za]
     ·have:=h1 b hb;simp [za];omega
    have e2:(Xi (k :: r)).filter (fun x=>za ⟨k,1⟩ x) = Xi r:=by
     show List.filter _ (⟨k,1⟩ :: Xi r) = _;rw [List.filter_cons,if_neg (by simp [za]),List.filter_eq_self];intro x hx;simp only [Xi,List.mem_map] at hx;obtain ⟨b,hb,rfl⟩:=hx;have:=h1 b hb;simp [za];omega
    rw [e1,e2];rfl
   ·rw [if_neg c2];show (List.filter _ (⟨a,1⟩ :: Xi r)) ++ _ ++ (List.filter _ (⟨a,1⟩ :: Xi r)) = ⟨a,1⟩ :: Xi (jq r k);rw [List.filter_cons,if_pos (by simp [za];omega),List.filter_cons,if_neg (by simp [za];omega),<- i2]
    rfl
end Go.Ep.M.V


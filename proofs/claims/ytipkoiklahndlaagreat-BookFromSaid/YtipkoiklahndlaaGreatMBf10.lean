/- Texts that the walks and laws lean on, side by side. -/
import Derived.Test.YtipkoiklahndlaaGreatMBf2
import Derived.Test.YtipkoiklahndlaaGreatMBf3
import Derived.Test.YtipkoiklahndlaaGreatMBf4
import Derived.Test.YtipkoiklahndlaaGreatMBf5
import Derived.Test.YtipkoiklahndlaaGreatMBf6
import Derived.Test.YtipkoiklahndlaaGreatMBf7
import Derived.Test.YtipkoiklahndlaaGreatMBf8
import Derived.Test.YtipkoiklahndlaaGreatMBf9
set_option linter.unusedVariables false
set_option linter.unusedSimpArgs false
namespace Go.Proofs
open Go.Ep Tryz
set_option maxHeartbeats 1000000
set_option maxRecDepth 100000
set_option linter.unusedVariables false
set_option linter.unusedSimpArgs false


theorem yw (ctx_1:List TPart) (ctx_2:List TPart) (nl3:Bool) (m4:List (TDot × TEvent)) (nl5:Bool) (m6:List (TDot × TEvent)) (nl7:Bool) (m8:List (TDot × TEvent)) (nl9:Bool) (m10:List (TDot × TEvent)) (r0:Bool) (h:(yK ctx_1 ctx_2 nl3 m4 nl5 m6 nl7 m8 nl9 m10).wp (· = r0)):PObj prog 37 [.ref 100 0,.ref 101 0] [(100,.cells 98 [.d (.sl (List.map TPart.e ctx_1)),.mp 102,.mp 103]),(101,.cells 98 [.d (.sl (List.map TPart.e ctx_2)),.mp 104,.mp 105]),(102,.mapH nl3 [.u16,.u64] true (encM TDot.k TEvent.e m4)),(103,.mapH nl5 [.u16,.u64] true (encM TDot.k TEvent.e m6)),(104,.mapH nl7 [.u16,.u64] true (encM TDot.k TEvent.e m8)),(105,.mapH nl9 [.u16,.u64] true (encM TDot.k TEvent.e m10))] [100,101,102,103,104,105] (.d (.v (.bool r0))) (fun _:Unit=>[(100,.cells 98 [.d (.sl (List.map TPart.e ctx_1)),.mp 102,.mp 103]),(101,.cells 98 [.d (.sl (List.map TPart.e ctx_2)),.mp 104,.mp 105]),(102,.mapH nl3 [.u16,.u64] true (encM TDot.k TEvent.e m4)),(103,.mapH nl5 [.u16,.u64] true (encM TDot.k TEvent.e m6)),(104,.mapH nl7 [.u16,.u64] true (encM TDot.k TEvent.e m8)),(105,.mapH nl9 [.u16,.u64] true (encM TDot.k TEvent.e m10))]):=by
 refine PObj.intro (sl:=[(0,_),(1,_)]) func37 rfl ntmps37 rfl rfl rfl ?_;intro ctx hK pv;refine wQ<|wR<|wa ?_;refine wN<|wQ ?_;refine wJ (zF h) (fun (v11:Bool) (_:Unit)=>⟨17,[(4,.d (.v (.bool v11)))],[(100,.cells 98 [.d (.sl (List.map TPart.e ctx_1)),.mp 102,.mp 103]),(101,.cells 98 [.d (.sl (List.map TPart.e ctx_2)),.mp 104,.mp 105]),(102,.mapH nl3 [.u16,.u64] true (encM TDot.k TEvent.e m4)),(103,.mapH nl5 [.u16,.u64] true (encM TDot.k TEvent.e m6)),(104,.mapH nl7 [.u16,.u64] true (encM TDot.k TEvent.e m8)),(105,.mapH nl9 [.u16,.u64] true (encM TDot.k TEvent.e m10)),(1100,.pin 100 (pv 100)),(1101,.pin 101 (pv 101)),(1102,.pin 102 (pv 102)),(1103,.pin 103 (pv 103)),(1104,.pin 104 (pv 104)),(1105,.pin 105 (pv 105))]⟩) (fun h=>?_) ?_
 ·refine wR<|wm ?_;obtain ⟨y12,hy13,h⟩:=iDet h;refine ws (LR.callObjS [(100,100),(101,102),(102,103)] [] [100,101,102] [] [(100,.cells 98 [.d (.sl (List.map TPart.e ctx_1)),.mp 101,.mp 102]),(101,.mapH nl3 [.u16,.u64] true (encM TDot.k TEvent.e m4)),(102,.mapH nl5 [.u16,.u64] true (encM TDot.k TEvent.e m6))] (zd ctx_1 nl3 m4 nl5 m6 y12 hy13) hK rfl call34 rfl (by first | rfl | (simp;done) | (simp [PV.nilD,PV.ren,rn];omega)) (by repeat' first | constructor | (congr 1;first | (simp;done) | (simp;omega) | omega)) (.nil) (.cons rfl<|.cons rfl<|.cons rfl<|.nil) (by repeat' first | constructor | (congr 1;first | (simp;done) | (simp;omega) | omega)) rfl rfl rfl rfl rfl rfl) ?_;refine wy (tl:=[(0,_),(1,_),(4,_),(6,_)]) (to:=[(100,_),(101,_),(102,_),(103,_),(104,_),(105,_),(1100,_),(1101,_),(1102,_),(1103,_),(1104,_),(1105,_)]) ?_;refine wm ?_;obtain ⟨y14,hy15,h⟩:=iDet h;refine ws (LR.callObjS [(100,101),(101,104),(102,105)] [] [100,101,102] [] [(100,.cells 98 [.d (.sl (List.map TPart.e ctx_2)),.mp 101,.mp 102]),(101,.mapH nl7 [.u16,.u64] true (encM TDot.k TEvent.e m8)),(102,.mapH nl9 [.u16,.u64] true (encM TDot.k TEvent.e m10))] (zd ctx_2 nl7 m8 nl9 m10 y14 hy15) hK rfl call34 rfl (by first | rfl | (simp;done) | (simp [PV.nilD,PV.ren,rn];omega)) (by repeat' first | constructor | (congr 1;first | (simp;done) | (simp;omega) | omega)) (.nil) (.cons rfl<|.cons rfl<|.cons rfl<|.nil) (by repeat' first | constructor | (congr 1;first | (simp;done) | (simp;omega) | omega)) rfl rfl rfl rfl rfl rfl) ?_;refine wy (tl:=[(0,_),(1,_),(4,_),(6,_),(8,_)]) (to:=[(100,_),(101,_),(102,_),(103,_),(104,_),(105,_),(1100,_),(1101,_),(1102,_),(1103,_),(1104,_),(1105,_)]) ?_;obtain ⟨v16,hy17,h⟩:=iDet h;refine ws (cN (qv y12 y14 v16 hy17) rfl call96 rfl rfl rfl rfl)<|wm ?_;refine wL (d:=10) rfl (fun hg18=>?_) (fun hg18=>?_)
  ·replace h:=iT hg18 h;refine wt (mV rfl) ?_;obtain ⟨y19,hy20,h⟩:=iDet h;refine wt (LR.callObjS [(100,100),(101,102),(102,103),(14,12)] [] [100,101,102,14] [(14,.row 69 7 (List.map TEvent.e y19))] [(100,.cells 98 [.d (.sl (List.map TPart.e ctx_1)),.mp 101,.mp 102]),(101,.mapH nl3 [.u16,.u64] true (encM TDot.k TEvent.e m4)),(102,.mapH nl5 [.u16,.u64] true (encM TDot.k TEvent.e m6))] (yG ctx_1 nl3 m4 nl5 m6 y19 hy20) hK rfl call35 rfl (by first | rfl | (simp;done) | (simp [PV.nilD,PV.ren,rn];omega)) (by repeat' first | constructor | (congr 1;first | (simp;done) | (simp;omega) | omega)) (.cons rfl<|.nil) (.cons rfl<|.cons rfl<|.cons rfl<|.nil) (by repeat' first | constructor | (congr 1;first | (simp;done) | (simp;omega) | omega)) rfl rfl rfl rfl rfl rfl) ?_;refine wy (tl:=[(1,_),(4,_),(10,_),(12,_)]) (to:=[(12,_),(100,_),(101,_),(102,_),(103,_),(104,_),(105,_),(1100,_),(1101,_),(1102,_),(1103,_),(1104,_),(1105,_)]) ?_;refine wt (mV rfl) ?_;obtain ⟨y21,hy22,h⟩:=iDet h;refine wt (LR.callObjS [(100,101),(101,104),(102,105),(14,14)] [] [100,101,102,14] [(14,.row 69 7 (List.map TEvent.e y21))] [(100,.cells 98 [.d (.sl (List.map TPart.e ctx_2)),.mp 101,.mp 102]),(101,.mapH nl7 [.u16,.u64] true (encM TDot.k TEvent.e m8)),(102,.mapH nl9 [.u16,.u64] true (encM TDot.k TEvent.e m10))] (yG ctx_2 nl7 m8 nl9 m10 y21 hy22) hK rfl call35 rfl (by first | rfl | (simp;done) | (simp [PV.nilD,PV.ren,rn];omega)) (by repeat' first | constructor | (congr 1;first | (simp;done) | (simp;omega) | omega)) (.cons rfl<|.nil) (.cons rfl<|.cons rfl<|.cons rfl<|.nil) (by repeat' first | constructor | (congr 1;first | (simp;done) | (simp;omega) | omega)) rfl rfl rfl rfl rfl rfl) ?_;refine wy (tl:=[(4,_),(10,_),(12,_),(14,_)]) (to:=[(12,_),(14,_),(100,_),(101,_),(102,_),(103,_),(104,_),(105,_),(1100,_),(1101,_),(1102,_),(1103,_),(1104,_),(1105,_)]) ?_;obtain ⟨v23,hy24,h⟩:=iDet h;refine PWl.frz [12] hK (.cons rfl<|.nil) rfl (by simp) ?_;refine PWl.frz [14] hK (.cons rfl<|.nil) rfl (by simp) ?_;refine wt (cN (Jk y19 y21 v23 hy24) rfl call97 rfl rfl rfl rfl)<|ws (pT rfl rfl)<|wa ?_;refine wN ?_;exact ⟨v23,(),h,sP⟩
  ·replace h:=iF hg18 h;refine wf<|wf<|wf<|wf<|wf<|ws (pF rfl rfl)<|wa ?_;refine wN ?_;exact ⟨false,(),h,sP⟩
 ·rintro v11 _ h;refine wX ?_;cases h;exact EndsO.mk () (.inr rfl) (sP (tl:=[(4,_)]) (to:=[(100,_),(101,_),(102,_),(103,_),(104,_),(105,_),(1100,_),(1101,_),(1102,_),(1103,_),(1104,_),(1105,_)])) (.cons (.tmp rfl)<|.nil) rfl rfl

theorem uP (c1:List TPart) (ctx_2:List TPart) (nl3:Bool) (m4:List (TDot × TEvent)) (nl5:Bool) (m6:List (TDot × TEvent)) (r0:List TPart) (h:(yU c1 ctx_2 nl3 m4 nl5 m6).wp (· = r0)):PObj prog 38 [.ref 100 0,.d (.sl (List.map TPart.e c1))] [(100,.cells 98 [.d (.sl (List.map TPart.e ctx_2)),.mp 101,.mp 102]),(101,.mapH nl3 [.u16,.u64] true (encM TDot.k TEvent.e m4)),(102,.mapH nl5 [.u16,.u64] true (encM TDot.k TEvent.e m6))] [100,101,102] (.tup []) (fun _:Unit=>[(100,.cells 98 [.d (.sl (List.map TPart.e r0)),.mp 101,.mp 102]),(101,.mapH nl3 [.u16,.u64] true (encM TDot.k TEvent.e m4)),(102,.mapH nl5 [.u16,.u64] true (encM TDot.k TEvent.e m6))]):=by
 refine PObj.intro (sl:=[(0,_),(1,_)]) func38 rfl ntmps38 rfl rfl rfl ?_;intro ctx hK pv;refine wQ<|wR<|wm ?_;refine ws (LR.neqPtr underlying34 rfl)<|wN<|PWc.condT rfl<|wR<|wm ?_;refine wm ?_;refine ws (LR.nilCheckRef rfl)<|ws (fR underlying98 rfl sizeOf23 (by decide) rfl rfl)<|ws (lD isAgg23 rfl rfl rfl)<|wm ?_;obtain ⟨v7,hy8,h⟩:=iDet h;refine ws (LR.rowN (Vj ctx_2 c1 v7 hy8) rfl call98 rfl rfl rfl rfl)<|ws (LR.nilCheckRef rfl)<|ws (fR underlying98 rfl sizeOf23 (by decide) rfl rfl)<|PWl.frz [12] hK (.cons rfl<|.nil) rfl (by simp) ?_;refine ws (sB (ns:=[_,_,_]) sizeOf23 rfl rfl rfl rfl rfl rfl rfl)<|wN ?_;cases h;exact EndsO.mk () (.inl rfl) (sP (tl:=[]) (to:=[(100,_),(101,_),(102,_),(1100,_),(1101,_),(1102,_)])) (.nil) rfl rfl

theorem qx (x1:R18Book) (ctx_2:List TPart) (nl3:Bool) (m4:List (TDot × TEvent)) (nl5:Bool) (m6:List (TDot × TEvent)) (r0:Int) (h:(Wr x1 ctx_2 nl3 m4 nl5 m6).wp (· = r0)):PObj prog 30 [.ref 100 0,.agg (List.map .d (R18Book.e x1))] [(100,.cells 98 [.d (.sl (List.map TPart.e ctx_2)),.mp 101,.mp 102]),(101,.mapH nl3 [.u16,.u64] true (encM TDot.k TEvent.e m4)),(102,.mapH nl5 [.u16,.u64] true (encM TDot.k TEvent.e m6))] [100,101,102] (.d (.v (.int .i64 r0))) (fun _:Unit=>[(100,.cells 98 [.d (.sl (List.map TPart.e ctx_2)),.mp 101,.mp 102]),(101,.mapH nl3 [.u16,.u64] true (encM TDot.k TEvent.e m4)),(102,.mapH nl5 [.u16,.u64] true (encM TDot.k TEvent.e m6))]):=by
 refine PObj.intro (sl:=[(0,_),(1,_)]) func30 rfl ntmps30 rfl rfl rfl ?_;intro ctx hK pv;refine wQ<|wR<|ws (LR.box rfl rfl rfl rfl)<|wa ?_;refine wN<|wQ<|wQ<|wz (tl:=[(0,_),(3,_)]) (to:=[(3,_),(100,_),(101,_),(102,_),(1100,_),(1101,_),(1102,_)]) ?_;refine wJ (zF h) (fun (v7:Bool) (_:Unit)=>⟨32,[(31,.d (.v (.bool v7)))],[(100,.cells 98 [.d (.sl (List.map TPart.e ctx_2)),.mp 101,.mp 102]),(101,.mapH nl3 [.u16,.u64] true (encM TDot.k TEvent.e m4)),(102,.mapH nl5 [.u16,.u64] true (encM TDot.k TEvent.e m6)),(1100,.pin 100 (pv 100)),(1101,.pin 101 (pv 101)),(1102,.pin 102 (pv 102))]⟩) (fun h=>?_) ?_
 ·refine PWc.regionE [⟨[5],[],[],[],[],[100],[],[]⟩,⟨[6],[],[100,101,102],[],[],[],[],[]⟩,⟨[7],[],[],[],[],[3],[],[]⟩,⟨[8],[],[3],[],[],[],[],[]⟩,{ws:=[9]},{ws:=[10]},{ws:=[11]},⟨[12],[],[],[],[],[100],[],[]⟩,⟨[13],[],[100,101,102],[],[],[],[],[]⟩,⟨[14],[],[3],[],[],[],[],[]⟩,{ws:=[15]},{ws:=[16]},{ws:=[17]},{ws:=[18]},⟨[19],[],[],[],[],[100],[],[]⟩,⟨[20],[],[100,101,102],[],[],[],[],[]⟩,⟨[21],[],[3],[],[],[],[],[]⟩,{ws:=[22]},{ws:=[23]},{ws:=[24]},{ws:=[25]},⟨[26],[],[],[],[],[100],[],[]⟩,⟨[27],[],[100,101,102],[],[],[],[],[]⟩,⟨[28],[],[],[],[],[3],[],[]⟩,⟨[29],[],[3],[],[],[],[],[]⟩,{ws:=[30]},{ws:=[31]}] (by kernel_rfl) (by kernel_rfl) rfl ?_;refine kp (fun _ he ho=>mV (he rfl rfl)) ?_;obtain ⟨y8,hy9,h⟩:=iDet h;refine PQe.callObjS [(100,100),(101,101),(102,102)] [] [100,101,102] [] [(100,.cells 98 [.d (.sl (List.map TPart.e ctx_2)),.mp 101,.mp 102]),(101,.mapH nl3 [.u16,.u64] true (encM TDot.k TEvent.e m4)),(102,.mapH nl5 [.u16,.u64] true (encM TDot.k TEvent.e m6))] (zd ctx_2 nl3 m4 nl5 m6 y8 hy9) hK (fun _ he=>⟨he rfl rfl,evsE he rfl rfl⟩) call34 (by first | rfl | (simp;done) | (simp [PV.nilD,PV.ren,rn];omega)) (by repeat' first | constructor | (congr 1;first | (simp;done) | (simp;omega) | omega)) (.nil) (.cons rfl<|.cons rfl<|.cons rfl<|.nil) (by repeat' first | constructor | (congr 1;first | (simp;done) | (simp;omega) | omega)) rfl rfl rfl rfl rfl rfl (.inl rfl) rfl ?_;refine kp (fun _ he ho=>fR underlying32 rfl sizeOf23 (by decide) rfl (he rfl rfl)) ?_;refine kp (fun _ he ho=>lD isAgg23 (he rfl rfl) (ho rfl rfl) rfl) ?_;obtain ⟨v10,hy11,h⟩:=iDet h;refine kp (fun _ he ho=>cN (PRow.fun (Vi x1.ctx v10 hy11)) (he rfl rfl) call12 (evsE he rfl rfl) rfl rfl rfl) ?_;obtain ⟨v12,hy13,h⟩:=iDet h;refine kp (fun _ he ho=>cN (Ji y8 v10 v12 hy13) (he rfl rfl) call21 (evsE he rfl rfl) rfl rfl rfl) ?_;refine kp (fun _ he ho=>mV (he rfl rfl)) ?_;refine PQe.split (d:=11) rfl (fun hg14=>?_) (fun hg14=>?_)
  ·replace h:=iT hg14 h;refine PQe.stepP (fun _ he ho=>mV (he rfl rfl)) (.inr ⟨_,_,_,rfl,rfl,rfl⟩) rfl ?_;obtain ⟨y15,hy16,h⟩:=iDet h;refine PQe.callObjS [(100,100),(101,101),(102,102),(10,13)] [] [100,101,102] [] [(100,.cells 98 [.d (.sl (List.map TPart.e ctx_2)),.mp 101,.mp 102]),(101,.mapH nl3 [.u16,.u64] true (encM TDot.k TEvent.e m4)),(102,.mapH nl5 [.u16,.u64] true (encM TDot.k TEvent.e m6))] (PObj.dropRow (os1:=fun _=>[(100,.cells 98 [.d (.sl (List.map TPart.e ctx_2)),.mp 101,.mp 102]),(101,.mapH nl3 [.u16,.u64] true (encM TDot.k TEvent.e m4)),(102,.mapH nl5 [.u16,.u64] true (encM TDot.k TEvent.e m6))]) (yV ctx_2 nl3 m4 nl5 m6 y15 hy16) (fun _=>rfl) (by simp) (fun _=>rfl)) hK (fun _ he=>⟨he rfl rfl,evsE he rfl rfl⟩) call84 (by first | rfl | (simp;done) | (simp [PV.nilD,PV.ren,rn];omega)) (by repeat' first | constructor | (congr 1;first | (simp;done) | (simp;omega) | omega)) (.nil) (.cons rfl<|.cons rfl<|.cons rfl<|.nil) (by repeat' first | constructor | (congr 1;first | (simp;done) | (simp;omega) | omega)) rfl rfl rfl rfl rfl rfl (.inr ⟨_,_,_,rfl,rfl,rfl⟩) rfl ?_;refine PQe.stepP (fun _ he ho=>lA (ps:=[_,_]) isAgg32 sizeOf32 (he rfl rfl) (ho rfl rfl) rfl rfl) (.inr ⟨_,_,_,rfl,rfl,rfl⟩) rfl ?_;obtain ⟨v17,hy18,h⟩:=iDet h;refine PQe.stepP (fun _ he ho=>cN (PRow.fun (ql x1 v17 hy18)) (he rfl rfl) call91 (evsE he rfl rfl) rfl rfl rfl) (.inr ⟨_,_,_,rfl,rfl,rfl⟩) rfl ?_;obtain ⟨v19,hy20,h⟩:=iDet h;refine PQe.stepP (fun _ he ho=>cN (WE y15 v17 v19 hy20) (he rfl rfl) call24 (evsE he rfl rfl) rfl rfl rfl) (.inr ⟨_,_,_,rfl,rfl,rfl⟩) rfl ?_;refine kp (fun _ he ho=>pT (he rfl rfl) (he rfl rfl)) ?_;refine kp (fun _ he ho=>mV (he rfl rfl)) ?_;refine PQe.split (d:=18) rfl (fun hg21=>?_) (fun hg21=>?_)
   ·replace h:=iT hg21 h;refine PQe.stepP (fun _ he ho=>mV (he rfl rfl)) (.inr ⟨_,_,_,rfl,rfl,rfl⟩) rfl ?_;obtain ⟨y22,hy23,h⟩:=iDet h;refine PQe.callObjS [(100,100),(101,101),(102,102),(10,20)] [] [100,101,102] [] [(100,.cells 98 [.d (.sl (List.map TPart.e ctx_2)),.mp 101,.mp 102]),(101,.mapH nl3 [.u16,.u64] true (encM TDot.k TEvent.e m4)),(102,.mapH nl5 [.u16,.u64] true (encM TDot.k TEvent.e m6))] (PObj.dropRow (os1:=fun _=>[(100,.cells 98 [.d (.sl (List.map TPart.e ctx_2)),.mp 101,.mp 102]),(101,.mapH nl3 [.u16,.u64] true (encM TDot.k TEvent.e m4)),(102,.mapH nl5 [.u16,.u64] true (encM TDot.k TEvent.e m6))]) (xQ ctx_2 nl3 m4 nl5 m6 y22 hy23) (fun _=>rfl) (by simp) (fun _=>rfl)) hK (fun _ he=>⟨he rfl rfl,evsE he rfl rfl⟩) call85 (by first | rfl | (simp;done) | (simp [PV.nilD,PV.ren,rn];omega)) (by repeat' first | constructor | (congr 1;first | (simp;done) | (simp;omega) | omega)) (.nil) (.cons rfl<|.cons rfl<|.cons rfl<|.nil) (by repeat' first | constructor | (congr 1;first | (simp;done) | (simp;omega) | omega)) rfl rfl rfl rfl rfl rfl (.inr ⟨_,_,_,rfl,rfl,rfl⟩) rfl ?_;refine PQe.stepP (fun _ he ho=>lA (ps:=[_,_]) isAgg32 sizeOf32 (he rfl rfl) (ho rfl rfl) rfl rfl) (.inr ⟨_,_,_,rfl,rfl,rfl⟩) rfl ?_;obtain ⟨v24,hy25,h⟩:=iDet h;refine PQe.stepP (fun _ he ho=>cN (PRow.fun (Jj x1 v24 hy25)) (he rfl rfl) call92 (evsE he rfl rfl) rfl rfl rfl) (.inr ⟨_,_,_,rfl,rfl,rfl⟩) rfl ?_;obtain ⟨v26,hy27,h⟩:=iDet h;refine PQe.stepP (fun _ he ho=>cN (WE y22 v24 v26 hy27) (he rfl rfl) call24 (evsE he rfl rfl) rfl rfl rfl) (.inr ⟨_,_,_,rfl,rfl,rfl⟩) rfl ?_;refine kp (fun _ he ho=>pT (he rfl rfl) (he rfl rfl)) ?_;refine kp (fun _ he ho=>mV (he rfl rfl)) ?_;refine PQe.split (d:=25) rfl (fun hg28=>?_) (fun hg28=>?_)
    ·replace h:=iT hg28 h;refine PQe.stepP (fun _ he ho=>mV (he rfl rfl)) (.inr ⟨_,_,_,rfl,rfl,rfl⟩) rfl ?_;obtain ⟨y29,hy30,h⟩:=iDet h;refine PQe.callObjS [(100,100),(101,101),(102,102),(14,27)] [] [100,101,102] [] [(100,.cells 98 [.d (.sl (List.map TPart.e ctx_2)),.mp 101,.mp 102]),(101,.mapH nl3 [.u16,.u64] true (encM TDot.k TEvent.e m4)),(102,.mapH nl5 [.u16,.u64] true (encM TDot.k TEvent.e m6))] (PObj.dropRow (os1:=fun _=>[(100,.cells 98 [.d (.sl (List.map TPart.e ctx_2)),.mp 101,.mp 102]),(101,.mapH nl3 [.u16,.u64] true (encM TDot.k TEvent.e m4)),(102,.mapH nl5 [.u16,.u64] true (encM TDot.k TEvent.e m6))]) (yG ctx_2 nl3 m4 nl5 m6 y29 hy30) (fun _=>rfl) (by simp) (fun _=>rfl)) hK (fun _ he=>⟨he rfl rfl,evsE he rfl rfl⟩) call35 (by first | rfl | (simp;done) | (simp [PV.nilD,PV.ren,rn];omega)) (by repeat' first | constructor | (congr 1;first | (simp;done) | (simp;omega) | omega)) (.nil) (.cons rfl<|.cons rfl<|.cons rfl<|.nil) (by repeat' first | constructor | (congr 1;first | (simp;done) | (simp;omega) | omega)) rfl rfl rfl rfl rfl rfl (.inr ⟨_,_,_,rfl,rfl,rfl⟩) rfl ?_;refine PQe.stepP (fun _ he ho=>fR underlying32 rfl sizeOf24 (by decide) rfl (he rfl rfl)) (.inr ⟨_,_,_,rfl,rfl,rfl⟩) rfl ?_;refine PQe.stepP (fun _ he ho=>lD isAgg24 (he rfl rfl) (ho rfl rfl) rfl) (.inr ⟨_,_,_,rfl,rfl,rfl⟩) rfl ?_;obtain ⟨v31,hy32,h⟩:=iDet h;refine PQe.stepP (fun _ he ho=>cN (WE y29 x1.l v31 hy32) (he rfl rfl) call24 (evsE he rfl rfl) rfl rfl rfl) (.inr ⟨_,_,_,rfl,rfl,rfl⟩) rfl ?_;refine kp (fun _ he ho=>pT (he rfl rfl) (he rfl rfl))<|PQe.nil ?_;exact ⟨v31,(),h,sP⟩
    ·replace h:=iF hg28 h;refine kx<|kx<|kx<|kx<|kx ?_;refine kp (fun _ he ho=>pF (he rfl rfl) (he rfl rfl))<|PQe.nil ?_;exact ⟨false,(),h,sP⟩
   ·replace h:=iF hg21 h;refine kx<|kx<|kx<|kx<|kx ?_;refine kp (fun _ he ho=>pF (he rfl rfl) (he rfl rfl)) ?_;refine kp (fun _ he ho=>mV (he rfl rfl))<|kx<|kx<|kx<|kx<|kx ?_;refine kp (fun _ he ho=>pF (he rfl rfl) (he rfl rfl))<|PQe.nil ?_;exact ⟨false,(),h,sP⟩
  ·replace h:=iF hg14 h;refine kx<|kx<|kx<|kx<|kx ?_;refine kp (fun _ he ho=>pF (he rfl rfl) (he rfl rfl)) ?_;refine kp (fun _ he ho=>mV (he rfl rfl))<|kx<|kx<|kx<|kx<|kx ?_;refine kp (fun _ he ho=>pF (he rfl rfl) (he rfl rfl)) ?_;refine kp (fun _ he ho=>mV (he rfl rfl))<|kx<|kx<|kx<|kx<|kx ?_;refine kp (fun _ he ho=>pF (he rfl rfl) (he rfl rfl))<|PQe.nil ?_;exact ⟨false,(),h,sP⟩
 ·rintro v7 _ h;refine wC rfl (fun hc33=>?_) (fun hc33=>?_)
  ·replace h:=iT hc33 h;refine wQ<|wR<|wa ?_;refine wN<|wX ?_;cases h;exact EndsO.mk () (.inr rfl) (sP (tl:=[(4,_)]) (to:=[(100,_),(101,_),(102,_),(1100,_),(1101,_),(1102,_)])) (.cons (.tmp rfl)<|.nil) rfl rfl
  ·replace h:=iF hc33 h;refine wK<|wQ<|wR<|wa ?_;refine wN<|wX ?_;cases h;exact EndsO.mk () (.inr rfl) (sP (tl:=[(4,_)]) (to:=[(100,_),(101,_),(102,_),(1100,_),(1101,_),(1102,_)])) (.cons (.tmp rfl)<|.nil) rfl rfl

theorem Vo (c1:List TPart) (l2:List TEvent) (acts3:List L18Act) (r0:Bool) (h:(uO c1 l2 acts3).wp (· = r0)):PFun prog 5 [.d (.sl (List.map TPart.e c1)),.d (.sl (List.map TEvent.e l2)),.d (.sl (List.map L18Act.e acts3))] (.d (.v (.bool r0))):=by
 refine fI (sl:=[(0,_),(1,_),(2,_)]) func5 rfl ntmps5 rfl rfl ?_;intro ctx hK;refine wQ<|wR<|wa ?_;refine wN<|wQ<|wQ ?_;refine wJ (zF h) (fun (v4:Bool) (_:Unit)=>⟨126,[(0,.d (.sl (List.map TPart.e c1))),(1,.d (.sl (List.map TEvent.e l2))),(2,.d (.sl (List.map L18Act.e acts3))),(26,.d (.v (.bool v4)))],[]⟩) (fun h=>?_) ?_
 ·refine wR<|wm ?_;obtain ⟨v5,hy6,h⟩:=iDet h;refine ws (cN (Ud c1 v5 hy6) rfl call19 rfl rfl rfl rfl)<|ws (LR.not rfl)<|wm ?_;refine wL (d:=17) rfl (fun hg7=>?_) (fun hg7=>?_)
  ·replace h:=iT hg7 h;refine wf<|wf<|wf<|ws (pT rfl rfl)<|wm ?_;refine wf<|wf<|wf<|ws (pT rfl rfl)<|wN ?_;exact ⟨true,(),h,sP⟩
  ·replace h:=iF hg7 h;refine wt (mV rfl) ?_;obtain ⟨v8,hy9,h⟩:=iDet h;refine wt (cN (Ue l2 15 v8 hy9) rfl call27 rfl rfl rfl rfl)<|wt (LR.not rfl)<|ws (pF rfl rfl)<|wm ?_;refine wL (d:=22) rfl (fun hg10=>?_) (fun hg10=>?_)
   ·replace h:=iT hg10 h;refine wf<|wf<|wf<|ws (pT rfl rfl)<|wN ?_;exact ⟨true,(),h,sP⟩
   ·replace h:=iF hg10 h;refine wt (mV rfl) ?_;obtain ⟨v11,hy12,h⟩:=iDet h;refine wt (cN (zia acts3 15 v11 hy12) rfl call8 rfl rfl rfl rfl)<|wt (eQ rfl rfl)<|ws (pF rfl rfl)<|wN ?_;exact ⟨(decide (v11 = 0)),(),h,sP⟩
 ·rintro v4 _ h;refine wC rfl (fun hc13=>?_) (fun hc13=>?_)
  ·replace h:=iT hc13 h;refine wQ<|wR ?_;obtain ⟨v14,hy15,h⟩:=iDet h;refine ws (cN (Zn v14 hy15) rfl call28 rfl rfl rfl rfl)<|wa ?_;refine wN<|wX ?_;cases h;exact ⟨.inr rfl,_,.cons (.tmp rfl rfl)<|.nil,rfl⟩
  ·replace h:=iF hc13 h;refine wK<|wQ<|wR<|wm ?_;refine wm ?_;obtain ⟨y16,hy17,h⟩:=iDet h;rcases y16 with z18 | z101
   ·replace h:=iSumL h;refine ws (LR.callObj [] [] [] (yv c1 l2 (.inl z18) hy17) hK rfl call11 rfl (by first | rfl | (simp;done) | (simp [PV.nilD,PV.ren,rn];omega)) (.nil) rfl rfl rfl rfl) ?_;refine wm ?_;refine ws (LR.extract rfl rfl)<|ws (LR.extract rfl rfl)<|wa ?_;refine wa ?_;refine wN<|wQ<|wQ<|wz (tl:=[(0,_),(1,_),(2,_),(7,_),(8,_)]) (to:=[]) ?_;refine wJ (zF h) (fun (v19:Bool) (_:Unit)=>⟨126,[(2,.d (.sl (List.map L18Act.e acts3))),(63,.d (.v (.bool v19)))],[]⟩) (fun h=>?_) ?_
    ·refine wR<|wm ?_;refine ws (eQ rfl rfl)<|wm ?_;refine wm ?_;obtain ⟨v20,hy21,h⟩:=iDet h;refine ws (cN (Vn c1 l2 v20 hy21) rfl call29 rfl rfl rfl rfl)<|ws (LR.neqBool underlying4 rfl rfl)<|wm ?_;refine wL (d:=40) rfl (fun hg22=>?_) (fun hg22=>?_)
     ·replace h:=iT hg22 h;refine wf<|wf<|wf<|wu<|wu<|wu<|wu<|wu<|wy (tl:=[(2,_),(7,_),(8,_),(40,_),(43,_),(48,_)]) (to:=[]) ?_;refine wu<|wf<|ws (pT rfl rfl)<|wm ?_;refine wf<|wf<|wf<|wu<|wu<|wu<|wu<|wu<|wu ?_;refine wf<|ws (pT rfl rfl)<|wN ?_;exact ⟨true,(),h,sP⟩
     ·replace h:=iF hg22 h;refine wt (mV rfl)<|wt (eQ rfl rfl)<|wt (mV rfl)<|wf<|wf<|wf<|wf<|wf<|wy (tl:=[(2,_),(7,_),(8,_),(40,_),(43,_),(48,_)]) (to:=[]) ?_;refine wf<|wt (pF rfl rfl)<|ws (pF rfl rfl)<|wm ?_;refine wt (mV rfl)<|wt (nQ rfl rfl)<|wt (mV rfl)<|wt (mV rfl)<|wt (nQ rfl rfl)<|wt (mV rfl)<|wt (mV rfl)<|wt (LR.neqPtrN underlying34 rfl)<|wt (pF rfl rfl) ?_;refine wt (pT rfl rfl)<|ws (pF rfl rfl)<|wN ?_;exact ⟨false,(),h,sP⟩
    ·rintro v19 _ h;refine wC rfl (fun hc23=>?_) (fun hc23=>?_)
     ·replace h:=iT hc23 h;refine wQ<|wR<|wa ?_;refine wN<|wX ?_;cases h;exact ⟨.inr rfl,_,.cons (.tmp rfl rfl)<|.nil,rfl⟩
     ·replace h:=iF hc23 h;refine wK<|wQ<|wR ?_;obtain ⟨y24,hy25,h⟩:=iDet h;refine ws (LR.callObj [(2,64),(30041,21281),(30042,21282)] [] [2,30041,30042] (ZL y24 hy25) hK rfl call31 rfl (by first | rfl | (simp;done) | (simp [PV.nilD,PV.ren,rn];omega)) (.nil) rfl rfl rfl rfl) ?_;refine wa ?_;refine wN<|wQ<|wQ<|wz (tl:=[(2,_),(9,_)]) (to:=[(64,_),(21281,_),(21282,_)]) ?_;refine wR<|wa ?_;refine wN ?_;refine wJ (zF h) (fun (⟨v26,nl27,v28,nl29,v30⟩:List TPart × Bool × (List (TDot × TEvent)) × Bool × (List (TDot × TEvent))) (_:Unit)=>⟨126,[(9,.ref 64 0)],[(64,.cells 98 [.d (.sl (List.map TPart.e v26)),.mp 21281,.mp 21282]),(21281,.mapH nl29 [.u16,.u64] true (encM TDot.k TEvent.e v30)),(21282,.mapH nl27 [.u16,.u64] true (encM TDot.k TEvent.e v28))]⟩) (fun h=>?_) ?_
      ·refine wB<|wM (fun (⟨i55,v56,nl57,v58,nl59,v60⟩:Int × List TPart × Bool × (List (TDot × TEvent)) × Bool × (List (TDot × TEvent))) (_:Unit)=>⟨126,[(2,.d (.sl (List.map L18Act.e acts3))),(9,.ref 64 0),(10,.d (.v (.int .i64 i55)))],[(64,.cells 98 [.d (.sl (List.map TPart.e v56)),.mp 21281,.mp 21282]),(21281,.mapH nl59 [.u16,.u64] true (encM TDot.k TEvent.e v60)),(21282,.mapH nl57 [.u16,.u64] true (encM TDot.k TEvent.e v58))]⟩) () h (sP) ?_;rintro N ⟨i55,v56,nl57,v58,nl59,v60⟩ _ h;refine wQ<|wQ<|wR<|wm ?_;refine wm ?_;refine ws (lM (enc:=L18Act.e) (L:=acts3) underlying27 rfl)<|ws (LR.lss rfl rfl)<|wN ?_;refine wC rfl (fun hc61=>?_) (fun hc61=>?_)
       ·replace h:=iT hc61 h;refine wK<|wQ<|wB<|wQ<|wR<|wm ?_;refine wm ?_;refine wm ?_;obtain ⟨x62,hy63,h⟩:=iIdx h;refine ws (iX (enc:=L18Act.e) (L:=acts3) (y:=x62) underlying27 sizeOf71 rfl rfl hy63 (fun _=>rfl))<|ws (fE underlying71 rfl sizeOf69 (by decide) rfl rfl)<|ws (lE (ys:=[_,_,_,_,_,_,_]) isAgg69 sizeOf69 rfl rfl rfl) ?_;obtain ⟨y64,hy65,h⟩:=iDet h;refine ws (LR.callObj [(100,64),(101,21281),(102,21282)] [] [100,101,102] (xC x62.event v56 nl59 v60 nl57 v58 y64 hy65) hK rfl call32 rfl (by first | rfl | (simp;done) | (simp [PV.nilD,PV.ren,rn];omega)) (by repeat' first | constructor | (congr 1;first | (simp;done) | (simp;omega) | omega)) rfl rfl rfl rfl) ?_;refine wN<|wz (tl:=[(2,_),(9,_),(10,_)]) (to:=[(64,_),(21281,_),(21282,_)]) ?_;refine wR<|wm ?_;refine wm ?_;refine wm ?_;obtain ⟨x66,hy67,h⟩:=iIdx h;refine ws (iX (enc:=L18Act.e) (L:=acts3) (y:=x66) underlying27 sizeOf71 rfl rfl hy67 (fun _=>rfl))<|ws (fE underlying71 rfl sizeOf23 (by decide) rfl rfl)<|ws (LR.loadEp isAgg23 rfl rfl) ?_;obtain ⟨y68,hy69,h⟩:=iDet h;refine ws (LR.callObjS [(100,64),(101,21281),(102,21282)] [] [100,101,102] [(101,.mapH y68.2.1 [.u16,.u64] true (encM TDot.k TEvent.e y68.2.2.1)),(102,.mapH y68.2.2.2.1 [.u16,.u64] true (encM TDot.k TEvent.e y68.2.2.2.2))] [(100,.cells 98 [.d (.sl (List.map TPart.e y64.2.1)),.mp 101,.mp 102])] (xR x66.ctx y64.2.1 y64.2.2.1 y64.2.2.2.1 y64.2.2.2.2.1 y64.2.2.2.2.2 y68 hy69) hK rfl call33 rfl (by first | rfl | (simp;done) | (simp [PV.nilD,PV.ren,rn];omega)) (by repeat' first | constructor | (congr 1;first | (simp;done) | (simp;omega) | omega)) (.cons rfl<|.cons rfl<|.nil) (.cons rfl<|.nil) (.cons (by first | rfl | (congr 1;first | (simp;done) | (simp;omega) | omega))<|.nil) rfl rfl rfl rfl rfl rfl) ?_;refine wN<|wz (tl:=[(2,_),(9,_),(10,_)]) (to:=[(64,_),(21281,_),(21282,_)]) ?_;refine wR<|wm ?_;refine ws (LR.addW rfl rfl)<|wa ?_;refine wN ?_;exact ⟨((IntKind.i64.wrap (i55 + 1)),y64.2.1,y68.2.2.2.1,y68.2.2.2.2,y68.2.1,y68.2.2.1),(),h,sP⟩
       ·replace h:=iF hc61 h;refine wZ ?_;exact ⟨(v56,nl57,v58,nl59,v60),(),h,sP⟩
      ·rintro ⟨v26,nl27,v28,nl29,v30⟩ _ h;refine wQ<|wR<|wm ?_;obtain ⟨y70,hy71,h⟩:=iDet h;refine ws (LR.callObjS [(100,64),(101,21281),(102,21282)] [] [100,101,102] [] [(100,.cells 98 [.d (.sl (List.map TPart.e v26)),.mp 101,.mp 102]),(101,.mapH nl29 [.u16,.u64] true (encM TDot.k TEvent.e v30)),(102,.mapH nl27 [.u16,.u64] true (encM TDot.k TEvent.e v28))] (zd v26 nl29 v30 nl27 v28 y70 hy71) hK rfl call34 rfl (by first | rfl | (simp;done) | (simp [PV.nilD,PV.ren,rn];omega)) (by repeat' first | constructor | (congr 1;first | (simp;done) | (simp;omega) | omega)) (.nil) (.cons rfl<|.cons rfl<|.cons rfl<|.nil) (by repeat' first | constructor | (congr 1;first | (simp;done) | (simp;omega) | omega)) rfl rfl rfl rfl rfl rfl) ?_;refine wm ?_;obtain ⟨y72,hy73,h⟩:=iDet h;refine ws (LR.callObjS [(100,64),(101,21281),(102,21282),(14,89)] [] [100,101,102,14] [(14,.row 69 7 (List.map TEvent.e y72))] [(100,.cells 98 [.d (.sl (List.map TPart.e v26)),.mp 101,.mp 102]),(101,.mapH nl29 [.u16,.u64] true (encM TDot.k TEvent.e v30)),(102,.mapH nl27 [.u16,.u64] true (encM TDot.k TEvent.e v28))] (yG v26 nl29 v30 nl27 v28 y72 hy73) hK rfl call35 rfl (by first | rfl | (simp;done) | (simp [PV.nilD,PV.ren,rn];omega)) (by repeat' first | constructor | (congr 1;first | (simp;done) | (simp;omega) | omega)) (.cons rfl<|.nil) (.cons rfl<|.cons rfl<|.cons rfl<|.nil) (by repeat' first | constructor | (congr 1;first | (simp;done) | (simp;omega) | omega)) rfl rfl rfl rfl rfl rfl) ?_;refine wy (tl:=[(9,_),(87,_),(89,_)]) (to:=[(64,_),(89,_),(21281,_),(21282,_)]) ?_;refine PWl.frz [89] hK (.cons rfl<|.nil) rfl (by simp) ?_;obtain ⟨y74,hy75,h⟩:=iDet h;rcases y74 with z76 | z79
       ·replace h:=iSumL h;refine ws (LR.callObj [] [] [] (yv y70 y72 (.inl z76) hy75) hK rfl call11 rfl (by first | rfl | (simp;done) | (simp [PV.nilD,PV.ren,rn];omega)) (.nil) rfl rfl rfl rfl) ?_;refine wm ?_;refine ws (LR.extract rfl rfl)<|ws (LR.extract rfl rfl)<|wa ?_;refine wa ?_;refine wN<|wQ<|wz (tl:=[(9,_),(11,_),(12,_)]) (to:=[(64,_),(21281,_),(21282,_)]) ?_;refine wR<|wm ?_;replace h:=zF h;refine PWl.callObjS [(100,64),(101,21281),(102,21282),(16,94),(30321,21881),(30322,21882)] [] [100,101,102,16,30321,30322] (fun gh:Subtype (α:=List TPart × Bool × (List (TDot × TEvent)) × Bool × (List (TDot × TEvent))) _=>[(16,.cells 98 [.d (.sl (List.map TPart.e gh.1.1)),.mp 30321,.mp 30322]),(30321,.mapH gh.1.2.1 [.u16,.u64] true (encM TDot.k TEvent.e gh.1.2.2.1)),(30322,.mapH gh.1.2.2.2.1 [.u16,.u64] true (encM TDot.k TEvent.e gh.1.2.2.2.2))]) [(100,.cells 98 [.d (.sl (List.map TPart.e v26)),.mp 101,.mp 102]),(101,.mapH nl29 [.u16,.u64] true (encM TDot.k TEvent.e v30)),(102,.mapH nl27 [.u16,.u64] true (encM TDot.k TEvent.e v28))] (yq v26 nl29 v30 nl27 v28 h) hK rfl call36 rfl (by first | rfl | (simp;done) | (simp [PV.nilD,PV.ren,rn];omega)) (by repeat' first | constructor | (congr 1;first | (simp;done) | (simp;omega) | omega)) (fun _=>.cons rfl<|.cons rfl<|.cons rfl<|.nil) (fun _=>.cons rfl<|.cons rfl<|.cons rfl<|.nil) (by repeat' first | constructor | (congr 1;first | (simp;done) | (simp;omega) | omega)) (fun _=>rfl) rfl (fun _=>rfl) (fun _=>rfl) rfl rfl rfl (fun gh=>?_);obtain ⟨y77,h⟩:=gh;refine wa ?_;refine wN<|wQ<|wQ<|wz (tl:=[(9,_),(11,_),(12,_),(13,_)]) (to:=[(64,_),(94,_),(21281,_),(21282,_),(21881,_),(21882,_)]) ?_;refine wR<|wm ?_;refine ws (nQ rfl rfl)<|wm ?_;refine wf<|wf<|wf<|wf<|ws (pT rfl rfl)<|wm ?_;refine wf<|wf<|wf<|wf<|ws (pT rfl rfl)<|wN<|PWc.condT rfl<|wQ<|wR ?_;refine wa ?_;refine wN<|wX ?_;cases h;exact ⟨.inr rfl,_,.cons (.tmp rfl rfl)<|.nil,rfl⟩
       ·replace h:=iSumR h;refine ws (LR.callObj [(12,21800),(30241,21801),(30242,21802)] [] [12,30241,30242] (yv y70 y72 (.inr z79) hy75) hK rfl call11 rfl (by first | rfl | (simp;done) | (simp [PV.nilD,PV.ren,rn];omega)) (.nil) rfl rfl rfl rfl) ?_;refine wm ?_;refine ws (LR.extract rfl rfl)<|ws (LR.extract rfl rfl)<|wa ?_;refine wa ?_;refine wN<|wQ<|wz (tl:=[(9,_),(11,_),(12,_)]) (to:=[(64,_),(21281,_),(21282,_),(21800,_),(21801,_),(21802,_)]) ?_;refine wR<|wm ?_;replace h:=zF h;refine PWl.callObjS [(100,64),(101,21281),(102,21282),(16,94),(30321,21881),(30322,21882)] [] [100,101,102,16,30321,30322] (fun gh:Subtype (α:=List TPart × Bool × (List (TDot × TEvent)) × Bool × (List (TDot × TEvent))) _=>[(16,.cells 98 [.d (.sl (List.map TPart.e gh.1.1)),.mp 30321,.mp 30322]),(30321,.mapH gh.1.2.1 [.u16,.u64] true (encM TDot.k TEvent.e gh.1.2.2.1)),(30322,.mapH gh.1.2.2.2.1 [.u16,.u64] true (encM TDot.k TEvent.e gh.1.2.2.2.2))]) [(100,.cells 98 [.d (.sl (List.map TPart.e v26)),.mp 101,.mp 102]),(101,.mapH nl29 [.u16,.u64] true (encM TDot.k TEvent.e v30)),(102,.mapH nl27 [.u16,.u64] true (encM TDot.k TEvent.e v28))] (yq v26 nl29 v30 nl27 v28 h) hK rfl call36 rfl (by first | rfl | (simp;done) | (simp [PV.nilD,PV.ren,rn];omega)) (by repeat' first | constructor | (congr 1;first | (simp;done) | (simp;omega) | omega)) (fun _=>.cons rfl<|.cons rfl<|.cons rfl<|.nil) (fun _=>.cons rfl<|.cons rfl<|.cons rfl<|.nil) (by repeat' first | constructor | (congr 1;first | (simp;done) | (simp;omega) | omega)) (fun _=>rfl) rfl (fun _=>rfl) (fun _=>rfl) rfl rfl rfl (fun gh=>?_);obtain ⟨y80,h⟩:=gh;refine wy (tl:=[(9,_),(11,_),(12,_),(94,_)]) (to:=[(64,_),(94,_),(21281,_),(21282,_),(21800,_),(21801,_),(21802,_),(21881,_),(21882,_)]) ?_;refine wa ?_;refine wN<|wQ<|wQ ?_;refine wJ (zF h) (fun (v82:Bool) (_:Unit)=>⟨126,[(9,.ref 64 0),(13,.ref 94 0),(108,.d (.v (.bool v82)))],[(64,.cells 98 [.d (.sl (List.map TPart.e v26)),.mp 21281,.mp 21282]),(94,.cells 98 [.d (.sl (List.map TPart.e y80.1)),.mp 21881,.mp 21882]),(21281,.mapH nl29 [.u16,.u64] true (encM TDot.k TEvent.e v30)),(21282,.mapH nl27 [.u16,.u64] true (encM TDot.k TEvent.e v28)),(21881,.mapH y80.2.1 [.u16,.u64] true (encM TDot.k TEvent.e y80.2.2.1)),(21882,.mapH y80.2.2.2.1 [.u16,.u64] true (encM TDot.k TEvent.e y80.2.2.2.2))]⟩) (fun h=>?_) ?_
        ·refine wR<|wm ?_;refine ws (nQ rfl rfl)<|wm ?_;refine wt (mV rfl)<|wt (mV rfl) ?_;obtain ⟨y83,hy84,h⟩:=iDet h;refine wt (LR.callObjS [(100,64),(101,21800),(102,21281),(103,21282),(104,21801),(105,21802)] [] [100,101,102,103,104,105] [] [(100,.cells 98 [.d (.sl (List.map TPart.e v26)),.mp 102,.mp 103]),(101,.cells 98 [.d (.sl (List.map TPart.e z79.1)),.mp 104,.mp 105]),(102,.mapH nl29 [.u16,.u64] true (encM TDot.k TEvent.e v30)),(103,.mapH nl27 [.u16,.u64] true (encM TDot.k TEvent.e v28)),(104,.mapH z79.2.1 [.u16,.u64] true (encM TDot.k TEvent.e z79.2.2.1)),(105,.mapH z79.2.2.2.1 [.u16,.u64] true (encM TDot.k TEvent.e z79.2.2.2.2))] (yw v26 z79.1 nl29 v30 nl27 v28 z79.2.1 z79.2.2.1 z79.2.2.2.1 z79.2.2.2.2 y83 hy84) hK rfl call37 rfl (by first | rfl | (simp;done) | (simp [PV.nilD,PV.ren,rn];omega)) (by repeat' first | constructor | (congr 1;first | (simp;done) | (simp;omega) | omega)) (.nil) (.cons rfl<|.cons rfl<|.cons rfl<|.cons rfl<|.cons rfl<|.cons rfl<|.nil) (by repeat' first | constructor | (congr 1;first | (simp;done) | (simp;omega) | omega)) rfl rfl rfl rfl rfl rfl) ?_;refine wy (tl:=[(9,_),(11,_),(13,_),(97,_),(100,_)]) (to:=[(64,_),(94,_),(21281,_),(21282,_),(21800,_),(21801,_),(21802,_),(21881,_),(21882,_)]) ?_;refine wt (LR.not rfl)<|ws (pF rfl rfl)<|wm ?_;refine wL (d:=103) rfl (fun hg85=>?_) (fun hg85=>?_)
         ·replace h:=iT hg85 h;refine wf<|wf<|wf<|wf<|ws (pT rfl rfl)<|wN ?_;exact ⟨true,(),h,sP⟩
         ·replace h:=iF hg85 h;refine wt (mV rfl)<|wt (mV rfl) ?_;obtain ⟨y86,hy87,h⟩:=iDet h;refine wt (LR.callObjS [(100,21800),(101,94),(102,21801),(103,21802),(104,21881),(105,21882)] [] [100,101,102,103,104,105] [] [(100,.cells 98 [.d (.sl (List.map TPart.e z79.1)),.mp 102,.mp 103]),(101,.cells 98 [.d (.sl (List.map TPart.e y80.1)),.mp 104,.mp 105]),(102,.mapH z79.2.1 [.u16,.u64] true (encM TDot.k TEvent.e z79.2.2.1)),(103,.mapH z79.2.2.2.1 [.u16,.u64] true (encM TDot.k TEvent.e z79.2.2.2.2)),(104,.mapH y80.2.1 [.u16,.u64] true (encM TDot.k TEvent.e y80.2.2.1)),(105,.mapH y80.2.2.2.1 [.u16,.u64] true (encM TDot.k TEvent.e y80.2.2.2.2))] (yw z79.1 y80.1 z79.2.1 z79.2.2.1 z79.2.2.2.1 z79.2.2.2.2 y80.2.1 y80.2.2.1 y80.2.2.2.1 y80.2.2.2.2 y86 hy87) hK rfl call37 rfl (by first | rfl | (simp;done) | (simp [PV.nilD,PV.ren,rn];omega)) (by repeat' first | constructor | (congr 1;first | (simp;done) | (simp;omega) | omega)) (.nil) (.cons rfl<|.cons rfl<|.cons rfl<|.cons rfl<|.cons rfl<|.cons rfl<|.nil) (by repeat' first | constructor | (congr 1;first | (simp;done) | (simp;omega) | omega)) rfl rfl rfl rfl rfl rfl) ?_;refine wy (tl:=[(9,_),(13,_),(103,_),(106,_)]) (to:=[(64,_),(94,_),(21281,_),(21282,_),(21881,_),(21882,_)]) ?_;refine wt (LR.not rfl)<|ws (pF rfl rfl)<|wN ?_;exact ⟨(!y86),(),h,sP⟩
        ·rintro v82 _ h;refine wC rfl (fun hc88=>?_) (fun hc88=>?_)
         ·replace h:=iT hc88 h;refine wQ<|wR<|wa ?_;refine wN<|wX ?_;cases h;exact ⟨.inr rfl,_,.cons (.tmp rfl rfl)<|.nil,rfl⟩
         ·replace h:=iF hc88 h;refine wK<|wQ<|wR<|wm ?_;refine ws (LR.build (ns:=[_,_]) Xs rfl rfl rfl)<|ws (LR.buildSliceD [.tmp 110] xt rfl rfl (.cons rfl rfl rfl<|.nil) (by decide) (by decide))<|ws (LR.build (ns:=[_,_]) VP rfl rfl rfl)<|ws (LR.buildSliceD [.tmp 112] XH rfl rfl (.cons rfl rfl rfl<|.nil) (by decide) (by decide)) ?_;obtain ⟨y89,hy90,h⟩:=iDet h;refine ws (LR.callObjS [(100,94),(101,21881),(102,21882)] [] [100,101,102] [(100,.cells 98 [.d (.sl (List.map TPart.e y89)),.mp 101,.mp 102])] [(101,.mapH y80.2.1 [.u16,.u64] true (encM TDot.k TEvent.e y80.2.2.1)),(102,.mapH y80.2.2.2.1 [.u16,.u64] true (encM TDot.k TEvent.e y80.2.2.2.2))] (uP ([(⟨65535,[(⟨281474976710655,281474976710655⟩:TRun)]⟩:TPart)]) y80.1 y80.2.1 y80.2.2.1 y80.2.2.2.1 y80.2.2.2.2 y89 hy90) hK rfl call38 rfl (by first | rfl | (simp;done) | (simp [PV.nilD,PV.ren,rn];omega)) (by repeat' first | constructor | (congr 1;first | (simp;done) | (simp;omega) | omega)) (.cons rfl<|.nil) (.cons rfl<|.cons rfl<|.nil) (by repeat' first | constructor | (congr 1;first | (simp;done) | (simp;omega) | omega)) rfl rfl rfl rfl rfl rfl) ?_;refine wN<|wQ<|wz (tl:=[(9,_),(13,_)]) (to:=[(64,_),(94,_),(21281,_),(21282,_),(21881,_),(21882,_)]) ?_;refine wJ (zF h) (fun (v91:Bool) (_:Unit)=>⟨126,[(6,.d (.v (.bool v91)))],[]⟩) (fun h=>?_) ?_
          ·refine wR<|wm ?_;refine wm ?_;obtain ⟨y92,hy93,h⟩:=iDet h;refine ws (LR.callObjS [(100,64),(101,94),(102,21281),(103,21282),(104,21881),(105,21882)] [] [100,101,102,103,104,105] [] [(100,.cells 98 [.d (.sl (List.map TPart.e v26)),.mp 102,.mp 103]),(101,.cells 98 [.d (.sl (List.map TPart.e y89)),.mp 104,.mp 105]),(102,.mapH nl29 [.u16,.u64] true (encM TDot.k TEvent.e v30)),(103,.mapH nl27 [.u16,.u64] true (encM TDot.k TEvent.e v28)),(104,.mapH y80.2.1 [.u16,.u64] true (encM TDot.k TEvent.e y80.2.2.1)),(105,.mapH y80.2.2.2.1 [.u16,.u64] true (encM TDot.k TEvent.e y80.2.2.2.2))] (yw v26 y89 nl29 v30 nl27 v28 y80.2.1 y80.2.2.1 y80.2.2.2.1 y80.2.2.2.2 y92 hy93) hK rfl call37 rfl (by first | rfl | (simp;done) | (simp [PV.nilD,PV.ren,rn];omega)) (by repeat' first | constructor | (congr 1;first | (simp;done) | (simp;omega) | omega)) (.nil) (.cons rfl<|.cons rfl<|.cons rfl<|.cons rfl<|.cons rfl<|.cons rfl<|.nil) (by repeat' first | constructor | (congr 1;first | (simp;done) | (simp;omega) | omega)) rfl rfl rfl rfl rfl rfl) ?_;refine wy (tl:=[(9,_),(117,_)]) (to:=[(64,_),(21281,_),(21282,_)]) ?_;refine wm ?_;obtain ⟨y94,hy95,h⟩:=iDet h;refine ws (LR.callObjS [(100,64),(101,21281),(102,21282)] [] [100,101,102] [] [(100,.cells 98 [.d (.sl (List.map TPart.e v26)),.mp 101,.mp 102]),(101,.mapH nl29 [.u16,.u64] true (encM TDot.k TEvent.e v30)),(102,.mapH nl27 [.u16,.u64] true (encM TDot.k TEvent.e v28))] (zd v26 nl29 v30 nl27 v28 y94 hy95) hK rfl call34 rfl (by first | rfl | (simp;done) | (simp [PV.nilD,PV.ren,rn];omega)) (by repeat' first | constructor | (congr 1;first | (simp;done) | (simp;omega) | omega)) (.nil) (.cons rfl<|.cons rfl<|.cons rfl<|.nil) (by repeat' first | constructor | (congr 1;first | (simp;done) | (simp;omega) | omega)) rfl rfl rfl rfl rfl rfl) ?_;refine ws (LR.build (ns:=[_,_]) uT rfl rfl rfl) ?_;obtain ⟨v96,hy97,h⟩:=iDet h;refine ws (cN (uh y94 (⟨65535,281474976710655⟩:TDot) v96 hy97) rfl call39 rfl rfl rfl rfl)<|ws (LR.eqlBool underlying4 rfl rfl)<|wm ?_;refine wL (d:=123) rfl (fun hg98=>?_) (fun hg98=>?_)
           ·replace h:=iT hg98 h;obtain ⟨v99,hy100,h⟩:=iDet h;refine wt (cN (Zn v99 hy100) rfl call28 rfl rfl rfl rfl)<|ws (pT rfl rfl)<|wa ?_;refine wN ?_;exact ⟨v99,(),h,sP⟩
           ·replace h:=iF hg98 h;refine wf<|ws (pF rfl rfl)<|wa ?_;refine wN ?_;exact ⟨false,(),h,sP⟩
          ·rintro v91 _ h;refine wX ?_;cases h;exact ⟨.inr rfl,_,.cons (.tmp rfl rfl)<|.nil,rfl⟩
   ·replace h:=iSumR h;refine ws (LR.callObj [(12,20620),(30241,20621),(30242,20622)] [] [12,30241,30242] (yv c1 l2 (.inr z101) hy17) hK rfl call11 rfl (by first | rfl | (simp;done) | (simp [PV.nilD,PV.ren,rn];omega)) (.nil) rfl rfl rfl rfl) ?_;refine wm ?_;refine ws (LR.extract rfl rfl)<|ws (LR.extract rfl rfl)<|wa ?_;refine wa ?_;refine wN<|wQ<|wQ<|wz (tl:=[(0,_),(1,_),(2,_),(7,_),(8,_)]) (to:=[(20620,_),(20621,_),(20622,_)]) ?_;refine wJ (zF h) (fun (v102:Bool) (_:Unit)=>⟨126,[(2,.d (.sl (List.map L18Act.e acts3))),(63,.d (.v (.bool v102)))],[]⟩) (fun h=>?_) ?_
    ·refine wR<|wm ?_;refine ws (eQ rfl rfl)<|wm ?_;refine wm ?_;obtain ⟨v103,hy104,h⟩:=iDet h;refine ws (cN (Vn c1 l2 v103 hy104) rfl call29 rfl rfl rfl rfl)<|ws (LR.neqBool underlying4 rfl rfl)<|wm ?_;refine wL (d:=40) rfl (fun hg105=>?_) (fun hg105=>?_)
     ·replace h:=iT hg105 h;refine wf<|wf<|wf<|wu<|wu<|wu<|wu<|wu<|wy (tl:=[(2,_),(7,_),(8,_),(40,_),(43,_),(48,_)]) (to:=[(20620,_),(20621,_),(20622,_)]) ?_;refine wu<|wf<|ws (pT rfl rfl)<|wm ?_;refine wf<|wf<|wf<|wu<|wu<|wu<|wu<|wu<|wu ?_;refine wf<|ws (pT rfl rfl)<|wN ?_;exact ⟨true,(),h,sP⟩
     ·replace h:=iF hg105 h;refine wt (mV rfl)<|wt (eQ rfl rfl)<|wt (mV rfl)<|wt (mV rfl)<|wt (mV rfl)<|wt (mV rfl)<|wt (LR.build (ns:=[_,_]) build32 rfl rfl rfl) ?_;obtain ⟨y106,hy107,h⟩:=iDet h;refine wt (LR.callObjS [(100,20620),(101,20621),(102,20622)] [] [100,101,102] [] [(100,.cells 98 [.d (.sl (List.map TPart.e z101.1)),.mp 101,.mp 102]),(101,.mapH z101.2.1 [.u16,.u64] true (encM TDot.k TEvent.e z101.2.2.1)),(102,.mapH z101.2.2.2.1 [.u16,.u64] true (encM TDot.k TEvent.e z101.2.2.2.2))] (qx (⟨c1,l2⟩:R18Book) z101.1 z101.2.1 z101.2.2.1 z101.2.2.2.1 z101.2.2.2.2 y106 hy107) hK rfl call30 rfl (by first | rfl | (simp;done) | (simp [PV.nilD,PV.ren,rn];omega)) (by repeat' first | constructor | (congr 1;first | (simp;done) | (simp;omega) | omega)) (.nil) (.cons rfl<|.cons rfl<|.cons rfl<|.nil) (by repeat' first | constructor | (congr 1;first | (simp;done) | (simp;omega) | omega)) rfl rfl rfl rfl rfl rfl) ?_;refine wy (tl:=[(2,_),(7,_),(8,_),(40,_),(43,_),(48,_)]) (to:=[(20620,_),(20621,_),(20622,_)]) ?_;refine wt (eQ rfl rfl)<|wt (pT rfl rfl)<|ws (pF rfl rfl)<|wm ?_;refine wL (d:=52) rfl (fun hg108=>?_) (fun hg108=>?_)
      ·replace h:=iT hg108 h;refine wf<|wf<|wf<|wu<|wu<|wu<|wu<|wu<|wu ?_;refine wf<|wy (tl:=[(2,_),(52,_),(62,_)]) (to:=[]) ?_;refine ws (pT rfl rfl)<|wN ?_;exact ⟨true,(),h,sP⟩
      ·replace h:=iF hg108 h;refine wt (mV rfl)<|wt (nQ rfl rfl)<|wt (mV rfl)<|wf<|wf<|wf<|wu<|wu<|wf ?_;refine wt (pF rfl rfl)<|wy (tl:=[(2,_),(52,_),(62,_)]) (to:=[]) ?_;refine ws (pF rfl rfl)<|wN ?_;exact ⟨false,(),h,sP⟩
    ·rintro v102 _ h;refine wC rfl (fun hc109=>?_) (fun hc109=>?_)
     ·replace h:=iT hc109 h;refine wQ<|wR<|wa ?_;refine wN<|wX ?_;cases h;exact ⟨.inr rfl,_,.cons (.tmp rfl rfl)<|.nil,rfl⟩
     ·replace h:=iF hc109 h;refine wK<|wQ<|wR ?_;obtain ⟨y110,hy111,h⟩:=iDet h;refine ws (LR.callObj [(2,64),(30041,21281),(30042,21282)] [] [2,30041,30042] (ZL y110 hy111) hK rfl call31 rfl (by first | rfl | (simp;done) | (simp [PV.nilD,PV.ren,rn];omega)) (.nil) rfl rfl rfl rfl) ?_;refine wa ?_;refine wN<|wQ<|wQ<|wz (tl:=[(2,_),(9,_)]) (to:=[(64,_),(21281,_),(21282,_)]) ?_;refine wR<|wa ?_;refine wN ?_;refine wJ (zF h) (fun (⟨v112,nl113,v114,nl115,v116⟩:List TPart × Bool × (List (TDot × TEvent)) × Bool × (List (TDot × TEvent))) (_:Unit)=>⟨126,[(9,.ref 64 0)],[(64,.cells 98 [.d (.sl (List.map TPart.e v112)),.mp 21281,.mp 21282]),(21281,.mapH nl115 [.u16,.u64] true (encM TDot.k TEvent.e v116)),(21282,.mapH nl113 [.u16,.u64] true (encM TDot.k TEvent.e v114))]⟩) (fun h=>?_) ?_
      ·refine wB<|wM (fun (⟨i141,v142,nl143,v144,nl145,v146⟩:Int × List TPart × Bool × (List (TDot × TEvent)) × Bool × (List (TDot × TEvent))) (_:Unit)=>⟨126,[(2,.d (.sl (List.map L18Act.e acts3))),(9,.ref 64 0),(10,.d (.v (.int .i64 i141)))],[(64,.cells 98 [.d (.sl (List.map TPart.e v142)),.mp 21281,.mp 21282]),(21281,.mapH nl145 [.u16,.u64] true (encM TDot.k TEvent.e v146)),(21282,.mapH nl143 [.u16,.u64] true (encM TDot.k TEvent.e v144))]⟩) () h (sP) ?_;rintro N ⟨i141,v142,nl143,v144,nl145,v146⟩ _ h;refine wQ<|wQ<|wR<|wm ?_;refine wm ?_;refine ws (lM (enc:=L18Act.e) (L:=acts3) underlying27 rfl)<|ws (LR.lss rfl rfl)<|wN ?_;refine wC rfl (fun hc147=>?_) (fun hc147=>?_)
       ·replace h:=iT hc147 h;refine wK<|wQ<|wB<|wQ<|wR<|wm ?_;refine wm ?_;refine wm ?_;obtain ⟨x148,hy149,h⟩:=iIdx h;refine ws (iX (enc:=L18Act.e) (L:=acts3) (y:=x148) underlying27 sizeOf71 rfl rfl hy149 (fun _=>rfl))<|ws (fE underlying71 rfl sizeOf69 (by decide) rfl rfl)<|ws (lE (ys:=[_,_,_,_,_,_,_]) isAgg69 sizeOf69 rfl rfl rfl) ?_;obtain ⟨y150,hy151,h⟩:=iDet h;refine ws (LR.callObj [(100,64),(101,21281),(102,21282)] [] [100,101,102] (xC x148.event v142 nl145 v146 nl143 v144 y150 hy151) hK rfl call32 rfl (by first | rfl | (simp;done) | (simp [PV.nilD,PV.ren,rn];omega)) (by repeat' first | constructor | (congr 1;first | (simp;done) | (simp;omega) | omega)) rfl rfl rfl rfl) ?_;refine wN<|wz (tl:=[(2,_),(9,_),(10,_)]) (to:=[(64,_),(21281,_),(21282,_)]) ?_;refine wR<|wm ?_;refine wm ?_;refine wm ?_;obtain ⟨x152,hy153,h⟩:=iIdx h;refine ws (iX (enc:=L18Act.e) (L:=acts3) (y:=x152) underlying27 sizeOf71 rfl rfl hy153 (fun _=>rfl))<|ws (fE underlying71 rfl sizeOf23 (by decide) rfl rfl)<|ws (LR.loadEp isAgg23 rfl rfl) ?_;obtain ⟨y154,hy155,h⟩:=iDet h;refine ws (LR.callObjS [(100,64),(101,21281),(102,21282)] [] [100,101,102] [(101,.mapH y154.2.1 [.u16,.u64] true (encM TDot.k TEvent.e y154.2.2.1)),(102,.mapH y154.2.2.2.1 [.u16,.u64] true (encM TDot.k TEvent.e y154.2.2.2.2))] [(100,.cells 98 [.d (.sl (List.map TPart.e y150.2.1)),.mp 101,.mp 102])] (xR x152.ctx y150.2.1 y150.2.2.1 y150.2.2.2.1 y150.2.2.2.2.1 y150.2.2.2.2.2 y154 hy155) hK rfl call33 rfl (by first | rfl | (simp;done) | (simp [PV.nilD,PV.ren,rn];omega)) (by repeat' first | constructor | (congr 1;first | (simp;done) | (simp;omega) | omega)) (.cons rfl<|.cons rfl<|.nil) (.cons rfl<|.nil) (.cons (by first | rfl | (congr 1;first | (simp;done) | (simp;omega) | omega))<|.nil) rfl rfl rfl rfl rfl rfl) ?_;refine wN<|wz (tl:=[(2,_),(9,_),(10,_)]) (to:=[(64,_),(21281,_),(21282,_)]) ?_;refine wR<|wm ?_;refine ws (LR.addW rfl rfl)<|wa ?_;refine wN ?_;exact ⟨((IntKind.i64.wrap (i141 + 1)),y150.2.1,y154.2.2.2.1,y154.2.2.2.2,y154.2.1,y154.2.2.1),(),h,sP⟩
       ·replace h:=iF hc147 h;refine wZ ?_;exact ⟨(v142,nl143,v144,nl145,v146),(),h,sP⟩
      ·rintro ⟨v112,nl113,v114,nl115,v116⟩ _ h;refine wQ<|wR<|wm ?_;obtain ⟨y156,hy157,h⟩:=iDet h;refine ws (LR.callObjS [(100,64),(101,21281),(102,21282)] [] [100,101,102] [] [(100,.cells 98 [.d (.sl (List.map TPart.e v112)),.mp 101,.mp 102]),(101,.mapH nl115 [.u16,.u64] true (encM TDot.k TEvent.e v116)),(102,.mapH nl113 [.u16,.u64] true (encM TDot.k TEvent.e v114))] (zd v112 nl115 v116 nl113 v114 y156 hy157) hK rfl call34 rfl (by first | rfl | (simp;done) | (simp [PV.nilD,PV.ren,rn];omega)) (by repeat' first | constructor | (congr 1;first | (simp;done) | (simp;omega) | omega)) (.nil) (.cons rfl<|.cons rfl<|.cons rfl<|.nil) (by repeat' first | constructor | (congr 1;first | (simp;done) | (simp;omega) | omega)) rfl rfl rfl rfl rfl rfl) ?_;refine wm ?_;obtain ⟨y158,hy159,h⟩:=iDet h;refine ws (LR.callObjS [(100,64),(101,21281),(102,21282),(14,89)] [] [100,101,102,14] [(14,.row 69 7 (List.map TEvent.e y158))] [(100,.cells 98 [.d (.sl (List.map TPart.e v112)),.mp 101,.mp 102]),(101,.mapH nl115 [.u16,.u64] true (encM TDot.k TEvent.e v116)),(102,.mapH nl113 [.u16,.u64] true (encM TDot.k TEvent.e v114))] (yG v112 nl115 v116 nl113 v114 y158 hy159) hK rfl call35 rfl (by first | rfl | (simp;done) | (simp [PV.nilD,PV.ren,rn];omega)) (by repeat' first | constructor | (congr 1;first | (simp;done) | (simp;omega) | omega)) (.cons rfl<|.nil) (.cons rfl<|.cons rfl<|.cons rfl<|.nil) (by repeat' first | constructor | (congr 1;first | (simp;done) | (simp;omega) | omega)) rfl rfl rfl rfl rfl rfl) ?_;refine wy (tl:=[(9,_),(87,_),(89,_)]) (to:=[(64,_),(89,_),(21281,_),(21282,_)]) ?_;refine PWl.frz [89] hK (.cons rfl<|.nil) rfl (by simp) ?_;obtain ⟨y160,hy161,h⟩:=iDet h;rcases y160 with z162 | z165
       ·replace h:=iSumL h;refine ws (LR.callObj [] [] [] (yv y156 y158 (.inl z162) hy161) hK rfl call11 rfl (by first | rfl | (simp;done) | (simp [PV.nilD,PV.ren,rn];omega)) (.nil) rfl rfl rfl rfl) ?_;refine wm ?_;refine ws (LR.extract rfl rfl)<|ws (LR.extract rfl rfl)<|wa ?_;refine wa ?_;refine wN<|wQ<|wz (tl:=[(9,_),(11,_),(12,_)]) (to:=[(64,_),(21281,_),(21282,_)]) ?_;refine wR<|wm ?_;replace h:=zF h;refine PWl.callObjS [(100,64),(101,21281),(102,21282),(16,94),(30321,21881),(30322,21882)] [] [100,101,102,16,30321,30322] (fun gh:Subtype (α:=List TPart × Bool × (List (TDot × TEvent)) × Bool × (List (TDot × TEvent))) _=>[(16,.cells 98 [.d (.sl (List.map TPart.e gh.1.1)),.mp 30321,.mp 30322]),(30321,.mapH gh.1.2.1 [.u16,.u64] true (encM TDot.k TEvent.e gh.1.2.2.1)),(30322,.mapH gh.1.2.2.2.1 [.u16,.u64] true (encM TDot.k TEvent.e gh.1.2.2.2.2))]) [(100,.cells 98 [.d (.sl (List.map TPart.e v112)),.mp 101,.mp 102]),(101,.mapH nl115 [.u16,.u64] true (encM TDot.k TEvent.e v116)),(102,.mapH nl113 [.u16,.u64] true (encM TDot.k TEvent.e v114))] (yq v112 nl115 v116 nl113 v114 h) hK rfl call36 rfl (by first | rfl | (simp;done) | (simp [PV.nilD,PV.ren,rn];omega)) (by repeat' first | constructor | (congr 1;first | (simp;done) | (simp;omega) | omega)) (fun _=>.cons rfl<|.cons rfl<|.cons rfl<|.nil) (fun _=>.cons rfl<|.cons rfl<|.cons rfl<|.nil) (by repeat' first | constructor | (congr 1;first | (simp;done) | (simp;omega) | omega)) (fun _=>rfl) rfl (fun _=>rfl) (fun _=>rfl) rfl rfl rfl (fun gh=>?_);obtain ⟨y163,h⟩:=gh;refine wa ?_;refine wN<|wQ<|wQ<|wz (tl:=[(9,_),(11,_),(12,_),(13,_)]) (to:=[(64,_),(94,_),(21281,_),(21282,_),(21881,_),(21882,_)]) ?_;refine wR<|wm ?_;refine ws (nQ rfl rfl)<|wm ?_;refine wf<|wf<|wf<|wf<|ws (pT rfl rfl)<|wm ?_;refine wf<|wf<|wf<|wf<|ws (pT rfl rfl)<|wN<|PWc.condT rfl<|wQ<|wR ?_;refine wa ?_;refine wN<|wX ?_;cases h;exact ⟨.inr rfl,_,.cons (.tmp rfl rfl)<|.nil,rfl⟩
       ·replace h:=iSumR h;refine ws (LR.callObj [(12,21800),(30241,21801),(30242,21802)] [] [12,30241,30242] (yv y156 y158 (.inr z165) hy161) hK rfl call11 rfl (by first | rfl | (simp;done) | (simp [PV.nilD,PV.ren,rn];omega)) (.nil) rfl rfl rfl rfl) ?_;refine wm ?_;refine ws (LR.extract rfl rfl)<|ws (LR.extract rfl rfl)<|wa ?_;refine wa ?_;refine wN<|wQ<|wz (tl:=[(9,_),(11,_),(12,_)]) (to:=[(64,_),(21281,_),(21282,_),(21800,_),(21801,_),(21802,_)]) ?_;refine wR<|wm ?_;replace h:=zF h;refine PWl.callObjS [(100,64),(101,21281),(102,21282),(16,94),(30321,21881),(30322,21882)] [] [100,101,102,16,30321,30322] (fun gh:Subtype (α:=List TPart × Bool × (List (TDot × TEvent)) × Bool × (List (TDot × TEvent))) _=>[(16,.cells 98 [.d (.sl (List.map TPart.e gh.1.1)),.mp 30321,.mp 30322]),(30321,.mapH gh.1.2.1 [.u16,.u64] true (encM TDot.k TEvent.e gh.1.2.2.1)),(30322,.mapH gh.1.2.2.2.1 [.u16,.u64] true (encM TDot.k TEvent.e gh.1.2.2.2.2))]) [(100,.cells 98 [.d (.sl (List.map TPart.e v112)),.mp 101,.mp 102]),(101,.mapH nl115 [.u16,.u64] true (encM TDot.k TEvent.e v116)),(102,.mapH nl113 [.u16,.u64] true (encM TDot.k TEvent.e v114))] (yq v112 nl115 v116 nl113 v114 h) hK rfl call36 rfl (by first | rfl | (simp;done) | (simp [PV.nilD,PV.ren,rn];omega)) (by repeat' first | constructor | (congr 1;first | (simp;done) | (simp;omega) | omega)) (fun _=>.cons rfl<|.cons rfl<|.cons rfl<|.nil) (fun _=>.cons rfl<|.cons rfl<|.cons rfl<|.nil) (by repeat' first | constructor | (congr 1;first | (simp;done) | (simp;omega) | omega)) (fun _=>rfl) rfl (fun _=>rfl) (fun _=>rfl) rfl rfl rfl (fun gh=>?_);obtain ⟨y166,h⟩:=gh;refine wy (tl:=[(9,_),(11,_),(12,_),(94,_)]) (to:=[(64,_),(94,_),(21281,_),(21282,_),(21800,_),(21801,_),(21802,_),(21881,_),(21882,_)]) ?_;refine wa ?_;refine wN<|wQ<|wQ ?_;refine wJ (zF h) (fun (v168:Bool) (_:Unit)=>⟨126,[(9,.ref 64 0),(13,.ref 94 0),(108,.d (.v (.bool v168)))],[(64,.cells 98 [.d (.sl (List.map TPart.e v112)),.mp 21281,.mp 21282]),(94,.cells 98 [.d (.sl (List.map TPart.e y166.1)),.mp 21881,.mp 21882]),(21281,.mapH nl115 [.u16,.u64] true (encM TDot.k TEvent.e v116)),(21282,.mapH nl113 [.u16,.u64] true (encM TDot.k TEvent.e v114)),(21881,.mapH y166.2.1 [.u16,.u64] true (encM TDot.k TEvent.e y166.2.2.1)),(21882,.mapH y166.2.2.2.1 [.u16,.u64] true (encM TDot.k TEvent.e y166.2.2.2.2))]⟩) (fun h=>?_) ?_
        ·refine wR<|wm ?_;refine ws (nQ rfl rfl)<|wm ?_;refine wt (mV rfl)<|wt (mV rfl) ?_;obtain ⟨y169,hy170,h⟩:=iDet h;refine wt (LR.callObjS [(100,64),(101,21800),(102,21281),(103,21282),(104,21801),(105,21802)] [] [100,101,102,103,104,105] [] [(100,.cells 98 [.d (.sl (List.map TPart.e v112)),.mp 102,.mp 103]),(101,.cells 98 [.d (.sl (List.map TPart.e z165.1)),.mp 104,.mp 105]),(102,.mapH nl115 [.u16,.u64] true (encM TDot.k TEvent.e v116)),(103,.mapH nl113 [.u16,.u64] true (encM TDot.k TEvent.e v114)),(104,.mapH z165.2.1 [.u16,.u64] true (encM TDot.k TEvent.e z165.2.2.1)),(105,.mapH z165.2.2.2.1 [.u16,.u64] true (encM TDot.k TEvent.e z165.2.2.2.2))] (yw v112 z165.1 nl115 v116 nl113 v114 z165.2.1 z165.2.2.1 z165.2.2.2.1 z165.2.2.2.2 y169 hy170) hK rfl call37 rfl (by first | rfl | (simp;done) | (simp [PV.nilD,PV.ren,rn];omega)) (by repeat' first | constructor | (congr 1;first | (simp;done) | (simp;omega) | omega)) (.nil) (.cons rfl<|.cons rfl<|.cons rfl<|.cons rfl<|.cons rfl<|.cons rfl<|.nil) (by repeat' first | constructor | (congr 1;first | (simp;done) | (simp;omega) | omega)) rfl rfl rfl rfl rfl rfl) ?_;refine wy (tl:=[(9,_),(11,_),(13,_),(97,_),(100,_)]) (to:=[(64,_),(94,_),(21281,_),(21282,_),(21800,_),(21801,_),(21802,_),(21881,_),(21882,_)]) ?_;refine wt (LR.not rfl)<|ws (pF rfl rfl)<|wm ?_;refine wL (d:=103) rfl (fun hg171=>?_) (fun hg171=>?_)
         ·replace h:=iT hg171 h;refine wf<|wf<|wf<|wf<|ws (pT rfl rfl)<|wN ?_;exact ⟨true,(),h,sP⟩
         ·replace h:=iF hg171 h;refine wt (mV rfl)<|wt (mV rfl) ?_;obtain ⟨y172,hy173,h⟩:=iDet h;refine wt (LR.callObjS [(100,21800),(101,94),(102,21801),(103,21802),(104,21881),(105,21882)] [] [100,101,102,103,104,105] [] [(100,.cells 98 [.d (.sl (List.map TPart.e z165.1)),.mp 102,.mp 103]),(101,.cells 98 [.d (.sl (List.map TPart.e y166.1)),.mp 104,.mp 105]),(102,.mapH z165.2.1 [.u16,.u64] true (encM TDot.k TEvent.e z165.2.2.1)),(103,.mapH z165.2.2.2.1 [.u16,.u64] true (encM TDot.k TEvent.e z165.2.2.2.2)),(104,.mapH y166.2.1 [.u16,.u64] true (encM TDot.k TEvent.e y166.2.2.1)),(105,.mapH y166.2.2.2.1 [.u16,.u64] true (encM TDot.k TEvent.e y166.2.2.2.2))] (yw z165.1 y166.1 z165.2.1 z165.2.2.1 z165.2.2.2.1 z165.2.2.2.2 y166.2.1 y166.2.2.1 y166.2.2.2.1 y166.2.2.2.2 y172 hy173) hK rfl call37 rfl (by first | rfl | (simp;done) | (simp [PV.nilD,PV.ren,rn];omega)) (by repeat' first | constructor | (congr 1;first | (simp;done) | (simp;omega) | omega)) (.nil) (.cons rfl<|.cons rfl<|.cons rfl<|.cons rfl<|.cons rfl<|.cons rfl<|.nil) (by repeat' first | constructor | (congr 1;first | (simp;done) | (simp;omega) | omega)) rfl rfl rfl rfl rfl rfl) ?_;refine wy (tl:=[(9,_),(13,_),(103,_),(106,_)]) (to:=[(64,_),(94,_),(21281,_),(21282,_),(21881,_),(21882,_)]) ?_;refine wt (LR.not rfl)<|ws (pF rfl rfl)<|wN ?_;exact ⟨(!y172),(),h,sP⟩
        ·rintro v168 _ h;refine wC rfl (fun hc174=>?_) (fun hc174=>?_)
         ·replace h:=iT hc174 h;refine wQ<|wR<|wa ?_;refine wN<|wX ?_;cases h;exact ⟨.inr rfl,_,.cons (.tmp rfl rfl)<|.nil,rfl⟩
         ·replace h:=iF hc174 h;refine wK<|wQ<|wR<|wm ?_;refine ws (LR.build (ns:=[_,_]) Xs rfl rfl rfl)<|ws (LR.buildSliceD [.tmp 110] xt rfl rfl (.cons rfl rfl rfl<|.nil) (by decide) (by decide))<|ws (LR.build (ns:=[_,_]) VP rfl rfl rfl)<|ws (LR.buildSliceD [.tmp 112] XH rfl rfl (.cons rfl rfl rfl<|.nil) (by decide) (by decide)) ?_;obtain ⟨y175,hy176,h⟩:=iDet h;refine ws (LR.callObjS [(100,94),(101,21881),(102,21882)] [] [100,101,102] [(100,.cells 98 [.d (.sl (List.map TPart.e y175)),.mp 101,.mp 102])] [(101,.mapH y166.2.1 [.u16,.u64] true (encM TDot.k TEvent.e y166.2.2.1)),(102,.mapH y166.2.2.2.1 [.u16,.u64] true (encM TDot.k TEvent.e y166.2.2.2.2))] (uP ([(⟨65535,[(⟨281474976710655,281474976710655⟩:TRun)]⟩:TPart)]) y166.1 y166.2.1 y166.2.2.1 y166.2.2.2.1 y166.2.2.2.2 y175 hy176) hK rfl call38 rfl (by first | rfl | (simp;done) | (simp [PV.nilD,PV.ren,rn];omega)) (by repeat' first | constructor | (congr 1;first | (simp;done) | (simp;omega) | omega)) (.cons rfl<|.nil) (.cons rfl<|.cons rfl<|.nil) (by repeat' first | constructor | (congr 1;first | (simp;done) | (simp;omega) | omega)) rfl rfl rfl rfl rfl rfl) ?_;refine wN<|wQ<|wz (tl:=[(9,_),(13,_)]) (to:=[(64,_),(94,_),(21281,_),(21282,_),(21881,_),(21882,_)]) ?_;refine wJ (zF h) (fun (v177:Bool) (_:Unit)=>⟨126,[(6,.d (.v (.bool v177)))],[]⟩) (fun h=>?_) ?_
          ·refine wR<|wm ?_;refine wm ?_;obtain ⟨y178,hy179,h⟩:=iDet h;refine ws (LR.callObjS [(100,64),(101,94),(102,21281),(103,21282),(104,21881),(105,21882)] [] [100,101,102,103,104,105] [] [(100,.cells 98 [.d (.sl (List.map TPart.e v112)),.mp 102,.mp 103]),(101,.cells 98 [.d (.sl (List.map TPart.e y175)),.mp 104,.mp 105]),(102,.mapH nl115 [.u16,.u64] true (encM TDot.k TEvent.e v116)),(103,.mapH nl113 [.u16,.u64] true (encM TDot.k TEvent.e v114)),(104,.mapH y166.2.1 [.u16,.u64] true (encM TDot.k TEvent.e y166.2.2.1)),(105,.mapH y166.2.2.2.1 [.u16,.u64] true (encM TDot.k TEvent.e y166.2.2.2.2))] (yw v112 y175 nl115 v116 nl113 v114 y166.2.1 y166.2.2.1 y166.2.2.2.1 y166.2.2.2.2 y178 hy179) hK rfl call37 rfl (by first | rfl | (simp;done) | (simp [PV.nilD,PV.ren,rn];omega)) (by repeat' first | constructor | (congr 1;first | (simp;done) | (simp;omega) | omega)) (.nil) (.cons rfl<|.cons rfl<|.cons rfl<|.cons rfl<|.cons rfl<|.cons rfl<|.nil) (by repeat' first | constructor | (congr 1;first | (simp;done) | (simp;omega) | omega)) rfl rfl rfl rfl rfl rfl) ?_;refine wy (tl:=[(9,_),(117,_)]) (to:=[(64,_),(21281,_),(21282,_)]) ?_;refine wm ?_;obtain ⟨y180,hy181,h⟩:=iDet h;refine ws (LR.callObjS [(100,64),(101,21281),(102,21282)] [] [100,101,102] [] [(100,.cells 98 [.d (.sl (List.map TPart.e v112)),.mp 101,.mp 102]),(101,.mapH nl115 [.u16,.u64] true (encM TDot.k TEvent.e v116)),(102,.mapH nl113 [.u16,.u64] true (encM TDot.k TEvent.e v114))] (zd v112 nl115 v116 nl113 v114 y180 hy181) hK rfl call34 rfl (by first | rfl | (simp;done) | (simp [PV.nilD,PV.ren,rn];omega)) (by repeat' first | constructor | (congr 1;first | (simp;done) | (simp;omega) | omega)) (.nil) (.cons rfl<|.cons rfl<|.cons rfl<|.nil) (by repeat' first | constructor | (congr 1;first | (simp;done) | (simp;omega) | omega)) rfl rfl rfl rfl rfl rfl) ?_;refine ws (LR.build (ns:=[_,_]) uT rfl rfl rfl) ?_;obtain ⟨v182,hy183,h⟩:=iDet h;refine ws (cN (uh y180 (⟨65535,281474976710655⟩:TDot) v182 hy183) rfl call39 rfl rfl rfl rfl)<|ws (LR.eqlBool underlying4 rfl rfl)<|wm ?_;refine wL (d:=123) rfl (fun hg184=>?_) (fun hg184=>?_)
           ·replace h:=iT hg184 h;obtain ⟨v185,hy186,h⟩:=iDet h;refine wt (cN (Zn v185 hy186) rfl call28 rfl rfl rfl rfl)<|ws (pT rfl rfl)<|wa ?_;refine wN ?_;exact ⟨v185,(),h,sP⟩
           ·replace h:=iF hg184 h;refine wf<|ws (pF rfl rfl)<|wa ?_;refine wN ?_;exact ⟨false,(),h,sP⟩
          ·rintro v177 _ h;refine wX ?_;cases h;exact ⟨.inr rfl,_,.cons (.tmp rfl rfl)<|.nil,rfl⟩

end Go.Proofs

namespace Go.Ep
open Go

theorem wI64 {n:Int} (h:-9223372036854775808 ≤ n) (h':n ≤ 9223372036854775807):IntKind.i64.wrap n = n:=by simp [IntKind.wrap,IntKind.bits,IntKind.signed];omega
theorem wU64 {n:Int} (h:0 ≤ n) (h':n ≤ 18446744073709551615):IntKind.u64.wrap n = n:=by simp [IntKind.wrap,IntKind.bits,IntKind.signed];omega
theorem wU16 {n:Int} (h:0 ≤ n) (h':n ≤ 65535):IntKind.u16.wrap n = n:=by simp [IntKind.wrap,IntKind.bits,IntKind.signed];omega
theorem wU8 {n:Int} (h:0 ≤ n) (h':n ≤ 255):IntKind.u8.wrap n = n:=by simp [IntKind.wrap,IntKind.bits,IntKind.signed];omega
theorem zg {i:Nat} (h:i < 9223372036854775807):IntKind.i64.wrap ((i:Int) + 1) = ((i + 1:Nat):Int):=by rw [wI64 (by omega) (by omega)];rfl
namespace M
variable {α β σ ρ τ ε:Type}
theorem yZ (p:Prop) [Decidable p] (x y:M α):cond (decide p) x y = if p then x else y:=by by_cases h:p <;> simp [h]
theorem uF {body:σ → M (Step σ ρ)} (l:List ε) (mk:Nat → τ → σ) (f:τ → ε → τ) (g:τ → M ρ)
  (I:Nat → τ → Prop) (h1:∀ (i:Nat) (x:ε) (t:τ),l[i]? = some x → i < l.length → I i t → body (mk i t) = pure (.next (mk (i + 1) (f t x))) ∧ I (i + 1) (f t x))
  (h2:∀ t,I l.length t → body (mk l.length t) = (g t).bind fun r=>pure (.done r)) (t0:τ) (h0:I 0 t0):loop body (mk 0 t0) = g (l.foldl f t0):=by
 have key:∀ k i t,i + k = l.length → I i t → loop body (mk i t) = g ((l.drop i).foldl f t):=by
  intro k
  induction k with
  | zero=>
   intro i t hi hI;have:i = l.length:=by omega
   subst this;rw [VM,h2 t hI,List.drop_length]
   rfl
  | succ k ih=>
   intro i t hi hI;have hlt:i < l.length:=by omega
   obtain ⟨h3,h4⟩:=h1 i l[i] t (List.getElem?_eq_getElem hlt) hlt hI;rw [zh h3,ih (i + 1) _ (by omega) h4,List.drop_eq_getElem_cons hlt]
   rfl
 simpa using key l.length 0 t0 (by omega) h0
theorem loopF {body:σ → M (Step σ ρ)} (l:List ε) (mk:Nat → σ) (p:Nat → ε → Bool) (r:Nat → ε → ρ) (d:M ρ)
  (h1:∀ (i:Nat) (x:ε),l[i]? = some x → i < l.length → body (mk i) = if p i x then pure (.done (r i x)) else pure (.next (mk (i + 1))))
  (h2:body (mk l.length) = d.bind fun r=>pure (.done r)):loop body (mk 0) = match (l.zipIdx).find? (fun y=>p y.2 y.1) with | some y=>pure (r y.2 y.1) | none=>d:=by
 have key:∀ k i,i + k = l.length → loop body (mk i) = match ((l.drop i).zipIdx i).find? (fun y=>p y.2 y.1) with | some y=>pure (r y.2 y.1) | none=>d:=by
  intro k
  induction k with
  | zero=>
   intro i hi;have:i = l.length:=by omega
   subst this;rw [VM,h2,List.drop_length]
   rfl
  | succ k ih=>
   intro i hi;have hlt:i < l.length:=by omega
   have h3:=h1 i l[i] (List.getElem?_eq_getElem hlt) hlt;rw [List.drop_eq_getElem_cons hlt,List.zipIdx_cons,List.find?_cons]
   by_cases hp:p i l[i] = true
   ·rw [if_pos hp] at h3;rw [zi h3];simp [hp]
   ·rw [if_neg hp] at h3;rw [zh h3,ih (i + 1) (by omega)];simp [hp]
 simpa using key l.length 0 (by omega)
theorem yy {body:σ → M (Step σ ρ)} (l:List ε) (mk:Nat → σ) (p:Nat → ε → Bool) (r1 r2:ρ)
  (h1:∀ (i:Nat) (x:ε),l[i]? = some x → i < l.length → body (mk i) = if p i x then pure (.next (mk (i + 1))) else pure (.done r2))
  (h2:body (mk l.length) = pure (.done r1)):loop body (mk 0) = pure (if l.zipIdx.all (fun y=>p y.2 y.1) then r1 else r2):=by
 have key:∀ k i,i + k = l.length → loop body (mk i) = pure (if ((l.drop i).zipIdx i).all (fun y=>p y.2 y.1) then r1 else r2):=by
  intro k
  induction k with
  | zero=>
   intro i hi;have:i = l.length:=by omega
   subst this;rw [zi h2,List.drop_length]
   rfl
  | succ k ih=>
   intro i hi;have hlt:i < l.length:=by omega
   have h3:=h1 i l[i] (List.getElem?_eq_getElem hlt) hlt;rw [List.drop_eq_getElem_cons hlt,List.zipIdx_cons,List.all_cons]
   by_cases hp:p i l[i] = true
   ·rw [if_pos hp] at h3;rw [zh h3,ih (i + 1) (by omega),hp,Bool.true_and]
   ·rw [if_neg hp] at h3;rw [zi h3];simp [hp]
 have:=key l.length 0 (by omega);rw [List.drop_zero] at this;exact this

def came {ε:Type} (m:List ε) (L:List Nat):List ε:=L.filterMap fun i=>m[i]?
theorem ypa {m:List ε} {L:List Nat} {i:Nat} {y:ε} (h:m[i]? = some y):came m (L ++ [i]) = came m L ++ [y]:=by simp [came,h]
theorem Qo {n:Nat} {L:List Nat} (hn:L.Nodup) (hb:∀ i ∈ L,i < n) (ha:∀ i,i < n → i ∈ L):L.Perm (List.range n):=by
 refine (List.perm_ext_iff_of_nodup hn List.nodup_range).2 fun i=>?_
 rw [List.mem_range];exact ⟨hb i,ha i⟩
theorem yqa {m:List ε} {L:List Nat} (hn:L.Nodup) (hb:∀ i ∈ L,i < m.length) (ha:∀ i,i < m.length → i ∈ L):(came m L).Perm m:=by
 have h1:=(Qo hn hb ha).filterMap fun i=>m[i]?
 have h2:(List.range m.length).filterMap (fun i=>m[i]?) = m:=by
  apply List.ext_getElem?;intro i;clear h1 hn hb ha;have:(List.range m.length).filterMap (fun i=>m[i]?) = m:=by
   induction m with
   | nil=>rfl
   | cons x r ih=>
    rw [List.length_cons,List.range_succ_eq_map,List.filterMap_cons];simp only [List.getElem?_cons_zero,List.filterMap_map]
    congr 1
  rw [this]
 rw [h2] at h1;exact h1
theorem yra {n:Nat} {L:List Nat} (hn:L.Nodup) (hb:∀ i ∈ L,i < n):L.length ≤ n:=by
 have:=List.Nodup.length_le_of_subset hn (l₂:=List.range n) (fun i hi=>List.mem_range.2 (hb i hi));simpa using this

theorem full {n:Nat} {L:List Nat} (hn:L.Nodup) (hb:∀ i ∈ L,i < n) (hl:n ≤ L.length):∀ i,i < n → i ∈ L:=by
 intro i hi;refine Classical.byContradiction fun hni=>?_
 have:=yra (n:=n) (L:=i :: L) (List.nodup_cons.2 ⟨hni,hn⟩) (fun j hj=>by
  rcases List.mem_cons.1 hj with rfl | hj
  ·exact hi
  ·exact hb j hj)
 simp at this;omega
theorem loopM {body:σ → M (Step σ ρ)} (m:List ε) (mk:List Nat → τ → σ) (f:τ → ε → M τ) (g:τ → M ρ) (I:List ε → τ → Prop) (Q:ρ → Prop)
  (hb:∀ L t,(∀ i ∈ L,i < m.length) → body (mk L t) = need (∀ i ∈ L,i < m.length) ((nxt m.length L).bind fun o=>match o with
   | none=>(g t).bind fun r=>pure (.done r)
   | some i=>(idx m (Int.ofNat i)).bind fun y=>(f t y).bind fun t'=>pure (.next (mk (L ++ [i]) t'))))
  (hs:∀ l t y,I l t → l.length < m.length → y ∈ m → ∃ t',f t y = pure t' ∧ I (l ++ [y]) t') (he:∀ l t,l.Perm m → I l t → (g t).wp Q) (t0:τ) (h0:I [] t0):(loop body (mk [] t0)).wp Q:=by
 have key:∀ k L t,L.length + k = m.length → L.Nodup → (∀ i ∈ L,i < m.length) → I (came m L) t → jB body Q (mk L t):=by
  intro k
  induction k with
  | zero=>
   intro L t hk hn hlt hI;refine XF ?_;rw [hb L t hlt];have hall:∀ i,i < m.length → i ∈ L:=fun i hi=>full hn hlt (by omega) i hi
   refine ⟨hlt,⟨⟨none,hall⟩,fun o ho=>?_⟩⟩
   cases o with
   | none=>
    have:=he _ t (yqa hn hlt hall) hI;exact this
   | some i=>exact absurd (hall i ho.1) ho.2
  | succ k ih=>
   intro L t hk hn hlt hI;refine XF ?_;rw [hb L t hlt];have hex:∃ i,i < m.length ∧ i ∉ L:=by
    refine Classical.byContradiction fun hno=>?_
    have hall:∀ i,i < m.length → i ∈ L:=fun i hi=>Classical.byContradiction fun h=>hno ⟨i,hi,h⟩
    have:=(Qo hn hlt hall).length_eq;simp at this;omega
   obtain ⟨i0,hi0⟩:=hex;refine ⟨hlt,⟨⟨some i0,hi0⟩,fun o ho=>?_⟩⟩
   cases o with
   | none=>exact absurd (ho i0 hi0.1) hi0.2
   | some i=>
    have hi:=List.getElem?_eq_getElem ho.1;obtain ⟨t',h1,h2⟩:=hs (came m L) t m[i] hI (by have:=List.length_filterMap_le (fun i=>m[i]?) L;unfold came;omega) (List.getElem_mem ho.1);show ((idx m (Int.ofNat i)).bind _).wp _;rw [show (Int.ofNat i) = (i:Int) from rfl,zG hi,zA,h1,zA];refine ih (L ++ [i]) t' (by simp;omega) ?_ ?_ (by rw [ypa hi];exact h2)
    ·rw [List.nodup_append];refine ⟨hn,by simp,fun a ha b hb'=>?_⟩;rw [List.mem_singleton.1 hb'];intro e;exact ho.2 (e ▸ ha)
    ·intro j hj;rcases List.mem_append.1 hj with hj | hj
     ·exact hlt j hj
     ·rw [List.mem_singleton.1 hj];exact ho.1
 exact key m.length [] t0 (by simp) List.nodup_nil (by simp) h0

end M

namespace AL
variable {κ ν:Type} [DecidableEq κ]
theorem get_set (m:List (κ × ν)) (k q:κ) (v:ν):get (set m k v) q = if k = q then some v else get m q:=by
 induction m with
 | nil=>simp [set,get]
 | cons x r ih=>
  obtain ⟨a,u⟩:=x
  by_cases h:a = k
  ·subst h;simp only [set,if_true,get];split <;> rfl
  ·simp only [set,h,if_false,get,ih]
   by_cases h2:a = q
   ·subst h2;simp [Ne.symm h]
   ·simp [h2]
theorem getZ_set (m:List (κ × ν)) (k q:κ) (v z:ν):getZ (set m k v) q z = if k = q then v else getZ m q z:=by
 unfold getZ;rw [get_set];split <;> rfl
theorem keys_set (m:List (κ × ν)) (k:κ) (v:ν):(set m k v).map (·.1) = if k ∈ m.map (·.1) then m.map (·.1) else m.map (·.1) ++ [k]:=by
 induction m with
 | nil=>simp [set]
 | cons x r ih=>
  obtain ⟨a,u⟩:=x
  by_cases h:a = k
  ·subst h;simp [set]
  ·simp only [set,h,if_false,List.map_cons,ih,List.mem_cons,Ne.symm h,false_or]
   split <;> simp
theorem nodup_set {m:List (κ × ν)} (h:(m.map (·.1)).Nodup) (k:κ) (v:ν):((set m k v).map (·.1)).Nodup:=by
 rw [keys_set]
 split
 ·exact h
 ·rename_i hk
  rw [List.nodup_append];refine ⟨h,by simp,fun a ha b hb=>?_⟩;rw [List.mem_singleton.1 hb];intro e;exact hk (e ▸ ha)
theorem get_mem {m:List (κ × ν)} {k:κ} {v:ν} (h:get m k = some v):(k,v) ∈ m:=by
 induction m with
 | nil=>simp [get] at h
 | cons x r ih=>
  obtain ⟨a,u⟩:=x
  by_cases e:a = k
  ·subst e;simp [get] at h;subst h;simp
  ·simp only [get,e,if_false] at h;exact List.mem_cons_of_mem _ (ih h)
theorem mem_get {m:List (κ × ν)} (hn:(m.map (·.1)).Nodup) {k:κ} {v:ν} (h:(k,v) ∈ m):get m k = some v:=by
 induction m with
 | nil=>simp at h
 | cons x r ih=>
  obtain ⟨a,u⟩:=x;simp only [List.map_cons,List.nodup_cons] at hn;rcases List.mem_cons.1 h with e | h
  ·cases e;simp [get]
  ·have:a ≠ k:=fun e=>hn.1 (e ▸ List.mem_map.2 ⟨(k,v),h,rfl⟩)
   simp only [get,this,if_false];exact ih hn.2 h
theorem len_set (m:List (κ × ν)) (k:κ) (v:ν):(set m k v).length ≤ m.length + 1:=by
 induction m with
 | nil=>simp [set]
 | cons x r ih=>
  obtain ⟨a,u⟩:=x;unfold set
  split
  ·simp
  ·simpa using ih
end AL
end Go.Ep

namespace Go.Ep.M.V
open Go

def zt (d:TDot):Bool:=decide (1 ≤ d.dev) && (decide (1 ≤ d.n) && decide (d.n ≤ 281474976710655))
theorem xI {d:TDot}:zt d = true ↔ 1 ≤ d.dev ∧ 1 ≤ d.n ∧ d.n ≤ 281474976710655:=by simp [zt]
theorem Yw (d:TDot):xK d = pure (zt d):=by
 unfold xK;rw [zT,zT,zA];refine congrArg pure ?_;rw [Bool.eq_iff_iff,xI];simp only [Bool.and_eq_true,decide_eq_true_eq];omega
theorem wO (d:TDot):vF d = pure (zt d):=by
 unfold vF;rw [zT,zT,zA];refine congrArg pure ?_;rw [Bool.eq_iff_iff,xI];simp only [Bool.and_eq_true,decide_eq_true_eq];omega
theorem Vp (a b:List TDot) (h:a.length ≤ 1000000000000):XQ a b = pure (decide (a = b)):=by
 unfold XQ
 by_cases hl:(a.length:Int) = b.length
 ·simp only [hl,decide_true,Bool.not_true,cond_false];have:=yy (body:=ZF a b) a (fun i=>(i:Int)) (fun i x=>decide (b[i]? = some x)) (.brk ()) (.ret false) (fun i x hx hi=>by
   have hb:i < b.length:=by omega
   unfold ZF;rw [zG hx,zG (List.getElem?_eq_getElem hb),zg (by omega)];simp only [zA,List.getElem?_eq_getElem hb,Option.some.injEq];have:decide ((i:Int) < (a.length:Int)) = true:=by simpa using hi
   rw [this,cond_true]
   by_cases he:b[i] = x
   ·subst he;simp
   ·rw [if_neg (by simpa using he)];have:(decide (x.dev = b[i].dev) && decide (x.n = b[i].n)) = false:=by
     rw [Bool.eq_false_iff];intro hc;simp at hc;apply he
     cases x;cases hh:b[i];simp_all
    rw [this];rfl) (by
   unfold ZF;simp)
  rw [show (0:Int) = ((0:Nat):Int) from rfl,this]
  by_cases he:a = b
  ·subst he;rw [if_pos]
   ·simp [zA,vZ]
   ·rw [List.all_eq_true];intro ⟨x,i⟩ hx;rw [List.mk_mem_zipIdx_iff_getElem?] at hx;simpa using hx
  ·rw [if_neg]
   ·simp [he,zA,VL]
   ·intro hall;rw [List.all_eq_true] at hall;apply he;apply List.ext_getElem (by omega);intro i h1 h2;have:=hall (a[i],i) (by rw [List.mk_mem_zipIdx_iff_getElem?];exact List.getElem?_eq_getElem h1);simp [h2] at this;exact this.symm
 ·have hne:a ≠ b:=fun e=>hl (by rw [e])
  simp [hl,hne]

def ofV : List TDot → Int → Int
 | [],_=>0
 | d :: r,dev=>if d.dev = dev ∧ zt d = true then max d.n (ofV r dev) else ofV r dev
theorem ysa (v:List TDot) (dev:Int):0 ≤ ofV v dev ∧ ofV v dev ≤ 281474976710655:=by
 induction v with
 | nil=>simp [ofV]
 | cons d r ih=>
  simp only [ofV]
  split
  ·rename_i h;have:=xI.1 h.2;omega
  ·exact ih
theorem ofV_pos {v:List TDot} {dev:Int}:0 < ofV v dev ↔ ∃ d ∈ v,d.dev = dev ∧ zt d = true:=by
 induction v with
 | nil=>simp [ofV]
 | cons d r ih=>
  simp only [ofV,List.mem_cons,exists_eq_or_imp]
  split
  ·rename_i h
   have:=xI.1 h.2
   constructor
   ·intro _;exact .inl h
   ·intro _;omega
  ·rename_i h
   rw [ih]
   constructor
   ·exact .inr
   ·rintro (hh | hh)
    ·exact absurd hh h
    ·exact hh
def insI : List Int → Int → List Int
 | [],k=>[k]
 | a :: r,k=>if k < a then k :: a :: r else if k = a then a :: r else a :: insI r k
theorem Wu {l:List Int} {k q:Int}:q ∈ insI l k ↔ q = k ∨ q ∈ l:=by
 induction l with
 | nil=>simp [insI]
 | cons a r ih=>
  unfold insI
  split
  ·simp
  ·split
   ·rename_i h;subst h;simp
   ·simp only [List.mem_cons,ih];constructor
    ·rintro (h | h | h) <;> simp [h]
    ·rintro (h | h | h) <;> simp [h]
theorem vq {l:List Int} (h:l.Pairwise (· < ·)) (k:Int):(insI l k).Pairwise (· < ·):=by
 induction l with
 | nil=>simp [insI]
 | cons a r ih=>
  obtain ⟨h1,h2⟩:=List.pairwise_cons.1 h;unfold insI
  split
  ·rename_i hk
   refine List.pairwise_cons.2 ⟨fun x hx=>?_,h⟩;rcases List.mem_cons.1 hx with rfl | hx
   ·exact hk
   ·have:=h1 x hx;omega
  ·split
   ·exact h
   ·refine List.pairwise_cons.2 ⟨fun x hx=>?_,ih h2⟩;rcases Wu.1 hx with rfl | hx
    ·omega
    ·exact h1 x hx
theorem Xf (l : List Int) (k : Int) : (insI l k).length ≤ l.length + 1 := by
  induction l with
  | nil => simp [insI]
  | cons a r ih => unfold insI; split <;> try split
                   all_goals simp_all
def ZM (l:List Int) (d:TDot):List Int:=if zt d then insI l d.dev else l
def yta (v:List TDot):List Int:=v.foldl ZM []
theorem ZN (v:List TDot):∀ l:List Int,l.Pairwise (· < ·) → (v.foldl ZM l).Pairwise (· < ·) ∧ (∀ k,k ∈ v.foldl ZM l ↔ k ∈ l ∨ ∃ d ∈ v,d.dev = k ∧ zt d = true) ∧ (v.foldl ZM l).length ≤ l.length + v.length:=by
 induction v with
 | nil=>intro l h;simp [h]
 | cons d r ih=>
  intro l h;simp only [List.foldl_cons];unfold ZM
  split
  ·rename_i hg
   obtain ⟨h1,h2,h3⟩:=ih _ (vq h d.dev);refine ⟨h1,fun k=>?_,?_⟩
   ·have:=h2 k;unfold ZM at this;rw [this,Wu]
    constructor
    ·rintro ((rfl | h) | ⟨e,he,h⟩)
     ·exact .inr ⟨d,by simp,rfl,hg⟩
     ·exact .inl h
     ·exact .inr ⟨e,by simp [he],h⟩
    ·rintro (h | ⟨e,he,h⟩)
     ·exact .inl (.inr h)
     ·rcases List.mem_cons.1 he with rfl | he
      ·exact .inl (.inl h.1.symm)
      ·exact .inr ⟨e,he,h⟩
   ·have:=Xf l d.dev;simp only [List.length_cons];unfold ZM at h3;omega
  ·rename_i hg
   obtain ⟨h1,h2,h3⟩:=ih _ h;refine ⟨h1,fun k=>?_,?_⟩
   ·have:=h2 k;unfold ZM at this;rw [this]
    constructor
    ·rintro (h | ⟨e,he,h⟩)
     ·exact .inl h
     ·exact .inr ⟨e,by simp [he],h⟩
    ·rintro (h | ⟨e,he,h⟩)
     ·exact .inl h
     ·rcases List.mem_cons.1 he with rfl | he
      ·exact absurd h.2 hg
      ·exact .inr ⟨e,he,h⟩
   ·simp only [List.length_cons];unfold ZM at h3;omega
theorem xZ (v:List TDot):(yta v).Pairwise (· < ·):=(ZN v [] List.Pairwise.nil).1
theorem vO {v:List TDot} {k:Int}:k ∈ yta v ↔ 0 < ofV v k:=by rw [ofV_pos];simpa [yta] using (ZN v [] List.Pairwise.nil).2.1 k
theorem Qp (v:List TDot):(yta v).length ≤ v.length:=by simpa [yta] using (ZN v [] List.Pairwise.nil).2.2
def vP (m:List (Int × Int)) (d:TDot):List (Int × Int):=if zt d then AL.set m d.dev (max (AL.getZ m d.dev 0) d.n) else m
def vr (v:List TDot):List (Int × Int):=v.foldl vP []
theorem Wv (v:List TDot):∀ m:List (Int × Int),(m.map (·.1)).Nodup → ((v.foldl vP m).map (·.1)).Nodup ∧ ((∀ k,0 ≤ AL.getZ m k 0) → ∀ k,AL.getZ (v.foldl vP m) k 0 = max (AL.getZ m k 0) (ofV v k)) ∧ (v.foldl vP m).length ≤ m.length + v.length ∧ (∀ k,k ∈ (v.foldl vP m).map (·.1) → k ∈ m.map (·.1) ∨ 0 < ofV v k):=by
 induction v with
 | nil=>
  intro m h;refine ⟨h,fun h0 k=>?_,by simp,fun k hk=>.inl hk⟩;have:=h0 k;simp only [List.foldl_nil,ofV];omega
 | cons d r ih=>
  intro m h;simp only [List.foldl_cons]
  by_cases hg:zt d = true
  ·have hd:=xI.1 hg;have e:vP m d = AL.set m d.dev (max (AL.getZ m d.dev 0) d.n):=by simp [vP,hg]
   rw [e];obtain ⟨h1,h2,h3,h4⟩:=ih _ (AL.nodup_set h d.dev (max (AL.getZ m d.dev 0) d.n));refine ⟨h1,fun h0 k=>?_,?_,fun k hk=>?_⟩
   ·rw [h2 (fun q=>by rw [AL.getZ_set];have:=h0 q;have:=h0 d.dev;split <;> omega),AL.getZ_set];simp only [ofV]
    by_cases hk:d.dev = k
    ·subst hk;simp only [if_true,hg,and_self];omega
    ·simp [hk]
   ·have:=AL.len_set m d.dev (max (AL.getZ m d.dev 0) d.n);simp only [List.length_cons];omega
   ·simp only [ofV];rcases h4 k hk with h5 | h5
    ·rw [AL.keys_set] at h5
     split at h5
     ·exact .inl h5
     ·rcases List.mem_append.1 h5 with h5 | h5
      ·exact .inl h5
      ·right
       rw [List.mem_singleton.1 h5,if_pos ⟨rfl,hg⟩];omega
    ·right;split <;> omega
  ·have e:vP m d = m:=by simp [vP,hg]
   rw [e];obtain ⟨h1,h2,h3,h4⟩:=ih m h;have e2:∀ k,ofV (d :: r) k = ofV r k:=fun k=>by simp only [ofV];rw [if_neg (fun hh=>hg hh.2)]
   exact ⟨h1,fun h0 k=>by rw [h2 h0,e2],by simp only [List.length_cons];omega,fun k hk=>by rw [e2];exact h4 k hk⟩
theorem YV (v:List TDot):((vr v).map (·.1)).Nodup:=(Wv v [] (by simp)).1
theorem YW (v:List TDot) (k:Int):AL.getZ (vr v) k 0 = ofV v k:=by
 have:=(Wv v [] (by simp)).2.1 (fun _=>Int.le_refl _) k;have h2:=ysa v k;rw [vr,this];show max 0 (ofV v k) = _;omega
theorem Qq (v:List TDot):(vr v).length ≤ v.length:=by simpa [vr] using (Wv v [] (by simp)).2.2.1
theorem jc {v:List TDot} {k n:Int} (h:(k,n) ∈ vr v):n = ofV v k ∧ 0 < n:=by
 have h1:=AL.mem_get (YV v) h;have h2:AL.getZ (vr v) k 0 = n:=by simp [AL.getZ,h1]
 rw [YW] at h2;have h3:=(Wv v [] (by simp)).2.2.2 k (List.mem_map.2 ⟨_,h,rfl⟩);simp at h3;omega
theorem yua {v:List TDot} {k:Int} (h:0 < ofV v k):(k,ofV v k) ∈ vr v:=by
 have h1:AL.getZ (vr v) k 0 = ofV v k:=YW v k;unfold AL.getZ at h1
 cases hg:AL.get (vr v) k with
 | none=>rw [hg] at h1;simp at h1;omega
 | some n=>rw [hg] at h1;simp at h1;subst h1;exact AL.get_mem hg

def cmpD (a b:TDot):Int:=if a = b then 0 else if zL a b then -1 else 1
theorem uk (a b:TDot):uv a b = pure (cmpD a b):=by
 unfold uv cmpD;have h1:(decide (a.dev = b.dev) && decide (a.n = b.n)) = decide (a = b):=by
  rw [Bool.eq_iff_iff];cases a;cases b;simp
 have h2:(cond (decide (a.dev < b.dev)) (pure true) (cond (decide (a.dev = b.dev)) (pure (decide (a.n < b.n))) (pure false)):M Bool) = pure (zL a b):=by
  rw [zT,JP];rfl
 rw [h1,h2,yZ,zA]
 split
 ·rfl
 ·cases zL a b <;> rfl
theorem ZO {a b:TDot}:cmpD a b < 0 ↔ zL a b = true:=by
 unfold cmpD
 split
 ·rename_i h;subst h;simp [zL]
 ·split <;> simp_all
theorem cmpD_pos {a b:TDot}:0 < cmpD a b ↔ zL b a = true:=by
 unfold cmpD
 by_cases h:a = b
 ·subst h;simp [zL]
 ·rw [if_neg h]
  cases a;cases b
  simp only [TDot.mk.injEq] at h;simp only [zL,Bool.or_eq_true,Bool.and_eq_true,decide_eq_true_eq]
  split <;> omega
theorem WF (l:List TDot) (d:TDot) (h:l.length ≤ 1000000000000):uU l d = pure ((l.filter fun x=>zL x d) ++ [d] ++ (l.filter fun x=>zL d x)):=by
 unfold uU;have c0:∀ o:List TDot,o.length ≤ 1000000000000 → True:=fun _ _=>trivial
 have h1:=uF (body:=YE l d) l (fun i (o:List TDot)=>((i:Int),o)) (fun o x=>if zL x d then o ++ [x] else o) (fun o=>pure o) (fun i o=>o.length ≤ i) (fun i x o hx hi ho=>by
  have h1:decide ((i:Int) < (l.length:Int)) = true:=by simpa using hi
  unfold YE;simp only [h1,cond_true,zG hx,zA,uk,zB,zg (show i < 9223372036854775807 by omega),yZ,ZO]
  split
  ·rw [zE (by simp;omega)];exact ⟨rfl,by simp;omega⟩
  ·exact ⟨rfl,by omega⟩) (fun o _=>by unfold YE;simp [zA]) [] (by simp)
 have h2:∀ o0:List TDot,o0.length ≤ 1000000000001 → loop (ub l d) (0,o0) = pure (l.foldl (fun o x=>if zL d x then o ++ [x] else o) o0):=fun o0 ho0=>by
  have:=uF (body:=ub l d) l (fun i (o:List TDot)=>((i:Int),o)) (fun o x=>if zL d x then o ++ [x] else o) (fun o=>pure o) (fun i o=>o.length ≤ o0.length + i) (fun i x o hx hi ho=>by
   have h1:decide ((i:Int) < (l.length:Int)) = true:=by simpa using hi
   unfold ub;simp only [h1,cond_true,zG hx,zA,uk,zB,zg (show i < 9223372036854775807 by omega),yZ,cmpD_pos]
   split
   ·rw [zE (by simp;omega)];exact ⟨rfl,by simp;omega⟩
   ·exact ⟨rfl,by omega⟩) (fun o _=>by unfold ub;simp [zA]) o0 (by simp)
  exact this
 have hf:∀ (p:TDot → Bool) (l o:List TDot),l.foldl (fun o x=>if p x then o ++ [x] else o) o = o ++ l.filter p:=by
  intro p l
  induction l with
  | nil=>simp
  | cons x r ih=>
   intro o;rw [List.foldl_cons,ih,List.filter_cons]
   split <;> simp
 rw [show ((0:Int),([]:List TDot)) = (((0:Nat):Int),[]) from rfl,h1,hf,zA,zE,h2,hf,zA]
 ·rfl
 ·have:=List.length_filter_le (fun x=>zL x d) l;simp;omega
 ·have:=List.length_filter_le (fun x=>zL x d) l;simp;omega
def ones (l:List Int):List TDot:=l.map fun k=>⟨k,1⟩
theorem Qr {l:List Int} (h:l.Pairwise (· < ·)) (k:Int):((ones l).filter fun x=>zL x ⟨k,1⟩) ++ [⟨k,1⟩] ++ ((ones l).filter fun x=>zL ⟨k,1⟩ x) = ones (insI l k):=by
 induction l with
 | nil=>rfl
 | cons a r ih=>
  obtain ⟨h1,h2⟩:=List.pairwise_cons.1 h;have i2:=ih h2;unfold insI
  by_cases c1:k < a
  ·rw [if_pos c1];have e1:(ones (a :: r)).filter (fun x=>zL x ⟨k,1⟩) = []:=by
    rw [List.filter_eq_nil_iff];intro x hx;simp only [ones,List.map_cons,List.mem_cons,List.mem_map] at hx;rcases hx with rfl | ⟨b,hb,rfl⟩
    ·simp [zL];omega
    ·have:=h1 b hb;simp [zL];omega
   have e2:(ones (a :: r)).filter (fun x=>zL ⟨k,1⟩ x) = ones (a :: r):=by
    rw [List.filter_eq_self];intro x hx;simp only [ones,List.map_cons,List.mem_cons,List.mem_map] at hx;rcases hx with rfl | ⟨b,hb,rfl⟩
    ·simp [zL];omega
    ·have:=h1 b hb;simp [zL];omega
   rw [e1,e2];rfl
  ·rw [if_neg c1]
   by_cases c2:k = a
   ·subst c2;rw [if_pos rfl];have e1:(ones (k :: r)).filter (fun x=>zL x ⟨k,1⟩) = []:=by
     rw [List.filter_eq_nil_iff];intro x hx;simp only [ones,List.map_cons,List.mem_cons,List.mem_map] at hx;rcases hx with rfl | ⟨b,hb,rfl⟩
     ·simp [zL]
     ·have:=h1 b hb;simp [zL];omega
    have e2:(ones (k :: r)).filter (fun x=>zL ⟨k,1⟩ x) = ones r:=by
     show List.filter _ (⟨k,1⟩ :: ones r) = _;rw [List.filter_cons,if_neg (by simp [zL]),List.filter_eq_self];intro x hx;simp only [ones,List.mem_map] at hx;obtain ⟨b,hb,rfl⟩:=hx;have:=h1 b hb;simp [zL];omega
    rw [e1,e2];rfl
   ·rw [if_neg c2];show (List.filter _ (⟨a,1⟩ :: ones r)) ++ _ ++ (List.filter _ (⟨a,1⟩ :: ones r)) = ⟨a,1⟩ :: ones (insI r k);rw [List.filter_cons,if_pos (by simp [zL];omega),List.filter_cons,if_neg (by simp [zL];omega),← i2]
    rfl
theorem equal_eq (a b:List TDot) (h:a.length ≤ 1000000000000):yP a b = pure (decide (a = b)):=by
 have e:yP a b = XQ a b:=rfl;rw [e,Vp a b h]
theorem qy (a b:List TDot) (h:a.length ≤ 1000000000000):Wq a b = pure (decide (a = b)):=by
 unfold Wq;rw [equal_eq a b h,zB,zA]
end Go.Ep.M.V


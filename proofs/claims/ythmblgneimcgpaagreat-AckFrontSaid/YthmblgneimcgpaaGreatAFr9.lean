/- Texts that the walks and laws lean on, side by side. -/
import Derived.Test.YthmblgneimcgpaaGreatAFr2
import Derived.Test.YthmblgneimcgpaaGreatAFr3
import Derived.Test.YthmblgneimcgpaaGreatAFr4
import Derived.Test.YthmblgneimcgpaaGreatAFr5
import Derived.Test.YthmblgneimcgpaaGreatAFr6
import Derived.Test.YthmblgneimcgpaaGreatAFr8
set_option linter.unusedVariables false
set_option linter.unusedSimpArgs false
namespace Go.Proofs
open Go.Ep
set_option maxHeartbeats 1000000
set_option maxRecDepth 100000
set_option linter.unusedVariables false
set_option linter.unusedSimpArgs false


theorem ctx_Within_ok (a1:List TPart) (b2:List TPart) (r0:Bool) (h:(ctx_Within a1 b2).wp (· = r0)):PFun Tryz.prog 38 [.d (.sl (List.map TPart.e a1)),.d (.sl (List.map TPart.e b2))] (.d (.v (.bool r0))):=by
 refine fI (sl:=[(0,_),(1,_)]) Tryz.func38 rfl Tryz.ntmps38 rfl rfl ?_;intro ctx hK;refine wQ<|wR<|wa ?_;refine wN<|wQ<|wR<|wm ?_;refine wm ?_;replace h:=iDet h;obtain ⟨v3,hy4,h⟩:=h;refine wS (LR.rowN (ctx_Minus_ok a1 b2 v3 hy4) rfl Tryz.call58 rfl rfl rfl rfl) rfl<|wS (LR.lenRow Tryz.underlying24 rfl) rfl<|wS (eQ rfl rfl) rfl<|wa ?_;refine wN<|wX ?_;replace h:_ = r0:=h;subst h;exact ⟨.inr rfl,_,.cons (.tmp rfl rfl)<|.nil,rfl⟩

theorem ack_Matrix_Copy_o_ok (nl1:Bool) (m2:List ((Int × Int) × List TRun)) {Q:Bool × (List ((Int × Int) × List TRun)) → Prop} (h:(ack_Matrix_Copy_o nl1 m2).wp Q):PObj Tryz.prog 12 [.ref 100 0] [(100,.cells 61 [.mp 101]),(101,.mapH nl1 [.u16,.u16] false (encM kP (eL TRun.e) m2))] [100,101] (.ref 8 0) (fun gh:{y:Bool × (List ((Int × Int) × List TRun)) // Q y}=>[(100,.cells 61 [.mp 101]),(101,.mapH nl1 [.u16,.u16] false (encM kP (eL TRun.e) m2)),(8,.cells 61 [.mp 20161]),(20161,.mapH gh.1.1 [.u16,.u16] false (encM kP (eL TRun.e) gh.1.2))]):=by
 refine PObj.intro (sl:=[(0,_)]) Tryz.func12 rfl Tryz.ntmps12 rfl rfl rfl ?_;intro ctx hK pv;refine wQ<|wR<|wa ?_;refine wN<|wQ<|wQ<|wR<|wm ?_;refine wS (LR.eqlPtr Tryz.underlying28 rfl) rfl<|wN<|PWc.condF rfl<|wK<|wQ<|wR ?_;replace h:=iDet h;obtain ⟨y3,hy4,h⟩:=h;refine wS (LR.callObj [(2,8),(30040,20161)] [] [2,30040] (ack_New_o_ok y3 hy4) hK rfl Tryz.call10 rfl (by first | rfl | (simp;done) | (simp [PV.nilD,PV.ren,rn] <;> omega)) (.nil) rfl rfl rfl rfl) rfl ?_;refine wa ?_;refine wN<|wQ<|wQ<|wz (tl:=[(0,_),(3,_)]) (to:=[(8,_),(100,_),(101,_),(1100,_),(1101,_),(20161,_)]) ?_;refine wR<|wm ?_;refine wS (LR.nilCheckRef rfl) rfl<|wS (fR Tryz.underlying61 rfl Tryz.sizeOf59 (by decide) rfl rfl) rfl<|wS (lD Tryz.isAgg59 rfl rfl rfl) rfl ?_;refine PWl.openH (id:=101) rfl (fun bs5 ck5=>?_);refine wS (LR.rangeN Tryz.underlying59 rfl rfl rfl) rfl<|wN ?_;refine wJ (iBind h) (fun (⟨nl6,v7⟩:Bool × (List ((Int × Int) × List TRun))) (_:Unit)=>⟨28,[(3,.ref 8 0)],[(8,.cells 61 [.mp 20161]),(100,.cells 61 [.mp 101]),(101,.mapN nl1 [.u16,.u16] false (encM kP (eL TRun.e) m2) bs5 ck5),(1100,.pin 100 (pv 100)),(1101,.pin 101 (pv 101)),(20161,.mapH nl6 [.u16,.u16] false (encM kP (eL TRun.e) v7))]⟩) (fun h=>?_) ?_
 ·refine wB<|wM (fun (⟨seen37,nl38,v39⟩:List Nat × Bool × (List ((Int × Int) × List TRun))) (_:Unit)=>⟨28,[(3,.ref 8 0),(13,.ref 13 0)],[(8,.cells 61 [.mp 20161]),(13,.iterO 101 bs5 ck5 seen37),(100,.cells 61 [.mp 101]),(101,.mapN nl1 [.u16,.u16] false (encM kP (eL TRun.e) m2) bs5 ck5),(1100,.pin 100 (pv 100)),(1101,.pin 101 (pv 101)),(20161,.mapH nl38 [.u16,.u16] false (encM kP (eL TRun.e) v39))]⟩) () h (sP) ?_;rintro N ⟨seen37,nl38,v39⟩ _ h;refine wQ<|wR ?_;replace h:=iNeed h;obtain ⟨hy52,h⟩:=h;replace h:=iNxt h;refine PWl.nextN rfl rfl rfl (nxtD hy52) rfl (fun hy41=>?_) (fun j40 hy42 hy43=>?_)
  ·replace h:=h.1 (nxtA hy41);refine wS (LR.extract rfl rfl) rfl<|wN<|wQ<|PWc.condF rfl<|wZ ?_;exact ⟨(nl38,v39),(),h,sP⟩
  ·replace h:=h.2 j40 (nxtB hy42) hy43;refine wS (LR.extract rfl rfl) rfl<|wN<|wQ<|PWc.condT rfl<|wK<|wB<|wQ<|wR ?_;replace h:=iIdx h;obtain ⟨kv44,hy45,h⟩:=h;refine wS (LR.entryN rfl rfl rfl (entGet hy45) rfl rfl) rfl<|wS (LR.extract rfl rfl) rfl<|wS (LR.extract rfl rfl) rfl<|wS (LR.allocZ (cs:=[_,_]) Tryz.zeroValue68 rfl rfl rfl rfl) rfl<|wS (sB (ns:=[_,_]) Tryz.sizeOf68 rfl rfl rfl rfl rfl rfl rfl) rfl<|wa ?_;refine wN<|wz (tl:=[(3,_),(4,_),(5,_),(13,_)]) (to:=[(4,_),(8,_),(13,_),(100,_),(101,_),(1100,_),(1101,_),(20161,_)]) ?_;refine PWc.regionE [⟨[19],[],[],[],[],[8],[],[]⟩,⟨[20],[],[],[],[],[4],[],[]⟩,⟨[21],[],[4],[],[],[],[],[]⟩,⟨[22],[],[],[],[],[4],[],[]⟩,⟨[23],[],[4],[],[],[],[],[]⟩,{ws:=[24]},{ws:=[25]},⟨[26],[20161],[8,20161],[],[(20161,[])],[],[],[8,20161]⟩] (by kernel_rfl) (by kernel_rfl) rfl ?_;refine PQe.stepP (fun _ he ho=>mV (he rfl rfl)) (.inl rfl) rfl ?_;refine PQe.stepP (fun _ he ho=>LR.idxArrK (j:=0) Tryz.underlying68 rfl Tryz.sizeOf31 (he rfl rfl) (he rfl rfl) rfl rfl) (.inl rfl) rfl ?_;refine PQe.stepP (fun _ he ho=>lD Tryz.isAgg31 (he rfl rfl) (ho rfl rfl) rfl) (.inl rfl) rfl ?_;refine PQe.stepP (fun _ he ho=>LR.idxArrK (j:=1) Tryz.underlying68 rfl Tryz.sizeOf31 (he rfl rfl) (he rfl rfl) rfl rfl) (.inl rfl) rfl ?_;refine PQe.stepP (fun _ he ho=>lD Tryz.isAgg31 (he rfl rfl) (ho rfl rfl) rfl) (.inl rfl) rfl ?_;refine PQe.stepP (fun _ he ho=>mV (he rfl rfl)) (.inl rfl) rfl ?_;replace h:=iDet h;obtain ⟨v48,hy49,h⟩:=h;refine PQe.stepP (fun _ he ho=>cN (PRow.fun (slices_Clone_sl_Run_Run_ok kv44.2 v48 hy49)) (he rfl rfl) Tryz.call33 (evsE he rfl rfl) rfl rfl rfl) (.inl rfl) rfl ?_;replace h:=iDet h;obtain ⟨y50,hy51,h⟩:=h;refine PQe.callObjS [(100,8),(101,20161)] [] [100,101] [(101,.mapH y50.1 [.u16,.u16] false (encM kP (eL TRun.e) y50.2))] [(100,.cells 61 [.mp 101])] (ack_Matrix_put_o_ok kv44.1.1 kv44.1.2 v48 nl38 v39 y50 hy51) hK (fun _ he=>⟨he rfl rfl,evsE he rfl rfl⟩) Tryz.call32 (by first | rfl | (simp;done) | (simp [PV.nilD,PV.ren,rn] <;> omega)) (by repeat' first | constructor | (congr 1;first | (simp;done) | (simp;omega) | omega)) (.cons rfl<|.nil) (.cons rfl<|.nil) (.cons (by first | rfl | (congr 1;first | (simp;done) | (simp;omega) | omega))<|.nil) rfl rfl rfl rfl rfl rfl (.inl rfl) rfl ?_;refine PQe.nil ?_;exact ⟨((seen37 ++ [j40]),y50.1,y50.2),(),h,sP⟩
 ·rintro ⟨nl6,v7⟩ _ h;refine wQ<|wR<|wm ?_;refine wa ?_;refine wN<|wX ?_;exact EndsO.mk ⟨(nl6,v7),h⟩ (.inr rfl) (Sub.trans (Sub.nToH (id:=101) rfl)<|sP (tl:=[(2,_)]) (to:=[(100,_),(101,_),(8,_),(20161,_),(1100,_),(1101,_)])) (.cons (.tmp rfl)<|.nil) rfl rfl

theorem ack_Matrix_Leave_o_ok (who1:Int) (nl2:Bool) (m3:List ((Int × Int) × List TRun)) (r0:Bool × Bool × (List ((Int × Int) × List TRun))) (h:(ack_Matrix_Leave_o who1 nl2 m3).wp (· = r0)):PObj Tryz.prog 14 [.ref 100 0,.d (.v (.int .u16 who1))] [(100,.cells 61 [.mp 101]),(101,.mapH nl2 [.u16,.u16] false (encM kP (eL TRun.e) m3))] [100,101] (.d (.v (.bool r0.1))) (fun _:Unit=>[(100,.cells 61 [.mp 101]),(101,.mapH r0.2.1 [.u16,.u16] false (encM kP (eL TRun.e) r0.2.2))]):=by
 refine PObj.intro (sl:=[(0,_),(1,_)]) Tryz.func14 rfl Tryz.ntmps14 rfl rfl rfl ?_;intro ctx hK pv;refine wQ<|wR<|wa ?_;refine wN<|wQ<|wQ<|wR<|wm ?_;refine wm ?_;replace h:=iDet h;obtain ⟨y4,hy5,h⟩:=h;refine wS (LR.callObjS [(100,100),(101,101)] [] [100,101] [] [(100,.cells 61 [.mp 101]),(101,.mapH nl2 [.u16,.u16] false (encM kP (eL TRun.e) m3))] (ack_Matrix_is_o_ok who1 nl2 m3 y4 hy5) hK rfl Tryz.call34 rfl (by first | rfl | (simp;done) | (simp [PV.nilD,PV.ren,rn] <;> omega)) (by repeat' first | constructor | (congr 1;first | (simp;done) | (simp;omega) | omega)) (.nil) (.cons rfl<|.cons rfl<|.nil) (by repeat' first | constructor | (congr 1;first | (simp;done) | (simp;omega) | omega)) rfl rfl rfl rfl rfl rfl) rfl ?_;refine wS (LR.not rfl) rfl<|wN ?_;refine wC rfl (fun hc6=>?_) (fun hc6=>?_)
 ·replace h:=iT hc6 h;refine wQ<|wz (tl:=[]) (to:=[(100,_),(101,_),(1100,_),(1101,_)]) ?_;refine wR<|wa ?_;refine wN<|wX ?_;replace h:_ = r0:=h;subst h;exact EndsO.mk () (.inr rfl) (sP (tl:=[(4,_)]) (to:=[(100,_),(101,_),(1100,_),(1101,_)])) (.cons (.tmp rfl)<|.nil) rfl rfl
 ·replace h:=iF hc6 h;refine wK<|wQ<|wQ<|wz (tl:=[(0,_),(1,_)]) (to:=[(100,_),(101,_),(1100,_),(1101,_)]) ?_;refine wR<|wm ?_;refine wm ?_;replace h:=iDet h;obtain ⟨y7,hy8,h⟩:=h;refine wS (LR.callObjS [(100,100),(101,101)] [] [100,101] [] [(100,.cells 61 [.mp 101]),(101,.mapH nl2 [.u16,.u16] false (encM kP (eL TRun.e) m3))] (ack_Matrix_Row_o_ok who1 nl2 m3 y7 hy8) hK rfl Tryz.call18 rfl (by first | rfl | (simp;done) | (simp [PV.nilD,PV.ren,rn] <;> omega)) (by repeat' first | constructor | (congr 1;first | (simp;done) | (simp;omega) | omega)) (.nil) (.cons rfl<|.cons rfl<|.nil) (by repeat' first | constructor | (congr 1;first | (simp;done) | (simp;omega) | omega)) rfl rfl rfl rfl rfl rfl) rfl ?_;refine wS (lM (enc:=TPart.e) (L:=y7) Tryz.underlying24 rfl) rfl<|wm ?_;refine wN ?_;refine wJ (iBind h) (fun (v9:List ((Int × Int) × List TRun)) (_:Unit)=>⟨34,[(0,.ref 100 0),(1,.d (.v (.int .u16 who1)))],[(100,.cells 61 [.mp 101]),(101,.mapH nl2 [.u16,.u16] false (encM kP (eL TRun.e) v9)),(1100,.pin 100 (pv 100)),(1101,.pin 101 (pv 101))]⟩) (fun h=>?_) ?_
  ·refine wB<|wM (fun (⟨v18,v19⟩:Int × (List ((Int × Int) × List TRun))) (_:Unit)=>⟨34,[(0,.ref 100 0),(1,.d (.v (.int .u16 who1))),(13,.d (.sl (List.map TPart.e y7))),(14,.d (.v (.int .i64 (List.length y7:Int)))),(15,.d (.v (.int .i64 v18)))],[(100,.cells 61 [.mp 101]),(101,.mapH nl2 [.u16,.u16] false (encM kP (eL TRun.e) v19)),(1100,.pin 100 (pv 100)),(1101,.pin 101 (pv 101))]⟩) () h (sP) ?_;rintro N ⟨v18,v19⟩ _ h;refine wQ<|wR<|wS (LR.lss rfl rfl) rfl<|wN<|wQ ?_;refine wC rfl (fun hc20=>?_) (fun hc20=>?_)
   ·replace h:=iT hc20 h;refine wK<|wQ<|wB<|wQ<|wR ?_;replace h:=iIdx h;obtain ⟨x21,hy22,h⟩:=h;refine wS (iX (enc:=TPart.e) (L:=y7) (y:=x21) Tryz.underlying24 Tryz.sizeOf65 rfl rfl hy22 (fun _=>rfl)) rfl<|wS (lE (ys:=[_,_]) Tryz.isAgg65 Tryz.sizeOf65 rfl rfl rfl) rfl<|wS (LR.allocZ (cs:=[_,_]) Tryz.zeroValue65 rfl rfl rfl rfl) rfl<|wS (sB (ns:=[_,_]) Tryz.sizeOf65 rfl rfl rfl rfl rfl rfl rfl) rfl<|wN<|wz (tl:=[(0,_),(1,_),(6,_),(13,_),(14,_),(15,_)]) (to:=[(6,_),(100,_),(101,_),(1100,_),(1101,_)]) ?_;refine PWc.regionE [⟨[19],[],[],[],[],[100],[],[]⟩,⟨[20],[],[],[],[],[100],[],[]⟩,⟨[21],[],[],[],[],[100],[],[]⟩,⟨[22],[],[100],[],[],[101],[],[]⟩,{ws:=[23]},⟨[24],[],[],[],[],[6],[],[]⟩,⟨[25],[],[6],[],[],[],[],[]⟩,{ws:=[26]},⟨[],[101],[101],[],[],[],[],[]⟩] (by kernel_rfl) (by kernel_rfl) rfl ?_;refine PQe.stepP (fun _ he ho=>mV (he rfl rfl)) (.inl rfl) rfl ?_;refine PQe.stepP (fun _ he ho=>LR.nilCheckRef (he rfl rfl)) (.inl rfl) rfl ?_;refine PQe.stepP (fun _ he ho=>fR Tryz.underlying61 rfl Tryz.sizeOf59 (by decide) rfl (he rfl rfl)) (.inl rfl) rfl ?_;refine PQe.stepP (fun _ he ho=>lD Tryz.isAgg59 (he rfl rfl) (ho rfl rfl) rfl) (.inl rfl) rfl ?_;refine PQe.stepP (fun _ he ho=>mV (he rfl rfl)) (.inl rfl) rfl ?_;refine PQe.stepP (fun _ he ho=>fR Tryz.underlying65 rfl Tryz.sizeOf31 (by decide) rfl (he rfl rfl)) (.inl rfl) rfl ?_;refine PQe.stepP (fun _ he ho=>lD Tryz.isAgg31 (he rfl rfl) (ho rfl rfl) rfl) (.inl rfl) rfl ?_;refine PQe.stepP (fun _ he ho=>LR.build (ns:=[_,_]) build68 rfl (evpE he rfl rfl) rfl) (.inl rfl) rfl ?_;refine PQe.stepSD (fun _ he ho=>LR.delH (eV:=(eL TRun.e)) (q:=(who1,x21.dev)) (m:=v19) kP_inj Tryz.underlying59 key59 (he rfl rfl) (ho rfl rfl) (he rfl rfl) rfl rfl rfl) (.inl rfl) rfl<|PQe.nil<|wR<|wS (LR.addW rfl rfl) rfl<|wm ?_;refine wN ?_;exact ⟨((IntKind.i64.wrap (v18 + 1)),(AL.del v19 (who1,x21.dev))),(),h,sP⟩
   ·replace h:=iF hc20 h;refine wZ ?_;exact ⟨v19,(),h,sP⟩
  ·rintro v9 _ h;refine wQ<|wR<|wm ?_;refine wS (LR.nilCheckRef rfl) rfl<|wS (fR Tryz.underlying61 rfl Tryz.sizeOf59 (by decide) rfl rfl) rfl<|wS (lD Tryz.isAgg59 rfl rfl rfl) rfl<|wm ?_;refine wS (LR.build (ns:=[_,_]) build68 rfl rfl rfl) rfl<|wS (LR.delH (eV:=(eL TRun.e)) (q:=(who1,0)) (m:=v9) kP_inj Tryz.underlying59 key59 rfl rfl rfl rfl rfl rfl) rfl<|wN<|wQ<|wR<|wa ?_;refine wN<|wX ?_;replace h:_ = r0:=h;subst h;exact EndsO.mk () (.inr rfl) (sP (tl:=[(4,_)]) (to:=[(100,_),(101,_),(1100,_),(1101,_)])) (.cons (.tmp rfl)<|.nil) rfl rfl

theorem ack_Below_o_ok (nl1:Bool) (m2:List ((Int × Int) × List TRun)) (nl3:Bool) (m4:List ((Int × Int) × List TRun)) (r0:Bool) (h:(ack_Below_o nl1 m2 nl3 m4).wp (· = r0)):PObj Tryz.prog 19 [.ref 100 0,.ref 101 0] [(100,.cells 61 [.mp 102]),(101,.cells 61 [.mp 103]),(102,.mapH nl1 [.u16,.u16] false (encM kP (eL TRun.e) m2)),(103,.mapH nl3 [.u16,.u16] false (encM kP (eL TRun.e) m4))] [100,101,102,103] (.d (.v (.bool r0))) (fun _:Unit=>[(100,.cells 61 [.mp 102]),(101,.cells 61 [.mp 103]),(102,.mapH nl1 [.u16,.u16] false (encM kP (eL TRun.e) m2)),(103,.mapH nl3 [.u16,.u16] false (encM kP (eL TRun.e) m4))]):=by
 refine PObj.intro (sl:=[(0,_),(1,_)]) Tryz.func19 rfl Tryz.ntmps19 rfl rfl rfl ?_;intro ctx hK pv;refine wQ<|wR<|wa ?_;refine wN<|wQ<|wQ<|wR<|wm ?_;replace h:=iDet h;obtain ⟨y5,hy6,h⟩:=h;refine wS (LR.callObjS [(100,100),(101,102)] [] [100,101] [] [(100,.cells 61 [.mp 101]),(101,.mapH nl1 [.u16,.u16] false (encM kP (eL TRun.e) m2))] (ack_Matrix_Members_o_ok nl1 m2 y5 hy6) hK rfl Tryz.call17 rfl (by first | rfl | (simp;done) | (simp [PV.nilD,PV.ren,rn] <;> omega)) (by repeat' first | constructor | (congr 1;first | (simp;done) | (simp;omega) | omega)) (.nil) (.cons rfl<|.cons rfl<|.nil) (by repeat' first | constructor | (congr 1;first | (simp;done) | (simp;omega) | omega)) rfl rfl rfl rfl rfl rfl) rfl ?_;refine wy (tl:=[(0,_),(1,_),(8,_)]) (to:=[(100,_),(101,_),(102,_),(103,_),(1100,_),(1101,_),(1102,_),(1103,_)]) ?_;refine wS (lM (enc:=(eK .u16)) (L:=y5) Tryz.underlying38 rfl) rfl<|wm ?_;refine wN ?_;refine PWc.jnX (iBind h) (fun (_:Unit) (_:Unit)=>⟨29,[],[(100,.cells 61 [.mp 102]),(101,.cells 61 [.mp 103]),(102,.mapH nl1 [.u16,.u16] false (encM kP (eL TRun.e) m2)),(103,.mapH nl3 [.u16,.u16] false (encM kP (eL TRun.e) m4)),(1100,.pin 100 (pv 100)),(1101,.pin 101 (pv 101)),(1102,.pin 102 (pv 102)),(1103,.pin 103 (pv 103))]⟩) (fun h=>?_) ?_
 ·refine wB<|wM (fun (v36:Int) (_:Unit)=>⟨29,[(0,.ref 100 0),(1,.ref 101 0),(8,.d (.sl (List.map (eK .u16) y5))),(9,.d (.v (.int .i64 (List.length y5:Int)))),(10,.d (.v (.int .i64 v36)))],[(100,.cells 61 [.mp 102]),(101,.cells 61 [.mp 103]),(102,.mapH nl1 [.u16,.u16] false (encM kP (eL TRun.e) m2)),(103,.mapH nl3 [.u16,.u16] false (encM kP (eL TRun.e) m4)),(1100,.pin 100 (pv 100)),(1101,.pin 101 (pv 101)),(1102,.pin 102 (pv 102)),(1103,.pin 103 (pv 103))]⟩) () h (sP) ?_;rintro N v36 _ h;refine wQ<|wR<|wS (LR.lss rfl rfl) rfl<|wN<|wQ ?_;refine wC rfl (fun hc37=>?_) (fun hc37=>?_)
  ·replace h:=iT hc37 h;refine wK<|wQ<|wB<|wQ<|wR ?_;replace h:=iIdx h;obtain ⟨x38,hy39,h⟩:=h;refine wS (iX (enc:=(eK .u16)) (L:=y5) (y:=x38) Tryz.underlying38 Tryz.sizeOf31 rfl rfl hy39 (fun _=>rfl)) rfl<|wS (LR.loadEp Tryz.isAgg31 rfl rfl) rfl<|wa ?_;refine wN<|wQ ?_;refine wJ (iBind h) (fun (v40:Bool) (_:Unit)=>⟨29,[(0,.ref 100 0),(1,.ref 101 0),(8,.d (.sl (List.map (eK .u16) y5))),(9,.d (.v (.int .i64 (List.length y5:Int)))),(10,.d (.v (.int .i64 v36))),(27,.d (.v (.bool v40)))],[(100,.cells 61 [.mp 102]),(101,.cells 61 [.mp 103]),(102,.mapH nl1 [.u16,.u16] false (encM kP (eL TRun.e) m2)),(103,.mapH nl3 [.u16,.u16] false (encM kP (eL TRun.e) m4)),(1100,.pin 100 (pv 100)),(1101,.pin 101 (pv 101)),(1102,.pin 102 (pv 102)),(1103,.pin 103 (pv 103))]⟩) (fun h=>?_) ?_
   ·refine wR<|wm ?_;refine wm ?_;replace h:=iDet h;obtain ⟨y41,hy42,h⟩:=h;refine wS (LR.callObjS [(100,101),(101,103)] [] [100,101] [] [(100,.cells 61 [.mp 101]),(101,.mapH nl3 [.u16,.u16] false (encM kP (eL TRun.e) m4))] (ack_Matrix_is_o_ok x38 nl3 m4 y41 hy42) hK rfl Tryz.call34 rfl (by first | rfl | (simp;done) | (simp [PV.nilD,PV.ren,rn] <;> omega)) (by repeat' first | constructor | (congr 1;first | (simp;done) | (simp;omega) | omega)) (.nil) (.cons rfl<|.cons rfl<|.nil) (by repeat' first | constructor | (congr 1;first | (simp;done) | (simp;omega) | omega)) rfl rfl rfl rfl rfl rfl) rfl ?_;refine wy (tl:=[(0,_),(1,_),(6,_),(8,_),(9,_),(10,_),(16,_)]) (to:=[(100,_),(101,_),(102,_),(103,_),(1100,_),(1101,_),(1102,_),(1103,_)]) ?_;refine wS (LR.not rfl) rfl<|wm ?_;refine wL (d:=18) rfl (fun hg43=>?_) (fun hg43=>?_)
    ·replace h:=iT hg43 h;refine wf<|wf<|wf<|wf<|wf<|wf<|wf<|wf<|wS (pT rfl rfl) rfl ?_;refine wN ?_;exact ⟨true,(),h,sP⟩
    ·replace h:=iF hg43 h;refine wT (mV rfl) rfl rfl rfl<|wT (mV rfl) rfl rfl rfl ?_;replace h:=iDet h;obtain ⟨y44,hy45,h⟩:=h;refine wT (LR.callObjS [(100,100),(101,102)] [] [100,101] [] [(100,.cells 61 [.mp 101]),(101,.mapH nl1 [.u16,.u16] false (encM kP (eL TRun.e) m2))] (ack_Matrix_Row_o_ok x38 nl1 m2 y44 hy45) hK rfl Tryz.call18 rfl (by first | rfl | (simp;done) | (simp [PV.nilD,PV.ren,rn] <;> omega)) (by repeat' first | constructor | (congr 1;first | (simp;done) | (simp;omega) | omega)) (.nil) (.cons rfl<|.cons rfl<|.nil) (by repeat' first | constructor | (congr 1;first | (simp;done) | (simp;omega) | omega)) rfl rfl rfl rfl rfl rfl) rfl rfl rfl ?_;refine wy (tl:=[(0,_),(1,_),(6,_),(8,_),(9,_),(10,_),(18,_),(19,_),(20,_),(21,_)]) (to:=[(100,_),(101,_),(102,_),(103,_),(1100,_),(1101,_),(1102,_),(1103,_)]) ?_;refine wT (mV rfl) rfl rfl rfl<|wT (mV rfl) rfl rfl rfl ?_;replace h:=iDet h;obtain ⟨y46,hy47,h⟩:=h;refine wT (LR.callObjS [(100,101),(101,103)] [] [100,101] [] [(100,.cells 61 [.mp 101]),(101,.mapH nl3 [.u16,.u16] false (encM kP (eL TRun.e) m4))] (ack_Matrix_Row_o_ok x38 nl3 m4 y46 hy47) hK rfl Tryz.call18 rfl (by first | rfl | (simp;done) | (simp [PV.nilD,PV.ren,rn] <;> omega)) (by repeat' first | constructor | (congr 1;first | (simp;done) | (simp;omega) | omega)) (.nil) (.cons rfl<|.cons rfl<|.nil) (by repeat' first | constructor | (congr 1;first | (simp;done) | (simp;omega) | omega)) rfl rfl rfl rfl rfl rfl) rfl rfl rfl ?_;refine wy (tl:=[(0,_),(1,_),(8,_),(9,_),(10,_),(18,_),(19,_),(20,_),(21,_),(22,_),(23,_),(24,_)]) (to:=[(100,_),(101,_),(102,_),(103,_),(1100,_),(1101,_),(1102,_),(1103,_)]) ?_;replace h:=iDet h;obtain ⟨v48,hy49,h⟩:=h;refine wT (cN (ctx_Within_ok y44 y46 v48 hy49) rfl Tryz.call38 rfl rfl rfl rfl) rfl rfl rfl<|wT (LR.not rfl) rfl rfl rfl<|wS (pF rfl rfl) rfl<|wN ?_;exact ⟨(!v48),(),h,sP⟩
   ·rintro v40 _ h;refine wC rfl (fun hc50=>?_) (fun hc50=>?_)
    ·replace h:=iT hc50 h;refine wQ<|wR<|wa ?_;refine wN<|wX ?_;replace h:_ = r0:=h;subst h;exact EndsO.mk () (.inr rfl) (sP (tl:=[(4,_)]) (to:=[(100,_),(101,_),(102,_),(103,_),(1100,_),(1101,_),(1102,_),(1103,_)])) (.cons (.tmp rfl)<|.nil) rfl rfl
    ·replace h:=iF hc50 h;refine wK<|wR<|wS (LR.addW rfl rfl) rfl<|wm ?_;refine wN ?_;exact ⟨(IntKind.i64.wrap (v36 + 1)),(),h,sP⟩
  ·replace h:=iF hc37 h;refine wZ ?_;exact ⟨(),(),h,sP⟩
 ·rintro _ _ h;refine wQ<|wR<|wa ?_;refine wN<|wX ?_;replace h:_ = r0:=h;subst h;exact EndsO.mk () (.inr rfl) (sP (tl:=[(4,_)]) (to:=[(100,_),(101,_),(102,_),(103,_),(1100,_),(1101,_),(1102,_),(1103,_)])) (.cons (.tmp rfl)<|.nil) rfl rfl

theorem l25_AckFront_ok (l1:List L25Act) (c2:List TPart) (r0:Bool) (h:(l25_AckFront l1 c2).wp (· = r0)):PFun Tryz.prog 3 [.d (.sl (List.map L25Act.e l1)),.d (.sl (List.map TPart.e c2))] (.d (.v (.bool r0))):=by
 refine fI (sl:=[(0,_),(1,_)]) Tryz.func3 rfl Tryz.ntmps3 rfl rfl ?_;intro ctx hK;refine wQ<|wR<|wa ?_;refine wN<|wQ<|wQ ?_;refine wJ (iBind h) (fun (v3:Bool) (_:Unit)=>⟨147,[(0,.d (.sl (List.map L25Act.e l1))),(1,.d (.sl (List.map TPart.e c2))),(19,.d (.v (.bool v3)))],[]⟩) (fun h=>?_) ?_
 ·refine wR<|wm ?_;replace h:=iDet h;obtain ⟨v4,hy5,h⟩:=h;refine wS (cN (l25_few_ok l1 v4 hy5) rfl Tryz.call7 rfl rfl rfl rfl) rfl<|wS (LR.not rfl) rfl<|wm ?_;refine wL (d:=15) rfl (fun hg6=>?_) (fun hg6=>?_)
  ·replace h:=iT hg6 h;refine wf<|wf<|wf<|wS (pT rfl rfl) rfl<|wN ?_;exact ⟨true,(),h,sP⟩
  ·replace h:=iF hg6 h;refine wT (mV rfl) rfl rfl rfl ?_;replace h:=iDet h;obtain ⟨v7,hy8,h⟩:=h;refine wT (cN (r09_Few_ok c2 v7 hy8) rfl Tryz.call8 rfl rfl rfl rfl) rfl rfl rfl<|wT (LR.not rfl) rfl rfl rfl<|wS (pF rfl rfl) rfl<|wN ?_;exact ⟨(!v7),(),h,sP⟩
 ·rintro v3 _ h;refine wC rfl (fun hc9=>?_) (fun hc9=>?_)
  ·replace h:=iT hc9 h;refine wQ<|wR ?_;replace h:=iDet h;obtain ⟨v10,hy11,h⟩:=h;refine wS (cN (l25_works_ok v10 hy11) rfl Tryz.call9 rfl rfl rfl rfl) rfl<|wa ?_;refine wN<|wX ?_;replace h:_ = r0:=h;subst h;exact ⟨.inr rfl,_,.cons (.tmp rfl rfl)<|.nil,rfl⟩
  ·replace h:=iF hc9 h;refine wK<|wQ<|wR ?_;replace h:=iDet h;obtain ⟨y12,hy13,h⟩:=h;refine wS (LR.callObj [(2,21),(30040,20421)] [] [2,30040] (ack_New_o_ok y12 hy13) hK rfl Tryz.call10 rfl (by first | rfl | (simp;done) | (simp [PV.nilD,PV.ren,rn] <;> omega)) (.nil) rfl rfl rfl rfl) rfl ?_;refine wa ?_;refine wN<|wQ<|wQ<|wz (tl:=[(0,_),(1,_),(5,_)]) (to:=[(21,_),(20421,_)]) ?_;refine wR<|wa ?_;refine wN ?_;refine PWc.jnX (iBind h) (fun (_:Unit) (_:Unit)=>⟨147,[],[]⟩) (fun h=>?_) ?_
   ·refine wB<|wM (fun (⟨i223,nl224,v225⟩:Int × Bool × (List ((Int × Int) × List TRun))) (_:Unit)=>⟨147,[(0,.d (.sl (List.map L25Act.e l1))),(1,.d (.sl (List.map TPart.e c2))),(5,.ref 21 0),(6,.d (.v (.int .i64 i223)))],[(21,.cells 61 [.mp 20421]),(20421,.mapH nl224 [.u16,.u16] false (encM kP (eL TRun.e) v225))]⟩) () h (sP) ?_;rintro N ⟨i223,nl224,v225⟩ _ h;refine wQ<|wQ<|wR<|wm ?_;refine wm ?_;refine wS (lM (enc:=L25Act.e) (L:=l1) Tryz.underlying22 rfl) rfl<|wS (LR.lss rfl rfl) rfl<|wN ?_;refine wC rfl (fun hc226=>?_) (fun hc226=>?_)
    ·replace h:=iT hc226 h;refine wK<|wQ ?_;refine PWc.jnX (iBind h) (fun (⟨nl227,v228⟩:Bool × (List ((Int × Int) × List TRun))) (_:Unit)=>⟨147,[(0,.d (.sl (List.map L25Act.e l1))),(1,.d (.sl (List.map TPart.e c2))),(5,.ref 21 0),(6,.d (.v (.int .i64 i223)))],[(21,.cells 61 [.mp 20421]),(20421,.mapH nl227 [.u16,.u16] false (encM kP (eL TRun.e) v228))]⟩) (fun h=>?_) ?_
     ·refine wB<|wQ<|wR<|wm ?_;refine wm ?_;replace h:=iDet h;obtain ⟨y229,hy230,h⟩:=h;refine wS (LR.callObjS [(100,21),(101,20421)] [] [100,101] [] [(100,.cells 61 [.mp 101]),(101,.mapH nl224 [.u16,.u16] false (encM kP (eL TRun.e) v225))] (ack_Matrix_Front_o_ok c2 nl224 v225 y229 hy230) hK rfl Tryz.call11 rfl (by first | rfl | (simp;done) | (simp [PV.nilD,PV.ren,rn] <;> omega)) (by repeat' first | constructor | (congr 1;first | (simp;done) | (simp;omega) | omega)) (.nil) (.cons rfl<|.cons rfl<|.nil) (by repeat' first | constructor | (congr 1;first | (simp;done) | (simp;omega) | omega)) rfl rfl rfl rfl rfl rfl) rfl ?_;refine wa ?_;refine wN<|wQ<|wz (tl:=[(0,_),(1,_),(5,_),(6,_),(7,_)]) (to:=[(21,_),(20421,_)]) ?_;refine wR<|wm ?_;replace h:=iBind h;refine PWl.callObjS [(100,21),(101,20421),(8,32),(20161,20641)] [] [100,101,8,20161] (fun gh:Subtype (α:=Bool × (List ((Int × Int) × List TRun))) _=>[(8,.cells 61 [.mp 20161]),(20161,.mapH gh.1.1 [.u16,.u16] false (encM kP (eL TRun.e) gh.1.2))]) [(100,.cells 61 [.mp 101]),(101,.mapH nl224 [.u16,.u16] false (encM kP (eL TRun.e) v225))] (ack_Matrix_Copy_o_ok nl224 v225 h) hK rfl Tryz.call12 rfl (by first | rfl | (simp;done) | (simp [PV.nilD,PV.ren,rn] <;> omega)) (by repeat' first | constructor | (congr 1;first | (simp;done) | (simp;omega) | omega)) (fun _=>.cons rfl<|.cons rfl<|.nil) (fun _=>.cons rfl<|.cons rfl<|.nil) (by repeat' first | constructor | (congr 1;first | (simp;done) | (simp;omega) | omega)) (fun _=>rfl) rfl (fun _=>rfl) (fun _=>rfl) rfl rfl rfl (fun gh=>?_);obtain ⟨y231,h⟩:=gh;refine wa ?_;refine wN<|wQ<|wQ<|wz (tl:=[(0,_),(1,_),(5,_),(6,_),(7,_),(8,_)]) (to:=[(21,_),(32,_),(20421,_),(20641,_)]) ?_;refine wR<|wm ?_;refine wm ?_;replace h:=iIdx h;obtain ⟨x233,hy234,h⟩:=h;refine wS (iX (enc:=L25Act.e) (L:=l1) (y:=x233) Tryz.underlying22 Tryz.sizeOf33 rfl rfl hy234 (fun _=>rfl)) rfl<|wS (fE Tryz.underlying33 rfl Tryz.sizeOf5 (by decide) rfl rfl) rfl<|wS (LR.loadEp Tryz.isAgg5 rfl rfl) rfl<|wN ?_;refine wJ (iBind h) (fun (⟨nl235,v236⟩:Bool × (List ((Int × Int) × List TRun))) (_:Unit)=>⟨147,[(0,.d (.sl (List.map L25Act.e l1))),(1,.d (.sl (List.map TPart.e c2))),(5,.ref 21 0),(6,.d (.v (.int .i64 i223))),(7,.d (.sl (List.map TPart.e y229))),(8,.ref 32 0)],[(21,.cells 61 [.mp 20421]),(32,.cells 61 [.mp 20641]),(20421,.mapH nl235 [.u16,.u16] false (encM kP (eL TRun.e) v236)),(20641,.mapH y231.1 [.u16,.u16] false (encM kP (eL TRun.e) y231.2))]⟩) (fun h=>?_) ?_
      ·refine wB<|wQ<|wR<|wS (eQ rfl rfl) rfl<|wa ?_;refine wN ?_;refine wC rfl (fun hc237=>?_) (fun hc237=>?_)
       ·replace h:=iT hc237 h;refine wR<|wm ?_;refine wm ?_;refine wm ?_;replace h:=iIdx h;obtain ⟨x238,hy239,h⟩:=h;refine wS (iX (enc:=L25Act.e) (L:=l1) (y:=x238) Tryz.underlying22 Tryz.sizeOf33 rfl rfl hy239 (fun _=>rfl)) rfl<|wS (fE Tryz.underlying33 rfl Tryz.sizeOf31 (by decide) rfl rfl) rfl<|wS (LR.loadEp Tryz.isAgg31 rfl rfl) rfl ?_;replace h:=iDet h;obtain ⟨y240,hy241,h⟩:=h;refine wS (LR.callObjS [(100,21),(101,20421)] [] [100,101] [(101,.mapH y240.2.1 [.u16,.u16] false (encM kP (eL TRun.e) y240.2.2))] [(100,.cells 61 [.mp 101])] (ack_Matrix_Join_o_ok x238.who nl224 v225 y240 hy241) hK rfl Tryz.call13 rfl (by first | rfl | (simp;done) | (simp [PV.nilD,PV.ren,rn] <;> omega)) (by repeat' first | constructor | (congr 1;first | (simp;done) | (simp;omega) | omega)) (.cons rfl<|.nil) (.cons rfl<|.nil) (.cons (by first | rfl | (congr 1;first | (simp;done) | (simp;omega) | omega))<|.nil) rfl rfl rfl rfl rfl rfl) rfl ?_;refine wN ?_;exact ⟨(y240.2.1,y240.2.2),(),h,sP⟩
       ·replace h:=iF hc237 h;refine wQ<|wR<|wS (eQ rfl rfl) rfl<|wa ?_;refine wN ?_;refine wC rfl (fun hc242=>?_) (fun hc242=>?_)
        ·replace h:=iT hc242 h;refine wR<|wm ?_;refine wm ?_;refine wm ?_;replace h:=iIdx h;obtain ⟨x243,hy244,h⟩:=h;refine wS (iX (enc:=L25Act.e) (L:=l1) (y:=x243) Tryz.underlying22 Tryz.sizeOf33 rfl rfl hy244 (fun _=>rfl)) rfl<|wS (fE Tryz.underlying33 rfl Tryz.sizeOf31 (by decide) rfl rfl) rfl<|wS (LR.loadEp Tryz.isAgg31 rfl rfl) rfl<|wy (tl:=[(0,_),(1,_),(5,_),(6,_),(7,_),(8,_),(61,_),(66,_)]) (to:=[(21,_),(32,_),(20421,_),(20641,_)]) ?_;replace h:=iDet h;obtain ⟨y245,hy246,h⟩:=h;refine wS (LR.callObjS [(100,21),(101,20421)] [] [100,101] [(101,.mapH y245.2.1 [.u16,.u16] false (encM kP (eL TRun.e) y245.2.2))] [(100,.cells 61 [.mp 101])] (ack_Matrix_Leave_o_ok x243.who nl224 v225 y245 hy246) hK rfl Tryz.call14 rfl (by first | rfl | (simp;done) | (simp [PV.nilD,PV.ren,rn] <;> omega)) (by repeat' first | constructor | (congr 1;first | (simp;done) | (simp;omega) | omega)) (.cons rfl<|.nil) (.cons rfl<|.nil) (.cons (by first | rfl | (congr 1;first | (simp;done) | (simp;omega) | omega))<|.nil) rfl rfl rfl rfl rfl rfl) rfl ?_;refine wN ?_;exact ⟨(y245.2.1,y245.2.2),(),h,sP⟩
        ·replace h:=iF hc242 h;refine wz (tl:=[(0,_),(1,_),(5,_),(6,_),(7,_),(8,_)]) (to:=[(21,_),(32,_),(20421,_),(20641,_)]) ?_;refine PWc.regionE [⟨[38],[],[],[],[],[21],[],[]⟩,{ws:=[39]},{ws:=[40]},{ws:=[41]},{ws:=[42]},{ws:=[43]},{ws:=[44]},{ws:=[45]},{ws:=[46]},{ws:=[47]},{ws:=[48]},⟨[49],[20421],[21,20421],[],[(20421,[])],[],[],[21,20421]⟩] (by kernel_rfl) (by kernel_rfl) rfl ?_;refine PQe.stepP (fun _ he ho=>mV (he rfl rfl)) (.inl rfl) rfl ?_;refine PQe.stepP (fun _ he ho=>mV (he rfl rfl)) (.inl rfl) rfl ?_;refine PQe.stepP (fun _ he ho=>mV (he rfl rfl)) (.inl rfl) rfl ?_;replace h:=iIdx h;obtain ⟨x247,hy248,h⟩:=h;refine PQe.stepP (fun _ he ho=>iX (enc:=L25Act.e) (L:=l1) (y:=x247) Tryz.underlying22 Tryz.sizeOf33 (he rfl rfl) (he rfl rfl) hy248 (fun _=>rfl)) (.inl rfl) rfl ?_;refine PQe.stepP (fun _ he ho=>fE Tryz.underlying33 rfl Tryz.sizeOf31 (by decide) rfl (he rfl rfl)) (.inl rfl) rfl ?_;refine PQe.stepP (fun _ he ho=>LR.loadEp Tryz.isAgg31 (he rfl rfl) rfl) (.inl rfl) rfl ?_;refine PQe.stepP (fun _ he ho=>mV (he rfl rfl)) (.inl rfl) rfl ?_;refine PQe.stepP (fun _ he ho=>mV (he rfl rfl)) (.inl rfl) rfl ?_;replace h:=iIdx h;obtain ⟨x249,hy250,h⟩:=h;refine PQe.stepP (fun _ he ho=>iX (enc:=L25Act.e) (L:=l1) (y:=x249) Tryz.underlying22 Tryz.sizeOf33 (he rfl rfl) (he rfl rfl) hy250 (fun _=>rfl)) (.inl rfl) rfl ?_;refine PQe.stepP (fun _ he ho=>fE Tryz.underlying33 rfl Tryz.sizeOf24 (by decide) rfl (he rfl rfl)) (.inl rfl) rfl ?_;refine PQe.stepP (fun _ he ho=>LR.loadEp Tryz.isAgg24 (he rfl rfl) rfl) (.inl rfl) rfl ?_;replace h:=iDet h;obtain ⟨y251,hy252,h⟩:=h;refine PQe.callObjS [(100,21),(101,20421)] [] [100,101] [(101,.mapH y251.2.1 [.u16,.u16] false (encM kP (eL TRun.e) y251.2.2))] [(100,.cells 61 [.mp 101])] (ack_Matrix_Hear_o_ok x247.who x249.c nl224 v225 y251 hy252) hK (fun _ he=>⟨he rfl rfl,evsE he rfl rfl⟩) Tryz.call15 (by first | rfl | (simp;done) | (simp [PV.nilD,PV.ren,rn] <;> omega)) (by repeat' first | constructor | (congr 1;first | (simp;done) | (simp;omega) | omega)) (.cons rfl<|.nil) (.cons rfl<|.nil) (.cons (by first | rfl | (congr 1;first | (simp;done) | (simp;omega) | omega))<|.nil) rfl rfl rfl rfl rfl rfl (.inl rfl) rfl ?_;refine PQe.nil ?_;exact ⟨(y251.2.1,y251.2.2),(),h,sP⟩
      ·rintro ⟨nl235,v236⟩ _ h;refine wQ<|wR<|wm ?_;refine wm ?_;replace h:=iDet h;obtain ⟨y253,hy254,h⟩:=h;refine wS (LR.callObjS [(100,21),(101,20421)] [] [100,101] [] [(100,.cells 61 [.mp 101]),(101,.mapH nl235 [.u16,.u16] false (encM kP (eL TRun.e) v236))] (ack_Matrix_Front_o_ok c2 nl235 v236 y253 hy254) hK rfl Tryz.call11 rfl (by first | rfl | (simp;done) | (simp [PV.nilD,PV.ren,rn] <;> omega)) (by repeat' first | constructor | (congr 1;first | (simp;done) | (simp;omega) | omega)) (.nil) (.cons rfl<|.cons rfl<|.nil) (by repeat' first | constructor | (congr 1;first | (simp;done) | (simp;omega) | omega)) rfl rfl rfl rfl rfl rfl) rfl ?_;refine wa ?_;refine wN<|wQ<|wQ<|wz (tl:=[(0,_),(1,_),(5,_),(6,_),(7,_),(8,_),(9,_)]) (to:=[(21,_),(32,_),(20421,_),(20641,_)]) ?_;refine wJ (iBind h) (fun (v255:Bool) (_:Unit)=>⟨147,[(0,.d (.sl (List.map L25Act.e l1))),(1,.d (.sl (List.map TPart.e c2))),(5,.ref 21 0),(6,.d (.v (.int .i64 i223))),(8,.ref 32 0),(9,.d (.sl (List.map TPart.e y253))),(102,.d (.v (.bool v255)))],[(21,.cells 61 [.mp 20421]),(32,.cells 61 [.mp 20641]),(20421,.mapH nl235 [.u16,.u16] false (encM kP (eL TRun.e) v236)),(20641,.mapH y231.1 [.u16,.u16] false (encM kP (eL TRun.e) y231.2))]⟩) (fun h=>?_) ?_
       ·refine wR<|wm ?_;refine wm ?_;replace h:=iIdx h;obtain ⟨x256,hy257,h⟩:=h;refine wS (iX (enc:=L25Act.e) (L:=l1) (y:=x256) Tryz.underlying22 Tryz.sizeOf33 rfl rfl hy257 (fun _=>rfl)) rfl<|wS (fE Tryz.underlying33 rfl Tryz.sizeOf5 (by decide) rfl rfl) rfl<|wS (LR.loadEp Tryz.isAgg5 rfl rfl) rfl<|wS (eQ rfl rfl) rfl<|wm ?_;refine wL (d:=77) rfl (fun hg258=>?_) (fun hg258=>?_)
        ·replace h:=iT hg258 h;refine wT (mV rfl) rfl rfl rfl<|wT (mV rfl) rfl rfl rfl ?_;replace h:=iDet h;obtain ⟨v259,hy260,h⟩:=h;refine wT (cN (r09_Within_ok y253 y229 v259 hy260) rfl Tryz.call16 rfl rfl rfl rfl) rfl rfl rfl<|wT (LR.not rfl) rfl rfl rfl<|wS (pT rfl rfl) rfl<|wm ?_;refine wy (tl:=[(0,_),(1,_),(5,_),(6,_),(7,_),(8,_),(9,_),(78,_),(79,_),(80,_),(81,_),(83,_)]) (to:=[(21,_),(32,_),(20421,_),(20641,_)]) ?_;refine wL (d:=83) rfl (fun hg261=>?_) (fun hg261=>?_)
         ·replace h:=iT hg261 h;refine wf<|wf<|wf<|wf<|wf<|wf<|wf<|wU rfl rfl rfl<|wU rfl rfl rfl ?_;refine wU rfl rfl rfl<|wU rfl rfl rfl<|wf<|wS (pT rfl rfl) rfl<|wm ?_;refine wf<|wf<|wf<|wf<|wS (pT rfl rfl) rfl<|wN ?_;exact ⟨true,(),h,sP⟩
         ·replace h:=iF hg261 h;refine wT (mV rfl) rfl rfl rfl<|wT (mV rfl) rfl rfl rfl ?_;replace h:=iIdx h;obtain ⟨x262,hy263,h⟩:=h;refine wT (iX (enc:=L25Act.e) (L:=l1) (y:=x262) Tryz.underlying22 Tryz.sizeOf33 rfl rfl hy263 (fun _=>rfl)) rfl rfl rfl<|wT (fE Tryz.underlying33 rfl Tryz.sizeOf5 (by decide) rfl rfl) rfl rfl rfl<|wT (LR.loadEp Tryz.isAgg5 rfl rfl) rfl rfl rfl<|wT (nQ rfl rfl) rfl rfl rfl<|wT (mV rfl) rfl rfl rfl ?_;refine wL (d:=90) rfl (fun hg264=>?_) (fun hg264=>?_)
          ·replace h:=iT hg264 h;refine wT (mV rfl) rfl rfl rfl<|wT (mV rfl) rfl rfl rfl ?_;replace h:=iDet h;obtain ⟨v265,hy266,h⟩:=h;refine wT (cN (r09_Within_ok y229 y253 v265 hy266) rfl Tryz.call16 rfl rfl rfl rfl) rfl rfl rfl<|wT (LR.not rfl) rfl rfl rfl<|wT (pT rfl rfl) rfl rfl rfl<|wS (pF rfl rfl) rfl<|wm ?_;refine wL (d:=97) rfl (fun hg267=>?_) (fun hg267=>?_)
           ·replace h:=iT hg267 h;refine wf<|wf<|wf<|wf<|wS (pT rfl rfl) rfl<|wN ?_;exact ⟨true,(),h,sP⟩
           ·replace h:=iF hg267 h;refine wT (mV rfl) rfl rfl rfl<|wT (mV rfl) rfl rfl rfl ?_;replace h:=iDet h;obtain ⟨v268,hy269,h⟩:=h;refine wT (cN (r09_Within_ok y253 c2 v268 hy269) rfl Tryz.call16 rfl rfl rfl rfl) rfl rfl rfl<|wT (LR.not rfl) rfl rfl rfl<|wS (pF rfl rfl) rfl<|wN ?_;exact ⟨(!v268),(),h,sP⟩
          ·replace h:=iF hg264 h;refine wf<|wf<|wf<|wf<|wT (pF rfl rfl) rfl rfl rfl<|wS (pF rfl rfl) rfl<|wm ?_;refine wT (mV rfl) rfl rfl rfl<|wT (mV rfl) rfl rfl rfl ?_;replace h:=iDet h;obtain ⟨v270,hy271,h⟩:=h;refine wT (cN (r09_Within_ok y253 c2 v270 hy271) rfl Tryz.call16 rfl rfl rfl rfl) rfl rfl rfl<|wT (LR.not rfl) rfl rfl rfl<|wS (pF rfl rfl) rfl<|wN ?_;exact ⟨(!v270),(),h,sP⟩
        ·replace h:=iF hg258 h;refine wf<|wf<|wf<|wf<|wS (pF rfl rfl) rfl<|wm ?_;refine wy (tl:=[(0,_),(1,_),(5,_),(6,_),(7,_),(8,_),(9,_),(78,_),(79,_),(80,_),(81,_),(83,_)]) (to:=[(21,_),(32,_),(20421,_),(20641,_)]) ?_;refine wT (mV rfl) rfl rfl rfl<|wT (mV rfl) rfl rfl rfl ?_;replace h:=iIdx h;obtain ⟨x272,hy273,h⟩:=h;refine wT (iX (enc:=L25Act.e) (L:=l1) (y:=x272) Tryz.underlying22 Tryz.sizeOf33 rfl rfl hy273 (fun _=>rfl)) rfl rfl rfl<|wT (fE Tryz.underlying33 rfl Tryz.sizeOf5 (by decide) rfl rfl) rfl rfl rfl<|wT (LR.loadEp Tryz.isAgg5 rfl rfl) rfl rfl rfl<|wT (nQ rfl rfl) rfl rfl rfl<|wT (mV rfl) rfl rfl rfl ?_;refine wL (d:=90) rfl (fun hg274=>?_) (fun hg274=>?_)
         ·replace h:=iT hg274 h;refine wT (mV rfl) rfl rfl rfl<|wT (mV rfl) rfl rfl rfl ?_;replace h:=iDet h;obtain ⟨v275,hy276,h⟩:=h;refine wT (cN (r09_Within_ok y229 y253 v275 hy276) rfl Tryz.call16 rfl rfl rfl rfl) rfl rfl rfl<|wT (LR.not rfl) rfl rfl rfl<|wT (pT rfl rfl) rfl rfl rfl<|wS (pF rfl rfl) rfl<|wm ?_;refine wL (d:=97) rfl (fun hg277=>?_) (fun hg277=>?_)
          ·replace h:=iT hg277 h;refine wf<|wf<|wf<|wf<|wS (pT rfl rfl) rfl<|wN ?_;exact ⟨true,(),h,sP⟩
          ·replace h:=iF hg277 h;refine wT (mV rfl) rfl rfl rfl<|wT (mV rfl) rfl rfl rfl ?_;replace h:=iDet h;obtain ⟨v278,hy279,h⟩:=h;refine wT (cN (r09_Within_ok y253 c2 v278 hy279) rfl Tryz.call16 rfl rfl rfl rfl) rfl rfl rfl<|wT (LR.not rfl) rfl rfl rfl<|wS (pF rfl rfl) rfl<|wN ?_;exact ⟨(!v278),(),h,sP⟩
         ·replace h:=iF hg274 h;refine wf<|wf<|wf<|wf<|wT (pF rfl rfl) rfl rfl rfl<|wS (pF rfl rfl) rfl<|wm ?_;refine wT (mV rfl) rfl rfl rfl<|wT (mV rfl) rfl rfl rfl ?_;replace h:=iDet h;obtain ⟨v280,hy281,h⟩:=h;refine wT (cN (r09_Within_ok y253 c2 v280 hy281) rfl Tryz.call16 rfl rfl rfl rfl) rfl rfl rfl<|wT (LR.not rfl) rfl rfl rfl<|wS (pF rfl rfl) rfl<|wN ?_;exact ⟨(!v280),(),h,sP⟩
       ·rintro v255 _ h;refine wC rfl (fun hc282=>?_) (fun hc282=>?_)
        ·replace h:=iT hc282 h;refine wQ<|wR<|wa ?_;refine wN<|wX ?_;replace h:_ = r0:=h;subst h;exact ⟨.inr rfl,_,.cons (.tmp rfl rfl)<|.nil,rfl⟩
        ·replace h:=iF hc282 h;refine wK<|wQ<|wR<|wm ?_;replace h:=iDet h;obtain ⟨y283,hy284,h⟩:=h;refine wS (LR.callObjS [(100,21),(101,20421)] [] [100,101] [] [(100,.cells 61 [.mp 101]),(101,.mapH nl235 [.u16,.u16] false (encM kP (eL TRun.e) v236))] (ack_Matrix_Members_o_ok nl235 v236 y283 hy284) hK rfl Tryz.call17 rfl (by first | rfl | (simp;done) | (simp [PV.nilD,PV.ren,rn] <;> omega)) (by repeat' first | constructor | (congr 1;first | (simp;done) | (simp;omega) | omega)) (.nil) (.cons rfl<|.cons rfl<|.nil) (by repeat' first | constructor | (congr 1;first | (simp;done) | (simp;omega) | omega)) rfl rfl rfl rfl rfl rfl) rfl ?_;refine wa ?_;refine wN<|wQ<|wQ<|wz (tl:=[(0,_),(1,_),(5,_),(6,_),(8,_),(9,_),(10,_)]) (to:=[(21,_),(32,_),(20421,_),(20641,_)]) ?_;refine wR<|wa ?_;refine wN ?_;refine PWc.jnX (iBind h) (fun (_:Unit) (_:Unit)=>⟨147,[(0,.d (.sl (List.map L25Act.e l1))),(1,.d (.sl (List.map TPart.e c2))),(5,.ref 21 0),(6,.d (.v (.int .i64 i223))),(8,.ref 32 0)],[(21,.cells 61 [.mp 20421]),(32,.cells 61 [.mp 20641]),(20421,.mapH nl235 [.u16,.u16] false (encM kP (eL TRun.e) v236)),(20641,.mapH y231.1 [.u16,.u16] false (encM kP (eL TRun.e) y231.2))]⟩) (fun h=>?_) ?_
         ·refine wB<|wM (fun (k302:Int) (_:Unit)=>⟨147,[(0,.d (.sl (List.map L25Act.e l1))),(1,.d (.sl (List.map TPart.e c2))),(5,.ref 21 0),(6,.d (.v (.int .i64 i223))),(8,.ref 32 0),(9,.d (.sl (List.map TPart.e y253))),(10,.d (.sl (List.map (eK .u16) y283))),(11,.d (.v (.int .i64 k302)))],[(21,.cells 61 [.mp 20421]),(32,.cells 61 [.mp 20641]),(20421,.mapH nl235 [.u16,.u16] false (encM kP (eL TRun.e) v236)),(20641,.mapH y231.1 [.u16,.u16] false (encM kP (eL TRun.e) y231.2))]⟩) () h (sP) ?_;rintro N k302 _ h;refine wQ<|wQ<|wR<|wm ?_;refine wm ?_;refine wS (lM (enc:=(eK .u16)) (L:=y283) Tryz.underlying38 rfl) rfl<|wS (LR.lss rfl rfl) rfl<|wN ?_;refine wC rfl (fun hc303=>?_) (fun hc303=>?_)
          ·replace h:=iT hc303 h;refine wK<|wQ<|wB<|wQ<|wR<|wm ?_;refine wm ?_;refine wm ?_;refine wm ?_;replace h:=iIdx h;obtain ⟨x304,hy305,h⟩:=h;refine wS (iX (enc:=(eK .u16)) (L:=y283) (y:=x304) Tryz.underlying38 Tryz.sizeOf31 rfl rfl hy305 (fun _=>rfl)) rfl<|wS (LR.loadEp Tryz.isAgg31 rfl rfl) rfl ?_;replace h:=iDet h;obtain ⟨y306,hy307,h⟩:=h;refine wS (LR.callObjS [(100,21),(101,20421)] [] [100,101] [] [(100,.cells 61 [.mp 101]),(101,.mapH nl235 [.u16,.u16] false (encM kP (eL TRun.e) v236))] (ack_Matrix_Row_o_ok x304 nl235 v236 y306 hy307) hK rfl Tryz.call18 rfl (by first | rfl | (simp;done) | (simp [PV.nilD,PV.ren,rn] <;> omega)) (by repeat' first | constructor | (congr 1;first | (simp;done) | (simp;omega) | omega)) (.nil) (.cons rfl<|.cons rfl<|.nil) (by repeat' first | constructor | (congr 1;first | (simp;done) | (simp;omega) | omega)) rfl rfl rfl rfl rfl rfl) rfl ?_;replace h:=iDet h;obtain ⟨v308,hy309,h⟩:=h;refine wS (cN (r09_Within_ok y253 y306 v308 hy309) rfl Tryz.call16 rfl rfl rfl rfl) rfl<|wS (LR.not rfl) rfl<|wN ?_;refine wC rfl (fun hc310=>?_) (fun hc310=>?_)
           ·replace h:=iT hc310 h;refine wQ<|wz (tl:=[]) (to:=[]) ?_;refine wR<|wa ?_;refine wN<|wX ?_;replace h:_ = r0:=h;subst h;exact ⟨.inr rfl,_,.cons (.tmp rfl rfl)<|.nil,rfl⟩
           ·replace h:=iF hc310 h;refine wK<|wz (tl:=[(0,_),(1,_),(5,_),(6,_),(8,_),(9,_),(10,_),(11,_)]) (to:=[(21,_),(32,_),(20421,_),(20641,_)]) ?_;refine wR<|wm ?_;refine wS (LR.addW rfl rfl) rfl<|wa ?_;refine wN ?_;exact ⟨(IntKind.i64.wrap (k302 + 1)),(),h,sP⟩
          ·replace h:=iF hc303 h;refine wZ ?_;exact ⟨(),(),h,sP⟩
         ·rintro _ _ h;refine wQ ?_;refine wJ (iBind h) (fun (v311:Bool) (_:Unit)=>⟨147,[(0,.d (.sl (List.map L25Act.e l1))),(1,.d (.sl (List.map TPart.e c2))),(5,.ref 21 0),(6,.d (.v (.int .i64 i223))),(145,.d (.v (.bool v311)))],[(21,.cells 61 [.mp 20421]),(20421,.mapH nl235 [.u16,.u16] false (encM kP (eL TRun.e) v236))]⟩) (fun h=>?_) ?_
          ·refine wR<|wm ?_;refine wm ?_;replace h:=iIdx h;obtain ⟨x312,hy313,h⟩:=h;refine wS (iX (enc:=L25Act.e) (L:=l1) (y:=x312) Tryz.underlying22 Tryz.sizeOf33 rfl rfl hy313 (fun _=>rfl)) rfl<|wS (fE Tryz.underlying33 rfl Tryz.sizeOf5 (by decide) rfl rfl) rfl<|wS (LR.loadEp Tryz.isAgg5 rfl rfl) rfl<|wS (nQ rfl rfl) rfl<|wm ?_;refine wL (d:=126) rfl (fun hg314=>?_) (fun hg314=>?_)
           ·replace h:=iT hg314 h;refine wT (mV rfl) rfl rfl rfl<|wT (mV rfl) rfl rfl rfl ?_;replace h:=iDet h;obtain ⟨y315,hy316,h⟩:=h;refine wT (LR.callObjS [(100,32),(101,21),(102,20641),(103,20421)] [] [100,101,102,103] [] [(100,.cells 61 [.mp 102]),(101,.cells 61 [.mp 103]),(102,.mapH y231.1 [.u16,.u16] false (encM kP (eL TRun.e) y231.2)),(103,.mapH nl235 [.u16,.u16] false (encM kP (eL TRun.e) v236))] (ack_Below_o_ok y231.1 y231.2 nl235 v236 y315 hy316) hK rfl Tryz.call19 rfl (by first | rfl | (simp;done) | (simp [PV.nilD,PV.ren,rn] <;> omega)) (by repeat' first | constructor | (congr 1;first | (simp;done) | (simp;omega) | omega)) (.nil) (.cons rfl<|.cons rfl<|.cons rfl<|.cons rfl<|.nil) (by repeat' first | constructor | (congr 1;first | (simp;done) | (simp;omega) | omega)) rfl rfl rfl rfl rfl rfl) rfl rfl rfl ?_;refine wT (LR.not rfl) rfl rfl rfl<|wS (pT rfl rfl) rfl<|wm ?_;refine wL (d:=132) rfl (fun hg317=>?_) (fun hg317=>?_)
            ·replace h:=iT hg317 h;refine wf<|wy (tl:=[(0,_),(1,_),(5,_),(6,_),(8,_),(127,_),(128,_),(129,_),(130,_),(132,_),(133,_)]) (to:=[(21,_),(32,_),(20421,_),(20641,_)]) ?_;refine wf<|wf<|wf<|wf<|wf<|wf<|wU rfl rfl rfl<|wU rfl rfl rfl<|wU rfl rfl rfl ?_;refine wU rfl rfl rfl<|wf<|wS (pT rfl rfl) rfl<|wN ?_;exact ⟨true,(),h,sP⟩
            ·replace h:=iF hg317 h;refine wT (mV rfl) rfl rfl rfl<|wy (tl:=[(0,_),(1,_),(5,_),(6,_),(8,_),(127,_),(128,_),(129,_),(130,_),(132,_),(133,_)]) (to:=[(21,_),(32,_),(20421,_),(20641,_)]) ?_;refine wT (mV rfl) rfl rfl rfl ?_;replace h:=iIdx h;obtain ⟨x318,hy319,h⟩:=h;refine wT (iX (enc:=L25Act.e) (L:=l1) (y:=x318) Tryz.underlying22 Tryz.sizeOf33 rfl rfl hy319 (fun _=>rfl)) rfl rfl rfl<|wT (fE Tryz.underlying33 rfl Tryz.sizeOf5 (by decide) rfl rfl) rfl rfl rfl<|wT (LR.loadEp Tryz.isAgg5 rfl rfl) rfl rfl rfl<|wT (eQ rfl rfl) rfl rfl rfl<|wT (mV rfl) rfl rfl rfl ?_;refine wL (d:=139) rfl (fun hg320=>?_) (fun hg320=>?_)
             ·replace h:=iT hg320 h;refine wT (mV rfl) rfl rfl rfl<|wT (mV rfl) rfl rfl rfl ?_;replace h:=iDet h;obtain ⟨y321,hy322,h⟩:=h;refine wT (LR.callObjS [(100,21),(101,32),(102,20421),(103,20641)] [] [100,101,102,103] [] [(100,.cells 61 [.mp 102]),(101,.cells 61 [.mp 103]),(102,.mapH nl235 [.u16,.u16] false (encM kP (eL TRun.e) v236)),(103,.mapH y231.1 [.u16,.u16] false (encM kP (eL TRun.e) y231.2))] (ack_Below_o_ok nl235 v236 y231.1 y231.2 y321 hy322) hK rfl Tryz.call19 rfl (by first | rfl | (simp;done) | (simp [PV.nilD,PV.ren,rn] <;> omega)) (by repeat' first | constructor | (congr 1;first | (simp;done) | (simp;omega) | omega)) (.nil) (.cons rfl<|.cons rfl<|.cons rfl<|.cons rfl<|.nil) (by repeat' first | constructor | (congr 1;first | (simp;done) | (simp;omega) | omega)) rfl rfl rfl rfl rfl rfl) rfl rfl rfl ?_;refine wT (LR.not rfl) rfl rfl rfl<|wT (pT rfl rfl) rfl rfl rfl<|wS (pF rfl rfl) rfl<|wN ?_;exact ⟨(!y321),(),h,sP⟩
             ·replace h:=iF hg320 h;refine wf<|wf<|wf<|wf<|wT (pF rfl rfl) rfl rfl rfl<|wS (pF rfl rfl) rfl<|wN ?_;exact ⟨false,(),h,sP⟩
           ·replace h:=iF hg314 h;refine wf<|wf<|wf<|wf<|wS (pF rfl rfl) rfl<|wm ?_;refine wT (mV rfl) rfl rfl rfl<|wT (mV rfl) rfl rfl rfl<|wy (tl:=[(0,_),(1,_),(5,_),(6,_),(8,_),(127,_),(128,_),(129,_),(130,_),(132,_),(133,_),(134,_)]) (to:=[(21,_),(32,_),(20421,_),(20641,_)]) ?_;replace h:=iIdx h;obtain ⟨x323,hy324,h⟩:=h;refine wT (iX (enc:=L25Act.e) (L:=l1) (y:=x323) Tryz.underlying22 Tryz.sizeOf33 rfl rfl hy324 (fun _=>rfl)) rfl rfl rfl<|wT (fE Tryz.underlying33 rfl Tryz.sizeOf5 (by decide) rfl rfl) rfl rfl rfl<|wT (LR.loadEp Tryz.isAgg5 rfl rfl) rfl rfl rfl<|wT (eQ rfl rfl) rfl rfl rfl<|wT (mV rfl) rfl rfl rfl ?_;refine wL (d:=139) rfl (fun hg325=>?_) (fun hg325=>?_)
            ·replace h:=iT hg325 h;refine wT (mV rfl) rfl rfl rfl<|wT (mV rfl) rfl rfl rfl ?_;replace h:=iDet h;obtain ⟨y326,hy327,h⟩:=h;refine wT (LR.callObjS [(100,21),(101,32),(102,20421),(103,20641)] [] [100,101,102,103] [] [(100,.cells 61 [.mp 102]),(101,.cells 61 [.mp 103]),(102,.mapH nl235 [.u16,.u16] false (encM kP (eL TRun.e) v236)),(103,.mapH y231.1 [.u16,.u16] false (encM kP (eL TRun.e) y231.2))] (ack_Below_o_ok nl235 v236 y231.1 y231.2 y326 hy327) hK rfl Tryz.call19 rfl (by first | rfl | (simp;done) | (simp [PV.nilD,PV.ren,rn] <;> omega)) (by repeat' first | constructor | (congr 1;first | (simp;done) | (simp;omega) | omega)) (.nil) (.cons rfl<|.cons rfl<|.cons rfl<|.cons rfl<|.nil) (by repeat' first | constructor | (congr 1;first | (simp;done) | (simp;omega) | omega)) rfl rfl rfl rfl rfl rfl) rfl rfl rfl ?_;refine wT (LR.not rfl) rfl rfl rfl<|wT (pT rfl rfl) rfl rfl rfl<|wS (pF rfl rfl) rfl<|wN ?_;exact ⟨(!y326),(),h,sP⟩
            ·replace h:=iF hg325 h;refine wf<|wf<|wf<|wf<|wT (pF rfl rfl) rfl rfl rfl<|wS (pF rfl rfl) rfl<|wN ?_;exact ⟨false,(),h,sP⟩
          ·rintro v311 _ h;refine wC rfl (fun hc328=>?_) (fun hc328=>?_)
           ·replace h:=iT hc328 h;refine wQ<|wR<|wa ?_;refine wN<|wX ?_;replace h:_ = r0:=h;subst h;exact ⟨.inr rfl,_,.cons (.tmp rfl rfl)<|.nil,rfl⟩
           ·replace h:=iF hc328 h;refine wK ?_;exact ⟨(nl235,v236),(),h,sP⟩
     ·rintro ⟨nl227,v228⟩ _ h;refine wR<|wm ?_;refine wS (LR.addW rfl rfl) rfl<|wa ?_;refine wN ?_;exact ⟨((IntKind.i64.wrap (i223 + 1)),nl227,v228),(),h,sP⟩
    ·replace h:=iF hc226 h;refine wZ ?_;exact ⟨(),(),h,sP⟩
   ·rintro _ _ h;refine wQ<|wR ?_;replace h:=iDet h;obtain ⟨v329,hy330,h⟩:=h;refine wS (cN (l25_works_ok v329 hy330) rfl Tryz.call9 rfl rfl rfl rfl) rfl<|wa ?_;refine wN<|wX ?_;replace h:_ = r0:=h;subst h;exact ⟨.inr rfl,_,.cons (.tmp rfl rfl)<|.nil,rfl⟩
end Go.Proofs

namespace Go.Ep
open Go

theorem wI64 {n:Int} (h:-9223372036854775808 ≤ n) (h':n ≤ 9223372036854775807):IntKind.i64.wrap n = n:=by simp [IntKind.wrap,IntKind.bits,IntKind.signed];omega
theorem wU64 {n:Int} (h:0 ≤ n) (h':n ≤ 18446744073709551615):IntKind.u64.wrap n = n:=by simp [IntKind.wrap,IntKind.bits,IntKind.signed];omega
theorem wU8 {n:Int} (h:0 ≤ n) (h':n ≤ 255):IntKind.u8.wrap n = n:=by simp [IntKind.wrap,IntKind.bits,IntKind.signed];omega
theorem wSucc {i:Nat} (h:i < 9223372036854775807):IntKind.i64.wrap ((i:Int) + 1) = ((i + 1:Nat):Int):=by rw [wI64 (by omega) (by omega)];rfl
namespace M
variable {α β σ ρ τ ε:Type}
theorem cond_dec (p:Prop) [Decidable p] (x y:M α):cond (decide p) x y = if p then x else y:=by by_cases h:p <;> simp [h]
theorem loopL {body:σ → M (Step σ ρ)} (l:List ε) (mk:Nat → τ → σ) (f:τ → ε → τ) (g:τ → M ρ)
  (I:Nat → τ → Prop) (h1:∀ (i:Nat) (x:ε) (t:τ),l[i]? = some x → i < l.length → I i t → body (mk i t) = pure (.next (mk (i + 1) (f t x))) ∧ I (i + 1) (f t x))
  (h2:∀ t,I l.length t → body (mk l.length t) = (g t).bind fun r=>pure (.done r)) (t0:τ) (h0:I 0 t0):loop body (mk 0 t0) = g (l.foldl f t0):=by
 have key:∀ k i t,i + k = l.length → I i t → loop body (mk i t) = g ((l.drop i).foldl f t):=by
  intro k
  induction k with
  | zero=>
   intro i t hi hI;have:i = l.length:=by omega
   subst this;rw [loop_eq,h2 t hI,List.drop_length]
   rfl
  | succ k ih=>
   intro i t hi hI;have hlt:i < l.length:=by omega
   obtain ⟨h3,h4⟩:=h1 i l[i] t (List.getElem?_eq_getElem hlt) hlt hI;rw [loop_next h3,ih (i + 1) _ (by omega) h4,List.drop_eq_getElem_cons hlt]
   rfl
 simpa using key l.length 0 t0 (by omega) h0
theorem loopAll {body:σ → M (Step σ ρ)} (l:List ε) (mk:Nat → σ) (p:Nat → ε → Bool) (r1 r2:ρ)
  (h1:∀ (i:Nat) (x:ε),l[i]? = some x → i < l.length → body (mk i) = if p i x then pure (.next (mk (i + 1))) else pure (.done r2))
  (h2:body (mk l.length) = pure (.done r1)):loop body (mk 0) = pure (if l.zipIdx.all (fun y=>p y.2 y.1) then r1 else r2):=by
 have key:∀ k i,i + k = l.length → loop body (mk i) = pure (if ((l.drop i).zipIdx i).all (fun y=>p y.2 y.1) then r1 else r2):=by
  intro k
  induction k with
  | zero=>
   intro i hi;have:i = l.length:=by omega
   subst this;rw [loop_done h2,List.drop_length]
   rfl
  | succ k ih=>
   intro i hi;have hlt:i < l.length:=by omega
   have h3:=h1 i l[i] (List.getElem?_eq_getElem hlt) hlt;rw [List.drop_eq_getElem_cons hlt,List.zipIdx_cons,List.all_cons]
   by_cases hp:p i l[i] = true
   ·rw [if_pos hp] at h3;rw [loop_next h3,ih (i + 1) (by omega),hp,Bool.true_and]
   ·rw [if_neg hp] at h3;rw [loop_done h3];simp [hp]
 have:=key l.length 0 (by omega);rw [List.drop_zero] at this;exact this

def came {ε:Type} (m:List ε) (L:List Nat):List ε:=L.filterMap fun i=>m[i]?
theorem came_snoc {m:List ε} {L:List Nat} {i:Nat} {y:ε} (h:m[i]? = some y):came m (L ++ [i]) = came m L ++ [y]:=by simp [came,h]
theorem all_perm {n:Nat} {L:List Nat} (hn:L.Nodup) (hb:∀ i ∈ L,i < n) (ha:∀ i,i < n → i ∈ L):L.Perm (List.range n):=by
 refine (List.perm_ext_iff_of_nodup hn List.nodup_range).2 fun i=>?_
 rw [List.mem_range];exact ⟨hb i,ha i⟩
theorem came_perm {m:List ε} {L:List Nat} (hn:L.Nodup) (hb:∀ i ∈ L,i < m.length) (ha:∀ i,i < m.length → i ∈ L):(came m L).Perm m:=by
 have h1:=(all_perm hn hb ha).filterMap fun i=>m[i]?
 have h2:(List.range m.length).filterMap (fun i=>m[i]?) = m:=by
  apply List.ext_getElem?;intro i;clear h1 hn hb ha;have:(List.range m.length).filterMap (fun i=>m[i]?) = m:=by
   induction m with
   | nil=>rfl
   | cons x r ih=>
    rw [List.length_cons,List.range_succ_eq_map,List.filterMap_cons];simp only [List.getElem?_cons_zero,List.filterMap_map]
    congr 1
  rw [this]
 rw [h2] at h1;exact h1
theorem nodup_len {n:Nat} {L:List Nat} (hn:L.Nodup) (hb:∀ i ∈ L,i < n):L.length ≤ n:=by
 have:=List.Nodup.length_le_of_subset hn (l₂:=List.range n) (fun i hi=>List.mem_range.2 (hb i hi));simpa using this

theorem full {n:Nat} {L:List Nat} (hn:L.Nodup) (hb:∀ i ∈ L,i < n) (hl:n ≤ L.length):∀ i,i < n → i ∈ L:=by
 intro i hi;refine Classical.byContradiction fun hni=>?_
 have:=nodup_len (n:=n) (L:=i :: L) (List.nodup_cons.2 ⟨hni,hn⟩) (fun j hj=>by
  rcases List.mem_cons.1 hj with rfl | hj
  ·exact hi
  ·exact hb j hj)
 simp at this;omega
theorem loopM {body:σ → M (Step σ ρ)} (m:List ε) (mk:List Nat → τ → σ) (f:τ → ε → M τ) (g:τ → M ρ) (I:List ε → τ → Prop) (Q:ρ → Prop)
  (hb:∀ L t,(∀ i ∈ L,i < m.length) → body (mk L t) = need (∀ i ∈ L,i < m.length) ((nxt m.length L).bind fun o=>match o with
   | none=>(g t).bind fun r=>pure (.done r)
   | some i=>(idx m (Int.ofNat i)).bind fun y=>(f t y).bind fun t'=>pure (.next (mk (L ++ [i]) t'))))
  (hs:∀ l t y,I l t → l.length < m.length → y ∈ m → ∃ t',f t y = pure t' ∧ I (l ++ [y]) t') (he:∀ l t,l.Perm m → I l t → (g t).wp Q) (t0:τ) (h0:I [] t0):(loop body (mk [] t0)).wp Q:=by
 have key:∀ k L t,L.length + k = m.length → L.Nodup → (∀ i ∈ L,i < m.length) → I (came m L) t → loopP body Q (mk L t):=by
  intro k
  induction k with
  | zero=>
   intro L t hk hn hlt hI;refine loopP_in ?_;rw [hb L t hlt];have hall:∀ i,i < m.length → i ∈ L:=fun i hi=>full hn hlt (by omega) i hi
   refine ⟨hlt,⟨⟨none,hall⟩,fun o ho=>?_⟩⟩
   cases o with
   | none=>
    have:=he _ t (came_perm hn hlt hall) hI;exact this
   | some i=>exact absurd (hall i ho.1) ho.2
  | succ k ih=>
   intro L t hk hn hlt hI;refine loopP_in ?_;rw [hb L t hlt];have hex:∃ i,i < m.length ∧ i ∉ L:=by
    refine Classical.byContradiction fun hno=>?_
    have hall:∀ i,i < m.length → i ∈ L:=fun i hi=>Classical.byContradiction fun h=>hno ⟨i,hi,h⟩
    have:=(all_perm hn hlt hall).length_eq;simp at this;omega
   obtain ⟨i0,hi0⟩:=hex;refine ⟨hlt,⟨⟨some i0,hi0⟩,fun o ho=>?_⟩⟩
   cases o with
   | none=>exact absurd (ho i0 hi0.1) hi0.2
   | some i=>
    have hi:=List.getElem?_eq_getElem ho.1;obtain ⟨t',h1,h2⟩:=hs (came m L) t m[i] hI (by have:=List.length_filterMap_le (fun i=>m[i]?) L;unfold came;omega) (List.getElem_mem ho.1);show ((idx m (Int.ofNat i)).bind _).wp _;rw [show (Int.ofNat i) = (i:Int) from rfl,idx_nat hi,pure_bind,h1,pure_bind];refine ih (L ++ [i]) t' (by simp;omega) ?_ ?_ (by rw [came_snoc hi];exact h2)
    ·rw [List.nodup_append];refine ⟨hn,by simp,fun a ha b hb'=>?_⟩;rw [List.mem_singleton.1 hb'];intro e;exact ho.2 (e ▸ ha)
    ·intro j hj;rcases List.mem_append.1 hj with hj | hj
     ·exact hlt j hj
     ·rw [List.mem_singleton.1 hj];exact ho.1
 exact key m.length [] t0 (by simp) List.nodup_nil (by simp) h0

theorem loopN {body:σ → M (Step σ ρ)} (n:Nat) (mk:List Nat → τ → σ) (I:List Nat → τ → Prop) (Q:ρ → Prop)
  (h:∀ L t,I L t → L.Nodup → (∀ i ∈ L,i < n) → ∃ K:Option Nat → M (Step σ ρ),body (mk L t) = need (∀ i ∈ L,i < n) ((nxt n L).bind K) ∧ ((∀ i,i < n → i ∈ L) → (K none).wp (Step.post (fun _=>False) Q)) ∧
   ∀ i,i < n → i ∉ L → ∃ t',K (some i) = pure (.next (mk (L ++ [i]) t')) ∧ I (L ++ [i]) t') (t0:τ) (h0:I [] t0):(loop body (mk [] t0)).wp Q:=by
 have key:∀ k L t,L.length + k = n → L.Nodup → (∀ i ∈ L,i < n) → I L t → loopP body Q (mk L t):=by
  intro k
  induction k with
  | zero=>
   intro L t hk hn hlt hI;obtain ⟨K,h1,h2,h3⟩:=h L t hI hn hlt;refine loopP_in ?_;rw [h1];have hall:∀ i,i < n → i ∈ L:=full hn hlt (by omega);refine ⟨hlt,⟨⟨none,hall⟩,fun o ho=>?_⟩⟩
   cases o with
   | none=>exact (K none).mono (fun a ha=>by cases a with | next s=>exact ha.elim | done r=>exact ha) (h2 hall)
   | some i=>exact absurd (hall i ho.1) ho.2
  | succ k ih=>
   intro L t hk hn hlt hI;obtain ⟨K,h1,h2,h3⟩:=h L t hI hn hlt;refine loopP_in ?_;rw [h1];have hex:∃ i,i < n ∧ i ∉ L:=by
    refine Classical.byContradiction fun hno=>?_
    have hall:∀ i,i < n → i ∈ L:=fun i hi=>Classical.byContradiction fun h=>hno ⟨i,hi,h⟩
    have:=(all_perm hn hlt hall).length_eq;simp at this;omega
   obtain ⟨i0,hi0⟩:=hex;refine ⟨hlt,⟨⟨some i0,hi0⟩,fun o ho=>?_⟩⟩
   cases o with
   | none=>exact absurd (ho i0 hi0.1) hi0.2
   | some i=>
    obtain ⟨t',h4,h5⟩:=h3 i ho.1 ho.2;show (K (some i)).wp _;rw [h4];refine ih (L ++ [i]) t' (by simp;omega) ?_ ?_ h5
    ·rw [List.nodup_append];refine ⟨hn,by simp,fun a ha b hb'=>?_⟩;rw [List.mem_singleton.1 hb'];intro e;exact ho.2 (e ▸ ha)
    ·intro j hj;rcases List.mem_append.1 hj with hj | hj
     ·exact hlt j hj
     ·rw [List.mem_singleton.1 hj];exact ho.1
 exact key n [] t0 (by simp) List.nodup_nil (by simp) h0
end M

namespace AL
variable {κ ν:Type} [DecidableEq κ]
theorem get_set (m:List (κ × ν)) (k q:κ) (v:ν):get (set m k v) q = if k = q then some v else get m q:=by
 induction m with
 | nil=>simp [set,get]
 | cons x r ih=>
  obtain ⟨a,u⟩:=x
  by_cases h:a = k
  ·subst h;simp only [set,if_true,get];split <;> rfl
  ·simp only [set,h,if_false,get,ih]
   by_cases h2:a = q
   ·subst h2;simp [Ne.symm h]
   ·simp [h2]
theorem getZ_set (m:List (κ × ν)) (k q:κ) (v z:ν):getZ (set m k v) q z = if k = q then v else getZ m q z:=by
 unfold getZ;rw [get_set];split <;> rfl
theorem keys_set (m:List (κ × ν)) (k:κ) (v:ν):(set m k v).map (·.1) = if k ∈ m.map (·.1) then m.map (·.1) else m.map (·.1) ++ [k]:=by
 induction m with
 | nil=>simp [set]
 | cons x r ih=>
  obtain ⟨a,u⟩:=x
  by_cases h:a = k
  ·subst h;simp [set]
  ·simp only [set,h,if_false,List.map_cons,ih,List.mem_cons,Ne.symm h,false_or]
   split <;> simp
theorem nodup_set {m:List (κ × ν)} (h:(m.map (·.1)).Nodup) (k:κ) (v:ν):((set m k v).map (·.1)).Nodup:=by
 rw [keys_set]
 split
 ·exact h
 ·rename_i hk
  rw [List.nodup_append];refine ⟨h,by simp,fun a ha b hb=>?_⟩;rw [List.mem_singleton.1 hb];intro e;exact hk (e ▸ ha)
theorem get_none {m:List (κ × ν)} {k:κ}:get m k = none ↔ k ∉ m.map (·.1):=by
 induction m with
 | nil=>simp [get]
 | cons x r ih=>
  obtain ⟨a,u⟩:=x
  by_cases h:a = k
  ·subst h;simp [get]
  ·simp [get,h,ih,Ne.symm h]
theorem get_mem {m:List (κ × ν)} {k:κ} {v:ν} (h:get m k = some v):(k,v) ∈ m:=by
 induction m with
 | nil=>simp [get] at h
 | cons x r ih=>
  obtain ⟨a,u⟩:=x
  by_cases e:a = k
  ·subst e;simp [get] at h;subst h;simp
  ·simp only [get,e,if_false] at h;exact List.mem_cons_of_mem _ (ih h)
theorem mem_get {m:List (κ × ν)} (hn:(m.map (·.1)).Nodup) {k:κ} {v:ν} (h:(k,v) ∈ m):get m k = some v:=by
 induction m with
 | nil=>simp at h
 | cons x r ih=>
  obtain ⟨a,u⟩:=x;simp only [List.map_cons,List.nodup_cons] at hn;rcases List.mem_cons.1 h with e | h
  ·cases e;simp [get]
  ·have:a ≠ k:=fun e=>hn.1 (e ▸ List.mem_map.2 ⟨(k,v),h,rfl⟩)
   simp only [get,this,if_false];exact ih hn.2 h
theorem len_set (m:List (κ × ν)) (k:κ) (v:ν):(set m k v).length ≤ m.length + 1:=by
 induction m with
 | nil=>simp [set]
 | cons x r ih=>
  obtain ⟨a,u⟩:=x;unfold set
  split
  ·simp
  ·simpa using ih
end AL
end Go.Ep

namespace Go.Ep.M.V
open Go

def goodD (d:TDot):Bool:=decide (1 ≤ d.dev) && (decide (1 ≤ d.n) && decide (d.n ≤ 281474976710655))
theorem goodD_iff {d:TDot}:goodD d = true ↔ 1 ≤ d.dev ∧ 1 ≤ d.n ∧ d.n ≤ 281474976710655:=by simp [goodD]
theorem r07_Good_eq (d:TDot):r07_Good d = pure (goodD d):=by
 unfold r07_Good;rw [cond_pure_and,cond_pure_and,pure_bind];refine congrArg pure ?_;rw [Bool.eq_iff_iff,goodD_iff];simp only [Bool.and_eq_true,decide_eq_true_eq];omega
def ofV : List TDot → Int → Int
 | [],_=>0
 | d :: r,dev=>if d.dev = dev ∧ goodD d = true then max d.n (ofV r dev) else ofV r dev
theorem ofV_range (v:List TDot) (dev:Int):0 ≤ ofV v dev ∧ ofV v dev ≤ 281474976710655:=by
 induction v with
 | nil=>simp [ofV]
 | cons d r ih=>
  simp only [ofV]
  split
  ·rename_i h;have:=goodD_iff.1 h.2;omega
  ·exact ih
theorem ofV_pos {v:List TDot} {dev:Int}:0 < ofV v dev ↔ ∃ d ∈ v,d.dev = dev ∧ goodD d = true:=by
 induction v with
 | nil=>simp [ofV]
 | cons d r ih=>
  simp only [ofV,List.mem_cons,exists_eq_or_imp]
  split
  ·rename_i h
   have:=goodD_iff.1 h.2
   constructor
   ·intro _;exact .inl h
   ·intro _;omega
  ·rename_i h
   rw [ih]
   constructor
   ·exact .inr
   ·rintro (hh | hh)
    ·exact absurd hh h
    ·exact hh
def insI : List Int → Int → List Int
 | [],k=>[k]
 | a :: r,k=>if k < a then k :: a :: r else if k = a then a :: r else a :: insI r k
theorem mem_insI {l:List Int} {k q:Int}:q ∈ insI l k ↔ q = k ∨ q ∈ l:=by
 induction l with
 | nil=>simp [insI]
 | cons a r ih=>
  unfold insI
  split
  ·simp
  ·split
   ·rename_i h;subst h;simp
   ·simp only [List.mem_cons,ih];constructor
    ·rintro (h | h | h) <;> simp [h]
    ·rintro (h | h | h) <;> simp [h]
theorem insI_sorted {l:List Int} (h:l.Pairwise (· < ·)) (k:Int):(insI l k).Pairwise (· < ·):=by
 induction l with
 | nil=>simp [insI]
 | cons a r ih=>
  obtain ⟨h1,h2⟩:=List.pairwise_cons.1 h;unfold insI
  split
  ·rename_i hk
   refine List.pairwise_cons.2 ⟨fun x hx=>?_,h⟩;rcases List.mem_cons.1 hx with rfl | hx
   ·exact hk
   ·have:=h1 x hx;omega
  ·split
   ·exact h
   ·refine List.pairwise_cons.2 ⟨fun x hx=>?_,ih h2⟩;rcases mem_insI.1 hx with rfl | hx
    ·omega
    ·exact h1 x hx
theorem len_insI (l : List Int) (k : Int) : (insI l k).length ≤ l.length + 1 := by
  induction l with
  | nil => simp [insI]
  | cons a r ih => unfold insI; split <;> try split
                   all_goals simp_all
def devStep (l:List Int) (d:TDot):List Int:=if goodD d then insI l d.dev else l
def devsL (v:List TDot):List Int:=v.foldl devStep []
theorem devs_gen (v:List TDot):∀ l:List Int,l.Pairwise (· < ·) → (v.foldl devStep l).Pairwise (· < ·) ∧ (∀ k,k ∈ v.foldl devStep l ↔ k ∈ l ∨ ∃ d ∈ v,d.dev = k ∧ goodD d = true) ∧ (v.foldl devStep l).length ≤ l.length + v.length:=by
 induction v with
 | nil=>intro l h;simp [h]
 | cons d r ih=>
  intro l h;simp only [List.foldl_cons];unfold devStep
  split
  ·rename_i hg
   obtain ⟨h1,h2,h3⟩:=ih _ (insI_sorted h d.dev);refine ⟨h1,fun k=>?_,?_⟩
   ·have:=h2 k;unfold devStep at this;rw [this,mem_insI]
    constructor
    ·rintro ((rfl | h) | ⟨e,he,h⟩)
     ·exact .inr ⟨d,by simp,rfl,hg⟩
     ·exact .inl h
     ·exact .inr ⟨e,by simp [he],h⟩
    ·rintro (h | ⟨e,he,h⟩)
     ·exact .inl (.inr h)
     ·rcases List.mem_cons.1 he with rfl | he
      ·exact .inl (.inl h.1.symm)
      ·exact .inr ⟨e,he,h⟩
   ·have:=len_insI l d.dev;simp only [List.length_cons];unfold devStep at h3;omega
  ·rename_i hg
   obtain ⟨h1,h2,h3⟩:=ih _ h;refine ⟨h1,fun k=>?_,?_⟩
   ·have:=h2 k;unfold devStep at this;rw [this]
    constructor
    ·rintro (h | ⟨e,he,h⟩)
     ·exact .inl h
     ·exact .inr ⟨e,by simp [he],h⟩
    ·rintro (h | ⟨e,he,h⟩)
     ·exact .inl h
     ·rcases List.mem_cons.1 he with rfl | he
      ·exact absurd h.2 hg
      ·exact .inr ⟨e,he,h⟩
   ·simp only [List.length_cons];unfold devStep at h3;omega
theorem devs_sorted (v:List TDot):(devsL v).Pairwise (· < ·):=(devs_gen v [] List.Pairwise.nil).1
theorem mem_devs {v:List TDot} {k:Int}:k ∈ devsL v ↔ 0 < ofV v k:=by rw [ofV_pos];simpa [devsL] using (devs_gen v [] List.Pairwise.nil).2.1 k
theorem len_devs (v:List TDot):(devsL v).length ≤ v.length:=by simpa [devsL] using (devs_gen v [] List.Pairwise.nil).2.2
def toldStep (m:List (Int × Int)) (d:TDot):List (Int × Int):=if goodD d then AL.set m d.dev (max (AL.getZ m d.dev 0) d.n) else m
def toldM (v:List TDot):List (Int × Int):=v.foldl toldStep []
theorem told_gen (v:List TDot):∀ m:List (Int × Int),(m.map (·.1)).Nodup → ((v.foldl toldStep m).map (·.1)).Nodup ∧ ((∀ k,0 ≤ AL.getZ m k 0) → ∀ k,AL.getZ (v.foldl toldStep m) k 0 = max (AL.getZ m k 0) (ofV v k)) ∧ (v.foldl toldStep m).length ≤ m.length + v.length ∧ (∀ k,k ∈ (v.foldl toldStep m).map (·.1) → k ∈ m.map (·.1) ∨ 0 < ofV v k):=by
 induction v with
 | nil=>
  intro m h;refine ⟨h,fun h0 k=>?_,by simp,fun k hk=>.inl hk⟩;have:=h0 k;simp only [List.foldl_nil,ofV];omega
 | cons d r ih=>
  intro m h;simp only [List.foldl_cons]
  by_cases hg:goodD d = true
  ·have hd:=goodD_iff.1 hg;have e:toldStep m d = AL.set m d.dev (max (AL.getZ m d.dev 0) d.n):=by simp [toldStep,hg]
   rw [e];obtain ⟨h1,h2,h3,h4⟩:=ih _ (AL.nodup_set h d.dev (max (AL.getZ m d.dev 0) d.n));refine ⟨h1,fun h0 k=>?_,?_,fun k hk=>?_⟩
   ·rw [h2 (fun q=>by rw [AL.getZ_set];have:=h0 q;have:=h0 d.dev;split <;> omega),AL.getZ_set];simp only [ofV]
    by_cases hk:d.dev = k
    ·subst hk;simp only [if_true,hg,and_self];omega
    ·simp [hk]
   ·have:=AL.len_set m d.dev (max (AL.getZ m d.dev 0) d.n);simp only [List.length_cons];omega
   ·simp only [ofV];rcases h4 k hk with h5 | h5
    ·rw [AL.keys_set] at h5
     split at h5
     ·exact .inl h5
     ·rcases List.mem_append.1 h5 with h5 | h5
      ·exact .inl h5
      ·right
       rw [List.mem_singleton.1 h5,if_pos ⟨rfl,hg⟩];omega
    ·right;split <;> omega
  ·have e:toldStep m d = m:=by simp [toldStep,hg]
   rw [e];obtain ⟨h1,h2,h3,h4⟩:=ih m h;have e2:∀ k,ofV (d :: r) k = ofV r k:=fun k=>by simp only [ofV];rw [if_neg (fun hh=>hg hh.2)]
   exact ⟨h1,fun h0 k=>by rw [h2 h0,e2],by simp only [List.length_cons];omega,fun k hk=>by rw [e2];exact h4 k hk⟩
theorem told_nodup (v:List TDot):((toldM v).map (·.1)).Nodup:=(told_gen v [] (by simp)).1
theorem told_get (v:List TDot) (k:Int):AL.getZ (toldM v) k 0 = ofV v k:=by
 have:=(told_gen v [] (by simp)).2.1 (fun _=>Int.le_refl _) k;have h2:=ofV_range v k;rw [toldM,this];show max 0 (ofV v k) = _;omega
theorem told_len (v:List TDot):(toldM v).length ≤ v.length:=by simpa [toldM] using (told_gen v [] (by simp)).2.2.1
theorem told_mem {v:List TDot} {k n:Int} (h:(k,n) ∈ toldM v):n = ofV v k ∧ 0 < n:=by
 have h1:=AL.mem_get (told_nodup v) h;have h2:AL.getZ (toldM v) k 0 = n:=by simp [AL.getZ,h1]
 rw [told_get] at h2;have h3:=(told_gen v [] (by simp)).2.2.2 k (List.mem_map.2 ⟨_,h,rfl⟩);simp at h3;omega
def updM (h:Int × Int → Int) (m:List (Int × Int)) (L:List Nat):List (Int × Int):=m.zipIdx.map fun y=>if y.2 ∈ L then (y.1.1,h y.1) else y.1
theorem updM_get {h:Int × Int → Int} {m:List (Int × Int)} {L:List Nat} {i:Nat}:(updM h m L)[i]? = (m[i]?).map fun e=>if i ∈ L then (e.1,h e) else e:=by
 unfold updM;rw [List.getElem?_map,List.getElem?_zipIdx]
 cases m[i]? <;> simp
theorem updM_len {h:Int × Int → Int} {m:List (Int × Int)} {L:List Nat}:(updM h m L).length = m.length:=by simp [updM]
theorem set_at {m:List (Int × Int)} (hn:(m.map (·.1)).Nodup) {i:Nat} {e:Int × Int} (hi:m[i]? = some e) (v:Int):AL.set m e.1 v = m.set i (e.1,v):=by
 induction m generalizing i with
 | nil=>simp at hi
 | cons x r ih=>
  obtain ⟨a,u⟩:=x;simp only [List.map_cons,List.nodup_cons] at hn
  cases i with
  | zero=>simp at hi;subst hi;simp [AL.set]
  | succ i=>
   simp only [List.getElem?_cons_succ] at hi;have:a ≠ e.1:=fun he=>hn.1 (he ▸ List.mem_map.2 ⟨e,List.mem_of_getElem? hi,rfl⟩)
   simp only [AL.set,this,if_false,List.set_cons_succ];rw [ih hn.2 hi]
theorem updM_keys {h:Int × Int → Int} {m:List (Int × Int)} {L:List Nat}:(updM h m L).map (·.1) = m.map (·.1):=by
 apply List.ext_getElem?;intro i;rw [List.getElem?_map,updM_get,List.getElem?_map]
 cases m[i]? with
 | none=>rfl
 | some e=>simp only [Option.map_some];split <;> rfl
theorem updM_snoc {h:Int × Int → Int} {m:List (Int × Int)} (hn:(m.map (·.1)).Nodup) {L:List Nat} {i:Nat} {e:Int × Int} (hi:m[i]? = some e) (hL:i ∉ L):AL.set (updM h m L) e.1 (h e) = updM h m (L ++ [i]):=by
 have h1:(updM h m L)[i]? = some e:=by rw [updM_get,hi];simp [hL]
 rw [set_at (by rw [updM_keys];exact hn) h1];apply List.ext_getElem?;intro j;rw [List.getElem?_set,updM_len,updM_get,updM_get]
 by_cases hj:i = j
 ·subst hj;have:=(List.getElem?_eq_some_iff.1 hi).1;rw [if_pos rfl,if_pos this,hi];simp
 ·rw [if_neg hj];have:j ∈ L ++ [i] ↔ j ∈ L:=by simp;exact fun e=>absurd e.symm hj
  simp only [this]
theorem updM_all {h:Int × Int → Int} {m:List (Int × Int)} {L:List Nat} (hL:∀ i,i < m.length → i ∈ L):updM h m L = m.map fun e=>(e.1,h e):=by
 apply List.ext_getElem?;intro i;rw [updM_get,List.getElem?_map]
 cases hm:m[i]? with
 | none=>rfl
 | some e=>simp [hL i (List.getElem?_eq_some_iff.1 hm).1]
theorem told_at {v:List TDot} {k:Int} (h:0 < ofV v k):(k,ofV v k) ∈ toldM v:=by
 have h1:AL.getZ (toldM v) k 0 = ofV v k:=told_get v k;unfold AL.getZ at h1
 cases hg:AL.get (toldM v) k with
 | none=>rw [hg] at h1;simp at h1;omega
 | some n=>rw [hg] at h1;simp at h1;subst h1;exact AL.get_mem hg

def cmpD (a b:TDot):Int:=if a = b then 0 else if ltDot a b then -1 else 1
theorem r07_Cmp_eq (a b:TDot):r07_Cmp a b = pure (cmpD a b):=by
 unfold r07_Cmp cmpD;have h1:(decide (a.dev = b.dev) && decide (a.n = b.n)) = decide (a = b):=by
  rw [Bool.eq_iff_iff];cases a;cases b;simp
 have h2:(cond (decide (a.dev < b.dev)) (pure true) (cond (decide (a.dev = b.dev)) (pure (decide (a.n < b.n))) (pure false)):M Bool) = pure (ltDot a b):=by
  rw [cond_pure_and,cond_pure_or];rfl
 rw [h1,h2,cond_dec,pure_bind]
 split
 ·rfl
 ·cases ltDot a b <;> rfl
theorem cmpD_neg {a b:TDot}:cmpD a b < 0 ↔ ltDot a b = true:=by
 unfold cmpD
 split
 ·rename_i h;subst h;simp [ltDot]
 ·split <;> simp_all
theorem cmpD_pos {a b:TDot}:0 < cmpD a b ↔ ltDot b a = true:=by
 unfold cmpD
 by_cases h:a = b
 ·subst h;simp [ltDot]
 ·rw [if_neg h]
  cases a;cases b
  simp only [TDot.mk.injEq] at h;simp only [ltDot,Bool.or_eq_true,Bool.and_eq_true,decide_eq_true_eq]
  split <;> omega
theorem r07_Put_eq (l:List TDot) (d:TDot) (h:l.length ≤ 1000000000000):r07_Put l d = pure ((l.filter fun x=>ltDot x d) ++ [d] ++ (l.filter fun x=>ltDot d x)):=by
 unfold r07_Put;have c0:∀ o:List TDot,o.length ≤ 1000000000000 → True:=fun _ _=>trivial
 have h1:=loopL (body:=r07_Put_l0 l d) l (fun i (o:List TDot)=>((i:Int),o)) (fun o x=>if ltDot x d then o ++ [x] else o) (fun o=>pure o) (fun i o=>o.length ≤ i) (fun i x o hx hi ho=>by
  have h1:decide ((i:Int) < (l.length:Int)) = true:=by simpa using hi
  unfold r07_Put_l0;simp only [h1,cond_true,idx_nat hx,pure_bind,r07_Cmp_eq,det_pure,wSucc (show i < 9223372036854775807 by omega),cond_dec,cmpD_neg]
  split
  ·rw [need_true (by simp;omega)];exact ⟨rfl,by simp;omega⟩
  ·exact ⟨rfl,by omega⟩) (fun o _=>by unfold r07_Put_l0;simp [pure_bind]) [] (by simp)
 have h2:∀ o0:List TDot,o0.length ≤ 1000000000001 → loop (r07_Put_l1 l d) (0,o0) = pure (l.foldl (fun o x=>if ltDot d x then o ++ [x] else o) o0):=fun o0 ho0=>by
  have:=loopL (body:=r07_Put_l1 l d) l (fun i (o:List TDot)=>((i:Int),o)) (fun o x=>if ltDot d x then o ++ [x] else o) (fun o=>pure o) (fun i o=>o.length ≤ o0.length + i) (fun i x o hx hi ho=>by
   have h1:decide ((i:Int) < (l.length:Int)) = true:=by simpa using hi
   unfold r07_Put_l1;simp only [h1,cond_true,idx_nat hx,pure_bind,r07_Cmp_eq,det_pure,wSucc (show i < 9223372036854775807 by omega),cond_dec,cmpD_pos]
   split
   ·rw [need_true (by simp;omega)];exact ⟨rfl,by simp;omega⟩
   ·exact ⟨rfl,by omega⟩) (fun o _=>by unfold r07_Put_l1;simp [pure_bind]) o0 (by simp)
  exact this
 have hf:∀ (p:TDot → Bool) (l o:List TDot),l.foldl (fun o x=>if p x then o ++ [x] else o) o = o ++ l.filter p:=by
  intro p l
  induction l with
  | nil=>simp
  | cons x r ih=>
   intro o;rw [List.foldl_cons,ih,List.filter_cons]
   split <;> simp
 rw [show ((0:Int),([]:List TDot)) = (((0:Nat):Int),[]) from rfl,h1,hf,pure_bind,need_true,h2,hf,pure_bind]
 ·rfl
 ·have:=List.length_filter_le (fun x=>ltDot x d) l;simp;omega
 ·have:=List.length_filter_le (fun x=>ltDot x d) l;simp;omega
def ones (l:List Int):List TDot:=l.map fun k=>⟨k,1⟩
theorem put_ones {l:List Int} (h:l.Pairwise (· < ·)) (k:Int):((ones l).filter fun x=>ltDot x ⟨k,1⟩) ++ [⟨k,1⟩] ++ ((ones l).filter fun x=>ltDot ⟨k,1⟩ x) = ones (insI l k):=by
 induction l with
 | nil=>rfl
 | cons a r ih=>
  obtain ⟨h1,h2⟩:=List.pairwise_cons.1 h;have i2:=ih h2;unfold insI
  by_cases c1:k < a
  ·rw [if_pos c1];have e1:(ones (a :: r)).filter (fun x=>ltDot x ⟨k,1⟩) = []:=by
    rw [List.filter_eq_nil_iff];intro x hx;simp only [ones,List.map_cons,List.mem_cons,List.mem_map] at hx;rcases hx with rfl | ⟨b,hb,rfl⟩
    ·simp [ltDot];omega
    ·have:=h1 b hb;simp [ltDot];omega
   have e2:(ones (a :: r)).filter (fun x=>ltDot ⟨k,1⟩ x) = ones (a :: r):=by
    rw [List.filter_eq_self];intro x hx;simp only [ones,List.map_cons,List.mem_cons,List.mem_map] at hx;rcases hx with rfl | ⟨b,hb,rfl⟩
    ·simp [ltDot];omega
    ·have:=h1 b hb;simp [ltDot];omega
   rw [e1,e2];rfl
  ·rw [if_neg c1]
   by_cases c2:k = a
   ·subst c2;rw [if_pos rfl];have e1:(ones (k :: r)).filter (fun x=>ltDot x ⟨k,1⟩) = []:=by
     rw [List.filter_eq_nil_iff];intro x hx;simp only [ones,List.map_cons,List.mem_cons,List.mem_map] at hx;rcases hx with rfl | ⟨b,hb,rfl⟩
     ·simp [ltDot]
     ·have:=h1 b hb;simp [ltDot];omega
    have e2:(ones (k :: r)).filter (fun x=>ltDot ⟨k,1⟩ x) = ones r:=by
     show List.filter _ (⟨k,1⟩ :: ones r) = _;rw [List.filter_cons,if_neg (by simp [ltDot]),List.filter_eq_self];intro x hx;simp only [ones,List.mem_map] at hx;obtain ⟨b,hb,rfl⟩:=hx;have:=h1 b hb;simp [ltDot];omega
    rw [e1,e2];rfl
   ·rw [if_neg c2];show (List.filter _ (⟨a,1⟩ :: ones r)) ++ _ ++ (List.filter _ (⟨a,1⟩ :: ones r)) = ⟨a,1⟩ :: ones (insI r k);rw [List.filter_cons,if_pos (by simp [ltDot];omega),List.filter_cons,if_neg (by simp [ltDot];omega),← i2]
    rfl
end Go.Ep.M.V


/- Texts that the walks and laws lean on, side by side. -/
import Derived.Test.YthmblgneimcgpaaGreatABe2
import Derived.Test.YthmblgneimcgpaaGreatABe3
import Derived.Test.YthmblgneimcgpaaGreatABe4
import Derived.Test.YthmblgneimcgpaaGreatABe5
import Derived.Test.YthmblgneimcgpaaGreatABe6
import Derived.Test.YthmblgneimcgpaaGreatABe7
import Derived.Test.YthmblgneimcgpaaGreatABe8
set_option linter.unusedVariables false
set_option linter.unusedSimpArgs false
namespace Go.Proofs
open Go.Ep
set_option maxHeartbeats 1000000
set_option maxRecDepth 100000
set_option linter.unusedVariables false
set_option linter.unusedSimpArgs false


theorem ctx_Within_ok (a1:List TPart) (b2:List TPart) (r0:Bool) (h:(ctx_Within a1 b2).wp (· = r0)):PFun Tryz.prog 38 [.d (.sl (List.map TPart.e a1)),.d (.sl (List.map TPart.e b2))] (.d (.v (.bool r0))):=by
 refine fI (sl:=[(0,_),(1,_)]) Tryz.func38 rfl Tryz.ntmps38 rfl rfl ?_;intro ctx hK;refine wQ<|wR<|wa ?_;refine wN<|wQ<|wR<|wm ?_;refine wm ?_;replace h:=iDet h;obtain ⟨v3,hy4,h⟩:=h;refine wS (LR.rowN (ctx_Minus_ok a1 b2 v3 hy4) rfl Tryz.call58 rfl rfl rfl rfl) rfl<|wS (LR.lenRow Tryz.underlying24 rfl) rfl<|wS (eQ rfl rfl) rfl<|wa ?_;refine wN<|wX ?_;replace h:_ = r0:=h;subst h;exact ⟨.inr rfl,_,.cons (.tmp rfl rfl)<|.nil,rfl⟩

theorem ack_Matrix_Copy_o_ok (nl1:Bool) (m2:List ((Int × Int) × List TRun)) {Q:Bool × (List ((Int × Int) × List TRun)) → Prop} (h:(ack_Matrix_Copy_o nl1 m2).wp Q):PObj Tryz.prog 12 [.ref 100 0] [(100,.cells 61 [.mp 101]),(101,.mapH nl1 [.u16,.u16] false (encM kP (eL TRun.e) m2))] [100,101] (.ref 8 0) (fun gh:{y:Bool × (List ((Int × Int) × List TRun)) // Q y}=>[(100,.cells 61 [.mp 101]),(101,.mapH nl1 [.u16,.u16] false (encM kP (eL TRun.e) m2)),(8,.cells 61 [.mp 20161]),(20161,.mapH gh.1.1 [.u16,.u16] false (encM kP (eL TRun.e) gh.1.2))]):=by
 refine PObj.intro (sl:=[(0,_)]) Tryz.func12 rfl Tryz.ntmps12 rfl rfl rfl ?_;intro ctx hK pv;refine wQ<|wR<|wa ?_;refine wN<|wQ<|wQ<|wR<|wm ?_;refine wS (LR.eqlPtr Tryz.underlying28 rfl) rfl<|wN<|PWc.condF rfl<|wK<|wQ<|wR ?_;replace h:=iDet h;obtain ⟨y3,hy4,h⟩:=h;refine wS (LR.callObj [(2,8),(30040,20161)] [] [2,30040] (ack_New_o_ok y3 hy4) hK rfl Tryz.call10 rfl (by first | rfl | (simp;done) | (simp [PV.nilD,PV.ren,rn] <;> omega)) (.nil) rfl rfl rfl rfl) rfl ?_;refine wa ?_;refine wN<|wQ<|wQ<|wz (tl:=[(0,_),(3,_)]) (to:=[(8,_),(100,_),(101,_),(1100,_),(1101,_),(20161,_)]) ?_;refine wR<|wm ?_;refine wS (LR.nilCheckRef rfl) rfl<|wS (fR Tryz.underlying61 rfl Tryz.sizeOf59 (by decide) rfl rfl) rfl<|wS (lD Tryz.isAgg59 rfl rfl rfl) rfl ?_;refine PWl.openH (id:=101) rfl (fun bs5 ck5=>?_);refine wS (LR.rangeN Tryz.underlying59 rfl rfl rfl) rfl<|wN ?_;refine wJ (iBind h) (fun (⟨nl6,v7⟩:Bool × (List ((Int × Int) × List TRun))) (_:Unit)=>⟨28,[(3,.ref 8 0)],[(8,.cells 61 [.mp 20161]),(100,.cells 61 [.mp 101]),(101,.mapN nl1 [.u16,.u16] false (encM kP (eL TRun.e) m2) bs5 ck5),(1100,.pin 100 (pv 100)),(1101,.pin 101 (pv 101)),(20161,.mapH nl6 [.u16,.u16] false (encM kP (eL TRun.e) v7))]⟩) (fun h=>?_) ?_
 ·refine wB<|wM (fun (⟨seen37,nl38,v39⟩:List Nat × Bool × (List ((Int × Int) × List TRun))) (_:Unit)=>⟨28,[(3,.ref 8 0),(13,.ref 13 0)],[(8,.cells 61 [.mp 20161]),(13,.iterO 101 bs5 ck5 seen37),(100,.cells 61 [.mp 101]),(101,.mapN nl1 [.u16,.u16] false (encM kP (eL TRun.e) m2) bs5 ck5),(1100,.pin 100 (pv 100)),(1101,.pin 101 (pv 101)),(20161,.mapH nl38 [.u16,.u16] false (encM kP (eL TRun.e) v39))]⟩) () h (sP) ?_;rintro N ⟨seen37,nl38,v39⟩ _ h;refine wQ<|wR ?_;replace h:=iNeed h;obtain ⟨hy52,h⟩:=h;replace h:=iNxt h;refine PWl.nextN rfl rfl rfl (nxtD hy52) rfl (fun hy41=>?_) (fun j40 hy42 hy43=>?_)
  ·replace h:=h.1 (nxtA hy41);refine wS (LR.extract rfl rfl) rfl<|wN<|wQ<|PWc.condF rfl<|wZ ?_;exact ⟨(nl38,v39),(),h,sP⟩
  ·replace h:=h.2 j40 (nxtB hy42) hy43;refine wS (LR.extract rfl rfl) rfl<|wN<|wQ<|PWc.condT rfl<|wK<|wB<|wQ<|wR ?_;replace h:=iIdx h;obtain ⟨kv44,hy45,h⟩:=h;refine wS (LR.entryN rfl rfl rfl (entGet hy45) rfl rfl) rfl<|wS (LR.extract rfl rfl) rfl<|wS (LR.extract rfl rfl) rfl<|wS (LR.allocZ (cs:=[_,_]) Tryz.zeroValue68 rfl rfl rfl rfl) rfl<|wS (sB (ns:=[_,_]) Tryz.sizeOf68 rfl rfl rfl rfl rfl rfl rfl) rfl<|wa ?_;refine wN<|wz (tl:=[(3,_),(4,_),(5,_),(13,_)]) (to:=[(4,_),(8,_),(13,_),(100,_),(101,_),(1100,_),(1101,_),(20161,_)]) ?_;refine PWc.regionE [⟨[19],[],[],[],[],[8],[],[]⟩,⟨[20],[],[],[],[],[4],[],[]⟩,⟨[21],[],[4],[],[],[],[],[]⟩,⟨[22],[],[],[],[],[4],[],[]⟩,⟨[23],[],[4],[],[],[],[],[]⟩,{ws:=[24]},{ws:=[25]},⟨[26],[20161],[8,20161],[],[(20161,[])],[],[],[8,20161]⟩] (by kernel_rfl) (by kernel_rfl) rfl ?_;refine PQe.stepP (fun _ he ho=>mV (he rfl rfl)) (.inl rfl) rfl ?_;refine PQe.stepP (fun _ he ho=>LR.idxArrK (j:=0) Tryz.underlying68 rfl Tryz.sizeOf31 (he rfl rfl) (he rfl rfl) rfl rfl) (.inl rfl) rfl ?_;refine PQe.stepP (fun _ he ho=>lD Tryz.isAgg31 (he rfl rfl) (ho rfl rfl) rfl) (.inl rfl) rfl ?_;refine PQe.stepP (fun _ he ho=>LR.idxArrK (j:=1) Tryz.underlying68 rfl Tryz.sizeOf31 (he rfl rfl) (he rfl rfl) rfl rfl) (.inl rfl) rfl ?_;refine PQe.stepP (fun _ he ho=>lD Tryz.isAgg31 (he rfl rfl) (ho rfl rfl) rfl) (.inl rfl) rfl ?_;refine PQe.stepP (fun _ he ho=>mV (he rfl rfl)) (.inl rfl) rfl ?_;replace h:=iDet h;obtain ⟨v48,hy49,h⟩:=h;refine PQe.stepP (fun _ he ho=>cN (PRow.fun (slices_Clone_sl_Run_Run_ok kv44.2 v48 hy49)) (he rfl rfl) Tryz.call33 (evsE he rfl rfl) rfl rfl rfl) (.inl rfl) rfl ?_;replace h:=iDet h;obtain ⟨y50,hy51,h⟩:=h;refine PQe.callObjS [(100,8),(101,20161)] [] [100,101] [(101,.mapH y50.1 [.u16,.u16] false (encM kP (eL TRun.e) y50.2))] [(100,.cells 61 [.mp 101])] (ack_Matrix_put_o_ok kv44.1.1 kv44.1.2 v48 nl38 v39 y50 hy51) hK (fun _ he=>⟨he rfl rfl,evsE he rfl rfl⟩) Tryz.call32 (by first | rfl | (simp;done) | (simp [PV.nilD,PV.ren,rn] <;> omega)) (by repeat' first | constructor | (congr 1;first | (simp;done) | (simp;omega) | omega)) (.cons rfl<|.nil) (.cons rfl<|.nil) (.cons (by first | rfl | (congr 1;first | (simp;done) | (simp;omega) | omega))<|.nil) rfl rfl rfl rfl rfl rfl (.inl rfl) rfl ?_;refine PQe.nil ?_;exact ⟨((seen37 ++ [j40]),y50.1,y50.2),(),h,sP⟩
 ·rintro ⟨nl6,v7⟩ _ h;refine wQ<|wR<|wm ?_;refine wa ?_;refine wN<|wX ?_;exact EndsO.mk ⟨(nl6,v7),h⟩ (.inr rfl) (Sub.trans (Sub.nToH (id:=101) rfl)<|sP (tl:=[(2,_)]) (to:=[(100,_),(101,_),(8,_),(20161,_),(1100,_),(1101,_)])) (.cons (.tmp rfl)<|.nil) rfl rfl

theorem ack_Matrix_Leave_o_ok (who1:Int) (nl2:Bool) (m3:List ((Int × Int) × List TRun)) (r0:Bool × Bool × (List ((Int × Int) × List TRun))) (h:(ack_Matrix_Leave_o who1 nl2 m3).wp (· = r0)):PObj Tryz.prog 14 [.ref 100 0,.d (.v (.int .u16 who1))] [(100,.cells 61 [.mp 101]),(101,.mapH nl2 [.u16,.u16] false (encM kP (eL TRun.e) m3))] [100,101] (.d (.v (.bool r0.1))) (fun _:Unit=>[(100,.cells 61 [.mp 101]),(101,.mapH r0.2.1 [.u16,.u16] false (encM kP (eL TRun.e) r0.2.2))]):=by
 refine PObj.intro (sl:=[(0,_),(1,_)]) Tryz.func14 rfl Tryz.ntmps14 rfl rfl rfl ?_;intro ctx hK pv;refine wQ<|wR<|wa ?_;refine wN<|wQ<|wQ<|wR<|wm ?_;refine wm ?_;replace h:=iDet h;obtain ⟨y4,hy5,h⟩:=h;refine wS (LR.callObjS [(100,100),(101,101)] [] [100,101] [] [(100,.cells 61 [.mp 101]),(101,.mapH nl2 [.u16,.u16] false (encM kP (eL TRun.e) m3))] (ack_Matrix_is_o_ok who1 nl2 m3 y4 hy5) hK rfl Tryz.call34 rfl (by first | rfl | (simp;done) | (simp [PV.nilD,PV.ren,rn] <;> omega)) (by repeat' first | constructor | (congr 1;first | (simp;done) | (simp;omega) | omega)) (.nil) (.cons rfl<|.cons rfl<|.nil) (by repeat' first | constructor | (congr 1;first | (simp;done) | (simp;omega) | omega)) rfl rfl rfl rfl rfl rfl) rfl ?_;refine wS (LR.not rfl) rfl<|wN ?_;refine wC rfl (fun hc6=>?_) (fun hc6=>?_)
 ·replace h:=iT hc6 h;refine wQ<|wz (tl:=[]) (to:=[(100,_),(101,_),(1100,_),(1101,_)]) ?_;refine wR<|wa ?_;refine wN<|wX ?_;replace h:_ = r0:=h;subst h;exact EndsO.mk () (.inr rfl) (sP (tl:=[(4,_)]) (to:=[(100,_),(101,_),(1100,_),(1101,_)])) (.cons (.tmp rfl)<|.nil) rfl rfl
 ·replace h:=iF hc6 h;refine wK<|wQ<|wQ<|wz (tl:=[(0,_),(1,_)]) (to:=[(100,_),(101,_),(1100,_),(1101,_)]) ?_;refine wR<|wm ?_;refine wm ?_;replace h:=iDet h;obtain ⟨y7,hy8,h⟩:=h;refine wS (LR.callObjS [(100,100),(101,101)] [] [100,101] [] [(100,.cells 61 [.mp 101]),(101,.mapH nl2 [.u16,.u16] false (encM kP (eL TRun.e) m3))] (ack_Matrix_Row_o_ok who1 nl2 m3 y7 hy8) hK rfl Tryz.call18 rfl (by first | rfl | (simp;done) | (simp [PV.nilD,PV.ren,rn] <;> omega)) (by repeat' first | constructor | (congr 1;first | (simp;done) | (simp;omega) | omega)) (.nil) (.cons rfl<|.cons rfl<|.nil) (by repeat' first | constructor | (congr 1;first | (simp;done) | (simp;omega) | omega)) rfl rfl rfl rfl rfl rfl) rfl ?_;refine wS (lM (enc:=TPart.e) (L:=y7) Tryz.underlying24 rfl) rfl<|wm ?_;refine wN ?_;refine wJ (iBind h) (fun (v9:List ((Int × Int) × List TRun)) (_:Unit)=>⟨34,[(0,.ref 100 0),(1,.d (.v (.int .u16 who1)))],[(100,.cells 61 [.mp 101]),(101,.mapH nl2 [.u16,.u16] false (encM kP (eL TRun.e) v9)),(1100,.pin 100 (pv 100)),(1101,.pin 101 (pv 101))]⟩) (fun h=>?_) ?_
  ·refine wB<|wM (fun (⟨v18,v19⟩:Int × (List ((Int × Int) × List TRun))) (_:Unit)=>⟨34,[(0,.ref 100 0),(1,.d (.v (.int .u16 who1))),(13,.d (.sl (List.map TPart.e y7))),(14,.d (.v (.int .i64 (List.length y7:Int)))),(15,.d (.v (.int .i64 v18)))],[(100,.cells 61 [.mp 101]),(101,.mapH nl2 [.u16,.u16] false (encM kP (eL TRun.e) v19)),(1100,.pin 100 (pv 100)),(1101,.pin 101 (pv 101))]⟩) () h (sP) ?_;rintro N ⟨v18,v19⟩ _ h;refine wQ<|wR<|wS (LR.lss rfl rfl) rfl<|wN<|wQ ?_;refine wC rfl (fun hc20=>?_) (fun hc20=>?_)
   ·replace h:=iT hc20 h;refine wK<|wQ<|wB<|wQ<|wR ?_;replace h:=iIdx h;obtain ⟨x21,hy22,h⟩:=h;refine wS (iX (enc:=TPart.e) (L:=y7) (y:=x21) Tryz.underlying24 Tryz.sizeOf65 rfl rfl hy22 (fun _=>rfl)) rfl<|wS (lE (ys:=[_,_]) Tryz.isAgg65 Tryz.sizeOf65 rfl rfl rfl) rfl<|wS (LR.allocZ (cs:=[_,_]) Tryz.zeroValue65 rfl rfl rfl rfl) rfl<|wS (sB (ns:=[_,_]) Tryz.sizeOf65 rfl rfl rfl rfl rfl rfl rfl) rfl<|wN<|wz (tl:=[(0,_),(1,_),(6,_),(13,_),(14,_),(15,_)]) (to:=[(6,_),(100,_),(101,_),(1100,_),(1101,_)]) ?_;refine PWc.regionE [⟨[19],[],[],[],[],[100],[],[]⟩,⟨[20],[],[],[],[],[100],[],[]⟩,⟨[21],[],[],[],[],[100],[],[]⟩,⟨[22],[],[100],[],[],[101],[],[]⟩,{ws:=[23]},⟨[24],[],[],[],[],[6],[],[]⟩,⟨[25],[],[6],[],[],[],[],[]⟩,{ws:=[26]},⟨[],[101],[101],[],[],[],[],[]⟩] (by kernel_rfl) (by kernel_rfl) rfl ?_;refine PQe.stepP (fun _ he ho=>mV (he rfl rfl)) (.inl rfl) rfl ?_;refine PQe.stepP (fun _ he ho=>LR.nilCheckRef (he rfl rfl)) (.inl rfl) rfl ?_;refine PQe.stepP (fun _ he ho=>fR Tryz.underlying61 rfl Tryz.sizeOf59 (by decide) rfl (he rfl rfl)) (.inl rfl) rfl ?_;refine PQe.stepP (fun _ he ho=>lD Tryz.isAgg59 (he rfl rfl) (ho rfl rfl) rfl) (.inl rfl) rfl ?_;refine PQe.stepP (fun _ he ho=>mV (he rfl rfl)) (.inl rfl) rfl ?_;refine PQe.stepP (fun _ he ho=>fR Tryz.underlying65 rfl Tryz.sizeOf31 (by decide) rfl (he rfl rfl)) (.inl rfl) rfl ?_;refine PQe.stepP (fun _ he ho=>lD Tryz.isAgg31 (he rfl rfl) (ho rfl rfl) rfl) (.inl rfl) rfl ?_;refine PQe.stepP (fun _ he ho=>LR.build (ns:=[_,_]) build68 rfl (evpE he rfl rfl) rfl) (.inl rfl) rfl ?_;refine PQe.stepSD (fun _ he ho=>LR.delH (eV:=(eL TRun.e)) (q:=(who1,x21.dev)) (m:=v19) kP_inj Tryz.underlying59 key59 (he rfl rfl) (ho rfl rfl) (he rfl rfl) rfl rfl rfl) (.inl rfl) rfl<|PQe.nil<|wR<|wS (LR.addW rfl rfl) rfl<|wm ?_;refine wN ?_;exact ⟨((IntKind.i64.wrap (v18 + 1)),(AL.del v19 (who1,x21.dev))),(),h,sP⟩
   ·replace h:=iF hc20 h;refine wZ ?_;exact ⟨v19,(),h,sP⟩
  ·rintro v9 _ h;refine wQ<|wR<|wm ?_;refine wS (LR.nilCheckRef rfl) rfl<|wS (fR Tryz.underlying61 rfl Tryz.sizeOf59 (by decide) rfl rfl) rfl<|wS (lD Tryz.isAgg59 rfl rfl rfl) rfl<|wm ?_;refine wS (LR.build (ns:=[_,_]) build68 rfl rfl rfl) rfl<|wS (LR.delH (eV:=(eL TRun.e)) (q:=(who1,0)) (m:=v9) kP_inj Tryz.underlying59 key59 rfl rfl rfl rfl rfl rfl) rfl<|wN<|wQ<|wR<|wa ?_;refine wN<|wX ?_;replace h:_ = r0:=h;subst h;exact EndsO.mk () (.inr rfl) (sP (tl:=[(4,_)]) (to:=[(100,_),(101,_),(1100,_),(1101,_)])) (.cons (.tmp rfl)<|.nil) rfl rfl

theorem ack_Below_o_ok (nl1:Bool) (m2:List ((Int × Int) × List TRun)) (nl3:Bool) (m4:List ((Int × Int) × List TRun)) (r0:Bool) (h:(ack_Below_o nl1 m2 nl3 m4).wp (· = r0)):PObj Tryz.prog 19 [.ref 100 0,.ref 101 0] [(100,.cells 61 [.mp 102]),(101,.cells 61 [.mp 103]),(102,.mapH nl1 [.u16,.u16] false (encM kP (eL TRun.e) m2)),(103,.mapH nl3 [.u16,.u16] false (encM kP (eL TRun.e) m4))] [100,101,102,103] (.d (.v (.bool r0))) (fun _:Unit=>[(100,.cells 61 [.mp 102]),(101,.cells 61 [.mp 103]),(102,.mapH nl1 [.u16,.u16] false (encM kP (eL TRun.e) m2)),(103,.mapH nl3 [.u16,.u16] false (encM kP (eL TRun.e) m4))]):=by
 refine PObj.intro (sl:=[(0,_),(1,_)]) Tryz.func19 rfl Tryz.ntmps19 rfl rfl rfl ?_;intro ctx hK pv;refine wQ<|wR<|wa ?_;refine wN<|wQ<|wQ<|wR<|wm ?_;replace h:=iDet h;obtain ⟨y5,hy6,h⟩:=h;refine wS (LR.callObjS [(100,100),(101,102)] [] [100,101] [] [(100,.cells 61 [.mp 101]),(101,.mapH nl1 [.u16,.u16] false (encM kP (eL TRun.e) m2))] (ack_Matrix_Members_o_ok nl1 m2 y5 hy6) hK rfl Tryz.call17 rfl (by first | rfl | (simp;done) | (simp [PV.nilD,PV.ren,rn] <;> omega)) (by repeat' first | constructor | (congr 1;first | (simp;done) | (simp;omega) | omega)) (.nil) (.cons rfl<|.cons rfl<|.nil) (by repeat' first | constructor | (congr 1;first | (simp;done) | (simp;omega) | omega)) rfl rfl rfl rfl rfl rfl) rfl ?_;refine wy (tl:=[(0,_),(1,_),(8,_)]) (to:=[(100,_),(101,_),(102,_),(103,_),(1100,_),(1101,_),(1102,_),(1103,_)]) ?_;refine wS (lM (enc:=(eK .u16)) (L:=y5) Tryz.underlying38 rfl) rfl<|wm ?_;refine wN ?_;refine PWc.jnX (iBind h) (fun (_:Unit) (_:Unit)=>⟨29,[],[(100,.cells 61 [.mp 102]),(101,.cells 61 [.mp 103]),(102,.mapH nl1 [.u16,.u16] false (encM kP (eL TRun.e) m2)),(103,.mapH nl3 [.u16,.u16] false (encM kP (eL TRun.e) m4)),(1100,.pin 100 (pv 100)),(1101,.pin 101 (pv 101)),(1102,.pin 102 (pv 102)),(1103,.pin 103 (pv 103))]⟩) (fun h=>?_) ?_
 ·refine wB<|wM (fun (v36:Int) (_:Unit)=>⟨29,[(0,.ref 100 0),(1,.ref 101 0),(8,.d (.sl (List.map (eK .u16) y5))),(9,.d (.v (.int .i64 (List.length y5:Int)))),(10,.d (.v (.int .i64 v36)))],[(100,.cells 61 [.mp 102]),(101,.cells 61 [.mp 103]),(102,.mapH nl1 [.u16,.u16] false (encM kP (eL TRun.e) m2)),(103,.mapH nl3 [.u16,.u16] false (encM kP (eL TRun.e) m4)),(1100,.pin 100 (pv 100)),(1101,.pin 101 (pv 101)),(1102,.pin 102 (pv 102)),(1103,.pin 103 (pv 103))]⟩) () h (sP) ?_;rintro N v36 _ h;refine wQ<|wR<|wS (LR.lss rfl rfl) rfl<|wN<|wQ ?_;refine wC rfl (fun hc37=>?_) (fun hc37=>?_)
  ·replace h:=iT hc37 h;refine wK<|wQ<|wB<|wQ<|wR ?_;replace h:=iIdx h;obtain ⟨x38,hy39,h⟩:=h;refine wS (iX (enc:=(eK .u16)) (L:=y5) (y:=x38) Tryz.underlying38 Tryz.sizeOf31 rfl rfl hy39 (fun _=>rfl)) rfl<|wS (LR.loadEp Tryz.isAgg31 rfl rfl) rfl<|wa ?_;refine wN<|wQ ?_;refine wJ (iBind h) (fun (v40:Bool) (_:Unit)=>⟨29,[(0,.ref 100 0),(1,.ref 101 0),(8,.d (.sl (List.map (eK .u16) y5))),(9,.d (.v (.int .i64 (List.length y5:Int)))),(10,.d (.v (.int .i64 v36))),(27,.d (.v (.bool v40)))],[(100,.cells 61 [.mp 102]),(101,.cells 61 [.mp 103]),(102,.mapH nl1 [.u16,.u16] false (encM kP (eL TRun.e) m2)),(103,.mapH nl3 [.u16,.u16] false (encM kP (eL TRun.e) m4)),(1100,.pin 100 (pv 100)),(1101,.pin 101 (pv 101)),(1102,.pin 102 (pv 102)),(1103,.pin 103 (pv 103))]⟩) (fun h=>?_) ?_
   ·refine wR<|wm ?_;refine wm ?_;replace h:=iDet h;obtain ⟨y41,hy42,h⟩:=h;refine wS (LR.callObjS [(100,101),(101,103)] [] [100,101] [] [(100,.cells 61 [.mp 101]),(101,.mapH nl3 [.u16,.u16] false (encM kP (eL TRun.e) m4))] (ack_Matrix_is_o_ok x38 nl3 m4 y41 hy42) hK rfl Tryz.call34 rfl (by first | rfl | (simp;done) | (simp [PV.nilD,PV.ren,rn] <;> omega)) (by repeat' first | constructor | (congr 1;first | (simp;done) | (simp;omega) | omega)) (.nil) (.cons rfl<|.cons rfl<|.nil) (by repeat' first | constructor | (congr 1;first | (simp;done) | (simp;omega) | omega)) rfl rfl rfl rfl rfl rfl) rfl ?_;refine wy (tl:=[(0,_),(1,_),(6,_),(8,_),(9,_),(10,_),(16,_)]) (to:=[(100,_),(101,_),(102,_),(103,_),(1100,_),(1101,_),(1102,_),(1103,_)]) ?_;refine wS (LR.not rfl) rfl<|wm ?_;refine wL (d:=18) rfl (fun hg43=>?_) (fun hg43=>?_)
    ·replace h:=iT hg43 h;refine wf<|wf<|wf<|wf<|wf<|wf<|wf<|wf<|wS (pT rfl rfl) rfl ?_;refine wN ?_;exact ⟨true,(),h,sP⟩
    ·replace h:=iF hg43 h;refine wT (mV rfl) rfl rfl rfl<|wT (mV rfl) rfl rfl rfl ?_;replace h:=iDet h;obtain ⟨y44,hy45,h⟩:=h;refine wT (LR.callObjS [(100,100),(101,102)] [] [100,101] [] [(100,.cells 61 [.mp 101]),(101,.mapH nl1 [.u16,.u16] false (encM kP (eL TRun.e) m2))] (ack_Matrix_Row_o_ok x38 nl1 m2 y44 hy45) hK rfl Tryz.call18 rfl (by first | rfl | (simp;done) | (simp [PV.nilD,PV.ren,rn] <;> omega)) (by repeat' first | constructor | (congr 1;first | (simp;done) | (simp;omega) | omega)) (.nil) (.cons rfl<|.cons rfl<|.nil) (by repeat' first | constructor | (congr 1;first | (simp;done) | (simp;omega) | omega)) rfl rfl rfl rfl rfl rfl) rfl rfl rfl ?_;refine wy (tl:=[(0,_),(1,_),(6,_),(8,_),(9,_),(10,_),(18,_),(19,_),(20,_),(21,_)]) (to:=[(100,_),(101,_),(102,_),(103,_),(1100,_),(1101,_),(1102,_),(1103,_)]) ?_;refine wT (mV rfl) rfl rfl rfl<|wT (mV rfl) rfl rfl rfl ?_;replace h:=iDet h;obtain ⟨y46,hy47,h⟩:=h;refine wT (LR.callObjS [(100,101),(101,103)] [] [100,101] [] [(100,.cells 61 [.mp 101]),(101,.mapH nl3 [.u16,.u16] false (encM kP (eL TRun.e) m4))] (ack_Matrix_Row_o_ok x38 nl3 m4 y46 hy47) hK rfl Tryz.call18 rfl (by first | rfl | (simp;done) | (simp [PV.nilD,PV.ren,rn] <;> omega)) (by repeat' first | constructor | (congr 1;first | (simp;done) | (simp;omega) | omega)) (.nil) (.cons rfl<|.cons rfl<|.nil) (by repeat' first | constructor | (congr 1;first | (simp;done) | (simp;omega) | omega)) rfl rfl rfl rfl rfl rfl) rfl rfl rfl ?_;refine wy (tl:=[(0,_),(1,_),(8,_),(9,_),(10,_),(18,_),(19,_),(20,_),(21,_),(22,_),(23,_),(24,_)]) (to:=[(100,_),(101,_),(102,_),(103,_),(1100,_),(1101,_),(1102,_),(1103,_)]) ?_;replace h:=iDet h;obtain ⟨v48,hy49,h⟩:=h;refine wT (cN (ctx_Within_ok y44 y46 v48 hy49) rfl Tryz.call38 rfl rfl rfl rfl) rfl rfl rfl<|wT (LR.not rfl) rfl rfl rfl<|wS (pF rfl rfl) rfl<|wN ?_;exact ⟨(!v48),(),h,sP⟩
   ·rintro v40 _ h;refine wC rfl (fun hc50=>?_) (fun hc50=>?_)
    ·replace h:=iT hc50 h;refine wQ<|wR<|wa ?_;refine wN<|wX ?_;replace h:_ = r0:=h;subst h;exact EndsO.mk () (.inr rfl) (sP (tl:=[(4,_)]) (to:=[(100,_),(101,_),(102,_),(103,_),(1100,_),(1101,_),(1102,_),(1103,_)])) (.cons (.tmp rfl)<|.nil) rfl rfl
    ·replace h:=iF hc50 h;refine wK<|wR<|wS (LR.addW rfl rfl) rfl<|wm ?_;refine wN ?_;exact ⟨(IntKind.i64.wrap (v36 + 1)),(),h,sP⟩
  ·replace h:=iF hc37 h;refine wZ ?_;exact ⟨(),(),h,sP⟩
 ·rintro _ _ h;refine wQ<|wR<|wa ?_;refine wN<|wX ?_;replace h:_ = r0:=h;subst h;exact EndsO.mk () (.inr rfl) (sP (tl:=[(4,_)]) (to:=[(100,_),(101,_),(102,_),(103,_),(1100,_),(1101,_),(1102,_),(1103,_)])) (.cons (.tmp rfl)<|.nil) rfl rfl

end Go.Proofs

namespace Go.Proofs
open Go.Ep
set_option maxHeartbeats 1000000
set_option maxRecDepth 100000
set_option linter.unusedVariables false
set_option linter.unusedSimpArgs false


theorem r25_Is_ok (m1:List R25Row) (who2:Int) (r0:Bool) (h:(r25_Is m1 who2).wp (· = r0)):PFun Tryz.prog 42 [.d (.sl (List.map R25Row.e m1)),.d (.v (.int .u16 who2))] (.d (.v (.bool r0))):=by
 refine fI (sl:=[(0,_),(1,_)]) Tryz.func42 rfl Tryz.ntmps42 rfl rfl ?_;intro ctx hK;refine wQ<|wR<|wa ?_;refine wN<|wQ<|wQ<|wR<|wa ?_;refine wN ?_;refine PWc.jnX (iBind h) (fun (_:Unit) (_:Unit)=>⟨19,[],[]⟩) (fun h=>?_) ?_
 ·refine wB<|wM (fun (i12:Int) (_:Unit)=>⟨19,[(0,.d (.sl (List.map R25Row.e m1))),(1,.d (.v (.int .u16 who2))),(5,.d (.v (.int .i64 i12)))],[]⟩) () h (sP) ?_;rintro N i12 _ h;refine wQ<|wQ<|wR<|wm ?_;refine wm ?_;refine wS (lM (enc:=R25Row.e) (L:=m1) Tryz.underlying43 rfl) rfl<|wS (LR.lss rfl rfl) rfl<|wN ?_;refine wC rfl (fun hc13=>?_) (fun hc13=>?_)
  ·replace h:=iT hc13 h;refine wK<|wQ<|wB<|wQ<|wR<|wm ?_;refine wm ?_;replace h:=iIdx h;obtain ⟨x14,hy15,h⟩:=h;refine wS (iX (enc:=R25Row.e) (L:=m1) (y:=x14) Tryz.underlying43 Tryz.sizeOf79 rfl rfl hy15 (fun _=>rfl)) rfl<|wS (fE Tryz.underlying79 rfl Tryz.sizeOf31 (by decide) rfl rfl) rfl<|wS (LR.loadEp Tryz.isAgg31 rfl rfl) rfl<|wm ?_;refine wS (eQ rfl rfl) rfl<|wN ?_;refine wC rfl (fun hc16=>?_) (fun hc16=>?_)
   ·replace h:=iT hc16 h;refine wQ<|wR<|wa ?_;refine wN<|wX ?_;replace h:_ = r0:=h;subst h;exact ⟨.inr rfl,_,.cons (.tmp rfl rfl)<|.nil,rfl⟩
   ·replace h:=iF hc16 h;refine wK<|wR<|wm ?_;refine wS (LR.addW rfl rfl) rfl<|wa ?_;refine wN ?_;exact ⟨(IntKind.i64.wrap (i12 + 1)),(),h,sP⟩
  ·replace h:=iF hc13 h;refine wZ ?_;exact ⟨(),(),h,sP⟩
 ·rintro _ _ h;refine wQ<|wR<|wa ?_;refine wN<|wX ?_;replace h:_ = r0:=h;subst h;exact ⟨.inr rfl,_,.cons (.tmp rfl rfl)<|.nil,rfl⟩

theorem r25_Join_ok (m1:List R25Row) (who2:Int) (r0:List R25Row × Bool) (h:(r25_Join m1 who2).wp (· = r0)):PFun Tryz.prog 39 [.d (.sl (List.map R25Row.e m1)),.d (.v (.int .u16 who2))] (.tup [.d (.sl (List.map R25Row.e r0.1)),.d (.v (.bool r0.2))]):=by
 refine fI (sl:=[(0,_),(1,_)]) Tryz.func39 rfl Tryz.ntmps39 rfl rfl ?_;intro ctx hK;refine wQ<|wR<|wS (aR 79 2 rfl) rfl<|wa ?_;refine wN<|wQ<|wQ ?_;refine wJ (iBind h) (fun (v3:Bool) (_:Unit)=>⟨63,[(0,.d (.sl (List.map R25Row.e m1))),(1,.d (.v (.int .u16 who2))),(15,.d (.v (.bool v3)))],[]⟩) (fun h=>?_) ?_
 ·refine wR<|wm ?_;refine wS (eQ rfl rfl) rfl<|wm ?_;refine wL (d:=11) rfl (fun hg4=>?_) (fun hg4=>?_)
  ·replace h:=iT hg4 h;refine wf<|wf<|wf<|wS (pT rfl rfl) rfl<|wN ?_;exact ⟨true,(),h,sP⟩
  ·replace h:=iF hg4 h;refine wT (mV rfl) rfl rfl rfl<|wT (mV rfl) rfl rfl rfl ?_;replace h:=iDet h;obtain ⟨v5,hy6,h⟩:=h;refine wT (cN (r25_Is_ok m1 who2 v5 hy6) rfl Tryz.call42 rfl rfl rfl rfl) rfl rfl rfl<|wS (pF rfl rfl) rfl<|wN ?_;exact ⟨v5,(),h,sP⟩
 ·rintro v3 _ h;refine wC rfl (fun hc7=>?_) (fun hc7=>?_)
  ·replace h:=iT hc7 h;refine wQ<|wR<|wm ?_;refine wa ?_;refine wa ?_;refine wN<|wX ?_;replace h:_ = r0:=h;subst h;exact ⟨.inr rfl,_,.cons (.tmp rfl rfl)<|.cons (.tmp rfl rfl)<|.nil,rfl⟩
  ·replace h:=iF hc7 h;refine wK<|wQ<|wR<|wS (aR 79 2 rfl) rfl<|wN<|wQ<|wQ<|wR<|wa ?_;refine wN ?_;refine wJ (iBind h) (fun (out8:List R25Row) (_:Unit)=>⟨63,[(0,.d (.sl (List.map R25Row.e m1))),(1,.d (.v (.int .u16 who2))),(6,.row 6 (List.length out8))],[(6,.row 79 2 (List.map R25Row.e out8))]⟩) (fun h=>?_) ?_
   ·refine wB<|wM (fun (⟨i27,out28⟩:Int × List R25Row) (_:Unit)=>⟨63,[(0,.d (.sl (List.map R25Row.e m1))),(1,.d (.v (.int .u16 who2))),(6,.row 6 (List.length out28)),(7,.d (.v (.int .i64 i27)))],[(6,.row 79 2 (List.map R25Row.e out28))]⟩) () h (sP) ?_;rintro N ⟨i27,out28⟩ _ h;refine wQ<|wQ<|wR<|wm ?_;refine wm ?_;refine wS (lM (enc:=R25Row.e) (L:=m1) Tryz.underlying43 rfl) rfl<|wS (LR.lss rfl rfl) rfl<|wN ?_;refine wC rfl (fun hc29=>?_) (fun hc29=>?_)
    ·replace h:=iT hc29 h;refine wK<|wQ ?_;refine wJ (iBind h) (fun (out30:List R25Row) (_:Unit)=>⟨63,[(0,.d (.sl (List.map R25Row.e m1))),(1,.d (.v (.int .u16 who2))),(6,.row 6 (List.length out30)),(7,.d (.v (.int .i64 i27)))],[(6,.row 79 2 (List.map R25Row.e out30))]⟩) (fun h=>?_) ?_
     ·refine wB<|wQ<|wR<|wm ?_;refine wm ?_;replace h:=iIdx h;obtain ⟨x31,hy32,h⟩:=h;refine wS (iX (enc:=R25Row.e) (L:=m1) (y:=x31) Tryz.underlying43 Tryz.sizeOf79 rfl rfl hy32 (fun _=>rfl)) rfl<|wS (fE Tryz.underlying79 rfl Tryz.sizeOf31 (by decide) rfl rfl) rfl<|wS (LR.loadEp Tryz.isAgg31 rfl rfl) rfl<|wm ?_;refine wS (LR.lss rfl rfl) rfl<|wN ?_;refine wC rfl (fun hc33=>?_) (fun hc33=>?_)
      ·replace h:=iT hc33 h;refine wR<|wm ?_;refine wm ?_;refine wm ?_;replace h:=iIdx h;obtain ⟨x34,hy35,h⟩:=h;refine wS (iX (enc:=R25Row.e) (L:=m1) (y:=x34) Tryz.underlying43 Tryz.sizeOf79 rfl rfl hy35 (fun _=>rfl)) rfl<|wS (lE (ys:=[_,_]) Tryz.isAgg79 Tryz.sizeOf79 rfl rfl rfl) rfl<|wS (LR.buildSliceD [.tmp 34] elem43 rfl rfl (.cons rfl rfl rfl<|.nil) (by decide) (by decide)) rfl<|wy (tl:=[(0,_),(1,_),(6,_),(7,_),(30,_),(35,_)]) (to:=[(6,_)]) ?_;replace h:=iNeed h;obtain ⟨hy36,h⟩:=h;refine wS (LR.appT (enc:=R25Row.e) (L:=out28) (R:=[x34]) [6,30] elem43 Tryz.underlying43 rfl rfl rfl (Src.slT (enc:=R25Row.e) (R:=[x34]) rfl (fun _=>rfl)) (fun _=>rfl) hy36 rfl rfl) rfl<|wa ?_;refine wN ?_;exact ⟨(out28 ++ [x34]),(),h,sP⟩
      ·replace h:=iF hc33 h;refine wK ?_;exact ⟨out28,(),h,sP⟩
     ·rintro out30 _ h;refine wR<|wm ?_;refine wS (LR.addW rfl rfl) rfl<|wa ?_;refine wN ?_;exact ⟨((IntKind.i64.wrap (i27 + 1)),out30),(),h,sP⟩
    ·replace h:=iF hc29 h;refine wZ ?_;exact ⟨out28,(),h,sP⟩
   ·rintro out8 _ h;refine wQ<|wR<|wm ?_;refine wm ?_;refine wS (LR.build (ns:=[_,_]) build79 rfl rfl rfl) rfl<|wS (LR.buildSliceD [.tmp 39] elem43 rfl rfl (.cons rfl rfl rfl<|.nil) (by decide) (by decide)) rfl ?_;replace h:=iNeed h;obtain ⟨hy37,h⟩:=h;refine wS (LR.appT (enc:=R25Row.e) (L:=out8) (R:=[(⟨who2,([]:List TPart)⟩:R25Row)]) [6,37] elem43 Tryz.underlying43 rfl rfl rfl (Src.slT (enc:=R25Row.e) (R:=[(⟨who2,([]:List TPart)⟩:R25Row)]) rfl (fun _=>rfl)) (fun _=>rfl) hy37 rfl rfl) rfl<|wa ?_;refine wN<|wQ<|wQ<|wR<|wa ?_;refine wN ?_;refine wJ (iBind h) (fun (out38:List R25Row) (_:Unit)=>⟨63,[(6,.row 6 (List.length out38))],[(6,.row 79 2 (List.map R25Row.e out38))]⟩) (fun h=>?_) ?_
    ·refine wB ?_;refine wM (fun (⟨i57,out58⟩:Int × List R25Row) (_:Unit)=>⟨63,[(0,.d (.sl (List.map R25Row.e m1))),(1,.d (.v (.int .u16 who2))),(6,.row 6 (List.length out58)),(8,.d (.v (.int .i64 i57)))],[(6,.row 79 2 (List.map R25Row.e out58))]⟩) () h (sO rfl (.c2 rfl rfl rfl rfl<|.cons rfl (by first | rfl | (simp;done) | (congr 1;first | (simp;done) | (simp;omega) | omega))<|.cons rfl rfl<|.nil) (.cons rfl rfl<|.nil)) ?_;rintro N ⟨i57,out58⟩ _ h;refine wQ<|wQ<|wR<|wm ?_;refine wm ?_;refine wS (lM (enc:=R25Row.e) (L:=m1) Tryz.underlying43 rfl) rfl<|wS (LR.lss rfl rfl) rfl<|wN ?_;refine wC rfl (fun hc59=>?_) (fun hc59=>?_)
     ·replace h:=iT hc59 h;refine wK<|wQ ?_;refine wJ (iBind h) (fun (out60:List R25Row) (_:Unit)=>⟨63,[(0,.d (.sl (List.map R25Row.e m1))),(1,.d (.v (.int .u16 who2))),(6,.row 6 (List.length out60)),(8,.d (.v (.int .i64 i57)))],[(6,.row 79 2 (List.map R25Row.e out60))]⟩) (fun h=>?_) ?_
      ·refine wB<|wQ<|wR<|wm ?_;refine wm ?_;replace h:=iIdx h;obtain ⟨x61,hy62,h⟩:=h;refine wS (iX (enc:=R25Row.e) (L:=m1) (y:=x61) Tryz.underlying43 Tryz.sizeOf79 rfl rfl hy62 (fun _=>rfl)) rfl<|wS (fE Tryz.underlying79 rfl Tryz.sizeOf31 (by decide) rfl rfl) rfl<|wS (LR.loadEp Tryz.isAgg31 rfl rfl) rfl<|wm ?_;refine wS (LR.gtr rfl rfl) rfl<|wN ?_;refine wC rfl (fun hc63=>?_) (fun hc63=>?_)
       ·replace h:=iT hc63 h;refine wR<|wm ?_;refine wm ?_;refine wm ?_;replace h:=iIdx h;obtain ⟨x64,hy65,h⟩:=h;refine wS (iX (enc:=R25Row.e) (L:=m1) (y:=x64) Tryz.underlying43 Tryz.sizeOf79 rfl rfl hy65 (fun _=>rfl)) rfl<|wS (lE (ys:=[_,_]) Tryz.isAgg79 Tryz.sizeOf79 rfl rfl rfl) rfl<|wS (LR.buildSliceD [.tmp 59] elem43 rfl rfl (.cons rfl rfl rfl<|.nil) (by decide) (by decide)) rfl<|wy (tl:=[(0,_),(1,_),(6,_),(8,_),(55,_),(60,_)]) (to:=[(6,_)]) ?_;replace h:=iNeed h;obtain ⟨hy66,h⟩:=h;refine wS (LR.appT (enc:=R25Row.e) (L:=out58) (R:=[x64]) [6,55] elem43 Tryz.underlying43 rfl rfl rfl (Src.slT (enc:=R25Row.e) (R:=[x64]) rfl (fun _=>rfl)) (fun _=>rfl) hy66 rfl rfl) rfl<|wa ?_;refine wN ?_;exact ⟨(out58 ++ [x64]),(),h,sP⟩
       ·replace h:=iF hc63 h;refine wK ?_;exact ⟨out58,(),h,sP⟩
      ·rintro out60 _ h;refine wR<|wm ?_;refine wS (LR.addW rfl rfl) rfl<|wa ?_;refine wN ?_;exact ⟨((IntKind.i64.wrap (i57 + 1)),out60),(),h,sP⟩
     ·replace h:=iF hc59 h;refine wZ ?_;exact ⟨out58,(),h,sP⟩
    ·rintro out38 _ h;refine wQ<|wR<|wm ?_;refine wa ?_;refine wa ?_;refine wN<|wX ?_;replace h:_ = r0:=h;subst h;exact ⟨.inr rfl,_,.cons (.row rfl rfl (by simp))<|.cons (.tmp rfl rfl)<|.nil,rfl⟩

theorem r25_Leave_ok (m1:List R25Row) (who2:Int) (r0:List R25Row × Bool) (h:(r25_Leave m1 who2).wp (· = r0)):PFun Tryz.prog 40 [.d (.sl (List.map R25Row.e m1)),.d (.v (.int .u16 who2))] (.tup [.d (.sl (List.map R25Row.e r0.1)),.d (.v (.bool r0.2))]):=by
 refine fI (sl:=[(0,_),(1,_)]) Tryz.func40 rfl Tryz.ntmps40 rfl rfl ?_;intro ctx hK;refine wQ<|wR<|wS (aR 79 2 rfl) rfl<|wa ?_;refine wN<|wQ<|wR<|wS (aR 79 2 rfl) rfl<|wN<|wQ<|wQ<|wR<|wa ?_;refine wN ?_;refine wJ (iBind h) (fun (out3:List R25Row) (_:Unit)=>⟨34,[(0,.d (.sl (List.map R25Row.e m1))),(6,.row 6 (List.length out3))],[(6,.row 79 2 (List.map R25Row.e out3))]⟩) (fun h=>?_) ?_
 ·refine wB<|wM (fun (⟨i22,out23⟩:Int × List R25Row) (_:Unit)=>⟨34,[(0,.d (.sl (List.map R25Row.e m1))),(1,.d (.v (.int .u16 who2))),(6,.row 6 (List.length out23)),(7,.d (.v (.int .i64 i22)))],[(6,.row 79 2 (List.map R25Row.e out23))]⟩) () h (sP) ?_;rintro N ⟨i22,out23⟩ _ h;refine wQ<|wQ<|wR<|wm ?_;refine wm ?_;refine wS (lM (enc:=R25Row.e) (L:=m1) Tryz.underlying43 rfl) rfl<|wS (LR.lss rfl rfl) rfl<|wN ?_;refine wC rfl (fun hc24=>?_) (fun hc24=>?_)
  ·replace h:=iT hc24 h;refine wK<|wQ ?_;refine wJ (iBind h) (fun (out25:List R25Row) (_:Unit)=>⟨34,[(0,.d (.sl (List.map R25Row.e m1))),(1,.d (.v (.int .u16 who2))),(6,.row 6 (List.length out25)),(7,.d (.v (.int .i64 i22)))],[(6,.row 79 2 (List.map R25Row.e out25))]⟩) (fun h=>?_) ?_
   ·refine wB<|wQ<|wR<|wm ?_;refine wm ?_;replace h:=iIdx h;obtain ⟨x26,hy27,h⟩:=h;refine wS (iX (enc:=R25Row.e) (L:=m1) (y:=x26) Tryz.underlying43 Tryz.sizeOf79 rfl rfl hy27 (fun _=>rfl)) rfl<|wS (fE Tryz.underlying79 rfl Tryz.sizeOf31 (by decide) rfl rfl) rfl<|wS (LR.loadEp Tryz.isAgg31 rfl rfl) rfl<|wm ?_;refine wS (nQ rfl rfl) rfl<|wN ?_;refine wC rfl (fun hc28=>?_) (fun hc28=>?_)
    ·replace h:=iT hc28 h;refine wR<|wm ?_;refine wm ?_;refine wm ?_;replace h:=iIdx h;obtain ⟨x29,hy30,h⟩:=h;refine wS (iX (enc:=R25Row.e) (L:=m1) (y:=x29) Tryz.underlying43 Tryz.sizeOf79 rfl rfl hy30 (fun _=>rfl)) rfl<|wS (lE (ys:=[_,_]) Tryz.isAgg79 Tryz.sizeOf79 rfl rfl rfl) rfl<|wS (LR.buildSliceD [.tmp 25] elem43 rfl rfl (.cons rfl rfl rfl<|.nil) (by decide) (by decide)) rfl<|wy (tl:=[(0,_),(1,_),(6,_),(7,_),(21,_),(26,_)]) (to:=[(6,_)]) ?_;replace h:=iNeed h;obtain ⟨hy31,h⟩:=h;refine wS (LR.appT (enc:=R25Row.e) (L:=out23) (R:=[x29]) [6,21] elem43 Tryz.underlying43 rfl rfl rfl (Src.slT (enc:=R25Row.e) (R:=[x29]) rfl (fun _=>rfl)) (fun _=>rfl) hy31 rfl rfl) rfl<|wa ?_;refine wN ?_;exact ⟨(out23 ++ [x29]),(),h,sP⟩
    ·replace h:=iF hc28 h;refine wK ?_;exact ⟨out23,(),h,sP⟩
   ·rintro out25 _ h;refine wR<|wm ?_;refine wS (LR.addW rfl rfl) rfl<|wa ?_;refine wN ?_;exact ⟨((IntKind.i64.wrap (i22 + 1)),out25),(),h,sP⟩
  ·replace h:=iF hc24 h;refine wZ ?_;exact ⟨out23,(),h,sP⟩
 ·rintro out3 _ h;refine wQ<|wR<|wm ?_;refine wm ?_;refine wS (LR.lenRow Tryz.underlying43 rfl) rfl<|wm ?_;refine wS (lM (enc:=R25Row.e) (L:=m1) Tryz.underlying43 rfl) rfl<|wS (LR.lss rfl rfl) rfl<|wa ?_;refine wa ?_;refine wN<|wX ?_;replace h:_ = r0:=h;subst h;exact ⟨.inr rfl,_,.cons (.row rfl rfl (by simp))<|.cons (.tmp rfl rfl)<|.nil,rfl⟩

theorem r25_Hear_ok (m1:List R25Row) (who2:Int) (c3:List TPart) (r0:List R25Row × Int) (h:(r25_Hear m1 who2 c3).wp (· = r0)):PFun Tryz.prog 41 [.d (.sl (List.map R25Row.e m1)),.d (.v (.int .u16 who2)),.d (.sl (List.map TPart.e c3))] (.tup [.d (.sl (List.map R25Row.e r0.1)),.d (.v (.int .i64 r0.2))]):=by
 refine fI (sl:=[(0,_),(1,_),(2,_)]) Tryz.func41 rfl Tryz.ntmps41 rfl rfl ?_;intro ctx hK;refine wQ<|wR<|wS (aR 79 2 rfl) rfl<|wa ?_;refine wN<|wQ<|wQ<|wR<|wm ?_;refine wm ?_;replace h:=iDet h;obtain ⟨v4,hy5,h⟩:=h;refine wS (cN (r25_Is_ok m1 who2 v4 hy5) rfl Tryz.call42 rfl rfl rfl rfl) rfl<|wS (LR.not rfl) rfl<|wN ?_;refine wC rfl (fun hc6=>?_) (fun hc6=>?_)
 ·replace h:=iT hc6 h;refine wQ<|wR<|wm ?_;refine wy (tl:=[(0,_),(1,_),(2,_),(7,_),(11,_),(12,_),(13,_),(14,_),(15,_)]) (to:=[]) ?_;refine wa ?_;refine wa ?_;refine wN<|wX ?_;replace h:_ = r0:=h;subst h;exact ⟨.inr rfl,_,.cons (.tmp rfl rfl)<|.cons (.tmp rfl rfl)<|.nil,rfl⟩
 ·replace h:=iF hc6 h;refine wK<|wQ<|wR<|wS (aR 79 2 rfl) rfl<|wN<|wQ<|wQ<|wR<|wa ?_;refine wN ?_;refine wJ (iBind h) (fun (out7:List R25Row) (_:Unit)=>⟨40,[(8,.row 8 (List.length out7))],[(8,.row 79 2 (List.map R25Row.e out7))]⟩) (fun h=>?_) ?_
  ·refine wB<|wM (fun (⟨i26,out27⟩:Int × List R25Row) (_:Unit)=>⟨40,[(0,.d (.sl (List.map R25Row.e m1))),(1,.d (.v (.int .u16 who2))),(2,.d (.sl (List.map TPart.e c3))),(8,.row 8 (List.length out27)),(9,.d (.v (.int .i64 i26)))],[(8,.row 79 2 (List.map R25Row.e out27))]⟩) () h (sP) ?_;rintro N ⟨i26,out27⟩ _ h;refine wQ<|wQ<|wR<|wm ?_;refine wm ?_;refine wS (lM (enc:=R25Row.e) (L:=m1) Tryz.underlying43 rfl) rfl<|wS (LR.lss rfl rfl) rfl<|wN ?_;refine wC rfl (fun hc28=>?_) (fun hc28=>?_)
   ·replace h:=iT hc28 h;refine wK<|wQ<|wB<|wQ<|wR<|wm ?_;refine wm ?_;replace h:=iIdx h;obtain ⟨x29,hy30,h⟩:=h;refine wS (iX (enc:=R25Row.e) (L:=m1) (y:=x29) Tryz.underlying43 Tryz.sizeOf79 rfl rfl hy30 (fun _=>rfl)) rfl<|wS (lE (ys:=[_,_]) Tryz.isAgg79 Tryz.sizeOf79 rfl rfl rfl) rfl<|wS (LR.allocZ (cs:=[_,_]) Tryz.zeroValue79 rfl rfl rfl rfl) rfl<|wS (sB (ns:=[_,_]) Tryz.sizeOf79 rfl rfl rfl rfl rfl rfl rfl) rfl<|wN<|wQ<|wQ<|wR<|wS (fR Tryz.underlying79 rfl Tryz.sizeOf31 (by decide) rfl rfl) rfl ?_;refine wS (lD Tryz.isAgg31 rfl rfl rfl) rfl<|wm ?_;refine wS (eQ rfl rfl) rfl<|wN ?_;refine wJ (iBind h) (fun (x31:List TPart) (_:Unit)=>⟨40,[(0,.d (.sl (List.map R25Row.e m1))),(1,.d (.v (.int .u16 who2))),(2,.d (.sl (List.map TPart.e c3))),(8,.row 8 (List.length out27)),(9,.d (.v (.int .i64 i26))),(10,.ref 10 0)],[(8,.row 79 2 (List.map R25Row.e out27)),(10,.cells 79 [.d (.v (.int .u16 x29.who)),.d (.sl (List.map TPart.e x31))])]⟩) (fun h=>?_) ?_
    ·refine wC rfl (fun hc32=>?_) (fun hc32=>?_)
     ·replace h:=iT hc32 h;refine wR<|wS (fR Tryz.underlying79 rfl Tryz.sizeOf24 (by decide) rfl rfl) rfl<|wS (lD Tryz.isAgg24 rfl rfl rfl) rfl<|wm ?_;refine wy (tl:=[(0,_),(1,_),(2,_),(8,_),(9,_),(10,_),(31,_),(32,_)]) (to:=[(8,_),(10,_)]) ?_;replace h:=iDet h;obtain ⟨v33,hy34,h⟩:=h;refine wS (LR.rowN (r09_Join_ok x29.c c3 v33 hy34) rfl Tryz.call49 rfl rfl rfl rfl) rfl<|wS (fR Tryz.underlying79 rfl Tryz.sizeOf24 (by decide) rfl rfl) rfl<|PWl.frz [33] hK (.cons rfl<|.nil) rfl (by simp) ?_;refine wS (sB (ns:=[_,_]) Tryz.sizeOf24 rfl rfl rfl rfl rfl rfl rfl) rfl<|wN ?_;exact ⟨v33,(),h,sP⟩
     ·replace h:=iF hc32 h;refine wK ?_;exact ⟨x29.c,(),h,sP⟩
    ·rintro x31 _ h;refine wR<|wm ?_;refine wS (lA (ps:=[_,_]) Tryz.isAgg79 Tryz.sizeOf79 rfl rfl rfl rfl) rfl<|wS (LR.buildSliceD [.tmp 36] elem43 rfl rfl (.cons rfl rfl rfl<|.nil) (by decide) (by decide)) rfl ?_;replace h:=iNeed h;obtain ⟨hy35,h⟩:=h;refine wS (LR.appT (enc:=R25Row.e) (L:=out27) (R:=[(⟨x29.who,x31⟩:R25Row)]) [8,35] elem43 Tryz.underlying43 rfl rfl rfl (Src.slT (enc:=R25Row.e) (R:=[(⟨x29.who,x31⟩:R25Row)]) rfl (fun _=>rfl)) (fun _=>rfl) hy35 rfl rfl) rfl<|wa ?_;refine wN<|wR<|wm ?_;refine wS (LR.addW rfl rfl) rfl<|wa ?_;refine wN ?_;exact ⟨((IntKind.i64.wrap (i26 + 1)),(out27 ++ [(⟨x29.who,x31⟩:R25Row)])),(),h,sP⟩
   ·replace h:=iF hc28 h;refine wZ ?_;exact ⟨out27,(),h,sP⟩
  ·rintro out7 _ h;refine wQ<|wR<|wm ?_;refine wa ?_;refine wa ?_;refine wN<|wX ?_;replace h:_ = r0:=h;subst h;exact ⟨.inr rfl,_,.cons (.row rfl rfl (by simp))<|.cons (.tmp rfl rfl)<|.nil,rfl⟩

theorem r25_Get_ok (m1:List R25Row) (who2:Int) (r0:List TPart) (h:(r25_Get m1 who2).wp (· = r0)):PFun Tryz.prog 27 [.d (.sl (List.map R25Row.e m1)),.d (.v (.int .u16 who2))] (.d (.sl (List.map TPart.e r0))):=by
 refine fI (sl:=[(0,_),(1,_)]) Tryz.func27 rfl Tryz.ntmps27 rfl rfl ?_;intro ctx hK;refine wQ<|wR<|wS (aR 65 2 rfl) rfl<|wN<|wQ<|wQ<|wR<|wa ?_;refine wN ?_;refine PWc.jnX (iBind h) (fun (_:Unit) (_:Unit)=>⟨24,[],[]⟩) (fun h=>?_) ?_
 ·refine wB<|wM (fun (i_16:Int) (_:Unit)=>⟨24,[(0,.d (.sl (List.map R25Row.e m1))),(1,.d (.v (.int .u16 who2))),(5,.d (.v (.int .i64 i_16)))],[]⟩) () h (sP) ?_;rintro N i_16 _ h;refine wQ<|wQ<|wR<|wm ?_;refine wm ?_;refine wS (lM (enc:=R25Row.e) (L:=m1) Tryz.underlying43 rfl) rfl<|wS (LR.lss rfl rfl) rfl<|wN ?_;refine wC rfl (fun hc17=>?_) (fun hc17=>?_)
  ·replace h:=iT hc17 h;refine wK<|wQ<|wB<|wQ<|wR<|wm ?_;refine wm ?_;replace h:=iIdx h;obtain ⟨x18,hy19,h⟩:=h;refine wS (iX (enc:=R25Row.e) (L:=m1) (y:=x18) Tryz.underlying43 Tryz.sizeOf79 rfl rfl hy19 (fun _=>rfl)) rfl<|wS (fE Tryz.underlying79 rfl Tryz.sizeOf31 (by decide) rfl rfl) rfl<|wS (LR.loadEp Tryz.isAgg31 rfl rfl) rfl<|wm ?_;refine wS (eQ rfl rfl) rfl<|wN ?_;refine wC rfl (fun hc20=>?_) (fun hc20=>?_)
   ·replace h:=iT hc20 h;refine wQ<|wR<|wm ?_;refine wm ?_;replace h:=iIdx h;obtain ⟨x21,hy22,h⟩:=h;refine wS (iX (enc:=R25Row.e) (L:=m1) (y:=x21) Tryz.underlying43 Tryz.sizeOf79 rfl rfl hy22 (fun _=>rfl)) rfl<|wS (fE Tryz.underlying79 rfl Tryz.sizeOf24 (by decide) rfl rfl) rfl<|wS (LR.loadEp Tryz.isAgg24 rfl rfl) rfl<|wa ?_;refine wN<|wX ?_;replace h:_ = r0:=h;subst h;exact ⟨.inr rfl,_,.cons (.tmp rfl rfl)<|.nil,rfl⟩
   ·replace h:=iF hc20 h;refine wK<|wR<|wm ?_;refine wS (LR.addW rfl rfl) rfl<|wa ?_;refine wN ?_;exact ⟨(IntKind.i64.wrap (i_16 + 1)),(),h,sP⟩
  ·replace h:=iF hc17 h;refine wZ ?_;exact ⟨(),(),h,sP⟩
 ·rintro _ _ h;refine wQ<|wR<|wS (aR 65 2 rfl) rfl<|wN<|wX ?_;replace h:_ = r0:=h;subst h;exact ⟨.inr rfl,_,.cons (.row rfl rfl (by first | (simp;done) | (simp;omega) | omega))<|.nil,rfl⟩
end Go.Proofs

namespace Go.Proofs
open Go.Ep
set_option maxHeartbeats 1000000
set_option maxRecDepth 100000
set_option linter.unusedVariables false
set_option linter.unusedSimpArgs false


theorem r25_Below_ok (a1:List R25Row) (b2:List R25Row) (r0:Bool) (h:(r25_Below a1 b2).wp (· = r0)):PFun Tryz.prog 21 [.d (.sl (List.map R25Row.e a1)),.d (.sl (List.map R25Row.e b2))] (.d (.v (.bool r0))):=by
 refine fI (sl:=[(0,_),(1,_)]) Tryz.func21 rfl Tryz.ntmps21 rfl rfl ?_;intro ctx hK;refine wQ<|wR<|wa ?_;refine wN<|wQ<|wQ<|wR<|wa ?_;refine wN ?_;refine PWc.jnX (iBind h) (fun (_:Unit) (_:Unit)=>⟨36,[],[]⟩) (fun h=>?_) ?_
 ·refine wB<|wM (fun (i36:Int) (_:Unit)=>⟨36,[(0,.d (.sl (List.map R25Row.e a1))),(1,.d (.sl (List.map R25Row.e b2))),(5,.d (.v (.int .i64 i36)))],[]⟩) () h (sP) ?_;rintro N i36 _ h;refine wQ<|wQ<|wR<|wm ?_;refine wm ?_;refine wS (lM (enc:=R25Row.e) (L:=a1) Tryz.underlying43 rfl) rfl<|wS (LR.lss rfl rfl) rfl<|wN ?_;refine wC rfl (fun hc37=>?_) (fun hc37=>?_)
  ·replace h:=iT hc37 h;refine wK<|wQ<|wB<|wQ ?_;refine wJ (iBind h) (fun (v38:Bool) (_:Unit)=>⟨36,[(0,.d (.sl (List.map R25Row.e a1))),(1,.d (.sl (List.map R25Row.e b2))),(5,.d (.v (.int .i64 i36))),(35,.d (.v (.bool v38)))],[]⟩) (fun h=>?_) ?_
   ·refine wD (by kernel_rfl) (by kernel_rfl) ?_;refine qS (fun _ he ho=>mV (he rfl rfl)) rfl ?_;refine qS (fun _ he ho=>mV (he rfl rfl)) rfl ?_;refine qS (fun _ he ho=>mV (he rfl rfl)) rfl ?_;replace h:=iIdx h;obtain ⟨x39,hy40,h⟩:=h;refine qS (fun _ he ho=>iX (enc:=R25Row.e) (L:=a1) (y:=x39) Tryz.underlying43 Tryz.sizeOf79 (he rfl rfl) (he rfl rfl) hy40 (fun _=>rfl)) rfl ?_;refine qS (fun _ he ho=>fE Tryz.underlying79 rfl Tryz.sizeOf31 (by decide) rfl (he rfl rfl)) rfl ?_;refine qS (fun _ he ho=>LR.loadEp Tryz.isAgg31 (he rfl rfl) rfl) rfl ?_;replace h:=iDet h;obtain ⟨v41,hy42,h⟩:=h;refine qS (fun _ he ho=>cN (r25_Is_ok b2 x39.who v41 hy42) (he rfl rfl) Tryz.call42 (evsE he rfl rfl) rfl rfl rfl) rfl ?_;refine qS (fun _ he ho=>LR.not (he rfl rfl)) rfl ?_;refine qS (fun _ he ho=>mV (he rfl rfl)) rfl ?_;refine PQl.split (d:=20) rfl (fun hg43=>?_) (fun hg43=>?_)
    ·replace h:=iT hg43 h;refine qF rfl rfl rfl (by decide)<|qF rfl rfl rfl (by decide)<|qF rfl rfl rfl (by decide)<|qF rfl rfl rfl (by decide)<|qF rfl rfl rfl (by decide)<|qF rfl rfl rfl (by decide)<|qF rfl rfl rfl (by decide)<|qF rfl rfl rfl (by decide)<|qF rfl rfl rfl (by decide) ?_;refine qF rfl rfl rfl (by decide)<|qF rfl rfl rfl (by decide)<|qF rfl rfl rfl (by decide)<|qF rfl rfl rfl (by decide)<|qF rfl rfl rfl (by decide) ?_;refine qS (fun _ he ho=>pT (he rfl rfl) (he rfl rfl)) rfl<|qN ?_;exact ⟨true,(),h,sP⟩
    ·replace h:=iF hg43 h;refine qT (fun _ he ho=>mV (he rfl rfl)) rfl rfl rfl ?_;refine qT (fun _ he ho=>mV (he rfl rfl)) rfl rfl rfl ?_;replace h:=iIdx h;obtain ⟨x44,hy45,h⟩:=h;refine qT (fun _ he ho=>iX (enc:=R25Row.e) (L:=a1) (y:=x44) Tryz.underlying43 Tryz.sizeOf79 (he rfl rfl) (he rfl rfl) hy45 (fun _=>rfl)) rfl rfl rfl ?_;refine qT (fun _ he ho=>fE Tryz.underlying79 rfl Tryz.sizeOf24 (by decide) rfl (he rfl rfl)) rfl rfl rfl ?_;refine qT (fun _ he ho=>LR.loadEp Tryz.isAgg24 (he rfl rfl) rfl) rfl rfl rfl ?_;refine qT (fun _ he ho=>mV (he rfl rfl)) rfl rfl rfl ?_;refine qT (fun _ he ho=>mV (he rfl rfl)) rfl rfl rfl ?_;refine qT (fun _ he ho=>mV (he rfl rfl)) rfl rfl rfl ?_;replace h:=iIdx h;obtain ⟨x46,hy47,h⟩:=h;refine qT (fun _ he ho=>iX (enc:=R25Row.e) (L:=a1) (y:=x46) Tryz.underlying43 Tryz.sizeOf79 (he rfl rfl) (he rfl rfl) hy47 (fun _=>rfl)) rfl rfl rfl ?_;refine qT (fun _ he ho=>fE Tryz.underlying79 rfl Tryz.sizeOf31 (by decide) rfl (he rfl rfl)) rfl rfl rfl ?_;refine qT (fun _ he ho=>LR.loadEp Tryz.isAgg31 (he rfl rfl) rfl) rfl rfl rfl ?_;replace h:=iDet h;obtain ⟨v48,hy49,h⟩:=h;refine qT (fun _ he ho=>cN (r25_Get_ok b2 x46.who v48 hy49) (he rfl rfl) Tryz.call27 (evsE he rfl rfl) rfl rfl rfl) rfl rfl rfl ?_;replace h:=iDet h;obtain ⟨v50,hy51,h⟩:=h;refine qT (fun _ he ho=>cN (r09_Within_ok x44.c v48 v50 hy51) (he rfl rfl) Tryz.call16 (evsE he rfl rfl) rfl rfl rfl) rfl rfl rfl ?_;refine qT (fun _ he ho=>LR.not (he rfl rfl)) rfl rfl rfl ?_;refine qS (fun _ he ho=>pF (he rfl rfl) (he rfl rfl)) rfl<|qN ?_;exact ⟨(!v50),(),h,sP⟩
   ·rintro v38 _ h;refine wC rfl (fun hc52=>?_) (fun hc52=>?_)
    ·replace h:=iT hc52 h;refine wQ<|wR<|wa ?_;refine wN<|wX ?_;replace h:_ = r0:=h;subst h;exact ⟨.inr rfl,_,.cons (.tmp rfl rfl)<|.nil,rfl⟩
    ·replace h:=iF hc52 h;refine wK<|wR<|wm ?_;refine wS (LR.addW rfl rfl) rfl<|wa ?_;refine wN ?_;exact ⟨(IntKind.i64.wrap (i36 + 1)),(),h,sP⟩
  ·replace h:=iF hc37 h;refine wZ ?_;exact ⟨(),(),h,sP⟩
 ·rintro _ _ h;refine wQ<|wR<|wa ?_;refine wN<|wX ?_;replace h:_ = r0:=h;subst h;exact ⟨.inr rfl,_,.cons (.tmp rfl rfl)<|.nil,rfl⟩

theorem l25_step_o_ok (x1:List R25Row) (a2:L25Act) (nl3:Bool) (m4:List ((Int × Int) × List TRun)) {Q:List R25Row × Bool × Bool × (List ((Int × Int) × List TRun)) → Prop} (rr:List R25Row × Bool) (h:(l25_step_o x1 a2 nl3 m4).wp (fun y=>(y.1,y.2.1) = rr ∧ Q y)):PObj Tryz.prog 20 [.ref 100 0,.d (.sl (List.map R25Row.e x1)),.agg (List.map .d (L25Act.e a2))] [(100,.cells 28 [.ref 101 0]),(101,.cells 61 [.mp 102]),(102,.mapH nl3 [.u16,.u16] false (encM kP (eL TRun.e) m4))] [100] (.tup [.d (.sl (List.map R25Row.e rr.1)),.d (.v (.bool rr.2))]) (fun gh:{y:List R25Row × Bool × Bool × (List ((Int × Int) × List TRun)) // (y.1,y.2.1) = rr ∧ Q y}=>[(100,.cells 28 [.ref 101 0]),(101,.cells 61 [.mp 102]),(102,.mapH gh.1.2.2.1 [.u16,.u16] false (encM kP (eL TRun.e) gh.1.2.2.2))]):=by
 refine PObj.intro (sl:=[(0,_),(1,_),(2,_)]) Tryz.func20 rfl Tryz.ntmps20 rfl rfl rfl ?_;intro ctx hK pv;refine wQ<|wR<|wS (LR.box rfl rfl rfl rfl) rfl<|wS (aR 79 2 rfl) rfl<|wa ?_;refine wN<|wQ<|wQ<|wR<|wS (fR Tryz.underlying33 rfl Tryz.sizeOf5 (by decide) rfl rfl) rfl<|wS (lD Tryz.isAgg5 rfl rfl rfl) rfl<|wN ?_;refine PWc.jnX (iBind h) (fun (⟨nl5,v6⟩:Bool × (List ((Int × Int) × List TRun))) (_:Unit)=>⟨96,[(1,.d (.sl (List.map R25Row.e x1)))],[(100,.cells 28 [.ref 101 0]),(101,.cells 61 [.mp 102]),(102,.mapH nl5 [.u16,.u16] false (encM kP (eL TRun.e) v6)),(1100,.pin 100 (pv 100))]⟩) (fun h=>?_) ?_
 ·refine wB<|wQ<|wR<|wS (eQ rfl rfl) rfl<|wa ?_;refine wN ?_;refine wC rfl (fun hc7=>?_) (fun hc7=>?_)
  ·replace h:=iT hc7 h;refine wQ<|wR<|wm ?_;refine wS (fR Tryz.underlying33 rfl Tryz.sizeOf31 (by decide) rfl rfl) rfl<|wS (lD Tryz.isAgg31 rfl rfl rfl) rfl ?_;replace h:=iDet h;obtain ⟨v8,hy9,h⟩:=h;refine wS (cN (r25_Join_ok x1 a2.who v8 hy9) rfl Tryz.call39 rfl rfl rfl rfl) rfl<|wm ?_;refine wS (LR.extract rfl rfl) rfl<|wS (LR.extract rfl rfl) rfl<|wa ?_;refine wa ?_;refine wN<|wQ<|wz (tl:=[(0,_),(5,_),(8,_),(9,_)]) (to:=[(5,_),(100,_),(101,_),(102,_),(1100,_)]) ?_;refine PWc.regionE [{ws:=[26]},⟨[27],[],[],[],[],[100],[],[]⟩,⟨[28],[],[],[],[],[100],[],[]⟩,⟨[29],[],[100],[],[],[101],[],[]⟩,⟨[30],[],[],[],[],[5],[],[]⟩,⟨[31],[],[5],[],[],[],[],[]⟩,⟨[32],[102],[101,102],[],[(102,[])],[],[],[101,102]⟩,{ws:=[33]},{ws:=[34]},{ws:=[6]},{ws:=[7]}] (by kernel_rfl) (by kernel_rfl) rfl ?_;refine PQe.stepP (fun _ he ho=>mV (he rfl rfl)) (.inl rfl) rfl ?_;refine PQe.stepP (fun _ he ho=>mV (he rfl rfl)) (.inl rfl) rfl ?_;refine PQe.stepP (fun _ he ho=>LR.nilCheckRef (he rfl rfl)) (.inl rfl) rfl ?_;refine PQe.stepP (fun _ he ho=>lD Tryz.isAgg28 (he rfl rfl) (ho rfl rfl) rfl) (.inl rfl) rfl ?_;refine PQe.stepP (fun _ he ho=>fR Tryz.underlying33 rfl Tryz.sizeOf31 (by decide) rfl (he rfl rfl)) (.inl rfl) rfl ?_;refine PQe.stepP (fun _ he ho=>lD Tryz.isAgg31 (he rfl rfl) (ho rfl rfl) rfl) (.inl rfl) rfl ?_;replace h:=iDet h;obtain ⟨y10,hy11,h⟩:=h;refine PQe.callObjS [(100,101),(101,102)] [] [100,101] [(101,.mapH y10.2.1 [.u16,.u16] false (encM kP (eL TRun.e) y10.2.2))] [(100,.cells 61 [.mp 101])] (ack_Matrix_Join_o_ok a2.who nl3 m4 y10 hy11) hK (fun _ he=>⟨he rfl rfl,evsE he rfl rfl⟩) Tryz.call13 (by first | rfl | (simp;done) | (simp [PV.nilD,PV.ren,rn] <;> omega)) (by repeat' first | constructor | (congr 1;first | (simp;done) | (simp;omega) | omega)) (.cons rfl<|.nil) (.cons rfl<|.nil) (.cons (by first | rfl | (congr 1;first | (simp;done) | (simp;omega) | omega))<|.nil) rfl rfl rfl rfl rfl rfl (.inl rfl) rfl ?_;refine PQe.stepP (fun _ he ho=>mV (he rfl rfl)) (.inl rfl) rfl ?_;refine PQe.stepP (fun _ he ho=>LR.eqlBool Tryz.underlying4 (he rfl rfl) (he rfl rfl)) (.inl rfl) rfl ?_;refine PQe.stepP (fun _ he ho=>aS (he rfl rfl)) (.inl rfl) rfl ?_;refine PQe.stepP (fun _ he ho=>aS (he rfl rfl)) (.inl rfl) rfl<|PQe.nil<|wX ?_;obtain ⟨hrr,hQ⟩:=(h:_ ∧ _)
   subst hrr;exact EndsO.mk ⟨(v8.1,(y10.1 == v8.2),y10.2.1,y10.2.2),rfl,hQ⟩ (.inr rfl) (sP (tl:=[(6,_),(7,_)]) (to:=[(100,_),(101,_),(102,_),(1100,_)])) (.cons (.tmp rfl)<|.cons (.tmp rfl)<|.nil) rfl rfl
  ·replace h:=iF hc7 h;refine wQ<|wR<|wS (eQ rfl rfl) rfl<|wa ?_;refine wN ?_;refine wC rfl (fun hc12=>?_) (fun hc12=>?_)
   ·replace h:=iT hc12 h;refine wQ<|wR<|wm ?_;refine wS (fR Tryz.underlying33 rfl Tryz.sizeOf31 (by decide) rfl rfl) rfl<|wS (lD Tryz.isAgg31 rfl rfl rfl) rfl ?_;replace h:=iDet h;obtain ⟨v13,hy14,h⟩:=h;refine wS (cN (r25_Leave_ok x1 a2.who v13 hy14) rfl Tryz.call40 rfl rfl rfl rfl) rfl<|wm ?_;refine wS (LR.extract rfl rfl) rfl<|wS (LR.extract rfl rfl) rfl<|wa ?_;refine wa ?_;refine wN<|wQ<|wz (tl:=[(0,_),(5,_),(10,_),(11,_)]) (to:=[(5,_),(100,_),(101,_),(102,_),(1100,_)]) ?_;refine PWc.regionE [{ws:=[44]},⟨[45],[],[],[],[],[100],[],[]⟩,⟨[46],[],[],[],[],[100],[],[]⟩,⟨[47],[],[100],[],[],[101],[],[]⟩,⟨[48],[],[],[],[],[5],[],[]⟩,⟨[49],[],[5],[],[],[],[],[]⟩,⟨[50],[102],[101,102],[],[],[],[],[]⟩,{ws:=[51]},{ws:=[52]},{ws:=[6]},{ws:=[7]}] (by kernel_rfl) (by kernel_rfl) rfl ?_;refine PQe.stepP (fun _ he ho=>mV (he rfl rfl)) (.inl rfl) rfl ?_;refine PQe.stepP (fun _ he ho=>mV (he rfl rfl)) (.inl rfl) rfl ?_;refine PQe.stepP (fun _ he ho=>LR.nilCheckRef (he rfl rfl)) (.inl rfl) rfl ?_;refine PQe.stepP (fun _ he ho=>lD Tryz.isAgg28 (he rfl rfl) (ho rfl rfl) rfl) (.inl rfl) rfl ?_;refine PQe.stepP (fun _ he ho=>fR Tryz.underlying33 rfl Tryz.sizeOf31 (by decide) rfl (he rfl rfl)) (.inl rfl) rfl ?_;refine PQe.stepP (fun _ he ho=>lD Tryz.isAgg31 (he rfl rfl) (ho rfl rfl) rfl) (.inl rfl) rfl ?_;replace h:=iDet h;obtain ⟨y15,hy16,h⟩:=h;refine PQe.callObjS [(100,101),(101,102)] [] [100,101] [(101,.mapH y15.2.1 [.u16,.u16] false (encM kP (eL TRun.e) y15.2.2))] [(100,.cells 61 [.mp 101])] (ack_Matrix_Leave_o_ok a2.who nl3 m4 y15 hy16) hK (fun _ he=>⟨he rfl rfl,evsE he rfl rfl⟩) Tryz.call14 (by first | rfl | (simp;done) | (simp [PV.nilD,PV.ren,rn] <;> omega)) (by repeat' first | constructor | (congr 1;first | (simp;done) | (simp;omega) | omega)) (.cons rfl<|.nil) (.cons rfl<|.nil) (.cons (by first | rfl | (congr 1;first | (simp;done) | (simp;omega) | omega))<|.nil) rfl rfl rfl rfl rfl rfl (.inl rfl) rfl ?_;refine PQe.stepP (fun _ he ho=>mV (he rfl rfl)) (.inl rfl) rfl ?_;refine PQe.stepP (fun _ he ho=>LR.eqlBool Tryz.underlying4 (he rfl rfl) (he rfl rfl)) (.inl rfl) rfl ?_;refine PQe.stepP (fun _ he ho=>aS (he rfl rfl)) (.inl rfl) rfl ?_;refine PQe.stepP (fun _ he ho=>aS (he rfl rfl)) (.inl rfl) rfl<|PQe.nil<|wX ?_;obtain ⟨hrr,hQ⟩:=(h:_ ∧ _)
    subst hrr;exact EndsO.mk ⟨(v13.1,(y15.1 == v13.2),y15.2.1,y15.2.2),rfl,hQ⟩ (.inr rfl) (sP (tl:=[(6,_),(7,_)]) (to:=[(100,_),(101,_),(102,_),(1100,_)])) (.cons (.tmp rfl)<|.cons (.tmp rfl)<|.nil) rfl rfl
   ·replace h:=iF hc12 h;refine wQ<|wQ<|wR<|wS (eQ rfl rfl) rfl<|wa ?_;refine wN ?_;refine wJ (iBind h) (fun (v17:Bool) (_:Unit)=>⟨96,[(0,.ref 100 0),(1,.d (.sl (List.map R25Row.e x1))),(5,.ref 5 0),(16,.d (.v (.int .u8 a2.kind))),(53,.d (.v (.bool v17)))],[(5,.cells 33 [.d (.v (.int .u8 a2.kind)),.d (.v (.int .u16 a2.who)),.d (.sl (List.map TPart.e a2.c))]),(100,.cells 28 [.ref 101 0]),(101,.cells 61 [.mp 102]),(102,.mapH nl3 [.u16,.u16] false (encM kP (eL TRun.e) m4)),(1100,.pin 100 (pv 100))]⟩) (fun h=>?_) ?_
    ·refine wC rfl (fun hc18=>?_) (fun hc18=>?_)
     ·replace h:=iT hc18 h;refine wK ?_;exact ⟨(decide (a2.kind = 2)),(),h,sP⟩
     ·replace h:=iF hc18 h;refine wR<|wS (eQ rfl rfl) rfl<|wa ?_;refine wN ?_;exact ⟨(decide (a2.kind = 3)),(),h,sP⟩
    ·rintro v17 _ h;refine wC rfl (fun hc19=>?_) (fun hc19=>?_)
     ·replace h:=iT hc19 h;refine wQ<|wR<|wm ?_;refine wS (fR Tryz.underlying33 rfl Tryz.sizeOf31 (by decide) rfl rfl) rfl<|wS (lD Tryz.isAgg31 rfl rfl rfl) rfl<|wS (fR Tryz.underlying33 rfl Tryz.sizeOf24 (by decide) rfl rfl) rfl<|wS (lD Tryz.isAgg24 rfl rfl rfl) rfl ?_;replace h:=iDet h;obtain ⟨v20,hy21,h⟩:=h;refine wS (cN (r25_Hear_ok x1 a2.who a2.c v20 hy21) rfl Tryz.call41 rfl rfl rfl rfl) rfl<|wm ?_;refine wS (LR.extract rfl rfl) rfl<|wS (LR.extract rfl rfl) rfl<|wa ?_;refine wa ?_;refine wN<|wQ<|wz (tl:=[(0,_),(5,_),(12,_),(13,_)]) (to:=[(5,_),(100,_),(101,_),(102,_),(1100,_)]) ?_;refine PWc.regionE [{ws:=[65]},⟨[66],[],[],[],[],[100],[],[]⟩,⟨[67],[],[],[],[],[100],[],[]⟩,⟨[68],[],[100],[],[],[101],[],[]⟩,⟨[69],[],[],[],[],[5],[],[]⟩,⟨[70],[],[5],[],[],[],[],[]⟩,⟨[71],[],[],[],[],[5],[],[]⟩,⟨[72],[],[5],[],[],[],[],[]⟩,⟨[73],[102],[101,102],[],[(102,[])],[],[],[101,102]⟩,{ws:=[74]},{ws:=[75]},{ws:=[6]},{ws:=[7]}] (by kernel_rfl) (by kernel_rfl) rfl ?_;refine PQe.stepP (fun _ he ho=>mV (he rfl rfl)) (.inl rfl) rfl ?_;refine PQe.stepP (fun _ he ho=>mV (he rfl rfl)) (.inl rfl) rfl ?_;refine PQe.stepP (fun _ he ho=>LR.nilCheckRef (he rfl rfl)) (.inl rfl) rfl ?_;refine PQe.stepP (fun _ he ho=>lD Tryz.isAgg28 (he rfl rfl) (ho rfl rfl) rfl) (.inl rfl) rfl ?_;refine PQe.stepP (fun _ he ho=>fR Tryz.underlying33 rfl Tryz.sizeOf31 (by decide) rfl (he rfl rfl)) (.inl rfl) rfl ?_;refine PQe.stepP (fun _ he ho=>lD Tryz.isAgg31 (he rfl rfl) (ho rfl rfl) rfl) (.inl rfl) rfl ?_;refine PQe.stepP (fun _ he ho=>fR Tryz.underlying33 rfl Tryz.sizeOf24 (by decide) rfl (he rfl rfl)) (.inl rfl) rfl ?_;refine PQe.stepP (fun _ he ho=>lD Tryz.isAgg24 (he rfl rfl) (ho rfl rfl) rfl) (.inl rfl) rfl ?_;replace h:=iDet h;obtain ⟨y22,hy23,h⟩:=h;refine PQe.callObjS [(100,101),(101,102)] [] [100,101] [(101,.mapH y22.2.1 [.u16,.u16] false (encM kP (eL TRun.e) y22.2.2))] [(100,.cells 61 [.mp 101])] (ack_Matrix_Hear_o_ok a2.who a2.c nl3 m4 y22 hy23) hK (fun _ he=>⟨he rfl rfl,evsE he rfl rfl⟩) Tryz.call15 (by first | rfl | (simp;done) | (simp [PV.nilD,PV.ren,rn] <;> omega)) (by repeat' first | constructor | (congr 1;first | (simp;done) | (simp;omega) | omega)) (.cons rfl<|.nil) (.cons rfl<|.nil) (.cons (by first | rfl | (congr 1;first | (simp;done) | (simp;omega) | omega))<|.nil) rfl rfl rfl rfl rfl rfl (.inl rfl) rfl ?_;refine PQe.stepP (fun _ he ho=>mV (he rfl rfl)) (.inl rfl) rfl ?_;refine PQe.stepP (fun _ he ho=>eQ (he rfl rfl) (he rfl rfl)) (.inl rfl) rfl ?_;refine PQe.stepP (fun _ he ho=>aS (he rfl rfl)) (.inl rfl) rfl ?_;refine PQe.stepP (fun _ he ho=>aS (he rfl rfl)) (.inl rfl) rfl<|PQe.nil<|wX ?_;obtain ⟨hrr,hQ⟩:=(h:_ ∧ _)
      subst hrr;exact EndsO.mk ⟨(v20.1,(decide (y22.1 = v20.2)),y22.2.1,y22.2.2),rfl,hQ⟩ (.inr rfl) (sP (tl:=[(6,_),(7,_)]) (to:=[(100,_),(101,_),(102,_),(1100,_)])) (.cons (.tmp rfl)<|.cons (.tmp rfl)<|.nil) rfl rfl
     ·replace h:=iF hc19 h;refine wQ<|wR<|wS (eQ rfl rfl) rfl<|wa ?_;refine wN ?_;refine wC rfl (fun hc24=>?_) (fun hc24=>?_)
      ·replace h:=iT hc24 h;refine wQ<|wR<|wm ?_;refine wS (LR.nilCheckRef rfl) rfl<|wS (lD Tryz.isAgg28 rfl rfl rfl) rfl<|wa ?_;refine wN<|wQ<|wR<|wm ?_;refine wm ?_;replace h:=iBind h;refine PWl.callObjS [(100,101),(101,102),(8,83),(20161,21661)] [] [100,101,8,20161] (fun gh:Subtype (α:=Bool × (List ((Int × Int) × List TRun))) _=>[(8,.cells 61 [.mp 20161]),(20161,.mapH gh.1.1 [.u16,.u16] false (encM kP (eL TRun.e) gh.1.2))]) [(100,.cells 61 [.mp 101]),(101,.mapH nl3 [.u16,.u16] false (encM kP (eL TRun.e) m4))] (ack_Matrix_Copy_o_ok nl3 m4 h) hK rfl Tryz.call12 rfl (by first | rfl | (simp;done) | (simp [PV.nilD,PV.ren,rn] <;> omega)) (by repeat' first | constructor | (congr 1;first | (simp;done) | (simp;omega) | omega)) (fun _=>.cons rfl<|.cons rfl<|.nil) (fun _=>.cons rfl<|.cons rfl<|.nil) (by repeat' first | constructor | (congr 1;first | (simp;done) | (simp;omega) | omega)) (fun _=>rfl) rfl (fun _=>rfl) (fun _=>rfl) rfl rfl rfl (fun gh=>?_);obtain ⟨y25,h⟩:=gh;refine wS (LR.nilCheckRef rfl) rfl<|wS (sB (ns:=[_]) Tryz.sizeOf28 rfl rfl rfl rfl rfl rfl rfl) rfl<|wN<|wQ<|wz (tl:=[(1,_),(5,_),(14,_)]) (to:=[(5,_),(83,_),(100,_),(101,_),(102,_),(1100,_),(21661,_)]) ?_;refine wR<|wm ?_;replace h:=iDet h;obtain ⟨y27,hy28,h⟩:=h;refine wS (LR.callObjS [(100,101),(101,102)] [] [100,101] [(101,.mapH y27.2.1 [.u16,.u16] false (encM kP (eL TRun.e) y27.2.2))] [(100,.cells 61 [.mp 101])] (ack_Matrix_Join_o_ok 7 nl3 m4 y27 hy28) hK rfl Tryz.call13 rfl (by first | rfl | (simp;done) | (simp [PV.nilD,PV.ren,rn] <;> omega)) (by repeat' first | constructor | (congr 1;first | (simp;done) | (simp;omega) | omega)) (.cons rfl<|.nil) (.cons rfl<|.nil) (.cons (by first | rfl | (congr 1;first | (simp;done) | (simp;omega) | omega))<|.nil) rfl rfl rfl rfl rfl rfl) rfl ?_;refine wN<|wQ<|wz (tl:=[(1,_),(5,_),(14,_)]) (to:=[(5,_),(83,_),(100,_),(101,_),(102,_),(1100,_),(21661,_)]) ?_;refine wR<|wm ?_;refine wS (fR Tryz.underlying33 rfl Tryz.sizeOf31 (by decide) rfl rfl) rfl<|wS (lD Tryz.isAgg31 rfl rfl rfl) rfl<|wS (fR Tryz.underlying33 rfl Tryz.sizeOf24 (by decide) rfl rfl) rfl<|wS (lD Tryz.isAgg24 rfl rfl rfl) rfl ?_;replace h:=iDet h;obtain ⟨y29,hy30,h⟩:=h;refine wS (LR.callObjS [(100,101),(101,102)] [] [100,101] [(101,.mapH y29.2.1 [.u16,.u16] false (encM kP (eL TRun.e) y29.2.2))] [(100,.cells 61 [.mp 101])] (ack_Matrix_Hear_o_ok a2.who a2.c y27.2.1 y27.2.2 y29 hy30) hK rfl Tryz.call15 rfl (by first | rfl | (simp;done) | (simp [PV.nilD,PV.ren,rn] <;> omega)) (by repeat' first | constructor | (congr 1;first | (simp;done) | (simp;omega) | omega)) (.cons rfl<|.nil) (.cons rfl<|.nil) (.cons (by first | rfl | (congr 1;first | (simp;done) | (simp;omega) | omega))<|.nil) rfl rfl rfl rfl rfl rfl) rfl ?_;refine wN<|wz (tl:=[(1,_),(14,_)]) (to:=[(83,_),(100,_),(101,_),(102,_),(1100,_),(21661,_)]) ?_;refine wR<|wm ?_;replace h:=iDet h;obtain ⟨y31,hy32,h⟩:=h;refine wS (LR.callObjS [(100,101),(101,102)] [] [100,101] [(101,.mapH y31.2.1 [.u16,.u16] false (encM kP (eL TRun.e) y31.2.2))] [(100,.cells 61 [.mp 101])] (ack_Matrix_Leave_o_ok 1 y29.2.1 y29.2.2 y31 hy32) hK rfl Tryz.call14 rfl (by first | rfl | (simp;done) | (simp [PV.nilD,PV.ren,rn] <;> omega)) (by repeat' first | constructor | (congr 1;first | (simp;done) | (simp;omega) | omega)) (.cons rfl<|.nil) (.cons rfl<|.nil) (.cons (by first | rfl | (congr 1;first | (simp;done) | (simp;omega) | omega))<|.nil) rfl rfl rfl rfl rfl rfl) rfl ?_;refine wN ?_;exact ⟨(y25.1,y25.2),(),h,Sub.rnm [(101,83),(102,21661)] rfl (.cons (by first | rfl | (congr 1;first | (simp;done) | (simp;omega) | omega))<|.nil) (by repeat' first | constructor | (congr 1;first | (simp;done) | (simp;omega) | omega)) rfl⟩
      ·replace h:=iF hc24 h;refine wK ?_;exact ⟨(nl3,m4),(),h,sP⟩
 ·rintro ⟨nl5,v6⟩ _ h;refine wQ<|wR<|wm ?_;refine wa ?_;refine wa ?_;refine wN<|wX ?_;obtain ⟨hrr,hQ⟩:=(h:_ ∧ _)
  subst hrr;exact EndsO.mk ⟨(x1,true,nl5,v6),rfl,hQ⟩ (.inr rfl) (sP (tl:=[(6,_),(7,_)]) (to:=[(100,_),(101,_),(102,_),(1100,_)])) (.cons (.tmp rfl)<|.cons (.tmp rfl)<|.nil) rfl rfl

theorem ack_Below_o1_ok (nl1:Bool) (m2:List ((Int × Int) × List TRun)) (r0:Bool) (h:(ack_Below_o1 nl1 m2).wp (· = r0)):PObj Tryz.prog 19 [.ref 100 0,.ref 100 0] [(100,.cells 61 [.mp 101]),(101,.mapH nl1 [.u16,.u16] false (encM kP (eL TRun.e) m2))] [100,101] (.d (.v (.bool r0))) (fun _:Unit=>[(100,.cells 61 [.mp 101]),(101,.mapH nl1 [.u16,.u16] false (encM kP (eL TRun.e) m2))]):=by
 refine PObj.intro (sl:=[(0,_),(1,_)]) Tryz.func19 rfl Tryz.ntmps19 rfl rfl rfl ?_;intro ctx hK pv;refine wQ<|wR<|wa ?_;refine wN<|wQ<|wQ<|wR<|wm ?_;replace h:=iDet h;obtain ⟨y3,hy4,h⟩:=h;refine wS (LR.callObjS [(100,100),(101,101)] [] [100,101] [] [(100,.cells 61 [.mp 101]),(101,.mapH nl1 [.u16,.u16] false (encM kP (eL TRun.e) m2))] (ack_Matrix_Members_o_ok nl1 m2 y3 hy4) hK rfl Tryz.call17 rfl (by first | rfl | (simp;done) | (simp [PV.nilD,PV.ren,rn] <;> omega)) (by repeat' first | constructor | (congr 1;first | (simp;done) | (simp;omega) | omega)) (.nil) (.cons rfl<|.cons rfl<|.nil) (by repeat' first | constructor | (congr 1;first | (simp;done) | (simp;omega) | omega)) rfl rfl rfl rfl rfl rfl) rfl ?_;refine wS (lM (enc:=(eK .u16)) (L:=y3) Tryz.underlying38 rfl) rfl<|wm ?_;refine wN ?_;refine PWc.jnX (iBind h) (fun (_:Unit) (_:Unit)=>⟨29,[],[(100,.cells 61 [.mp 101]),(101,.mapH nl1 [.u16,.u16] false (encM kP (eL TRun.e) m2)),(1100,.pin 100 (pv 100)),(1101,.pin 101 (pv 101))]⟩) (fun h=>?_) ?_
 ·refine wB<|wM (fun (v34:Int) (_:Unit)=>⟨29,[(0,.ref 100 0),(1,.ref 100 0),(8,.d (.sl (List.map (eK .u16) y3))),(9,.d (.v (.int .i64 (List.length y3:Int)))),(10,.d (.v (.int .i64 v34)))],[(100,.cells 61 [.mp 101]),(101,.mapH nl1 [.u16,.u16] false (encM kP (eL TRun.e) m2)),(1100,.pin 100 (pv 100)),(1101,.pin 101 (pv 101))]⟩) () h (sP) ?_;rintro N v34 _ h;refine wQ<|wR<|wS (LR.lss rfl rfl) rfl<|wN<|wQ ?_;refine wC rfl (fun hc35=>?_) (fun hc35=>?_)
  ·replace h:=iT hc35 h;refine wK<|wQ<|wB<|wQ<|wR ?_;replace h:=iIdx h;obtain ⟨x36,hy37,h⟩:=h;refine wS (iX (enc:=(eK .u16)) (L:=y3) (y:=x36) Tryz.underlying38 Tryz.sizeOf31 rfl rfl hy37 (fun _=>rfl)) rfl<|wS (LR.loadEp Tryz.isAgg31 rfl rfl) rfl<|wa ?_;refine wN<|wQ ?_;refine wJ (iBind h) (fun (v38:Bool) (_:Unit)=>⟨29,[(0,.ref 100 0),(1,.ref 100 0),(8,.d (.sl (List.map (eK .u16) y3))),(9,.d (.v (.int .i64 (List.length y3:Int)))),(10,.d (.v (.int .i64 v34))),(27,.d (.v (.bool v38)))],[(100,.cells 61 [.mp 101]),(101,.mapH nl1 [.u16,.u16] false (encM kP (eL TRun.e) m2)),(1100,.pin 100 (pv 100)),(1101,.pin 101 (pv 101))]⟩) (fun h=>?_) ?_
   ·refine wR<|wm ?_;refine wm ?_;replace h:=iDet h;obtain ⟨y39,hy40,h⟩:=h;refine wS (LR.callObjS [(100,100),(101,101)] [] [100,101] [] [(100,.cells 61 [.mp 101]),(101,.mapH nl1 [.u16,.u16] false (encM kP (eL TRun.e) m2))] (ack_Matrix_is_o_ok x36 nl1 m2 y39 hy40) hK rfl Tryz.call34 rfl (by first | rfl | (simp;done) | (simp [PV.nilD,PV.ren,rn] <;> omega)) (by repeat' first | constructor | (congr 1;first | (simp;done) | (simp;omega) | omega)) (.nil) (.cons rfl<|.cons rfl<|.nil) (by repeat' first | constructor | (congr 1;first | (simp;done) | (simp;omega) | omega)) rfl rfl rfl rfl rfl rfl) rfl ?_;refine wS (LR.not rfl) rfl<|wm ?_;refine wL (d:=18) rfl (fun hg41=>?_) (fun hg41=>?_)
    ·replace h:=iT hg41 h;refine wf<|wf<|wf<|wf<|wf<|wf<|wy (tl:=[(0,_),(1,_),(8,_),(9,_),(10,_),(18,_),(19,_),(20,_),(21,_),(22,_),(23,_),(24,_)]) (to:=[(100,_),(101,_),(1100,_),(1101,_)]) ?_;refine wf<|wf<|wS (pT rfl rfl) rfl<|wN ?_;exact ⟨true,(),h,sP⟩
    ·replace h:=iF hg41 h;refine wT (mV rfl) rfl rfl rfl<|wT (mV rfl) rfl rfl rfl ?_;replace h:=iDet h;obtain ⟨y42,hy43,h⟩:=h;refine wT (LR.callObjS [(100,100),(101,101)] [] [100,101] [] [(100,.cells 61 [.mp 101]),(101,.mapH nl1 [.u16,.u16] false (encM kP (eL TRun.e) m2))] (ack_Matrix_Row_o_ok x36 nl1 m2 y42 hy43) hK rfl Tryz.call18 rfl (by first | rfl | (simp;done) | (simp [PV.nilD,PV.ren,rn] <;> omega)) (by repeat' first | constructor | (congr 1;first | (simp;done) | (simp;omega) | omega)) (.nil) (.cons rfl<|.cons rfl<|.nil) (by repeat' first | constructor | (congr 1;first | (simp;done) | (simp;omega) | omega)) rfl rfl rfl rfl rfl rfl) rfl rfl rfl ?_;refine wy (tl:=[(0,_),(1,_),(6,_),(8,_),(9,_),(10,_),(18,_),(19,_),(20,_),(21,_)]) (to:=[(100,_),(101,_),(1100,_),(1101,_)]) ?_;refine wT (mV rfl) rfl rfl rfl<|wT (mV rfl) rfl rfl rfl ?_;replace h:=iDet h;obtain ⟨y44,hy45,h⟩:=h;refine wT (LR.callObjS [(100,100),(101,101)] [] [100,101] [] [(100,.cells 61 [.mp 101]),(101,.mapH nl1 [.u16,.u16] false (encM kP (eL TRun.e) m2))] (ack_Matrix_Row_o_ok x36 nl1 m2 y44 hy45) hK rfl Tryz.call18 rfl (by first | rfl | (simp;done) | (simp [PV.nilD,PV.ren,rn] <;> omega)) (by repeat' first | constructor | (congr 1;first | (simp;done) | (simp;omega) | omega)) (.nil) (.cons rfl<|.cons rfl<|.nil) (by repeat' first | constructor | (congr 1;first | (simp;done) | (simp;omega) | omega)) rfl rfl rfl rfl rfl rfl) rfl rfl rfl ?_;replace h:=iDet h;obtain ⟨v46,hy47,h⟩:=h;refine wT (cN (ctx_Within_ok y42 y44 v46 hy47) rfl Tryz.call38 rfl rfl rfl rfl) rfl rfl rfl<|wT (LR.not rfl) rfl rfl rfl<|wS (pF rfl rfl) rfl<|wN ?_;exact ⟨(!v46),(),h,sP⟩
   ·rintro v38 _ h;refine wC rfl (fun hc48=>?_) (fun hc48=>?_)
    ·replace h:=iT hc48 h;refine wQ<|wR<|wa ?_;refine wN<|wX ?_;replace h:_ = r0:=h;subst h;exact EndsO.mk () (.inr rfl) (sP (tl:=[(4,_)]) (to:=[(100,_),(101,_),(1100,_),(1101,_)])) (.cons (.tmp rfl)<|.nil) rfl rfl
    ·replace h:=iF hc48 h;refine wK<|wR<|wS (LR.addW rfl rfl) rfl<|wm ?_;refine wN ?_;exact ⟨(IntKind.i64.wrap (v34 + 1)),(),h,sP⟩
  ·replace h:=iF hc35 h;refine wZ ?_;exact ⟨(),(),h,sP⟩
 ·rintro _ _ h;refine wQ<|wR<|wa ?_;refine wN<|wX ?_;replace h:_ = r0:=h;subst h;exact EndsO.mk () (.inr rfl) (sP (tl:=[(4,_)]) (to:=[(100,_),(101,_),(1100,_),(1101,_)])) (.cons (.tmp rfl)<|.nil) rfl rfl

theorem ack_Matrix_Members_nil_ok  (r0:List Int) (h:(ack_Matrix_Members_nil ).wp (· = r0)):PRow Tryz.prog 17 [.d (.v (.pointer none))] 31 1 (List.map (eK .u16) r0):=by
 refine PRow.intro (sl:=[(0,_)]) Tryz.func17 rfl Tryz.ntmps17 rfl rfl ?_;intro ctx hK;refine wQ<|wR<|wS (aR 31 1 rfl) rfl<|wN<|wQ<|wQ<|wR<|wm ?_;refine wS (LR.eqlPtrN Tryz.underlying28 rfl) rfl<|wN<|PWc.condT rfl<|wQ<|wR<|wy (tl:=[(0,_),(5,_),(6,_)]) (to:=[]) ?_;refine wS (aR 31 1 rfl) rfl<|wN<|wX ?_;replace h:_ = r0:=h;subst h;exact ⟨.inr rfl,2,rfl,.inr ⟨2,_,rfl,(by first | (simp;done) | (simp;omega) | omega),rfl⟩⟩

theorem ack_Matrix_Row_nil_ok (who1:Int) (r0:List TPart) (h:(ack_Matrix_Row_nil who1).wp (· = r0)):PRow Tryz.prog 18 [.d (.v (.pointer none)),.d (.v (.int .u16 who1))] 65 2 (List.map TPart.e r0):=by
 refine PRow.intro (sl:=[(0,_),(1,_)]) Tryz.func18 rfl Tryz.ntmps18 rfl rfl ?_;intro ctx hK;refine wQ<|wR<|wS (aR 65 2 rfl) rfl<|wN<|wQ<|wQ<|wR<|wm ?_;refine wS (LR.eqlPtrN Tryz.underlying28 rfl) rfl<|wN<|PWc.condT rfl<|wQ<|wR<|wy (tl:=[(0,_),(1,_),(8,_),(9,_)]) (to:=[]) ?_;refine wS (aR 65 2 rfl) rfl<|wN<|wX ?_;replace h:_ = r0:=h;subst h;exact ⟨.inr rfl,4,rfl,.inr ⟨4,_,rfl,(by first | (simp;done) | (simp;omega) | omega),rfl⟩⟩
end Go.Proofs

namespace Go.Proofs
open Go.Ep
set_option maxHeartbeats 1000000
set_option maxRecDepth 100000
set_option linter.unusedVariables false
set_option linter.unusedSimpArgs false


theorem ack_Below_o2_ok (nl1:Bool) (m2:List ((Int × Int) × List TRun)) (r0:Bool) (h:(ack_Below_o2 nl1 m2).wp (· = r0)):PObj Tryz.prog 19 [.d (.v (.pointer none)),.ref 100 0] [(100,.cells 61 [.mp 101]),(101,.mapH nl1 [.u16,.u16] false (encM kP (eL TRun.e) m2))] [100,101] (.d (.v (.bool r0))) (fun _:Unit=>[(100,.cells 61 [.mp 101]),(101,.mapH nl1 [.u16,.u16] false (encM kP (eL TRun.e) m2))]):=by
 refine PObj.intro (sl:=[(0,_),(1,_)]) Tryz.func19 rfl Tryz.ntmps19 rfl rfl rfl ?_;intro ctx hK pv;refine wQ<|wR<|wa ?_;refine wN<|wQ<|wQ<|wR<|wm ?_;replace h:=iDet h;obtain ⟨v3,hy4,h⟩:=h;refine wS (LR.rowN (ack_Matrix_Members_nil_ok v3 hy4) rfl Tryz.call17 rfl rfl rfl rfl) rfl<|wS (LR.lenRow Tryz.underlying38 rfl) rfl<|wm ?_;refine wN ?_;refine PWc.jnX (iBind h) (fun (_:Unit) (_:Unit)=>⟨29,[],[(100,.cells 61 [.mp 101]),(101,.mapH nl1 [.u16,.u16] false (encM kP (eL TRun.e) m2)),(1100,.pin 100 (pv 100)),(1101,.pin 101 (pv 101))]⟩) (fun h=>?_) ?_
 ·refine wB<|wM (fun (v34:Int) (_:Unit)=>⟨29,[(0,.d (.v (.pointer none))),(1,.ref 100 0),(8,.row 8 (List.length v3)),(9,.d (.v (.int .i64 ((List.length v3):Int)))),(10,.d (.v (.int .i64 v34)))],[(8,.row 31 1 (List.map (eK .u16) v3)),(100,.cells 61 [.mp 101]),(101,.mapH nl1 [.u16,.u16] false (encM kP (eL TRun.e) m2)),(1100,.pin 100 (pv 100)),(1101,.pin 101 (pv 101))]⟩) () h (sP) ?_;rintro N v34 _ h;refine wQ<|wR<|wS (LR.lss rfl rfl) rfl<|wN<|wQ ?_;refine wC rfl (fun hc35=>?_) (fun hc35=>?_)
  ·replace h:=iT hc35 h;refine wK<|wQ<|wB<|wQ<|wR ?_;replace h:=iIdx h;obtain ⟨x36,hy37,h⟩:=h;refine wS (LR.idxRowT (L:=v3) (y:=x36) Tryz.underlying38 Tryz.sizeOf31 rfl rfl rfl hy37) rfl<|wS (LR.loadRpF (enc:=(eK .u16)) (L:=v3) (y:=x36) Tryz.isAgg31 rfl rfl hy37.2 rfl) rfl<|wa ?_;refine wN<|wQ ?_;refine wJ (iBind h) (fun (v38:Bool) (_:Unit)=>⟨29,[(0,.d (.v (.pointer none))),(1,.ref 100 0),(8,.row 8 (List.length v3)),(9,.d (.v (.int .i64 ((List.length v3):Int)))),(10,.d (.v (.int .i64 v34))),(27,.d (.v (.bool v38)))],[(8,.row 31 1 (List.map (eK .u16) v3)),(100,.cells 61 [.mp 101]),(101,.mapH nl1 [.u16,.u16] false (encM kP (eL TRun.e) m2)),(1100,.pin 100 (pv 100)),(1101,.pin 101 (pv 101))]⟩) (fun h=>?_) ?_
   ·refine wR<|wm ?_;refine wm ?_;replace h:=iDet h;obtain ⟨y39,hy40,h⟩:=h;refine wS (LR.callObjS [(100,100),(101,101)] [] [100,101] [] [(100,.cells 61 [.mp 101]),(101,.mapH nl1 [.u16,.u16] false (encM kP (eL TRun.e) m2))] (ack_Matrix_is_o_ok x36 nl1 m2 y39 hy40) hK rfl Tryz.call34 rfl (by first | rfl | (simp;done) | (simp [PV.nilD,PV.ren,rn] <;> omega)) (by repeat' first | constructor | (congr 1;first | (simp;done) | (simp;omega) | omega)) (.nil) (.cons rfl<|.cons rfl<|.nil) (by repeat' first | constructor | (congr 1;first | (simp;done) | (simp;omega) | omega)) rfl rfl rfl rfl rfl rfl) rfl ?_;refine wS (LR.not rfl) rfl<|wm ?_;refine wL (d:=18) rfl (fun hg41=>?_) (fun hg41=>?_)
    ·replace h:=iT hg41 h;refine wf<|wf<|wf<|wf<|wf<|wf<|wy (tl:=[(0,_),(1,_),(8,_),(9,_),(10,_),(18,_),(19,_),(20,_),(21,_),(22,_),(23,_),(24,_)]) (to:=[(8,_),(100,_),(101,_),(1100,_),(1101,_)]) ?_;refine wf<|wf<|wS (pT rfl rfl) rfl<|wN ?_;exact ⟨true,(),h,sP⟩
    ·replace h:=iF hg41 h;refine wT (mV rfl) rfl rfl rfl<|wT (mV rfl) rfl rfl rfl ?_;replace h:=iDet h;obtain ⟨v42,hy43,h⟩:=h;refine wT (LR.rowN (ack_Matrix_Row_nil_ok x36 v42 hy43) rfl Tryz.call18 rfl rfl rfl rfl) rfl rfl rfl<|wT (mV rfl) rfl rfl rfl<|wT (mV rfl) rfl rfl rfl ?_;replace h:=iDet h;obtain ⟨y44,hy45,h⟩:=h;refine wT (LR.callObjS [(100,100),(101,101)] [] [100,101] [] [(100,.cells 61 [.mp 101]),(101,.mapH nl1 [.u16,.u16] false (encM kP (eL TRun.e) m2))] (ack_Matrix_Row_o_ok x36 nl1 m2 y44 hy45) hK rfl Tryz.call18 rfl (by first | rfl | (simp;done) | (simp [PV.nilD,PV.ren,rn] <;> omega)) (by repeat' first | constructor | (congr 1;first | (simp;done) | (simp;omega) | omega)) (.nil) (.cons rfl<|.cons rfl<|.nil) (by repeat' first | constructor | (congr 1;first | (simp;done) | (simp;omega) | omega)) rfl rfl rfl rfl rfl rfl) rfl rfl rfl ?_;refine wy (tl:=[(0,_),(1,_),(8,_),(9,_),(10,_),(18,_),(19,_),(20,_),(21,_),(22,_),(23,_),(24,_)]) (to:=[(8,_),(21,_),(100,_),(101,_),(1100,_),(1101,_)]) ?_;replace h:=iDet h;obtain ⟨v46,hy47,h⟩:=h;refine PWl.frz [21] hK (.cons rfl<|.nil) rfl (by simp) ?_;refine wT (cN (ctx_Within_ok v42 y44 v46 hy47) rfl Tryz.call38 rfl rfl rfl rfl) rfl rfl rfl<|wT (LR.not rfl) rfl rfl rfl<|wS (pF rfl rfl) rfl<|wN ?_;exact ⟨(!v46),(),h,sP⟩
   ·rintro v38 _ h;refine wC rfl (fun hc48=>?_) (fun hc48=>?_)
    ·replace h:=iT hc48 h;refine wQ<|wR<|wa ?_;refine wN<|wX ?_;replace h:_ = r0:=h;subst h;exact EndsO.mk () (.inr rfl) (sP (tl:=[(4,_)]) (to:=[(100,_),(101,_),(1100,_),(1101,_)])) (.cons (.tmp rfl)<|.nil) rfl rfl
    ·replace h:=iF hc48 h;refine wK<|wR<|wS (LR.addW rfl rfl) rfl<|wm ?_;refine wN ?_;exact ⟨(IntKind.i64.wrap (v34 + 1)),(),h,sP⟩
  ·replace h:=iF hc35 h;refine wZ ?_;exact ⟨(),(),h,sP⟩
 ·rintro _ _ h;refine wQ<|wR<|wa ?_;refine wN<|wX ?_;replace h:_ = r0:=h;subst h;exact EndsO.mk () (.inr rfl) (sP (tl:=[(4,_)]) (to:=[(100,_),(101,_),(1100,_),(1101,_)])) (.cons (.tmp rfl)<|.nil) rfl rfl

theorem ack_Matrix_is_nil_ok (who1:Int) (r0:Bool) (h:(ack_Matrix_is_nil who1).wp (· = r0)):PFun Tryz.prog 34 [.d (.v (.pointer none)),.d (.v (.int .u16 who1))] (.d (.v (.bool r0))):=by
 refine fI (sl:=[(0,_),(1,_)]) Tryz.func34 rfl Tryz.ntmps34 rfl rfl ?_;intro ctx hK;refine wQ<|wR<|wa ?_;refine wN<|wQ<|wQ<|wR<|wm ?_;refine wS (LR.eqlPtrN Tryz.underlying28 rfl) rfl<|wN<|PWc.condT rfl<|wQ<|wR<|wa ?_;refine wN<|wX ?_;replace h:_ = r0:=h;subst h;exact ⟨.inr rfl,_,.cons (.tmp rfl rfl)<|.nil,rfl⟩

theorem ack_Below_o3_ok (nl1:Bool) (m2:List ((Int × Int) × List TRun)) (r0:Bool) (h:(ack_Below_o3 nl1 m2).wp (· = r0)):PObj Tryz.prog 19 [.ref 100 0,.d (.v (.pointer none))] [(100,.cells 61 [.mp 101]),(101,.mapH nl1 [.u16,.u16] false (encM kP (eL TRun.e) m2))] [100,101] (.d (.v (.bool r0))) (fun _:Unit=>[(100,.cells 61 [.mp 101]),(101,.mapH nl1 [.u16,.u16] false (encM kP (eL TRun.e) m2))]):=by
 refine PObj.intro (sl:=[(0,_),(1,_)]) Tryz.func19 rfl Tryz.ntmps19 rfl rfl rfl ?_;intro ctx hK pv;refine wQ<|wR<|wa ?_;refine wN<|wQ<|wQ<|wR<|wm ?_;replace h:=iDet h;obtain ⟨y3,hy4,h⟩:=h;refine wS (LR.callObjS [(100,100),(101,101)] [] [100,101] [] [(100,.cells 61 [.mp 101]),(101,.mapH nl1 [.u16,.u16] false (encM kP (eL TRun.e) m2))] (ack_Matrix_Members_o_ok nl1 m2 y3 hy4) hK rfl Tryz.call17 rfl (by first | rfl | (simp;done) | (simp [PV.nilD,PV.ren,rn] <;> omega)) (by repeat' first | constructor | (congr 1;first | (simp;done) | (simp;omega) | omega)) (.nil) (.cons rfl<|.cons rfl<|.nil) (by repeat' first | constructor | (congr 1;first | (simp;done) | (simp;omega) | omega)) rfl rfl rfl rfl rfl rfl) rfl ?_;refine wS (lM (enc:=(eK .u16)) (L:=y3) Tryz.underlying38 rfl) rfl<|wm ?_;refine wN ?_;refine PWc.jnX (iBind h) (fun (_:Unit) (_:Unit)=>⟨29,[],[(100,.cells 61 [.mp 101]),(101,.mapH nl1 [.u16,.u16] false (encM kP (eL TRun.e) m2)),(1100,.pin 100 (pv 100)),(1101,.pin 101 (pv 101))]⟩) (fun h=>?_) ?_
 ·refine wB<|wM (fun (_:Unit) (_:Unit)=>⟨29,[(0,.ref 100 0),(1,.d (.v (.pointer none))),(8,.d (.sl (List.map (eK .u16) y3))),(9,.d (.v (.int .i64 (List.length y3:Int)))),(10,.d (.v (.int .i64 0)))],[(100,.cells 61 [.mp 101]),(101,.mapH nl1 [.u16,.u16] false (encM kP (eL TRun.e) m2)),(1100,.pin 100 (pv 100)),(1101,.pin 101 (pv 101))]⟩) () h (sP) ?_;rintro N _ _ h;refine wQ<|wR<|wS (LR.lss rfl rfl) rfl<|wN<|wQ ?_;refine wC rfl (fun hc10=>?_) (fun hc10=>?_)
  ·replace h:=iT hc10 h;refine wK<|wQ<|wB<|wQ<|wR ?_;replace h:=iIdx h;obtain ⟨x11,hy12,h⟩:=h;refine wS (iX (enc:=(eK .u16)) (L:=y3) (y:=x11) Tryz.underlying38 Tryz.sizeOf31 rfl rfl hy12 (fun _=>rfl)) rfl<|wS (LR.loadEp Tryz.isAgg31 rfl rfl) rfl<|wa ?_;refine wN<|wQ<|wR<|wm ?_;refine wm ?_;replace h:=iDet h;obtain ⟨v13,hy14,h⟩:=h;replace hy14:false = v13:=hy14;subst hy14;refine wS (cN (ack_Matrix_is_nil_ok x11 false rfl) rfl Tryz.call34 rfl rfl rfl rfl) rfl<|wS (LR.not rfl) rfl<|wm ?_;refine wf<|wf<|wf<|wf<|wf<|wf<|wf<|wf<|wS (pT rfl rfl) rfl ?_;refine wN<|PWc.condT rfl<|wQ<|wR<|wy (tl:=[]) (to:=[(100,_),(101,_),(1100,_),(1101,_)]) ?_;refine wa ?_;refine wN<|wX ?_;replace h:_ = r0:=h;subst h;exact EndsO.mk () (.inr rfl) (sP (tl:=[(4,_)]) (to:=[(100,_),(101,_),(1100,_),(1101,_)])) (.cons (.tmp rfl)<|.nil) rfl rfl
  ·replace h:=iF hc10 h;refine wZ ?_;exact ⟨(),(),h,sP⟩
 ·rintro _ _ h;refine wQ<|wR<|wa ?_;refine wN<|wX ?_;replace h:_ = r0:=h;subst h;exact EndsO.mk () (.inr rfl) (sP (tl:=[(4,_)]) (to:=[(100,_),(101,_),(1100,_),(1101,_)])) (.cons (.tmp rfl)<|.nil) rfl rfl

theorem l25_AckBelow_ok (l1:List L25Act) (k2:List L25Act) (r0:Bool) (h:(l25_AckBelow l1 k2).wp (· = r0)):PFun Tryz.prog 4 [.d (.sl (List.map L25Act.e l1)),.d (.sl (List.map L25Act.e k2))] (.d (.v (.bool r0))):=by
 refine fI (sl:=[(0,_),(1,_)]) Tryz.func4 rfl Tryz.ntmps4 rfl rfl ?_;intro ctx hK;refine wQ<|wR<|wa ?_;refine wN<|wQ<|wQ ?_;refine wJ (iBind h) (fun (v3:Bool) (_:Unit)=>⟨98,[(0,.d (.sl (List.map L25Act.e l1))),(1,.d (.sl (List.map L25Act.e k2))),(19,.d (.v (.bool v3)))],[]⟩) (fun h=>?_) ?_
 ·refine wR<|wm ?_;replace h:=iDet h;obtain ⟨v4,hy5,h⟩:=h;refine wS (cN (l25_few_ok l1 v4 hy5) rfl Tryz.call7 rfl rfl rfl rfl) rfl<|wS (LR.not rfl) rfl<|wm ?_;refine wL (d:=15) rfl (fun hg6=>?_) (fun hg6=>?_)
  ·replace h:=iT hg6 h;refine wf<|wf<|wf<|wS (pT rfl rfl) rfl<|wN ?_;exact ⟨true,(),h,sP⟩
  ·replace h:=iF hg6 h;refine wT (mV rfl) rfl rfl rfl ?_;replace h:=iDet h;obtain ⟨v7,hy8,h⟩:=h;refine wT (cN (l25_few_ok k2 v7 hy8) rfl Tryz.call7 rfl rfl rfl rfl) rfl rfl rfl<|wT (LR.not rfl) rfl rfl rfl<|wS (pF rfl rfl) rfl<|wN ?_;exact ⟨(!v7),(),h,sP⟩
 ·rintro v3 _ h;refine wC rfl (fun hc9=>?_) (fun hc9=>?_)
  ·replace h:=iT hc9 h;refine wQ<|wR ?_;replace h:=iDet h;obtain ⟨v10,hy11,h⟩:=h;refine wS (cN (l25_works_ok v10 hy11) rfl Tryz.call9 rfl rfl rfl rfl) rfl<|wa ?_;refine wN<|wX ?_;replace h:_ = r0:=h;subst h;exact ⟨.inr rfl,_,.cons (.tmp rfl rfl)<|.nil,rfl⟩
  ·replace h:=iF hc9 h;refine wK<|wQ<|wR ?_;replace h:=iDet h;obtain ⟨y12,hy13,h⟩:=h;refine wS (LR.callObj [(2,21),(30040,20421)] [] [2,30040] (ack_New_o_ok y12 hy13) hK rfl Tryz.call10 rfl (by first | rfl | (simp;done) | (simp [PV.nilD,PV.ren,rn] <;> omega)) (.nil) rfl rfl rfl rfl) rfl ?_;replace h:=iDet h;obtain ⟨y14,hy15,h⟩:=h;refine wS (LR.callObj [(2,22),(30040,20441)] [] [2,30040] (ack_New_o_ok y14 hy15) hK rfl Tryz.call10 rfl (by first | rfl | (simp;done) | (simp [PV.nilD,PV.ren,rn] <;> omega)) (.nil) rfl rfl rfl rfl) rfl ?_;refine wy (tl:=[(0,_),(1,_),(21,_),(22,_)]) (to:=[(21,_),(22,_),(20421,_),(20441,_)]) ?_;refine wS (LR.allocZ (cs:=[_]) Tryz.zeroValue28 rfl rfl rfl rfl) rfl<|wS (LR.allocZ (cs:=[_]) Tryz.zeroValue28 rfl rfl rfl rfl) rfl<|wS (sB (ns:=[_]) Tryz.sizeOf28 rfl rfl rfl rfl rfl rfl rfl) rfl<|wS (sB (ns:=[_]) Tryz.sizeOf28 rfl rfl rfl rfl rfl rfl rfl) rfl<|wN<|wQ<|wR<|wS (aR 79 2 rfl) rfl<|wS (aR 79 2 rfl) rfl ?_;refine wN<|wQ<|wR<|wa ?_;refine wN<|wQ<|wQ<|wR<|wa ?_;refine wN ?_;refine wJ (iBind h) (fun (⟨x16,ok17,nl18,v19⟩:List R25Row × Bool × Bool × (List ((Int × Int) × List TRun))) (_:Unit)=>⟨98,[(1,.d (.sl (List.map L25Act.e k2))),(5,.ref 5 0),(6,.ref 6 0),(7,.d (.sl (List.map R25Row.e x16))),(8,.row 8 0),(9,.d (.v (.bool ok17)))],[(5,.cells 28 [.ref 21 0]),(6,.cells 28 [.ref 22 0]),(8,.row 79 2 (List.map R25Row.e ([]:List R25Row))),(21,.cells 61 [.mp 20421]),(22,.cells 61 [.mp 20441]),(20421,.mapH nl18 [.u16,.u16] false (encM kP (eL TRun.e) v19)),(20441,.mapH y14.1 [.u16,.u16] false (encM kP (eL TRun.e) y14.2))]⟩) (fun h=>?_) ?_
   ·refine wB ?_;refine wM (fun (⟨x39,ok40,i41,nl42,v43⟩:List R25Row × Bool × Int × Bool × (List ((Int × Int) × List TRun))) (_:Unit)=>⟨98,[(0,.d (.sl (List.map L25Act.e l1))),(1,.d (.sl (List.map L25Act.e k2))),(5,.ref 5 0),(6,.ref 6 0),(7,.d (.sl (List.map R25Row.e x39))),(8,.row 8 0),(9,.d (.v (.bool ok40))),(10,.d (.v (.int .i64 i41)))],[(5,.cells 28 [.ref 21 0]),(6,.cells 28 [.ref 22 0]),(8,.row 79 2 (List.map R25Row.e ([]:List R25Row))),(21,.cells 61 [.mp 20421]),(22,.cells 61 [.mp 20441]),(20421,.mapH nl42 [.u16,.u16] false (encM kP (eL TRun.e) v43)),(20441,.mapH y14.1 [.u16,.u16] false (encM kP (eL TRun.e) y14.2))]⟩) () h (Sub.trans (Sub.frz [7] hK rfl (by first | (simp;done) | (simp;omega) | omega) (AllRow.get (.cons rfl<|.nil)))<|sP) ?_;rintro N ⟨x39,ok40,i41,nl42,v43⟩ _ h;refine wQ<|wQ ?_;refine wJ (iBind h) (fun (v44:Bool) (_:Unit)=>⟨98,[(0,.d (.sl (List.map L25Act.e l1))),(1,.d (.sl (List.map L25Act.e k2))),(5,.ref 5 0),(6,.ref 6 0),(7,.d (.sl (List.map R25Row.e x39))),(8,.row 8 0),(9,.d (.v (.bool ok40))),(10,.d (.v (.int .i64 i41))),(29,.d (.v (.bool v44)))],[(5,.cells 28 [.ref 21 0]),(6,.cells 28 [.ref 22 0]),(8,.row 79 2 (List.map R25Row.e ([]:List R25Row))),(21,.cells 61 [.mp 20421]),(22,.cells 61 [.mp 20441]),(20421,.mapH nl42 [.u16,.u16] false (encM kP (eL TRun.e) v43)),(20441,.mapH y14.1 [.u16,.u16] false (encM kP (eL TRun.e) y14.2))]⟩) (fun h=>?_) ?_
    ·refine wR<|wm ?_;refine wm ?_;refine wS (lM (enc:=L25Act.e) (L:=l1) Tryz.underlying22 rfl) rfl<|wS (LR.lss rfl rfl) rfl<|wm ?_;refine wL (d:=27) rfl (fun hg45=>?_) (fun hg45=>?_)
     ·replace h:=iT hg45 h;refine wT (mV rfl) rfl rfl rfl<|wS (pT rfl rfl) rfl<|wN ?_;exact ⟨ok40,(),h,sP⟩
     ·replace h:=iF hg45 h;refine wf<|wS (pF rfl rfl) rfl<|wN ?_;exact ⟨false,(),h,sP⟩
    ·rintro v44 _ h;refine wC rfl (fun hc46=>?_) (fun hc46=>?_)
     ·replace h:=iT hc46 h;refine wK<|wQ<|wB<|wR<|wm ?_;refine wm ?_;refine wm ?_;replace h:=iIdx h;obtain ⟨x47,hy48,h⟩:=h;refine wS (iX (enc:=L25Act.e) (L:=l1) (y:=x47) Tryz.underlying22 Tryz.sizeOf33 rfl rfl hy48 (fun _=>rfl)) rfl<|wS (lE (ys:=[_,_,_]) Tryz.isAgg33 Tryz.sizeOf33 rfl rfl rfl) rfl ?_;replace h:=iDetp h;obtain ⟨rry49,h⟩:=h;refine PWl.callObjS [(100,5),(101,21),(102,20421)] [] [100,101,102] (fun gh:Subtype (α:=List R25Row × Bool × Bool × (List ((Int × Int) × List TRun))) _=>[(100,.cells 28 [.ref 101 0]),(101,.cells 61 [.mp 102]),(102,.mapH gh.1.2.2.1 [.u16,.u16] false (encM kP (eL TRun.e) gh.1.2.2.2))]) [] (l25_step_o_ok x39 x47 nl42 v43 rry49 h) hK rfl Tryz.call20 rfl (by first | rfl | (simp;done) | (simp [PV.nilD,PV.ren,rn] <;> omega)) (by repeat' first | constructor | (congr 1;first | (simp;done) | (simp;omega) | omega)) (fun _=>.cons rfl<|.cons rfl<|.cons rfl<|.nil) (fun _=>.nil) (.nil) (fun _=>rfl) rfl (fun _=>rfl) (fun _=>rfl) rfl rfl rfl (fun gh=>?_);obtain ⟨y49,hrr,hQ⟩:=gh;subst hrr;replace h:=hQ;refine wy (tl:=[(0,_),(1,_),(5,_),(6,_),(7,_),(8,_),(9,_),(10,_),(38,_)]) (to:=[(5,_),(6,_),(8,_),(21,_),(22,_),(20421,_),(20441,_)]) ?_;refine wm ?_;refine wS (LR.extract rfl rfl) rfl<|wS (LR.extract rfl rfl) rfl<|wa ?_;refine wa ?_;refine wN<|wR<|wm ?_;refine wS (LR.addW rfl rfl) rfl<|wa ?_;refine wN ?_;exact ⟨(y49.1,y49.2.1,(IntKind.i64.wrap (i41 + 1)),y49.2.2.1,y49.2.2.2),(),h,sP⟩
     ·replace h:=iF hc46 h;refine wZ ?_;exact ⟨(x39,ok40,nl42,v43),(),h,sP⟩
   ·rintro ⟨x16,ok17,nl18,v19⟩ _ h;refine wQ<|wQ<|wR<|wa ?_;refine wN ?_;refine wJ (iBind h) (fun (⟨y51,ok52,nl53,v54⟩:List R25Row × Bool × Bool × (List ((Int × Int) × List TRun))) (_:Unit)=>⟨98,[(5,.ref 5 0),(6,.ref 6 0),(7,.d (.sl (List.map R25Row.e x16))),(8,.d (.sl (List.map R25Row.e y51))),(9,.d (.v (.bool ok52)))],[(5,.cells 28 [.ref 21 0]),(6,.cells 28 [.ref 22 0]),(21,.cells 61 [.mp 20421]),(22,.cells 61 [.mp 20441]),(20421,.mapH nl18 [.u16,.u16] false (encM kP (eL TRun.e) v19)),(20441,.mapH nl53 [.u16,.u16] false (encM kP (eL TRun.e) v54))]⟩) (fun h=>?_) ?_
    ·refine wB ?_;refine wM (fun (⟨y74,ok75,i76,nl77,v78⟩:List R25Row × Bool × Int × Bool × (List ((Int × Int) × List TRun))) (_:Unit)=>⟨98,[(1,.d (.sl (List.map L25Act.e k2))),(5,.ref 5 0),(6,.ref 6 0),(7,.d (.sl (List.map R25Row.e x16))),(8,.d (.sl (List.map R25Row.e y74))),(9,.d (.v (.bool ok75))),(11,.d (.v (.int .i64 i76)))],[(5,.cells 28 [.ref 21 0]),(6,.cells 28 [.ref 22 0]),(21,.cells 61 [.mp 20421]),(22,.cells 61 [.mp 20441]),(20421,.mapH nl18 [.u16,.u16] false (encM kP (eL TRun.e) v19)),(20441,.mapH nl77 [.u16,.u16] false (encM kP (eL TRun.e) v78))]⟩) () h (Sub.trans (Sub.frz [8] hK rfl (by first | (simp;done) | (simp;omega) | omega) (AllRow.get (.cons rfl<|.nil)))<|sP) ?_;rintro N ⟨y74,ok75,i76,nl77,v78⟩ _ h;refine wQ<|wQ ?_;refine wJ (iBind h) (fun (v79:Bool) (_:Unit)=>⟨98,[(1,.d (.sl (List.map L25Act.e k2))),(5,.ref 5 0),(6,.ref 6 0),(7,.d (.sl (List.map R25Row.e x16))),(8,.d (.sl (List.map R25Row.e y74))),(9,.d (.v (.bool ok75))),(11,.d (.v (.int .i64 i76))),(47,.d (.v (.bool v79)))],[(5,.cells 28 [.ref 21 0]),(6,.cells 28 [.ref 22 0]),(21,.cells 61 [.mp 20421]),(22,.cells 61 [.mp 20441]),(20421,.mapH nl18 [.u16,.u16] false (encM kP (eL TRun.e) v19)),(20441,.mapH nl77 [.u16,.u16] false (encM kP (eL TRun.e) v78))]⟩) (fun h=>?_) ?_
     ·refine wR<|wm ?_;refine wm ?_;refine wS (lM (enc:=L25Act.e) (L:=k2) Tryz.underlying22 rfl) rfl<|wS (LR.lss rfl rfl) rfl<|wm ?_;refine wL (d:=45) rfl (fun hg80=>?_) (fun hg80=>?_)
      ·replace h:=iT hg80 h;refine wT (mV rfl) rfl rfl rfl<|wS (pT rfl rfl) rfl<|wN ?_;exact ⟨ok75,(),h,sP⟩
      ·replace h:=iF hg80 h;refine wf<|wS (pF rfl rfl) rfl<|wN ?_;exact ⟨false,(),h,sP⟩
     ·rintro v79 _ h;refine wC rfl (fun hc81=>?_) (fun hc81=>?_)
      ·replace h:=iT hc81 h;refine wK<|wQ<|wB<|wR<|wm ?_;refine wm ?_;refine wm ?_;replace h:=iIdx h;obtain ⟨x82,hy83,h⟩:=h;refine wS (iX (enc:=L25Act.e) (L:=k2) (y:=x82) Tryz.underlying22 Tryz.sizeOf33 rfl rfl hy83 (fun _=>rfl)) rfl<|wS (lE (ys:=[_,_,_]) Tryz.isAgg33 Tryz.sizeOf33 rfl rfl rfl) rfl ?_;replace h:=iDetp h;obtain ⟨rry84,h⟩:=h;refine PWl.callObjS [(100,6),(101,22),(102,20441)] [] [100,101,102] (fun gh:Subtype (α:=List R25Row × Bool × Bool × (List ((Int × Int) × List TRun))) _=>[(100,.cells 28 [.ref 101 0]),(101,.cells 61 [.mp 102]),(102,.mapH gh.1.2.2.1 [.u16,.u16] false (encM kP (eL TRun.e) gh.1.2.2.2))]) [] (l25_step_o_ok y74 x82 nl77 v78 rry84 h) hK rfl Tryz.call20 rfl (by first | rfl | (simp;done) | (simp [PV.nilD,PV.ren,rn] <;> omega)) (by repeat' first | constructor | (congr 1;first | (simp;done) | (simp;omega) | omega)) (fun _=>.cons rfl<|.cons rfl<|.cons rfl<|.nil) (fun _=>.nil) (.nil) (fun _=>rfl) rfl (fun _=>rfl) (fun _=>rfl) rfl rfl rfl (fun gh=>?_);obtain ⟨y84,hrr,hQ⟩:=gh;subst hrr;replace h:=hQ;refine wy (tl:=[(1,_),(5,_),(6,_),(7,_),(8,_),(9,_),(11,_),(56,_)]) (to:=[(5,_),(6,_),(21,_),(22,_),(20421,_),(20441,_)]) ?_;refine wm ?_;refine wS (LR.extract rfl rfl) rfl<|wS (LR.extract rfl rfl) rfl<|wa ?_;refine wa ?_;refine wN<|wR<|wm ?_;refine wS (LR.addW rfl rfl) rfl<|wa ?_;refine wN ?_;exact ⟨(y84.1,y84.2.1,(IntKind.i64.wrap (i76 + 1)),y84.2.2.1,y84.2.2.2),(),h,sP⟩
      ·replace h:=iF hc81 h;refine wZ ?_;exact ⟨(y74,ok75,nl77,v78),(),h,sP⟩
    ·rintro ⟨y51,ok52,nl53,v54⟩ _ h;refine wQ ?_;refine wJ (iBind h) (fun (v86:Bool) (_:Unit)=>⟨98,[(4,.d (.v (.bool v86)))],[]⟩) (fun h=>?_) ?_
     ·refine wR<|wm ?_;refine wm ?_;refine wL (d:=60) rfl (fun hg87=>?_) (fun hg87=>?_)
      ·replace h:=iT hg87 h;refine wT (lD Tryz.isAgg28 rfl rfl rfl) rfl rfl rfl<|wT (lD Tryz.isAgg28 rfl rfl rfl) rfl rfl rfl ?_;replace h:=iDet h;obtain ⟨y88,hy89,h⟩:=h;refine wT (LR.callObjS [(100,21),(101,22),(102,20421),(103,20441)] [] [100,101,102,103] [] [(100,.cells 61 [.mp 102]),(101,.cells 61 [.mp 103]),(102,.mapH nl18 [.u16,.u16] false (encM kP (eL TRun.e) v19)),(103,.mapH nl53 [.u16,.u16] false (encM kP (eL TRun.e) v54))] (ack_Below_o_ok nl18 v19 nl53 v54 y88 hy89) hK rfl Tryz.call19 rfl (by first | rfl | (simp;done) | (simp [PV.nilD,PV.ren,rn] <;> omega)) (by repeat' first | constructor | (congr 1;first | (simp;done) | (simp;omega) | omega)) (.nil) (.cons rfl<|.cons rfl<|.cons rfl<|.cons rfl<|.nil) (by repeat' first | constructor | (congr 1;first | (simp;done) | (simp;omega) | omega)) rfl rfl rfl rfl rfl rfl) rfl rfl rfl ?_;refine wy (tl:=[(5,_),(6,_),(7,_),(8,_),(60,_),(63,_)]) (to:=[(5,_),(6,_),(21,_),(22,_),(20421,_),(20441,_)]) ?_;refine wT (mV rfl) rfl rfl rfl<|wT (mV rfl) rfl rfl rfl ?_;replace h:=iDet h;obtain ⟨v90,hy91,h⟩:=h;refine wT (cN (r25_Below_ok x16 y51 v90 hy91) rfl Tryz.call21 rfl rfl rfl rfl) rfl rfl rfl<|wT (LR.eqlBool Tryz.underlying4 rfl rfl) rfl rfl rfl<|wS (pT rfl rfl) rfl<|wm ?_;refine wL (d:=69) rfl (fun hg92=>?_) (fun hg92=>?_)
       ·replace h:=iT hg92 h;refine wT (lD Tryz.isAgg28 rfl rfl rfl) rfl rfl rfl<|wT (lD Tryz.isAgg28 rfl rfl rfl) rfl rfl rfl ?_;replace h:=iDet h;obtain ⟨y93,hy94,h⟩:=h;refine wT (LR.callObjS [(100,22),(101,21),(102,20441),(103,20421)] [] [100,101,102,103] [] [(100,.cells 61 [.mp 102]),(101,.cells 61 [.mp 103]),(102,.mapH nl53 [.u16,.u16] false (encM kP (eL TRun.e) v54)),(103,.mapH nl18 [.u16,.u16] false (encM kP (eL TRun.e) v19))] (ack_Below_o_ok nl53 v54 nl18 v19 y93 hy94) hK rfl Tryz.call19 rfl (by first | rfl | (simp;done) | (simp [PV.nilD,PV.ren,rn] <;> omega)) (by repeat' first | constructor | (congr 1;first | (simp;done) | (simp;omega) | omega)) (.nil) (.cons rfl<|.cons rfl<|.cons rfl<|.cons rfl<|.nil) (by repeat' first | constructor | (congr 1;first | (simp;done) | (simp;omega) | omega)) rfl rfl rfl rfl rfl rfl) rfl rfl rfl ?_;refine wy (tl:=[(5,_),(7,_),(8,_),(69,_),(72,_)]) (to:=[(5,_),(21,_),(20421,_)]) ?_;refine wT (mV rfl) rfl rfl rfl<|wT (mV rfl) rfl rfl rfl ?_;replace h:=iDet h;obtain ⟨v95,hy96,h⟩:=h;refine wT (cN (r25_Below_ok y51 x16 v95 hy96) rfl Tryz.call21 rfl rfl rfl rfl) rfl rfl rfl<|wT (LR.eqlBool Tryz.underlying4 rfl rfl) rfl rfl rfl<|wS (pT rfl rfl) rfl<|wm ?_;refine wL (d:=78) rfl (fun hg97=>?_) (fun hg97=>?_)
        ·replace h:=iT hg97 h;refine wT (lD Tryz.isAgg28 rfl rfl rfl) rfl rfl rfl<|wT (lD Tryz.isAgg28 rfl rfl rfl) rfl rfl rfl ?_;replace h:=iDet h;obtain ⟨y98,hy99,h⟩:=h;refine wT (LR.callObjS [(100,21),(101,20421)] [] [100,101] [] [(100,.cells 61 [.mp 101]),(101,.mapH nl18 [.u16,.u16] false (encM kP (eL TRun.e) v19))] (ack_Below_o1_ok nl18 v19 y98 hy99) hK rfl Tryz.call19 rfl (by first | rfl | (simp;done) | (simp [PV.nilD,PV.ren,rn] <;> omega)) (by repeat' first | constructor | (congr 1;first | (simp;done) | (simp;omega) | omega)) (.nil) (.cons rfl<|.cons rfl<|.nil) (by repeat' first | constructor | (congr 1;first | (simp;done) | (simp;omega) | omega)) rfl rfl rfl rfl rfl rfl) rfl rfl rfl ?_;refine wS (pT rfl rfl) rfl<|wm ?_;refine wL (d:=83) rfl (fun hg100=>?_) (fun hg100=>?_)
         ·replace h:=iT hg100 h;refine wT (lD Tryz.isAgg28 rfl rfl rfl) rfl rfl rfl ?_;replace h:=iDet h;obtain ⟨y101,hy102,h⟩:=h;refine wT (LR.callObjS [(100,21),(101,20421)] [] [100,101] [] [(100,.cells 61 [.mp 101]),(101,.mapH nl18 [.u16,.u16] false (encM kP (eL TRun.e) v19))] (ack_Below_o2_ok nl18 v19 y101 hy102) hK rfl Tryz.call19 rfl (by first | rfl | (simp;done) | (simp [PV.nilD,PV.ren,rn] <;> omega)) (by repeat' first | constructor | (congr 1;first | (simp;done) | (simp;omega) | omega)) (.nil) (.cons rfl<|.cons rfl<|.nil) (by repeat' first | constructor | (congr 1;first | (simp;done) | (simp;omega) | omega)) rfl rfl rfl rfl rfl rfl) rfl rfl rfl ?_;refine wy (tl:=[(5,_),(7,_),(83,_),(85,_)]) (to:=[(5,_),(21,_),(20421,_)]) ?_;refine wS (pT rfl rfl) rfl<|wm ?_;refine wL (d:=87) rfl (fun hg103=>?_) (fun hg103=>?_)
          ·replace h:=iT hg103 h;refine wT (lD Tryz.isAgg28 rfl rfl rfl) rfl rfl rfl ?_;replace h:=iDet h;obtain ⟨y104,hy105,h⟩:=h;refine wT (LR.callObjS [(100,21),(101,20421)] [] [100,101] [] [(100,.cells 61 [.mp 101]),(101,.mapH nl18 [.u16,.u16] false (encM kP (eL TRun.e) v19))] (ack_Below_o3_ok nl18 v19 y104 hy105) hK rfl Tryz.call19 rfl (by first | rfl | (simp;done) | (simp [PV.nilD,PV.ren,rn] <;> omega)) (by repeat' first | constructor | (congr 1;first | (simp;done) | (simp;omega) | omega)) (.nil) (.cons rfl<|.cons rfl<|.nil) (by repeat' first | constructor | (congr 1;first | (simp;done) | (simp;omega) | omega)) rfl rfl rfl rfl rfl rfl) rfl rfl rfl ?_;refine wT (mV rfl) rfl rfl rfl<|wT (lM (enc:=R25Row.e) (L:=x16) Tryz.underlying43 rfl) rfl rfl rfl<|wT (eQ rfl rfl) rfl rfl rfl<|wT (LR.eqlBool Tryz.underlying4 rfl rfl) rfl rfl rfl<|wS (pT rfl rfl) rfl<|wm ?_;refine wL (d:=95) rfl (fun hg106=>?_) (fun hg106=>?_)
           ·replace h:=iT hg106 h;replace h:=iDet h;obtain ⟨v107,hy108,h⟩:=h;refine wT (cN (l25_works_ok v107 hy108) rfl Tryz.call9 rfl rfl rfl rfl) rfl rfl rfl<|wS (pT rfl rfl) rfl<|wa ?_;refine wN ?_;exact ⟨v107,(),h,sP⟩
           ·replace h:=iF hg106 h;refine wf<|wS (pF rfl rfl) rfl<|wa ?_;refine wN ?_;exact ⟨false,(),h,sP⟩
          ·replace h:=iF hg103 h;refine wf<|wf<|wf<|wf<|wf<|wf<|wS (pF rfl rfl) rfl<|wm ?_;refine wf<|wS (pF rfl rfl) rfl<|wa ?_;refine wN ?_;exact ⟨false,(),h,sP⟩
         ·replace h:=iF hg100 h;refine wf<|wf<|wS (pF rfl rfl) rfl<|wy (tl:=[(5,_),(7,_),(86,_)]) (to:=[(5,_),(21,_),(20421,_)]) ?_;refine wm ?_;refine wf<|wf<|wf<|wf<|wf<|wf<|wS (pF rfl rfl) rfl<|wm ?_;refine wf<|wS (pF rfl rfl) rfl<|wa ?_;refine wN ?_;exact ⟨false,(),h,sP⟩
        ·replace h:=iF hg97 h;refine wf<|wf<|wf<|wS (pF rfl rfl) rfl<|wm ?_;refine wf<|wf<|wS (pF rfl rfl) rfl<|wm ?_;refine wy (tl:=[(5,_),(7,_),(87,_)]) (to:=[(5,_),(21,_),(20421,_)]) ?_;refine wf<|wf<|wf<|wf<|wf<|wf<|wS (pF rfl rfl) rfl<|wm ?_;refine wf<|wS (pF rfl rfl) rfl<|wa ?_;refine wN ?_;exact ⟨false,(),h,sP⟩
       ·replace h:=iF hg92 h;refine wf<|wf<|wf<|wf<|wf<|wf<|wf<|wS (pF rfl rfl) rfl<|wy (tl:=[(5,_),(7,_),(77,_)]) (to:=[(5,_),(21,_),(20421,_)]) ?_;refine wm ?_;refine wf<|wf<|wf<|wS (pF rfl rfl) rfl<|wm ?_;refine wf<|wf<|wS (pF rfl rfl) rfl<|wm ?_;refine wf<|wf<|wf<|wf<|wf<|wf<|wS (pF rfl rfl) rfl<|wm ?_;refine wy (tl:=[(95,_)]) (to:=[]) ?_;refine wf<|wS (pF rfl rfl) rfl<|wa ?_;refine wN ?_;exact ⟨false,(),h,sP⟩
      ·replace h:=iF hg87 h;refine wf<|wf<|wf<|wf<|wf<|wf<|wf<|wS (pF rfl rfl) rfl<|wm ?_;refine wf<|wf<|wf<|wf<|wy (tl:=[(5,_),(7,_),(69,_),(72,_),(73,_)]) (to:=[(5,_),(21,_),(20421,_)]) ?_;refine wf<|wf<|wf<|wS (pF rfl rfl) rfl<|wm ?_;refine wf<|wf<|wf<|wS (pF rfl rfl) rfl<|wm ?_;refine wf<|wf<|wS (pF rfl rfl) rfl<|wm ?_;refine wf<|wf<|wy (tl:=[(7,_),(87,_),(89,_)]) (to:=[]) ?_;refine wf<|wf<|wf<|wf<|wS (pF rfl rfl) rfl<|wm ?_;refine wf<|wS (pF rfl rfl) rfl<|wa ?_;refine wN ?_;exact ⟨false,(),h,sP⟩
     ·rintro v86 _ h;refine wX ?_;replace h:_ = r0:=h;subst h;exact ⟨.inr rfl,_,.cons (.tmp rfl rfl)<|.nil,rfl⟩

end Go.Proofs

namespace Go.Ep
open Go

theorem wI64 {n:Int} (h:-9223372036854775808 ≤ n) (h':n ≤ 9223372036854775807):IntKind.i64.wrap n = n:=by simp [IntKind.wrap,IntKind.bits,IntKind.signed];omega
theorem wU64 {n:Int} (h:0 ≤ n) (h':n ≤ 18446744073709551615):IntKind.u64.wrap n = n:=by simp [IntKind.wrap,IntKind.bits,IntKind.signed];omega
theorem wU8 {n:Int} (h:0 ≤ n) (h':n ≤ 255):IntKind.u8.wrap n = n:=by simp [IntKind.wrap,IntKind.bits,IntKind.signed];omega
theorem wSucc {i:Nat} (h:i < 9223372036854775807):IntKind.i64.wrap ((i:Int) + 1) = ((i + 1:Nat):Int):=by rw [wI64 (by omega) (by omega)];rfl
namespace M
variable {α β σ ρ τ ε:Type}
theorem cond_dec (p:Prop) [Decidable p] (x y:M α):cond (decide p) x y = if p then x else y:=by by_cases h:p <;> simp [h]
theorem loopL {body:σ → M (Step σ ρ)} (l:List ε) (mk:Nat → τ → σ) (f:τ → ε → τ) (g:τ → M ρ)
  (I:Nat → τ → Prop) (h1:∀ (i:Nat) (x:ε) (t:τ),l[i]? = some x → i < l.length → I i t → body (mk i t) = pure (.next (mk (i + 1) (f t x))) ∧ I (i + 1) (f t x))
  (h2:∀ t,I l.length t → body (mk l.length t) = (g t).bind fun r=>pure (.done r)) (t0:τ) (h0:I 0 t0):loop body (mk 0 t0) = g (l.foldl f t0):=by
 have key:∀ k i t,i + k = l.length → I i t → loop body (mk i t) = g ((l.drop i).foldl f t):=by
  intro k
  induction k with
  | zero=>
   intro i t hi hI;have:i = l.length:=by omega
   subst this;rw [loop_eq,h2 t hI,List.drop_length]
   rfl
  | succ k ih=>
   intro i t hi hI;have hlt:i < l.length:=by omega
   obtain ⟨h3,h4⟩:=h1 i l[i] t (List.getElem?_eq_getElem hlt) hlt hI;rw [loop_next h3,ih (i + 1) _ (by omega) h4,List.drop_eq_getElem_cons hlt]
   rfl
 simpa using key l.length 0 t0 (by omega) h0
theorem loopAll {body:σ → M (Step σ ρ)} (l:List ε) (mk:Nat → σ) (p:Nat → ε → Bool) (r1 r2:ρ)
  (h1:∀ (i:Nat) (x:ε),l[i]? = some x → i < l.length → body (mk i) = if p i x then pure (.next (mk (i + 1))) else pure (.done r2))
  (h2:body (mk l.length) = pure (.done r1)):loop body (mk 0) = pure (if l.zipIdx.all (fun y=>p y.2 y.1) then r1 else r2):=by
 have key:∀ k i,i + k = l.length → loop body (mk i) = pure (if ((l.drop i).zipIdx i).all (fun y=>p y.2 y.1) then r1 else r2):=by
  intro k
  induction k with
  | zero=>
   intro i hi;have:i = l.length:=by omega
   subst this;rw [loop_done h2,List.drop_length]
   rfl
  | succ k ih=>
   intro i hi;have hlt:i < l.length:=by omega
   have h3:=h1 i l[i] (List.getElem?_eq_getElem hlt) hlt;rw [List.drop_eq_getElem_cons hlt,List.zipIdx_cons,List.all_cons]
   by_cases hp:p i l[i] = true
   ·rw [if_pos hp] at h3;rw [loop_next h3,ih (i + 1) (by omega),hp,Bool.true_and]
   ·rw [if_neg hp] at h3;rw [loop_done h3];simp [hp]
 have:=key l.length 0 (by omega);rw [List.drop_zero] at this;exact this

def came {ε:Type} (m:List ε) (L:List Nat):List ε:=L.filterMap fun i=>m[i]?
theorem came_snoc {m:List ε} {L:List Nat} {i:Nat} {y:ε} (h:m[i]? = some y):came m (L ++ [i]) = came m L ++ [y]:=by simp [came,h]
theorem all_perm {n:Nat} {L:List Nat} (hn:L.Nodup) (hb:∀ i ∈ L,i < n) (ha:∀ i,i < n → i ∈ L):L.Perm (List.range n):=by
 refine (List.perm_ext_iff_of_nodup hn List.nodup_range).2 fun i=>?_
 rw [List.mem_range];exact ⟨hb i,ha i⟩
theorem came_perm {m:List ε} {L:List Nat} (hn:L.Nodup) (hb:∀ i ∈ L,i < m.length) (ha:∀ i,i < m.length → i ∈ L):(came m L).Perm m:=by
 have h1:=(all_perm hn hb ha).filterMap fun i=>m[i]?
 have h2:(List.range m.length).filterMap (fun i=>m[i]?) = m:=by
  apply List.ext_getElem?;intro i;clear h1 hn hb ha;have:(List.range m.length).filterMap (fun i=>m[i]?) = m:=by
   induction m with
   | nil=>rfl
   | cons x r ih=>
    rw [List.length_cons,List.range_succ_eq_map,List.filterMap_cons];simp only [List.getElem?_cons_zero,List.filterMap_map]
    congr 1
  rw [this]
 rw [h2] at h1;exact h1
theorem nodup_len {n:Nat} {L:List Nat} (hn:L.Nodup) (hb:∀ i ∈ L,i < n):L.length ≤ n:=by
 have:=List.Nodup.length_le_of_subset hn (l₂:=List.range n) (fun i hi=>List.mem_range.2 (hb i hi));simpa using this

theorem full {n:Nat} {L:List Nat} (hn:L.Nodup) (hb:∀ i ∈ L,i < n) (hl:n ≤ L.length):∀ i,i < n → i ∈ L:=by
 intro i hi;refine Classical.byContradiction fun hni=>?_
 have:=nodup_len (n:=n) (L:=i :: L) (List.nodup_cons.2 ⟨hni,hn⟩) (fun j hj=>by
  rcases List.mem_cons.1 hj with rfl | hj
  ·exact hi
  ·exact hb j hj)
 simp at this;omega
theorem loopM {body:σ → M (Step σ ρ)} (m:List ε) (mk:List Nat → τ → σ) (f:τ → ε → M τ) (g:τ → M ρ) (I:List ε → τ → Prop) (Q:ρ → Prop)
  (hb:∀ L t,(∀ i ∈ L,i < m.length) → body (mk L t) = need (∀ i ∈ L,i < m.length) ((nxt m.length L).bind fun o=>match o with
   | none=>(g t).bind fun r=>pure (.done r)
   | some i=>(idx m (Int.ofNat i)).bind fun y=>(f t y).bind fun t'=>pure (.next (mk (L ++ [i]) t'))))
  (hs:∀ l t y,I l t → l.length < m.length → y ∈ m → ∃ t',f t y = pure t' ∧ I (l ++ [y]) t') (he:∀ l t,l.Perm m → I l t → (g t).wp Q) (t0:τ) (h0:I [] t0):(loop body (mk [] t0)).wp Q:=by
 have key:∀ k L t,L.length + k = m.length → L.Nodup → (∀ i ∈ L,i < m.length) → I (came m L) t → loopP body Q (mk L t):=by
  intro k
  induction k with
  | zero=>
   intro L t hk hn hlt hI;refine loopP_in ?_;rw [hb L t hlt];have hall:∀ i,i < m.length → i ∈ L:=fun i hi=>full hn hlt (by omega) i hi
   refine ⟨hlt,⟨⟨none,hall⟩,fun o ho=>?_⟩⟩
   cases o with
   | none=>
    have:=he _ t (came_perm hn hlt hall) hI;exact this
   | some i=>exact absurd (hall i ho.1) ho.2
  | succ k ih=>
   intro L t hk hn hlt hI;refine loopP_in ?_;rw [hb L t hlt];have hex:∃ i,i < m.length ∧ i ∉ L:=by
    refine Classical.byContradiction fun hno=>?_
    have hall:∀ i,i < m.length → i ∈ L:=fun i hi=>Classical.byContradiction fun h=>hno ⟨i,hi,h⟩
    have:=(all_perm hn hlt hall).length_eq;simp at this;omega
   obtain ⟨i0,hi0⟩:=hex;refine ⟨hlt,⟨⟨some i0,hi0⟩,fun o ho=>?_⟩⟩
   cases o with
   | none=>exact absurd (ho i0 hi0.1) hi0.2
   | some i=>
    have hi:=List.getElem?_eq_getElem ho.1;obtain ⟨t',h1,h2⟩:=hs (came m L) t m[i] hI (by have:=List.length_filterMap_le (fun i=>m[i]?) L;unfold came;omega) (List.getElem_mem ho.1);show ((idx m (Int.ofNat i)).bind _).wp _;rw [show (Int.ofNat i) = (i:Int) from rfl,idx_nat hi,pure_bind,h1,pure_bind];refine ih (L ++ [i]) t' (by simp;omega) ?_ ?_ (by rw [came_snoc hi];exact h2)
    ·rw [List.nodup_append];refine ⟨hn,by simp,fun a ha b hb'=>?_⟩;rw [List.mem_singleton.1 hb'];intro e;exact ho.2 (e ▸ ha)
    ·intro j hj;rcases List.mem_append.1 hj with hj | hj
     ·exact hlt j hj
     ·rw [List.mem_singleton.1 hj];exact ho.1
 exact key m.length [] t0 (by simp) List.nodup_nil (by simp) h0

theorem loopN {body:σ → M (Step σ ρ)} (n:Nat) (mk:List Nat → τ → σ) (I:List Nat → τ → Prop) (Q:ρ → Prop)
  (h:∀ L t,I L t → L.Nodup → (∀ i ∈ L,i < n) → ∃ K:Option Nat → M (Step σ ρ),body (mk L t) = need (∀ i ∈ L,i < n) ((nxt n L).bind K) ∧ ((∀ i,i < n → i ∈ L) → (K none).wp (Step.post (fun _=>False) Q)) ∧
   ∀ i,i < n → i ∉ L → ∃ t',K (some i) = pure (.next (mk (L ++ [i]) t')) ∧ I (L ++ [i]) t') (t0:τ) (h0:I [] t0):(loop body (mk [] t0)).wp Q:=by
 have key:∀ k L t,L.length + k = n → L.Nodup → (∀ i ∈ L,i < n) → I L t → loopP body Q (mk L t):=by
  intro k
  induction k with
  | zero=>
   intro L t hk hn hlt hI;obtain ⟨K,h1,h2,h3⟩:=h L t hI hn hlt;refine loopP_in ?_;rw [h1];have hall:∀ i,i < n → i ∈ L:=full hn hlt (by omega);refine ⟨hlt,⟨⟨none,hall⟩,fun o ho=>?_⟩⟩
   cases o with
   | none=>exact (K none).mono (fun a ha=>by cases a with | next s=>exact ha.elim | done r=>exact ha) (h2 hall)
   | some i=>exact absurd (hall i ho.1) ho.2
  | succ k ih=>
   intro L t hk hn hlt hI;obtain ⟨K,h1,h2,h3⟩:=h L t hI hn hlt;refine loopP_in ?_;rw [h1];have hex:∃ i,i < n ∧ i ∉ L:=by
    refine Classical.byContradiction fun hno=>?_
    have hall:∀ i,i < n → i ∈ L:=fun i hi=>Classical.byContradiction fun h=>hno ⟨i,hi,h⟩
    have:=(all_perm hn hlt hall).length_eq;simp at this;omega
   obtain ⟨i0,hi0⟩:=hex;refine ⟨hlt,⟨⟨some i0,hi0⟩,fun o ho=>?_⟩⟩
   cases o with
   | none=>exact absurd (ho i0 hi0.1) hi0.2
   | some i=>
    obtain ⟨t',h4,h5⟩:=h3 i ho.1 ho.2;show (K (some i)).wp _;rw [h4];refine ih (L ++ [i]) t' (by simp;omega) ?_ ?_ h5
    ·rw [List.nodup_append];refine ⟨hn,by simp,fun a ha b hb'=>?_⟩;rw [List.mem_singleton.1 hb'];intro e;exact ho.2 (e ▸ ha)
    ·intro j hj;rcases List.mem_append.1 hj with hj | hj
     ·exact hlt j hj
     ·rw [List.mem_singleton.1 hj];exact ho.1
 exact key n [] t0 (by simp) List.nodup_nil (by simp) h0
end M

namespace AL
variable {κ ν:Type} [DecidableEq κ]
theorem get_set (m:List (κ × ν)) (k q:κ) (v:ν):get (set m k v) q = if k = q then some v else get m q:=by
 induction m with
 | nil=>simp [set,get]
 | cons x r ih=>
  obtain ⟨a,u⟩:=x
  by_cases h:a = k
  ·subst h;simp only [set,if_true,get];split <;> rfl
  ·simp only [set,h,if_false,get,ih]
   by_cases h2:a = q
   ·subst h2;simp [Ne.symm h]
   ·simp [h2]
theorem getZ_set (m:List (κ × ν)) (k q:κ) (v z:ν):getZ (set m k v) q z = if k = q then v else getZ m q z:=by
 unfold getZ;rw [get_set];split <;> rfl
theorem keys_set (m:List (κ × ν)) (k:κ) (v:ν):(set m k v).map (·.1) = if k ∈ m.map (·.1) then m.map (·.1) else m.map (·.1) ++ [k]:=by
 induction m with
 | nil=>simp [set]
 | cons x r ih=>
  obtain ⟨a,u⟩:=x
  by_cases h:a = k
  ·subst h;simp [set]
  ·simp only [set,h,if_false,List.map_cons,ih,List.mem_cons,Ne.symm h,false_or]
   split <;> simp
theorem nodup_set {m:List (κ × ν)} (h:(m.map (·.1)).Nodup) (k:κ) (v:ν):((set m k v).map (·.1)).Nodup:=by
 rw [keys_set]
 split
 ·exact h
 ·rename_i hk
  rw [List.nodup_append];refine ⟨h,by simp,fun a ha b hb=>?_⟩;rw [List.mem_singleton.1 hb];intro e;exact hk (e ▸ ha)
theorem get_none {m:List (κ × ν)} {k:κ}:get m k = none ↔ k ∉ m.map (·.1):=by
 induction m with
 | nil=>simp [get]
 | cons x r ih=>
  obtain ⟨a,u⟩:=x
  by_cases h:a = k
  ·subst h;simp [get]
  ·simp [get,h,ih,Ne.symm h]
theorem get_mem {m:List (κ × ν)} {k:κ} {v:ν} (h:get m k = some v):(k,v) ∈ m:=by
 induction m with
 | nil=>simp [get] at h
 | cons x r ih=>
  obtain ⟨a,u⟩:=x
  by_cases e:a = k
  ·subst e;simp [get] at h;subst h;simp
  ·simp only [get,e,if_false] at h;exact List.mem_cons_of_mem _ (ih h)
theorem mem_get {m:List (κ × ν)} (hn:(m.map (·.1)).Nodup) {k:κ} {v:ν} (h:(k,v) ∈ m):get m k = some v:=by
 induction m with
 | nil=>simp at h
 | cons x r ih=>
  obtain ⟨a,u⟩:=x;simp only [List.map_cons,List.nodup_cons] at hn;rcases List.mem_cons.1 h with e | h
  ·cases e;simp [get]
  ·have:a ≠ k:=fun e=>hn.1 (e ▸ List.mem_map.2 ⟨(k,v),h,rfl⟩)
   simp only [get,this,if_false];exact ih hn.2 h
theorem len_set (m:List (κ × ν)) (k:κ) (v:ν):(set m k v).length ≤ m.length + 1:=by
 induction m with
 | nil=>simp [set]
 | cons x r ih=>
  obtain ⟨a,u⟩:=x;unfold set
  split
  ·simp
  ·simpa using ih
end AL
end Go.Ep

namespace Go.Ep.M.V
open Go

def goodD (d:TDot):Bool:=decide (1 ≤ d.dev) && (decide (1 ≤ d.n) && decide (d.n ≤ 281474976710655))
theorem goodD_iff {d:TDot}:goodD d = true ↔ 1 ≤ d.dev ∧ 1 ≤ d.n ∧ d.n ≤ 281474976710655:=by simp [goodD]
theorem r07_Good_eq (d:TDot):r07_Good d = pure (goodD d):=by
 unfold r07_Good;rw [cond_pure_and,cond_pure_and,pure_bind];refine congrArg pure ?_;rw [Bool.eq_iff_iff,goodD_iff];simp only [Bool.and_eq_true,decide_eq_true_eq];omega
def ofV : List TDot → Int → Int
 | [],_=>0
 | d :: r,dev=>if d.dev = dev ∧ goodD d = true then max d.n (ofV r dev) else ofV r dev
theorem ofV_range (v:List TDot) (dev:Int):0 ≤ ofV v dev ∧ ofV v dev ≤ 281474976710655:=by
 induction v with
 | nil=>simp [ofV]
 | cons d r ih=>
  simp only [ofV]
  split
  ·rename_i h;have:=goodD_iff.1 h.2;omega
  ·exact ih
theorem ofV_pos {v:List TDot} {dev:Int}:0 < ofV v dev ↔ ∃ d ∈ v,d.dev = dev ∧ goodD d = true:=by
 induction v with
 | nil=>simp [ofV]
 | cons d r ih=>
  simp only [ofV,List.mem_cons,exists_eq_or_imp]
  split
  ·rename_i h
   have:=goodD_iff.1 h.2
   constructor
   ·intro _;exact .inl h
   ·intro _;omega
  ·rename_i h
   rw [ih]
   constructor
   ·exact .inr
   ·rintro (hh | hh)
    ·exact absurd hh h
    ·exact hh
def insI : List Int → Int → List Int
 | [],k=>[k]
 | a :: r,k=>if k < a then k :: a :: r else if k = a then a :: r else a :: insI r k
theorem mem_insI {l:List Int} {k q:Int}:q ∈ insI l k ↔ q = k ∨ q ∈ l:=by
 induction l with
 | nil=>simp [insI]
 | cons a r ih=>
  unfold insI
  split
  ·simp
  ·split
   ·rename_i h;subst h;simp
   ·simp only [List.mem_cons,ih];constructor
    ·rintro (h | h | h) <;> simp [h]
    ·rintro (h | h | h) <;> simp [h]
theorem insI_sorted {l:List Int} (h:l.Pairwise (· < ·)) (k:Int):(insI l k).Pairwise (· < ·):=by
 induction l with
 | nil=>simp [insI]
 | cons a r ih=>
  obtain ⟨h1,h2⟩:=List.pairwise_cons.1 h;unfold insI
  split
  ·rename_i hk
   refine List.pairwise_cons.2 ⟨fun x hx=>?_,h⟩;rcases List.mem_cons.1 hx with rfl | hx
   ·exact hk
   ·have:=h1 x hx;omega
  ·split
   ·exact h
   ·refine List.pairwise_cons.2 ⟨fun x hx=>?_,ih h2⟩;rcases mem_insI.1 hx with rfl | hx
    ·omega
    ·exact h1 x hx
theorem len_insI (l : List Int) (k : Int) : (insI l k).length ≤ l.length + 1 := by
  induction l with
  | nil => simp [insI]
  | cons a r ih => unfold insI; split <;> try split
                   all_goals simp_all
def devStep (l:List Int) (d:TDot):List Int:=if goodD d then insI l d.dev else l
def devsL (v:List TDot):List Int:=v.foldl devStep []
theorem devs_gen (v:List TDot):∀ l:List Int,l.Pairwise (· < ·) → (v.foldl devStep l).Pairwise (· < ·) ∧ (∀ k,k ∈ v.foldl devStep l ↔ k ∈ l ∨ ∃ d ∈ v,d.dev = k ∧ goodD d = true) ∧ (v.foldl devStep l).length ≤ l.length + v.length:=by
 induction v with
 | nil=>intro l h;simp [h]
 | cons d r ih=>
  intro l h;simp only [List.foldl_cons];unfold devStep
  split
  ·rename_i hg
   obtain ⟨h1,h2,h3⟩:=ih _ (insI_sorted h d.dev);refine ⟨h1,fun k=>?_,?_⟩
   ·have:=h2 k;unfold devStep at this;rw [this,mem_insI]
    constructor
    ·rintro ((rfl | h) | ⟨e,he,h⟩)
     ·exact .inr ⟨d,by simp,rfl,hg⟩
     ·exact .inl h
     ·exact .inr ⟨e,by simp [he],h⟩
    ·rintro (h | ⟨e,he,h⟩)
     ·exact .inl (.inr h)
     ·rcases List.mem_cons.1 he with rfl | he
      ·exact .inl (.inl h.1.symm)
      ·exact .inr ⟨e,he,h⟩
   ·have:=len_insI l d.dev;simp only [List.length_cons];unfold devStep at h3;omega
  ·rename_i hg
   obtain ⟨h1,h2,h3⟩:=ih _ h;refine ⟨h1,fun k=>?_,?_⟩
   ·have:=h2 k;unfold devStep at this;rw [this]
    constructor
    ·rintro (h | ⟨e,he,h⟩)
     ·exact .inl h
     ·exact .inr ⟨e,by simp [he],h⟩
    ·rintro (h | ⟨e,he,h⟩)
     ·exact .inl h
     ·rcases List.mem_cons.1 he with rfl | he
      ·exact absurd h.2 hg
      ·exact .inr ⟨e,he,h⟩
   ·simp only [List.length_cons];unfold devStep at h3;omega
theorem devs_sorted (v:List TDot):(devsL v).Pairwise (· < ·):=(devs_gen v [] List.Pairwise.nil).1
theorem mem_devs {v:List TDot} {k:Int}:k ∈ devsL v ↔ 0 < ofV v k:=by rw [ofV_pos];simpa [devsL] using (devs_gen v [] List.Pairwise.nil).2.1 k
theorem len_devs (v:List TDot):(devsL v).length ≤ v.length:=by simpa [devsL] using (devs_gen v [] List.Pairwise.nil).2.2
def toldStep (m:List (Int × Int)) (d:TDot):List (Int × Int):=if goodD d then AL.set m d.dev (max (AL.getZ m d.dev 0) d.n) else m
def toldM (v:List TDot):List (Int × Int):=v.foldl toldStep []
theorem told_gen (v:List TDot):∀ m:List (Int × Int),(m.map (·.1)).Nodup → ((v.foldl toldStep m).map (·.1)).Nodup ∧ ((∀ k,0 ≤ AL.getZ m k 0) → ∀ k,AL.getZ (v.foldl toldStep m) k 0 = max (AL.getZ m k 0) (ofV v k)) ∧ (v.foldl toldStep m).length ≤ m.length + v.length ∧ (∀ k,k ∈ (v.foldl toldStep m).map (·.1) → k ∈ m.map (·.1) ∨ 0 < ofV v k):=by
 induction v with
 | nil=>
  intro m h;refine ⟨h,fun h0 k=>?_,by simp,fun k hk=>.inl hk⟩;have:=h0 k;simp only [List.foldl_nil,ofV];omega
 | cons d r ih=>
  intro m h;simp only [List.foldl_cons]
  by_cases hg:goodD d = true
  ·have hd:=goodD_iff.1 hg;have e:toldStep m d = AL.set m d.dev (max (AL.getZ m d.dev 0) d.n):=by simp [toldStep,hg]
   rw [e];obtain ⟨h1,h2,h3,h4⟩:=ih _ (AL.nodup_set h d.dev (max (AL.getZ m d.dev 0) d.n));refine ⟨h1,fun h0 k=>?_,?_,fun k hk=>?_⟩
   ·rw [h2 (fun q=>by rw [AL.getZ_set];have:=h0 q;have:=h0 d.dev;split <;> omega),AL.getZ_set];simp only [ofV]
    by_cases hk:d.dev = k
    ·subst hk;simp only [if_true,hg,and_self];omega
    ·simp [hk]
   ·have:=AL.len_set m d.dev (max (AL.getZ m d.dev 0) d.n);simp only [List.length_cons];omega
   ·simp only [ofV];rcases h4 k hk with h5 | h5
    ·rw [AL.keys_set] at h5
     split at h5
     ·exact .inl h5
     ·rcases List.mem_append.1 h5 with h5 | h5
      ·exact .inl h5
      ·right
       rw [List.mem_singleton.1 h5,if_pos ⟨rfl,hg⟩];omega
    ·right;split <;> omega
  ·have e:toldStep m d = m:=by simp [toldStep,hg]
   rw [e];obtain ⟨h1,h2,h3,h4⟩:=ih m h;have e2:∀ k,ofV (d :: r) k = ofV r k:=fun k=>by simp only [ofV];rw [if_neg (fun hh=>hg hh.2)]
   exact ⟨h1,fun h0 k=>by rw [h2 h0,e2],by simp only [List.length_cons];omega,fun k hk=>by rw [e2];exact h4 k hk⟩
theorem told_nodup (v:List TDot):((toldM v).map (·.1)).Nodup:=(told_gen v [] (by simp)).1
theorem told_get (v:List TDot) (k:Int):AL.getZ (toldM v) k 0 = ofV v k:=by
 have:=(told_gen v [] (by simp)).2.1 (fun _=>Int.le_refl _) k;have h2:=ofV_range v k;rw [toldM,this];show max 0 (ofV v k) = _;omega
theorem told_len (v:List TDot):(toldM v).length ≤ v.length:=by simpa [toldM] using (told_gen v [] (by simp)).2.2.1
theorem told_mem {v:List TDot} {k n:Int} (h:(k,n) ∈ toldM v):n = ofV v k ∧ 0 < n:=by
 have h1:=AL.mem_get (told_nodup v) h;have h2:AL.getZ (toldM v) k 0 = n:=by simp [AL.getZ,h1]
 rw [told_get] at h2;have h3:=(told_gen v [] (by simp)).2.2.2 k (List.mem_map.2 ⟨_,h,rfl⟩);simp at h3;omega
def updM (h:Int × Int → Int) (m:List (Int × Int)) (L:List Nat):List (Int × Int):=m.zipIdx.map fun y=>if y.2 ∈ L then (y.1.1,h y.1) else y.1
theorem updM_get {h:Int × Int → Int} {m:List (Int × Int)} {L:List Nat} {i:Nat}:(updM h m L)[i]? = (m[i]?).map fun e=>if i ∈ L then (e.1,h e) else e:=by
 unfold updM;rw [List.getElem?_map,List.getElem?_zipIdx]
 cases m[i]? <;> simp
theorem updM_len {h:Int × Int → Int} {m:List (Int × Int)} {L:List Nat}:(updM h m L).length = m.length:=by simp [updM]
theorem set_at {m:List (Int × Int)} (hn:(m.map (·.1)).Nodup) {i:Nat} {e:Int × Int} (hi:m[i]? = some e) (v:Int):AL.set m e.1 v = m.set i (e.1,v):=by
 induction m generalizing i with
 | nil=>simp at hi
 | cons x r ih=>
  obtain ⟨a,u⟩:=x;simp only [List.map_cons,List.nodup_cons] at hn
  cases i with
  | zero=>simp at hi;subst hi;simp [AL.set]
  | succ i=>
   simp only [List.getElem?_cons_succ] at hi;have:a ≠ e.1:=fun he=>hn.1 (he ▸ List.mem_map.2 ⟨e,List.mem_of_getElem? hi,rfl⟩)
   simp only [AL.set,this,if_false,List.set_cons_succ];rw [ih hn.2 hi]
theorem updM_keys {h:Int × Int → Int} {m:List (Int × Int)} {L:List Nat}:(updM h m L).map (·.1) = m.map (·.1):=by
 apply List.ext_getElem?;intro i;rw [List.getElem?_map,updM_get,List.getElem?_map]
 cases m[i]? with
 | none=>rfl
 | some e=>simp only [Option.map_some];split <;> rfl
theorem updM_snoc {h:Int × Int → Int} {m:List (Int × Int)} (hn:(m.map (·.1)).Nodup) {L:List Nat} {i:Nat} {e:Int × Int} (hi:m[i]? = some e) (hL:i ∉ L):AL.set (updM h m L) e.1 (h e) = updM h m (L ++ [i]):=by
 have h1:(updM h m L)[i]? = some e:=by rw [updM_get,hi];simp [hL]
 rw [set_at (by rw [updM_keys];exact hn) h1];apply List.ext_getElem?;intro j;rw [List.getElem?_set,updM_len,updM_get,updM_get]
 by_cases hj:i = j
 ·subst hj;have:=(List.getElem?_eq_some_iff.1 hi).1;rw [if_pos rfl,if_pos this,hi];simp
 ·rw [if_neg hj];have:j ∈ L ++ [i] ↔ j ∈ L:=by simp;exact fun e=>absurd e.symm hj
  simp only [this]
theorem updM_all {h:Int × Int → Int} {m:List (Int × Int)} {L:List Nat} (hL:∀ i,i < m.length → i ∈ L):updM h m L = m.map fun e=>(e.1,h e):=by
 apply List.ext_getElem?;intro i;rw [updM_get,List.getElem?_map]
 cases hm:m[i]? with
 | none=>rfl
 | some e=>simp [hL i (List.getElem?_eq_some_iff.1 hm).1]
theorem told_at {v:List TDot} {k:Int} (h:0 < ofV v k):(k,ofV v k) ∈ toldM v:=by
 have h1:AL.getZ (toldM v) k 0 = ofV v k:=told_get v k;unfold AL.getZ at h1
 cases hg:AL.get (toldM v) k with
 | none=>rw [hg] at h1;simp at h1;omega
 | some n=>rw [hg] at h1;simp at h1;subst h1;exact AL.get_mem hg

def cmpD (a b:TDot):Int:=if a = b then 0 else if ltDot a b then -1 else 1
theorem r07_Cmp_eq (a b:TDot):r07_Cmp a b = pure (cmpD a b):=by
 unfold r07_Cmp cmpD;have h1:(decide (a.dev = b.dev) && decide (a.n = b.n)) = decide (a = b):=by
  rw [Bool.eq_iff_iff];cases a;cases b;simp
 have h2:(cond (decide (a.dev < b.dev)) (pure true) (cond (decide (a.dev = b.dev)) (pure (decide (a.n < b.n))) (pure false)):M Bool) = pure (ltDot a b):=by
  rw [cond_pure_and,cond_pure_or];rfl
 rw [h1,h2,cond_dec,pure_bind]
 split
 ·rfl
 ·cases ltDot a b <;> rfl
theorem cmpD_neg {a b:TDot}:cmpD a b < 0 ↔ ltDot a b = true:=by
 unfold cmpD
 split
 ·rename_i h;subst h;simp [ltDot]
 ·split <;> simp_all
theorem cmpD_pos {a b:TDot}:0 < cmpD a b ↔ ltDot b a = true:=by
 unfold cmpD
 by_cases h:a = b
 ·subst h;simp [ltDot]
 ·rw [if_neg h]
  cases a;cases b
  simp only [TDot.mk.injEq] at h;simp only [ltDot,Bool.or_eq_true,Bool.and_eq_true,decide_eq_true_eq]
  split <;> omega
theorem r07_Put_eq (l:List TDot) (d:TDot) (h:l.length ≤ 1000000000000):r07_Put l d = pure ((l.filter fun x=>ltDot x d) ++ [d] ++ (l.filter fun x=>ltDot d x)):=by
 unfold r07_Put;have c0:∀ o:List TDot,o.length ≤ 1000000000000 → True:=fun _ _=>trivial
 have h1:=loopL (body:=r07_Put_l0 l d) l (fun i (o:List TDot)=>((i:Int),o)) (fun o x=>if ltDot x d then o ++ [x] else o) (fun o=>pure o) (fun i o=>o.length ≤ i) (fun i x o hx hi ho=>by
  have h1:decide ((i:Int) < (l.length:Int)) = true:=by simpa using hi
  unfold r07_Put_l0;simp only [h1,cond_true,idx_nat hx,pure_bind,r07_Cmp_eq,det_pure,wSucc (show i < 9223372036854775807 by omega),cond_dec,cmpD_neg]
  split
  ·rw [need_true (by simp;omega)];exact ⟨rfl,by simp;omega⟩
  ·exact ⟨rfl,by omega⟩) (fun o _=>by unfold r07_Put_l0;simp [pure_bind]) [] (by simp)
 have h2:∀ o0:List TDot,o0.length ≤ 1000000000001 → loop (r07_Put_l1 l d) (0,o0) = pure (l.foldl (fun o x=>if ltDot d x then o ++ [x] else o) o0):=fun o0 ho0=>by
  have:=loopL (body:=r07_Put_l1 l d) l (fun i (o:List TDot)=>((i:Int),o)) (fun o x=>if ltDot d x then o ++ [x] else o) (fun o=>pure o) (fun i o=>o.length ≤ o0.length + i) (fun i x o hx hi ho=>by
   have h1:decide ((i:Int) < (l.length:Int)) = true:=by simpa using hi
   unfold r07_Put_l1;simp only [h1,cond_true,idx_nat hx,pure_bind,r07_Cmp_eq,det_pure,wSucc (show i < 9223372036854775807 by omega),cond_dec,cmpD_pos]
   split
   ·rw [need_true (by simp;omega)];exact ⟨rfl,by simp;omega⟩
   ·exact ⟨rfl,by omega⟩) (fun o _=>by unfold r07_Put_l1;simp [pure_bind]) o0 (by simp)
  exact this
 have hf:∀ (p:TDot → Bool) (l o:List TDot),l.foldl (fun o x=>if p x then o ++ [x] else o) o = o ++ l.filter p:=by
  intro p l
  induction l with
  | nil=>simp
  | cons x r ih=>
   intro o;rw [List.foldl_cons,ih,List.filter_cons]
   split <;> simp
 rw [show ((0:Int),([]:List TDot)) = (((0:Nat):Int),[]) from rfl,h1,hf,pure_bind,need_true,h2,hf,pure_bind]
 ·rfl
 ·have:=List.length_filter_le (fun x=>ltDot x d) l;simp;omega
 ·have:=List.length_filter_le (fun x=>ltDot x d) l;simp;omega
def ones (l:List Int):List TDot:=l.map fun k=>⟨k,1⟩
theorem put_ones {l:List Int} (h:l.Pairwise (· < ·)) (k:Int):((ones l).filter fun x=>ltDot x ⟨k,1⟩) ++ [⟨k,1⟩] ++ ((ones l).filter fun x=>ltDot ⟨k,1⟩ x) = ones (insI l k):=by
 induction l with
 | nil=>rfl
 | cons a r ih=>
  obtain ⟨h1,h2⟩:=List.pairwise_cons.1 h;have i2:=ih h2;unfold insI
  by_cases c1:k < a
  ·rw [if_pos c1];have e1:(ones (a :: r)).filter (fun x=>ltDot x ⟨k,1⟩) = []:=by
    rw [List.filter_eq_nil_iff];intro x hx;simp only [ones,List.map_cons,List.mem_cons,List.mem_map] at hx;rcases hx with rfl | ⟨b,hb,rfl⟩
    ·simp [ltDot];omega
    ·have:=h1 b hb;simp [ltDot];omega
   have e2:(ones (a :: r)).filter (fun x=>ltDot ⟨k,1⟩ x) = ones (a :: r):=by
    rw [List.filter_eq_self];intro x hx;simp only [ones,List.map_cons,List.mem_cons,List.mem_map] at hx;rcases hx with rfl | ⟨b,hb,rfl⟩
    ·simp [ltDot];omega
    ·have:=h1 b hb;simp [ltDot];omega
   rw [e1,e2];rfl
  ·rw [if_neg c1]
   by_cases c2:k = a
   ·subst c2;rw [if_pos rfl];have e1:(ones (k :: r)).filter (fun x=>ltDot x ⟨k,1⟩) = []:=by
     rw [List.filter_eq_nil_iff];intro x hx;simp only [ones,List.map_cons,List.mem_cons,List.mem_map] at hx;rcases hx with rfl | ⟨b,hb,rfl⟩
     ·simp [ltDot]
     ·have:=h1 b hb;simp [ltDot];omega
    have e2:(ones (k :: r)).filter (fun x=>ltDot ⟨k,1⟩ x) = ones r:=by
     show List.filter _ (⟨k,1⟩ :: ones r) = _;rw [List.filter_cons,if_neg (by simp [ltDot]),List.filter_eq_self];intro x hx;simp only [ones,List.mem_map] at hx;obtain ⟨b,hb,rfl⟩:=hx;have:=h1 b hb;simp [ltDot];omega
    rw [e1,e2];rfl
   ·rw [if_neg c2];show (List.filter _ (⟨a,1⟩ :: ones r)) ++ _ ++ (List.filter _ (⟨a,1⟩ :: ones r)) = ⟨a,1⟩ :: ones (insI r k);rw [List.filter_cons,if_pos (by simp [ltDot];omega),List.filter_cons,if_neg (by simp [ltDot];omega),← i2]
    rfl
end Go.Ep.M.V


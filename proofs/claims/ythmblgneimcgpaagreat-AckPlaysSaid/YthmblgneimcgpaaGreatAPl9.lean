/- Texts that the walks and laws lean on, side by side. -/
import Derived.Test.YthmblgneimcgpaaGreatAPl2
import Derived.Test.YthmblgneimcgpaaGreatAPl3
import Derived.Test.YthmblgneimcgpaaGreatAPl4
import Derived.Test.YthmblgneimcgpaaGreatAPl5
import Derived.Test.YthmblgneimcgpaaGreatAPl6
import Derived.Test.YthmblgneimcgpaaGreatAPl7
import Derived.Test.YthmblgneimcgpaaGreatAPl8
set_option linter.unusedVariables false
set_option linter.unusedSimpArgs false
namespace Go.Proofs
open Go.Ep
set_option maxHeartbeats 1000000
set_option maxRecDepth 100000
set_option linter.unusedVariables false
set_option linter.unusedSimpArgs false


theorem ack_Matrix_Copy_o_ok (nl1:Bool) (m2:List ((Int × Int) × List TRun)) {Q:Bool × (List ((Int × Int) × List TRun)) → Prop} (h:(ack_Matrix_Copy_o nl1 m2).wp Q):PObj Tryz.prog 12 [.ref 100 0] [(100,.cells 61 [.mp 101]),(101,.mapH nl1 [.u16,.u16] false (encM kP (eL TRun.e) m2))] [100,101] (.ref 8 0) (fun gh:{y:Bool × (List ((Int × Int) × List TRun)) // Q y}=>[(100,.cells 61 [.mp 101]),(101,.mapH nl1 [.u16,.u16] false (encM kP (eL TRun.e) m2)),(8,.cells 61 [.mp 20161]),(20161,.mapH gh.1.1 [.u16,.u16] false (encM kP (eL TRun.e) gh.1.2))]):=by
 refine PObj.intro (sl:=[(0,_)]) Tryz.func12 rfl Tryz.ntmps12 rfl rfl rfl ?_;intro ctx hK pv;refine wQ<|wR<|wa ?_;refine wN<|wQ<|wQ<|wR<|wm ?_;refine wS (LR.eqlPtr Tryz.underlying28 rfl) rfl<|wN<|PWc.condF rfl<|wK<|wQ<|wR ?_;replace h:=iDet h;obtain ⟨y3,hy4,h⟩:=h;refine wS (LR.callObj [(2,8),(30040,20161)] [] [2,30040] (ack_New_o_ok y3 hy4) hK rfl Tryz.call10 rfl (by first | rfl | (simp;done) | (simp [PV.nilD,PV.ren,rn] <;> omega)) (.nil) rfl rfl rfl rfl) rfl ?_;refine wa ?_;refine wN<|wQ<|wQ<|wz (tl:=[(0,_),(3,_)]) (to:=[(8,_),(100,_),(101,_),(1100,_),(1101,_),(20161,_)]) ?_;refine wR<|wm ?_;refine wS (LR.nilCheckRef rfl) rfl<|wS (fR Tryz.underlying61 rfl Tryz.sizeOf59 (by decide) rfl rfl) rfl<|wS (lD Tryz.isAgg59 rfl rfl rfl) rfl ?_;refine PWl.openH (id:=101) rfl (fun bs5 ck5=>?_);refine wS (LR.rangeN Tryz.underlying59 rfl rfl rfl) rfl<|wN ?_;refine wJ (iBind h) (fun (⟨nl6,v7⟩:Bool × (List ((Int × Int) × List TRun))) (_:Unit)=>⟨28,[(3,.ref 8 0)],[(8,.cells 61 [.mp 20161]),(100,.cells 61 [.mp 101]),(101,.mapN nl1 [.u16,.u16] false (encM kP (eL TRun.e) m2) bs5 ck5),(1100,.pin 100 (pv 100)),(1101,.pin 101 (pv 101)),(20161,.mapH nl6 [.u16,.u16] false (encM kP (eL TRun.e) v7))]⟩) (fun h=>?_) ?_
 ·refine wB<|wM (fun (⟨seen37,nl38,v39⟩:List Nat × Bool × (List ((Int × Int) × List TRun))) (_:Unit)=>⟨28,[(3,.ref 8 0),(13,.ref 13 0)],[(8,.cells 61 [.mp 20161]),(13,.iterO 101 bs5 ck5 seen37),(100,.cells 61 [.mp 101]),(101,.mapN nl1 [.u16,.u16] false (encM kP (eL TRun.e) m2) bs5 ck5),(1100,.pin 100 (pv 100)),(1101,.pin 101 (pv 101)),(20161,.mapH nl38 [.u16,.u16] false (encM kP (eL TRun.e) v39))]⟩) () h (sP) ?_;rintro N ⟨seen37,nl38,v39⟩ _ h;refine wQ<|wR ?_;replace h:=iNeed h;obtain ⟨hy52,h⟩:=h;replace h:=iNxt h;refine PWl.nextN rfl rfl rfl (nxtD hy52) rfl (fun hy41=>?_) (fun j40 hy42 hy43=>?_)
  ·replace h:=h.1 (nxtA hy41);refine wS (LR.extract rfl rfl) rfl<|wN<|wQ<|PWc.condF rfl<|wZ ?_;exact ⟨(nl38,v39),(),h,sP⟩
  ·replace h:=h.2 j40 (nxtB hy42) hy43;refine wS (LR.extract rfl rfl) rfl<|wN<|wQ<|PWc.condT rfl<|wK<|wB<|wQ<|wR ?_;replace h:=iIdx h;obtain ⟨kv44,hy45,h⟩:=h;refine wS (LR.entryN rfl rfl rfl (entGet hy45) rfl rfl) rfl<|wS (LR.extract rfl rfl) rfl<|wS (LR.extract rfl rfl) rfl<|wS (LR.allocZ (cs:=[_,_]) Tryz.zeroValue68 rfl rfl rfl rfl) rfl<|wS (sB (ns:=[_,_]) Tryz.sizeOf68 rfl rfl rfl rfl rfl rfl rfl) rfl<|wa ?_;refine wN<|wz (tl:=[(3,_),(4,_),(5,_),(13,_)]) (to:=[(4,_),(8,_),(13,_),(100,_),(101,_),(1100,_),(1101,_),(20161,_)]) ?_;refine PWc.regionE [⟨[19],[],[],[],[],[8],[],[]⟩,⟨[20],[],[],[],[],[4],[],[]⟩,⟨[21],[],[4],[],[],[],[],[]⟩,⟨[22],[],[],[],[],[4],[],[]⟩,⟨[23],[],[4],[],[],[],[],[]⟩,{ws:=[24]},{ws:=[25]},⟨[26],[20161],[8,20161],[],[(20161,[])],[],[],[8,20161]⟩] (by kernel_rfl) (by kernel_rfl) rfl ?_;refine PQe.stepP (fun _ he ho=>mV (he rfl rfl)) (.inl rfl) rfl ?_;refine PQe.stepP (fun _ he ho=>LR.idxArrK (j:=0) Tryz.underlying68 rfl Tryz.sizeOf31 (he rfl rfl) (he rfl rfl) rfl rfl) (.inl rfl) rfl ?_;refine PQe.stepP (fun _ he ho=>lD Tryz.isAgg31 (he rfl rfl) (ho rfl rfl) rfl) (.inl rfl) rfl ?_;refine PQe.stepP (fun _ he ho=>LR.idxArrK (j:=1) Tryz.underlying68 rfl Tryz.sizeOf31 (he rfl rfl) (he rfl rfl) rfl rfl) (.inl rfl) rfl ?_;refine PQe.stepP (fun _ he ho=>lD Tryz.isAgg31 (he rfl rfl) (ho rfl rfl) rfl) (.inl rfl) rfl ?_;refine PQe.stepP (fun _ he ho=>mV (he rfl rfl)) (.inl rfl) rfl ?_;replace h:=iDet h;obtain ⟨v48,hy49,h⟩:=h;refine PQe.stepP (fun _ he ho=>cN (PRow.fun (slices_Clone_sl_Run_Run_ok kv44.2 v48 hy49)) (he rfl rfl) Tryz.call33 (evsE he rfl rfl) rfl rfl rfl) (.inl rfl) rfl ?_;replace h:=iDet h;obtain ⟨y50,hy51,h⟩:=h;refine PQe.callObjS [(100,8),(101,20161)] [] [100,101] [(101,.mapH y50.1 [.u16,.u16] false (encM kP (eL TRun.e) y50.2))] [(100,.cells 61 [.mp 101])] (ack_Matrix_put_o_ok kv44.1.1 kv44.1.2 v48 nl38 v39 y50 hy51) hK (fun _ he=>⟨he rfl rfl,evsE he rfl rfl⟩) Tryz.call32 (by first | rfl | (simp;done) | (simp [PV.nilD,PV.ren,rn] <;> omega)) (by repeat' first | constructor | (congr 1;first | (simp;done) | (simp;omega) | omega)) (.cons rfl<|.nil) (.cons rfl<|.nil) (.cons (by first | rfl | (congr 1;first | (simp;done) | (simp;omega) | omega))<|.nil) rfl rfl rfl rfl rfl rfl (.inl rfl) rfl ?_;refine PQe.nil ?_;exact ⟨((seen37 ++ [j40]),y50.1,y50.2),(),h,sP⟩
 ·rintro ⟨nl6,v7⟩ _ h;refine wQ<|wR<|wm ?_;refine wa ?_;refine wN<|wX ?_;exact EndsO.mk ⟨(nl6,v7),h⟩ (.inr rfl) (Sub.trans (Sub.nToH (id:=101) rfl)<|sP (tl:=[(2,_)]) (to:=[(100,_),(101,_),(8,_),(20161,_),(1100,_),(1101,_)])) (.cons (.tmp rfl)<|.nil) rfl rfl

theorem ack_Matrix_Leave_o_ok (who1:Int) (nl2:Bool) (m3:List ((Int × Int) × List TRun)) (r0:Bool × Bool × (List ((Int × Int) × List TRun))) (h:(ack_Matrix_Leave_o who1 nl2 m3).wp (· = r0)):PObj Tryz.prog 14 [.ref 100 0,.d (.v (.int .u16 who1))] [(100,.cells 61 [.mp 101]),(101,.mapH nl2 [.u16,.u16] false (encM kP (eL TRun.e) m3))] [100,101] (.d (.v (.bool r0.1))) (fun _:Unit=>[(100,.cells 61 [.mp 101]),(101,.mapH r0.2.1 [.u16,.u16] false (encM kP (eL TRun.e) r0.2.2))]):=by
 refine PObj.intro (sl:=[(0,_),(1,_)]) Tryz.func14 rfl Tryz.ntmps14 rfl rfl rfl ?_;intro ctx hK pv;refine wQ<|wR<|wa ?_;refine wN<|wQ<|wQ<|wR<|wm ?_;refine wm ?_;replace h:=iDet h;obtain ⟨y4,hy5,h⟩:=h;refine wS (LR.callObjS [(100,100),(101,101)] [] [100,101] [] [(100,.cells 61 [.mp 101]),(101,.mapH nl2 [.u16,.u16] false (encM kP (eL TRun.e) m3))] (ack_Matrix_is_o_ok who1 nl2 m3 y4 hy5) hK rfl Tryz.call34 rfl (by first | rfl | (simp;done) | (simp [PV.nilD,PV.ren,rn] <;> omega)) (by repeat' first | constructor | (congr 1;first | (simp;done) | (simp;omega) | omega)) (.nil) (.cons rfl<|.cons rfl<|.nil) (by repeat' first | constructor | (congr 1;first | (simp;done) | (simp;omega) | omega)) rfl rfl rfl rfl rfl rfl) rfl ?_;refine wS (LR.not rfl) rfl<|wN ?_;refine wC rfl (fun hc6=>?_) (fun hc6=>?_)
 ·replace h:=iT hc6 h;refine wQ<|wz (tl:=[]) (to:=[(100,_),(101,_),(1100,_),(1101,_)]) ?_;refine wR<|wa ?_;refine wN<|wX ?_;replace h:_ = r0:=h;subst h;exact EndsO.mk () (.inr rfl) (sP (tl:=[(4,_)]) (to:=[(100,_),(101,_),(1100,_),(1101,_)])) (.cons (.tmp rfl)<|.nil) rfl rfl
 ·replace h:=iF hc6 h;refine wK<|wQ<|wQ<|wz (tl:=[(0,_),(1,_)]) (to:=[(100,_),(101,_),(1100,_),(1101,_)]) ?_;refine wR<|wm ?_;refine wm ?_;replace h:=iDet h;obtain ⟨y7,hy8,h⟩:=h;refine wS (LR.callObjS [(100,100),(101,101)] [] [100,101] [] [(100,.cells 61 [.mp 101]),(101,.mapH nl2 [.u16,.u16] false (encM kP (eL TRun.e) m3))] (ack_Matrix_Row_o_ok who1 nl2 m3 y7 hy8) hK rfl Tryz.call18 rfl (by first | rfl | (simp;done) | (simp [PV.nilD,PV.ren,rn] <;> omega)) (by repeat' first | constructor | (congr 1;first | (simp;done) | (simp;omega) | omega)) (.nil) (.cons rfl<|.cons rfl<|.nil) (by repeat' first | constructor | (congr 1;first | (simp;done) | (simp;omega) | omega)) rfl rfl rfl rfl rfl rfl) rfl ?_;refine wS (lM (enc:=TPart.e) (L:=y7) Tryz.underlying24 rfl) rfl<|wm ?_;refine wN ?_;refine wJ (iBind h) (fun (v9:List ((Int × Int) × List TRun)) (_:Unit)=>⟨34,[(0,.ref 100 0),(1,.d (.v (.int .u16 who1)))],[(100,.cells 61 [.mp 101]),(101,.mapH nl2 [.u16,.u16] false (encM kP (eL TRun.e) v9)),(1100,.pin 100 (pv 100)),(1101,.pin 101 (pv 101))]⟩) (fun h=>?_) ?_
  ·refine wB<|wM (fun (⟨v18,v19⟩:Int × (List ((Int × Int) × List TRun))) (_:Unit)=>⟨34,[(0,.ref 100 0),(1,.d (.v (.int .u16 who1))),(13,.d (.sl (List.map TPart.e y7))),(14,.d (.v (.int .i64 (List.length y7:Int)))),(15,.d (.v (.int .i64 v18)))],[(100,.cells 61 [.mp 101]),(101,.mapH nl2 [.u16,.u16] false (encM kP (eL TRun.e) v19)),(1100,.pin 100 (pv 100)),(1101,.pin 101 (pv 101))]⟩) () h (sP) ?_;rintro N ⟨v18,v19⟩ _ h;refine wQ<|wR<|wS (LR.lss rfl rfl) rfl<|wN<|wQ ?_;refine wC rfl (fun hc20=>?_) (fun hc20=>?_)
   ·replace h:=iT hc20 h;refine wK<|wQ<|wB<|wQ<|wR ?_;replace h:=iIdx h;obtain ⟨x21,hy22,h⟩:=h;refine wS (iX (enc:=TPart.e) (L:=y7) (y:=x21) Tryz.underlying24 Tryz.sizeOf65 rfl rfl hy22 (fun _=>rfl)) rfl<|wS (lE (ys:=[_,_]) Tryz.isAgg65 Tryz.sizeOf65 rfl rfl rfl) rfl<|wS (LR.allocZ (cs:=[_,_]) Tryz.zeroValue65 rfl rfl rfl rfl) rfl<|wS (sB (ns:=[_,_]) Tryz.sizeOf65 rfl rfl rfl rfl rfl rfl rfl) rfl<|wN<|wz (tl:=[(0,_),(1,_),(6,_),(13,_),(14,_),(15,_)]) (to:=[(6,_),(100,_),(101,_),(1100,_),(1101,_)]) ?_;refine PWc.regionE [⟨[19],[],[],[],[],[100],[],[]⟩,⟨[20],[],[],[],[],[100],[],[]⟩,⟨[21],[],[],[],[],[100],[],[]⟩,⟨[22],[],[100],[],[],[101],[],[]⟩,{ws:=[23]},⟨[24],[],[],[],[],[6],[],[]⟩,⟨[25],[],[6],[],[],[],[],[]⟩,{ws:=[26]},⟨[],[101],[101],[],[],[],[],[]⟩] (by kernel_rfl) (by kernel_rfl) rfl ?_;refine PQe.stepP (fun _ he ho=>mV (he rfl rfl)) (.inl rfl) rfl ?_;refine PQe.stepP (fun _ he ho=>LR.nilCheckRef (he rfl rfl)) (.inl rfl) rfl ?_;refine PQe.stepP (fun _ he ho=>fR Tryz.underlying61 rfl Tryz.sizeOf59 (by decide) rfl (he rfl rfl)) (.inl rfl) rfl ?_;refine PQe.stepP (fun _ he ho=>lD Tryz.isAgg59 (he rfl rfl) (ho rfl rfl) rfl) (.inl rfl) rfl ?_;refine PQe.stepP (fun _ he ho=>mV (he rfl rfl)) (.inl rfl) rfl ?_;refine PQe.stepP (fun _ he ho=>fR Tryz.underlying65 rfl Tryz.sizeOf31 (by decide) rfl (he rfl rfl)) (.inl rfl) rfl ?_;refine PQe.stepP (fun _ he ho=>lD Tryz.isAgg31 (he rfl rfl) (ho rfl rfl) rfl) (.inl rfl) rfl ?_;refine PQe.stepP (fun _ he ho=>LR.build (ns:=[_,_]) build68 rfl (evpE he rfl rfl) rfl) (.inl rfl) rfl ?_;refine PQe.stepSD (fun _ he ho=>LR.delH (eV:=(eL TRun.e)) (q:=(who1,x21.dev)) (m:=v19) kP_inj Tryz.underlying59 key59 (he rfl rfl) (ho rfl rfl) (he rfl rfl) rfl rfl rfl) (.inl rfl) rfl<|PQe.nil<|wR<|wS (LR.addW rfl rfl) rfl<|wm ?_;refine wN ?_;exact ⟨((IntKind.i64.wrap (v18 + 1)),(AL.del v19 (who1,x21.dev))),(),h,sP⟩
   ·replace h:=iF hc20 h;refine wZ ?_;exact ⟨v19,(),h,sP⟩
  ·rintro v9 _ h;refine wQ<|wR<|wm ?_;refine wS (LR.nilCheckRef rfl) rfl<|wS (fR Tryz.underlying61 rfl Tryz.sizeOf59 (by decide) rfl rfl) rfl<|wS (lD Tryz.isAgg59 rfl rfl rfl) rfl<|wm ?_;refine wS (LR.build (ns:=[_,_]) build68 rfl rfl rfl) rfl<|wS (LR.delH (eV:=(eL TRun.e)) (q:=(who1,0)) (m:=v9) kP_inj Tryz.underlying59 key59 rfl rfl rfl rfl rfl rfl) rfl<|wN<|wQ<|wR<|wa ?_;refine wN<|wX ?_;replace h:_ = r0:=h;subst h;exact EndsO.mk () (.inr rfl) (sP (tl:=[(4,_)]) (to:=[(100,_),(101,_),(1100,_),(1101,_)])) (.cons (.tmp rfl)<|.nil) rfl rfl

end Go.Proofs

namespace Go.Proofs
open Go.Ep
set_option maxHeartbeats 1000000
set_option maxRecDepth 100000
set_option linter.unusedVariables false
set_option linter.unusedSimpArgs false


theorem l25_step_o_ok (x1:List R25Row) (a2:L25Act) (nl3:Bool) (m4:List ((Int × Int) × List TRun)) {Q:List R25Row × Bool × Bool × (List ((Int × Int) × List TRun)) → Prop} (rr:List R25Row × Bool) (h:(l25_step_o x1 a2 nl3 m4).wp (fun y=>(y.1,y.2.1) = rr ∧ Q y)):PObj Tryz.prog 20 [.ref 100 0,.d (.sl (List.map R25Row.e x1)),.agg (List.map .d (L25Act.e a2))] [(100,.cells 28 [.ref 101 0]),(101,.cells 61 [.mp 102]),(102,.mapH nl3 [.u16,.u16] false (encM kP (eL TRun.e) m4))] [100] (.tup [.d (.sl (List.map R25Row.e rr.1)),.d (.v (.bool rr.2))]) (fun gh:{y:List R25Row × Bool × Bool × (List ((Int × Int) × List TRun)) // (y.1,y.2.1) = rr ∧ Q y}=>[(100,.cells 28 [.ref 101 0]),(101,.cells 61 [.mp 102]),(102,.mapH gh.1.2.2.1 [.u16,.u16] false (encM kP (eL TRun.e) gh.1.2.2.2))]):=by
 refine PObj.intro (sl:=[(0,_),(1,_),(2,_)]) Tryz.func20 rfl Tryz.ntmps20 rfl rfl rfl ?_;intro ctx hK pv;refine wQ<|wR<|wS (LR.box rfl rfl rfl rfl) rfl<|wS (aR 79 2 rfl) rfl<|wa ?_;refine wN<|wQ<|wQ<|wR<|wS (fR Tryz.underlying33 rfl Tryz.sizeOf5 (by decide) rfl rfl) rfl<|wS (lD Tryz.isAgg5 rfl rfl rfl) rfl<|wN ?_;refine PWc.jnX (iBind h) (fun (⟨nl5,v6⟩:Bool × (List ((Int × Int) × List TRun))) (_:Unit)=>⟨96,[(1,.d (.sl (List.map R25Row.e x1)))],[(100,.cells 28 [.ref 101 0]),(101,.cells 61 [.mp 102]),(102,.mapH nl5 [.u16,.u16] false (encM kP (eL TRun.e) v6)),(1100,.pin 100 (pv 100))]⟩) (fun h=>?_) ?_
 ·refine wB<|wQ<|wR<|wS (eQ rfl rfl) rfl<|wa ?_;refine wN ?_;refine wC rfl (fun hc7=>?_) (fun hc7=>?_)
  ·replace h:=iT hc7 h;refine wQ<|wR<|wm ?_;refine wS (fR Tryz.underlying33 rfl Tryz.sizeOf31 (by decide) rfl rfl) rfl<|wS (lD Tryz.isAgg31 rfl rfl rfl) rfl ?_;replace h:=iDet h;obtain ⟨v8,hy9,h⟩:=h;refine wS (cN (r25_Join_ok x1 a2.who v8 hy9) rfl Tryz.call39 rfl rfl rfl rfl) rfl<|wm ?_;refine wS (LR.extract rfl rfl) rfl<|wS (LR.extract rfl rfl) rfl<|wa ?_;refine wa ?_;refine wN<|wQ<|wz (tl:=[(0,_),(5,_),(8,_),(9,_)]) (to:=[(5,_),(100,_),(101,_),(102,_),(1100,_)]) ?_;refine PWc.regionE [{ws:=[26]},⟨[27],[],[],[],[],[100],[],[]⟩,⟨[28],[],[],[],[],[100],[],[]⟩,⟨[29],[],[100],[],[],[101],[],[]⟩,⟨[30],[],[],[],[],[5],[],[]⟩,⟨[31],[],[5],[],[],[],[],[]⟩,⟨[32],[102],[101,102],[],[(102,[])],[],[],[101,102]⟩,{ws:=[33]},{ws:=[34]},{ws:=[6]},{ws:=[7]}] (by kernel_rfl) (by kernel_rfl) rfl ?_;refine PQe.stepP (fun _ he ho=>mV (he rfl rfl)) (.inl rfl) rfl ?_;refine PQe.stepP (fun _ he ho=>mV (he rfl rfl)) (.inl rfl) rfl ?_;refine PQe.stepP (fun _ he ho=>LR.nilCheckRef (he rfl rfl)) (.inl rfl) rfl ?_;refine PQe.stepP (fun _ he ho=>lD Tryz.isAgg28 (he rfl rfl) (ho rfl rfl) rfl) (.inl rfl) rfl ?_;refine PQe.stepP (fun _ he ho=>fR Tryz.underlying33 rfl Tryz.sizeOf31 (by decide) rfl (he rfl rfl)) (.inl rfl) rfl ?_;refine PQe.stepP (fun _ he ho=>lD Tryz.isAgg31 (he rfl rfl) (ho rfl rfl) rfl) (.inl rfl) rfl ?_;replace h:=iDet h;obtain ⟨y10,hy11,h⟩:=h;refine PQe.callObjS [(100,101),(101,102)] [] [100,101] [(101,.mapH y10.2.1 [.u16,.u16] false (encM kP (eL TRun.e) y10.2.2))] [(100,.cells 61 [.mp 101])] (ack_Matrix_Join_o_ok a2.who nl3 m4 y10 hy11) hK (fun _ he=>⟨he rfl rfl,evsE he rfl rfl⟩) Tryz.call13 (by first | rfl | (simp;done) | (simp [PV.nilD,PV.ren,rn] <;> omega)) (by repeat' first | constructor | (congr 1;first | (simp;done) | (simp;omega) | omega)) (.cons rfl<|.nil) (.cons rfl<|.nil) (.cons (by first | rfl | (congr 1;first | (simp;done) | (simp;omega) | omega))<|.nil) rfl rfl rfl rfl rfl rfl (.inl rfl) rfl ?_;refine PQe.stepP (fun _ he ho=>mV (he rfl rfl)) (.inl rfl) rfl ?_;refine PQe.stepP (fun _ he ho=>LR.eqlBool Tryz.underlying4 (he rfl rfl) (he rfl rfl)) (.inl rfl) rfl ?_;refine PQe.stepP (fun _ he ho=>aS (he rfl rfl)) (.inl rfl) rfl ?_;refine PQe.stepP (fun _ he ho=>aS (he rfl rfl)) (.inl rfl) rfl<|PQe.nil<|wX ?_;obtain ⟨hrr,hQ⟩:=(h:_ ∧ _)
   subst hrr;exact EndsO.mk ⟨(v8.1,(y10.1 == v8.2),y10.2.1,y10.2.2),rfl,hQ⟩ (.inr rfl) (sP (tl:=[(6,_),(7,_)]) (to:=[(100,_),(101,_),(102,_),(1100,_)])) (.cons (.tmp rfl)<|.cons (.tmp rfl)<|.nil) rfl rfl
  ·replace h:=iF hc7 h;refine wQ<|wR<|wS (eQ rfl rfl) rfl<|wa ?_;refine wN ?_;refine wC rfl (fun hc12=>?_) (fun hc12=>?_)
   ·replace h:=iT hc12 h;refine wQ<|wR<|wm ?_;refine wS (fR Tryz.underlying33 rfl Tryz.sizeOf31 (by decide) rfl rfl) rfl<|wS (lD Tryz.isAgg31 rfl rfl rfl) rfl ?_;replace h:=iDet h;obtain ⟨v13,hy14,h⟩:=h;refine wS (cN (r25_Leave_ok x1 a2.who v13 hy14) rfl Tryz.call40 rfl rfl rfl rfl) rfl<|wm ?_;refine wS (LR.extract rfl rfl) rfl<|wS (LR.extract rfl rfl) rfl<|wa ?_;refine wa ?_;refine wN<|wQ<|wz (tl:=[(0,_),(5,_),(10,_),(11,_)]) (to:=[(5,_),(100,_),(101,_),(102,_),(1100,_)]) ?_;refine PWc.regionE [{ws:=[44]},⟨[45],[],[],[],[],[100],[],[]⟩,⟨[46],[],[],[],[],[100],[],[]⟩,⟨[47],[],[100],[],[],[101],[],[]⟩,⟨[48],[],[],[],[],[5],[],[]⟩,⟨[49],[],[5],[],[],[],[],[]⟩,⟨[50],[102],[101,102],[],[],[],[],[]⟩,{ws:=[51]},{ws:=[52]},{ws:=[6]},{ws:=[7]}] (by kernel_rfl) (by kernel_rfl) rfl ?_;refine PQe.stepP (fun _ he ho=>mV (he rfl rfl)) (.inl rfl) rfl ?_;refine PQe.stepP (fun _ he ho=>mV (he rfl rfl)) (.inl rfl) rfl ?_;refine PQe.stepP (fun _ he ho=>LR.nilCheckRef (he rfl rfl)) (.inl rfl) rfl ?_;refine PQe.stepP (fun _ he ho=>lD Tryz.isAgg28 (he rfl rfl) (ho rfl rfl) rfl) (.inl rfl) rfl ?_;refine PQe.stepP (fun _ he ho=>fR Tryz.underlying33 rfl Tryz.sizeOf31 (by decide) rfl (he rfl rfl)) (.inl rfl) rfl ?_;refine PQe.stepP (fun _ he ho=>lD Tryz.isAgg31 (he rfl rfl) (ho rfl rfl) rfl) (.inl rfl) rfl ?_;replace h:=iDet h;obtain ⟨y15,hy16,h⟩:=h;refine PQe.callObjS [(100,101),(101,102)] [] [100,101] [(101,.mapH y15.2.1 [.u16,.u16] false (encM kP (eL TRun.e) y15.2.2))] [(100,.cells 61 [.mp 101])] (ack_Matrix_Leave_o_ok a2.who nl3 m4 y15 hy16) hK (fun _ he=>⟨he rfl rfl,evsE he rfl rfl⟩) Tryz.call14 (by first | rfl | (simp;done) | (simp [PV.nilD,PV.ren,rn] <;> omega)) (by repeat' first | constructor | (congr 1;first | (simp;done) | (simp;omega) | omega)) (.cons rfl<|.nil) (.cons rfl<|.nil) (.cons (by first | rfl | (congr 1;first | (simp;done) | (simp;omega) | omega))<|.nil) rfl rfl rfl rfl rfl rfl (.inl rfl) rfl ?_;refine PQe.stepP (fun _ he ho=>mV (he rfl rfl)) (.inl rfl) rfl ?_;refine PQe.stepP (fun _ he ho=>LR.eqlBool Tryz.underlying4 (he rfl rfl) (he rfl rfl)) (.inl rfl) rfl ?_;refine PQe.stepP (fun _ he ho=>aS (he rfl rfl)) (.inl rfl) rfl ?_;refine PQe.stepP (fun _ he ho=>aS (he rfl rfl)) (.inl rfl) rfl<|PQe.nil<|wX ?_;obtain ⟨hrr,hQ⟩:=(h:_ ∧ _)
    subst hrr;exact EndsO.mk ⟨(v13.1,(y15.1 == v13.2),y15.2.1,y15.2.2),rfl,hQ⟩ (.inr rfl) (sP (tl:=[(6,_),(7,_)]) (to:=[(100,_),(101,_),(102,_),(1100,_)])) (.cons (.tmp rfl)<|.cons (.tmp rfl)<|.nil) rfl rfl
   ·replace h:=iF hc12 h;refine wQ<|wQ<|wR<|wS (eQ rfl rfl) rfl<|wa ?_;refine wN ?_;refine wJ (iBind h) (fun (v17:Bool) (_:Unit)=>⟨96,[(0,.ref 100 0),(1,.d (.sl (List.map R25Row.e x1))),(5,.ref 5 0),(16,.d (.v (.int .u8 a2.kind))),(53,.d (.v (.bool v17)))],[(5,.cells 33 [.d (.v (.int .u8 a2.kind)),.d (.v (.int .u16 a2.who)),.d (.sl (List.map TPart.e a2.c))]),(100,.cells 28 [.ref 101 0]),(101,.cells 61 [.mp 102]),(102,.mapH nl3 [.u16,.u16] false (encM kP (eL TRun.e) m4)),(1100,.pin 100 (pv 100))]⟩) (fun h=>?_) ?_
    ·refine wC rfl (fun hc18=>?_) (fun hc18=>?_)
     ·replace h:=iT hc18 h;refine wK ?_;exact ⟨(decide (a2.kind = 2)),(),h,sP⟩
     ·replace h:=iF hc18 h;refine wR<|wS (eQ rfl rfl) rfl<|wa ?_;refine wN ?_;exact ⟨(decide (a2.kind = 3)),(),h,sP⟩
    ·rintro v17 _ h;refine wC rfl (fun hc19=>?_) (fun hc19=>?_)
     ·replace h:=iT hc19 h;refine wQ<|wR<|wm ?_;refine wS (fR Tryz.underlying33 rfl Tryz.sizeOf31 (by decide) rfl rfl) rfl<|wS (lD Tryz.isAgg31 rfl rfl rfl) rfl<|wS (fR Tryz.underlying33 rfl Tryz.sizeOf24 (by decide) rfl rfl) rfl<|wS (lD Tryz.isAgg24 rfl rfl rfl) rfl ?_;replace h:=iDet h;obtain ⟨v20,hy21,h⟩:=h;refine wS (cN (r25_Hear_ok x1 a2.who a2.c v20 hy21) rfl Tryz.call41 rfl rfl rfl rfl) rfl<|wm ?_;refine wS (LR.extract rfl rfl) rfl<|wS (LR.extract rfl rfl) rfl<|wa ?_;refine wa ?_;refine wN<|wQ<|wz (tl:=[(0,_),(5,_),(12,_),(13,_)]) (to:=[(5,_),(100,_),(101,_),(102,_),(1100,_)]) ?_;refine PWc.regionE [{ws:=[65]},⟨[66],[],[],[],[],[100],[],[]⟩,⟨[67],[],[],[],[],[100],[],[]⟩,⟨[68],[],[100],[],[],[101],[],[]⟩,⟨[69],[],[],[],[],[5],[],[]⟩,⟨[70],[],[5],[],[],[],[],[]⟩,⟨[71],[],[],[],[],[5],[],[]⟩,⟨[72],[],[5],[],[],[],[],[]⟩,⟨[73],[102],[101,102],[],[(102,[])],[],[],[101,102]⟩,{ws:=[74]},{ws:=[75]},{ws:=[6]},{ws:=[7]}] (by kernel_rfl) (by kernel_rfl) rfl ?_;refine PQe.stepP (fun _ he ho=>mV (he rfl rfl)) (.inl rfl) rfl ?_;refine PQe.stepP (fun _ he ho=>mV (he rfl rfl)) (.inl rfl) rfl ?_;refine PQe.stepP (fun _ he ho=>LR.nilCheckRef (he rfl rfl)) (.inl rfl) rfl ?_;refine PQe.stepP (fun _ he ho=>lD Tryz.isAgg28 (he rfl rfl) (ho rfl rfl) rfl) (.inl rfl) rfl ?_;refine PQe.stepP (fun _ he ho=>fR Tryz.underlying33 rfl Tryz.sizeOf31 (by decide) rfl (he rfl rfl)) (.inl rfl) rfl ?_;refine PQe.stepP (fun _ he ho=>lD Tryz.isAgg31 (he rfl rfl) (ho rfl rfl) rfl) (.inl rfl) rfl ?_;refine PQe.stepP (fun _ he ho=>fR Tryz.underlying33 rfl Tryz.sizeOf24 (by decide) rfl (he rfl rfl)) (.inl rfl) rfl ?_;refine PQe.stepP (fun _ he ho=>lD Tryz.isAgg24 (he rfl rfl) (ho rfl rfl) rfl) (.inl rfl) rfl ?_;replace h:=iDet h;obtain ⟨y22,hy23,h⟩:=h;refine PQe.callObjS [(100,101),(101,102)] [] [100,101] [(101,.mapH y22.2.1 [.u16,.u16] false (encM kP (eL TRun.e) y22.2.2))] [(100,.cells 61 [.mp 101])] (ack_Matrix_Hear_o_ok a2.who a2.c nl3 m4 y22 hy23) hK (fun _ he=>⟨he rfl rfl,evsE he rfl rfl⟩) Tryz.call15 (by first | rfl | (simp;done) | (simp [PV.nilD,PV.ren,rn] <;> omega)) (by repeat' first | constructor | (congr 1;first | (simp;done) | (simp;omega) | omega)) (.cons rfl<|.nil) (.cons rfl<|.nil) (.cons (by first | rfl | (congr 1;first | (simp;done) | (simp;omega) | omega))<|.nil) rfl rfl rfl rfl rfl rfl (.inl rfl) rfl ?_;refine PQe.stepP (fun _ he ho=>mV (he rfl rfl)) (.inl rfl) rfl ?_;refine PQe.stepP (fun _ he ho=>eQ (he rfl rfl) (he rfl rfl)) (.inl rfl) rfl ?_;refine PQe.stepP (fun _ he ho=>aS (he rfl rfl)) (.inl rfl) rfl ?_;refine PQe.stepP (fun _ he ho=>aS (he rfl rfl)) (.inl rfl) rfl<|PQe.nil<|wX ?_;obtain ⟨hrr,hQ⟩:=(h:_ ∧ _)
      subst hrr;exact EndsO.mk ⟨(v20.1,(decide (y22.1 = v20.2)),y22.2.1,y22.2.2),rfl,hQ⟩ (.inr rfl) (sP (tl:=[(6,_),(7,_)]) (to:=[(100,_),(101,_),(102,_),(1100,_)])) (.cons (.tmp rfl)<|.cons (.tmp rfl)<|.nil) rfl rfl
     ·replace h:=iF hc19 h;refine wQ<|wR<|wS (eQ rfl rfl) rfl<|wa ?_;refine wN ?_;refine wC rfl (fun hc24=>?_) (fun hc24=>?_)
      ·replace h:=iT hc24 h;refine wQ<|wR<|wm ?_;refine wS (LR.nilCheckRef rfl) rfl<|wS (lD Tryz.isAgg28 rfl rfl rfl) rfl<|wa ?_;refine wN<|wQ<|wR<|wm ?_;refine wm ?_;replace h:=iBind h;refine PWl.callObjS [(100,101),(101,102),(8,83),(20161,21661)] [] [100,101,8,20161] (fun gh:Subtype (α:=Bool × (List ((Int × Int) × List TRun))) _=>[(8,.cells 61 [.mp 20161]),(20161,.mapH gh.1.1 [.u16,.u16] false (encM kP (eL TRun.e) gh.1.2))]) [(100,.cells 61 [.mp 101]),(101,.mapH nl3 [.u16,.u16] false (encM kP (eL TRun.e) m4))] (ack_Matrix_Copy_o_ok nl3 m4 h) hK rfl Tryz.call12 rfl (by first | rfl | (simp;done) | (simp [PV.nilD,PV.ren,rn] <;> omega)) (by repeat' first | constructor | (congr 1;first | (simp;done) | (simp;omega) | omega)) (fun _=>.cons rfl<|.cons rfl<|.nil) (fun _=>.cons rfl<|.cons rfl<|.nil) (by repeat' first | constructor | (congr 1;first | (simp;done) | (simp;omega) | omega)) (fun _=>rfl) rfl (fun _=>rfl) (fun _=>rfl) rfl rfl rfl (fun gh=>?_);obtain ⟨y25,h⟩:=gh;refine wS (LR.nilCheckRef rfl) rfl<|wS (sB (ns:=[_]) Tryz.sizeOf28 rfl rfl rfl rfl rfl rfl rfl) rfl<|wN<|wQ<|wz (tl:=[(1,_),(5,_),(14,_)]) (to:=[(5,_),(83,_),(100,_),(101,_),(102,_),(1100,_),(21661,_)]) ?_;refine wR<|wm ?_;replace h:=iDet h;obtain ⟨y27,hy28,h⟩:=h;refine wS (LR.callObjS [(100,101),(101,102)] [] [100,101] [(101,.mapH y27.2.1 [.u16,.u16] false (encM kP (eL TRun.e) y27.2.2))] [(100,.cells 61 [.mp 101])] (ack_Matrix_Join_o_ok 7 nl3 m4 y27 hy28) hK rfl Tryz.call13 rfl (by first | rfl | (simp;done) | (simp [PV.nilD,PV.ren,rn] <;> omega)) (by repeat' first | constructor | (congr 1;first | (simp;done) | (simp;omega) | omega)) (.cons rfl<|.nil) (.cons rfl<|.nil) (.cons (by first | rfl | (congr 1;first | (simp;done) | (simp;omega) | omega))<|.nil) rfl rfl rfl rfl rfl rfl) rfl ?_;refine wN<|wQ<|wz (tl:=[(1,_),(5,_),(14,_)]) (to:=[(5,_),(83,_),(100,_),(101,_),(102,_),(1100,_),(21661,_)]) ?_;refine wR<|wm ?_;refine wS (fR Tryz.underlying33 rfl Tryz.sizeOf31 (by decide) rfl rfl) rfl<|wS (lD Tryz.isAgg31 rfl rfl rfl) rfl<|wS (fR Tryz.underlying33 rfl Tryz.sizeOf24 (by decide) rfl rfl) rfl<|wS (lD Tryz.isAgg24 rfl rfl rfl) rfl ?_;replace h:=iDet h;obtain ⟨y29,hy30,h⟩:=h;refine wS (LR.callObjS [(100,101),(101,102)] [] [100,101] [(101,.mapH y29.2.1 [.u16,.u16] false (encM kP (eL TRun.e) y29.2.2))] [(100,.cells 61 [.mp 101])] (ack_Matrix_Hear_o_ok a2.who a2.c y27.2.1 y27.2.2 y29 hy30) hK rfl Tryz.call15 rfl (by first | rfl | (simp;done) | (simp [PV.nilD,PV.ren,rn] <;> omega)) (by repeat' first | constructor | (congr 1;first | (simp;done) | (simp;omega) | omega)) (.cons rfl<|.nil) (.cons rfl<|.nil) (.cons (by first | rfl | (congr 1;first | (simp;done) | (simp;omega) | omega))<|.nil) rfl rfl rfl rfl rfl rfl) rfl ?_;refine wN<|wz (tl:=[(1,_),(14,_)]) (to:=[(83,_),(100,_),(101,_),(102,_),(1100,_),(21661,_)]) ?_;refine wR<|wm ?_;replace h:=iDet h;obtain ⟨y31,hy32,h⟩:=h;refine wS (LR.callObjS [(100,101),(101,102)] [] [100,101] [(101,.mapH y31.2.1 [.u16,.u16] false (encM kP (eL TRun.e) y31.2.2))] [(100,.cells 61 [.mp 101])] (ack_Matrix_Leave_o_ok 1 y29.2.1 y29.2.2 y31 hy32) hK rfl Tryz.call14 rfl (by first | rfl | (simp;done) | (simp [PV.nilD,PV.ren,rn] <;> omega)) (by repeat' first | constructor | (congr 1;first | (simp;done) | (simp;omega) | omega)) (.cons rfl<|.nil) (.cons rfl<|.nil) (.cons (by first | rfl | (congr 1;first | (simp;done) | (simp;omega) | omega))<|.nil) rfl rfl rfl rfl rfl rfl) rfl ?_;refine wN ?_;exact ⟨(y25.1,y25.2),(),h,Sub.rnm [(101,83),(102,21661)] rfl (.cons (by first | rfl | (congr 1;first | (simp;done) | (simp;omega) | omega))<|.nil) (by repeat' first | constructor | (congr 1;first | (simp;done) | (simp;omega) | omega)) rfl⟩
      ·replace h:=iF hc24 h;refine wK ?_;exact ⟨(nl3,m4),(),h,sP⟩
 ·rintro ⟨nl5,v6⟩ _ h;refine wQ<|wR<|wm ?_;refine wa ?_;refine wa ?_;refine wN<|wX ?_;obtain ⟨hrr,hQ⟩:=(h:_ ∧ _)
  subst hrr;exact EndsO.mk ⟨(x1,true,nl5,v6),rfl,hQ⟩ (.inr rfl) (sP (tl:=[(6,_),(7,_)]) (to:=[(100,_),(101,_),(102,_),(1100,_)])) (.cons (.tmp rfl)<|.cons (.tmp rfl)<|.nil) rfl rfl

end Go.Proofs

namespace Go.Proofs
open Go.Ep
set_option maxHeartbeats 1000000
set_option maxRecDepth 100000
set_option linter.unusedVariables false
set_option linter.unusedSimpArgs false


theorem r09_Norm_ok (c1:List TPart) (r0:List TPart) (h:(r09_Norm c1).wp (· = r0)):PRow Tryz.prog 44 [.d (.sl (List.map TPart.e c1))] 65 2 (List.map TPart.e r0):=by
 refine PRow.intro (sl:=[(0,_)]) Tryz.func44 rfl Tryz.ntmps44 rfl rfl ?_;intro ctx hK;refine wQ<|wR<|wS (aR 65 2 rfl) rfl<|wN<|wQ<|wR<|wm ?_;replace h:=iDet h;obtain ⟨v2,hy3,h⟩:=h;refine wS (LR.rowN (r09_set_ok c1 ([]:List TPart) 0 v2 hy3) rfl Tryz.call55 rfl rfl rfl rfl) rfl<|wy (tl:=[(0,_),(3,_),(4,_)]) (to:=[(4,_)]) ?_;refine wa ?_;refine wN<|wX ?_;replace h:_ = r0:=h;subst h;exact ⟨.inr rfl,2,rfl,.inr ⟨4,_,rfl,(by simp),rfl⟩⟩
end Go.Proofs

namespace Go.Proofs
open Go.Ep
set_option maxHeartbeats 1000000
set_option maxRecDepth 100000
set_option linter.unusedVariables false
set_option linter.unusedSimpArgs false


theorem cmp_isNaN_uint64_ok (x1:Int) (r0:Bool) (h:(cmp_isNaN_uint64 x1).wp (· = r0)):PFun Tryz.prog 100 [.d (.v (.int .u64 x1))] (.d (.v (.bool r0))):=by
 refine fI (sl:=[(0,_)]) Tryz.func100 rfl Tryz.ntmps100 rfl rfl ?_;intro ctx hK;refine wQ<|wR<|wa ?_;refine wN<|wQ<|wR<|wm ?_;refine wm ?_;refine wS (nQ rfl rfl) rfl<|wa ?_;refine wN<|wX ?_;replace h:_ = r0:=h;subst h;exact ⟨.inr rfl,_,.cons (.tmp rfl rfl)<|.nil,rfl⟩

theorem cmp_Compare_uint64_ok (x1:Int) (y2:Int) (r0:Int) (h:(cmp_Compare_uint64 x1 y2).wp (· = r0)):PFun Tryz.prog 86 [.d (.v (.int .u64 x1)),.d (.v (.int .u64 y2))] (.d (.v (.int .i64 r0))):=by
 refine fI (sl:=[(0,_),(1,_)]) Tryz.func86 rfl Tryz.ntmps86 rfl rfl ?_;intro ctx hK;refine wQ<|wR<|wa ?_;refine wN<|wQ<|wR<|wm ?_;replace h:=iDet h;obtain ⟨v3,hy4,h⟩:=h;refine wS (cN (cmp_isNaN_uint64_ok x1 v3 hy4) rfl Tryz.call100 rfl rfl rfl rfl) rfl<|wa ?_;refine wN<|wQ<|wR<|wm ?_;replace h:=iDet h;obtain ⟨v5,hy6,h⟩:=h;refine wS (cN (cmp_isNaN_uint64_ok y2 v5 hy6) rfl Tryz.call100 rfl rfl rfl rfl) rfl<|wa ?_;refine wN<|wQ<|wQ<|wR<|wm ?_;refine wN ?_;refine wC rfl (fun hc7=>?_) (fun hc7=>?_)
 ·replace h:=iT hc7 h;refine wQ<|wQ<|wR<|wm ?_;refine wN ?_;refine wC rfl (fun hc8=>?_) (fun hc8=>?_)
  ·replace h:=iT hc8 h;refine wQ<|wR<|wa ?_;refine wN<|wX ?_;replace h:_ = r0:=h;subst h;exact ⟨.inr rfl,_,.cons (.tmp rfl rfl)<|.nil,rfl⟩
  ·replace h:=iF hc8 h;refine wK<|wQ<|wR<|wa ?_;refine wN<|wX ?_;replace h:_ = r0:=h;subst h;exact ⟨.inr rfl,_,.cons (.tmp rfl rfl)<|.nil,rfl⟩
 ·replace h:=iF hc7 h;refine wK<|wQ<|wQ<|wR<|wm ?_;refine wN ?_;refine wC rfl (fun hc9=>?_) (fun hc9=>?_)
  ·replace h:=iT hc9 h;refine wQ<|wR<|wa ?_;refine wN<|wX ?_;replace h:_ = r0:=h;subst h;exact ⟨.inr rfl,_,.cons (.tmp rfl rfl)<|.nil,rfl⟩
  ·replace h:=iF hc9 h;refine wK<|wQ<|wQ<|wR<|wm ?_;refine wm ?_;refine wS (LR.lss rfl rfl) rfl<|wN ?_;refine wC rfl (fun hc10=>?_) (fun hc10=>?_)
   ·replace h:=iT hc10 h;refine wQ<|wR<|wa ?_;refine wN<|wX ?_;replace h:_ = r0:=h;subst h;exact ⟨.inr rfl,_,.cons (.tmp rfl rfl)<|.nil,rfl⟩
   ·replace h:=iF hc10 h;refine wK<|wQ<|wQ<|wR<|wm ?_;refine wm ?_;refine wS (LR.gtr rfl rfl) rfl<|wN ?_;refine wC rfl (fun hc11=>?_) (fun hc11=>?_)
    ·replace h:=iT hc11 h;refine wQ<|wR<|wa ?_;refine wN<|wX ?_;replace h:_ = r0:=h;subst h;exact ⟨.inr rfl,_,.cons (.tmp rfl rfl)<|.nil,rfl⟩
    ·replace h:=iF hc11 h;refine wK<|wQ<|wR<|wa ?_;refine wN<|wX ?_;replace h:_ = r0:=h;subst h;exact ⟨.inr rfl,_,.cons (.tmp rfl rfl)<|.nil,rfl⟩

end Go.Proofs

namespace Go.Proofs
open Go.Ep
set_option maxHeartbeats 1000000
set_option maxRecDepth 100000
set_option linter.unusedVariables false
set_option linter.unusedSimpArgs false


theorem r09_Meet_ok (a1:List TPart) (b2:List TPart) (r0:List TPart) (h:(r09_Meet a1 b2).wp (· = r0)):PRow Tryz.prog 45 [.d (.sl (List.map TPart.e a1)),.d (.sl (List.map TPart.e b2))] 65 2 (List.map TPart.e r0):=by
 refine PRow.intro (sl:=[(0,_),(1,_)]) Tryz.func45 rfl Tryz.ntmps45 rfl rfl ?_;intro ctx hK;refine wQ<|wR<|wS (aR 65 2 rfl) rfl<|wN<|wQ<|wR<|wm ?_;refine wm ?_;replace h:=iDet h;obtain ⟨v3,hy4,h⟩:=h;refine wS (LR.rowN (r09_set_ok a1 b2 1 v3 hy4) rfl Tryz.call55 rfl rfl rfl rfl) rfl<|wy (tl:=[(0,_),(1,_),(5,_),(6,_),(7,_)]) (to:=[(7,_)]) ?_;refine wa ?_;refine wN<|wX ?_;replace h:_ = r0:=h;subst h;exact ⟨.inr rfl,4,rfl,.inr ⟨7,_,rfl,(by simp),rfl⟩⟩

theorem r25_Front_ok (m1:List R25Row) (c2:List TPart) (r0:List TPart) (h:(r25_Front m1 c2).wp (· = r0)):PFun Tryz.prog 24 [.d (.sl (List.map R25Row.e m1)),.d (.sl (List.map TPart.e c2))] (.d (.sl (List.map TPart.e r0))):=by
 refine fI (sl:=[(0,_),(1,_)]) Tryz.func24 rfl Tryz.ntmps24 rfl rfl ?_;intro ctx hK;refine wQ<|wR<|wS (aR 65 2 rfl) rfl<|wN<|wQ<|wR<|wm ?_;replace h:=iDet h;obtain ⟨v3,hy4,h⟩:=h;refine wS (LR.rowN (r09_Norm_ok c2 v3 hy4) rfl Tryz.call44 rfl rfl rfl rfl) rfl<|wa ?_;refine wN<|wQ<|wQ<|wR<|wa ?_;refine wN ?_;refine wJ (iBind h) (fun (c5:List TPart) (_:Unit)=>⟨22,[(1,.d (.sl (List.map TPart.e c5)))],[]⟩) (fun h=>?_) ?_
 ·refine wB<|wM (fun (⟨c18,i19⟩:List TPart × Int) (_:Unit)=>⟨22,[(0,.d (.sl (List.map R25Row.e m1))),(1,.d (.sl (List.map TPart.e c18))),(5,.d (.v (.int .i64 i19)))],[]⟩) () h (Sub.trans (Sub.frz [1,7] hK rfl (by simp) (AllRow.get (.cons rfl<|.cons rfl<|.nil)))<|sP) ?_;rintro N ⟨c18,i19⟩ _ h;refine wQ<|wQ<|wR<|wm ?_;refine wm ?_;refine wS (lM (enc:=R25Row.e) (L:=m1) Tryz.underlying43 rfl) rfl<|wS (LR.lss rfl rfl) rfl<|wN ?_;refine wC rfl (fun hc20=>?_) (fun hc20=>?_)
  ·replace h:=iT hc20 h;refine wK<|wQ<|wB<|wR<|wm ?_;refine wm ?_;refine wm ?_;replace h:=iIdx h;obtain ⟨x21,hy22,h⟩:=h;refine wS (iX (enc:=R25Row.e) (L:=m1) (y:=x21) Tryz.underlying43 Tryz.sizeOf79 rfl rfl hy22 (fun _=>rfl)) rfl<|wS (fE Tryz.underlying79 rfl Tryz.sizeOf24 (by decide) rfl rfl) rfl<|wS (LR.loadEp Tryz.isAgg24 rfl rfl) rfl ?_;replace h:=iDet h;obtain ⟨v23,hy24,h⟩:=h;refine wS (LR.rowN (r09_Meet_ok c18 x21.c v23 hy24) rfl Tryz.call45 rfl rfl rfl rfl) rfl<|wa ?_;refine wN<|wR<|wm ?_;refine wS (LR.addW rfl rfl) rfl<|wa ?_;refine wN ?_;exact ⟨(v23,(IntKind.i64.wrap (i19 + 1))),(),h,Sub.trans (Sub.frz [1,20] hK rfl (by simp) (AllRow.get (.cons rfl<|.cons rfl<|.nil)))<|sP⟩
  ·replace h:=iF hc20 h;refine wZ ?_;exact ⟨c18,(),h,sP⟩
 ·rintro c5 _ h;refine wQ<|wR<|wm ?_;refine wa ?_;refine wN<|wX ?_;replace h:_ = r0:=h;subst h;exact ⟨.inr rfl,_,.cons (.tmp rfl rfl)<|.nil,rfl⟩

theorem runs_Has_c1_ok (x1:TRun) (n2:Int) (r0:Int) (h:(runs_Has_c1 x1 n2).wp (· = r0)):PFun Tryz.prog 85 [.agg (List.map .d (TRun.e x1)),.d (.v (.int .u64 n2))] (.d (.v (.int .i64 r0))):=by
 refine fI (sl:=[(0,_),(1,_)]) Tryz.func85 rfl Tryz.ntmps85 rfl rfl ?_;intro ctx hK;refine wQ<|wR<|wS (LR.box rfl rfl rfl rfl) rfl<|wa ?_;refine wN<|wQ<|wR<|wS (fR Tryz.underlying72 rfl Tryz.sizeOf56 (by decide) rfl rfl) rfl<|wS (lD Tryz.isAgg56 rfl rfl rfl) rfl<|wm ?_;replace h:=iDet h;obtain ⟨v3,hy4,h⟩:=h;refine wS (cN (cmp_Compare_uint64_ok x1.hi n2 v3 hy4) rfl Tryz.call86 rfl rfl rfl rfl) rfl<|wa ?_;refine wN<|wX ?_;replace h:_ = r0:=h;subst h;exact ⟨.inr rfl,_,.cons (.tmp rfl rfl)<|.nil,rfl⟩

theorem slices_BinarySearchFunc_sl_Run_Run_uint64_runs_Has_c1_ok (x1:List TRun) (target2:Int) (r0:Int × Bool) (h:(slices_BinarySearchFunc_sl_Run_Run_uint64_runs_Has_c1 x1 target2).wp (· = r0)):PFun Tryz.prog 84 [.d (.sl (List.map TRun.e x1)),.d (.v (.int .u64 target2)),.d (.v (.func (.func 85) #[] #[]))] (.tup [.d (.v (.int .i64 r0.1)),.d (.v (.bool r0.2))]):=by
 refine fI (sl:=[(0,_),(1,_),(2,_)]) Tryz.func84 rfl Tryz.ntmps84 rfl rfl ?_;intro ctx hK;refine wQ<|wR<|wa ?_;refine wa ?_;refine wN<|wQ<|wR<|wm ?_;refine wS (lM (enc:=TRun.e) (L:=x1) Tryz.underlying63 rfl) rfl<|wa ?_;refine wN<|wQ<|wR<|wm ?_;refine wa ?_;refine wa ?_;refine wN<|wQ ?_;refine wJ (iBind h) (fun (i3:Int) (_:Unit)=>⟨49,[(0,.d (.sl (List.map TRun.e x1))),(1,.d (.v (.int .u64 target2))),(2,.d (.v (.func (.func 85) #[] #[]))),(8,.d (.v (.int .i64 (List.length x1:Int)))),(9,.d (.v (.int .i64 i3)))],[]⟩) (fun h=>?_) ?_
 ·refine wB<|wM (fun (⟨i18,j19⟩:Int × Int) (_:Unit)=>⟨49,[(0,.d (.sl (List.map TRun.e x1))),(1,.d (.v (.int .u64 target2))),(2,.d (.v (.func (.func 85) #[] #[]))),(8,.d (.v (.int .i64 (List.length x1:Int)))),(9,.d (.v (.int .i64 i18))),(10,.d (.v (.int .i64 j19)))],[]⟩) () h (sP) ?_;rintro N ⟨i18,j19⟩ _ h;refine wQ<|wQ<|wR<|wm ?_;refine wm ?_;refine wS (LR.lss rfl rfl) rfl<|wN ?_;refine wC rfl (fun hc20=>?_) (fun hc20=>?_)
  ·replace h:=iT hc20 h;refine wK<|wB<|wQ<|wR<|wm ?_;refine wm ?_;refine wS (LR.addW rfl rfl) rfl ?_;refine wS (LR.convInt Tryz.underlying93 (by rw [Tryz.underlying3];rfl) rfl rfl) rfl ?_;refine wS (LR.shr rfl rfl (by decide) rfl) rfl ?_;refine wS (LR.convInt Tryz.underlying3 (by rw [Tryz.underlying93];rfl) rfl rfl) rfl ?_;refine wa ?_;refine wN<|wQ<|wR<|wm ?_;refine wm ?_;refine wm ?_;replace h:=iIdx h;obtain ⟨x21,hy22,h⟩:=h;refine wS (iX (enc:=TRun.e) (L:=x1) (y:=x21) Tryz.underlying63 Tryz.sizeOf72 rfl rfl hy22 (fun _=>rfl)) rfl<|wS (lE (ys:=[_,_]) Tryz.isAgg72 Tryz.sizeOf72 rfl rfl rfl) rfl<|wy (tl:=[(0,_),(1,_),(2,_),(8,_),(9,_),(10,_),(11,_),(24,_),(28,_)]) (to:=[]) ?_;refine wm ?_;replace h:=iDet h;obtain ⟨v23,hy24,h⟩:=h;refine wS (cN (runs_Has_c1_ok x21 target2 v23 hy24) rfl Tryz.call85 rfl rfl rfl rfl) rfl<|wS (LR.lss rfl rfl) rfl<|wN ?_;refine wC rfl (fun hc25=>?_) (fun hc25=>?_)
   ·replace h:=iT hc25 h;refine wR<|wm ?_;refine wS (LR.addW rfl rfl) rfl<|wa ?_;refine wN ?_;exact ⟨((IntKind.i64.wrap (((IntKind.i64.wrap ((Int.fdiv ((IntKind.u64.wrap (IntKind.i64.wrap (i18 + j19)))) (2 ^ 1))))) + 1)),j19),(),h,sP⟩
   ·replace h:=iF hc25 h;refine wR<|wm ?_;refine wa ?_;refine wN ?_;exact ⟨(i18,(IntKind.i64.wrap ((Int.fdiv ((IntKind.u64.wrap (IntKind.i64.wrap (i18 + j19)))) (2 ^ 1))))),(),h,sP⟩
  ·replace h:=iF hc20 h;refine wZ ?_;exact ⟨i18,(),h,sP⟩
 ·rintro i3 _ h;refine wQ ?_;refine wJ (iBind h) (fun (v26:Bool) (_:Unit)=>⟨49,[(6,.d (.v (.int .i64 i3))),(7,.d (.v (.bool v26)))],[]⟩) (fun h=>?_) ?_
  ·refine wR<|wm ?_;refine wm ?_;refine wm ?_;refine wS (LR.lss rfl rfl) rfl<|wm ?_;refine wL (d:=39) rfl (fun hg27=>?_) (fun hg27=>?_)
   ·replace h:=iT hg27 h;refine wT (mV rfl) rfl rfl rfl<|wT (mV rfl) rfl rfl rfl<|wT (mV rfl) rfl rfl rfl ?_;replace h:=iIdx h;obtain ⟨x28,hy29,h⟩:=h;refine wT (iX (enc:=TRun.e) (L:=x1) (y:=x28) Tryz.underlying63 Tryz.sizeOf72 rfl rfl hy29 (fun _=>rfl)) rfl rfl rfl<|wT (lE (ys:=[_,_]) Tryz.isAgg72 Tryz.sizeOf72 rfl rfl rfl) rfl rfl rfl<|wT (mV rfl) rfl rfl rfl ?_;replace h:=iDet h;obtain ⟨v30,hy31,h⟩:=h;refine wT (cN (runs_Has_c1_ok x28 target2 v30 hy31) rfl Tryz.call85 rfl rfl rfl rfl) rfl rfl rfl<|wT (eQ rfl rfl) rfl rfl rfl<|wS (pT rfl rfl) rfl<|wa ?_;refine wy (tl:=[(6,_),(48,_)]) (to:=[]) ?_;refine wa ?_;refine wN ?_;exact ⟨(decide (v30 = 0)),(),h,sP⟩
   ·replace h:=iF hg27 h;refine wf<|wf<|wf<|wf<|wf<|wf<|wf<|wf<|wS (pF rfl rfl) rfl ?_;refine wa ?_;refine wy (tl:=[(6,_),(48,_)]) (to:=[]) ?_;refine wa ?_;refine wN ?_;exact ⟨false,(),h,sP⟩
  ·rintro v26 _ h;refine wX ?_;replace h:_ = r0:=h;subst h;exact ⟨.inr rfl,_,.cons (.tmp rfl rfl)<|.cons (.tmp rfl rfl)<|.nil,rfl⟩

theorem runs_Has_ok (l1:List TRun) (n2:Int) (r0:Bool) (h:(runs_Has l1 n2).wp (· = r0)):PFun Tryz.prog 59 [.d (.sl (List.map TRun.e l1)),.d (.v (.int .u64 n2))] (.d (.v (.bool r0))):=by
 refine fI (sl:=[(0,_),(1,_)]) Tryz.func59 rfl Tryz.ntmps59 rfl rfl ?_;intro ctx hK;refine wQ<|wR<|wa ?_;refine wN<|wQ<|wR<|wm ?_;replace h:=iDet h;obtain ⟨v3,hy4,h⟩:=h;refine wS (LR.rowN (runs_Norm_ok l1 v3 hy4) rfl Tryz.call63 rfl rfl rfl rfl) rfl<|wa ?_;refine wN<|wQ<|wR<|wm ?_;refine wm ?_;replace h:=iDet h;obtain ⟨v5,hy6,h⟩:=h;refine PWl.frz [0,8,10] hK (.cons rfl<|.cons rfl<|.cons rfl<|.nil) rfl (by simp) ?_;refine wS (cN (slices_BinarySearchFunc_sl_Run_Run_uint64_runs_Has_c1_ok v3 n2 v5 hy6) rfl Tryz.call84 rfl rfl rfl rfl) rfl<|wm ?_;refine wS (LR.extract rfl rfl) rfl<|wS (LR.extract rfl rfl) rfl<|wa ?_;refine wa ?_;refine wN<|wQ ?_;refine wJ (iBind h) (fun (v7:Bool) (_:Unit)=>⟨28,[(4,.d (.v (.bool v7)))],[]⟩) (fun h=>?_) ?_
 ·refine wR<|wm ?_;refine wm ?_;refine wS (lM (enc:=TRun.e) (L:=v3) Tryz.underlying63 rfl) rfl<|wS (LR.lss rfl rfl) rfl<|wm ?_;refine wL (d:=19) rfl (fun hg8=>?_) (fun hg8=>?_)
  ·replace h:=iT hg8 h;refine wT (mV rfl) rfl rfl rfl<|wy (tl:=[(1,_),(4,_),(5,_),(19,_),(20,_)]) (to:=[]) ?_;refine wT (mV rfl) rfl rfl rfl ?_;replace h:=iIdx h;obtain ⟨x9,hy10,h⟩:=h;refine wT (iX (enc:=TRun.e) (L:=v3) (y:=x9) Tryz.underlying63 Tryz.sizeOf72 rfl rfl hy10 (fun _=>rfl)) rfl rfl rfl<|wT (fE Tryz.underlying72 rfl Tryz.sizeOf56 (by decide) rfl rfl) rfl rfl rfl<|wT (LR.loadEp Tryz.isAgg56 rfl rfl) rfl rfl rfl<|wT (mV rfl) rfl rfl rfl<|wT (LR.leq rfl rfl) rfl rfl rfl<|wS (pT rfl rfl) rfl<|wa ?_;refine wN ?_;exact ⟨(decide (x9.lo ≤ n2)),(),h,sP⟩
  ·replace h:=iF hg8 h;refine wf<|wy (tl:=[(1,_),(4,_),(5,_),(19,_),(20,_)]) (to:=[]) ?_;refine wf<|wf<|wf<|wf<|wf<|wf<|wS (pF rfl rfl) rfl<|wa ?_;refine wN ?_;exact ⟨false,(),h,sP⟩
 ·rintro v7 _ h;refine wX ?_;replace h:_ = r0:=h;subst h;exact ⟨.inr rfl,_,.cons (.tmp rfl rfl)<|.nil,rfl⟩
end Go.Proofs

namespace Go.Proofs
open Go.Ep
set_option maxHeartbeats 1000000
set_option maxRecDepth 100000
set_option linter.unusedVariables false
set_option linter.unusedSimpArgs false


theorem ctx_Runs_ok (c1:List TPart) (dev2:Int) (r0:List TRun) (h:(ctx_Runs c1 dev2).wp (· = r0)):PRow Tryz.prog 60 [.d (.sl (List.map TPart.e c1)),.d (.v (.int .u16 dev2))] 72 2 (List.map TRun.e r0):=by
 refine PRow.intro (sl:=[(0,_),(1,_)]) Tryz.func60 rfl Tryz.ntmps60 rfl rfl ?_;intro ctx hK;refine wQ<|wR<|wS (aR 72 2 rfl) rfl<|wN<|wQ<|wR<|wm ?_;replace h:=iDet h;obtain ⟨v3,hy4,h⟩:=h;refine PWl.mapN (ctx_told_ok c1 v3 hy4) rfl Tryz.call51 rfl rfl rfl rfl rfl (fun bs5 ck5 _=>?_);refine wm ?_;refine wS (LR.getO (eV:=(eL TRun.e)) (zv:=([]:List TRun)) (q:=dev2) (m:=v3) kI_inj Tryz.underlying84 key84 Tryz.zeroValue63 (zRd1 (.slice none 0 0) rfl) rfl rfl rfl rfl rfl rfl) rfl ?_;replace h:=iDet h;obtain ⟨v6,hy7,h⟩:=h;refine wS (LR.rowN (runs_Norm_ok (AL.getZ v3 dev2 ([]:List TRun)) v6 hy7) rfl Tryz.call63 rfl rfl rfl rfl) rfl<|wy (tl:=[(0,_),(1,_),(5,_),(6,_),(7,_),(8,_),(9,_)]) (to:=[(6,_),(9,_)]) ?_;refine wa ?_;refine wN<|wX ?_;replace h:_ = r0:=h;subst h;exact ⟨.inr rfl,4,rfl,.inr ⟨9,_,rfl,(by simp),rfl⟩⟩

theorem ctx_Has_ok (c1:List TPart) (d2:TDot) (r0:Bool) (h:(ctx_Has c1 d2).wp (· = r0)):PFun Tryz.prog 46 [.d (.sl (List.map TPart.e c1)),.agg (List.map .d (TDot.e d2))] (.d (.v (.bool r0))):=by
 refine fI (sl:=[(0,_),(1,_)]) Tryz.func46 rfl Tryz.ntmps46 rfl rfl ?_;intro ctx hK;refine wQ<|wR<|wS (LR.box rfl rfl rfl rfl) rfl<|wa ?_;refine wN<|wQ ?_;refine wJ (iBind h) (fun (v3:Bool) (_:Unit)=>⟨17,[(4,.d (.v (.bool v3)))],[]⟩) (fun h=>?_) ?_
 ·refine wD (by kernel_rfl) (by kernel_rfl) ?_;refine qS (fun _ he ho=>fR Tryz.underlying58 rfl Tryz.sizeOf31 (by decide) rfl (he rfl rfl)) rfl ?_;refine qS (fun _ he ho=>lD Tryz.isAgg31 (he rfl rfl) (ho rfl) rfl) rfl ?_;refine qS (fun _ he ho=>LR.gtr (he rfl rfl) (he rfl rfl)) rfl ?_;refine qS (fun _ he ho=>mV (he rfl rfl)) rfl ?_;refine PQl.split (d:=8) rfl (fun hg4=>?_) (fun hg4=>?_)
  ·replace h:=iT hg4 h;refine qT (fun _ he ho=>mV (he rfl rfl)) rfl rfl rfl ?_;refine qT (fun _ he ho=>fR Tryz.underlying58 rfl Tryz.sizeOf31 (by decide) rfl (he rfl rfl)) rfl rfl rfl ?_;refine qT (fun _ he ho=>lD Tryz.isAgg31 (he rfl rfl) (ho rfl) rfl) rfl rfl rfl ?_;replace h:=iDet h;obtain ⟨v5,hy6,h⟩:=h;refine qT (fun _ he ho=>cN (PRow.fun (ctx_Runs_ok c1 d2.dev v5 hy6)) (he rfl rfl) Tryz.call60 (evsE he rfl rfl) rfl rfl rfl) rfl rfl rfl ?_;refine qT (fun _ he ho=>fR Tryz.underlying58 rfl Tryz.sizeOf56 (by decide) rfl (he rfl rfl)) rfl rfl rfl ?_;refine qT (fun _ he ho=>lD Tryz.isAgg56 (he rfl rfl) (ho rfl) rfl) rfl rfl rfl ?_;replace h:=iDet h;obtain ⟨v7,hy8,h⟩:=h;refine qT (fun _ he ho=>cN (runs_Has_ok v5 d2.n v7 hy8) (he rfl rfl) Tryz.call59 (evsE he rfl rfl) rfl rfl rfl) rfl rfl rfl ?_;refine qS (fun _ he ho=>pT (he rfl rfl) (he rfl rfl)) rfl ?_;refine qS (fun _ he ho=>aS (he rfl rfl)) rfl<|qN ?_;exact ⟨v7,(),h,sP⟩
  ·replace h:=iF hg4 h;refine qF rfl rfl rfl (by decide)<|qF rfl rfl rfl (by decide)<|qF rfl rfl rfl (by decide)<|qF rfl rfl rfl (by decide)<|qF rfl rfl rfl (by decide)<|qF rfl rfl rfl (by decide)<|qF rfl rfl rfl (by decide) ?_;refine qS (fun _ he ho=>pF (he rfl rfl) (he rfl rfl)) rfl ?_;refine qS (fun _ he ho=>aS (he rfl rfl)) rfl<|qN ?_;exact ⟨false,(),h,sP⟩
 ·rintro v3 _ h;refine wX ?_;replace h:_ = r0:=h;subst h;exact ⟨.inr rfl,_,.cons (.tmp rfl rfl)<|.nil,rfl⟩

theorem r09_Has_ok (c1:List TPart) (d2:TDot) (r0:Bool) (h:(r09_Has c1 d2).wp (· = r0)):PFun Tryz.prog 47 [.d (.sl (List.map TPart.e c1)),.agg (List.map .d (TDot.e d2))] (.d (.v (.bool r0))):=by
 refine fI (sl:=[(0,_),(1,_)]) Tryz.func47 rfl Tryz.ntmps47 rfl rfl ?_;intro ctx hK;refine wQ<|wR<|wS (LR.box rfl rfl rfl rfl) rfl<|wa ?_;refine wN<|wQ ?_;refine wJ (iBind h) (fun (v3:Bool) (_:Unit)=>⟨16,[(4,.d (.v (.bool v3)))],[]⟩) (fun h=>?_) ?_
 ·refine wD (by kernel_rfl) (by kernel_rfl) ?_;refine qS (fun _ he ho=>lA (ps:=[_,_]) Tryz.isAgg58 Tryz.sizeOf58 (he rfl rfl) (ho rfl) rfl rfl) rfl ?_;replace h:=iDet h;obtain ⟨v4,hy5,h⟩:=h;refine qS (fun _ he ho=>cN (r07_Good_ok d2 v4 hy5) (he rfl rfl) Tryz.call48 (evsE he rfl rfl) rfl rfl rfl) rfl ?_;refine qS (fun _ he ho=>mV (he rfl rfl)) rfl ?_;refine PQl.split (d:=7) rfl (fun hg6=>?_) (fun hg6=>?_)
  ·replace h:=iT hg6 h;refine qT (fun _ he ho=>mV (he rfl rfl)) rfl rfl rfl ?_;refine qT (fun _ he ho=>fR Tryz.underlying58 rfl Tryz.sizeOf31 (by decide) rfl (he rfl rfl)) rfl rfl rfl ?_;refine qT (fun _ he ho=>lD Tryz.isAgg31 (he rfl rfl) (ho rfl) rfl) rfl rfl rfl ?_;replace h:=iDet h;obtain ⟨v7,hy8,h⟩:=h;refine qT (fun _ he ho=>cN (r09_Runs_ok c1 d2.dev v7 hy8) (he rfl rfl) Tryz.call62 (evsE he rfl rfl) rfl rfl rfl) rfl rfl rfl ?_;refine qT (fun _ he ho=>fR Tryz.underlying58 rfl Tryz.sizeOf56 (by decide) rfl (he rfl rfl)) rfl rfl rfl ?_;refine qT (fun _ he ho=>lD Tryz.isAgg56 (he rfl rfl) (ho rfl) rfl) rfl rfl rfl ?_;replace h:=iDet h;obtain ⟨v9,hy10,h⟩:=h;refine qT (fun _ he ho=>cN (r06_Has_ok v7 d2.n v9 hy10) (he rfl rfl) Tryz.call61 (evsE he rfl rfl) rfl rfl rfl) rfl rfl rfl ?_;refine qS (fun _ he ho=>pT (he rfl rfl) (he rfl rfl)) rfl ?_;refine qS (fun _ he ho=>aS (he rfl rfl)) rfl<|qN ?_;exact ⟨v9,(),h,sP⟩
  ·replace h:=iF hg6 h;refine qF rfl rfl rfl (by decide)<|qF rfl rfl rfl (by decide)<|qF rfl rfl rfl (by decide)<|qF rfl rfl rfl (by decide)<|qF rfl rfl rfl (by decide)<|qF rfl rfl rfl (by decide)<|qF rfl rfl rfl (by decide) ?_;refine qS (fun _ he ho=>pF (he rfl rfl) (he rfl rfl)) rfl ?_;refine qS (fun _ he ho=>aS (he rfl rfl)) rfl<|qN ?_;exact ⟨false,(),h,sP⟩
 ·rintro v3 _ h;refine wX ?_;replace h:_ = r0:=h;subst h;exact ⟨.inr rfl,_,.cons (.tmp rfl rfl)<|.nil,rfl⟩

theorem r25_Lag_ok (m1:List R25Row) (who2:Int) (l3:List TDot) (r0:Int) (h:(r25_Lag m1 who2 l3).wp (· = r0)):PFun Tryz.prog 26 [.d (.sl (List.map R25Row.e m1)),.d (.v (.int .u16 who2)),.d (.sl (List.map TDot.e l3))] (.d (.v (.int .i64 r0))):=by
 refine fI (sl:=[(0,_),(1,_),(2,_)]) Tryz.func26 rfl Tryz.ntmps26 rfl rfl ?_;intro ctx hK;refine wQ<|wR<|wa ?_;refine wN<|wQ<|wR<|wa ?_;refine wN<|wQ<|wQ<|wR<|wa ?_;refine wN ?_;refine wJ (iBind h) (fun (n4:Int) (_:Unit)=>⟨27,[(7,.d (.v (.int .i64 n4)))],[]⟩) (fun h=>?_) ?_
 ·refine wB<|wM (fun (⟨n25,i26⟩:Int × Int) (_:Unit)=>⟨27,[(0,.d (.sl (List.map R25Row.e m1))),(1,.d (.v (.int .u16 who2))),(2,.d (.sl (List.map TDot.e l3))),(7,.d (.v (.int .i64 n25))),(8,.d (.v (.int .i64 i26)))],[]⟩) () h (sP) ?_;rintro N ⟨n25,i26⟩ _ h;refine wQ<|wQ<|wR<|wm ?_;refine wm ?_;refine wS (lM (enc:=TDot.e) (L:=l3) Tryz.underlying49 rfl) rfl<|wS (LR.lss rfl rfl) rfl<|wN ?_;refine wC rfl (fun hc27=>?_) (fun hc27=>?_)
  ·replace h:=iT hc27 h;refine wK<|wQ ?_;refine wJ (iBind h) (fun (n28:Int) (_:Unit)=>⟨27,[(0,.d (.sl (List.map R25Row.e m1))),(1,.d (.v (.int .u16 who2))),(2,.d (.sl (List.map TDot.e l3))),(7,.d (.v (.int .i64 n28))),(8,.d (.v (.int .i64 i26)))],[]⟩) (fun h=>?_) ?_
   ·refine wB<|wQ<|wD (by kernel_rfl) (by kernel_rfl) ?_;refine qS (fun _ he ho=>mV (he rfl rfl)) rfl ?_;refine qS (fun _ he ho=>mV (he rfl rfl)) rfl ?_;replace h:=iDet h;obtain ⟨v29,hy30,h⟩:=h;refine qS (fun _ he ho=>cN (r25_Get_ok m1 who2 v29 hy30) (he rfl rfl) Tryz.call27 (evsE he rfl rfl) rfl rfl rfl) rfl ?_;refine qS (fun _ he ho=>mV (he rfl rfl)) rfl ?_;refine qS (fun _ he ho=>mV (he rfl rfl)) rfl ?_;replace h:=iIdx h;obtain ⟨x31,hy32,h⟩:=h;refine qS (fun _ he ho=>iX (enc:=TDot.e) (L:=l3) (y:=x31) Tryz.underlying49 Tryz.sizeOf58 (he rfl rfl) (he rfl rfl) hy32 (fun _=>rfl)) rfl ?_;refine qS (fun _ he ho=>lE (ys:=[_,_]) Tryz.isAgg58 Tryz.sizeOf58 (he rfl rfl) rfl rfl) rfl ?_;replace h:=iDet h;obtain ⟨v33,hy34,h⟩:=h;refine qS (fun _ he ho=>cN (r09_Has_ok v29 x31 v33 hy34) (he rfl rfl) Tryz.call47 (evsE he rfl rfl) rfl rfl rfl) rfl ?_;refine qS (fun _ he ho=>LR.not (he rfl rfl)) rfl<|qN ?_;refine wC rfl (fun hc35=>?_) (fun hc35=>?_)
    ·replace h:=iT hc35 h;refine wR<|wm ?_;refine wS (LR.addW rfl rfl) rfl<|wa ?_;refine wN ?_;exact ⟨(IntKind.i64.wrap (n25 + 1)),(),h,sP⟩
    ·replace h:=iF hc35 h;refine wK ?_;exact ⟨n25,(),h,sP⟩
   ·rintro n28 _ h;refine wR<|wm ?_;refine wS (LR.addW rfl rfl) rfl<|wa ?_;refine wN ?_;exact ⟨(n28,(IntKind.i64.wrap (i26 + 1))),(),h,sP⟩
  ·replace h:=iF hc27 h;refine wZ ?_;exact ⟨n25,(),h,sP⟩
 ·rintro n4 _ h;refine wQ<|wR<|wm ?_;refine wa ?_;refine wN<|wX ?_;replace h:_ = r0:=h;subst h;exact ⟨.inr rfl,_,.cons (.tmp rfl rfl)<|.nil,rfl⟩

theorem l25_Is_o_ok (x1:List R25Row) (nl2:Bool) (m3:List ((Int × Int) × List TRun)) (r0:Int) (h:(l25_Is_o x1 nl2 m3).wp (· = r0)):PObj Tryz.prog 22 [.ref 100 0,.d (.sl (List.map R25Row.e x1))] [(100,.cells 61 [.mp 101]),(101,.mapH nl2 [.u16,.u16] false (encM kP (eL TRun.e) m3))] [100,101] (.d (.v (.int .i64 r0))) (fun _:Unit=>[(100,.cells 61 [.mp 101]),(101,.mapH nl2 [.u16,.u16] false (encM kP (eL TRun.e) m3))]):=by
 refine PObj.intro (sl:=[(0,_),(1,_)]) Tryz.func22 rfl Tryz.ntmps22 rfl rfl rfl ?_;intro ctx hK pv;refine wQ<|wR<|wa ?_;refine wN<|wQ<|wR<|wm ?_;replace h:=iDet h;obtain ⟨y4,hy5,h⟩:=h;refine wS (LR.callObjS [(100,100),(101,101)] [] [100,101] [] [(100,.cells 61 [.mp 101]),(101,.mapH nl2 [.u16,.u16] false (encM kP (eL TRun.e) m3))] (ack_Matrix_Members_o_ok nl2 m3 y4 hy5) hK rfl Tryz.call17 rfl (by first | rfl | (simp;done) | (simp [PV.nilD,PV.ren,rn] <;> omega)) (by repeat' first | constructor | (congr 1;first | (simp;done) | (simp;omega) | omega)) (.nil) (.cons rfl<|.cons rfl<|.nil) (by repeat' first | constructor | (congr 1;first | (simp;done) | (simp;omega) | omega)) rfl rfl rfl rfl rfl rfl) rfl ?_;refine wa ?_;refine wN<|wQ<|wQ<|wz (tl:=[(0,_),(1,_),(5,_)]) (to:=[(100,_),(101,_),(1100,_),(1101,_)]) ?_;refine wR<|wm ?_;refine wS (lM (enc:=(eK .u16)) (L:=y4) Tryz.underlying38 rfl) rfl<|wm ?_;refine wS (lM (enc:=R25Row.e) (L:=x1) Tryz.underlying43 rfl) rfl<|wS (nQ rfl rfl) rfl<|wN ?_;refine wC rfl (fun hc6=>?_) (fun hc6=>?_)
 ·replace h:=iT hc6 h;refine wQ<|wR<|wa ?_;refine wN<|wX ?_;replace h:_ = r0:=h;subst h;exact EndsO.mk () (.inr rfl) (sP (tl:=[(4,_)]) (to:=[(100,_),(101,_),(1100,_),(1101,_)])) (.cons (.tmp rfl)<|.nil) rfl rfl
 ·replace h:=iF hc6 h;refine wK<|wQ<|wQ<|wR<|wa ?_;refine wN ?_;refine PWc.jnX (iBind h) (fun (_:Unit) (_:Unit)=>⟨45,[],[(100,.cells 61 [.mp 101]),(101,.mapH nl2 [.u16,.u16] false (encM kP (eL TRun.e) m3)),(1100,.pin 100 (pv 100)),(1101,.pin 101 (pv 101))]⟩) (fun h=>?_) ?_
  ·refine wB<|wM (fun (i40:Int) (_:Unit)=>⟨45,[(0,.ref 100 0),(1,.d (.sl (List.map R25Row.e x1))),(5,.d (.sl (List.map (eK .u16) y4))),(6,.d (.v (.int .i64 i40)))],[(100,.cells 61 [.mp 101]),(101,.mapH nl2 [.u16,.u16] false (encM kP (eL TRun.e) m3)),(1100,.pin 100 (pv 100)),(1101,.pin 101 (pv 101))]⟩) () h (sP) ?_;rintro N i40 _ h;refine wQ<|wQ<|wR<|wm ?_;refine wm ?_;refine wS (lM (enc:=(eK .u16)) (L:=y4) Tryz.underlying38 rfl) rfl<|wS (LR.lss rfl rfl) rfl<|wN ?_;refine wC rfl (fun hc41=>?_) (fun hc41=>?_)
   ·replace h:=iT hc41 h;refine wK<|wQ<|wB<|wQ<|wz (tl:=[(0,_),(1,_),(5,_),(6,_)]) (to:=[(100,_),(101,_),(1100,_),(1101,_)]) ?_;refine wJ (iBind h) (fun (v42:Bool) (_:Unit)=>⟨45,[(0,.ref 100 0),(1,.d (.sl (List.map R25Row.e x1))),(5,.d (.sl (List.map (eK .u16) y4))),(6,.d (.v (.int .i64 i40))),(44,.d (.v (.bool v42)))],[(100,.cells 61 [.mp 101]),(101,.mapH nl2 [.u16,.u16] false (encM kP (eL TRun.e) m3)),(1100,.pin 100 (pv 100)),(1101,.pin 101 (pv 101))]⟩) (fun h=>?_) ?_
    ·refine PWc.regionE [{ws:=[20]},{ws:=[21]},{ws:=[22]},{ws:=[23]},{ws:=[24]},{ws:=[25]},{ws:=[26]},{ws:=[27]},{ws:=[28]},{ws:=[29]},{ws:=[30]},⟨[31],[],[],[],[],[100],[],[]⟩,{ws:=[32]},{ws:=[33]},{ws:=[34]},{ws:=[35]},⟨[36],[],[100,101],[],[],[],[],[]⟩,{ws:=[37]},{ws:=[38]},{ws:=[39]},{ws:=[40]},{ws:=[41]},{ws:=[42]},{ws:=[43]},{ws:=[44]}] (by kernel_rfl) (by kernel_rfl) rfl ?_;refine PQe.stepP (fun _ he ho=>mV (he rfl rfl)) (.inl rfl) rfl ?_;refine PQe.stepP (fun _ he ho=>mV (he rfl rfl)) (.inl rfl) rfl ?_;replace h:=iIdx h;obtain ⟨x43,hy44,h⟩:=h;refine PQe.stepP (fun _ he ho=>iX (enc:=(eK .u16)) (L:=y4) (y:=x43) Tryz.underlying38 Tryz.sizeOf31 (he rfl rfl) (he rfl rfl) hy44 (fun _=>rfl)) (.inl rfl) rfl ?_;refine PQe.stepP (fun _ he ho=>LR.loadEp Tryz.isAgg31 (he rfl rfl) rfl) (.inl rfl) rfl ?_;refine PQe.stepP (fun _ he ho=>mV (he rfl rfl)) (.inl rfl) rfl ?_;refine PQe.stepP (fun _ he ho=>mV (he rfl rfl)) (.inl rfl) rfl ?_;replace h:=iIdx h;obtain ⟨x45,hy46,h⟩:=h;refine PQe.stepP (fun _ he ho=>iX (enc:=R25Row.e) (L:=x1) (y:=x45) Tryz.underlying43 Tryz.sizeOf79 (he rfl rfl) (he rfl rfl) hy46 (fun _=>rfl)) (.inl rfl) rfl ?_;refine PQe.stepP (fun _ he ho=>fE Tryz.underlying79 rfl Tryz.sizeOf31 (by decide) rfl (he rfl rfl)) (.inl rfl) rfl ?_;refine PQe.stepP (fun _ he ho=>LR.loadEp Tryz.isAgg31 (he rfl rfl) rfl) (.inl rfl) rfl ?_;refine PQe.stepP (fun _ he ho=>nQ (he rfl rfl) (he rfl rfl)) (.inl rfl) rfl ?_;refine PQe.stepP (fun _ he ho=>mV (he rfl rfl)) (.inl rfl) rfl ?_;refine PQe.split (d:=30) rfl (fun hg47=>?_) (fun hg47=>?_)
     ·replace h:=iT hg47 h;refine PQe.skipP (.inl ⟨_,_,_,_,rfl,rfl,rfl,by decide⟩) rfl ?_;refine PQe.skipP (.inl ⟨_,_,_,_,rfl,rfl,rfl,by decide⟩) rfl ?_;refine PQe.skipP (.inl ⟨_,_,_,_,rfl,rfl,rfl,by decide⟩) rfl ?_;refine PQe.skipP (.inl ⟨_,_,_,_,rfl,rfl,rfl,by decide⟩) rfl ?_;refine PQe.skipP (.inl ⟨_,_,_,_,rfl,rfl,rfl,by decide⟩) rfl ?_;refine PQe.skipP (.inl ⟨_,_,_,_,rfl,rfl,rfl,by decide⟩) rfl ?_;refine PQe.skipP (.inl ⟨_,_,_,_,rfl,rfl,rfl,by decide⟩) rfl ?_;refine PQe.skipP (.inl ⟨_,_,_,_,rfl,rfl,rfl,by decide⟩) rfl ?_;refine PQe.skipP (.inl ⟨_,_,_,_,rfl,rfl,rfl,by decide⟩) rfl ?_;refine PQe.skipP (.inl ⟨_,_,_,_,rfl,rfl,rfl,by decide⟩) rfl ?_;refine PQe.skipP (.inl ⟨_,_,_,_,rfl,rfl,rfl,by decide⟩) rfl ?_;refine PQe.skipP (.inl ⟨_,_,_,_,rfl,rfl,rfl,by decide⟩) rfl ?_;refine PQe.skipP (.inl ⟨_,_,_,_,rfl,rfl,rfl,by decide⟩) rfl ?_;refine PQe.stepP (fun _ he ho=>pT (he rfl rfl) (he rfl rfl)) (.inl rfl) rfl<|PQe.nil ?_;exact ⟨true,(),h,sP⟩
     ·replace h:=iF hg47 h;refine PQe.stepP (fun _ he ho=>mV (he rfl rfl)) (.inr ⟨_,_,_,rfl,rfl,rfl⟩) rfl ?_;refine PQe.stepP (fun _ he ho=>mV (he rfl rfl)) (.inr ⟨_,_,_,rfl,rfl,rfl⟩) rfl ?_;refine PQe.stepP (fun _ he ho=>mV (he rfl rfl)) (.inr ⟨_,_,_,rfl,rfl,rfl⟩) rfl ?_;replace h:=iIdx h;obtain ⟨x48,hy49,h⟩:=h;refine PQe.stepP (fun _ he ho=>iX (enc:=(eK .u16)) (L:=y4) (y:=x48) Tryz.underlying38 Tryz.sizeOf31 (he rfl rfl) (he rfl rfl) hy49 (fun _=>rfl)) (.inr ⟨_,_,_,rfl,rfl,rfl⟩) rfl ?_;refine PQe.stepP (fun _ he ho=>LR.loadEp Tryz.isAgg31 (he rfl rfl) rfl) (.inr ⟨_,_,_,rfl,rfl,rfl⟩) rfl ?_;replace h:=iDet h;obtain ⟨y50,hy51,h⟩:=h;refine PQe.callObjS [(100,100),(101,101)] [] [100,101] [] [(100,.cells 61 [.mp 101]),(101,.mapH nl2 [.u16,.u16] false (encM kP (eL TRun.e) m3))] (ack_Matrix_Row_o_ok x48 nl2 m3 y50 hy51) hK (fun _ he=>⟨he rfl rfl,evsE he rfl rfl⟩) Tryz.call18 (by first | rfl | (simp;done) | (simp [PV.nilD,PV.ren,rn] <;> omega)) (by repeat' first | constructor | (congr 1;first | (simp;done) | (simp;omega) | omega)) (.nil) (.cons rfl<|.cons rfl<|.nil) (by repeat' first | constructor | (congr 1;first | (simp;done) | (simp;omega) | omega)) rfl rfl rfl rfl rfl rfl (.inr ⟨_,_,_,rfl,rfl,rfl⟩) rfl ?_;refine PQe.stepP (fun _ he ho=>mV (he rfl rfl)) (.inr ⟨_,_,_,rfl,rfl,rfl⟩) rfl ?_;refine PQe.stepP (fun _ he ho=>mV (he rfl rfl)) (.inr ⟨_,_,_,rfl,rfl,rfl⟩) rfl ?_;replace h:=iIdx h;obtain ⟨x52,hy53,h⟩:=h;refine PQe.stepP (fun _ he ho=>iX (enc:=R25Row.e) (L:=x1) (y:=x52) Tryz.underlying43 Tryz.sizeOf79 (he rfl rfl) (he rfl rfl) hy53 (fun _=>rfl)) (.inr ⟨_,_,_,rfl,rfl,rfl⟩) rfl ?_;refine PQe.stepP (fun _ he ho=>fE Tryz.underlying79 rfl Tryz.sizeOf24 (by decide) rfl (he rfl rfl)) (.inr ⟨_,_,_,rfl,rfl,rfl⟩) rfl ?_;refine PQe.stepP (fun _ he ho=>LR.loadEp Tryz.isAgg24 (he rfl rfl) rfl) (.inr ⟨_,_,_,rfl,rfl,rfl⟩) rfl ?_;replace h:=iDet h;obtain ⟨v54,hy55,h⟩:=h;refine PQe.stepP (fun _ he ho=>cN (r09_Eq_ok y50 x52.c v54 hy55) (he rfl rfl) Tryz.call23 (evsE he rfl rfl) rfl rfl rfl) (.inr ⟨_,_,_,rfl,rfl,rfl⟩) rfl ?_;refine PQe.stepP (fun _ he ho=>LR.not (he rfl rfl)) (.inr ⟨_,_,_,rfl,rfl,rfl⟩) rfl ?_;refine PQe.stepP (fun _ he ho=>pF (he rfl rfl) (he rfl rfl)) (.inl rfl) rfl<|PQe.nil ?_;exact ⟨(!v54),(),h,sP⟩
    ·rintro v42 _ h;refine wC rfl (fun hc56=>?_) (fun hc56=>?_)
     ·replace h:=iT hc56 h;refine wQ<|wR<|wa ?_;refine wN<|wX ?_;replace h:_ = r0:=h;subst h;exact EndsO.mk () (.inr rfl) (sP (tl:=[(4,_)]) (to:=[(100,_),(101,_),(1100,_),(1101,_)])) (.cons (.tmp rfl)<|.nil) rfl rfl
     ·replace h:=iF hc56 h;refine wK<|wR<|wm ?_;refine wS (LR.addW rfl rfl) rfl<|wa ?_;refine wN ?_;exact ⟨(IntKind.i64.wrap (i40 + 1)),(),h,sP⟩
   ·replace h:=iF hc41 h;refine wZ ?_;exact ⟨(),(),h,sP⟩
  ·rintro _ _ h;refine wQ<|wR<|wa ?_;refine wN<|wX ?_;replace h:_ = r0:=h;subst h;exact EndsO.mk () (.inr rfl) (sP (tl:=[(4,_)]) (to:=[(100,_),(101,_),(1100,_),(1101,_)])) (.cons (.tmp rfl)<|.nil) rfl rfl
end Go.Proofs

namespace Go.Proofs
open Go.Ep
set_option maxHeartbeats 1000000
set_option maxRecDepth 100000
set_option linter.unusedVariables false
set_option linter.unusedSimpArgs false


theorem ack_Matrix_Lag_o_ok (who1:Int) (l2:List TDot) (nl3:Bool) (m4:List ((Int × Int) × List TRun)) (r0:Int) (h:(ack_Matrix_Lag_o who1 l2 nl3 m4).wp (· = r0)):PObj Tryz.prog 25 [.ref 100 0,.d (.v (.int .u16 who1)),.d (.sl (List.map TDot.e l2))] [(100,.cells 61 [.mp 101]),(101,.mapH nl3 [.u16,.u16] false (encM kP (eL TRun.e) m4))] [100,101] (.d (.v (.int .i64 r0))) (fun _:Unit=>[(100,.cells 61 [.mp 101]),(101,.mapH nl3 [.u16,.u16] false (encM kP (eL TRun.e) m4))]):=by
 refine PObj.intro (sl:=[(0,_),(1,_),(2,_)]) Tryz.func25 rfl Tryz.ntmps25 rfl rfl rfl ?_;intro ctx hK pv;refine wQ<|wR<|wa ?_;refine wN<|wQ<|wR<|wm ?_;refine wm ?_;replace h:=iDet h;obtain ⟨y5,hy6,h⟩:=h;refine wS (LR.callObjS [(100,100),(101,101)] [] [100,101] [] [(100,.cells 61 [.mp 101]),(101,.mapH nl3 [.u16,.u16] false (encM kP (eL TRun.e) m4))] (ack_Matrix_Row_o_ok who1 nl3 m4 y5 hy6) hK rfl Tryz.call18 rfl (by first | rfl | (simp;done) | (simp [PV.nilD,PV.ren,rn] <;> omega)) (by repeat' first | constructor | (congr 1;first | (simp;done) | (simp;omega) | omega)) (.nil) (.cons rfl<|.cons rfl<|.nil) (by repeat' first | constructor | (congr 1;first | (simp;done) | (simp;omega) | omega)) rfl rfl rfl rfl rfl rfl) rfl ?_;refine wa ?_;refine wN<|wQ<|wz (tl:=[(2,_),(7,_)]) (to:=[(100,_),(101,_),(1100,_),(1101,_)]) ?_;refine wR<|wa ?_;refine wN<|wQ<|wQ<|wR<|wm ?_;refine wS (lM (enc:=TDot.e) (L:=l2) Tryz.underlying49 rfl) rfl<|wm ?_;refine wN ?_;refine wJ (iBind h) (fun (n7:Int) (_:Unit)=>⟨28,[(8,.d (.v (.int .i64 n7)))],[(100,.cells 61 [.mp 101]),(101,.mapH nl3 [.u16,.u16] false (encM kP (eL TRun.e) m4)),(1100,.pin 100 (pv 100)),(1101,.pin 101 (pv 101))]⟩) (fun h=>?_) ?_
 ·refine wB<|wM (fun (⟨n24,v25⟩:Int × Int) (_:Unit)=>⟨28,[(7,.d (.sl (List.map TPart.e y5))),(8,.d (.v (.int .i64 n24))),(14,.d (.sl (List.map TDot.e l2))),(15,.d (.v (.int .i64 (List.length l2:Int)))),(16,.d (.v (.int .i64 v25)))],[(100,.cells 61 [.mp 101]),(101,.mapH nl3 [.u16,.u16] false (encM kP (eL TRun.e) m4)),(1100,.pin 100 (pv 100)),(1101,.pin 101 (pv 101))]⟩) () h (sP) ?_;rintro N ⟨n24,v25⟩ _ h;refine wQ<|wR<|wS (LR.lss rfl rfl) rfl<|wN<|wQ ?_;refine wC rfl (fun hc26=>?_) (fun hc26=>?_)
  ·replace h:=iT hc26 h;refine wK<|wQ ?_;refine wJ (iBind h) (fun (n27:Int) (_:Unit)=>⟨28,[(7,.d (.sl (List.map TPart.e y5))),(8,.d (.v (.int .i64 n27))),(14,.d (.sl (List.map TDot.e l2))),(15,.d (.v (.int .i64 (List.length l2:Int)))),(16,.d (.v (.int .i64 v25)))],[(100,.cells 61 [.mp 101]),(101,.mapH nl3 [.u16,.u16] false (encM kP (eL TRun.e) m4)),(1100,.pin 100 (pv 100)),(1101,.pin 101 (pv 101))]⟩) (fun h=>?_) ?_
   ·refine wB<|wQ<|wR ?_;replace h:=iIdx h;obtain ⟨x28,hy29,h⟩:=h;refine wS (iX (enc:=TDot.e) (L:=l2) (y:=x28) Tryz.underlying49 Tryz.sizeOf58 rfl rfl hy29 (fun _=>rfl)) rfl<|wS (lE (ys:=[_,_]) Tryz.isAgg58 Tryz.sizeOf58 rfl rfl rfl) rfl<|wS (LR.allocZ (cs:=[_,_]) Tryz.zeroValue58 rfl rfl rfl rfl) rfl<|wS (sB (ns:=[_,_]) Tryz.sizeOf58 rfl rfl rfl rfl rfl rfl rfl) rfl<|wN<|wQ<|wR<|wm ?_;refine wS (lA (ps:=[_,_]) Tryz.isAgg58 Tryz.sizeOf58 rfl rfl rfl rfl) rfl ?_;replace h:=iDet h;obtain ⟨v30,hy31,h⟩:=h;refine wS (cN (ctx_Has_ok y5 x28 v30 hy31) rfl Tryz.call46 rfl rfl rfl rfl) rfl<|wS (LR.not rfl) rfl<|wN ?_;refine wC rfl (fun hc32=>?_) (fun hc32=>?_)
    ·replace h:=iT hc32 h;refine wR<|wm ?_;refine wS (LR.addW rfl rfl) rfl<|wa ?_;refine wN ?_;exact ⟨(IntKind.i64.wrap (n24 + 1)),(),h,sP⟩
    ·replace h:=iF hc32 h;refine wK ?_;exact ⟨n24,(),h,sP⟩
   ·rintro n27 _ h;refine wR<|wS (LR.addW rfl rfl) rfl<|wm ?_;refine wN ?_;exact ⟨(n27,(IntKind.i64.wrap (v25 + 1))),(),h,sP⟩
  ·replace h:=iF hc26 h;refine wZ ?_;exact ⟨n24,(),h,sP⟩
 ·rintro n7 _ h;refine wQ<|wR<|wm ?_;refine wa ?_;refine wN<|wX ?_;replace h:_ = r0:=h;subst h;exact EndsO.mk () (.inr rfl) (sP (tl:=[(6,_)]) (to:=[(100,_),(101,_),(1100,_),(1101,_)])) (.cons (.tmp rfl)<|.nil) rfl rfl

theorem l25_AckPlays_ok (l1:List L25Act) (c2:List TPart) (dots3:List TDot) (r0:Bool) (h:(l25_AckPlays l1 c2 dots3).wp (· = r0)):PFun Tryz.prog 5 [.d (.sl (List.map L25Act.e l1)),.d (.sl (List.map TPart.e c2)),.d (.sl (List.map TDot.e dots3))] (.d (.v (.bool r0))):=by
 refine fI (sl:=[(0,_),(1,_),(2,_)]) Tryz.func5 rfl Tryz.ntmps5 rfl rfl ?_;intro ctx hK;refine wQ<|wR<|wa ?_;refine wN<|wQ<|wQ ?_;refine wJ (iBind h) (fun (v4:Bool) (_:Unit)=>⟨105,[(0,.d (.sl (List.map L25Act.e l1))),(1,.d (.sl (List.map TPart.e c2))),(2,.d (.sl (List.map TDot.e dots3))),(24,.d (.v (.bool v4)))],[]⟩) (fun h=>?_) ?_
 ·refine wR<|wm ?_;replace h:=iDet h;obtain ⟨v5,hy6,h⟩:=h;refine wS (cN (l25_few_ok l1 v5 hy6) rfl Tryz.call7 rfl rfl rfl rfl) rfl<|wS (LR.not rfl) rfl<|wm ?_;refine wL (d:=15) rfl (fun hg7=>?_) (fun hg7=>?_)
  ·replace h:=iT hg7 h;refine wf<|wf<|wf<|wS (pT rfl rfl) rfl<|wm ?_;refine wf<|wf<|wf<|wS (pT rfl rfl) rfl<|wN ?_;exact ⟨true,(),h,sP⟩
  ·replace h:=iF hg7 h;refine wT (mV rfl) rfl rfl rfl ?_;replace h:=iDet h;obtain ⟨v8,hy9,h⟩:=h;refine wT (cN (r09_Few_ok c2 v8 hy9) rfl Tryz.call8 rfl rfl rfl rfl) rfl rfl rfl<|wT (LR.not rfl) rfl rfl rfl<|wS (pF rfl rfl) rfl<|wm ?_;refine wL (d:=20) rfl (fun hg10=>?_) (fun hg10=>?_)
   ·replace h:=iT hg10 h;refine wf<|wf<|wf<|wS (pT rfl rfl) rfl<|wN ?_;exact ⟨true,(),h,sP⟩
   ·replace h:=iF hg10 h;refine wT (mV rfl) rfl rfl rfl<|wT (lM (enc:=TDot.e) (L:=dots3) Tryz.underlying49 rfl) rfl rfl rfl<|wT (LR.gtr rfl rfl) rfl rfl rfl<|wS (pF rfl rfl) rfl<|wN ?_;exact ⟨(decide (60 < (List.length dots3:Int))),(),h,sP⟩
 ·rintro v4 _ h;refine wC rfl (fun hc11=>?_) (fun hc11=>?_)
  ·replace h:=iT hc11 h;refine wQ<|wR ?_;replace h:=iDet h;obtain ⟨v12,hy13,h⟩:=h;refine wS (cN (l25_works_ok v12 hy13) rfl Tryz.call9 rfl rfl rfl rfl) rfl<|wa ?_;refine wN<|wX ?_;replace h:_ = r0:=h;subst h;exact ⟨.inr rfl,_,.cons (.tmp rfl rfl)<|.nil,rfl⟩
  ·replace h:=iF hc11 h;refine wK<|wQ<|wR ?_;replace h:=iDet h;obtain ⟨y14,hy15,h⟩:=h;refine wS (LR.callObj [(2,26),(30040,20521)] [] [2,30040] (ack_New_o_ok y14 hy15) hK rfl Tryz.call10 rfl (by first | rfl | (simp;done) | (simp [PV.nilD,PV.ren,rn] <;> omega)) (.nil) rfl rfl rfl rfl) rfl ?_;refine wS (LR.allocZ (cs:=[_]) Tryz.zeroValue28 rfl rfl rfl rfl) rfl<|wS (sB (ns:=[_]) Tryz.sizeOf28 rfl rfl rfl rfl rfl rfl rfl) rfl<|wN<|wQ<|wz (tl:=[(0,_),(1,_),(2,_),(7,_)]) (to:=[(7,_),(26,_),(20521,_)]) ?_;refine wR<|wS (aR 79 2 rfl) rfl<|wN<|wQ<|wQ<|wR<|wa ?_;refine wN ?_;refine PWc.jnX (iBind h) (fun (⟨x16,nl17,v18⟩:List R25Row × Bool × (List ((Int × Int) × List TRun))) (_:Unit)=>⟨105,[(7,.ref 7 0),(8,.d (.sl (List.map R25Row.e x16)))],[(7,.cells 28 [.ref 26 0]),(26,.cells 61 [.mp 20521]),(20521,.mapH nl17 [.u16,.u16] false (encM kP (eL TRun.e) v18))]⟩) (fun h=>?_) ?_
   ·refine wB ?_;refine wM (fun (⟨x97,i98,nl99,v100⟩:List R25Row × Int × Bool × (List ((Int × Int) × List TRun))) (_:Unit)=>⟨105,[(0,.d (.sl (List.map L25Act.e l1))),(1,.d (.sl (List.map TPart.e c2))),(2,.d (.sl (List.map TDot.e dots3))),(7,.ref 7 0),(8,.d (.sl (List.map R25Row.e x97))),(9,.d (.v (.int .i64 i98)))],[(7,.cells 28 [.ref 26 0]),(26,.cells 61 [.mp 20521]),(20521,.mapH nl99 [.u16,.u16] false (encM kP (eL TRun.e) v100))]⟩) () h (Sub.trans (Sub.frz [8] hK rfl (by first | (simp;done) | (simp;omega) | omega) (AllRow.get (.cons rfl<|.nil)))<|sP) ?_;rintro N ⟨x97,i98,nl99,v100⟩ _ h;refine wQ<|wQ<|wR<|wm ?_;refine wm ?_;refine wS (lM (enc:=L25Act.e) (L:=l1) Tryz.underlying22 rfl) rfl<|wS (LR.lss rfl rfl) rfl<|wN ?_;refine wC rfl (fun hc101=>?_) (fun hc101=>?_)
    ·replace h:=iT hc101 h;refine wK<|wQ<|wB<|wQ<|wR<|wm ?_;refine wm ?_;refine wm ?_;replace h:=iIdx h;obtain ⟨x102,hy103,h⟩:=h;refine wS (iX (enc:=L25Act.e) (L:=l1) (y:=x102) Tryz.underlying22 Tryz.sizeOf33 rfl rfl hy103 (fun _=>rfl)) rfl<|wS (lE (ys:=[_,_,_]) Tryz.isAgg33 Tryz.sizeOf33 rfl rfl rfl) rfl ?_;replace h:=iDetp h;obtain ⟨rry104,h⟩:=h;refine PWl.callObjS [(100,7),(101,26),(102,20521)] [] [100,101,102] (fun gh:Subtype (α:=List R25Row × Bool × Bool × (List ((Int × Int) × List TRun))) _=>[(100,.cells 28 [.ref 101 0]),(101,.cells 61 [.mp 102]),(102,.mapH gh.1.2.2.1 [.u16,.u16] false (encM kP (eL TRun.e) gh.1.2.2.2))]) [] (l25_step_o_ok x97 x102 nl99 v100 rry104 h) hK rfl Tryz.call20 rfl (by first | rfl | (simp;done) | (simp [PV.nilD,PV.ren,rn] <;> omega)) (by repeat' first | constructor | (congr 1;first | (simp;done) | (simp;omega) | omega)) (fun _=>.cons rfl<|.cons rfl<|.cons rfl<|.nil) (fun _=>.nil) (.nil) (fun _=>rfl) rfl (fun _=>rfl) (fun _=>rfl) rfl rfl rfl (fun gh=>?_);obtain ⟨y104,hrr,hQ⟩:=gh;subst hrr;replace h:=hQ;refine wm ?_;refine wS (LR.extract rfl rfl) rfl<|wS (LR.extract rfl rfl) rfl<|wa ?_;refine wa ?_;refine wN<|wQ<|wz (tl:=[(0,_),(1,_),(2,_),(7,_),(9,_),(10,_),(11,_)]) (to:=[(7,_),(26,_),(20521,_)]) ?_;refine wR<|wm ?_;refine wa ?_;refine wN<|wQ<|wz (tl:=[(0,_),(1,_),(2,_),(7,_),(8,_),(9,_),(11,_)]) (to:=[(7,_),(26,_),(20521,_)]) ?_;refine wJ (iBind h) (fun (v106:Bool) (_:Unit)=>⟨105,[(0,.d (.sl (List.map L25Act.e l1))),(1,.d (.sl (List.map TPart.e c2))),(2,.d (.sl (List.map TDot.e dots3))),(7,.ref 7 0),(8,.d (.sl (List.map R25Row.e y104.1))),(9,.d (.v (.int .i64 i98))),(97,.d (.v (.bool v106)))],[(7,.cells 28 [.ref 26 0]),(26,.cells 61 [.mp 20521]),(20521,.mapH y104.2.2.1 [.u16,.u16] false (encM kP (eL TRun.e) y104.2.2.2))]⟩) (fun h=>?_) ?_
     ·refine PWc.regionF [{ws:=[43]},{ws:=[44]},{ws:=[45]},⟨[46],[],[7],[],[],[26],[],[]⟩,{ws:=[47]},⟨[48],[],[26,20521],[],[],[],[],[]⟩,{ws:=[49]},{ws:=[50]},{ws:=[51]},⟨[52],[],[7],[],[],[26],[],[]⟩,{ws:=[53]},⟨[54],[],[26,20521],[],[],[],[],[]⟩,{ws:=[55]},{ws:=[56]},{ws:=[57]},{ws:=[58]},{ws:=[59]},{ws:=[60]},{ws:=[61]},⟨[62],[],[7],[],[],[26],[],[]⟩,{ws:=[63]},{ws:=[64]},{ws:=[65]},{ws:=[66]},{ws:=[67]},{ws:=[68]},⟨[69],[],[26,20521],[],[],[],[],[]⟩,{ws:=[70]},{ws:=[71]},{ws:=[72]},{ws:=[73]},{ws:=[74]},{ws:=[75]},{ws:=[76]},{ws:=[77]},{ws:=[78]},{ws:=[79]},{ws:=[80]},⟨[81],[],[7],[],[],[26],[],[]⟩,{ws:=[82]},{ws:=[83]},{ws:=[84]},{ws:=[85]},{ws:=[86]},⟨[87],[],[26,20521],[],[],[],[],[]⟩,{ws:=[88]},{ws:=[89]},{ws:=[90]},{ws:=[91]},{ws:=[92]},{ws:=[93]},{ws:=[94]},{ws:=[95]},{ws:=[96]},{ws:=[97]}] (by kernel_rfl) (by kernel_rfl) rfl ?_;refine PQe.stepP (fun _ he ho=>mV (he rfl rfl)) (.inl rfl) rfl ?_;refine PQe.stepP (fun _ he ho=>LR.not (he rfl rfl)) (.inl rfl) rfl ?_;refine PQe.stepP (fun _ he ho=>mV (he rfl rfl)) (.inl rfl) rfl ?_;refine PQe.split (d:=45) rfl (fun hg107=>?_) (fun hg107=>?_)
      ·replace h:=iT hg107 h;refine PQe.skipP (.inl ⟨_,_,_,_,rfl,rfl,rfl,by decide⟩) rfl ?_;refine PQe.skipP (.inl ⟨_,_,_,_,rfl,rfl,rfl,by decide⟩) rfl ?_;refine PQe.skipP (.inl ⟨_,_,_,_,rfl,rfl,rfl,by decide⟩) rfl ?_;refine PQe.skipP (.inl ⟨_,_,_,_,rfl,rfl,rfl,by decide⟩) rfl ?_;refine PQe.stepP (fun _ he ho=>pT (he rfl rfl) (he rfl rfl)) (.inl rfl) rfl ?_;refine PQe.stepP (fun _ he ho=>mV (he rfl rfl)) (.inl rfl) rfl<|PQe.skipP (.inl ⟨_,_,_,_,rfl,rfl,rfl,by decide⟩) rfl ?_;refine PQe.skipP (.inl ⟨_,_,_,_,rfl,rfl,rfl,by decide⟩) rfl ?_;refine PQe.skipP (.inl ⟨_,_,_,_,rfl,rfl,rfl,by decide⟩) rfl ?_;refine PQe.skipP (.inl ⟨_,_,_,_,rfl,rfl,rfl,by decide⟩) rfl ?_;refine PQe.skipP (.inl ⟨_,_,_,_,rfl,rfl,rfl,by decide⟩) rfl ?_;refine PQe.skipP (.inl ⟨_,_,_,_,rfl,rfl,rfl,by decide⟩) rfl ?_;refine PQe.skipP (.inl ⟨_,_,_,_,rfl,rfl,rfl,by decide⟩) rfl ?_;refine PQe.skipP (.inl ⟨_,_,_,_,rfl,rfl,rfl,by decide⟩) rfl ?_;refine PQe.stepP (fun _ he ho=>pT (he rfl rfl) (he rfl rfl)) (.inl rfl) rfl ?_;refine PQe.stepP (fun _ he ho=>mV (he rfl rfl)) (.inl rfl) rfl<|PQe.skipP (.inl ⟨_,_,_,_,rfl,rfl,rfl,by decide⟩) rfl ?_;refine PQe.skipP (.inl ⟨_,_,_,_,rfl,rfl,rfl,by decide⟩) rfl ?_;refine PQe.skipP (.inl ⟨_,_,_,_,rfl,rfl,rfl,by decide⟩) rfl ?_;refine PQe.skipP (.inl ⟨_,_,_,_,rfl,rfl,rfl,by decide⟩) rfl ?_;refine PQe.skipP (.inl ⟨_,_,_,_,rfl,rfl,rfl,by decide⟩) rfl ?_;refine PQe.skipP (.inl ⟨_,_,_,_,rfl,rfl,rfl,by decide⟩) rfl ?_;refine PQe.skipP (.inl ⟨_,_,_,_,rfl,rfl,rfl,by decide⟩) rfl ?_;refine PQe.skipP (.inl ⟨_,_,_,_,rfl,rfl,rfl,by decide⟩) rfl ?_;refine PQe.skipP (.inl ⟨_,_,_,_,rfl,rfl,rfl,by decide⟩) rfl ?_;refine PQe.skipP (.inl ⟨_,_,_,_,rfl,rfl,rfl,by decide⟩) rfl ?_;refine PQe.skipP (.inl ⟨_,_,_,_,rfl,rfl,rfl,by decide⟩) rfl ?_;refine PQe.skipP (.inl ⟨_,_,_,_,rfl,rfl,rfl,by decide⟩) rfl ?_;refine PQe.skipP (.inl ⟨_,_,_,_,rfl,rfl,rfl,by decide⟩) rfl ?_;refine PQe.skipP (.inl ⟨_,_,_,_,rfl,rfl,rfl,by decide⟩) rfl ?_;refine PQe.skipP (.inl ⟨_,_,_,_,rfl,rfl,rfl,by decide⟩) rfl ?_;refine PQe.skipP (.inl ⟨_,_,_,_,rfl,rfl,rfl,by decide⟩) rfl ?_;refine PQe.skipP (.inl ⟨_,_,_,_,rfl,rfl,rfl,by decide⟩) rfl ?_;refine PQe.stepP (fun _ he ho=>pT (he rfl rfl) (he rfl rfl)) (.inl rfl) rfl ?_;refine PQe.stepP (fun _ he ho=>mV (he rfl rfl)) (.inl rfl) rfl<|PQe.skipP (.inl ⟨_,_,_,_,rfl,rfl,rfl,by decide⟩) rfl ?_;refine PQe.skipP (.inl ⟨_,_,_,_,rfl,rfl,rfl,by decide⟩) rfl ?_;refine PQe.skipP (.inl ⟨_,_,_,_,rfl,rfl,rfl,by decide⟩) rfl ?_;refine PQe.skipP (.inl ⟨_,_,_,_,rfl,rfl,rfl,by decide⟩) rfl ?_;refine PQe.skipP (.inl ⟨_,_,_,_,rfl,rfl,rfl,by decide⟩) rfl ?_;refine PQe.skipP (.inl ⟨_,_,_,_,rfl,rfl,rfl,by decide⟩) rfl ?_;refine PQe.skipP (.inl ⟨_,_,_,_,rfl,rfl,rfl,by decide⟩) rfl ?_;refine PQe.skipP (.inl ⟨_,_,_,_,rfl,rfl,rfl,by decide⟩) rfl ?_;refine PQe.skipP (.inl ⟨_,_,_,_,rfl,rfl,rfl,by decide⟩) rfl ?_;refine PQe.skipP (.inl ⟨_,_,_,_,rfl,rfl,rfl,by decide⟩) rfl ?_;refine PQe.skipP (.inl ⟨_,_,_,_,rfl,rfl,rfl,by decide⟩) rfl ?_;refine PQe.skipP (.inl ⟨_,_,_,_,rfl,rfl,rfl,by decide⟩) rfl ?_;refine PQe.skipP (.inl ⟨_,_,_,_,rfl,rfl,rfl,by decide⟩) rfl ?_;refine PQe.skipP (.inl ⟨_,_,_,_,rfl,rfl,rfl,by decide⟩) rfl ?_;refine PQe.skipP (.inl ⟨_,_,_,_,rfl,rfl,rfl,by decide⟩) rfl ?_;refine PQe.skipP (.inl ⟨_,_,_,_,rfl,rfl,rfl,by decide⟩) rfl ?_;refine PQe.stepP (fun _ he ho=>pT (he rfl rfl) (he rfl rfl)) (.inl rfl) rfl<|PQe.nil ?_;exact ⟨true,(),h,sP⟩
      ·replace h:=iF hg107 h;refine PQe.stepP (fun _ he ho=>lD Tryz.isAgg28 (he rfl rfl) (ho rfl rfl) rfl) (.inr ⟨_,_,_,rfl,rfl,rfl⟩) rfl ?_;refine PQe.stepP (fun _ he ho=>mV (he rfl rfl)) (.inr ⟨_,_,_,rfl,rfl,rfl⟩) rfl ?_;replace h:=iDet h;obtain ⟨y108,hy109,h⟩:=h;refine PQe.callObjS [(100,26),(101,20521)] [] [100,101] [] [(100,.cells 61 [.mp 101]),(101,.mapH y104.2.2.1 [.u16,.u16] false (encM kP (eL TRun.e) y104.2.2.2))] (l25_Is_o_ok y104.1 y104.2.2.1 y104.2.2.2 y108 hy109) hK (fun _ he=>⟨he rfl rfl,evsE he rfl rfl⟩) Tryz.call22 (by first | rfl | (simp;done) | (simp [PV.nilD,PV.ren,rn] <;> omega)) (by repeat' first | constructor | (congr 1;first | (simp;done) | (simp;omega) | omega)) (.nil) (.cons rfl<|.cons rfl<|.nil) (by repeat' first | constructor | (congr 1;first | (simp;done) | (simp;omega) | omega)) rfl rfl rfl rfl rfl rfl (.inr ⟨_,_,_,rfl,rfl,rfl⟩) rfl ?_;refine PQe.stepP (fun _ he ho=>eQ (he rfl rfl) (he rfl rfl)) (.inr ⟨_,_,_,rfl,rfl,rfl⟩) rfl ?_;refine PQe.stepP (fun _ he ho=>pF (he rfl rfl) (he rfl rfl)) (.inl rfl) rfl ?_;refine PQe.stepP (fun _ he ho=>mV (he rfl rfl)) (.inl rfl) rfl ?_;refine PQe.split (d:=51) rfl (fun hg110=>?_) (fun hg110=>?_)
       ·replace h:=iT hg110 h;refine PQe.skipP (.inl ⟨_,_,_,_,rfl,rfl,rfl,by decide⟩) rfl ?_;refine PQe.skipP (.inl ⟨_,_,_,_,rfl,rfl,rfl,by decide⟩) rfl ?_;refine PQe.skipP (.inl ⟨_,_,_,_,rfl,rfl,rfl,by decide⟩) rfl ?_;refine PQe.skipP (.inl ⟨_,_,_,_,rfl,rfl,rfl,by decide⟩) rfl ?_;refine PQe.skipP (.inl ⟨_,_,_,_,rfl,rfl,rfl,by decide⟩) rfl ?_;refine PQe.skipP (.inl ⟨_,_,_,_,rfl,rfl,rfl,by decide⟩) rfl ?_;refine PQe.skipP (.inl ⟨_,_,_,_,rfl,rfl,rfl,by decide⟩) rfl ?_;refine PQe.skipP (.inl ⟨_,_,_,_,rfl,rfl,rfl,by decide⟩) rfl ?_;refine PQe.stepP (fun _ he ho=>pT (he rfl rfl) (he rfl rfl)) (.inl rfl) rfl ?_;refine PQe.stepP (fun _ he ho=>mV (he rfl rfl)) (.inl rfl) rfl<|PQe.skipP (.inl ⟨_,_,_,_,rfl,rfl,rfl,by decide⟩) rfl ?_;refine PQe.skipP (.inl ⟨_,_,_,_,rfl,rfl,rfl,by decide⟩) rfl ?_;refine PQe.skipP (.inl ⟨_,_,_,_,rfl,rfl,rfl,by decide⟩) rfl ?_;refine PQe.skipP (.inl ⟨_,_,_,_,rfl,rfl,rfl,by decide⟩) rfl ?_;refine PQe.skipP (.inl ⟨_,_,_,_,rfl,rfl,rfl,by decide⟩) rfl ?_;refine PQe.skipP (.inl ⟨_,_,_,_,rfl,rfl,rfl,by decide⟩) rfl ?_;refine PQe.skipP (.inl ⟨_,_,_,_,rfl,rfl,rfl,by decide⟩) rfl ?_;refine PQe.skipP (.inl ⟨_,_,_,_,rfl,rfl,rfl,by decide⟩) rfl ?_;refine PQe.skipP (.inl ⟨_,_,_,_,rfl,rfl,rfl,by decide⟩) rfl ?_;refine PQe.skipP (.inl ⟨_,_,_,_,rfl,rfl,rfl,by decide⟩) rfl ?_;refine PQe.skipP (.inl ⟨_,_,_,_,rfl,rfl,rfl,by decide⟩) rfl ?_;refine PQe.skipP (.inl ⟨_,_,_,_,rfl,rfl,rfl,by decide⟩) rfl ?_;refine PQe.skipP (.inl ⟨_,_,_,_,rfl,rfl,rfl,by decide⟩) rfl ?_;refine PQe.skipP (.inl ⟨_,_,_,_,rfl,rfl,rfl,by decide⟩) rfl ?_;refine PQe.skipP (.inl ⟨_,_,_,_,rfl,rfl,rfl,by decide⟩) rfl ?_;refine PQe.skipP (.inl ⟨_,_,_,_,rfl,rfl,rfl,by decide⟩) rfl ?_;refine PQe.skipP (.inl ⟨_,_,_,_,rfl,rfl,rfl,by decide⟩) rfl ?_;refine PQe.stepP (fun _ he ho=>pT (he rfl rfl) (he rfl rfl)) (.inl rfl) rfl ?_;refine PQe.stepP (fun _ he ho=>mV (he rfl rfl)) (.inl rfl) rfl<|PQe.skipP (.inl ⟨_,_,_,_,rfl,rfl,rfl,by decide⟩) rfl ?_;refine PQe.skipP (.inl ⟨_,_,_,_,rfl,rfl,rfl,by decide⟩) rfl ?_;refine PQe.skipP (.inl ⟨_,_,_,_,rfl,rfl,rfl,by decide⟩) rfl ?_;refine PQe.skipP (.inl ⟨_,_,_,_,rfl,rfl,rfl,by decide⟩) rfl ?_;refine PQe.skipP (.inl ⟨_,_,_,_,rfl,rfl,rfl,by decide⟩) rfl ?_;refine PQe.skipP (.inl ⟨_,_,_,_,rfl,rfl,rfl,by decide⟩) rfl ?_;refine PQe.skipP (.inl ⟨_,_,_,_,rfl,rfl,rfl,by decide⟩) rfl ?_;refine PQe.skipP (.inl ⟨_,_,_,_,rfl,rfl,rfl,by decide⟩) rfl ?_;refine PQe.skipP (.inl ⟨_,_,_,_,rfl,rfl,rfl,by decide⟩) rfl ?_;refine PQe.skipP (.inl ⟨_,_,_,_,rfl,rfl,rfl,by decide⟩) rfl ?_;refine PQe.skipP (.inl ⟨_,_,_,_,rfl,rfl,rfl,by decide⟩) rfl ?_;refine PQe.skipP (.inl ⟨_,_,_,_,rfl,rfl,rfl,by decide⟩) rfl ?_;refine PQe.skipP (.inl ⟨_,_,_,_,rfl,rfl,rfl,by decide⟩) rfl ?_;refine PQe.skipP (.inl ⟨_,_,_,_,rfl,rfl,rfl,by decide⟩) rfl ?_;refine PQe.skipP (.inl ⟨_,_,_,_,rfl,rfl,rfl,by decide⟩) rfl ?_;refine PQe.skipP (.inl ⟨_,_,_,_,rfl,rfl,rfl,by decide⟩) rfl ?_;refine PQe.stepP (fun _ he ho=>pT (he rfl rfl) (he rfl rfl)) (.inl rfl) rfl<|PQe.nil ?_;exact ⟨true,(),h,sP⟩
       ·replace h:=iF hg110 h;refine PQe.stepP (fun _ he ho=>lD Tryz.isAgg28 (he rfl rfl) (ho rfl rfl) rfl) (.inr ⟨_,_,_,rfl,rfl,rfl⟩) rfl ?_;refine PQe.stepP (fun _ he ho=>mV (he rfl rfl)) (.inr ⟨_,_,_,rfl,rfl,rfl⟩) rfl ?_;replace h:=iDet h;obtain ⟨y111,hy112,h⟩:=h;refine PQe.callObjS [(100,26),(101,20521)] [] [100,101] [] [(100,.cells 61 [.mp 101]),(101,.mapH y104.2.2.1 [.u16,.u16] false (encM kP (eL TRun.e) y104.2.2.2))] (ack_Matrix_Front_o_ok c2 y104.2.2.1 y104.2.2.2 y111 hy112) hK (fun _ he=>⟨he rfl rfl,evsE he rfl rfl⟩) Tryz.call11 (by first | rfl | (simp;done) | (simp [PV.nilD,PV.ren,rn] <;> omega)) (by repeat' first | constructor | (congr 1;first | (simp;done) | (simp;omega) | omega)) (.nil) (.cons rfl<|.cons rfl<|.nil) (by repeat' first | constructor | (congr 1;first | (simp;done) | (simp;omega) | omega)) rfl rfl rfl rfl rfl rfl (.inr ⟨_,_,_,rfl,rfl,rfl⟩) rfl ?_;refine PQe.stepP (fun _ he ho=>mV (he rfl rfl)) (.inr ⟨_,_,_,rfl,rfl,rfl⟩) rfl ?_;refine PQe.stepP (fun _ he ho=>mV (he rfl rfl)) (.inr ⟨_,_,_,rfl,rfl,rfl⟩) rfl ?_;replace h:=iDet h;obtain ⟨v113,hy114,h⟩:=h;refine PQe.stepP (fun _ he ho=>cN (r25_Front_ok y104.1 c2 v113 hy114) (he rfl rfl) Tryz.call24 (evsE he rfl rfl) rfl rfl rfl) (.inr ⟨_,_,_,rfl,rfl,rfl⟩) rfl ?_;replace h:=iDet h;obtain ⟨v115,hy116,h⟩:=h;refine PQe.stepP (fun _ he ho=>cN (r09_Eq_ok y111 v113 v115 hy116) (he rfl rfl) Tryz.call23 (evsE he rfl rfl) rfl rfl rfl) (.inr ⟨_,_,_,rfl,rfl,rfl⟩) rfl ?_;refine PQe.stepP (fun _ he ho=>LR.not (he rfl rfl)) (.inr ⟨_,_,_,rfl,rfl,rfl⟩) rfl ?_;refine PQe.stepP (fun _ he ho=>pF (he rfl rfl) (he rfl rfl)) (.inl rfl) rfl ?_;refine PQe.stepP (fun _ he ho=>mV (he rfl rfl)) (.inl rfl) rfl ?_;refine PQe.split (d:=61) rfl (fun hg117=>?_) (fun hg117=>?_)
        ·replace h:=iT hg117 h;refine PQe.skipP (.inl ⟨_,_,_,_,rfl,rfl,rfl,by decide⟩) rfl ?_;refine PQe.skipP (.inl ⟨_,_,_,_,rfl,rfl,rfl,by decide⟩) rfl ?_;refine PQe.skipP (.inl ⟨_,_,_,_,rfl,rfl,rfl,by decide⟩) rfl ?_;refine PQe.skipP (.inl ⟨_,_,_,_,rfl,rfl,rfl,by decide⟩) rfl ?_;refine PQe.skipP (.inl ⟨_,_,_,_,rfl,rfl,rfl,by decide⟩) rfl ?_;refine PQe.skipP (.inl ⟨_,_,_,_,rfl,rfl,rfl,by decide⟩) rfl ?_;refine PQe.skipP (.inl ⟨_,_,_,_,rfl,rfl,rfl,by decide⟩) rfl ?_;refine PQe.skipP (.inl ⟨_,_,_,_,rfl,rfl,rfl,by decide⟩) rfl ?_;refine PQe.skipP (.inl ⟨_,_,_,_,rfl,rfl,rfl,by decide⟩) rfl ?_;refine PQe.skipP (.inl ⟨_,_,_,_,rfl,rfl,rfl,by decide⟩) rfl ?_;refine PQe.skipP (.inl ⟨_,_,_,_,rfl,rfl,rfl,by decide⟩) rfl ?_;refine PQe.skipP (.inl ⟨_,_,_,_,rfl,rfl,rfl,by decide⟩) rfl ?_;refine PQe.skipP (.inl ⟨_,_,_,_,rfl,rfl,rfl,by decide⟩) rfl ?_;refine PQe.skipP (.inl ⟨_,_,_,_,rfl,rfl,rfl,by decide⟩) rfl ?_;refine PQe.skipP (.inl ⟨_,_,_,_,rfl,rfl,rfl,by decide⟩) rfl ?_;refine PQe.skipP (.inl ⟨_,_,_,_,rfl,rfl,rfl,by decide⟩) rfl ?_;refine PQe.skipP (.inl ⟨_,_,_,_,rfl,rfl,rfl,by decide⟩) rfl ?_;refine PQe.stepP (fun _ he ho=>pT (he rfl rfl) (he rfl rfl)) (.inl rfl) rfl ?_;refine PQe.stepP (fun _ he ho=>mV (he rfl rfl)) (.inl rfl) rfl<|PQe.skipP (.inl ⟨_,_,_,_,rfl,rfl,rfl,by decide⟩) rfl ?_;refine PQe.skipP (.inl ⟨_,_,_,_,rfl,rfl,rfl,by decide⟩) rfl ?_;refine PQe.skipP (.inl ⟨_,_,_,_,rfl,rfl,rfl,by decide⟩) rfl ?_;refine PQe.skipP (.inl ⟨_,_,_,_,rfl,rfl,rfl,by decide⟩) rfl ?_;refine PQe.skipP (.inl ⟨_,_,_,_,rfl,rfl,rfl,by decide⟩) rfl ?_;refine PQe.skipP (.inl ⟨_,_,_,_,rfl,rfl,rfl,by decide⟩) rfl ?_;refine PQe.skipP (.inl ⟨_,_,_,_,rfl,rfl,rfl,by decide⟩) rfl ?_;refine PQe.skipP (.inl ⟨_,_,_,_,rfl,rfl,rfl,by decide⟩) rfl ?_;refine PQe.skipP (.inl ⟨_,_,_,_,rfl,rfl,rfl,by decide⟩) rfl ?_;refine PQe.skipP (.inl ⟨_,_,_,_,rfl,rfl,rfl,by decide⟩) rfl ?_;refine PQe.skipP (.inl ⟨_,_,_,_,rfl,rfl,rfl,by decide⟩) rfl ?_;refine PQe.skipP (.inl ⟨_,_,_,_,rfl,rfl,rfl,by decide⟩) rfl ?_;refine PQe.skipP (.inl ⟨_,_,_,_,rfl,rfl,rfl,by decide⟩) rfl ?_;refine PQe.skipP (.inl ⟨_,_,_,_,rfl,rfl,rfl,by decide⟩) rfl ?_;refine PQe.skipP (.inl ⟨_,_,_,_,rfl,rfl,rfl,by decide⟩) rfl ?_;refine PQe.skipP (.inl ⟨_,_,_,_,rfl,rfl,rfl,by decide⟩) rfl ?_;refine PQe.stepP (fun _ he ho=>pT (he rfl rfl) (he rfl rfl)) (.inl rfl) rfl<|PQe.nil ?_;exact ⟨true,(),h,sP⟩
        ·replace h:=iF hg117 h;refine PQe.stepP (fun _ he ho=>lD Tryz.isAgg28 (he rfl rfl) (ho rfl rfl) rfl) (.inr ⟨_,_,_,rfl,rfl,rfl⟩) rfl ?_;refine PQe.stepP (fun _ he ho=>mV (he rfl rfl)) (.inr ⟨_,_,_,rfl,rfl,rfl⟩) rfl ?_;refine PQe.stepP (fun _ he ho=>mV (he rfl rfl)) (.inr ⟨_,_,_,rfl,rfl,rfl⟩) rfl ?_;replace h:=iIdx h;obtain ⟨x118,hy119,h⟩:=h;refine PQe.stepP (fun _ he ho=>iX (enc:=L25Act.e) (L:=l1) (y:=x118) Tryz.underlying22 Tryz.sizeOf33 (he rfl rfl) (he rfl rfl) hy119 (fun _=>rfl)) (.inr ⟨_,_,_,rfl,rfl,rfl⟩) rfl ?_;refine PQe.stepP (fun _ he ho=>fE Tryz.underlying33 rfl Tryz.sizeOf31 (by decide) rfl (he rfl rfl)) (.inr ⟨_,_,_,rfl,rfl,rfl⟩) rfl ?_;refine PQe.stepP (fun _ he ho=>LR.loadEp Tryz.isAgg31 (he rfl rfl) rfl) (.inr ⟨_,_,_,rfl,rfl,rfl⟩) rfl ?_;refine PQe.stepP (fun _ he ho=>mV (he rfl rfl)) (.inr ⟨_,_,_,rfl,rfl,rfl⟩) rfl ?_;replace h:=iDet h;obtain ⟨y120,hy121,h⟩:=h;refine PQe.callObjS [(100,26),(101,20521)] [] [100,101] [] [(100,.cells 61 [.mp 101]),(101,.mapH y104.2.2.1 [.u16,.u16] false (encM kP (eL TRun.e) y104.2.2.2))] (ack_Matrix_Lag_o_ok x118.who dots3 y104.2.2.1 y104.2.2.2 y120 hy121) hK (fun _ he=>⟨he rfl rfl,evsE he rfl rfl⟩) Tryz.call25 (by first | rfl | (simp;done) | (simp [PV.nilD,PV.ren,rn] <;> omega)) (by repeat' first | constructor | (congr 1;first | (simp;done) | (simp;omega) | omega)) (.nil) (.cons rfl<|.cons rfl<|.nil) (by repeat' first | constructor | (congr 1;first | (simp;done) | (simp;omega) | omega)) rfl rfl rfl rfl rfl rfl (.inr ⟨_,_,_,rfl,rfl,rfl⟩) rfl ?_;refine PQe.stepP (fun _ he ho=>mV (he rfl rfl)) (.inr ⟨_,_,_,rfl,rfl,rfl⟩) rfl ?_;refine PQe.stepP (fun _ he ho=>mV (he rfl rfl)) (.inr ⟨_,_,_,rfl,rfl,rfl⟩) rfl ?_;refine PQe.stepP (fun _ he ho=>mV (he rfl rfl)) (.inr ⟨_,_,_,rfl,rfl,rfl⟩) rfl ?_;replace h:=iIdx h;obtain ⟨x122,hy123,h⟩:=h;refine PQe.stepP (fun _ he ho=>iX (enc:=L25Act.e) (L:=l1) (y:=x122) Tryz.underlying22 Tryz.sizeOf33 (he rfl rfl) (he rfl rfl) hy123 (fun _=>rfl)) (.inr ⟨_,_,_,rfl,rfl,rfl⟩) rfl ?_;refine PQe.stepP (fun _ he ho=>fE Tryz.underlying33 rfl Tryz.sizeOf31 (by decide) rfl (he rfl rfl)) (.inr ⟨_,_,_,rfl,rfl,rfl⟩) rfl ?_;refine PQe.stepP (fun _ he ho=>LR.loadEp Tryz.isAgg31 (he rfl rfl) rfl) (.inr ⟨_,_,_,rfl,rfl,rfl⟩) rfl ?_;refine PQe.stepP (fun _ he ho=>mV (he rfl rfl)) (.inr ⟨_,_,_,rfl,rfl,rfl⟩) rfl ?_;replace h:=iDet h;obtain ⟨v124,hy125,h⟩:=h;refine PQe.stepP (fun _ he ho=>cN (r25_Lag_ok y104.1 x122.who dots3 v124 hy125) (he rfl rfl) Tryz.call26 (evsE he rfl rfl) rfl rfl rfl) (.inr ⟨_,_,_,rfl,rfl,rfl⟩) rfl ?_;refine PQe.stepP (fun _ he ho=>nQ (he rfl rfl) (he rfl rfl)) (.inr ⟨_,_,_,rfl,rfl,rfl⟩) rfl ?_;refine PQe.stepP (fun _ he ho=>pF (he rfl rfl) (he rfl rfl)) (.inl rfl) rfl ?_;refine PQe.stepP (fun _ he ho=>mV (he rfl rfl)) (.inl rfl) rfl ?_;refine PQe.split (d:=80) rfl (fun hg126=>?_) (fun hg126=>?_)
         ·replace h:=iT hg126 h;refine PQe.skipP (.inl ⟨_,_,_,_,rfl,rfl,rfl,by decide⟩) rfl ?_;refine PQe.skipP (.inl ⟨_,_,_,_,rfl,rfl,rfl,by decide⟩) rfl ?_;refine PQe.skipP (.inl ⟨_,_,_,_,rfl,rfl,rfl,by decide⟩) rfl ?_;refine PQe.skipP (.inl ⟨_,_,_,_,rfl,rfl,rfl,by decide⟩) rfl ?_;refine PQe.skipP (.inl ⟨_,_,_,_,rfl,rfl,rfl,by decide⟩) rfl ?_;refine PQe.skipP (.inl ⟨_,_,_,_,rfl,rfl,rfl,by decide⟩) rfl ?_;refine PQe.skipP (.inl ⟨_,_,_,_,rfl,rfl,rfl,by decide⟩) rfl ?_;refine PQe.skipP (.inl ⟨_,_,_,_,rfl,rfl,rfl,by decide⟩) rfl ?_;refine PQe.skipP (.inl ⟨_,_,_,_,rfl,rfl,rfl,by decide⟩) rfl ?_;refine PQe.skipP (.inl ⟨_,_,_,_,rfl,rfl,rfl,by decide⟩) rfl ?_;refine PQe.skipP (.inl ⟨_,_,_,_,rfl,rfl,rfl,by decide⟩) rfl ?_;refine PQe.skipP (.inl ⟨_,_,_,_,rfl,rfl,rfl,by decide⟩) rfl ?_;refine PQe.skipP (.inl ⟨_,_,_,_,rfl,rfl,rfl,by decide⟩) rfl ?_;refine PQe.skipP (.inl ⟨_,_,_,_,rfl,rfl,rfl,by decide⟩) rfl ?_;refine PQe.skipP (.inl ⟨_,_,_,_,rfl,rfl,rfl,by decide⟩) rfl ?_;refine PQe.skipP (.inl ⟨_,_,_,_,rfl,rfl,rfl,by decide⟩) rfl ?_;refine PQe.stepP (fun _ he ho=>pT (he rfl rfl) (he rfl rfl)) (.inl rfl) rfl<|PQe.nil ?_;exact ⟨true,(),h,sP⟩
         ·replace h:=iF hg126 h;refine PQe.stepP (fun _ he ho=>lD Tryz.isAgg28 (he rfl rfl) (ho rfl rfl) rfl) (.inr ⟨_,_,_,rfl,rfl,rfl⟩) rfl ?_;refine PQe.stepP (fun _ he ho=>mV (he rfl rfl)) (.inr ⟨_,_,_,rfl,rfl,rfl⟩) rfl ?_;refine PQe.stepP (fun _ he ho=>mV (he rfl rfl)) (.inr ⟨_,_,_,rfl,rfl,rfl⟩) rfl ?_;replace h:=iIdx h;obtain ⟨x127,hy128,h⟩:=h;refine PQe.stepP (fun _ he ho=>iX (enc:=L25Act.e) (L:=l1) (y:=x127) Tryz.underlying22 Tryz.sizeOf33 (he rfl rfl) (he rfl rfl) hy128 (fun _=>rfl)) (.inr ⟨_,_,_,rfl,rfl,rfl⟩) rfl ?_;refine PQe.stepP (fun _ he ho=>fE Tryz.underlying33 rfl Tryz.sizeOf31 (by decide) rfl (he rfl rfl)) (.inr ⟨_,_,_,rfl,rfl,rfl⟩) rfl ?_;refine PQe.stepP (fun _ he ho=>LR.loadEp Tryz.isAgg31 (he rfl rfl) rfl) (.inr ⟨_,_,_,rfl,rfl,rfl⟩) rfl ?_;replace h:=iDet h;obtain ⟨y129,hy130,h⟩:=h;refine PQe.callObjS [(100,26),(101,20521)] [] [100,101] [] [(100,.cells 61 [.mp 101]),(101,.mapH y104.2.2.1 [.u16,.u16] false (encM kP (eL TRun.e) y104.2.2.2))] (ack_Matrix_Row_o_ok x127.who y104.2.2.1 y104.2.2.2 y129 hy130) hK (fun _ he=>⟨he rfl rfl,evsE he rfl rfl⟩) Tryz.call18 (by first | rfl | (simp;done) | (simp [PV.nilD,PV.ren,rn] <;> omega)) (by repeat' first | constructor | (congr 1;first | (simp;done) | (simp;omega) | omega)) (.nil) (.cons rfl<|.cons rfl<|.nil) (by repeat' first | constructor | (congr 1;first | (simp;done) | (simp;omega) | omega)) rfl rfl rfl rfl rfl rfl (.inr ⟨_,_,_,rfl,rfl,rfl⟩) rfl ?_;refine PQe.stepP (fun _ he ho=>mV (he rfl rfl)) (.inr ⟨_,_,_,rfl,rfl,rfl⟩) rfl ?_;refine PQe.stepP (fun _ he ho=>mV (he rfl rfl)) (.inr ⟨_,_,_,rfl,rfl,rfl⟩) rfl ?_;refine PQe.stepP (fun _ he ho=>mV (he rfl rfl)) (.inr ⟨_,_,_,rfl,rfl,rfl⟩) rfl ?_;replace h:=iIdx h;obtain ⟨x131,hy132,h⟩:=h;refine PQe.stepP (fun _ he ho=>iX (enc:=L25Act.e) (L:=l1) (y:=x131) Tryz.underlying22 Tryz.sizeOf33 (he rfl rfl) (he rfl rfl) hy132 (fun _=>rfl)) (.inr ⟨_,_,_,rfl,rfl,rfl⟩) rfl ?_;refine PQe.stepP (fun _ he ho=>fE Tryz.underlying33 rfl Tryz.sizeOf31 (by decide) rfl (he rfl rfl)) (.inr ⟨_,_,_,rfl,rfl,rfl⟩) rfl ?_;refine PQe.stepP (fun _ he ho=>LR.loadEp Tryz.isAgg31 (he rfl rfl) rfl) (.inr ⟨_,_,_,rfl,rfl,rfl⟩) rfl ?_;replace h:=iDet h;obtain ⟨v133,hy134,h⟩:=h;refine PQe.stepP (fun _ he ho=>cN (r25_Get_ok y104.1 x131.who v133 hy134) (he rfl rfl) Tryz.call27 (evsE he rfl rfl) rfl rfl rfl) (.inr ⟨_,_,_,rfl,rfl,rfl⟩) rfl ?_;replace h:=iDet h;obtain ⟨v135,hy136,h⟩:=h;refine PQe.stepP (fun _ he ho=>cN (r09_Eq_ok y129 v133 v135 hy136) (he rfl rfl) Tryz.call23 (evsE he rfl rfl) rfl rfl rfl) (.inr ⟨_,_,_,rfl,rfl,rfl⟩) rfl ?_;refine PQe.stepP (fun _ he ho=>LR.not (he rfl rfl)) (.inr ⟨_,_,_,rfl,rfl,rfl⟩) rfl ?_;refine PQe.stepP (fun _ he ho=>pF (he rfl rfl) (he rfl rfl)) (.inl rfl) rfl<|PQe.nil ?_;exact ⟨(!v135),(),h,sP⟩
     ·rintro v106 _ h;refine wC rfl (fun hc137=>?_) (fun hc137=>?_)
      ·replace h:=iT hc137 h;refine wQ<|wR<|wa ?_;refine wN<|wX ?_;replace h:_ = r0:=h;subst h;exact ⟨.inr rfl,_,.cons (.tmp rfl rfl)<|.nil,rfl⟩
      ·replace h:=iF hc137 h;refine wK<|wR<|wm ?_;refine wS (LR.addW rfl rfl) rfl<|wa ?_;refine wN ?_;exact ⟨(y104.1,(IntKind.i64.wrap (i98 + 1)),y104.2.2.1,y104.2.2.2),(),h,sP⟩
    ·replace h:=iF hc101 h;refine wZ ?_;exact ⟨(x97,nl99,v100),(),h,sP⟩
   ·rintro ⟨x16,nl17,v18⟩ _ h;refine wQ ?_;refine wJ (iBind h) (fun (v138:Bool) (_:Unit)=>⟨105,[(6,.d (.v (.bool v138)))],[]⟩) (fun h=>?_) ?_
    ·refine wR<|wS (lD Tryz.isAgg28 rfl rfl rfl) rfl<|wm ?_;replace h:=iDet h;obtain ⟨y139,hy140,h⟩:=h;refine wS (LR.callObjS [(100,26),(101,20521)] [] [100,101] [] [(100,.cells 61 [.mp 101]),(101,.mapH nl17 [.u16,.u16] false (encM kP (eL TRun.e) v18))] (l25_Is_o_ok x16 nl17 v18 y139 hy140) hK rfl Tryz.call22 rfl (by first | rfl | (simp;done) | (simp [PV.nilD,PV.ren,rn] <;> omega)) (by repeat' first | constructor | (congr 1;first | (simp;done) | (simp;omega) | omega)) (.nil) (.cons rfl<|.cons rfl<|.nil) (by repeat' first | constructor | (congr 1;first | (simp;done) | (simp;omega) | omega)) rfl rfl rfl rfl rfl rfl) rfl ?_;refine wS (eQ rfl rfl) rfl<|wm ?_;refine wL (d:=102) rfl (fun hg141=>?_) (fun hg141=>?_)
     ·replace h:=iT hg141 h;replace h:=iDet h;obtain ⟨v142,hy143,h⟩:=h;refine wT (cN (l25_works_ok v142 hy143) rfl Tryz.call9 rfl rfl rfl rfl) rfl rfl rfl<|wS (pT rfl rfl) rfl<|wa ?_;refine wN ?_;exact ⟨v142,(),h,sP⟩
     ·replace h:=iF hg141 h;refine wf<|wS (pF rfl rfl) rfl<|wa ?_;refine wN ?_;exact ⟨false,(),h,sP⟩
    ·rintro v138 _ h;refine wX ?_;replace h:_ = r0:=h;subst h;exact ⟨.inr rfl,_,.cons (.tmp rfl rfl)<|.nil,rfl⟩

end Go.Proofs

namespace Go.Ep
open Go

theorem wI64 {n:Int} (h:-9223372036854775808 ≤ n) (h':n ≤ 9223372036854775807):IntKind.i64.wrap n = n:=by simp [IntKind.wrap,IntKind.bits,IntKind.signed];omega
theorem wU64 {n:Int} (h:0 ≤ n) (h':n ≤ 18446744073709551615):IntKind.u64.wrap n = n:=by simp [IntKind.wrap,IntKind.bits,IntKind.signed];omega
theorem wU8 {n:Int} (h:0 ≤ n) (h':n ≤ 255):IntKind.u8.wrap n = n:=by simp [IntKind.wrap,IntKind.bits,IntKind.signed];omega
theorem wSucc {i:Nat} (h:i < 9223372036854775807):IntKind.i64.wrap ((i:Int) + 1) = ((i + 1:Nat):Int):=by rw [wI64 (by omega) (by omega)];rfl
namespace M
variable {α β σ ρ τ ε:Type}
theorem cond_dec (p:Prop) [Decidable p] (x y:M α):cond (decide p) x y = if p then x else y:=by by_cases h:p <;> simp [h]
theorem loopL {body:σ → M (Step σ ρ)} (l:List ε) (mk:Nat → τ → σ) (f:τ → ε → τ) (g:τ → M ρ)
  (I:Nat → τ → Prop) (h1:∀ (i:Nat) (x:ε) (t:τ),l[i]? = some x → i < l.length → I i t → body (mk i t) = pure (.next (mk (i + 1) (f t x))) ∧ I (i + 1) (f t x))
  (h2:∀ t,I l.length t → body (mk l.length t) = (g t).bind fun r=>pure (.done r)) (t0:τ) (h0:I 0 t0):loop body (mk 0 t0) = g (l.foldl f t0):=by
 have key:∀ k i t,i + k = l.length → I i t → loop body (mk i t) = g ((l.drop i).foldl f t):=by
  intro k
  induction k with
  | zero=>
   intro i t hi hI;have:i = l.length:=by omega
   subst this;rw [loop_eq,h2 t hI,List.drop_length]
   rfl
  | succ k ih=>
   intro i t hi hI;have hlt:i < l.length:=by omega
   obtain ⟨h3,h4⟩:=h1 i l[i] t (List.getElem?_eq_getElem hlt) hlt hI;rw [loop_next h3,ih (i + 1) _ (by omega) h4,List.drop_eq_getElem_cons hlt]
   rfl
 simpa using key l.length 0 t0 (by omega) h0
theorem loopAll {body:σ → M (Step σ ρ)} (l:List ε) (mk:Nat → σ) (p:Nat → ε → Bool) (r1 r2:ρ)
  (h1:∀ (i:Nat) (x:ε),l[i]? = some x → i < l.length → body (mk i) = if p i x then pure (.next (mk (i + 1))) else pure (.done r2))
  (h2:body (mk l.length) = pure (.done r1)):loop body (mk 0) = pure (if l.zipIdx.all (fun y=>p y.2 y.1) then r1 else r2):=by
 have key:∀ k i,i + k = l.length → loop body (mk i) = pure (if ((l.drop i).zipIdx i).all (fun y=>p y.2 y.1) then r1 else r2):=by
  intro k
  induction k with
  | zero=>
   intro i hi;have:i = l.length:=by omega
   subst this;rw [loop_done h2,List.drop_length]
   rfl
  | succ k ih=>
   intro i hi;have hlt:i < l.length:=by omega
   have h3:=h1 i l[i] (List.getElem?_eq_getElem hlt) hlt;rw [List.drop_eq_getElem_cons hlt,List.zipIdx_cons,List.all_cons]
   by_cases hp:p i l[i] = true
   ·rw [if_pos hp] at h3;rw [loop_next h3,ih (i + 1) (by omega),hp,Bool.true_and]
   ·rw [if_neg hp] at h3;rw [loop_done h3];simp [hp]
 have:=key l.length 0 (by omega);rw [List.drop_zero] at this;exact this

def came {ε:Type} (m:List ε) (L:List Nat):List ε:=L.filterMap fun i=>m[i]?
theorem came_snoc {m:List ε} {L:List Nat} {i:Nat} {y:ε} (h:m[i]? = some y):came m (L ++ [i]) = came m L ++ [y]:=by simp [came,h]
theorem all_perm {n:Nat} {L:List Nat} (hn:L.Nodup) (hb:∀ i ∈ L,i < n) (ha:∀ i,i < n → i ∈ L):L.Perm (List.range n):=by
 refine (List.perm_ext_iff_of_nodup hn List.nodup_range).2 fun i=>?_
 rw [List.mem_range];exact ⟨hb i,ha i⟩
theorem came_perm {m:List ε} {L:List Nat} (hn:L.Nodup) (hb:∀ i ∈ L,i < m.length) (ha:∀ i,i < m.length → i ∈ L):(came m L).Perm m:=by
 have h1:=(all_perm hn hb ha).filterMap fun i=>m[i]?
 have h2:(List.range m.length).filterMap (fun i=>m[i]?) = m:=by
  apply List.ext_getElem?;intro i;clear h1 hn hb ha;have:(List.range m.length).filterMap (fun i=>m[i]?) = m:=by
   induction m with
   | nil=>rfl
   | cons x r ih=>
    rw [List.length_cons,List.range_succ_eq_map,List.filterMap_cons];simp only [List.getElem?_cons_zero,List.filterMap_map]
    congr 1
  rw [this]
 rw [h2] at h1;exact h1
theorem nodup_len {n:Nat} {L:List Nat} (hn:L.Nodup) (hb:∀ i ∈ L,i < n):L.length ≤ n:=by
 have:=List.Nodup.length_le_of_subset hn (l₂:=List.range n) (fun i hi=>List.mem_range.2 (hb i hi));simpa using this

theorem full {n:Nat} {L:List Nat} (hn:L.Nodup) (hb:∀ i ∈ L,i < n) (hl:n ≤ L.length):∀ i,i < n → i ∈ L:=by
 intro i hi;refine Classical.byContradiction fun hni=>?_
 have:=nodup_len (n:=n) (L:=i :: L) (List.nodup_cons.2 ⟨hni,hn⟩) (fun j hj=>by
  rcases List.mem_cons.1 hj with rfl | hj
  ·exact hi
  ·exact hb j hj)
 simp at this;omega
theorem loopM {body:σ → M (Step σ ρ)} (m:List ε) (mk:List Nat → τ → σ) (f:τ → ε → M τ) (g:τ → M ρ) (I:List ε → τ → Prop) (Q:ρ → Prop)
  (hb:∀ L t,(∀ i ∈ L,i < m.length) → body (mk L t) = need (∀ i ∈ L,i < m.length) ((nxt m.length L).bind fun o=>match o with
   | none=>(g t).bind fun r=>pure (.done r)
   | some i=>(idx m (Int.ofNat i)).bind fun y=>(f t y).bind fun t'=>pure (.next (mk (L ++ [i]) t'))))
  (hs:∀ l t y,I l t → l.length < m.length → y ∈ m → ∃ t',f t y = pure t' ∧ I (l ++ [y]) t') (he:∀ l t,l.Perm m → I l t → (g t).wp Q) (t0:τ) (h0:I [] t0):(loop body (mk [] t0)).wp Q:=by
 have key:∀ k L t,L.length + k = m.length → L.Nodup → (∀ i ∈ L,i < m.length) → I (came m L) t → loopP body Q (mk L t):=by
  intro k
  induction k with
  | zero=>
   intro L t hk hn hlt hI;refine loopP_in ?_;rw [hb L t hlt];have hall:∀ i,i < m.length → i ∈ L:=fun i hi=>full hn hlt (by omega) i hi
   refine ⟨hlt,⟨⟨none,hall⟩,fun o ho=>?_⟩⟩
   cases o with
   | none=>
    have:=he _ t (came_perm hn hlt hall) hI;exact this
   | some i=>exact absurd (hall i ho.1) ho.2
  | succ k ih=>
   intro L t hk hn hlt hI;refine loopP_in ?_;rw [hb L t hlt];have hex:∃ i,i < m.length ∧ i ∉ L:=by
    refine Classical.byContradiction fun hno=>?_
    have hall:∀ i,i < m.length → i ∈ L:=fun i hi=>Classical.byContradiction fun h=>hno ⟨i,hi,h⟩
    have:=(all_perm hn hlt hall).length_eq;simp at this;omega
   obtain ⟨i0,hi0⟩:=hex;refine ⟨hlt,⟨⟨some i0,hi0⟩,fun o ho=>?_⟩⟩
   cases o with
   | none=>exact absurd (ho i0 hi0.1) hi0.2
   | some i=>
    have hi:=List.getElem?_eq_getElem ho.1;obtain ⟨t',h1,h2⟩:=hs (came m L) t m[i] hI (by have:=List.length_filterMap_le (fun i=>m[i]?) L;unfold came;omega) (List.getElem_mem ho.1);show ((idx m (Int.ofNat i)).bind _).wp _;rw [show (Int.ofNat i) = (i:Int) from rfl,idx_nat hi,pure_bind,h1,pure_bind];refine ih (L ++ [i]) t' (by simp;omega) ?_ ?_ (by rw [came_snoc hi];exact h2)
    ·rw [List.nodup_append];refine ⟨hn,by simp,fun a ha b hb'=>?_⟩;rw [List.mem_singleton.1 hb'];intro e;exact ho.2 (e ▸ ha)
    ·intro j hj;rcases List.mem_append.1 hj with hj | hj
     ·exact hlt j hj
     ·rw [List.mem_singleton.1 hj];exact ho.1
 exact key m.length [] t0 (by simp) List.nodup_nil (by simp) h0

theorem loopN {body:σ → M (Step σ ρ)} (n:Nat) (mk:List Nat → τ → σ) (I:List Nat → τ → Prop) (Q:ρ → Prop)
  (h:∀ L t,I L t → L.Nodup → (∀ i ∈ L,i < n) → ∃ K:Option Nat → M (Step σ ρ),body (mk L t) = need (∀ i ∈ L,i < n) ((nxt n L).bind K) ∧ ((∀ i,i < n → i ∈ L) → (K none).wp (Step.post (fun _=>False) Q)) ∧
   ∀ i,i < n → i ∉ L → ∃ t',K (some i) = pure (.next (mk (L ++ [i]) t')) ∧ I (L ++ [i]) t') (t0:τ) (h0:I [] t0):(loop body (mk [] t0)).wp Q:=by
 have key:∀ k L t,L.length + k = n → L.Nodup → (∀ i ∈ L,i < n) → I L t → loopP body Q (mk L t):=by
  intro k
  induction k with
  | zero=>
   intro L t hk hn hlt hI;obtain ⟨K,h1,h2,h3⟩:=h L t hI hn hlt;refine loopP_in ?_;rw [h1];have hall:∀ i,i < n → i ∈ L:=full hn hlt (by omega);refine ⟨hlt,⟨⟨none,hall⟩,fun o ho=>?_⟩⟩
   cases o with
   | none=>exact (K none).mono (fun a ha=>by cases a with | next s=>exact ha.elim | done r=>exact ha) (h2 hall)
   | some i=>exact absurd (hall i ho.1) ho.2
  | succ k ih=>
   intro L t hk hn hlt hI;obtain ⟨K,h1,h2,h3⟩:=h L t hI hn hlt;refine loopP_in ?_;rw [h1];have hex:∃ i,i < n ∧ i ∉ L:=by
    refine Classical.byContradiction fun hno=>?_
    have hall:∀ i,i < n → i ∈ L:=fun i hi=>Classical.byContradiction fun h=>hno ⟨i,hi,h⟩
    have:=(all_perm hn hlt hall).length_eq;simp at this;omega
   obtain ⟨i0,hi0⟩:=hex;refine ⟨hlt,⟨⟨some i0,hi0⟩,fun o ho=>?_⟩⟩
   cases o with
   | none=>exact absurd (ho i0 hi0.1) hi0.2
   | some i=>
    obtain ⟨t',h4,h5⟩:=h3 i ho.1 ho.2;show (K (some i)).wp _;rw [h4];refine ih (L ++ [i]) t' (by simp;omega) ?_ ?_ h5
    ·rw [List.nodup_append];refine ⟨hn,by simp,fun a ha b hb'=>?_⟩;rw [List.mem_singleton.1 hb'];intro e;exact ho.2 (e ▸ ha)
    ·intro j hj;rcases List.mem_append.1 hj with hj | hj
     ·exact hlt j hj
     ·rw [List.mem_singleton.1 hj];exact ho.1
 exact key n [] t0 (by simp) List.nodup_nil (by simp) h0
end M

namespace AL
variable {κ ν:Type} [DecidableEq κ]
theorem get_set (m:List (κ × ν)) (k q:κ) (v:ν):get (set m k v) q = if k = q then some v else get m q:=by
 induction m with
 | nil=>simp [set,get]
 | cons x r ih=>
  obtain ⟨a,u⟩:=x
  by_cases h:a = k
  ·subst h;simp only [set,if_true,get];split <;> rfl
  ·simp only [set,h,if_false,get,ih]
   by_cases h2:a = q
   ·subst h2;simp [Ne.symm h]
   ·simp [h2]
theorem getZ_set (m:List (κ × ν)) (k q:κ) (v z:ν):getZ (set m k v) q z = if k = q then v else getZ m q z:=by
 unfold getZ;rw [get_set];split <;> rfl
theorem keys_set (m:List (κ × ν)) (k:κ) (v:ν):(set m k v).map (·.1) = if k ∈ m.map (·.1) then m.map (·.1) else m.map (·.1) ++ [k]:=by
 induction m with
 | nil=>simp [set]
 | cons x r ih=>
  obtain ⟨a,u⟩:=x
  by_cases h:a = k
  ·subst h;simp [set]
  ·simp only [set,h,if_false,List.map_cons,ih,List.mem_cons,Ne.symm h,false_or]
   split <;> simp
theorem nodup_set {m:List (κ × ν)} (h:(m.map (·.1)).Nodup) (k:κ) (v:ν):((set m k v).map (·.1)).Nodup:=by
 rw [keys_set]
 split
 ·exact h
 ·rename_i hk
  rw [List.nodup_append];refine ⟨h,by simp,fun a ha b hb=>?_⟩;rw [List.mem_singleton.1 hb];intro e;exact hk (e ▸ ha)
theorem get_none {m:List (κ × ν)} {k:κ}:get m k = none ↔ k ∉ m.map (·.1):=by
 induction m with
 | nil=>simp [get]
 | cons x r ih=>
  obtain ⟨a,u⟩:=x
  by_cases h:a = k
  ·subst h;simp [get]
  ·simp [get,h,ih,Ne.symm h]
theorem get_mem {m:List (κ × ν)} {k:κ} {v:ν} (h:get m k = some v):(k,v) ∈ m:=by
 induction m with
 | nil=>simp [get] at h
 | cons x r ih=>
  obtain ⟨a,u⟩:=x
  by_cases e:a = k
  ·subst e;simp [get] at h;subst h;simp
  ·simp only [get,e,if_false] at h;exact List.mem_cons_of_mem _ (ih h)
theorem mem_get {m:List (κ × ν)} (hn:(m.map (·.1)).Nodup) {k:κ} {v:ν} (h:(k,v) ∈ m):get m k = some v:=by
 induction m with
 | nil=>simp at h
 | cons x r ih=>
  obtain ⟨a,u⟩:=x;simp only [List.map_cons,List.nodup_cons] at hn;rcases List.mem_cons.1 h with e | h
  ·cases e;simp [get]
  ·have:a ≠ k:=fun e=>hn.1 (e ▸ List.mem_map.2 ⟨(k,v),h,rfl⟩)
   simp only [get,this,if_false];exact ih hn.2 h
theorem len_set (m:List (κ × ν)) (k:κ) (v:ν):(set m k v).length ≤ m.length + 1:=by
 induction m with
 | nil=>simp [set]
 | cons x r ih=>
  obtain ⟨a,u⟩:=x;unfold set
  split
  ·simp
  ·simpa using ih
end AL
end Go.Ep

namespace Go.Ep.M.V
open Go

def goodD (d:TDot):Bool:=decide (1 ≤ d.dev) && (decide (1 ≤ d.n) && decide (d.n ≤ 281474976710655))
theorem goodD_iff {d:TDot}:goodD d = true ↔ 1 ≤ d.dev ∧ 1 ≤ d.n ∧ d.n ≤ 281474976710655:=by simp [goodD]
theorem r07_Good_eq (d:TDot):r07_Good d = pure (goodD d):=by
 unfold r07_Good;rw [cond_pure_and,cond_pure_and,pure_bind];refine congrArg pure ?_;rw [Bool.eq_iff_iff,goodD_iff];simp only [Bool.and_eq_true,decide_eq_true_eq];omega
def ofV : List TDot → Int → Int
 | [],_=>0
 | d :: r,dev=>if d.dev = dev ∧ goodD d = true then max d.n (ofV r dev) else ofV r dev
theorem ofV_range (v:List TDot) (dev:Int):0 ≤ ofV v dev ∧ ofV v dev ≤ 281474976710655:=by
 induction v with
 | nil=>simp [ofV]
 | cons d r ih=>
  simp only [ofV]
  split
  ·rename_i h;have:=goodD_iff.1 h.2;omega
  ·exact ih
theorem ofV_pos {v:List TDot} {dev:Int}:0 < ofV v dev ↔ ∃ d ∈ v,d.dev = dev ∧ goodD d = true:=by
 induction v with
 | nil=>simp [ofV]
 | cons d r ih=>
  simp only [ofV,List.mem_cons,exists_eq_or_imp]
  split
  ·rename_i h
   have:=goodD_iff.1 h.2
   constructor
   ·intro _;exact .inl h
   ·intro _;omega
  ·rename_i h
   rw [ih]
   constructor
   ·exact .inr
   ·rintro (hh | hh)
    ·exact absurd hh h
    ·exact hh
def insI : List Int → Int → List Int
 | [],k=>[k]
 | a :: r,k=>if k < a then k :: a :: r else if k = a then a :: r else a :: insI r k
theorem mem_insI {l:List Int} {k q:Int}:q ∈ insI l k ↔ q = k ∨ q ∈ l:=by
 induction l with
 | nil=>simp [insI]
 | cons a r ih=>
  unfold insI
  split
  ·simp
  ·split
   ·rename_i h;subst h;simp
   ·simp only [List.mem_cons,ih];constructor
    ·rintro (h | h | h) <;> simp [h]
    ·rintro (h | h | h) <;> simp [h]
theorem insI_sorted {l:List Int} (h:l.Pairwise (· < ·)) (k:Int):(insI l k).Pairwise (· < ·):=by
 induction l with
 | nil=>simp [insI]
 | cons a r ih=>
  obtain ⟨h1,h2⟩:=List.pairwise_cons.1 h;unfold insI
  split
  ·rename_i hk
   refine List.pairwise_cons.2 ⟨fun x hx=>?_,h⟩;rcases List.mem_cons.1 hx with rfl | hx
   ·exact hk
   ·have:=h1 x hx;omega
  ·split
   ·exact h
   ·refine List.pairwise_cons.2 ⟨fun x hx=>?_,ih h2⟩;rcases mem_insI.1 hx with rfl | hx
    ·omega
    ·exact h1 x hx
theorem len_insI (l : List Int) (k : Int) : (insI l k).length ≤ l.length + 1 := by
  induction l with
  | nil => simp [insI]
  | cons a r ih => unfold insI; split <;> try split
                   all_goals simp_all
def devStep (l:List Int) (d:TDot):List Int:=if goodD d then insI l d.dev else l
def devsL (v:List TDot):List Int:=v.foldl devStep []
theorem devs_gen (v:List TDot):∀ l:List Int,l.Pairwise (· < ·) → (v.foldl devStep l).Pairwise (· < ·) ∧ (∀ k,k ∈ v.foldl devStep l ↔ k ∈ l ∨ ∃ d ∈ v,d.dev = k ∧ goodD d = true) ∧ (v.foldl devStep l).length ≤ l.length + v.length:=by
 induction v with
 | nil=>intro l h;simp [h]
 | cons d r ih=>
  intro l h;simp only [List.foldl_cons];unfold devStep
  split
  ·rename_i hg
   obtain ⟨h1,h2,h3⟩:=ih _ (insI_sorted h d.dev);refine ⟨h1,fun k=>?_,?_⟩
   ·have:=h2 k;unfold devStep at this;rw [this,mem_insI]
    constructor
    ·rintro ((rfl | h) | ⟨e,he,h⟩)
     ·exact .inr ⟨d,by simp,rfl,hg⟩
     ·exact .inl h
     ·exact .inr ⟨e,by simp [he],h⟩
    ·rintro (h | ⟨e,he,h⟩)
     ·exact .inl (.inr h)
     ·rcases List.mem_cons.1 he with rfl | he
      ·exact .inl (.inl h.1.symm)
      ·exact .inr ⟨e,he,h⟩
   ·have:=len_insI l d.dev;simp only [List.length_cons];unfold devStep at h3;omega
  ·rename_i hg
   obtain ⟨h1,h2,h3⟩:=ih _ h;refine ⟨h1,fun k=>?_,?_⟩
   ·have:=h2 k;unfold devStep at this;rw [this]
    constructor
    ·rintro (h | ⟨e,he,h⟩)
     ·exact .inl h
     ·exact .inr ⟨e,by simp [he],h⟩
    ·rintro (h | ⟨e,he,h⟩)
     ·exact .inl h
     ·rcases List.mem_cons.1 he with rfl | he
      ·exact absurd h.2 hg
      ·exact .inr ⟨e,he,h⟩
   ·simp only [List.length_cons];unfold devStep at h3;omega
theorem devs_sorted (v:List TDot):(devsL v).Pairwise (· < ·):=(devs_gen v [] List.Pairwise.nil).1
theorem mem_devs {v:List TDot} {k:Int}:k ∈ devsL v ↔ 0 < ofV v k:=by rw [ofV_pos];simpa [devsL] using (devs_gen v [] List.Pairwise.nil).2.1 k
theorem len_devs (v:List TDot):(devsL v).length ≤ v.length:=by simpa [devsL] using (devs_gen v [] List.Pairwise.nil).2.2
def toldStep (m:List (Int × Int)) (d:TDot):List (Int × Int):=if goodD d then AL.set m d.dev (max (AL.getZ m d.dev 0) d.n) else m
def toldM (v:List TDot):List (Int × Int):=v.foldl toldStep []
theorem told_gen (v:List TDot):∀ m:List (Int × Int),(m.map (·.1)).Nodup → ((v.foldl toldStep m).map (·.1)).Nodup ∧ ((∀ k,0 ≤ AL.getZ m k 0) → ∀ k,AL.getZ (v.foldl toldStep m) k 0 = max (AL.getZ m k 0) (ofV v k)) ∧ (v.foldl toldStep m).length ≤ m.length + v.length ∧ (∀ k,k ∈ (v.foldl toldStep m).map (·.1) → k ∈ m.map (·.1) ∨ 0 < ofV v k):=by
 induction v with
 | nil=>
  intro m h;refine ⟨h,fun h0 k=>?_,by simp,fun k hk=>.inl hk⟩;have:=h0 k;simp only [List.foldl_nil,ofV];omega
 | cons d r ih=>
  intro m h;simp only [List.foldl_cons]
  by_cases hg:goodD d = true
  ·have hd:=goodD_iff.1 hg;have e:toldStep m d = AL.set m d.dev (max (AL.getZ m d.dev 0) d.n):=by simp [toldStep,hg]
   rw [e];obtain ⟨h1,h2,h3,h4⟩:=ih _ (AL.nodup_set h d.dev (max (AL.getZ m d.dev 0) d.n));refine ⟨h1,fun h0 k=>?_,?_,fun k hk=>?_⟩
   ·rw [h2 (fun q=>by rw [AL.getZ_set];have:=h0 q;have:=h0 d.dev;split <;> omega),AL.getZ_set];simp only [ofV]
    by_cases hk:d.dev = k
    ·subst hk;simp only [if_true,hg,and_self];omega
    ·simp [hk]
   ·have:=AL.len_set m d.dev (max (AL.getZ m d.dev 0) d.n);simp only [List.length_cons];omega
   ·simp only [ofV];rcases h4 k hk with h5 | h5
    ·rw [AL.keys_set] at h5
     split at h5
     ·exact .inl h5
     ·rcases List.mem_append.1 h5 with h5 | h5
      ·exact .inl h5
      ·right
       rw [List.mem_singleton.1 h5,if_pos ⟨rfl,hg⟩];omega
    ·right;split <;> omega
  ·have e:toldStep m d = m:=by simp [toldStep,hg]
   rw [e];obtain ⟨h1,h2,h3,h4⟩:=ih m h;have e2:∀ k,ofV (d :: r) k = ofV r k:=fun k=>by simp only [ofV];rw [if_neg (fun hh=>hg hh.2)]
   exact ⟨h1,fun h0 k=>by rw [h2 h0,e2],by simp only [List.length_cons];omega,fun k hk=>by rw [e2];exact h4 k hk⟩
theorem told_nodup (v:List TDot):((toldM v).map (·.1)).Nodup:=(told_gen v [] (by simp)).1
theorem told_get (v:List TDot) (k:Int):AL.getZ (toldM v) k 0 = ofV v k:=by
 have:=(told_gen v [] (by simp)).2.1 (fun _=>Int.le_refl _) k;have h2:=ofV_range v k;rw [toldM,this];show max 0 (ofV v k) = _;omega
theorem told_len (v:List TDot):(toldM v).length ≤ v.length:=by simpa [toldM] using (told_gen v [] (by simp)).2.2.1
theorem told_mem {v:List TDot} {k n:Int} (h:(k,n) ∈ toldM v):n = ofV v k ∧ 0 < n:=by
 have h1:=AL.mem_get (told_nodup v) h;have h2:AL.getZ (toldM v) k 0 = n:=by simp [AL.getZ,h1]
 rw [told_get] at h2;have h3:=(told_gen v [] (by simp)).2.2.2 k (List.mem_map.2 ⟨_,h,rfl⟩);simp at h3;omega
def updM (h:Int × Int → Int) (m:List (Int × Int)) (L:List Nat):List (Int × Int):=m.zipIdx.map fun y=>if y.2 ∈ L then (y.1.1,h y.1) else y.1
theorem updM_get {h:Int × Int → Int} {m:List (Int × Int)} {L:List Nat} {i:Nat}:(updM h m L)[i]? = (m[i]?).map fun e=>if i ∈ L then (e.1,h e) else e:=by
 unfold updM;rw [List.getElem?_map,List.getElem?_zipIdx]
 cases m[i]? <;> simp
theorem updM_len {h:Int × Int → Int} {m:List (Int × Int)} {L:List Nat}:(updM h m L).length = m.length:=by simp [updM]
theorem set_at {m:List (Int × Int)} (hn:(m.map (·.1)).Nodup) {i:Nat} {e:Int × Int} (hi:m[i]? = some e) (v:Int):AL.set m e.1 v = m.set i (e.1,v):=by
 induction m generalizing i with
 | nil=>simp at hi
 | cons x r ih=>
  obtain ⟨a,u⟩:=x;simp only [List.map_cons,List.nodup_cons] at hn
  cases i with
  | zero=>simp at hi;subst hi;simp [AL.set]
  | succ i=>
   simp only [List.getElem?_cons_succ] at hi;have:a ≠ e.1:=fun he=>hn.1 (he ▸ List.mem_map.2 ⟨e,List.mem_of_getElem? hi,rfl⟩)
   simp only [AL.set,this,if_false,List.set_cons_succ];rw [ih hn.2 hi]
theorem updM_keys {h:Int × Int → Int} {m:List (Int × Int)} {L:List Nat}:(updM h m L).map (·.1) = m.map (·.1):=by
 apply List.ext_getElem?;intro i;rw [List.getElem?_map,updM_get,List.getElem?_map]
 cases m[i]? with
 | none=>rfl
 | some e=>simp only [Option.map_some];split <;> rfl
theorem updM_snoc {h:Int × Int → Int} {m:List (Int × Int)} (hn:(m.map (·.1)).Nodup) {L:List Nat} {i:Nat} {e:Int × Int} (hi:m[i]? = some e) (hL:i ∉ L):AL.set (updM h m L) e.1 (h e) = updM h m (L ++ [i]):=by
 have h1:(updM h m L)[i]? = some e:=by rw [updM_get,hi];simp [hL]
 rw [set_at (by rw [updM_keys];exact hn) h1];apply List.ext_getElem?;intro j;rw [List.getElem?_set,updM_len,updM_get,updM_get]
 by_cases hj:i = j
 ·subst hj;have:=(List.getElem?_eq_some_iff.1 hi).1;rw [if_pos rfl,if_pos this,hi];simp
 ·rw [if_neg hj];have:j ∈ L ++ [i] ↔ j ∈ L:=by simp;exact fun e=>absurd e.symm hj
  simp only [this]
theorem updM_all {h:Int × Int → Int} {m:List (Int × Int)} {L:List Nat} (hL:∀ i,i < m.length → i ∈ L):updM h m L = m.map fun e=>(e.1,h e):=by
 apply List.ext_getElem?;intro i;rw [updM_get,List.getElem?_map]
 cases hm:m[i]? with
 | none=>rfl
 | some e=>simp [hL i (List.getElem?_eq_some_iff.1 hm).1]
theorem told_at {v:List TDot} {k:Int} (h:0 < ofV v k):(k,ofV v k) ∈ toldM v:=by
 have h1:AL.getZ (toldM v) k 0 = ofV v k:=told_get v k;unfold AL.getZ at h1
 cases hg:AL.get (toldM v) k with
 | none=>rw [hg] at h1;simp at h1;omega
 | some n=>rw [hg] at h1;simp at h1;subst h1;exact AL.get_mem hg

def cmpD (a b:TDot):Int:=if a = b then 0 else if ltDot a b then -1 else 1
theorem r07_Cmp_eq (a b:TDot):r07_Cmp a b = pure (cmpD a b):=by
 unfold r07_Cmp cmpD;have h1:(decide (a.dev = b.dev) && decide (a.n = b.n)) = decide (a = b):=by
  rw [Bool.eq_iff_iff];cases a;cases b;simp
 have h2:(cond (decide (a.dev < b.dev)) (pure true) (cond (decide (a.dev = b.dev)) (pure (decide (a.n < b.n))) (pure false)):M Bool) = pure (ltDot a b):=by
  rw [cond_pure_and,cond_pure_or];rfl
 rw [h1,h2,cond_dec,pure_bind]
 split
 ·rfl
 ·cases ltDot a b <;> rfl
theorem cmpD_neg {a b:TDot}:cmpD a b < 0 ↔ ltDot a b = true:=by
 unfold cmpD
 split
 ·rename_i h;subst h;simp [ltDot]
 ·split <;> simp_all
theorem cmpD_pos {a b:TDot}:0 < cmpD a b ↔ ltDot b a = true:=by
 unfold cmpD
 by_cases h:a = b
 ·subst h;simp [ltDot]
 ·rw [if_neg h]
  cases a;cases b
  simp only [TDot.mk.injEq] at h;simp only [ltDot,Bool.or_eq_true,Bool.and_eq_true,decide_eq_true_eq]
  split <;> omega
theorem r07_Put_eq (l:List TDot) (d:TDot) (h:l.length ≤ 1000000000000):r07_Put l d = pure ((l.filter fun x=>ltDot x d) ++ [d] ++ (l.filter fun x=>ltDot d x)):=by
 unfold r07_Put;have c0:∀ o:List TDot,o.length ≤ 1000000000000 → True:=fun _ _=>trivial
 have h1:=loopL (body:=r07_Put_l0 l d) l (fun i (o:List TDot)=>((i:Int),o)) (fun o x=>if ltDot x d then o ++ [x] else o) (fun o=>pure o) (fun i o=>o.length ≤ i) (fun i x o hx hi ho=>by
  have h1:decide ((i:Int) < (l.length:Int)) = true:=by simpa using hi
  unfold r07_Put_l0;simp only [h1,cond_true,idx_nat hx,pure_bind,r07_Cmp_eq,det_pure,wSucc (show i < 9223372036854775807 by omega),cond_dec,cmpD_neg]
  split
  ·rw [need_true (by simp;omega)];exact ⟨rfl,by simp;omega⟩
  ·exact ⟨rfl,by omega⟩) (fun o _=>by unfold r07_Put_l0;simp [pure_bind]) [] (by simp)
 have h2:∀ o0:List TDot,o0.length ≤ 1000000000001 → loop (r07_Put_l1 l d) (0,o0) = pure (l.foldl (fun o x=>if ltDot d x then o ++ [x] else o) o0):=fun o0 ho0=>by
  have:=loopL (body:=r07_Put_l1 l d) l (fun i (o:List TDot)=>((i:Int),o)) (fun o x=>if ltDot d x then o ++ [x] else o) (fun o=>pure o) (fun i o=>o.length ≤ o0.length + i) (fun i x o hx hi ho=>by
   have h1:decide ((i:Int) < (l.length:Int)) = true:=by simpa using hi
   unfold r07_Put_l1;simp only [h1,cond_true,idx_nat hx,pure_bind,r07_Cmp_eq,det_pure,wSucc (show i < 9223372036854775807 by omega),cond_dec,cmpD_pos]
   split
   ·rw [need_true (by simp;omega)];exact ⟨rfl,by simp;omega⟩
   ·exact ⟨rfl,by omega⟩) (fun o _=>by unfold r07_Put_l1;simp [pure_bind]) o0 (by simp)
  exact this
 have hf:∀ (p:TDot → Bool) (l o:List TDot),l.foldl (fun o x=>if p x then o ++ [x] else o) o = o ++ l.filter p:=by
  intro p l
  induction l with
  | nil=>simp
  | cons x r ih=>
   intro o;rw [List.foldl_cons,ih,List.filter_cons]
   split <;> simp
 rw [show ((0:Int),([]:List TDot)) = (((0:Nat):Int),[]) from rfl,h1,hf,pure_bind,need_true,h2,hf,pure_bind]
 ·rfl
 ·have:=List.length_filter_le (fun x=>ltDot x d) l;simp;omega
 ·have:=List.length_filter_le (fun x=>ltDot x d) l;simp;omega
def ones (l:List Int):List TDot:=l.map fun k=>⟨k,1⟩
theorem put_ones {l:List Int} (h:l.Pairwise (· < ·)) (k:Int):((ones l).filter fun x=>ltDot x ⟨k,1⟩) ++ [⟨k,1⟩] ++ ((ones l).filter fun x=>ltDot ⟨k,1⟩ x) = ones (insI l k):=by
 induction l with
 | nil=>rfl
 | cons a r ih=>
  obtain ⟨h1,h2⟩:=List.pairwise_cons.1 h;have i2:=ih h2;unfold insI
  by_cases c1:k < a
  ·rw [if_pos c1];have e1:(ones (a :: r)).filter (fun x=>ltDot x ⟨k,1⟩) = []:=by
    rw [List.filter_eq_nil_iff];intro x hx;simp only [ones,List.map_cons,List.mem_cons,List.mem_map] at hx;rcases hx with rfl | ⟨b,hb,rfl⟩
    ·simp [ltDot];omega
    ·have:=h1 b hb;simp [ltDot];omega
   have e2:(ones (a :: r)).filter (fun x=>ltDot ⟨k,1⟩ x) = ones (a :: r):=by
    rw [List.filter_eq_self];intro x hx;simp only [ones,List.map_cons,List.mem_cons,List.mem_map] at hx;rcases hx with rfl | ⟨b,hb,rfl⟩
    ·simp [ltDot];omega
    ·have:=h1 b hb;simp [ltDot];omega
   rw [e1,e2];rfl
  ·rw [if_neg c1]
   by_cases c2:k = a
   ·subst c2;rw [if_pos rfl];have e1:(ones (k :: r)).filter (fun x=>ltDot x ⟨k,1⟩) = []:=by
     rw [List.filter_eq_nil_iff];intro x hx;simp only [ones,List.map_cons,List.mem_cons,List.mem_map] at hx;rcases hx with rfl | ⟨b,hb,rfl⟩
     ·simp [ltDot]
     ·have:=h1 b hb;simp [ltDot];omega
    have e2:(ones (k :: r)).filter (fun x=>ltDot ⟨k,1⟩ x) = ones r:=by
     show List.filter _ (⟨k,1⟩ :: ones r) = _;rw [List.filter_cons,if_neg (by simp [ltDot]),List.filter_eq_self];intro x hx;simp only [ones,List.mem_map] at hx;obtain ⟨b,hb,rfl⟩:=hx;have:=h1 b hb;simp [ltDot];omega
    rw [e1,e2];rfl
   ·rw [if_neg c2];show (List.filter _ (⟨a,1⟩ :: ones r)) ++ _ ++ (List.filter _ (⟨a,1⟩ :: ones r)) = ⟨a,1⟩ :: ones (insI r k);rw [List.filter_cons,if_pos (by simp [ltDot];omega),List.filter_cons,if_neg (by simp [ltDot];omega),← i2]
    rfl
end Go.Ep.M.V


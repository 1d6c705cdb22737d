/- Texts that the walks and laws lean on, side by side. -/
import Derived.Test.YtnknnlhpcfmdpaaGreatAMo4
import Derived.Test.YtnknnlhpcfmdpaaGreatAMo6
import Derived.Test.YtnknnlhpcfmdpaaGreatAMo7
import Derived.Test.YtnknnlhpcfmdpaaGreatAMo8
import Derived.Test.YtnknnlhpcfmdpaaGreatAMo9
set_option linter.unusedVariables false
set_option linter.unusedSimpArgs false
namespace Go.Proofs
open Go.Ep
set_option maxHeartbeats 1000000
set_option maxRecDepth 100000
theorem elem34 : ElemOK Tryz.prog 34 25 1 24:=ElemOK.mk' (z:=.slice none 0 0) Tryz.underlying34 (by kernel_rfl) rfl
theorem l27_MsgOwn_ok(m1:TMsg)(r0:Bool)(h:(l27_MsgOwn m1).wp (·=r0)):PFun Tryz.prog 3 [.agg (List.map .d (TMsg.e m1))] (.d (.v (.bool r0))):=by
 refine PFun.intro (sl:=[(0,_)]) Tryz.func3 rfl Tryz.ntmps3 rfl rfl ?_;intro ctx hK;refine PWc.seq ?_;refine PWc.region ?_;refine PWl.step (LR.box rfl rfl rfl rfl) rfl ?_;refine PWl.step (LR.assign rfl) rfl ?_;refine PWl.nil ?_;refine PWc.seq ?_;refine PWc.seq ?_;refine PWc.region ?_;refine PWl.step (LR.loadRefAgg (ps:=[_,_,_,_,_,_,_,_,_,_,_]) Tryz.isAgg30 Tryz.sizeOf30 rfl rfl rfl rfl) rfl ?_;replace h:=iDet h;obtain⟨v12,hy12,h⟩:=h;refine PWl.step (LR.callN (r27_Few_ok m1 v12 hy12) rfl Tryz.call4 rfl rfl rfl rfl) rfl ?_;refine PWl.step (LR.not rfl) rfl ?_;refine PWl.nil ?_;refine PWc.cond rfl (fun hc=>?_) (fun hc=>?_)
 ·replace h:=iT hc h;refine PWc.seq ?_;refine PWc.region ?_;replace h:=iDet h;obtain⟨v14,hy14,h⟩:=h;refine PWl.step (LR.callN (l27_works_ok v14 hy14) rfl Tryz.call5 rfl rfl rfl rfl) rfl ?_;refine PWl.step (LR.assign rfl) rfl ?_;refine PWl.nil ?_;refine PWc.ret ?_;replace h:_=_:=h;subst h;exact⟨.inr rfl,_,.cons (.tmp rfl rfl) .nil,rfl⟩
 ·replace h:=iF hc h;obtain⟨hS,h⟩:=h;refine PWc.skip ?_;refine PWc.seq ?_;refine PWc.re (tl:=[(1,.ref 1 0)]) (to:=[(1,.cells 30 ((TMsg.F m1 fun x=>x).map .d))]) rfl (.cons rfl rfl<|.nil) (.cons rfl rfl<|.nil) ?_;refine PWc.regionX 3 ftM (esM ctx m1) (fun B=>⟨130,[(4,.ref 4 0),(3,.ref 3 0),(18,.agg ((TMsg.F m1 (.nw (newB ctx B))).map .d)),(16,.agg ((TMsg.F m1 (.od (oldB B))).map .d)),(17,.agg ((TMsg.F m1 fun x=>x).map .d)),(16,.agg ((TMsg.F m1 (.nw (newIn ctx))).map .d)),(15,.agg ((TMsg.F m1 fun x=>x).map .d)),(1,.ref 1 0)],(mo1 ctx m1 B).objs⟩) (e3M ctx m1) (by kernel_rfl) (by kernel_rfl) rfl (by decide) (fun B=>?_) (fun j=>?_) (fun B=>rfl) (fun B j e' hj hn he=>?_) (fun E s' a w hI hE3 hdep hpre hr K Qx hK2=>?_) (fun B=>?_)
  ·refine .cons (.inr (Does.stepP (fun _ he ho=>LR.loadRefAgg (ps:=(TMsg.F m1 fun x=>x).map .d) Tryz.isAgg30 Tryz.sizeOf30 (he rfl rfl) (ho rfl rfl) rfl rfl) (.inl rfl) rfl)) rfl ?_;refine .cons (.inr (Does.stepP (fun _ he ho=>LR.callNw (msg6_new m1 hS) (monoMs _) (he rfl rfl) Tryz.call6 (evsE he rfl rfl) rfl rfl rfl) (.inl rfl) rfl)) rfl ?_;refine .cons (.inr (Does.stepP (fun _ he ho=>LR.loadRefAgg (ps:=(TMsg.F m1 fun x=>x).map .d) Tryz.isAgg30 Tryz.sizeOf30 (he rfl rfl) (ho rfl rfl) rfl rfl) (.inl rfl) rfl)) rfl ?_;refine .cons (.inl rfl) rfl ?_;refine .cons (.inr (Does.stepN (fun _ he ho hf=>LR.allocZ (cs:=zMsg) Tryz.zeroValue30 rfl rfl rfl hf) rfl (.inl rfl) rfl)) rfl ?_;refine .cons (.inr (Does.stepN (fun _ he ho hf=>LR.allocZ (cs:=zMsg) Tryz.zeroValue30 rfl rfl rfl hf) rfl (.inl rfl) rfl)) rfl ?_;refine .cons (.inr (Does.stepS (fun _ he ho=>LR.storeB (ns:=(TMsg.F m1 (.od (oldB B))).map .d) Tryz.sizeOf30 (he rfl rfl) (he rfl rfl) rfl rfl (ho rfl rfl) rfl rfl) (.inl rfl) rfl)) rfl ?_;refine .cons (.inr (Does.stepS (fun _ he ho=>LR.storeB (ns:=(TMsg.F m1 (.nw (newB ctx B))).map .d) Tryz.sizeOf30 (he rfl rfl) (he rfl rfl) rfl rfl (ho rfl rfl) rfl rfl) (.inl rfl) rfl)) rfl ?_;exact .nil
  ·match j with
   | 0=>exact .inr (.inr fun _ _=>rfl)
   | 1=>exact .inr (.inr fun _ _=>rfl)
   | 2=>exact .inr (.inr fun _ _=>rfl)
   | 3=>exact .inl rfl
   | 4=>exact .inr (.inr fun _ _=>rfl)
   | 5=>exact .inr (.inr fun _ _=>rfl)
   | 6=>exact .inr (.inl (inL_iff.1 (by kernel_rfl)))
   | 7=>exact .inr (.inl (inL_iff.1 (by kernel_rfl)))
   | j+8=>exact .inr (.inr fun _ _=>rfl)
  ·match j,hj,hn,he with
   | 4,_,_,he=>cases he;constructor <;> intro t h1 h2 <;> simp[e3M] at h1 h2 <;> omega
   | 5,_,_,he=>cases he;constructor <;> intro t h1 h2 <;> simp[e3M] at h1 h2 <;> omega
   | 6,_,hn,_=>exact(hn (inL_iff.1 (by kernel_rfl))).elim
   | 7,_,hn,_=>exact(hn (inL_iff.1 (by kernel_rfl))).elim
   | j+8,_,_,he=>cases he
  ·have e1:E 1=true:=(hpre 1 (inL_iff.1 (by kernel_rfl))).resolve_left (by decide);have e2:E 2=true:=(hpre 2 (inL_iff.1 (by kernel_rfl))).resolve_left (by decide);have h17:s'.at 17=some (.agg ((TMsg.F m1 fun x=>x).map .d)):=getS_inv (E':=fun j=>Nat.beq j 2) hI (fun j e he hs=>by
    match j,he with
    | 0,he=>cases he;cases hs
    | 1,he=>cases he;cases hs
    | 2,_=>exact e2
    | 3,he=>cases he;cases hs
    | 4,he=>cases he;cases hs
    | 5,he=>cases he;cases hs
    | 6,he=>cases he;cases hs
    | 7,he=>cases he;cases hs
    | j+8,he=>cases he) rfl rfl
   have h16:s'.at 16=some (.agg ((TMsg.F m1 (.nw (newIn ctx))).map .d)):=getS_inv (E':=fun j=>Nat.beq j 1) hI (fun j e he hs=>by
    match j,he with
    | 0,he=>cases he;cases hs
    | 1,_=>exact e1
    | 2,he=>cases he;cases hs
    | 3,_=>exact hE3
    | 4,he=>cases he;cases hs
    | 5,he=>cases he;cases hs
    | 6,he=>cases he;cases hs
    | 7,he=>cases he;cases hs
    | j+8,he=>cases he) rfl rfl
   have h1o:Ep.look s'.objs 1=some (.cells 30 ((TMsg.F m1 fun x=>x).map .d)):=look_inv (E':=fun _=>false) hI (fun j e he hs=>by
    match j,he with
    | 0,he=>cases he;cases hs
    | 1,he=>cases he;cases hs
    | 2,he=>cases he;cases hs
    | 3,_=>exact hE3
    | 4,he=>cases he;cases hs
    | 5,he=>cases he;cases hs
    | 6,he=>cases he;cases hs
    | 7,he=>cases he;cases hs
    | j+8,he=>cases he) rfl
   have hr2:=remark (flMsg m1) (flMsg m1) (plainMsg m1) hr h1o h16;refine wpOp_plain rfl rfl ?_;have hat:(s'.app ⟨[(16,.agg ((TMsg.F m1 (.od (oldB w.heap.size))).map .d))],[(1,.cells 30 ((TMsg.F m1 (.od (oldB w.heap.size))).map .d))]⟩).at 17=some (.agg ((TMsg.F m1 fun x=>x).map .d)):=at_of (at_lt h17) (at_get h17);refine callAtW (r:=.agg ((TMsg.F m1 (.nw (newB ctx w.heap.size))).map .d)) (ps:=[.agg ((TMsg.F m1 fun x=>x).map .d)]) (xs:=[.tmp 17]) hr2 (fun g hg vs hl hv=>?_) rfl Tryz.call6 ?_ rfl rfl (fun a' w' h9=>hK2 _ _ _ h9)
   ·exact(msg6_new m1 hS w _ vs hl hv).mono fun e w' ⟨u,h1,h2,h3⟩=>⟨u,h1,h2,monoMs _ _ _ _ _ _ _ (fun b hb=>⟨hb,Nat.le_trans hg.grows hb⟩) h3⟩
   ·show(s'.app _).evs [.tmp 17]=_;simp only[PState.evs,PState.ev,hat]
  ·refine PWc.sub (t:=mo1 ctx m1 B) (Sub.of rfl (.cons rfl rfl<|.cons rfl rfl<|.cons rfl rfl<|.nil) (.cons rfl rfl<|.cons rfl rfl<|.cons rfl rfl<|.nil)) ?_;intro a w hr;obtain⟨ctx',p1,p3,hSK,hKS,hr',back⟩:=spoilPhase (flMsg m1) (flMsg m1) (flMsg m1) hr (by decide);refine inner_seq (ctx':=ctx') ?_ a w hr';refine PWc.seq ?_;refine PWc.region ?_;refine PWl.step (LR.fieldRef Tryz.underlying30 rfl Tryz.sizeOf25 (by decide) rfl rfl) rfl ?_;refine PWl.step (LR.loadRef Tryz.isAgg25 rfl rfl rfl) rfl ?_;refine PWl.step (LR.fieldRef Tryz.underlying30 rfl Tryz.sizeOf25 (by decide) rfl rfl) rfl ?_;refine PWl.step (LR.loadRef Tryz.isAgg25 rfl rfl rfl) rfl ?_;refine PWl.step (LR.fieldRef Tryz.underlying30 rfl Tryz.sizeOf28 (by decide) rfl rfl) rfl ?_;refine PWl.step (LR.fieldRef Tryz.underlying28 rfl Tryz.sizeOf25 (by decide) rfl rfl) rfl ?_;refine PWl.step (LR.loadRef Tryz.isAgg25 rfl rfl rfl) rfl ?_;refine PWl.step (LR.fieldRef Tryz.underlying30 rfl Tryz.sizeOf28 (by decide) rfl rfl) rfl ?_;refine PWl.step (LR.fieldRef Tryz.underlying28 rfl Tryz.sizeOf25 (by decide) rfl rfl) rfl ?_;refine PWl.step (LR.loadRef Tryz.isAgg25 rfl rfl rfl) rfl ?_;refine PWl.step (LR.buildSliceD [.tmp 20,.tmp 22,.tmp 25,.tmp 28] (k:=1) (l:=List.map (fun c:List TPart=>[DV.sp anyB (.sl (List.map TPart.e c))]) [m1.have_,m1.front,m1.delta.from_,m1.delta.to_]) elem34 rfl rfl (.cons rfl rfl rfl<|.cons rfl rfl rfl<|.cons rfl rfl rfl<|.cons rfl rfl rfl<|.nil) (by decide) (by decide)) rfl ?_;refine PWl.step (LR.lenMap (enc:=fun c:List TPart=>[DV.sp anyB (.sl (List.map TPart.e c))]) (L:=[m1.have_,m1.front,m1.delta.from_,m1.delta.to_]) Tryz.underlying34 rfl) rfl ?_;refine PWl.step (LR.move rfl) rfl ?_;refine PWl.nil ?_;refine PWc.re (tl:=[(1,.d (.v p1)),(3,.d (.v p3)),(4,.ref 4 0),(29,.d (.sl (List.map (fun c:List TPart=>[DV.sp anyB (.sl (List.map TPart.e c))]) [m1.have_,m1.front,m1.delta.from_,m1.delta.to_]))),(30,.d (.v (.int .i64 4))),(31,.d (.v (.int .i64 0)))]) (to:=[(4,.cells 30 ((TMsg.F m1 (.sp anyB)).map .d))]) rfl (.cons rfl rfl<|.cons rfl rfl<|.cons rfl rfl<|.cons rfl rfl<|.cons rfl rfl<|.cons rfl rfl<|.nil) (.cons rfl rfl<|.nil) ?_;refine PWc.jn (m:=M.loop (cntB 4) 0) (N:=fun _=>True) (cnt_wp _ trivial 0) (fun(_:Unit) (_:Unit)=>⟨130,[(1,.d (.v p1)),(3,.d (.v p3)),(4,.ref 4 0)],[(4,.cells 30 ((TMsg.F m1 (.sp anyB)).map .d))]⟩) (fun h=>?_) ?_ (fun t u hs ⟨he,hq⟩=>⟨he,fun a w hr=>hq a w (hs a w hr)⟩)
   ·refine PWc.block ?_;refine PWc.loopM (fun(i:Nat) (_:Unit)=>⟨130,[(1,.d (.v p1)),(3,.d (.v p3)),(4,.ref 4 0),(29,.d (.sl (List.map (fun c:List TPart=>[DV.sp anyB (.sl (List.map TPart.e c))]) [m1.have_,m1.front,m1.delta.from_,m1.delta.to_]))),(30,.d (.v (.int .i64 4))),(31,.d (.v (.int .i64 (i:Int))))],[(4,.cells 30 ((TMsg.F m1 (.sp anyB)).map .d))]⟩) () h (Sub.of rfl (.cons rfl rfl<|.cons rfl rfl<|.cons rfl rfl<|.cons rfl rfl<|.cons rfl rfl<|.cons rfl rfl<|.nil) (.cons rfl rfl<|.nil)) ?_;rintro N i _ h;refine PWc.seq ?_;refine PWc.region ?_;refine PWl.step (LR.lss rfl rfl) rfl ?_;refine PWl.nil ?_;refine PWc.seq ?_;refine PWc.cond rfl (fun hc=>?_) (fun hc=>?_)
    ·replace h:N (i+1):=by have:=iT hc h;exact this
     have hi:i < 4:=by have:=of_decide_eq_true hc;omega
     obtain⟨c,hcx⟩:∃ c,([m1.have_,m1.front,m1.delta.from_,m1.delta.to_]:List (List TPart))[i]?=some c:=⟨_,List.getElem?_eq_getElem (by simpa using hi)⟩
     have hcS:SmC c:=by
      have:=List.mem_of_getElem? hcx;simp only[List.mem_cons,List.not_mem_nil,or_false] at this;rcases this with rfl | rfl | rfl | rfl
      ·exact hS.1
      ·exact hS.2.1
      ·exact hS.2.2.1
      ·exact hS.2.2.2.1
     have hcl:=hcS.1;refine PWc.skip ?_;refine PWc.seq ?_;refine PWc.block ?_;refine PWc.seq ?_;refine PWc.region ?_;refine PWl.step (LR.idxT (enc:=(fun c:List TPart=>[DV.sp anyB (.sl (List.map TPart.e c))])) (L:=[m1.have_,m1.front,m1.delta.from_,m1.delta.to_]) (y:=c) Tryz.underlying34 Tryz.sizeOf25 rfl rfl ⟨by omega,hcx⟩ (fun _=>rfl)) rfl ?_;refine PWl.step (LR.loadEp Tryz.isAgg25 rfl rfl) rfl ?_;refine PWl.step (LR.assign rfl) rfl ?_;refine PWl.nil ?_;refine PWc.seq ?_;refine PWc.region ?_;refine PWl.step (LR.move rfl) rfl ?_;refine PWl.step (LR.lenSp Tryz.underlying25 rfl) rfl ?_;refine PWl.step (LR.move rfl) rfl ?_;refine PWl.nil ?_;refine PWc.jn (m:=M.loop (cntB c.length) 0) (N:=fun _=>True) (cnt_wp _ trivial 0) (fun(_:Unit) (_:Unit)=>⟨130,[(1,.d (.v p1)),(3,.d (.v p3)),(4,.ref 4 0),(29,.d (.sl (List.map (fun c:List TPart=>[DV.sp anyB (.sl (List.map TPart.e c))]) [m1.have_,m1.front,m1.delta.from_,m1.delta.to_]))),(30,.d (.v (.int .i64 4))),(31,.d (.v (.int .i64 (i:Int))))],[(4,.cells 30 ((TMsg.F m1 (.sp anyB)).map .d))]⟩) (fun h2=>?_) ?_ (fun t u hs q=>PWc.sub hs q)
     ·refine PWc.block ?_;refine PWc.loopM (fun(k:Nat) (_:Unit)=>⟨130,[(1,.d (.v p1)),(3,.d (.v p3)),(4,.ref 4 0),(6,.d (.sp anyB (.sl (List.map TPart.e c)))),(29,.d (.sl (List.map (fun c:List TPart=>[DV.sp anyB (.sl (List.map TPart.e c))]) [m1.have_,m1.front,m1.delta.from_,m1.delta.to_]))),(30,.d (.v (.int .i64 4))),(31,.d (.v (.int .i64 (i:Int)))),(36,.d (.v (.int .i64 (c.length:Int)))),(37,.d (.v (.int .i64 (k:Int))))],[(4,.cells 30 ((TMsg.F m1 (.sp anyB)).map .d))]⟩) () h2 (Sub.of rfl (.cons rfl rfl<|.cons rfl rfl<|.cons rfl rfl<|.cons rfl rfl<|.cons rfl rfl<|.cons rfl rfl<|.cons rfl rfl<|.cons rfl (by simp)<|.cons rfl rfl<|.nil) (.cons rfl rfl<|.nil)) ?_;rintro N2 k _ h2;refine PWc.seq ?_;refine PWc.region ?_;refine PWl.step (LR.lss rfl rfl) rfl ?_;refine PWl.nil ?_;refine PWc.seq ?_;refine PWc.cond rfl (fun hc2=>?_) (fun hc2=>?_)
      ·replace h2:N2 (k+1):=by have:=iT hc2 h2;exact this
       have hk2:k < c.length:=by have:=of_decide_eq_true hc2;omega
       obtain⟨x,hx⟩:∃ x,c[k]?=some x:=⟨_,List.getElem?_eq_getElem hk2⟩
       have hxl:=hcS.2 x (List.mem_of_getElem? hx);have hx2:(List.map TPart.e c)[k]?=some (TPart.e x):=by rw[List.getElem?_map,hx];rfl
       refine PWc.skip ?_;refine PWc.seq ?_;refine PWc.block ?_;refine PWc.seq ?_;refine PWc.region ?_;refine PWl.step (LR.move rfl) rfl ?_;refine PWl.step (LR.assign rfl) rfl ?_;refine PWl.nil ?_;refine PWc.seq ?_;refine PWc.region ?_;refine PWl.step (LR.move rfl) rfl ?_;refine PWl.step (LR.move rfl) rfl ?_;refine PWl.step (LR.idxSp Tryz.underlying25 Tryz.sizeOf37 rfl rfl rfl hx2 rfl) rfl ?_;refine PWl.step (LR.fieldSq Tryz.underlying37 rfl Tryz.sizeOf23 (by decide) rfl rfl) rfl ?_;refine PWl.step (LR.loadSq Tryz.isAgg23 rfl rfl) rfl ?_;refine PWl.step (LR.addSp rfl rfl) rfl ?_;refine PWl.step (LR.idxSp Tryz.underlying25 Tryz.sizeOf37 rfl rfl rfl hx2 rfl) rfl ?_;refine PWl.step (LR.fieldSq Tryz.underlying37 rfl Tryz.sizeOf23 (by decide) rfl rfl) rfl ?_;refine PWl.step (LR.storeSpI hSK rfl Tryz.sizeOf23 rfl rfl rfl) rfl ?_;refine PWl.nil ?_;refine PWc.seq ?_;refine PWc.region ?_;refine PWl.step (LR.move rfl) rfl ?_;refine PWl.step (LR.move rfl) rfl ?_;refine PWl.step (LR.idxSp Tryz.underlying25 Tryz.sizeOf37 rfl rfl rfl hx2 rfl) rfl ?_;refine PWl.step (LR.fieldSq Tryz.underlying37 rfl Tryz.sizeOf35 (by decide) rfl rfl) rfl ?_;refine PWl.step (LR.loadSq Tryz.isAgg35 rfl rfl) rfl ?_;refine PWl.step (LR.lenSp Tryz.underlying35 rfl) rfl ?_;refine PWl.step (LR.move rfl) rfl ?_;refine PWl.nil ?_;refine PWc.jn (m:=M.loop (cntB x.runs.length) 0) (N:=fun _=>True) (cnt_wp _ trivial 0) (fun(_:Unit) (_:Unit)=>⟨130,[(1,.d (.v p1)),(3,.d (.v p3)),(4,.ref 4 0),(6,.d (.sp anyB (.sl (List.map TPart.e c)))),(29,.d (.sl (List.map (fun c:List TPart=>[DV.sp anyB (.sl (List.map TPart.e c))]) [m1.have_,m1.front,m1.delta.from_,m1.delta.to_]))),(30,.d (.v (.int .i64 4))),(31,.d (.v (.int .i64 (i:Int)))),(36,.d (.v (.int .i64 (c.length:Int)))),(37,.d (.v (.int .i64 (k:Int))))],[(4,.cells 30 ((TMsg.F m1 (.sp anyB)).map .d))]⟩) (fun h3=>?_) ?_ (fun t u hs q=>PWc.sub hs q)
       ·refine PWc.block ?_;refine PWc.loopM (fun(q:Nat) (_:Unit)=>⟨130,[(1,.d (.v p1)),(3,.d (.v p3)),(4,.ref 4 0),(6,.d (.sp anyB (.sl (List.map TPart.e c)))),(29,.d (.sl (List.map (fun c:List TPart=>[DV.sp anyB (.sl (List.map TPart.e c))]) [m1.have_,m1.front,m1.delta.from_,m1.delta.to_]))),(30,.d (.v (.int .i64 4))),(31,.d (.v (.int .i64 (i:Int)))),(36,.d (.v (.int .i64 (c.length:Int)))),(37,.d (.v (.int .i64 (k:Int)))),(7,.d (.v (.int .i64 (k:Int)))),(53,.d (.v (.int .i64 (x.runs.length:Int)))),(54,.d (.v (.int .i64 (q:Int))))],[(4,.cells 30 ((TMsg.F m1 (.sp anyB)).map .d))]⟩) () h3 (Sub.of rfl (.cons rfl rfl<|.cons rfl rfl<|.cons rfl rfl<|.cons rfl rfl<|.cons rfl rfl<|.cons rfl rfl<|.cons rfl rfl<|.cons rfl rfl<|.cons rfl rfl<|.cons rfl rfl<|.cons rfl (by simp)<|.cons rfl rfl<|.nil) (.cons rfl rfl<|.nil)) ?_;rintro N3 q _ h3;refine PWc.seq ?_;refine PWc.region ?_;refine PWl.step (LR.lss rfl rfl) rfl ?_;refine PWl.nil ?_;refine PWc.seq ?_;refine PWc.cond rfl (fun hc3=>?_) (fun hc3=>?_)
        ·replace h3:N3 (q+1):=by have:=iT hc3 h3;exact this
         have hq:q < x.runs.length:=by have:=of_decide_eq_true hc3;omega
         obtain⟨y,hy⟩:∃ y,x.runs[q]?=some y:=⟨_,List.getElem?_eq_getElem hq⟩
         have hy2:(List.map TRun.e x.runs)[q]?=some (TRun.e y):=by rw[List.getElem?_map,hy];rfl
         refine PWc.skip ?_;refine PWc.seq ?_;refine PWc.block ?_;refine PWc.seq ?_;refine PWc.region ?_;refine PWl.step (LR.move rfl) rfl ?_;refine PWl.step (LR.assign rfl) rfl ?_;refine PWl.nil ?_;refine PWc.region ?_;refine PWl.step (LR.move rfl) rfl ?_;refine PWl.step (LR.move rfl) rfl ?_;refine PWl.step (LR.idxSp Tryz.underlying25 Tryz.sizeOf37 rfl rfl rfl hx2 rfl) rfl ?_;refine PWl.step (LR.fieldSq Tryz.underlying37 rfl Tryz.sizeOf35 (by decide) rfl rfl) rfl ?_;refine PWl.step (LR.loadSq Tryz.isAgg35 rfl rfl) rfl ?_;refine PWl.step (LR.move rfl) rfl ?_;refine PWl.step (LR.idxSp Tryz.underlying35 Tryz.sizeOf39 rfl rfl rfl hy2 rfl) rfl ?_;refine PWl.step (LR.fieldSq Tryz.underlying39 rfl Tryz.sizeOf22 (by decide) rfl rfl) rfl ?_;refine PWl.step (LR.loadSq Tryz.isAgg22 rfl rfl) rfl ?_;refine PWl.step (LR.addSp rfl rfl) rfl ?_;refine PWl.step (LR.idxSp Tryz.underlying35 Tryz.sizeOf39 rfl rfl rfl hy2 rfl) rfl ?_;refine PWl.step (LR.fieldSq Tryz.underlying39 rfl Tryz.sizeOf22 (by decide) rfl rfl) rfl ?_;refine PWl.step (LR.storeSpI hSK rfl Tryz.sizeOf22 rfl rfl rfl) rfl ?_;refine PWl.nil ?_;refine PWc.region ?_;refine PWl.step (LR.addW rfl rfl) rfl ?_;refine PWl.step (LR.move rfl) rfl ?_;refine PWl.nil ?_;exact⟨q+1,(),h3,Sub.of rfl (.cons rfl rfl<|.cons rfl rfl<|.cons rfl rfl<|.cons rfl rfl<|.cons rfl rfl<|.cons rfl rfl<|.cons rfl rfl<|.cons rfl rfl<|.cons rfl rfl<|.cons rfl rfl<|.cons rfl rfl<|.cons rfl (congrArg (fun z=>PV.d (.v (.int .i64 z))) (wrapN hq hxl))<|.nil) (.cons rfl rfl<|.nil)⟩
        ·refine PWc.exit ?_;exact⟨(),(),trivial,(Sub.of rfl (.cons rfl rfl<|.cons rfl rfl<|.cons rfl rfl<|.cons rfl rfl<|.cons rfl rfl<|.cons rfl rfl<|.cons rfl rfl<|.cons rfl rfl<|.cons rfl rfl<|.nil) (.cons rfl rfl<|.nil))⟩
       ·rintro _ _ _;refine PWc.region ?_;refine PWl.step (LR.addW rfl rfl) rfl ?_;refine PWl.step (LR.move rfl) rfl ?_;refine PWl.nil ?_;exact⟨k+1,(),h2,Sub.of rfl (.cons rfl rfl<|.cons rfl rfl<|.cons rfl rfl<|.cons rfl rfl<|.cons rfl rfl<|.cons rfl rfl<|.cons rfl rfl<|.cons rfl rfl<|.cons rfl (congrArg (fun z=>PV.d (.v (.int .i64 z))) (wrapN hk2 hcl))<|.nil) (.cons rfl rfl<|.nil)⟩
      ·refine PWc.exit ?_;exact⟨(),(),trivial,(Sub.of rfl (.cons rfl rfl<|.cons rfl rfl<|.cons rfl rfl<|.cons rfl rfl<|.cons rfl rfl<|.cons rfl rfl<|.nil) (.cons rfl rfl<|.nil))⟩
     ·rintro _ _ _;refine PWc.region ?_;refine PWl.step (LR.addW rfl rfl) rfl ?_;refine PWl.step (LR.move rfl) rfl ?_;refine PWl.nil ?_;exact⟨i+1,(),h,Sub.of rfl (.cons rfl rfl<|.cons rfl rfl<|.cons rfl rfl<|.cons rfl rfl<|.cons rfl rfl<|.cons rfl (congrArg (fun z=>PV.d (.v (.int .i64 z))) (wrapN hi (by decide)))<|.nil) (.cons rfl rfl<|.nil)⟩
    ·refine PWc.exit ?_;exact⟨(),(),trivial,(Sub.of rfl (.cons rfl rfl<|.cons rfl rfl<|.cons rfl rfl<|.nil) (.cons rfl rfl<|.nil))⟩
   ·rintro _ _ _;refine⟨rfl,?_⟩;refine fun a w hr=>inner_seq (ctx':=ctx') ?_ a w hr
    refine PWc.seq ?_;refine PWc.region ?_;refine PWl.step (LR.fieldRef Tryz.underlying30 rfl Tryz.sizeOf28 (by decide) rfl rfl) rfl ?_;refine PWl.step (LR.fieldRef Tryz.underlying28 rfl Tryz.sizeOf26 (by decide) rfl rfl) rfl ?_;refine PWl.step (LR.loadRef Tryz.isAgg26 rfl rfl rfl) rfl ?_;refine PWl.step (LR.lenSp Tryz.underlying26 rfl) rfl ?_;refine PWl.step (LR.move rfl) rfl ?_;refine PWl.nil ?_;refine PWc.jn (m:=M.loop (cntB m1.delta.events.length) 0) (N:=fun _=>True) (cnt_wp _ trivial 0) (fun(_:Unit) (_:Unit)=>⟨130,[(1,.d (.v p1)),(3,.d (.v p3)),(4,.ref 4 0)],[(4,.cells 30 ((TMsg.F m1 (.sp anyB)).map .d))]⟩) (fun h4=>?_) ?_ (fun t u hs ⟨he,hq⟩=>⟨he,fun a w hr=>hq a w (hs a w hr)⟩)
    ·refine PWc.block ?_;refine PWc.loopM (fun(i:Nat) (_:Unit)=>⟨130,[(1,.d (.v p1)),(3,.d (.v p3)),(4,.ref 4 0),(75,.d (.v (.int .i64 (m1.delta.events.length:Int)))),(76,.d (.v (.int .i64 (i:Int))))],[(4,.cells 30 ((TMsg.F m1 (.sp anyB)).map .d))]⟩) () h4 (Sub.of rfl (.cons rfl rfl<|.cons rfl rfl<|.cons rfl rfl<|.cons rfl (by simp)<|.cons rfl rfl<|.nil) (.cons rfl rfl<|.nil)) ?_;rintro N i _ h4;refine PWc.seq ?_;refine PWc.region ?_;refine PWl.step (LR.lss rfl rfl) rfl ?_;refine PWl.nil ?_;refine PWc.seq ?_;refine PWc.cond rfl (fun hc4=>?_) (fun hc4=>?_)
     ·replace h4:N (i+1):=by have:=iT hc4 h4;exact this
      have hi:i < m1.delta.events.length:=by have:=of_decide_eq_true hc4;omega
      obtain⟨x,hx⟩:∃ x,m1.delta.events[i]?=some x:=⟨_,List.getElem?_eq_getElem hi⟩
      have hx2:(List.map TEvent.e m1.delta.events)[i]?=some (TEvent.e x):=by rw[List.getElem?_map,hx];rfl
      have hel:=hS.2.2.2.2.1;have hxl:=hS.2.2.2.2.2 x (List.mem_of_getElem? hx);refine PWc.skip ?_;refine PWc.seq ?_;refine PWc.block ?_;refine PWc.seq ?_;refine PWc.region ?_;refine PWl.step (LR.move rfl) rfl ?_;refine PWl.step (LR.assign rfl) rfl ?_;refine PWl.nil ?_;refine PWc.seq ?_;refine PWc.region ?_;refine PWl.step (LR.fieldRef Tryz.underlying30 rfl Tryz.sizeOf28 (by decide) rfl rfl) rfl ?_;refine PWl.step (LR.fieldRef Tryz.underlying28 rfl Tryz.sizeOf26 (by decide) rfl rfl) rfl ?_;refine PWl.step (LR.loadRef Tryz.isAgg26 rfl rfl rfl) rfl ?_;refine PWl.step (LR.move rfl) rfl ?_;refine PWl.step (LR.idxSp Tryz.underlying26 Tryz.sizeOf44 rfl rfl rfl hx2 rfl) rfl ?_;refine PWl.step (LR.fieldSq Tryz.underlying44 rfl Tryz.sizeOf9 (by decide) rfl rfl) rfl ?_;refine PWl.step (LR.storeSpS hSK rfl Tryz.sizeOf9 rfl rfl rfl) rfl ?_;refine PWl.nil ?_;refine PWc.seq ?_;refine PWc.region ?_;refine PWl.step (LR.fieldRef Tryz.underlying30 rfl Tryz.sizeOf28 (by decide) rfl rfl) rfl ?_;refine PWl.step (LR.fieldRef Tryz.underlying28 rfl Tryz.sizeOf26 (by decide) rfl rfl) rfl ?_;refine PWl.step (LR.loadRef Tryz.isAgg26 rfl rfl rfl) rfl ?_;refine PWl.step (LR.move rfl) rfl ?_;refine PWl.step (LR.idxSp Tryz.underlying26 Tryz.sizeOf44 rfl rfl rfl hx2 rfl) rfl ?_;refine PWl.step (LR.fieldSq Tryz.underlying44 rfl Tryz.sizeOf42 (by decide) rfl rfl) rfl ?_;refine PWl.step (LR.loadSq Tryz.isAgg42 rfl rfl) rfl ?_;refine PWl.step (LR.lenSp Tryz.underlying42 rfl) rfl ?_;refine PWl.step (LR.move rfl) rfl ?_;refine PWl.nil ?_;refine PWc.jn (m:=M.loop (cntB x.kills.length) 0) (N:=fun _=>True) (cnt_wp _ trivial 0) (fun(_:Unit) (_:Unit)=>⟨130,[(1,.d (.v p1)),(3,.d (.v p3)),(4,.ref 4 0),(75,.d (.v (.int .i64 (m1.delta.events.length:Int)))),(76,.d (.v (.int .i64 (i:Int))))],[(4,.cells 30 ((TMsg.F m1 (.sp anyB)).map .d))]⟩) (fun h5=>?_) ?_ (fun t u hs q=>PWc.sub hs q)
      ·refine PWc.block ?_;refine PWc.loopM (fun(q:Nat) (_:Unit)=>⟨130,[(1,.d (.v p1)),(3,.d (.v p3)),(4,.ref 4 0),(75,.d (.v (.int .i64 (m1.delta.events.length:Int)))),(76,.d (.v (.int .i64 (i:Int)))),(9,.d (.v (.int .i64 (i:Int)))),(92,.d (.v (.int .i64 (x.kills.length:Int)))),(93,.d (.v (.int .i64 (q:Int))))],[(4,.cells 30 ((TMsg.F m1 (.sp anyB)).map .d))]⟩) () h5 (Sub.of rfl (.cons rfl rfl<|.cons rfl rfl<|.cons rfl rfl<|.cons rfl rfl<|.cons rfl rfl<|.cons rfl rfl<|.cons rfl (by simp)<|.cons rfl rfl<|.nil) (.cons rfl rfl<|.nil)) ?_;rintro N5 q _ h5;refine PWc.seq ?_;refine PWc.region ?_;refine PWl.step (LR.lss rfl rfl) rfl ?_;refine PWl.nil ?_;refine PWc.seq ?_;refine PWc.cond rfl (fun hc5=>?_) (fun hc5=>?_)
       ·replace h5:N5 (q+1):=by have:=iT hc5 h5;exact this
        have hq:q < x.kills.length:=by have:=of_decide_eq_true hc5;omega
        obtain⟨y,hy⟩:∃ y,x.kills[q]?=some y:=⟨_,List.getElem?_eq_getElem hq⟩
        have hy2:(List.map TDot.e x.kills)[q]?=some (TDot.e y):=by rw[List.getElem?_map,hy];rfl
        refine PWc.skip ?_;refine PWc.seq ?_;refine PWc.block ?_;refine PWc.seq ?_;refine PWc.region ?_;refine PWl.step (LR.move rfl) rfl ?_;refine PWl.step (LR.assign rfl) rfl ?_;refine PWl.nil ?_;refine PWc.region ?_;refine PWl.step (LR.fieldRef Tryz.underlying30 rfl Tryz.sizeOf28 (by decide) rfl rfl) rfl ?_;refine PWl.step (LR.fieldRef Tryz.underlying28 rfl Tryz.sizeOf26 (by decide) rfl rfl) rfl ?_;refine PWl.step (LR.loadRef Tryz.isAgg26 rfl rfl rfl) rfl ?_;refine PWl.step (LR.move rfl) rfl ?_;refine PWl.step (LR.idxSp Tryz.underlying26 Tryz.sizeOf44 rfl rfl rfl hx2 rfl) rfl ?_;refine PWl.step (LR.fieldSq Tryz.underlying44 rfl Tryz.sizeOf42 (by decide) rfl rfl) rfl ?_;refine PWl.step (LR.loadSq Tryz.isAgg42 rfl rfl) rfl ?_;refine PWl.step (LR.move rfl) rfl ?_;refine PWl.step (LR.idxSp Tryz.underlying42 Tryz.sizeOf41 rfl rfl rfl hy2 rfl) rfl ?_;refine PWl.step (LR.fieldSq Tryz.underlying41 rfl Tryz.sizeOf22 (by decide) rfl rfl) rfl ?_;refine PWl.step (LR.loadSq Tryz.isAgg22 rfl rfl) rfl ?_;refine PWl.step (LR.addSp rfl rfl) rfl ?_;refine PWl.step (LR.idxSp Tryz.underlying42 Tryz.sizeOf41 rfl rfl rfl hy2 rfl) rfl ?_;refine PWl.step (LR.fieldSq Tryz.underlying41 rfl Tryz.sizeOf22 (by decide) rfl rfl) rfl ?_;refine PWl.step (LR.storeSpI hSK rfl Tryz.sizeOf22 rfl rfl rfl) rfl ?_;refine PWl.nil ?_;refine PWc.region ?_;refine PWl.step (LR.addW rfl rfl) rfl ?_;refine PWl.step (LR.move rfl) rfl ?_;refine PWl.nil ?_;exact⟨q+1,(),h5,Sub.of rfl (.cons rfl rfl<|.cons rfl rfl<|.cons rfl rfl<|.cons rfl rfl<|.cons rfl rfl<|.cons rfl rfl<|.cons rfl rfl<|.cons rfl (congrArg (fun z=>PV.d (.v (.int .i64 z))) (wrapN hq hxl))<|.nil) (.cons rfl rfl<|.nil)⟩
       ·refine PWc.exit ?_;exact⟨(),(),trivial,(Sub.of rfl (.cons rfl rfl<|.cons rfl rfl<|.cons rfl rfl<|.cons rfl rfl<|.cons rfl rfl<|.nil) (.cons rfl rfl<|.nil))⟩
      ·rintro _ _ _;refine PWc.region ?_;refine PWl.step (LR.addW rfl rfl) rfl ?_;refine PWl.step (LR.move rfl) rfl ?_;refine PWl.nil ?_;exact⟨i+1,(),h4,Sub.of rfl (.cons rfl rfl<|.cons rfl rfl<|.cons rfl rfl<|.cons rfl rfl<|.cons rfl (congrArg (fun z=>PV.d (.v (.int .i64 z))) (wrapN hi hel))<|.nil) (.cons rfl rfl<|.nil)⟩
     ·refine PWc.exit ?_;exact⟨(),(),trivial,(Sub.of rfl (.cons rfl rfl<|.cons rfl rfl<|.cons rfl rfl<|.nil) (.cons rfl rfl<|.nil))⟩
    ·rintro _ _ _;refine⟨rfl,fun a w hr=>?_⟩;have hr3:=back a w (Sub.of (tl:=[(1,.d (.v p1)),(3,.d (.v p3))]) (to:=[]) rfl (.cons rfl rfl<|.cons rfl rfl<|.nil) .nil a w hr);have hr4:=unmarkO (flMsg m1) (id:=3) rfl a w (unmarkO (flMsg m1) (id:=1) rfl a w hr3);refine(?_:PWc Tryz.prog ctx _ _ _) a w hr4;refine PWc.re (tl:=[(1,.ref 1 0),(3,.ref 3 0)]) (to:=[(1,.cells 30 ((TMsg.F m1 fun x=>x).map .d)),(3,.cells 30 ((TMsg.F m1 fun x=>x).map .d))]) rfl (.cons rfl rfl<|.cons rfl rfl<|.nil) (.cons rfl rfl<|.cons rfl rfl<|.nil) ?_;refine PWc.seq ?_;refine PWc.regionD (by kernel_rfl) (by kernel_rfl) ?_;refine PQl.step (fun _ he ho=>LR.loadRefAgg (ps:=[_,_,_,_,_,_,_,_,_,_,_]) Tryz.isAgg30 Tryz.sizeOf30 (he rfl rfl) (ho rfl) rfl rfl) rfl ?_;refine PQl.step (fun _ he ho=>LR.loadRefAgg (ps:=[_,_,_,_,_,_,_,_,_,_,_]) Tryz.isAgg30 Tryz.sizeOf30 (he rfl rfl) (ho rfl) rfl rfl) rfl ?_;replace h:=iDet h;obtain⟨v1,hy1,h⟩:=h;refine PQl.step (fun _ he ho=>LR.callN (r27_Same_ok m1 m1 v1 hy1) (he rfl rfl) Tryz.call7 (evsE he rfl rfl) rfl rfl rfl) rfl ?_;refine PQl.step (fun _ he ho=>LR.move (he rfl rfl)) rfl ?_;obtain⟨rfl,h⟩:=h;refine PQl.guardT (fun _ he ho=>LR.loadRefAgg (ps:=[_,_,_,_,_,_,_,_,_,_,_]) Tryz.isAgg30 Tryz.sizeOf30 (he rfl rfl) (ho rfl) rfl rfl) rfl rfl rfl ?_;refine PQl.guardT (fun _ he ho=>LR.loadRefAgg (ps:=[_,_,_,_,_,_,_,_,_,_,_]) Tryz.isAgg30 Tryz.sizeOf30 (he rfl rfl) (ho rfl) rfl rfl) rfl rfl rfl ?_;replace h:=iDet h;obtain⟨v2,hy2,h⟩:=h;refine PQl.guardT (fun _ he ho=>LR.callN (msg_Same_ok m1 m1 v2 hy2) (he rfl rfl) Tryz.call8 (evsE he rfl rfl) rfl rfl rfl) rfl rfl rfl ?_;obtain⟨rfl,h⟩:=h;refine PQl.step (fun _ he ho=>LR.pickT (he rfl rfl) (he rfl rfl)) rfl ?_;refine PQl.step (fun _ he ho=>LR.move (he rfl rfl)) rfl ?_;refine PQl.guardT (fun _ he ho=>LR.loadRefAgg (ps:=[_,_,_,_,_,_,_,_,_,_,_]) Tryz.isAgg30 Tryz.sizeOf30 (he rfl rfl) (ho rfl) rfl rfl) rfl rfl rfl ?_;replace h:=iDet h;obtain⟨v3,hy3,h⟩:=h;refine PQl.guardT (fun _ he ho=>LR.callN (msg_Good_ok m1 v3 hy3) (he rfl rfl) Tryz.call9 (evsE he rfl rfl) rfl rfl rfl) rfl rfl rfl ?_;refine PQl.guardT (fun _ he ho=>LR.loadRefAgg (ps:=[_,_,_,_,_,_,_,_,_,_,_]) Tryz.isAgg30 Tryz.sizeOf30 (he rfl rfl) (ho rfl) rfl rfl) rfl rfl rfl ?_;replace h:=iDet h;obtain⟨v4,hy4,h⟩:=h;refine PQl.guardT (fun _ he ho=>LR.callN (r27_Good_ok m1 v4 hy4) (he rfl rfl) Tryz.call10 (evsE he rfl rfl) rfl rfl rfl) rfl rfl rfl ?_;obtain⟨rfl,h⟩:=h;replace h:=iDet h;obtain⟨v5,hy5,h⟩:=h;replace h:_=_:=h;subst h
     cases v3
     all_goals
      refine PQl.guardT (fun _ he ho=>LR.eqlBool Tryz.underlying4 (he rfl rfl) (he rfl rfl)) rfl rfl rfl ?_;refine PQl.step (fun _ he ho=>LR.pickT (he rfl rfl) (he rfl rfl)) rfl ?_;refine PQl.step (fun _ he ho=>LR.move (he rfl rfl)) rfl ?_;refine PQl.guardT (fun _ he ho=>LR.callN (l27_works_ok v5 hy5) (he rfl rfl) Tryz.call5 (evsE he rfl rfl) rfl rfl rfl) rfl rfl rfl ?_;refine PQl.step (fun _ he ho=>LR.pickT (he rfl rfl) (he rfl rfl)) rfl ?_;refine PQl.step (fun _ he ho=>LR.assign (he rfl rfl)) rfl ?_;refine PQl.nil ?_;refine PWc.ret ?_;exact⟨.inr rfl,_,.cons (.tmp rfl rfl) .nil,rfl⟩
end Go.Proofs
namespace Go.Ep
open Go
theorem wI64{n:Int}(h:-9223372036854775808 ≤ n)(h':n ≤ 9223372036854775807):IntKind.i64.wrap n=n:=by simp[IntKind.wrap,IntKind.bits,IntKind.signed];omega
theorem wU64{n:Int}(h:0 ≤ n)(h':n ≤ 18446744073709551615):IntKind.u64.wrap n=n:=by simp[IntKind.wrap,IntKind.bits,IntKind.signed];omega
theorem wU16{n:Int}(h:0 ≤ n)(h':n ≤ 65535):IntKind.u16.wrap n=n:=by simp[IntKind.wrap,IntKind.bits,IntKind.signed];omega
theorem wSucc{i:Nat}(h:i < 9223372036854775807):IntKind.i64.wrap ((i:Int)+1)=((i+1:Nat):Int):=by rw[wI64 (by omega) (by omega)];rfl
namespace M
variable{α β σ ρ τ ε:Type}
theorem cond_dec(p:Prop)[Decidable p](x y:M α):cond (decide p) x y=if p then x else y:=by by_cases h:p <;> simp[h]
theorem loopL{body:σ → M (Step σ ρ)}(l:List ε)(mk:Nat → τ → σ)(f:τ → ε → τ)(g:τ → M ρ)
  (I:Nat → τ → Prop) (h1:∀ (i:Nat) (x:ε) (t:τ),l[i]?=some x → i < l.length → I i t → body (mk i t)=pure (.next (mk (i+1) (f t x))) ∧ I (i+1) (f t x))
  (h2:∀ t,I l.length t → body (mk l.length t)=(g t).bind fun r=>pure (.done r)) (t0:τ) (h0:I 0 t0):loop body (mk 0 t0)=g (l.foldl f t0):=by
 have key:∀ k i t,i+k=l.length → I i t → loop body (mk i t)=g ((l.drop i).foldl f t):=by
  intro k
  induction k with
  | zero=>
   intro i t hi hI;have:i=l.length:=by omega
   subst this;rw[loop_eq,h2 t hI,List.drop_length]
   rfl
  | succ k ih=>
   intro i t hi hI;have hlt:i < l.length:=by omega
   obtain⟨h3,h4⟩:=h1 i l[i] t (List.getElem?_eq_getElem hlt) hlt hI;rw[loop_next h3,ih (i+1) _ (by omega) h4,List.drop_eq_getElem_cons hlt]
   rfl
 simpa using key l.length 0 t0 (by omega) h0
theorem loopF{body:σ → M (Step σ ρ)}(l:List ε)(mk:Nat → σ)(p:Nat → ε → Bool)(r:Nat → ε → ρ)(d:M ρ)
  (h1:∀ (i:Nat) (x:ε),l[i]?=some x → i < l.length → body (mk i)=if p i x then pure (.done (r i x)) else pure (.next (mk (i+1))))
  (h2:body (mk l.length)=d.bind fun r=>pure (.done r)):loop body (mk 0)=match (l.zipIdx).find? (fun y=>p y.2 y.1) with | some y=>pure (r y.2 y.1) | none=>d:=by
 have key:∀ k i,i+k=l.length → loop body (mk i)=match ((l.drop i).zipIdx i).find? (fun y=>p y.2 y.1) with | some y=>pure (r y.2 y.1) | none=>d:=by
  intro k
  induction k with
  | zero=>
   intro i hi;have:i=l.length:=by omega
   subst this;rw[loop_eq,h2,List.drop_length]
   rfl
  | succ k ih=>
   intro i hi;have hlt:i < l.length:=by omega
   have h3:=h1 i l[i] (List.getElem?_eq_getElem hlt) hlt;rw[List.drop_eq_getElem_cons hlt,List.zipIdx_cons,List.find?_cons]
   by_cases hp:p i l[i]=true
   ·rw[if_pos hp] at h3;rw[loop_done h3];simp[hp]
   ·rw[if_neg hp] at h3;rw[loop_next h3,ih (i+1) (by omega)];simp[hp]
 simpa using key l.length 0 (by omega)
theorem loopAll{body:σ → M (Step σ ρ)}(l:List ε)(mk:Nat → σ)(p:Nat → ε → Bool)(r1 r2:ρ)
  (h1:∀ (i:Nat) (x:ε),l[i]?=some x → i < l.length → body (mk i)=if p i x then pure (.next (mk (i+1))) else pure (.done r2))
  (h2:body (mk l.length)=pure (.done r1)):loop body (mk 0)=pure (if l.zipIdx.all (fun y=>p y.2 y.1) then r1 else r2):=by
 have key:∀ k i,i+k=l.length → loop body (mk i)=pure (if ((l.drop i).zipIdx i).all (fun y=>p y.2 y.1) then r1 else r2):=by
  intro k
  induction k with
  | zero=>
   intro i hi;have:i=l.length:=by omega
   subst this;rw[loop_done h2,List.drop_length]
   rfl
  | succ k ih=>
   intro i hi;have hlt:i < l.length:=by omega
   have h3:=h1 i l[i] (List.getElem?_eq_getElem hlt) hlt;rw[List.drop_eq_getElem_cons hlt,List.zipIdx_cons,List.all_cons]
   by_cases hp:p i l[i]=true
   ·rw[if_pos hp] at h3;rw[loop_next h3,ih (i+1) (by omega),hp,Bool.true_and]
   ·rw[if_neg hp] at h3;rw[loop_done h3];simp[hp]
 have:=key l.length 0 (by omega);rw[List.drop_zero] at this;exact this
def came{ε:Type}(m:List ε)(L:List Nat):List ε:=L.filterMap fun i=>m[i]?
theorem came_snoc{m:List ε}{L:List Nat}{i:Nat}{y:ε}(h:m[i]?=some y):came m (L++[i])=came m L++[y]:=by simp[came,h]
theorem all_perm{n:Nat}{L:List Nat}(hn:L.Nodup)(hb:∀ i∈L,i < n)(ha:∀ i,i < n → i∈L):L.Perm (List.range n):=by
 refine(List.perm_ext_iff_of_nodup hn List.nodup_range).2 fun i=>?_
 rw[List.mem_range];exact⟨hb i,ha i⟩
theorem came_perm{m:List ε}{L:List Nat}(hn:L.Nodup)(hb:∀ i∈L,i < m.length)(ha:∀ i,i < m.length → i∈L):(came m L).Perm m:=by
 have h1:=(all_perm hn hb ha).filterMap fun i=>m[i]?
 have h2:(List.range m.length).filterMap (fun i=>m[i]?)=m:=by
  apply List.ext_getElem?;intro i;clear h1 hn hb ha;have:(List.range m.length).filterMap (fun i=>m[i]?)=m:=by
   induction m with
   | nil=>rfl
   | cons x r ih=>
    rw[List.length_cons,List.range_succ_eq_map,List.filterMap_cons];simp only[List.getElem?_cons_zero,List.filterMap_map]
    congr 1
  rw[this]
 rw[h2] at h1;exact h1
theorem nodup_len{n:Nat}{L:List Nat}(hn:L.Nodup)(hb:∀ i∈L,i < n):L.length ≤ n:=by
 have:=List.Nodup.length_le_of_subset hn (l₂:=List.range n) (fun i hi=>List.mem_range.2 (hb i hi));simpa using this
theorem full{n:Nat}{L:List Nat}(hn:L.Nodup)(hb:∀ i∈L,i < n)(hl:n ≤ L.length):∀ i,i < n → i∈L:=by
 intro i hi;refine Classical.byContradiction fun hni=>?_
 have:=nodup_len (n:=n) (L:=i::L) (List.nodup_cons.2 ⟨hni,hn⟩) (fun j hj=>by
  rcases List.mem_cons.1 hj with rfl | hj
  ·exact hi
  ·exact hb j hj)
 simp at this;omega
theorem loopM{body:σ → M (Step σ ρ)}(m:List ε)(mk:List Nat → τ → σ)(f:τ → ε → M τ)(g:τ → M ρ)(I:List ε → τ → Prop)(Q:ρ → Prop)
  (hb:∀ L t,(∀ i∈L,i < m.length) → body (mk L t)=need (∀ i∈L,i < m.length) ((nxt m.length L).bind fun o=>match o with
   | none=>(g t).bind fun r=>pure (.done r)
   | some i=>(idx m (Int.ofNat i)).bind fun y=>(f t y).bind fun t'=>pure (.next (mk (L++[i]) t'))))
  (hs:∀ l t y,I l t → l.length < m.length → y∈m → ∃ t',f t y=pure t' ∧ I (l++[y]) t') (he:∀ l t,l.Perm m → I l t → (g t).wp Q) (t0:τ) (h0:I [] t0):(loop body (mk [] t0)).wp Q:=by
 have key:∀ k L t,L.length+k=m.length → L.Nodup → (∀ i∈L,i < m.length) → I (came m L) t → loopP body Q (mk L t):=by
  intro k
  induction k with
  | zero=>
   intro L t hk hn hlt hI;refine loopP_in ?_;rw[hb L t hlt];have hall:∀ i,i < m.length → i∈L:=fun i hi=>full hn hlt (by omega) i hi
   refine⟨hlt,⟨⟨none,hall⟩,fun o ho=>?_⟩⟩
   cases o with
   | none=>
    have:=he _ t (came_perm hn hlt hall) hI;exact this
   | some i=>exact absurd (hall i ho.1) ho.2
  | succ k ih=>
   intro L t hk hn hlt hI;refine loopP_in ?_;rw[hb L t hlt];have hex:∃ i,i < m.length ∧ i∉L:=by
    refine Classical.byContradiction fun hno=>?_
    have hall:∀ i,i < m.length → i∈L:=fun i hi=>Classical.byContradiction fun h=>hno ⟨i,hi,h⟩
    have:=(all_perm hn hlt hall).length_eq;simp at this;omega
   obtain⟨i0,hi0⟩:=hex;refine⟨hlt,⟨⟨some i0,hi0⟩,fun o ho=>?_⟩⟩
   cases o with
   | none=>exact absurd (ho i0 hi0.1) hi0.2
   | some i=>
    have hi:=List.getElem?_eq_getElem ho.1;obtain⟨t',h1,h2⟩:=hs (came m L) t m[i] hI (by have:=List.length_filterMap_le (fun i=>m[i]?) L;unfold came;omega) (List.getElem_mem ho.1);show((idx m (Int.ofNat i)).bind _).wp _;rw[show(Int.ofNat i)=(i:Int) from rfl,idx_nat hi,pure_bind,h1,pure_bind];refine ih (L++[i]) t' (by simp;omega) ?_ ?_ (by rw[came_snoc hi];exact h2)
    ·rw[List.nodup_append];refine⟨hn,by simp,fun a ha b hb'=>?_⟩;rw[List.mem_singleton.1 hb'];intro e;exact ho.2 (e▸ha)
    ·intro j hj;rcases List.mem_append.1 hj with hj | hj
     ·exact hlt j hj
     ·rw[List.mem_singleton.1 hj];exact ho.1
 exact key m.length [] t0 (by simp) List.nodup_nil (by simp) h0
theorem loopN{body:σ → M (Step σ ρ)}(n:Nat)(mk:List Nat → τ → σ)(I:List Nat → τ → Prop)(Q:ρ → Prop)
  (h:∀ L t,I L t → L.Nodup → (∀ i∈L,i < n) → ∃ K:Option Nat → M (Step σ ρ),body (mk L t)=need (∀ i∈L,i < n) ((nxt n L).bind K) ∧ ((∀ i,i < n → i∈L) → (K none).wp (Step.post (fun _=>False) Q)) ∧
   ∀ i,i < n → i∉L → ∃ t',K (some i)=pure (.next (mk (L++[i]) t')) ∧ I (L++[i]) t') (t0:τ) (h0:I [] t0):(loop body (mk [] t0)).wp Q:=by
 have key:∀ k L t,L.length+k=n → L.Nodup → (∀ i∈L,i < n) → I L t → loopP body Q (mk L t):=by
  intro k
  induction k with
  | zero=>
   intro L t hk hn hlt hI;obtain⟨K,h1,h2,h3⟩:=h L t hI hn hlt;refine loopP_in ?_;rw[h1];have hall:∀ i,i < n → i∈L:=full hn hlt (by omega);refine⟨hlt,⟨⟨none,hall⟩,fun o ho=>?_⟩⟩
   cases o with
   | none=>exact(K none).mono (fun a ha=>by cases a with | next s=>exact ha.elim | done r=>exact ha) (h2 hall)
   | some i=>exact absurd (hall i ho.1) ho.2
  | succ k ih=>
   intro L t hk hn hlt hI;obtain⟨K,h1,h2,h3⟩:=h L t hI hn hlt;refine loopP_in ?_;rw[h1];have hex:∃ i,i < n ∧ i∉L:=by
    refine Classical.byContradiction fun hno=>?_
    have hall:∀ i,i < n → i∈L:=fun i hi=>Classical.byContradiction fun h=>hno ⟨i,hi,h⟩
    have:=(all_perm hn hlt hall).length_eq;simp at this;omega
   obtain⟨i0,hi0⟩:=hex;refine⟨hlt,⟨⟨some i0,hi0⟩,fun o ho=>?_⟩⟩
   cases o with
   | none=>exact absurd (ho i0 hi0.1) hi0.2
   | some i=>
    obtain⟨t',h4,h5⟩:=h3 i ho.1 ho.2;show(K (some i)).wp _;rw[h4];refine ih (L++[i]) t' (by simp;omega) ?_ ?_ h5
    ·rw[List.nodup_append];refine⟨hn,by simp,fun a ha b hb'=>?_⟩;rw[List.mem_singleton.1 hb'];intro e;exact ho.2 (e▸ha)
    ·intro j hj;rcases List.mem_append.1 hj with hj | hj
     ·exact hlt j hj
     ·rw[List.mem_singleton.1 hj];exact ho.1
 exact key n [] t0 (by simp) List.nodup_nil (by simp) h0
end M
namespace AL
variable{κ ν:Type}[DecidableEq κ]
theorem get_set(m:List (κ×ν))(k q:κ)(v:ν):get (set m k v) q=if k=q then some v else get m q:=by
 induction m with
 | nil=>simp[set,get]
 | cons x r ih=>
  obtain⟨a,u⟩:=x
  by_cases h:a=k
  ·subst h;simp only[set,if_true,get];split <;> rfl
  ·simp only[set,h,if_false,get,ih]
   by_cases h2:a=q
   ·subst h2;simp[Ne.symm h]
   ·simp[h2]
theorem getZ_set(m:List (κ×ν))(k q:κ)(v z:ν):getZ (set m k v) q z=if k=q then v else getZ m q z:=by
 unfold getZ;rw[get_set];split <;> rfl
theorem keys_set(m:List (κ×ν))(k:κ)(v:ν):(set m k v).map (·.1)=if k∈m.map (·.1) then m.map (·.1) else m.map (·.1)++[k]:=by
 induction m with
 | nil=>simp[set]
 | cons x r ih=>
  obtain⟨a,u⟩:=x
  by_cases h:a=k
  ·subst h;simp[set]
  ·simp only[set,h,if_false,List.map_cons,ih,List.mem_cons,Ne.symm h,false_or]
   split <;> simp
theorem nodup_set{m:List (κ×ν)}(h:(m.map (·.1)).Nodup)(k:κ)(v:ν):((set m k v).map (·.1)).Nodup:=by
 rw[keys_set]
 split
 ·exact h
 ·rename_i hk
  rw[List.nodup_append];refine⟨h,by simp,fun a ha b hb=>?_⟩;rw[List.mem_singleton.1 hb];intro e;exact hk (e▸ha)
theorem get_none{m:List (κ×ν)}{k:κ}:get m k=none↔k∉m.map (·.1):=by
 induction m with
 | nil=>simp[get]
 | cons x r ih=>
  obtain⟨a,u⟩:=x
  by_cases h:a=k
  ·subst h;simp[get]
  ·simp[get,h,ih,Ne.symm h]
theorem get_mem{m:List (κ×ν)}{k:κ}{v:ν}(h:get m k=some v):(k,v)∈m:=by
 induction m with
 | nil=>simp[get] at h
 | cons x r ih=>
  obtain⟨a,u⟩:=x
  by_cases e:a=k
  ·subst e;simp[get] at h;subst h;simp
  ·simp only[get,e,if_false] at h;exact List.mem_cons_of_mem _ (ih h)
theorem mem_get{m:List (κ×ν)}(hn:(m.map (·.1)).Nodup){k:κ}{v:ν}(h:(k,v)∈m):get m k=some v:=by
 induction m with
 | nil=>simp at h
 | cons x r ih=>
  obtain⟨a,u⟩:=x;simp only[List.map_cons,List.nodup_cons] at hn;rcases List.mem_cons.1 h with e | h
  ·cases e;simp[get]
  ·have:a≠k:=fun e=>hn.1 (e▸List.mem_map.2 ⟨(k,v),h,rfl⟩)
   simp only[get,this,if_false];exact ih hn.2 h
theorem len_set(m:List (κ×ν))(k:κ)(v:ν):(set m k v).length ≤ m.length+1:=by
 induction m with
 | nil=>simp[set]
 | cons x r ih=>
  obtain⟨a,u⟩:=x;unfold set
  split
  ·simp
  ·simpa using ih
end AL
end Go.Ep
namespace Go.Ep.M.V
open Go
def goodD(d:TDot):Bool:=decide (1 ≤ d.dev)&&(decide (1 ≤ d.n)&&decide (d.n ≤ 281474976710655))
theorem goodD_iff{d:TDot}:goodD d=true↔1 ≤ d.dev ∧ 1 ≤ d.n ∧ d.n ≤ 281474976710655:=by simp[goodD]
theorem dot_Good_eq(d:TDot):dot_Good d=pure (goodD d):=by
 unfold dot_Good;rw[cond_pure_and,cond_pure_and,pure_bind];refine congrArg pure ?_;rw[Bool.eq_iff_iff,goodD_iff];simp only[Bool.and_eq_true,decide_eq_true_eq];omega
theorem r07_Good_eq(d:TDot):r07_Good d=pure (goodD d):=by
 unfold r07_Good;rw[cond_pure_and,cond_pure_and,pure_bind];refine congrArg pure ?_;rw[Bool.eq_iff_iff,goodD_iff];simp only[Bool.and_eq_true,decide_eq_true_eq];omega
theorem r07_Same_eq(a b:List TDot)(h:a.length ≤ 1000000000000):r07_Same a b=pure (decide (a=b)):=by
 unfold r07_Same
 by_cases hl:(a.length:Int)=b.length
 ·simp only[hl,decide_true,Bool.not_true,cond_false];have:=loopAll (body:=r07_Same_l0 a b) a (fun i=>(i:Int)) (fun i x=>decide (b[i]?=some x)) (.brk ()) (.ret false) (fun i x hx hi=>by
   have hb:i < b.length:=by omega
   unfold r07_Same_l0;rw[idx_nat hx,idx_nat (List.getElem?_eq_getElem hb),wSucc (by omega)];simp only[pure_bind,List.getElem?_eq_getElem hb,Option.some.injEq];have:decide ((i:Int) < (a.length:Int))=true:=by simpa using hi
   rw[this,cond_true]
   by_cases he:b[i]=x
   ·subst he;simp
   ·rw[if_neg (by simpa using he)];have:(decide (x.dev=b[i].dev)&&decide (x.n=b[i].n))=false:=by
     rw[Bool.eq_false_iff];intro hc;simp at hc;apply he
     cases x;cases hh:b[i];simp_all
    rw[this];rfl) (by
   unfold r07_Same_l0;simp)
  rw[show(0:Int)=((0:Nat):Int) from rfl,this]
  by_cases he:a=b
  ·subst he;rw[if_pos]
   ·simp[pure_bind,exk_brk]
   ·rw[List.all_eq_true];intro ⟨x,i⟩ hx;rw[List.mk_mem_zipIdx_iff_getElem?] at hx;simpa using hx
  ·rw[if_neg]
   ·simp[he,pure_bind,exk_ret]
   ·intro hall;rw[List.all_eq_true] at hall;apply he;apply List.ext_getElem (by omega);intro i h1 h2;have:=hall (a[i],i) (by rw[List.mk_mem_zipIdx_iff_getElem?];exact List.getElem?_eq_getElem h1);simp[h2] at this;exact this.symm
 ·have hne:a≠b:=fun e=>hl (by rw[e])
  simp[hl,hne]
def ofV : List TDot → Int → Int
 | [],_=>0
 | d::r,dev=>if d.dev=dev ∧ goodD d=true then max d.n (ofV r dev) else ofV r dev
theorem ofV_range(v:List TDot)(dev:Int):0 ≤ ofV v dev ∧ ofV v dev ≤ 281474976710655:=by
 induction v with
 | nil=>simp[ofV]
 | cons d r ih=>
  simp only[ofV]
  split
  ·rename_i h;have:=goodD_iff.1 h.2;omega
  ·exact ih
theorem ofV_pos{v:List TDot}{dev:Int}:0 < ofV v dev↔∃ d∈v,d.dev=dev ∧ goodD d=true:=by
 induction v with
 | nil=>simp[ofV]
 | cons d r ih=>
  simp only[ofV,List.mem_cons,exists_eq_or_imp]
  split
  ·rename_i h
   have:=goodD_iff.1 h.2
   constructor
   ·intro _;exact .inl h
   ·intro _;omega
  ·rename_i h
   rw[ih]
   constructor
   ·exact .inr
   ·rintro(hh | hh)
    ·exact absurd hh h
    ·exact hh
def insI : List Int → Int → List Int
 | [],k=>[k]
 | a::r,k=>if k < a then k::a::r else if k=a then a::r else a::insI r k
theorem mem_insI{l:List Int}{k q:Int}:q∈insI l k↔q=k ∨ q∈l:=by
 induction l with
 | nil=>simp[insI]
 | cons a r ih=>
  unfold insI
  split
  ·simp
  ·split
   ·rename_i h;subst h;simp
   ·simp only[List.mem_cons,ih];constructor
    ·rintro(h | h | h) <;> simp[h]
    ·rintro(h | h | h) <;> simp[h]
theorem insI_sorted{l:List Int}(h:l.Pairwise (· < ·))(k:Int):(insI l k).Pairwise (· < ·):=by
 induction l with
 | nil=>simp[insI]
 | cons a r ih=>
  obtain⟨h1,h2⟩:=List.pairwise_cons.1 h;unfold insI
  split
  ·rename_i hk
   refine List.pairwise_cons.2 ⟨fun x hx=>?_,h⟩;rcases List.mem_cons.1 hx with rfl | hx
   ·exact hk
   ·have:=h1 x hx;omega
  ·split
   ·exact h
   ·refine List.pairwise_cons.2 ⟨fun x hx=>?_,ih h2⟩;rcases mem_insI.1 hx with rfl | hx
    ·omega
    ·exact h1 x hx
theorem len_insI(l : List Int)(k : Int) : (insI l k).length ≤ l.length+1 := by
  induction l with
  | nil => simp[insI]
  | cons a r ih => unfold insI; split <;> try split
                   all_goals simp_all
def devStep(l:List Int)(d:TDot):List Int:=if goodD d then insI l d.dev else l
def devsL(v:List TDot):List Int:=v.foldl devStep []
theorem devs_gen(v:List TDot):∀ l:List Int,l.Pairwise (· < ·) → (v.foldl devStep l).Pairwise (· < ·) ∧ (∀ k,k∈v.foldl devStep l↔k∈l ∨ ∃ d∈v,d.dev=k ∧ goodD d=true) ∧ (v.foldl devStep l).length ≤ l.length+v.length:=by
 induction v with
 | nil=>intro l h;simp[h]
 | cons d r ih=>
  intro l h;simp only[List.foldl_cons];unfold devStep
  split
  ·rename_i hg
   obtain⟨h1,h2,h3⟩:=ih _ (insI_sorted h d.dev);refine⟨h1,fun k=>?_,?_⟩
   ·have:=h2 k;unfold devStep at this;rw[this,mem_insI]
    constructor
    ·rintro((rfl | h) | ⟨e,he,h⟩)
     ·exact .inr ⟨d,by simp,rfl,hg⟩
     ·exact .inl h
     ·exact .inr ⟨e,by simp[he],h⟩
    ·rintro(h | ⟨e,he,h⟩)
     ·exact .inl (.inr h)
     ·rcases List.mem_cons.1 he with rfl | he
      ·exact .inl (.inl h.1.symm)
      ·exact .inr ⟨e,he,h⟩
   ·have:=len_insI l d.dev;simp only[List.length_cons];unfold devStep at h3;omega
  ·rename_i hg
   obtain⟨h1,h2,h3⟩:=ih _ h;refine⟨h1,fun k=>?_,?_⟩
   ·have:=h2 k;unfold devStep at this;rw[this]
    constructor
    ·rintro(h | ⟨e,he,h⟩)
     ·exact .inl h
     ·exact .inr ⟨e,by simp[he],h⟩
    ·rintro(h | ⟨e,he,h⟩)
     ·exact .inl h
     ·rcases List.mem_cons.1 he with rfl | he
      ·exact absurd h.2 hg
      ·exact .inr ⟨e,he,h⟩
   ·simp only[List.length_cons];unfold devStep at h3;omega
theorem mem_devs{v:List TDot}{k:Int}:k∈devsL v↔0 < ofV v k:=by rw[ofV_pos];simpa[devsL] using (devs_gen v [] List.Pairwise.nil).2.1 k
def toldStep(m:List (Int×Int))(d:TDot):List (Int×Int):=if goodD d then AL.set m d.dev (max (AL.getZ m d.dev 0) d.n) else m
def toldM(v:List TDot):List (Int×Int):=v.foldl toldStep []
theorem told_gen(v:List TDot):∀ m:List (Int×Int),(m.map (·.1)).Nodup → ((v.foldl toldStep m).map (·.1)).Nodup ∧ ((∀ k,0 ≤ AL.getZ m k 0) → ∀ k,AL.getZ (v.foldl toldStep m) k 0=max (AL.getZ m k 0) (ofV v k)) ∧ (v.foldl toldStep m).length ≤ m.length+v.length ∧ (∀ k,k∈(v.foldl toldStep m).map (·.1) → k∈m.map (·.1) ∨ 0 < ofV v k):=by
 induction v with
 | nil=>
  intro m h;refine⟨h,fun h0 k=>?_,by simp,fun k hk=>.inl hk⟩;have:=h0 k;simp only[List.foldl_nil,ofV];omega
 | cons d r ih=>
  intro m h;simp only[List.foldl_cons]
  by_cases hg:goodD d=true
  ·have hd:=goodD_iff.1 hg;have e:toldStep m d=AL.set m d.dev (max (AL.getZ m d.dev 0) d.n):=by simp[toldStep,hg]
   rw[e];obtain⟨h1,h2,h3,h4⟩:=ih _ (AL.nodup_set h d.dev (max (AL.getZ m d.dev 0) d.n));refine⟨h1,fun h0 k=>?_,?_,fun k hk=>?_⟩
   ·rw[h2 (fun q=>by rw[AL.getZ_set];have:=h0 q;have:=h0 d.dev;split <;> omega),AL.getZ_set];simp only[ofV]
    by_cases hk:d.dev=k
    ·subst hk;simp only[if_true,hg,and_self];omega
    ·simp[hk]
   ·have:=AL.len_set m d.dev (max (AL.getZ m d.dev 0) d.n);simp only[List.length_cons];omega
   ·simp only[ofV];rcases h4 k hk with h5 | h5
    ·rw[AL.keys_set] at h5
     split at h5
     ·exact .inl h5
     ·rcases List.mem_append.1 h5 with h5 | h5
      ·exact .inl h5
      ·right
       rw[List.mem_singleton.1 h5,if_pos ⟨rfl,hg⟩];omega
    ·right;split <;> omega
  ·have e:toldStep m d=m:=by simp[toldStep,hg]
   rw[e];obtain⟨h1,h2,h3,h4⟩:=ih m h;have e2:∀ k,ofV (d::r) k=ofV r k:=fun k=>by simp only[ofV];rw[if_neg (fun hh=>hg hh.2)]
   exact⟨h1,fun h0 k=>by rw[h2 h0,e2],by simp only[List.length_cons];omega,fun k hk=>by rw[e2];exact h4 k hk⟩
theorem told_nodup(v:List TDot):((toldM v).map (·.1)).Nodup:=(told_gen v [] (by simp)).1
theorem told_get(v:List TDot)(k:Int):AL.getZ (toldM v) k 0=ofV v k:=by
 have:=(told_gen v [] (by simp)).2.1 (fun _=>Int.le_refl _) k;have h2:=ofV_range v k;rw[toldM,this];show max 0 (ofV v k)=_;omega
theorem told_mem{v:List TDot}{k n:Int}(h:(k,n)∈toldM v):n=ofV v k ∧ 0 < n:=by
 have h1:=AL.mem_get (told_nodup v) h;have h2:AL.getZ (toldM v) k 0=n:=by simp[AL.getZ,h1]
 rw[told_get] at h2;have h3:=(told_gen v [] (by simp)).2.2.2 k (List.mem_map.2 ⟨_,h,rfl⟩);simp at h3;omega
def updM(h:Int×Int → Int)(m:List (Int×Int))(L:List Nat):List (Int×Int):=m.zipIdx.map fun y=>if y.2∈L then (y.1.1,h y.1) else y.1
theorem updM_get{h:Int×Int → Int}{m:List (Int×Int)}{L:List Nat}{i:Nat}:(updM h m L)[i]?=(m[i]?).map fun e=>if i∈L then (e.1,h e) else e:=by
 unfold updM;rw[List.getElem?_map,List.getElem?_zipIdx]
 cases m[i]? <;> simp
theorem updM_len{h:Int×Int → Int}{m:List (Int×Int)}{L:List Nat}:(updM h m L).length=m.length:=by simp[updM]
theorem set_at{m:List (Int×Int)}(hn:(m.map (·.1)).Nodup){i:Nat}{e:Int×Int}(hi:m[i]?=some e)(v:Int):AL.set m e.1 v=m.set i (e.1,v):=by
 induction m generalizing i with
 | nil=>simp at hi
 | cons x r ih=>
  obtain⟨a,u⟩:=x;simp only[List.map_cons,List.nodup_cons] at hn
  cases i with
  | zero=>simp at hi;subst hi;simp[AL.set]
  | succ i=>
   simp only[List.getElem?_cons_succ] at hi;have:a≠e.1:=fun he=>hn.1 (he▸List.mem_map.2 ⟨e,List.mem_of_getElem? hi,rfl⟩)
   simp only[AL.set,this,if_false,List.set_cons_succ];rw[ih hn.2 hi]
theorem updM_keys{h:Int×Int → Int}{m:List (Int×Int)}{L:List Nat}:(updM h m L).map (·.1)=m.map (·.1):=by
 apply List.ext_getElem?;intro i;rw[List.getElem?_map,updM_get,List.getElem?_map]
 cases m[i]? with
 | none=>rfl
 | some e=>simp only[Option.map_some];split <;> rfl
def cmpD(a b:TDot):Int:=if a=b then 0 else if ltDot a b then -1 else 1
theorem r07_Cmp_eq(a b:TDot):r07_Cmp a b=pure (cmpD a b):=by
 unfold r07_Cmp cmpD;have h1:(decide (a.dev=b.dev)&&decide (a.n=b.n))=decide (a=b):=by
  rw[Bool.eq_iff_iff];cases a;cases b;simp
 have h2:(cond (decide (a.dev < b.dev)) (pure true) (cond (decide (a.dev=b.dev)) (pure (decide (a.n < b.n))) (pure false)):M Bool)=pure (ltDot a b):=by
  rw[cond_pure_and,cond_pure_or];rfl
 rw[h1,h2,cond_dec,pure_bind]
 split
 ·rfl
 ·cases ltDot a b <;> rfl
theorem cmpD_neg{a b:TDot}:cmpD a b < 0↔ltDot a b=true:=by
 unfold cmpD
 split
 ·rename_i h;subst h;simp[ltDot]
 ·split <;> simp_all
theorem cmpD_pos{a b:TDot}:0 < cmpD a b↔ltDot b a=true:=by
 unfold cmpD
 by_cases h:a=b
 ·subst h;simp[ltDot]
 ·rw[if_neg h]
  cases a;cases b
  simp only[TDot.mk.injEq] at h;simp only[ltDot,Bool.or_eq_true,Bool.and_eq_true,decide_eq_true_eq]
  split <;> omega
theorem r07_Put_eq(l:List TDot)(d:TDot)(h:l.length ≤ 1000000000000):r07_Put l d=pure ((l.filter fun x=>ltDot x d)++[d]++(l.filter fun x=>ltDot d x)):=by
 unfold r07_Put;have c0:∀ o:List TDot,o.length ≤ 1000000000000 → True:=fun _ _=>trivial
 have h1:=loopL (body:=r07_Put_l0 l d) l (fun i (o:List TDot)=>((i:Int),o)) (fun o x=>if ltDot x d then o++[x] else o) (fun o=>pure o) (fun i o=>o.length ≤ i) (fun i x o hx hi ho=>by
  have h1:decide ((i:Int) < (l.length:Int))=true:=by simpa using hi
  unfold r07_Put_l0;simp only[h1,cond_true,idx_nat hx,pure_bind,r07_Cmp_eq,det_pure,wSucc (show i < 9223372036854775807 by omega),cond_dec,cmpD_neg]
  split
  ·rw[need_true (by simp;omega)];exact⟨rfl,by simp;omega⟩
  ·exact⟨rfl,by omega⟩) (fun o _=>by unfold r07_Put_l0;simp[pure_bind]) [] (by simp)
 have h2:∀ o0:List TDot,o0.length ≤ 1000000000001 → loop (r07_Put_l1 l d) (0,o0)=pure (l.foldl (fun o x=>if ltDot d x then o++[x] else o) o0):=fun o0 ho0=>by
  have:=loopL (body:=r07_Put_l1 l d) l (fun i (o:List TDot)=>((i:Int),o)) (fun o x=>if ltDot d x then o++[x] else o) (fun o=>pure o) (fun i o=>o.length ≤ o0.length+i) (fun i x o hx hi ho=>by
   have h1:decide ((i:Int) < (l.length:Int))=true:=by simpa using hi
   unfold r07_Put_l1;simp only[h1,cond_true,idx_nat hx,pure_bind,r07_Cmp_eq,det_pure,wSucc (show i < 9223372036854775807 by omega),cond_dec,cmpD_pos]
   split
   ·rw[need_true (by simp;omega)];exact⟨rfl,by simp;omega⟩
   ·exact⟨rfl,by omega⟩) (fun o _=>by unfold r07_Put_l1;simp[pure_bind]) o0 (by simp)
  exact this
 have hf:∀ (p:TDot → Bool) (l o:List TDot),l.foldl (fun o x=>if p x then o++[x] else o) o=o++l.filter p:=by
  intro p l
  induction l with
  | nil=>simp
  | cons x r ih=>
   intro o;rw[List.foldl_cons,ih,List.filter_cons]
   split <;> simp
 rw[show((0:Int),([]:List TDot))=(((0:Nat):Int),[]) from rfl,h1,hf,pure_bind,need_true,h2,hf,pure_bind]
 ·rfl
 ·have:=List.length_filter_le (fun x=>ltDot x d) l;simp;omega
 ·have:=List.length_filter_le (fun x=>ltDot x d) l;simp;omega
def ones(l:List Int):List TDot:=l.map fun k=>⟨k,1⟩
theorem put_ones{l:List Int}(h:l.Pairwise (· < ·))(k:Int):((ones l).filter fun x=>ltDot x ⟨k,1⟩)++[⟨k,1⟩]++((ones l).filter fun x=>ltDot ⟨k,1⟩ x)=ones (insI l k):=by
 induction l with
 | nil=>rfl
 | cons a r ih=>
  obtain⟨h1,h2⟩:=List.pairwise_cons.1 h;have i2:=ih h2;unfold insI
  by_cases c1:k < a
  ·rw[if_pos c1];have e1:(ones (a::r)).filter (fun x=>ltDot x ⟨k,1⟩)=[]:=by
    rw[List.filter_eq_nil_iff];intro x hx;simp only[ones,List.map_cons,List.mem_cons,List.mem_map] at hx;rcases hx with rfl | ⟨b,hb,rfl⟩
    ·simp[ltDot];omega
    ·have:=h1 b hb;simp[ltDot];omega
   have e2:(ones (a::r)).filter (fun x=>ltDot ⟨k,1⟩ x)=ones (a::r):=by
    rw[List.filter_eq_self];intro x hx;simp only[ones,List.map_cons,List.mem_cons,List.mem_map] at hx;rcases hx with rfl | ⟨b,hb,rfl⟩
    ·simp[ltDot];omega
    ·have:=h1 b hb;simp[ltDot];omega
   rw[e1,e2];rfl
  ·rw[if_neg c1]
   by_cases c2:k=a
   ·subst c2;rw[if_pos rfl];have e1:(ones (k::r)).filter (fun x=>ltDot x ⟨k,1⟩)=[]:=by
     rw[List.filter_eq_nil_iff];intro x hx;simp only[ones,List.map_cons,List.mem_cons,List.mem_map] at hx;rcases hx with rfl | ⟨b,hb,rfl⟩
     ·simp[ltDot]
     ·have:=h1 b hb;simp[ltDot];omega
    have e2:(ones (k::r)).filter (fun x=>ltDot ⟨k,1⟩ x)=ones r:=by
     show List.filter _ (⟨k,1⟩::ones r)=_;rw[List.filter_cons,if_neg (by simp[ltDot]),List.filter_eq_self];intro x hx;simp only[ones,List.mem_map] at hx;obtain⟨b,hb,rfl⟩:=hx;have:=h1 b hb;simp[ltDot];omega
    rw[e1,e2];rfl
   ·rw[if_neg c2];show(List.filter _ (⟨a,1⟩::ones r))++_++(List.filter _ (⟨a,1⟩::ones r))=⟨a,1⟩::ones (insI r k);rw[List.filter_cons,if_pos (by simp[ltDot];omega),List.filter_cons,if_neg (by simp[ltDot];omega),← i2]
    rfl
theorem equal_eq(a b:List TDot)(h:a.length ≤ 1000000000000):slices_Equal_sl_Dot_Dot a b=pure (decide (a=b)):=by
 have e:slices_Equal_sl_Dot_Dot a b=r07_Same a b:=rfl;rw[e,r07_Same_eq a b h]
theorem dot_Same_eq(a b:List TDot)(h:a.length ≤ 1000000000000):dot_Same a b=pure (decide (a=b)):=by
 unfold dot_Same;rw[equal_eq a b h,det_pure,pure_bind]
end Go.Ep.M.V
namespace Go.Ep.M.R
open Go
def mayR(x:TRun):Bool:=decide (1 ≤ x.lo)&&(decide (x.lo ≤ x.hi)&&decide (x.hi ≤ 281474976710655))
theorem mayR_iff{x:TRun}:mayR x=true↔1 ≤ x.lo ∧ x.lo ≤ x.hi ∧ x.hi ≤ 281474976710655:=by simp[mayR]
def inR(n:Int)(x:TRun):Bool:=mayR x&&(decide (x.lo ≤ n)&&decide (n ≤ x.hi))
theorem inR_iff{n:Int}{x:TRun}:inR n x=true↔(1 ≤ x.lo ∧ x.lo ≤ x.hi ∧ x.hi ≤ 281474976710655) ∧ x.lo ≤ n ∧ n ≤ x.hi:=by simp[inR,mayR]
def hasR(l:List TRun)(n:Int):Bool:=l.any (inR n)
theorem hasR_iff{l:List TRun}{n:Int}:hasR l n=true↔∃ x∈l,mayR x=true ∧ x.lo ≤ n ∧ n ≤ x.hi:=by
 unfold hasR;rw[List.any_eq_true];simp[inR]
@[simp] theorem hasR_nil(n:Int):hasR [] n=false:=rfl
theorem hasR_cons(x:TRun)(l:List TRun)(n:Int):hasR (x::l) n=(inR n x||hasR l n):=rfl
theorem hasR_app(a b:List TRun)(n:Int):hasR (a++b) n=(hasR a n||hasR b n):=by simp[hasR]
theorem hasR_one(x:TRun)(n:Int):hasR [x] n=inR n x:=by simp[hasR]
theorem hasR_perm{a b:List TRun}(h:a.Perm b)(n:Int):hasR a n=hasR b n:=by
 rw[Bool.eq_iff_iff,hasR_iff,hasR_iff];simp only[h.mem_iff]
theorem hasR_filter(l:List TRun)(n:Int):hasR (l.filter mayR) n=hasR l n:=by
 rw[Bool.eq_iff_iff,hasR_iff,hasR_iff];simp only[List.mem_filter];exact⟨fun⟨x,⟨h1,_⟩,h3⟩=>⟨x,h1,h3⟩,fun⟨x,h1,h2,h3⟩=>⟨x,⟨h1,h2⟩,h2,h3⟩⟩
theorem hasR_range{l:List TRun}{n:Int}(h:hasR l n=true):1 ≤ n ∧ n ≤ 281474976710655:=by
 obtain⟨x,_,h2,h3,h4⟩:=hasR_iff.1 h;have:=mayR_iff.1 h2;omega
def Nf : List TRun → Prop
 | []=>True
 | x::r=>mayR x=true ∧ (∀ y∈r,x.hi+1 < y.lo) ∧ Nf r
theorem Nf.may{l:List TRun}(h:Nf l):∀ x∈l,mayR x=true:=by
 induction l with
 | nil=>simp
 | cons y r ih=>
  intro x hx;rcases List.mem_cons.1 hx with rfl | hx
  ·exact h.1
  ·exact ih h.2.2 x hx
theorem nf_snoc{l:List TRun}{z:TRun}:Nf (l++[z])↔Nf l ∧ mayR z=true ∧ ∀ p∈l,p.hi+1 < z.lo:=by
 induction l with
 | nil=>simp[Nf]
 | cons x r ih=>
  simp only[List.cons_append,Nf,ih,List.mem_append,List.mem_cons,List.not_mem_nil,or_false]
  constructor
  ·rintro⟨h1,h2,h3,h4,h5⟩;refine⟨⟨h1,fun y hy=>h2 y (.inl hy),h3⟩,h4,fun p hp=>?_⟩;rcases hp with rfl | hp
   ·exact h2 z (.inr rfl)
   ·exact h5 p hp
  ·rintro⟨⟨h1,h2,h3⟩,h4,h5⟩;refine⟨h1,fun y hy=>?_,h3,h4,fun p hp=>h5 p (.inr hp)⟩;rcases hy with hy | rfl
   ·exact h2 y hy
   ·exact h5 x (.inl rfl)
theorem nf_low{x:TRun}{r:List TRun}(h:Nf (x::r)){n:Int}(hn:hasR r n=true):x.hi+1 < n:=by
 obtain⟨y,h1,_,h3,_⟩:=hasR_iff.1 hn;have:=h.2.1 y h1;omega
theorem nf_head{x:TRun}{r:List TRun}(h:Nf (x::r)):hasR (x::r) x.lo=true:=by
 rw[hasR_cons];have:=mayR_iff.1 h.1;rw[Bool.or_eq_true];exact .inl (inR_iff.2 ⟨this,by omega,by omega⟩)
theorem nf_least{x:TRun}{r:List TRun}(h:Nf (x::r)){n:Int}(hn:hasR (x::r) n=true):x.lo ≤ n:=by
 rw[hasR_cons,Bool.or_eq_true] at hn;rcases hn with hn | hn
 ·exact(inR_iff.1 hn).2.1
 ·have:=nf_low h hn;have:=mayR_iff.1 h.1;omega
theorem nf_hi{x:TRun}{r:List TRun}(h:Nf (x::r)){n:Int}(h1:x.lo ≤ n):hasR (x::r) n=true↔n ≤ x.hi ∨ hasR r n=true:=by
 rw[hasR_cons,Bool.or_eq_true,inR_iff];have:=mayR_iff.1 h.1
 constructor
 ·rintro(h2 | h2)
  ·exact .inl h2.2.2
  ·exact .inr h2
 ·rintro(h2 | h2)
  ·exact .inl ⟨this,h1,h2⟩
  ·exact .inr h2
theorem nf_ext : ∀ {a b:List TRun},Nf a → Nf b → (∀ n,hasR a n=hasR b n) → a=b
 | [],[],_,_,_=>rfl
 | [],y::s,_,hb,h=>by have:=h y.lo;rw[nf_head hb] at this;simp at this
 | x::r,[],ha,_,h=>by have:=h x.lo;rw[nf_head ha] at this;simp at this
 | x::r,y::s,ha,hb,h=>by
  have h1:x.lo=y.lo:=by
   have h2:=nf_least hb (by rw[← h];exact nf_head ha);have h3:=nf_least ha (by rw[h];exact nf_head hb);omega
  have hx:=mayR_iff.1 ha.1;have hy:=mayR_iff.1 hb.1;have hle:∀ {x y:TRun} {r s:List TRun},Nf (x::r) → Nf (y::s) → (∀ n,hasR (x::r) n=hasR (y::s) n) → x.lo=y.lo → y.hi ≤ x.hi:=by
   intro x y r s ha hb h h1;have hx:=mayR_iff.1 ha.1;refine Classical.byContradiction fun hc=>?_
   have h2:hasR (y::s) (x.hi+1)=true:=(nf_hi hb (by omega)).2 (.inl (by omega));rw[← h,nf_hi ha (by omega)] at h2;rcases h2 with h2 | h2
   ·omega
   ·have:=nf_low ha h2;omega
  have h2:x.hi=y.hi:=by
   have:=hle ha hb h h1;have:=hle hb ha (fun n=>(h n).symm) h1.symm;omega
  have he:x=y:=by cases x;cases y;simp_all
  subst he;rw[nf_ext ha.2.2 hb.2.2 fun n=>?_];rw[Bool.eq_iff_iff];have h3:=h n
  constructor
  ·intro hn;have:=nf_low ha hn;have h4:hasR (x::r) n=true:=(nf_hi ha (by omega)).2 (.inr hn);rw[h3,nf_hi hb (by omega)] at h4;rcases h4 with h4 | h4
   ·omega
   ·exact h4
  ·intro hn;have:=nf_low hb hn;have h4:hasR (x::s) n=true:=(nf_hi hb (by omega)).2 (.inr hn);rw[← h3,nf_hi ha (by omega)] at h4;rcases h4 with h4 | h4
   ·omega
   ·exact h4
def putS(n:Int)(s:Bool×List Int)(x:Int):Bool×List Int:=
 let t:=if s.1=false ∧ n ≤ x then (true,s.2++[n]) else s
 if x=n then t else (t.1,t.2++[x])
def putP(l:List Int)(n:Int):List Int:=let t:=l.foldl (putS n) (false,[]);if t.1 then t.2 else t.2++[n]
abbrev Up(l:List Int):Prop:=l.Pairwise (· < ·)
theorem up_snoc{l:List Int}{z:Int}:Up (l++[z])↔Up l ∧ ∀ p∈l,p < z:=by
 unfold Up;rw[List.pairwise_append];simp
theorem putS_inv(n:Int):∀ (l:List Int) (s:Bool×List Int),Up l → Up s.2 → (∀ p∈s.2,∀ x∈l,p < x ∨ (p=n ∧ s.1=true ∧ p ≤ x)) → (s.1=true → n∈s.2) → (s.1=false → ∀ p∈s.2,p < n) →
  Up (l.foldl (putS n) s).2 ∧ (∀ m,m∈(l.foldl (putS n) s).2↔m∈s.2 ∨ (m∈l ∧ m≠n) ∨ (m=n ∧ (l.foldl (putS n) s).1=true)) ∧ ((l.foldl (putS n) s).1=false → ∀ p∈(l.foldl (putS n) s).2,p < n) ∧ (l.foldl (putS n) s).2.length ≤ s.2.length+l.length+(if s.1 then 0 else 1) ∧ ((l.foldl (putS n) s).1=false → (l.foldl (putS n) s).2.length ≤ s.2.length+l.length)
 | [],s,_,hs,_,h2,h3=>by
  refine⟨hs,fun m=>?_,h3,by simp,by simp⟩;simp only[List.foldl_nil,List.not_mem_nil,false_and,false_or];exact⟨fun h=>.inl h,fun h=>h.elim id fun⟨e,h⟩=>e▸h2 h⟩
 | x::r,(d,out),hl,hs,h1,h2,h3=>by
  rw[List.foldl_cons];have hl':=List.pairwise_cons.1 hl;simp only at hs h1 h2 h3
  by_cases hc:d=false ∧ n ≤ x
  ·obtain⟨rfl,hnx⟩:=hc
   by_cases hx:x=n
   ·have e:putS n (false,out) x=(true,out++[n]):=by simp[putS,hx]
    rw[e];obtain⟨i1,i2,i3,i4,i5⟩:=putS_inv n r (true,out++[n]) hl'.2 (up_snoc.2 ⟨hs,h3 rfl⟩) (fun p hp y hy=>by
     have:=hl'.1 y hy;rcases List.mem_append.1 hp with hp | hp
     ·have:=h3 rfl p hp;left;omega
     ·simp at hp;left;omega) (fun _=>by simp) (fun h=>by cases h)
    refine⟨i1,fun m=>?_,i3,?_,?_⟩
    ·rw[i2];simp only[List.mem_append,List.mem_cons,List.not_mem_nil,or_false]
     constructor
     ·rintro((h | h) | h | h)
      ·exact .inl h
      ·refine .inr (.inr ⟨h,?_⟩)
       cases hb:(r.foldl (putS n) (true,out++[n])).1 with
       | true=>rfl
       | false=>have:=i3 hb n ((i2 n).2 (.inl (by simp)));omega
      ·exact .inr (.inl ⟨.inr h.1,h.2⟩)
      ·exact .inr (.inr h)
     ·rintro(h | ⟨h | h,h'⟩ | h)
      ·exact .inl (.inl h)
      ·exact absurd (h.trans hx) h'
      ·exact .inr (.inl ⟨h,h'⟩)
      ·exact .inr (.inr h)
    ·simp at i4 ⊢;omega
    ·intro hf;have:=i5 hf;simp at this ⊢;omega
   ·have e:putS n (false,out) x=(true,out++[n]++[x]):=by simp[putS,hx,hnx]
    rw[e];obtain⟨i1,i2,i3,i4,i5⟩:=putS_inv n r (true,out++[n]++[x]) hl'.2 (up_snoc.2 ⟨up_snoc.2 ⟨hs,h3 rfl⟩,fun p hp=>by
     rcases List.mem_append.1 hp with hp | hp
     ·have:=h3 rfl p hp;omega
     ·simp at hp;omega⟩) (fun p hp y hy=>by
     have:=hl'.1 y hy;simp only[List.mem_append,List.mem_singleton] at hp;rcases hp with(hp | hp) | hp
     ·have:=h3 rfl p hp;left;omega
     ·left;omega
     ·left;omega) (fun _=>by simp) (fun h=>by cases h)
    refine⟨i1,fun m=>?_,i3,?_,?_⟩
    ·rw[i2];simp only[List.mem_append,List.mem_cons,List.not_mem_nil,or_false]
     constructor
     ·rintro(((h | h) | h) | h | h)
      ·exact .inl h
      ·refine .inr (.inr ⟨h,?_⟩)
       cases hb:(r.foldl (putS n) (true,out++[n]++[x])).1 with
       | true=>rfl
       | false=>have:=i3 hb n ((i2 n).2 (.inl (by simp)));omega
      ·exact .inr (.inl ⟨.inl h,fun e=>hx (h.symm.trans e)⟩)
      ·exact .inr (.inl ⟨.inr h.1,h.2⟩)
      ·exact .inr (.inr h)
     ·rintro(h | ⟨h | h,h'⟩ | h)
      ·exact .inl (.inl (.inl h))
      ·exact .inl (.inr h)
      ·exact .inr (.inl ⟨h,h'⟩)
      ·exact .inr (.inr h)
    ·simp at i4 ⊢;omega
    ·intro hf;have:=i5 hf;simp at this ⊢;exfalso;have:=i3 hf n ((i2 n).2 (.inl (by simp)));omega
  ·by_cases hx:x=n
   ·have hd:d=true:=by cases d with | true=>rfl | false=>exact absurd ⟨rfl,by omega⟩ hc
    subst hd;have e:putS n (true,out) x=(true,out):=by simp[putS,hx]
    rw[e];obtain⟨i1,i2,i3,i4,i5⟩:=putS_inv n r (true,out) hl'.2 hs (fun p hp y hy=>h1 p hp y (List.mem_cons_of_mem _ hy)) h2 h3;refine⟨i1,fun m=>?_,i3,?_,?_⟩
    ·rw[i2];simp only[List.mem_cons]
     constructor
     ·rintro(h | h | h)
      ·exact .inl h
      ·exact .inr (.inl ⟨.inr h.1,h.2⟩)
      ·exact .inr (.inr h)
     ·rintro(h | ⟨h | h,h'⟩ | h)
      ·exact .inl h
      ·exact absurd (h.trans hx) h'
      ·exact .inr (.inl ⟨h,h'⟩)
      ·exact .inr (.inr h)
    ·simp at i4 ⊢;omega
    ·intro hf;have:=i5 hf;simp at this ⊢;omega
   ·have e:putS n (d,out) x=(d,out++[x]):=by
     unfold putS;simp only[hc,if_false,hx]
    rw[e];have hlt:d=false → x < n:=fun h=>by
     have:¬ n ≤ x:=fun h'=>hc ⟨h,h'⟩
     omega
    obtain⟨i1,i2,i3,i4,i5⟩:=putS_inv n r (d,out++[x]) hl'.2 (up_snoc.2 ⟨hs,fun p hp=>by
     rcases h1 p hp x (by simp) with h | h
     ·exact h
     ·omega⟩) (fun p hp y hy=>by
     rcases List.mem_append.1 hp with hp | hp
     ·exact h1 p hp y (List.mem_cons_of_mem _ hy)
     ·simp at hp;have:=hl'.1 y hy;left;omega) (fun h=>List.mem_append_left _ (h2 h)) (fun h p hp=>by
     rcases List.mem_append.1 hp with hp | hp
     ·exact h3 h p hp
     ·simp at hp;rw[hp];exact hlt h)
    refine⟨i1,fun m=>?_,i3,?_,?_⟩
    ·rw[i2];simp only[List.mem_append,List.mem_cons,List.not_mem_nil,or_false]
     constructor
     ·rintro((h | h) | h | h)
      ·exact .inl h
      ·exact .inr (.inl ⟨.inl h,fun e=>hx (h.symm.trans e)⟩)
      ·exact .inr (.inl ⟨.inr h.1,h.2⟩)
      ·exact .inr (.inr h)
     ·rintro(h | ⟨h | h,h'⟩ | h)
      ·exact .inl (.inl h)
      ·exact .inl (.inr h)
      ·exact .inr (.inl ⟨h,h'⟩)
      ·exact .inr (.inr h)
    ·simp at i4 ⊢;omega
    ·intro hf;have:=i5 hf;simp at this ⊢;omega
theorem putP_props{l:List Int}(h:Up l)(n:Int):Up (putP l n) ∧ (∀ m,m∈putP l n↔m∈l ∨ m=n) ∧ (putP l n).length ≤ l.length+1:=by
 obtain⟨i1,i2,i3,i4,i5⟩:=putS_inv n l (false,[]) h (by simp[Up]) (by simp) (by simp) (by simp);unfold putP;simp only
 cases hb:(l.foldl (putS n) (false,[])).1 with
 | true=>
  simp only[if_true];refine⟨i1,fun m=>?_,by simpa using i4⟩;rw[i2,hb];simp only[List.not_mem_nil,false_or,and_true]
  constructor
  ·rintro(h | h)
   ·exact .inl h.1
   ·exact .inr h
  ·rintro(h | h)
   ·by_cases e:m=n
    ·exact .inr e
    ·exact .inl ⟨h,e⟩
   ·exact .inr h
 | false=>
  have:=i5 hb;rw[if_neg (by simp)];refine⟨up_snoc.2 ⟨i1,i3 hb⟩,fun m=>?_,by simp at this ⊢;omega⟩;simp only[List.mem_append,List.mem_singleton,i2,hb,List.not_mem_nil,false_or]
  constructor
  ·rintro((h | h) | h)
   ·exact .inl h.1
   ·cases h.2
   ·exact .inr h
  ·rintro(h | h)
   ·by_cases e:m=n
    ·exact .inr e
    ·exact .inl (.inl ⟨h,e⟩)
   ·exact .inr h
def ptS(out:List Int)(x:TRun):List Int:=if mayR x then putP (putP out x.lo) (x.hi+1) else out
def ptsP(l:List TRun):List Int:=l.foldl ptS []
theorem ptS_inv : ∀ (l:List TRun) (out:List Int),Up out → Up (l.foldl ptS out) ∧ (∀ m,m∈l.foldl ptS out↔m∈out ∨ ∃ x∈l,mayR x=true ∧ (m=x.lo ∨ m=x.hi+1)) ∧ (l.foldl ptS out).length ≤ out.length+2*l.length
 | [],out,h=>⟨h,fun m=>by simp,by simp⟩
 | x::r,out,h=>by
  rw[List.foldl_cons];obtain⟨j1,j2,j3⟩:=putP_props h x.lo;obtain⟨k1,k2,k3⟩:=putP_props j1 (x.hi+1)
  by_cases hm:mayR x=true
  ·have e:ptS out x=putP (putP out x.lo) (x.hi+1):=by simp[ptS,hm]
   rw[e];obtain⟨i1,i2,i3⟩:=ptS_inv r _ k1;refine⟨i1,fun m=>?_,by simp;omega⟩;rw[i2,k2,j2]
   constructor
   ·rintro(((h | h) | h) | ⟨y,h1,h2⟩)
    ·exact .inl h
    ·exact .inr ⟨x,by simp,hm,.inl h⟩
    ·exact .inr ⟨x,by simp,hm,.inr h⟩
    ·exact .inr ⟨y,by simp[h1],h2⟩
   ·rintro(h | ⟨y,h1,h2,h3⟩)
    ·exact .inl (.inl (.inl h))
    ·rcases List.mem_cons.1 h1 with rfl | h1
     ·rcases h3 with h3 | h3
      ·exact .inl (.inl (.inr h3))
      ·exact .inl (.inr h3)
     ·exact .inr ⟨y,h1,h2,h3⟩
  ·have e:ptS out x=out:=by simp[ptS,hm]
   rw[e];obtain⟨i1,i2,i3⟩:=ptS_inv r _ h;refine⟨i1,fun m=>?_,by simp;omega⟩;rw[i2]
   constructor
   ·rintro(h | ⟨y,h1,h2⟩)
    ·exact .inl h
    ·exact .inr ⟨y,by simp[h1],h2⟩
   ·rintro(h | ⟨y,h1,h2,h3⟩)
    ·exact .inl h
    ·rcases List.mem_cons.1 h1 with rfl | h1
     ·exact absurd h2 hm
     ·exact .inr ⟨y,h1,h2,h3⟩
theorem ptsP_props(l:List TRun):Up (ptsP l) ∧ (∀ m,m∈ptsP l↔∃ x∈l,mayR x=true ∧ (m=x.lo ∨ m=x.hi+1)) ∧ (ptsP l).length ≤ 2*l.length:=by
 obtain⟨h1,h2,h3⟩:=ptS_inv l [] (by simp[Up]);exact⟨h1,fun m=>by rw[ptsP,h2];simp,by simpa[ptsP] using h3⟩
def lastOr(out:List TRun)(p:Int)(z:TRun → TRun)(x:TRun):List TRun:=match out.getLast? with
 | some y=>if y.hi+1=p then out.dropLast++[z y] else out++[x]
 | none=>out++[x]
def setS(op:Bool → Bool → Bool)(a b:List TRun)(out:List TRun)(pq:Int×Int):List TRun:=
 if op (hasR a pq.1) (hasR b pq.1) then lastOr out pq.1 (fun y=>⟨y.lo,pq.2 - 1⟩) ⟨pq.1,pq.2 - 1⟩ else out
def pairs(l:List Int):List (Int×Int):=l.zip l.tail
def setR(op:Bool → Bool → Bool)(a b:List TRun):List TRun:=(pairs (ptsP (a++b))).foldl (setS op a b) []
theorem lastOr_nil(p:Int)(z:TRun → TRun)(x:TRun):lastOr [] p z x=[x]:=rfl
theorem lastOr_snoc(l:List TRun)(y:TRun)(p:Int)(z:TRun → TRun)(x:TRun):lastOr (l++[y]) p z x=if y.hi+1=p then l++[z y] else l++[y]++[x]:=by simp[lastOr]
theorem snoc_cases{α:Type}(l:List α):l=[] ∨ ∃ r y,l=r++[y]:=by
 rcases List.eq_nil_or_concat l with h | ⟨r,y,h⟩
 ·exact .inl h
 ·exact .inr ⟨r,y,by simpa using h⟩
theorem setS_inv(op:Bool → Bool → Bool)(a b:List TRun):∀ (P:List Int) (p:Int) (out:List TRun),Up (p::P) → (∀ q∈p::P,1 ≤ q ∧ q ≤ 281474976710656) → Nf out → (∀ y∈out,y.hi < p) →
  Nf ((pairs (p::P)).foldl (setS op a b) out) ∧ (∀ n,hasR ((pairs (p::P)).foldl (setS op a b) out) n=true↔hasR out n=true ∨ ∃ pq∈pairs (p::P),pq.1 ≤ n ∧ n < pq.2 ∧ op (hasR a pq.1) (hasR b pq.1)=true) ∧ ((pairs (p::P)).foldl (setS op a b) out).length ≤ out.length+P.length
 | [],p,out,_,_,h,_=>by simp[pairs,h]
 | q::P,p,out,hu,hr,h,hy=>by
  have e:pairs (p::q::P)=(p,q)::pairs (q::P):=rfl;rw[e,List.foldl_cons];have hu':=List.pairwise_cons.1 hu;have hpq:p < q:=hu'.1 q (by simp);have hp:=hr p (by simp);have hq:=hr q (by simp);have step:Nf (setS op a b out (p,q)) ∧ (∀ n,hasR (setS op a b out (p,q)) n=true↔hasR out n=true ∨ (p ≤ n ∧ n < q ∧ op (hasR a p) (hasR b p)=true)) ∧ (∀ y∈setS op a b out (p,q),y.hi < q) ∧ (setS op a b out (p,q)).length ≤ out.length+1:=by
   unfold setS;simp only
   by_cases hop:op (hasR a p) (hasR b p)=true
   ·rw[if_pos hop];rcases snoc_cases out with rfl | ⟨l,y,rfl⟩
    ·rw[lastOr_nil];have hm:mayR (⟨p,q - 1⟩:TRun)=true:=mayR_iff.2 ⟨hp.1,by simp only;omega,by simp only;omega⟩;refine⟨⟨hm,by simp,trivial⟩,fun n=>?_,fun y hy=>?_,by simp⟩
     ·rw[hasR_one,inR_iff];have:=mayR_iff.1 hm;simp only at this ⊢;simp only[hasR_nil,Bool.false_eq_true,false_or,hop,and_true];omega
     ·simp at hy;subst hy;simp only;omega
    ·rw[lastOr_snoc];obtain⟨n1,n2,n3⟩:=nf_snoc.1 h;have hym:=mayR_iff.1 n2;have hyp:=hy y (by simp)
     by_cases hadj:y.hi+1=p
     ·rw[if_pos hadj];have hm:mayR (⟨y.lo,q - 1⟩:TRun)=true:=mayR_iff.2 ⟨hym.1,by simp only;omega,by simp only;omega⟩;refine⟨nf_snoc.2 ⟨n1,hm,n3⟩,fun n=>?_,fun z hz=>?_,by simp⟩
      ·rw[hasR_app,hasR_app,hasR_one,hasR_one,Bool.or_eq_true,Bool.or_eq_true,inR_iff,inR_iff];have:=mayR_iff.1 hm;simp only at this ⊢;simp only[hop,and_true]
       constructor
       ·rintro(h | h)
        ·exact .inl (.inl h)
        ·by_cases hc:n ≤ y.hi
         ·exact .inl (.inr ⟨hym,h.2.1,hc⟩)
         ·right;omega
       ·rintro((h | h) | h)
        ·exact .inl h
        ·right;omega
        ·right;omega
      ·rcases List.mem_append.1 hz with hz | hz
       ·have:=hy z (by simp[hz]);omega
       ·simp at hz;subst hz;simp only;omega
     ·rw[if_neg hadj];have hm:mayR (⟨p,q - 1⟩:TRun)=true:=mayR_iff.2 ⟨hp.1,by simp only;omega,by simp only;omega⟩;refine⟨nf_snoc.2 ⟨h,hm,fun z hz=>?_⟩,fun n=>?_,fun z hz=>?_,by simp⟩
      ·simp only;rcases List.mem_append.1 hz with hz | hz
       ·have:=n3 z hz;omega
       ·simp at hz;subst hz;omega
      ·rw[hasR_app (l++[y]),hasR_one,Bool.or_eq_true,inR_iff];have:=mayR_iff.1 hm;simp only at this ⊢;simp only[hop,and_true]
       constructor
       ·rintro(h | h)
        ·exact .inl h
        ·right;omega
       ·rintro(h | h)
        ·exact .inl h
        ·right;omega
      ·rcases List.mem_append.1 hz with hz | hz
       ·have:=hy z hz;omega
       ·simp at hz;subst hz;simp only;omega
   ·rw[if_neg hop];refine⟨h,fun n=>?_,fun y hy'=>by have:=hy y hy';omega,by omega⟩;exact⟨fun h=>.inl h,fun h=>h.elim id fun h=>absurd h.2.2 hop⟩
  obtain⟨s1,s2,s3,s4⟩:=step;obtain⟨i1,i2,i3⟩:=setS_inv op a b P q _ hu'.2 (fun z hz=>hr z (List.mem_cons_of_mem _ hz)) s1 s3;refine⟨i1,fun n=>?_,by simp;omega⟩;rw[i2,s2];simp only[List.mem_cons,exists_eq_or_imp]
  constructor
  ·rintro((h | h) | h)
   ·exact .inl h
   ·exact .inr (.inl h)
   ·exact .inr (.inr h)
  ·rintro(h | h | h)
   ·exact .inl (.inl h)
   ·exact .inl (.inr h)
   ·exact .inr h
theorem pairs_next : ∀ {P:List Int},Up P → ∀ pq∈pairs P,pq.1∈P ∧ pq.2∈P ∧ pq.1 < pq.2 ∧ ∀ m∈P,m ≤ pq.1 ∨ pq.2 ≤ m
 | [],_,pq,h=>by simp[pairs] at h
 | [p],_,pq,h=>by simp[pairs] at h
 | p::q::P,hu,pq,h=>by
  have e:pairs (p::q::P)=(p,q)::pairs (q::P):=rfl;rw[e] at h;have hu':=List.pairwise_cons.1 hu;rcases List.mem_cons.1 h with rfl | h
  ·refine⟨by simp,by simp,hu'.1 q (by simp),fun m hm=>?_⟩;rcases List.mem_cons.1 hm with rfl | hm
   ·simp
   ·right
    rcases List.mem_cons.1 hm with rfl | hm
    ·simp
    ·have:=(List.pairwise_cons.1 hu'.2).1 m hm;simp only;omega
  ·obtain⟨h1,h2,h3,h4⟩:=pairs_next hu'.2 pq h;refine⟨List.mem_cons_of_mem _ h1,List.mem_cons_of_mem _ h2,h3,fun m hm=>?_⟩;rcases List.mem_cons.1 hm with rfl | hm
   ·left;have:=hu'.1 _ h1;omega
   ·exact h4 m hm
theorem pairs_find : ∀ {P:List Int},Up P → ∀ {u v n:Int},u∈P → v∈P → u ≤ n → n < v → ∃ pq∈pairs P,pq.1 ≤ n ∧ n < pq.2
 | [],_,_,_,_,h,_,_,_=>by simp at h
 | [p],_,u,v,n,h1,h2,h3,h4=>by simp at h1 h2;omega
 | p::q::P,hu,u,v,n,h1,h2,h3,h4=>by
  have e:pairs (p::q::P)=(p,q)::pairs (q::P):=rfl;have hu':=List.pairwise_cons.1 hu
  by_cases hc:n < q
  ·refine⟨(p,q),by rw[e];simp,?_,hc⟩;rcases List.mem_cons.1 h1 with rfl | h1
   ·exact h3
   ·have:q ≤ u:=by
     rcases List.mem_cons.1 h1 with rfl | h1
     ·omega
     ·have:=(List.pairwise_cons.1 hu'.2).1 u h1;omega
    simp only;omega
  ·have hv:v∈q::P:=by
    rcases List.mem_cons.1 h2 with rfl | h2
    ·have:=hu'.1 q (by simp);omega
    ·exact h2
   obtain⟨pq,h5,h6⟩:=pairs_find hu'.2 (u:=q) (by simp) hv (by omega) h4;exact⟨pq,by rw[e];exact List.mem_cons_of_mem _ h5,h6⟩
theorem pairs_len(P:List Int):(pairs P).length=P.length - 1:=by simp[pairs]
theorem has_between{l:List TRun}{P:List Int}(hP:∀ x∈l,mayR x=true → x.lo∈P ∧ x.hi+1∈P){p q n:Int}(h1:∀ m∈P,m ≤ p ∨ q ≤ m)(h2:p ≤ n)(h3:n < q):hasR l n=hasR l p:=by
 rw[Bool.eq_iff_iff,hasR_iff,hasR_iff]
 constructor
 ·rintro⟨x,hx,hm,h4,h5⟩;obtain⟨h6,h7⟩:=hP x hx hm;have:=h1 _ h6;have:=h1 _ h7;exact⟨x,hx,hm,by omega,by omega⟩
 ·rintro⟨x,hx,hm,h4,h5⟩;obtain⟨h6,h7⟩:=hP x hx hm;have:=h1 _ h6;have:=h1 _ h7;exact⟨x,hx,hm,by omega,by omega⟩
theorem setR_props(op:Bool → Bool → Bool)(h0:op false false=false)(a b:List TRun):Nf (setR op a b) ∧ (∀ n,hasR (setR op a b) n=op (hasR a n) (hasR b n)) ∧ (setR op a b).length ≤ 2*(a.length+b.length):=by
 obtain⟨p1,p2,p3⟩:=ptsP_props (a++b);have hrange:∀ q∈ptsP (a++b),1 ≤ q ∧ q ≤ 281474976710656:=fun q hq=>by
  obtain⟨x,_,h2,h3⟩:=(p2 q).1 hq;have:=mayR_iff.1 h2;omega
 have main:Nf (setR op a b) ∧ (∀ n,hasR (setR op a b) n=true↔∃ pq∈pairs (ptsP (a++b)),pq.1 ≤ n ∧ n < pq.2 ∧ op (hasR a pq.1) (hasR b pq.1)=true) ∧ (setR op a b).length ≤ (ptsP (a++b)).length:=by
  unfold setR
  generalize hP:ptsP (a++b)=P at p1 hrange
  cases P with
  | nil=>simp[pairs,Nf]
  | cons p P=>
   obtain⟨i1,i2,i3⟩:=setS_inv op a b P p [] p1 hrange trivial (by simp);exact⟨i1,fun n=>by rw[i2];simp,by simp at i3 ⊢;omega⟩
 obtain⟨m1,m2,m3⟩:=main;refine⟨m1,fun n=>?_,by simp at p3;omega⟩;have hPa:∀ x∈a,mayR x=true → x.lo∈ptsP (a++b) ∧ x.hi+1∈ptsP (a++b):=fun x hx hm=>⟨(p2 _).2 ⟨x,by simp[hx],hm,.inl rfl⟩,(p2 _).2 ⟨x,by simp[hx],hm,.inr rfl⟩⟩
 have hPb:∀ x∈b,mayR x=true → x.lo∈ptsP (a++b) ∧ x.hi+1∈ptsP (a++b):=fun x hx hm=>⟨(p2 _).2 ⟨x,by simp[hx],hm,.inl rfl⟩,(p2 _).2 ⟨x,by simp[hx],hm,.inr rfl⟩⟩
 rw[Bool.eq_iff_iff,m2]
 constructor
 ·rintro⟨pq,h1,h2,h3,h4⟩;obtain⟨_,_,_,h5⟩:=pairs_next p1 pq h1
  rwa [has_between hPa h5 h2 h3,has_between hPb h5 h2 h3]
 ·intro h;have hex:∃ u∈ptsP (a++b),∃ v∈ptsP (a++b),u ≤ n ∧ n < v:=by
   cases ha:hasR a n with
   | true=>
    obtain⟨x,h1,h2,h3,h4⟩:=hasR_iff.1 ha;exact⟨_,(hPa x h1 h2).1,_,(hPa x h1 h2).2,h3,by omega⟩
   | false=>
    cases hb:hasR b n with
    | true=>
     obtain⟨x,h1,h2,h3,h4⟩:=hasR_iff.1 hb;exact⟨_,(hPb x h1 h2).1,_,(hPb x h1 h2).2,h3,by omega⟩
    | false=>rw[ha,hb,h0] at h;cases h
  obtain⟨u,hu,v,hv,h1,h2⟩:=hex;obtain⟨pq,h3,h4,h5⟩:=pairs_find p1 hu hv h1 h2;obtain⟨_,_,_,h6⟩:=pairs_next p1 pq h3;exact⟨pq,h3,h4,h5,by rwa [← has_between hPa h6 h4 h5,← has_between hPb h6 h4 h5]⟩
def nrm(l:List TRun):List TRun:=setR (·||·) l []
theorem nrm_nf(l:List TRun):Nf (nrm l):=(setR_props _ rfl l []).1
theorem nrm_has(l:List TRun)(n:Int):hasR (nrm l) n=hasR l n:=by rw[nrm,(setR_props _ rfl l []).2.1];simp
theorem nrm_len(l:List TRun):(nrm l).length ≤ 2*l.length:=by
 have:=(setR_props (·||·) rfl l []).2.2;rw[List.length_nil,Nat.add_zero] at this;exact this
theorem nrm_of{l r:List TRun}(h:Nf r)(h2:∀ n,hasR r n=hasR l n):r=nrm l:=nf_ext h (nrm_nf l) fun n=>by rw[h2,nrm_has]
theorem nrm_self{l:List TRun}(h:Nf l):nrm l=l:=(nrm_of h fun _=>rfl).symm
theorem runEq_iff(x y:TRun):(decide (x.lo=y.lo)&&decide (x.hi=y.hi))=decide (x=y):=by
 rw[Bool.eq_iff_iff]
 cases x;cases y
 simp
theorem eqLoop{body:Int → M (Step Int (Ex Unit Bool))}(a b:List TRun)(hl:a.length=b.length)(hn:a.length ≤ 1000000000000)
  (hb:∀ i:Int,body i=cond (decide (i < (a.length:Int))) (M.bind (M.idx a i) fun x=>M.bind (M.idx b i) fun y=>cond (!(decide (x.lo=y.lo)&&decide (x.hi=y.hi))) (M.pure (.done (.ret false))) (M.pure (.next (IntKind.i64.wrap (i+1))))) (M.pure (.done (.brk ())))) :
  M.bind (M.loop body 0) (M.exk fun _=>M.pure true)=pure (decide (a=b)):=by
 have:=loopAll (body:=body) a (fun i=>(i:Int)) (fun i x=>decide (b[i]?=some x)) (.brk ()) (.ret false) (fun i x hx hi=>by
  have hb':i < b.length:=by omega
  rw[hb,idx_nat hx,idx_nat (List.getElem?_eq_getElem hb'),wSucc (by omega)];simp only[pure_bind,List.getElem?_eq_getElem hb',Option.some.injEq,runEq_iff];have:decide ((i:Int) < (a.length:Int))=true:=by simpa using hi
  rw[this,cond_true]
  by_cases he:b[i]=x
  ·subst he;simp
  ·rw[if_neg (by simpa using he)];have:decide (x=b[i])=false:=by simpa using fun h=>he h.symm
   rw[this];rfl) (by rw[hb];simp)
 rw[show(0:Int)=((0:Nat):Int) from rfl,this]
 by_cases he:a=b
 ·subst he;rw[if_pos]
  ·simp[pure_bind,exk_brk]
  ·rw[List.all_eq_true];intro ⟨x,i⟩ hx;rw[List.mk_mem_zipIdx_iff_getElem?] at hx;simpa using hx
 ·rw[if_neg]
  ·simp[he,pure_bind,exk_ret]
  ·intro hall;rw[List.all_eq_true] at hall;apply he;apply List.ext_getElem (by omega);intro i h1 h2;have:=hall (a[i],i) (by rw[List.mk_mem_zipIdx_iff_getElem?];exact List.getElem?_eq_getElem h1);simp[h2] at this;exact this.symm
theorem req_eq(a b:List TRun)(h:a.length ≤ 1000000000000):r06_Eq a b=pure (decide (a=b)):=by
 unfold r06_Eq
 by_cases hl:(a.length:Int)=b.length
 ·simp only[hl,decide_true,Bool.not_true,cond_false];exact eqLoop a b (by omega) h fun i=>rfl
 ·have hne:a≠b:=fun e=>hl (by rw[e])
  simp[hl,hne]
theorem seq_eq(a b:List TRun)(h:a.length ≤ 1000000000000):slices_Equal_sl_Run_Run a b=pure (decide (a=b)):=by
 unfold slices_Equal_sl_Run_Run
 by_cases hl:(a.length:Int)=b.length
 ·simp only[hl,decide_true,Bool.not_true,cond_false];exact eqLoop a b (by omega) h fun i=>rfl
 ·have hne:a≠b:=fun e=>hl (by rw[e])
  simp[hl,hne]
theorem rmay_eq(x:TRun):r06_may x=pure (mayR x):=by
 unfold r06_may;rw[cond_pure_and,cond_pure_and,pure_bind]
 rfl
theorem rhas_eq(l:List TRun)(n:Int)(h:l.length ≤ 1000000000000):r06_Has l n=pure (hasR l n):=by
 unfold r06_Has;have:=loopAll (body:=r06_Has_l0 l n) l (fun i=>(i:Int)) (fun _ x=>!inR n x) (.brk ()) (.ret true) (fun i x hx hi=>by
  unfold r06_Has_l0;have h1:decide ((i:Int) < (l.length:Int))=true:=by simpa using hi
  simp only[h1,cond_true,idx_nat hx,pure_bind,rmay_eq,det_pure,wSucc (show i < 9223372036854775807 by omega),cond_pure_and];unfold inR
  cases mayR x <;> cases decide (x.lo ≤ n) <;> cases decide (n ≤ x.hi) <;> rfl) (by unfold r06_Has_l0;simp)
 rw[show(0:Int)=((0:Nat):Int) from rfl,this,pure_bind];have e:l.zipIdx.all (fun y=>!inR n y.1)=!hasR l n:=by
  unfold hasR;rw[Bool.eq_iff_iff];simp only[List.all_eq_true,Bool.not_eq_true',List.any_eq_false]
  constructor
  ·intro h x hx;obtain⟨i,hi,he⟩:=List.getElem_of_mem hx;have:=h (x,i) (by rw[List.mk_mem_zipIdx_iff_getElem?];rw[List.getElem?_eq_getElem hi,he]);simpa using this
  ·intro h y hy;have:=List.fst_mem_of_mem_zipIdx hy;have:=h _ this;simpa using this
 simp only[e]
 cases hasR l n <;> rfl
theorem rput_eq(l:List Int)(n:Int)(h:l.length ≤ 100000000000):r06_put l n=pure (putP l n):=by
 unfold r06_put;have:=loopL (body:=r06_put_l0 l n) l (fun i (t:Bool×List Int)=>(t.1,(i:Int),t.2)) (putS n) (fun t=>pure t) (fun i t=>t.2.length ≤ 2*i) (fun i x t hx hi hI=>by
  obtain⟨d,out⟩:=t;simp only at hI;have h1:decide ((i:Int) < (l.length:Int))=true:=by simpa using hi
  refine⟨?_,?_⟩
  ·unfold r06_put_l0 putS;simp only[h1,cond_true,idx_nat hx,pure_bind,wSucc (show i < 9223372036854775807 by omega)]
   cases d with
   | true=>
    by_cases hc:x=n
    ·simp[hc,pure_bind]
    ·simp only[Bool.not_true,cond_false,pure_bind,hc,decide_false,Bool.not_false,cond_true,if_false];rw[need_true (by simp;omega)];simp[pure_bind]
   | false=>
    by_cases hc1:n ≤ x
    ·simp only[Bool.not_false,cond_true,pure_bind,hc1,decide_true];rw[need_true (by simp;omega),pure_bind]
     by_cases hc:x=n
     ·simp[hc,pure_bind]
     ·simp only[hc,decide_false,Bool.not_false,cond_true];rw[need_true (by simp;omega)];simp[pure_bind]
    ·simp only[Bool.not_false,cond_true,pure_bind,hc1,decide_false,cond_false];have hc:x≠n:=by omega
     simp only[hc,decide_false,Bool.not_false,cond_true];rw[need_true (by simp;omega)];simp[pure_bind]
  ·unfold putS;simp only
   split <;> split <;> simp <;> omega) (fun t _=>by unfold r06_put_l0;simp[pure_bind]) (false,[]) (by simp)
 rw[show((false,(0:Int),([]:List Int)):Bool×Int×List Int)=(false,((0:Nat):Int),[]) from rfl,this,pure_bind];unfold putP;have hlen:(l.foldl (putS n) (false,[])).2.length ≤ 2*l.length:=by
  have:∀ (l:List Int) (s:Bool×List Int),(l.foldl (putS n) s).2.length ≤ s.2.length+2*l.length:=by
   intro l
   induction l with
   | nil=>intro s;simp
   | cons x r ih=>
    intro s;rw[List.foldl_cons];have:=ih (putS n s x);have h2:(putS n s x).2.length ≤ s.2.length+2:=by
     unfold putS;simp only
     split <;> split <;> simp
    simp;omega
  simpa using this l (false,[])
 generalize l.foldl (putS n) (false,[])=t at hlen
 obtain⟨d,out⟩:=t
 cases d with
 | true=>rfl
 | false=>
  simp only[Bool.not_false,cond_true];rw[need_true (by simp at hlen ⊢;omega)]
  rfl
theorem rpts_eq(a b:List TRun)(h:a.length+b.length ≤ 10000000000):r06_points a b=pure (ptsP (a++b)):=by
 unfold r06_points;rw[need_true (by simp;omega),need_true (by simp;omega)];have hup:∀ i,Up (((a++b).take i).foldl ptS []) ∧ (((a++b).take i).foldl ptS []).length ≤ 2*(a++b).length:=fun i=>by
  obtain⟨h1,_,h3⟩:=ptS_inv ((a++b).take i) [] (by simp[Up]);refine⟨h1,?_⟩;have:((a++b).take i).length ≤ (a++b).length:=by simp;omega
  simp only[List.length_nil,Nat.zero_add] at h3;omega
 have:=loopL (body:=r06_points_l0 a b) (a++b) (fun i (t:List Int)=>(t,(i:Int))) ptS (fun t=>pure t) (fun i t=>t=((a++b).take i).foldl ptS []) (fun i x t hx hi hI=>by
  have h1:decide ((i:Int) < ((a++b).length:Int))=true:=decide_eq_true (by omega);have hlen:(a++b).length ≤ 10000000000:=by simp;omega
  obtain⟨u1,u2⟩:=hup i;rw[← hI] at u1 u2;refine⟨?_,?_⟩
  ·unfold r06_points_l0 ptS;simp only[List.nil_append,h1,cond_true,idx_nat hx,pure_bind,wSucc (show i < 9223372036854775807 by omega),rmay_eq,det_pure]
   cases hm:mayR x with
   | false=>simp[pure_bind]
   | true=>
    have hm':=mayR_iff.1 hm;have hp:=putP_props u1 x.lo;rw[cond_true,rput_eq _ _ (by omega),det_pure,pure_bind,wU64 (by omega) (by omega),rput_eq _ _ (by omega),det_pure];simp[pure_bind]
  ·rw[List.take_add_one,hx];simp[hI]) (fun t _=>by unfold r06_points_l0;simp[pure_bind]) [] (by simp)
 rw[show(([]:List Int),(0:Int))=([],((0:Nat):Int)) from rfl,this];simp only[pure_bind]
 rfl
theorem zip_tail_get{P:List Int}{i:Nat}{pq:Int×Int}(h:(pairs P)[i]?=some pq):P[i]?=some pq.1 ∧ P[i+1]?=some pq.2:=by
 unfold pairs at h;rw[List.getElem?_zip_eq_some] at h;obtain⟨h1,h2⟩:=h;rw[List.getElem?_tail] at h2;exact⟨h1,h2⟩
theorem rset_eq(op:Bool → Bool → Bool)(how:Int)(hop:∀ x y,op x y=if how=2 then (x&&!y) else if how=1 then (x&&y) else (x||y))(_h0:op false false=false)(a b:List TRun)(h:a.length+b.length ≤ 10000000000):r06_set a b how=pure (setR op a b):=by
 unfold r06_set;rw[rpts_eq a b h,det_pure,pure_bind];obtain⟨p1,p2,p3⟩:=ptsP_props (a++b);have hrange:∀ q∈ptsP (a++b),1 ≤ q ∧ q ≤ 281474976710656:=fun q hq=>by
  obtain⟨x,_,h2,h3⟩:=(p2 q).1 hq;have:=mayR_iff.1 h2;omega
 unfold setR
 generalize ptsP (a++b)=P at p1 hrange p3
 simp only[List.length_append] at p3;have hinv:∀ i,i ≤ (pairs P).length → Nf (((pairs P).take i).foldl (setS op a b) []) ∧ (((pairs P).take i).foldl (setS op a b) []).length ≤ P.length:=fun i hi=>by
  cases P with
  | nil=>simp[pairs,Nf]
  | cons p P=>
   have key:(pairs (p::P)).take i=pairs (p::P.take i):=by
    unfold pairs;simp only[List.tail_cons];clear hi p1 hrange p3
    induction i generalizing p P with
    | zero=>simp
    | succ i ih=>
     cases P with
     | nil=>simp
     | cons q P=>
      simp only[List.zip_cons_cons,List.take_succ_cons];rw[ih q P]
   rw[key];have hsub:(p::P.take i).Sublist (p::P):=List.Sublist.cons_cons _ (List.take_sublist _ _);obtain⟨i1,_,i3⟩:=setS_inv op a b (P.take i) p [] (List.Pairwise.sublist hsub p1) (fun q hq=>hrange q (hsub.subset hq)) trivial (by simp);refine⟨i1,?_⟩;simp at i3 ⊢;omega
 have:=loopL (body:=r06_set_l0 P a b how) (pairs P) (fun i (t:List TRun)=>((i:Int),t)) (setS op a b) (fun t=>pure t) (fun i t=>i ≤ (pairs P).length ∧ t=((pairs P).take i).foldl (setS op a b) []) (fun i pq t hx hi hI=>by
  obtain⟨hI1,hI⟩:=hI;obtain⟨g1,g2⟩:=zip_tail_get hx;have hlt:i+1 < P.length:=(List.getElem?_eq_some_iff.1 g2).1;have hPl:P.length ≤ 20000000000:=by omega
  have h1:decide (((i+1:Nat):Int) < (P.length:Int))=true:=by rw[decide_eq_true_eq];omega
  obtain⟨v1,v2⟩:=hinv i hI1;rw[← hI] at v1 v2;refine⟨?_,by omega,by rw[List.take_add_one,hx];simp[hI]⟩;unfold r06_set_l0 setS;have e2:idx P ((i+1:Nat):Int)=pure pq.2:=idx_nat g2;have hq:=hrange pq.2 (List.mem_of_getElem? g2);simp only[wSucc (show i < 9223372036854775807 by omega),h1,cond_true,idx_nat g1,e2,pure_bind,rhas_eq a pq.1 (by omega),rhas_eq b pq.1 (by omega),det_pure];rw[hop];have hin:∀ (x y:Bool),(M.bind (cond x (M.pure true) (M.pure y)) fun in97=>M.bind (cond (decide (how=1)) (M.bind (cond x (M.pure y) (M.pure false)) fun in101=>M.pure in101) (M.pure in97)) fun in99=>cond (decide (how=2)) (M.bind (cond x (M.pure (!y)) (M.pure false)) fun in105=>M.pure in105) (M.pure in99))=pure (if how=2 then (x&&!y) else if how=1 then (x&&y) else (x||y)):=by
   intro x y
   by_cases c2:how=2
   ·subst c2;cases x <;> cases y <;> rfl
   ·by_cases c1:how=1
    ·subst c1;cases x <;> cases y <;> rfl
    ·simp only[c1,c2,decide_false,cond_false,if_false]
     cases x <;> cases y <;> rfl
  have hin':=hin (hasR a pq.1) (hasR b pq.1)
  generalize (if how=2 then (hasR a pq.1&&!hasR b pq.1) else if how=1 then (hasR a pq.1&&hasR b pq.1) else (hasR a pq.1||hasR b pq.1))=inn at hin'
  -- the three steps are one
  have assoc:∀ (K:Bool → M (List TRun)),(M.bind (cond (hasR a pq.1) (M.pure true) (M.pure (hasR b pq.1))) fun in97=>M.bind (cond (decide (how=1)) (M.bind (cond (hasR a pq.1) (M.pure (hasR b pq.1)) (M.pure false)) fun in101=>M.pure in101) (M.pure in97)) fun in99=>M.bind (cond (decide (how=2)) (M.bind (cond (hasR a pq.1) (M.pure (!hasR b pq.1)) (M.pure false)) fun in105=>M.pure in105) (M.pure in99)) K)=K inn:=by
   intro K;have:=congrArg (fun m=>M.bind m K) hin';exact this
  rw[assoc]
  cases inn with
  | false=>rfl
  | true=>
   simp only[cond_true,if_true];rcases snoc_cases t with rfl | ⟨l,y,rfl⟩
   ·have e:decide ((0:Int) ≤ IntKind.i64.wrap (((([]:List TRun).length:Nat):Int) - 1))=false:=by
     rw[wI64 (by simp) (by simp)];simp
    rw[e];simp only[cond_false,pure_bind];rw[need_true (by simp),wU64 (by omega) (by omega)]
    rfl
   ·have hy:=(nf_snoc.1 v1).2.1;have hym:=mayR_iff.1 hy;have e0:IntKind.i64.wrap ((((l++[y]).length:Nat):Int) - 1)=(l.length:Int):=by
     simp only[List.length_append,List.length_singleton] at v2 ⊢;rw[wI64 (by omega) (by omega)];omega
    have e1:idx (l++[y]) (l.length:Int)=pure y:=idx_nat (by simp);have e3:decide ((0:Int) ≤ (l.length:Int))=true:=by simp
    rw[e0,e3];simp only[cond_true,e1,pure_bind,wU64 (show 0 ≤ y.hi+1 by omega) (by omega),wU64 (show 0 ≤ pq.2 - 1 by omega) (by omega)];rw[lastOr_snoc]
    by_cases hc:y.hi+1=pq.1
    ·simp only[hc,decide_true,cond_true,if_true,Int.toNat_natCast];have:(l++[y]).set l.length (⟨y.lo,pq.2 - 1⟩:TRun)=l++[⟨y.lo,pq.2 - 1⟩]:=by simp
     rw[this]
     rfl
    ·simp only[hc,decide_false,cond_false,if_false];rw[need_true (by simp only[List.length_append,List.length_singleton] at v2 ⊢;omega)]
     rfl) (fun t _=>by
  unfold r06_set_l0;have e:decide (IntKind.i64.wrap (((pairs P).length:Int)+1) < (P.length:Int))=false:=by
   rw[pairs_len,wI64 (by omega) (by omega)];simp;omega
  simp only[e,cond_false,pure_bind]) [] ⟨Nat.zero_le _,by simp⟩
 rw[show((0:Int),([]:List TRun))=(((0:Nat):Int),[]) from rfl,this];simp only[pure_bind]
theorem rjoin_eq(a b:List TRun)(h:a.length+b.length ≤ 10000000000):r06_Join a b=pure (setR (·||·) a b):=by
 unfold r06_Join;rw[rset_eq (·||·) 0 (fun x y=>by simp) rfl a b h,det_pure,pure_bind]
theorem rmeet_eq(a b:List TRun)(h:a.length+b.length ≤ 10000000000):r06_Meet a b=pure (setR (·&&·) a b):=by
 unfold r06_Meet;rw[rset_eq (·&&·) 1 (fun x y=>by simp) rfl a b h,det_pure,pure_bind]
theorem rminus_eq(a b:List TRun)(h:a.length+b.length ≤ 10000000000):r06_Minus a b=pure (setR (fun x y=>x&&!y) a b):=by
 unfold r06_Minus;rw[rset_eq (fun x y=>x&&!y) 2 (fun x y=>by simp) rfl a b h,det_pure,pure_bind]
def addN(out:List TRun)(x:TRun):List TRun:=match out.getLast? with
 | some y=>if x.lo ≤ y.hi+1 then out.dropLast++[⟨y.lo,max y.hi x.hi⟩] else out++[x]
 | none=>out++[x]
theorem addN_nil(x:TRun):addN [] x=[x]:=rfl
theorem addN_snoc(l:List TRun)(y x:TRun):addN (l++[y]) x=if x.lo ≤ y.hi+1 then l++[⟨y.lo,max y.hi x.hi⟩] else l++[y]++[x]:=by simp[addN]
theorem addN_props{out:List TRun}{x:TRun}(h:Nf out)(hx:mayR x=true)(hlo:∀ y∈out,y.lo ≤ x.lo):Nf (addN out x) ∧ (∀ n,hasR (addN out x) n=(hasR out n||inR n x)) ∧ (∀ y∈addN out x,y.lo ≤ x.lo) ∧ (addN out x).length ≤ out.length+1:=by
 have hxm:=mayR_iff.1 hx;rcases snoc_cases out with rfl | ⟨l,y,rfl⟩
 ·rw[addN_nil];exact⟨⟨hx,by simp,trivial⟩,fun n=>by rw[hasR_one];simp,by simp,by simp⟩
 ·rw[addN_snoc];obtain⟨n1,n2,n3⟩:=nf_snoc.1 h;have hym:=mayR_iff.1 n2;have hyx:=hlo y (by simp)
  by_cases hc:x.lo ≤ y.hi+1
  ·rw[if_pos hc];have hm:mayR (⟨y.lo,max y.hi x.hi⟩:TRun)=true:=mayR_iff.2 ⟨hym.1,by simp only;omega,by simp only;omega⟩;refine⟨nf_snoc.2 ⟨n1,hm,n3⟩,fun n=>?_,fun z hz=>?_,by simp⟩
   ·rw[hasR_app,hasR_app,hasR_one,hasR_one,Bool.or_assoc]
    congr 1
    rw[Bool.eq_iff_iff,Bool.or_eq_true,inR_iff,inR_iff,inR_iff];have:=mayR_iff.1 hm;simp only at this ⊢;omega
   ·rcases List.mem_append.1 hz with hz | hz
    ·exact hlo z (by simp[hz])
    ·simp at hz;subst hz;exact hyx
  ·rw[if_neg hc];refine⟨nf_snoc.2 ⟨h,hx,fun z hz=>?_⟩,fun n=>by rw[hasR_app (l++[y]),hasR_one],fun z hz=>?_,by simp⟩
   ·rcases List.mem_append.1 hz with hz | hz
    ·have:=n3 z hz;omega
    ·simp at hz;subst hz;omega
   ·rcases List.mem_append.1 hz with hz | hz
    ·exact hlo z hz
    ·simp at hz;subst hz;exact Int.le_refl _
theorem addN_fold : ∀ (s out:List TRun),Nf out → (∀ x∈s,mayR x=true) → s.Pairwise (fun x y=>x.lo ≤ y.lo) → (∀ y∈out,∀ x∈s,y.lo ≤ x.lo) → Nf (s.foldl addN out) ∧ (∀ n,hasR (s.foldl addN out) n=(hasR out n||hasR s n)) ∧ (s.foldl addN out).length ≤ out.length+s.length
 | [],out,h,_,_,_=>⟨h,by simp,by simp⟩
 | x::r,out,h,hm,hp,hlo=>by
  obtain⟨a1,a2,a3,a4⟩:=addN_props h (hm x (by simp)) fun y hy=>hlo y hy x (by simp)
  obtain⟨p1,p2⟩:=List.pairwise_cons.1 hp;obtain⟨i1,i2,i3⟩:=addN_fold r _ a1 (fun y hy=>hm y (List.mem_cons_of_mem _ hy)) p2 fun y hy z hz=>by
   have:=a3 y hy;have:=p1 z hz;omega
  refine⟨i1,fun n=>?_,by simp;omega⟩;rw[List.foldl_cons,i2,a2,hasR_cons,Bool.or_assoc]
theorem srt_wp{l:List TRun}{Q:List TRun → Prop}(h:∀ s,s.Perm l → s.Pairwise (fun x y=>x.lo ≤ y.lo) → Q s):(srt ltRun l).wp Q:=by
 refine⟨⟨l.mergeSort (fun x y=>decide (x.lo ≤ y.lo)),List.mergeSort_perm _ _,?_⟩,fun s ⟨h1,h2⟩=>h s h1 (h2.imp fun {x y} h=>?_)⟩
 ·refine(List.pairwise_mergeSort (fun a b c h1 h2=>?_) (fun a b=>?_) l).imp fun {x y} h=>?_
  ·simp only[decide_eq_true_eq] at h1 h2 ⊢;omega
  ·simp only[Bool.or_eq_true,decide_eq_true_eq];omega
  ·simp only[decide_eq_true_eq] at h;unfold ltRun;simp only[decide_eq_false_iff_not];omega
 ·unfold ltRun at h;simp only[decide_eq_false_iff_not] at h;omega
theorem norm_eq(l:List TRun)(h:l.length ≤ 1000000000000):runs_Norm l=pure (nrm l):=by
 unfold runs_Norm;have h1:=loopL (body:=runs_Norm_l0 l) l (fun i (t:List TRun)=>((i:Int),t)) (fun t x=>if mayR x then t++[x] else t) (fun t=>pure t) (fun i t=>t.length ≤ i) (fun i x t hx hi hI=>by
  have h1:decide ((i:Int) < (l.length:Int))=true:=by simpa using hi
  refine⟨?_,by split <;> (try simp only[List.length_append,List.length_singleton]) <;> omega⟩;unfold runs_Norm_l0;simp only[h1,cond_true,idx_nat hx,pure_bind,wSucc (show i < 9223372036854775807 by omega)];have e:(cond (decide (0 < x.lo)) (cond (decide (x.lo ≤ x.hi)) (M.pure (decide (x.hi ≤ 281474976710655))) (M.pure false)) (M.pure false):M Bool)=pure (mayR x):=by
   rw[cond_pure_and,cond_pure_and];refine congrArg pure ?_;rw[Bool.eq_iff_iff,mayR_iff];simp only[Bool.and_eq_true,decide_eq_true_eq];omega
  rw[e,pure_bind]
  cases hm:mayR x with
  | false=>simp[pure_bind]
  | true=>
   rw[cond_true,need_true (by simp;omega)];simp[pure_bind]) (fun t _=>by unfold runs_Norm_l0;simp[pure_bind]) [] (by simp)
 have hf:∀ (l t:List TRun),l.foldl (fun t x=>if mayR x then t++[x] else t) t=t++l.filter mayR:=by
  intro l
  induction l with
  | nil=>simp
  | cons x r ih=>
   intro t;rw[List.foldl_cons,ih]
   cases hm:mayR x <;> simp[hm]
 rw[hf,List.nil_append] at h1;have h1':loop (runs_Norm_l0 l) (0,[])=pure (l.filter mayR):=h1;have hfl:(l.filter mayR).length ≤ l.length:=List.length_filter_le _ _;rw[h1',pure_bind,need_true (by omega)];refine eq_pure (srt_wp fun s hs hp=>?_);have hsl:=hs.length_eq;have hmay:∀ x∈s,mayR x=true:=fun x hx=>(List.mem_filter.1 (hs.mem_iff.1 hx)).2
 have hpre:∀ i,Nf ((s.take i).foldl addN []) ∧ ((s.take i).foldl addN []).length ≤ i ∧ ∀ x,s[i]?=some x → ∀ y∈(s.take i).foldl addN [],y.lo ≤ x.lo:=fun i=>by
  obtain⟨i1,i2,i3⟩:=addN_fold (s.take i) [] trivial (fun x hx=>hmay x (List.mem_of_mem_take hx)) (List.Pairwise.sublist (List.take_sublist _ _) hp) (by simp);refine⟨i1,by simp at i3;omega,fun x hx y hy=>?_⟩;have hmy:=mayR_iff.1 (i1.may y hy);have:hasR ((s.take i).foldl addN []) y.lo=true:=hasR_iff.2 ⟨y,hy,i1.may y hy,by omega,by omega⟩;rw[i2] at this;simp only[hasR_nil,Bool.false_or] at this;obtain⟨z,hz,_,h3,_⟩:=hasR_iff.1 this
  -- z is ahead of x; y begins where one of those ahead begins
  have hall:∀ (s out:List TRun),(∀ y∈s.foldl addN out,(∃ z∈out,y.lo=z.lo) ∨ ∃ z∈s,y.lo=z.lo):=by
   intro s
   induction s with
   | nil=>intro out y hy;exact .inl ⟨y,hy,rfl⟩
   | cons a r ih=>
    intro out y hy;rcases ih _ y hy with⟨z,hz,e⟩ | ⟨z,hz,e⟩
    ·rcases snoc_cases out with rfl | ⟨q,w,rfl⟩
     ·rw[addN_nil] at hz;simp at hz;subst hz;exact .inr ⟨z,by simp,e⟩
     ·rw[addN_snoc] at hz
      split at hz
      ·rcases List.mem_append.1 hz with hz | hz
       ·exact .inl ⟨z,by simp[hz],e⟩
       ·simp at hz;subst hz;exact .inl ⟨w,by simp,e⟩
      ·rcases List.mem_append.1 hz with hz | hz
       ·exact .inl ⟨z,hz,e⟩
       ·simp at hz;subst hz;exact .inr ⟨z,by simp,e⟩
    ·exact .inr ⟨z,by simp[hz],e⟩
  rcases hall _ _ y hy with⟨z,hz,_⟩ | ⟨z,hz,e⟩
  ·simp at hz
  ·obtain⟨j,hj,hje⟩:=List.getElem_of_mem hz;have hlt:=(List.getElem?_eq_some_iff.1 hx).1;have hji:j < i:=by simp at hj;omega
   have:=List.pairwise_iff_getElem.1 hp j i (by omega) hlt hji;rw[List.getElem_take] at hje;have hxe:s[i]=x:=by rw[List.getElem?_eq_getElem hlt] at hx;simpa using hx
   rw[hje,hxe] at this;omega
 have h2:=loopL (body:=runs_Norm_l1 (l.filter mayR) s) s (fun i (t:List TRun)=>((i:Int),t)) addN (fun t=>pure t) (fun i t=>t=(s.take i).foldl addN []) (fun i x t hx hi hI=>by
  obtain⟨v1,v2,v3⟩:=hpre i;have v3:=v3 x hx;rw[← hI] at v1 v2 v3;have hxm:=mayR_iff.1 (hmay x (List.mem_of_getElem? hx));have h1:decide ((i:Int) < ((l.filter mayR).length:Int))=true:=by simp;omega
  refine⟨?_,by rw[List.take_add_one,hx];simp[hI]⟩;unfold runs_Norm_l1;simp only[h1,cond_true,idx_nat hx,pure_bind,wSucc (show i < 9223372036854775807 by omega)];rcases snoc_cases t with rfl | ⟨q,y,rfl⟩
  ·have e:decide ((0:Int) ≤ IntKind.i64.wrap (((([]:List TRun).length:Nat):Int) - 1))=false:=by
    rw[wI64 (by simp) (by simp)];simp
   rw[e];simp only[cond_false,pure_bind];rw[need_true (by simp),addN_nil]
   rfl
  ·have hy:=(nf_snoc.1 v1).2.1;have hym:=mayR_iff.1 hy;have e0:IntKind.i64.wrap ((((q++[y]).length:Nat):Int) - 1)=(q.length:Int):=by
    simp only[List.length_append,List.length_singleton] at v2 ⊢;rw[wI64 (by omega) (by omega)];omega
   have e1:idx (q++[y]) (q.length:Int)=pure y:=idx_nat (by simp);have e3:decide ((0:Int) ≤ (q.length:Int))=true:=by simp
   rw[e0,e3];simp only[cond_true,e1,pure_bind,wU64 (show 0 ≤ y.hi+1 by omega) (by omega)];rw[addN_snoc]
   by_cases hc:x.lo ≤ y.hi+1
   ·simp only[hc,decide_true,cond_true,if_true,Int.toNat_natCast];have:(q++[y]).set q.length (⟨y.lo,max y.hi x.hi⟩:TRun)=q++[⟨y.lo,max y.hi x.hi⟩]:=by simp
    rw[this]
    rfl
   ·simp only[hc,decide_false,cond_false,if_false];rw[need_true (by simp only[List.length_append,List.length_singleton] at v2 ⊢;omega)]
    rfl) (fun t _=>by
  unfold runs_Norm_l1;have e:decide ((s.length:Int) < ((l.filter mayR).length:Int))=false:=by simp;omega
  simp only[e,cond_false,pure_bind]) [] (by simp)
 show(M.bind (M.loop (runs_Norm_l1 (l.filter mayR) s) (0,[])) fun out38=>M.pure out38).wp (·=nrm l);rw[show((0:Int),([]:List TRun))=(((0:Nat):Int),[]) from rfl,h2];obtain⟨i1,i2,_⟩:=addN_fold s [] trivial hmay hp (by simp);exact nrm_of i1 fun n=>by rw[i2,hasR_perm hs,hasR_filter];simp
def ones(nums:List Int):List TRun:=nums.map fun n=>⟨n,n⟩
def cmp3(x y:Int):Int:=if x < y then -1 else if y < x then 1 else 0
theorem cmp3_eq(x y:Int):cmp_Compare_uint64 x y=pure (cmp3 x y):=by
 unfold cmp_Compare_uint64 cmp_isNaN_uint64 cmp3;simp only[decide_true,Bool.not_true,det_pure,pure_bind,cond_false,cond_dec]
 split
 ·rfl
 ·split <;> rfl
theorem hasC_eq(x:TRun)(n:Int):runs_Has_c1 x n=pure (cmp3 x.hi n):=by
 unfold runs_Has_c1;rw[cmp3_eq,det_pure,pure_bind]
def cntB : List TRun → Int → Nat
 | [],_=>0
 | x::r,n=>if x.hi < n then cntB r n+1 else 0
theorem cntB_uniq : ∀ {v:List TRun} {n:Int} {c:Nat},c ≤ v.length → (∀ (k:Nat) (x:TRun),k < c → v[k]?=some x → x.hi < n) → (∀ (k:Nat) (x:TRun),c ≤ k → v[k]?=some x → n ≤ x.hi) → c=cntB v n
 | [],n,c,h,_,_=>by simp at h;simp[cntB,h]
 | x::r,n,0,_,_,h2=>by
  have:=h2 0 x (by omega) rfl;simp only[cntB];rw[if_neg (by omega)]
 | x::r,n,c+1,h,h1,h2=>by
  have:=h1 0 x (by omega) rfl;simp only[cntB];rw[if_pos this,← cntB_uniq (v:=r) (n:=n) (c:=c) (by simpa using h) (fun k y hk hy=>h1 (k+1) y (by omega) (by simpa using hy)) (fun k y hk hy=>h2 (k+1) y (by omega) (by simpa using hy))]
theorem nf_mono{v:List TRun}(h:Nf v):∀ {i j:Nat} {x y:TRun},i < j → v[i]?=some x → v[j]?=some y → x.hi < y.hi:=by
 induction v with
 | nil=>intro i j x y _ hx;simp at hx
 | cons z r ih=>
  intro i j x y hij hx hy
  cases j with
  | zero=>omega
  | succ j=>
   have hyr:r[j]?=some y:=by simpa using hy
   have hym:=List.mem_of_getElem? hyr
   cases i with
   | zero=>
    simp at hx;subst hx;have:=h.2.1 y hym;have:=mayR_iff.1 (h.2.2.may y hym);omega
   | succ i=>exact ih h.2.2 (show i < j by omega) (by simpa using hx) hyr
theorem bs_loop(v:List TRun)(n:Int)(hv:Nf v)(hl:v.length ≤ 1000000000000):loop (slices_BinarySearchFunc_sl_Run_Run_uint64_runs_Has_c1_l0 v n) (0,(v.length:Int))=pure (cntB v n:Int):=by
 refine eq_pure (loop_inv (fun s=>∃ i j:Nat,s=((i:Int),(j:Int)) ∧ i ≤ j ∧ j ≤ v.length ∧ (∀ (k:Nat) (x:TRun),k < i → v[k]?=some x → x.hi < n) ∧ (∀ (k:Nat) (x:TRun),j ≤ k → v[k]?=some x → n ≤ x.hi)) (fun s=>(s.2 - s.1).toNat) ?_ _ ⟨0,v.length,rfl,Nat.zero_le _,Nat.le_refl _,fun k x hk=>absurd hk (Nat.not_lt_zero _),fun k x hk hx=>absurd (List.getElem?_eq_some_iff.1 hx).1 (Nat.not_lt.2 hk)⟩);rintro _ ⟨i,j,rfl,hij,hj,h1,h2⟩;unfold slices_BinarySearchFunc_sl_Run_Run_uint64_runs_Has_c1_l0;simp only[cond_dec]
 by_cases hc:(i:Int) < j
 ·rw[if_pos hc];have e:IntKind.i64.wrap (Int.fdiv (IntKind.u64.wrap (IntKind.i64.wrap ((i:Int)+j))) (2 ^ 1))=(((i+j) / 2:Nat):Int):=by
   rw[wI64 (n:=(i:Int)+j) (by omega) (by omega),wU64 (by omega) (by omega),Int.fdiv_eq_ediv_of_nonneg _ (by decide)];have:((i:Int)+j) / 2 ^ 1=(((i+j) / 2:Nat):Int):=by omega
   rw[this,wI64 (by omega) (by omega)]
  have hm:(i+j) / 2 < v.length:=by omega
  rw[e];simp only[idx_nat (List.getElem?_eq_getElem hm),pure_bind,hasC_eq,det_pure,wSucc (show(i+j) / 2 < 9223372036854775807 by omega)]
  by_cases hlt:v[(i+j) / 2].hi < n
  ·have:cmp3 v[(i+j) / 2].hi n < 0:=by unfold cmp3;rw[if_pos hlt];decide
   rw[if_pos this];refine⟨⟨(i+j) / 2+1,j,rfl,by omega,hj,fun k x hk hx=>?_,h2⟩,?_⟩
   ·by_cases e:k=(i+j) / 2
    ·subst e;rw[List.getElem?_eq_getElem hm] at hx;cases hx;exact hlt
    ·have:=nf_mono hv (show k < (i+j) / 2 by omega) hx (List.getElem?_eq_getElem hm);omega
   ·simp only;omega
  ·have:¬ cmp3 v[(i+j) / 2].hi n < 0:=by unfold cmp3;rw[if_neg hlt];split <;> decide
   rw[if_neg this];refine⟨⟨i,(i+j) / 2,rfl,by omega,by omega,h1,fun k x hk hx=>?_⟩,?_⟩
   ·by_cases e:k=(i+j) / 2
    ·subst e;rw[List.getElem?_eq_getElem hm] at hx;cases hx;omega
    ·have:=nf_mono hv (show(i+j) / 2 < k by omega) (List.getElem?_eq_getElem hm) hx;omega
   ·simp only;omega
 ·rw[if_neg hc];have hij':i=j:=by omega
  subst hij';show(i:Int)=(cntB v n:Int)
  rw[← cntB_uniq hj h1 h2]
def hitB(v:List TRun)(n:Int):Bool:=match v[cntB v n]? with | some x=>decide (cmp3 x.hi n=0) | none=>false
theorem bs_eq(v:List TRun)(n:Int)(hv:Nf v)(hl:v.length ≤ 1000000000000):slices_BinarySearchFunc_sl_Run_Run_uint64_runs_Has_c1 v n=pure ((cntB v n:Int),hitB v n):=by
 unfold slices_BinarySearchFunc_sl_Run_Run_uint64_runs_Has_c1 hitB;rw[bs_loop v n hv hl,pure_bind]
 by_cases hc:cntB v n < v.length
 ·have:decide ((cntB v n:Int) < (v.length:Int))=true:=by simpa using hc
  rw[this,cond_true,idx_nat (List.getElem?_eq_getElem hc)];simp only[pure_bind,hasC_eq,det_pure,List.getElem?_eq_getElem hc]
 ·have:decide ((cntB v n:Int) < (v.length:Int))=false:=by simpa using hc
  rw[this,cond_false,pure_bind,List.getElem?_eq_none (by omega)]
theorem cntB_has : ∀ {v:List TRun} (n:Int),Nf v → hasR v n=(match v[cntB v n]? with | some x=>decide (x.lo ≤ n) | none=>false)
 | [],n,_=>rfl
 | x::r,n,h=>by
  by_cases hc:x.hi < n
  ·simp only[cntB,if_pos hc,List.getElem?_cons_succ];rw[← cntB_has n h.2.2,hasR_cons];have:inR n x=false:=by
    rw[Bool.eq_false_iff];intro h;have:=(inR_iff.1 h).2.2;omega
   rw[this,Bool.false_or]
  ·simp only[cntB,if_neg hc,List.getElem?_cons_zero];rw[Bool.eq_iff_iff,decide_eq_true_eq]
   constructor
   ·exact nf_least h
   ·intro hle;exact(nf_hi h hle).2 (.inl (by omega))
theorem has_eq(l:List TRun)(n:Int)(h:l.length ≤ 100000000000):runs_Has l n=pure (hasR l n):=by
 unfold runs_Has;have hl:=nrm_len l;rw[norm_eq l (by omega),det_pure,pure_bind,bs_eq _ n (nrm_nf l) (by omega),det_pure,pure_bind,← nrm_has l n,cntB_has n (nrm_nf l)]
 generalize nrm l=v
 by_cases hc:cntB v n < v.length
 ·have:decide ((cntB v n:Int) < (v.length:Int))=true:=by simpa using hc
  simp only[this,cond_true,idx_nat (List.getElem?_eq_getElem hc),pure_bind,List.getElem?_eq_getElem hc]
 ·have:decide ((cntB v n:Int) < (v.length:Int))=false:=by simpa using hc
  simp only[this,cond_false,pure_bind,List.getElem?_eq_none (show v.length ≤ cntB v n by omega)]
theorem meet_loop(A B:List TRun)(hA:Nf A)(hB:Nf B)(hl:A.length+B.length ≤ 1000000000000):(loop runs_Meet_l0 (A,B,[])).wp fun r=>Nf r ∧ ∀ n,hasR r n=(hasR A n&&hasR B n):=by
 refine loop_inv (fun s:List TRun×List TRun×List TRun=>Nf s.1 ∧ Nf s.2.1 ∧ Nf s.2.2 ∧ (∀ y∈s.2.2,∀ x∈s.1,∀ z∈s.2.1,y.hi+1 < max x.lo z.lo) ∧ (∀ n,(hasR s.2.2 n||(hasR s.1 n&&hasR s.2.1 n))=(hasR A n&&hasR B n)) ∧ s.2.2.length+s.1.length+s.2.1.length ≤ A.length+B.length) (fun s=>s.1.length+s.2.1.length) ?_ (A,B,[]) ⟨hA,hB,(trivial:Nf []),by simp,by simp,by simp⟩;rintro⟨a,b,out⟩ ⟨h1,h2,h3,h4,h5,h6⟩;simp only at h1 h2 h3 h4 h5 h6;unfold runs_Meet_l0
 cases a with
 | nil=>exact⟨h3,fun n=>by rw[← h5];simp⟩
 | cons x r=>
  cases b with
  | nil=>
   have e1:decide ((0:Int) < ((x::r).length:Int))=true:=by simp only[List.length_cons,decide_eq_true_eq];omega
   simp only[e1,cond_true];exact⟨h3,fun n=>by rw[← h5];simp⟩
  | cons z q=>
   have hx:=mayR_iff.1 h1.1;have hz:=mayR_iff.1 h2.1;have e1:decide ((0:Int) < ((x::r).length:Int))=true:=by simp only[List.length_cons,decide_eq_true_eq];omega
   have e2:decide ((0:Int) < ((z::q).length:Int))=true:=by simp only[List.length_cons,decide_eq_true_eq];omega
   simp only[e1,e2,cond_true,pure_bind,idx_eq (l:=x::r) (i:=0) (y:=x) (by omega) rfl,idx_eq (l:=z::q) (i:=0) (y:=z) (by omega) rfl]
   -- the new list
   have hout:∃ out',(cond (decide (max x.lo z.lo ≤ min x.hi z.hi)) (M.need ((List.length out+List.length [(⟨max x.lo z.lo,min x.hi z.hi⟩:TRun)])*16 ≤ 140737488355328) (M.pure (out++[⟨max x.lo z.lo,min x.hi z.hi⟩]))) (M.pure out))=M.pure out' ∧ Nf out' ∧ (∀ n,hasR out' n=(hasR out n||(inR n x&&inR n z))) ∧ (∀ y∈out',y∈out ∨ y.hi=min x.hi z.hi) ∧ out'.length ≤ out.length+1:=by
    by_cases hc:max x.lo z.lo ≤ min x.hi z.hi
    ·refine⟨out++[⟨max x.lo z.lo,min x.hi z.hi⟩],?_,nf_snoc.2 ⟨h3,mayR_iff.2 ⟨by simp only;omega,hc,by simp only;omega⟩,fun y hy=>h4 y hy x (by simp) z (by simp)⟩,fun n=>?_,fun y hy=>?_,by simp⟩
     ·rw[decide_eq_true hc,cond_true,need_true];simp at h6 ⊢;omega
     ·rw[hasR_app,hasR_one]
      congr 1
      rw[Bool.eq_iff_iff,Bool.and_eq_true,inR_iff,inR_iff,inR_iff];simp only;omega
     ·rcases List.mem_append.1 hy with hy | hy
      ·exact .inl hy
      ·simp at hy;subst hy;exact .inr rfl
    ·refine⟨out,by rw[decide_eq_false hc];rfl,h3,fun n=>?_,fun y hy=>.inl hy,by omega⟩;have:(inR n x&&inR n z)=false:=by
      rw[Bool.eq_false_iff];intro h;rw[Bool.and_eq_true,inR_iff,inR_iff] at h;omega
     rw[this,Bool.or_false]
   obtain⟨out',o1,o2,o3,o4,o5⟩:=hout;have hh:∀ n,hasR out' n=(hasR out n||(inR n x&&inR n z)):=o3;rw[o1];simp only[pure_bind,cond_dec]
   by_cases hc:x.hi < z.hi
   ·rw[if_pos hc,need_true ⟨by omega,by simp only[List.length_cons];omega,by omega⟩];have ed:List.drop (Int.toNat 1) (List.take (Int.toNat ((x::r).length:Int)) (x::r))=r:=by simp
    rw[ed];refine⟨⟨h1.2.2,h2,o2,fun y hy x' hx' z' hz'=>?_,fun n=>?_,by simp at h6 ⊢;omega⟩,by simp only[List.length_cons];omega⟩
    ·rcases o4 y hy with hy | hy
     ·have:=h4 y hy x' (List.mem_cons_of_mem _ hx') z' hz';omega
     ·have:=h1.2.1 x' hx';omega
    ·simp only;rw[hh,← h5,hasR_cons x,hasR_cons z,Bool.or_assoc]
     congr 1
     have hxq:(inR n x&&hasR q n)=false:=by
      rw[Bool.eq_false_iff];intro h;rw[Bool.and_eq_true,inR_iff] at h;have:=nf_low h2 h.2;omega
     cases hv1:inR n x <;> cases hv2:inR n z <;> cases hv3:hasR r n <;> cases hv4:hasR q n <;> simp_all
   ·rw[if_neg hc,need_true ⟨by omega,by simp only[List.length_cons];omega,by omega⟩];have ed:List.drop (Int.toNat 1) (List.take (Int.toNat ((z::q).length:Int)) (z::q))=q:=by simp
    rw[ed];refine⟨⟨h1,h2.2.2,o2,fun y hy x' hx' z' hz'=>?_,fun n=>?_,by simp at h6 ⊢;omega⟩,by simp only[List.length_cons];omega⟩
    ·rcases o4 y hy with hy | hy
     ·have:=h4 y hy x' hx' z' (List.mem_cons_of_mem _ hz');omega
     ·have:=h2.2.1 z' hz';omega
    ·simp only;rw[hh,← h5,hasR_cons x,hasR_cons z,Bool.or_assoc]
     congr 1
     have hxq:(inR n z&&hasR r n)=false:=by
      rw[Bool.eq_false_iff];intro h;rw[Bool.and_eq_true,inR_iff] at h;have:=nf_low h1 h.2;omega
     cases hv1:inR n x <;> cases hv2:inR n z <;> cases hv3:hasR r n <;> cases hv4:hasR q n <;> simp_all
theorem meetN_eq(a b:List TRun)(ha:a.length ≤ 100000000000)(hb:b.length ≤ 100000000000):runs_Meet a b=pure (setR (·&&·) a b):=by
 unfold runs_Meet;have la:=nrm_len a;have lb:=nrm_len b;rw[norm_eq a (by omega),det_pure,pure_bind,norm_eq b (by omega),det_pure,pure_bind];refine eq_pure ((loop runs_Meet_l0 (nrm a,nrm b,[])).mono (fun r ⟨h1,h2⟩=>?_) (meet_loop (nrm a) (nrm b) (nrm_nf a) (nrm_nf b) (by omega)));obtain⟨s1,s2,_⟩:=setR_props (·&&·) rfl a b;exact nf_ext h1 s1 fun n=>by rw[h2,s2,nrm_has,nrm_has]
def restP : Int → List TRun → List TRun
 | at_,[]=>[⟨at_,281474976710655⟩]
 | at_,x::r=>⟨at_,x.lo - 1⟩::restP (x.hi+1) r
theorem restP_len(l:List TRun)(p:Int):(restP p l).length=l.length+1:=by
 induction l generalizing p with
 | nil=>rfl
 | cons x r ih=>simp[restP,ih]
theorem restP_has : ∀ (l:List TRun) (p:Int),Nf l → 1 ≤ p → (∀ x∈l,p ≤ x.lo) → ∀ n,hasR (restP p l) n=true↔p ≤ n ∧ n ≤ 281474976710655 ∧ hasR l n=false
 | [],p,_,hp,_,n=>by
  rw[restP,hasR_one,inR_iff];simp only[hasR_nil,and_true];omega
 | x::r,p,h,hp,hlo,n=>by
  have hx:=mayR_iff.1 h.1;have:=hlo x (by simp);rw[restP,hasR_cons,Bool.or_eq_true,restP_has r (x.hi+1) h.2.2 (by omega) (fun y hy=>by have:=h.2.1 y hy;omega) n,inR_iff];simp only;have hr:hasR (x::r) n=false↔(n < x.lo ∨ x.hi < n) ∧ hasR r n=false:=by
   rw[hasR_cons,Bool.or_eq_false_iff];refine and_congr_left fun _=>?_
   rw[Bool.eq_false_iff,ne_eq,inR_iff];omega
  rw[hr];have hrl:n < x.lo → hasR r n=false:=fun hn=>by
   rw[Bool.eq_false_iff];intro h2;have:=nf_low h h2;omega
  constructor
  ·rintro(h2 | h2)
   ·exact⟨h2.2.1,by omega,.inl (by omega),hrl (by omega)⟩
   ·exact⟨by omega,h2.2.1,.inr (by omega),h2.2.2⟩
  ·rintro⟨h2,h3,h4,h5⟩;rcases h4 with h4 | h4
   ·left;omega
   ·right;exact⟨by omega,h3,h5⟩
theorem rest_eq(l:List TRun)(h:l.length ≤ 100000000000):runs_rest l=pure (restP 1 (nrm l)):=by
 unfold runs_rest;have hl:=nrm_len l;have hn:=nrm_nf l;rw[norm_eq l (by omega),det_pure,pure_bind]
 generalize nrm l=v at hl hn
 have h1:=loopL (body:=runs_rest_l0 v) v (fun i (t:Int×List TRun)=>(t.1,(i:Int),t.2)) (fun t x=>(x.hi+1,t.2++[⟨t.1,x.lo - 1⟩])) (fun t=>pure t) (fun i t=>t.2.length=i) (fun i x t hx hi hI=>by
  have h1:decide ((i:Int) < (v.length:Int))=true:=by simpa using hi
  have hm:=mayR_iff.1 (hn.may x (List.mem_of_getElem? hx));refine⟨?_,by simp[hI]⟩;unfold runs_rest_l0;simp only[h1,cond_true,idx_nat hx,pure_bind,wSucc (show i < 9223372036854775807 by omega),wU64 (show 0 ≤ x.lo - 1 by omega) (by omega),wU64 (show 0 ≤ x.hi+1 by omega) (by omega)];rw[need_true (by simp;omega)]) (fun t _=>by unfold runs_rest_l0;simp[pure_bind]) (1,[]) rfl
 rw[show((1:Int),(0:Int),([]:List TRun))=(1,((0:Nat):Int),[]) from rfl,h1];simp only[pure_bind];have hf:∀ (l:List TRun) (t:Int×List TRun),(l.foldl (fun(t:Int×List TRun) x=>(x.hi+1,t.2++[(⟨t.1,x.lo - 1⟩:TRun)])) t).2++[⟨(l.foldl (fun(t:Int×List TRun) x=>(x.hi+1,t.2++[(⟨t.1,x.lo - 1⟩:TRun)])) t).1,281474976710655⟩]=t.2++restP t.1 l ∧ (l.foldl (fun(t:Int×List TRun) x=>(x.hi+1,t.2++[(⟨t.1,x.lo - 1⟩:TRun)])) t).2.length=t.2.length+l.length:=by
  intro l
  induction l with
  | nil=>intro t;exact⟨rfl,by simp⟩
  | cons x r ih=>
   intro t;rw[List.foldl_cons];obtain⟨i1,i2⟩:=ih (x.hi+1,t.2++[⟨t.1,x.lo - 1⟩]);exact⟨by rw[i1];simp[restP],by rw[i2];simp;omega⟩
 obtain⟨f1,f2⟩:=hf v (1,[])
 generalize v.foldl (fun(t:Int×List TRun) x=>(x.hi+1,t.2++[(⟨t.1,x.lo - 1⟩:TRun)])) (1,[])=t at f1 f2
 obtain⟨p,out⟩:=t;simp only[List.length_nil] at f1 f2 ⊢;rw[need_true (by simp;omega),f1]
 rfl
theorem minus_eq(a b:List TRun)(ha:a.length ≤ 10000000000)(hb:b.length ≤ 10000000000):runs_Minus a b=pure (setR (fun x y=>x&&!y) a b):=by
 unfold runs_Minus;have lb:=nrm_len b;have lr:=restP_len (nrm b) 1;rw[rest_eq b (by omega),det_pure,pure_bind,meetN_eq a _ (by omega) (by omega),det_pure,pure_bind];refine congrArg pure ?_;obtain⟨s1,s2,_⟩:=setR_props (·&&·) rfl a (restP 1 (nrm b));obtain⟨t1,t2,_⟩:=setR_props (fun x y=>x&&!y) rfl a b;refine nf_ext s1 t1 fun n=>?_
 rw[s2,t2,← nrm_has b]
 cases hh:hasR a n with
 | false=>rfl
 | true=>
  have:=hasR_range hh;rw[Bool.true_and,Bool.true_and,Bool.eq_iff_iff,restP_has (nrm b) 1 (nrm_nf b) (by omega) (fun x hx=>(mayR_iff.1 ((nrm_nf b).may x hx)).1) n];simp only[Bool.not_eq_true'];exact⟨fun h=>h.2.2,fun h=>⟨this.1,this.2,h⟩⟩
theorem ones_len(l:List Int):(ones l).length=l.length:=by simp[ones]
end Go.Ep.M.R

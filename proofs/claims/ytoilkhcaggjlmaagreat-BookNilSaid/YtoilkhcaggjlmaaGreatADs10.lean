/- Side texts. -/
import Derived.Test.YtoilkhcaggjlmaaGreatADs2
import Derived.Test.YtoilkhcaggjlmaaGreatADs3
import Derived.Test.YtoilkhcaggjlmaaGreatADs4
import Derived.Test.YtoilkhcaggjlmaaGreatADs5
import Derived.Test.YtoilkhcaggjlmaaGreatADs6
import Derived.Test.YtoilkhcaggjlmaaGreatADs7
import Derived.Test.YtoilkhcaggjlmaaGreatADs8
import Derived.Test.YtoilkhcaggjlmaaGreatADs9
set_option linter.unusedVariables false
set_option linter.unusedSimpArgs false
namespace Go.Ep
def EV.eM(M:Nat->Prop)(x:EV):List DV:=[.v (.int .u16 x.dot.dev),.v (.int .u64 x.dot.n),.v (.int .u8 x.kind),.v (.int .u64 x.cid),.v (.int .u8 x.field),.v (.string x.text),.rw M 25 2 (x.kills.map DT.v)]
def EV.F(x:EV)(f:DV->DV):List DV:=[.v (.int .u16 x.dot.dev),.v (.int .u64 x.dot.n),.v (.int .u8 x.kind),.v (.int .u64 x.cid),.v (.int .u8 x.field),.v (.string x.text),f (.sl (List.map DT.e x.kills))]
theorem flE(x:EV):FL (EV.F x):=.v _<|.v _<|.v _<|.v _<|.v _<|.v _<|.f _<|.nil
theorem plainE(x:EV):∀ y∈EV.F x (fun y=>y),Plain y:=fun y hy=>by
 simp only[EV.F,List.mem_cons,List.not_mem_nil,or_false] at hy;rcases hy with rfl | rfl | rfl | rfl | rfl | rfl | rfl
 iterate 6 exact .v _
 exact .slm (fun a x hx=>by
  simp only[DT.e,List.mem_cons,List.not_mem_nil,or_false] at hx;rcases hx with rfl | rfl <;> exact .v _) _
theorem Zq(l:List DT):wV (l.map DT.v)=l.map DT.e:=by
 unfold wV;rw[List.map_map];rfl
theorem wkM(β:Option Nat)(e:EV):Wk (.agg (List.map .d (EV.eM (fun b=>β=some b) e))) (.agg (List.map .d (EV.e e))):=WkL.agg (.cons (.refl _)<|.cons (.refl _)<|.cons (.refl _)<|.cons (.refl _)<|.cons (.refl _)<|.cons (.refl _)<|.cons (by have:=Wk.rw (fun b=>β=some b) 25 2 (e.kills.map DT.v);rwa [Zq] at this)<|.nil)
theorem avF(M N:Nat->Prop)(x:EV)(h:∀ b,M b->¬ N b):AvO M (.cells 28 ((EV.F x (.od N)).map .d)):=.cells _ _ fun q hq=>by
 simp only[EV.F,List.map_cons,List.map_nil,List.mem_cons,List.not_mem_nil,or_false] at hq;rcases hq with rfl | rfl | rfl | rfl | rfl | rfl | rfl
 iterate 6 exact .d (.v _)
 exact .d (.od _ _ h)
theorem avBook(M:Nat->Prop)(i j:Nat):AvO M (.cells 49 [.junk,.mp i,.mp j]):=.cells _ _ fun q hq=>by
 simp only[List.mem_cons,List.not_mem_nil,or_false] at hq;rcases hq with rfl | rfl | rfl
 ·exact .junk
 ·exact .mp _
 ·exact .mp _
theorem avMap{nl:Bool}{m:List (DT×EV)}(M N:Nat->Prop)(h:∀ b,M b->¬ N b):AvO M (.mapH nl [.u16,.u64] true (zI DT.k (EV.eO N) m)):=.mapH _ _ _ _ fun e he x hx=>by
 simp only[zI,List.mem_map] at he;obtain⟨y,_,rfl⟩:=he;simp only[EV.eO,List.mem_cons,List.not_mem_nil,or_false] at hx;rcases hx with rfl | rfl | rfl | rfl | rfl | rfl | rfl
 iterate 6 exact .v _
 exact .od _ _ h
def Qk(e1 own:EV)(c:List PT)(nl:Bool)(m:List (DT×EV))(nl2:Bool)(m2:List (DT×EV)):M Bool:=
 M.yo (m=[]/\m2=[]) <|
 M.bind (M.det (zk own c nl [] nl2 [])) fun p=>
 M.bind (M.det (yS p.2.1 p.2.2.1 p.2.2.2.1 p.2.2.2.2.1 p.2.2.2.2.2)) fun l=>
 M.yo (∀ e∈l,e.kills.length<=1000000000000) <|
 M.bind (M.det (YU e1)) fun v146=>
 cond (!(v146==decide (p.1=0))) (M.pure false)
 (M.bind (cond (!decide (p.1=0)) (M.pure true) (M.bind (M.det (jJ l [e1])) fun v156=>M.pure v156)) fun v158=>
 cond v158 (M.bind (M.det vq) fun v159=>M.pure v159) (M.pure false))
def uU(e1:EV)(c2:List PT):M Bool:=
 M.bind (M.bind (M.det (VV ([e1]) 1)) fun v4=>
 cond (!v4)
  (M.pure true)
  (M.bind (M.det (jG c2)) fun v7=>
  M.pure (!v7))) (fun v3=>
 cond v3
  (M.bind (M.det (vq)) fun v10=>
  M.pure v10)
  (M.bind (M.det (xr e1)) fun v12=>
  M.bind (M.det (wY c2)) fun v14=>
  M.bind (cond (!decide (v12.2=1))
   (M.pure true)
   (M.bind (M.det (wb e1)) fun v18=>
   cond (!decide (v18=1))
    (M.pure true)
    (M.bind (M.det (yw c2)) fun v21=>
    cond (!decide (v21=0))
     (M.pure true)
     (M.bind (M.det (yu)) fun v24=>
     cond ((!decide ((v24.length:Int)=0)))
      (M.pure true)
      (M.bind (M.det (yg)) fun v27=>
      M.bind (M.det (yT)) fun v29=>
      M.bind (M.det (yv)) fun v31=>
      M.bind (M.det (xd e1.cid)) fun v33=>
      cond ((!decide (((IntKind.i64.wrap (((IntKind.i64.wrap (((IntKind.i64.wrap ((v27.length:Int)+(v29.length:Int))))+(v31.length:Int))))+(v33.length:Int))))=0)))
       (M.pure true)
       (M.bind (M.det (vI)) fun y36=>
       M.bind (M.det (um)) fun y38=>
       M.bind (M.det (ZI y38.1 y38.2.1 y38.2.2.1 y38.2.2.2.1 y38.2.2.2.2)) fun y40=>
       M.pure (!y40))))))) (fun v16=>
  cond v16
   (M.pure false)
   (M.bind (M.det (xt ([]:List PT) ([]:List PT) true ([]:List (DT×EV)) true ([]:List (DT×EV)))) fun y43=>
   M.bind (M.det (yr c2 y43 true ([]:List (DT×EV)) true ([]:List (DT×EV)))) fun y45=>
   M.bind (M.det (Wu ([e1]))) fun v47=>
   M.bind (M.idx v47 0) fun x49=>
   M.yo ((List.length ([]:List DT)+e1.kills.length)*16<=140737488355328) <|
   Qk e1 (⟨x49.dot,x49.kind,x49.cid,x49.field,x49.text,e1.kills⟩:EV) y43 y45.2.1 y45.2.2.1 y45.2.2.2.1 y45.2.2.2.2))))
end Go.Ep
namespace Go.Proofs
open Go.Ep
set_option maxHeartbeats 1000000
set_option maxRecDepth 100000
set_option linter.unusedVariables false
set_option linter.unusedSimpArgs false
def Ql(k:Nat)(L:List DT):List DT:=L.mapIdx fun j d=>if j < k then ⟨d.dev,IntKind.u64.wrap (d.n+1)⟩ else d
theorem Wz(k:Nat)(L:List DT)(j:Nat):(Ql k L)[j]?=L[j]?.map fun d=>if j < k then ⟨d.dev,IntKind.u64.wrap (d.n+1)⟩ else d:=by simp[Ql]
theorem VA(k:Nat)(L:List DT):(Ql k L).length=L.length:=by simp[Ql]
theorem yna(L:List DT):Ql 0 L=L:=by
 apply List.ext_getElem?;intro j;simp[Wz]
theorem bump_set(k:Nat)(L:List DT)(d:DT)(h:L[k]?=some d):(Ql k L).set k ⟨d.dev,IntKind.u64.wrap (d.n+1)⟩=Ql (k+1) L:=by
 apply List.ext_getElem?;intro j;rw[Wz,List.getElem?_set,Wz,VA]
 by_cases h1:k=j
 ·subst h1;rw[if_pos rfl,if_pos (List.getElem?_eq_some_iff.1 h).1,h];simp
 ·rw[if_neg h1]
  cases hj:L[j]? with
  | none=>rfl
  | some z=>
   simp only[Option.map_some]
   by_cases h2:j < k
   ·rw[if_pos h2,if_pos (by omega)]
   ·rw[if_neg h2,if_neg (by omega)]
def WZ(n:Nat):Nat->M (M.Step Nat Unit):=fun i=>cond (decide ((i:Int) < (n:Int))) (M.pure (.next (i+1))) (M.pure (.done ()))
theorem yoa(n:Nat){R:Unit->Prop}(hR:R ())(i:Nat):(M.loop (WZ n) i).wp R:=by
 intro Q hQ;have key:∀ k i,n - i<=k->Q i:=by
  intro k
  induction k with
  | zero=>
   intro i hi;refine hQ i ?_;unfold WZ;rw[show decide ((i:Int) < (n:Int))=false from decide_eq_false (by omega)];exact hR
  | succ k ih=>
   intro i hi;refine hQ i ?_;unfold WZ
   by_cases h:i < n
   ·rw[show decide ((i:Int) < (n:Int))=true from decide_eq_true (by omega)];exact ih (i+1) (by omega)
   ·rw[show decide ((i:Int) < (n:Int))=false from decide_eq_false (by omega)];exact hR
 exact key _ i (Nat.le_refl _)
theorem ypa{P:Program}{ctx':Ctx}{x y:Code}{R:Exit->Act->World->Prop}{s:PState}(h:PWc P ctx' x (fun e t=>e=.normal/\∀ a w,Rel ctx' t a w->y.wp P R a w) s):∀ a w,Rel ctx' s a w->(x.seq y).wp P R a w:=fun a w hr=>
 wp_seq (wp_mono (h a w hr) fun e a' w' ⟨t,⟨he,h1⟩,h2⟩=>by subst he;exact h1 a' w' h2)
theorem Vj(e1:EV)(c2:List PT)(r0:Bool)(h:(uU e1 c2).wp (·=r0)):PFun Tryz.prog 3 [.agg (List.map .d (EV.e e1)),.d (.sl (List.map PT.e c2))] (.d (.v (.bool r0))):=by
 refine PFun.intro0 (sl:=[(0,_),(1,_)]) Tryz.func3 rfl Tryz.ntmps3 rfl rfl ?_;intro ctx hK hK0;refine PWc.seq ?_;refine PWc.region ?_;refine PWl.step (LR.box rfl rfl rfl rfl) rfl ?_;refine PWl.step (LR.assign rfl) rfl ?_;refine PWl.nil ?_;refine PWc.seq ?_;refine PWc.seq ?_;refine PWc.jn (zH h) (fun(v3:Bool) (_:Unit)=>⟨161,[(1,.d (.sl (List.map PT.e c2))),(2,.ref 2 0),(23,.d (.v (.bool v3)))],[(2,.cells 28 [.d (.v (.int .u16 e1.dot.dev)),.d (.v (.int .u64 e1.dot.n)),.d (.v (.int .u8 e1.kind)),.d (.v (.int .u64 e1.cid)),.d (.v (.int .u8 e1.field)),.d (.v (.string e1.text)),.d (.sl (List.map DT.e e1.kills))])]⟩) (fun h=>?_) ?_
 ·refine PWc.region ?_;refine PWl.step (LR.loadRefAgg (ps:=[_,_,_,_,_,_,_]) Tryz.isAgg28 Tryz.sizeOf28 rfl rfl rfl rfl) rfl ?_;refine PWl.step (LR.buildSliceD [.tmp 15] xA rfl rfl (.cons rfl rfl rfl<|.nil) (by decide) (by decide)) rfl ?_;replace h:=za h;obtain⟨v4,hy5,h⟩:=h;refine PWl.step (LR.callN (zba ([e1]) 1 v4 hy5) rfl Tryz.call4 rfl rfl rfl rfl) rfl ?_;refine PWl.step (LR.not rfl) rfl ?_;refine PWl.step (LR.move rfl) rfl ?_;refine PWl.split (d:=19) rfl (fun hg6=>?_) (fun hg6=>?_)
  ·replace h:=iT hg6 h;refine PWl.guardF rfl rfl rfl (by decide) ?_;refine PWl.guardF rfl rfl rfl (by decide) ?_;refine PWl.guardF rfl rfl rfl (by decide) ?_;refine PWl.step (LR.pickT rfl rfl) rfl ?_;refine PWl.nil ?_;exact⟨true,(),h,Sub.of rfl (.cons rfl rfl<|.cons rfl rfl<|.cons rfl rfl<|.nil) (.cons rfl rfl<|.nil)⟩
  ·replace h:=iF hg6 h;refine PWl.guardT (LR.move rfl) rfl rfl rfl ?_;replace h:=za h;obtain⟨v7,hy8,h⟩:=h;refine PWl.guardT (LR.callN (zca c2 v7 hy8) rfl Tryz.call5 rfl rfl rfl rfl) rfl rfl rfl ?_;refine PWl.guardT (LR.not rfl) rfl rfl rfl ?_;refine PWl.step (LR.pickF rfl rfl) rfl ?_;refine PWl.nil ?_;exact⟨(!v7),(),h,Sub.of rfl (.cons rfl rfl<|.cons rfl rfl<|.cons rfl rfl<|.nil) (.cons rfl rfl<|.nil)⟩
 ·rintro v3 _ h;refine PWc.cond rfl (fun hc9=>?_) (fun hc9=>?_)
  ·replace h:=iT hc9 h;refine PWc.seq ?_;refine PWc.region ?_;replace h:=za h;obtain⟨v10,hy11,h⟩:=h;refine PWl.step (LR.callN (Zo v10 hy11) rfl Tryz.call6 rfl rfl rfl rfl) rfl ?_;refine PWl.step (LR.assign rfl) rfl ?_;refine PWl.nil ?_;refine PWc.ret ?_;replace h:_=r0:=h;subst h;exact⟨.inr rfl,_,.cons (.tmp rfl rfl)<|.nil,rfl⟩
  ·replace h:=iF hc9 h;refine PWc.skip ?_;refine PWc.seq ?_;refine PWc.region ?_;refine PWl.step (LR.assign rfl) rfl ?_;refine PWl.nil ?_;refine PWc.seq ?_;refine PWc.region ?_;refine PWl.step (LR.move rfl) rfl ?_;refine PWl.step (LR.loadRefAgg (ps:=[_,_,_,_,_,_,_]) Tryz.isAgg28 Tryz.sizeOf28 rfl rfl rfl rfl) rfl ?_;replace h:=za h;obtain⟨v12,hy13,h⟩:=h;refine PWl.step (LR.callN (Zp e1 v12 hy13) rfl Tryz.call7 rfl rfl rfl rfl) rfl ?_;refine PWl.step (LR.move rfl) rfl ?_;refine PWl.step (LR.extract rfl rfl) rfl ?_;refine PWl.step (LR.extract rfl rfl) rfl ?_;refine PWl.step (LR.allocZ (cs:=[_,_,_,_,_,_,_]) Tryz.zeroValue28 rfl rfl rfl rfl) rfl ?_;refine PWl.step (LR.storeB (ns:=[_,_,_,_,_,_,_]) Tryz.sizeOf28 rfl rfl rfl rfl rfl rfl rfl) rfl ?_;refine PWl.step (LR.assign rfl) rfl ?_;refine PWl.nil ?_;refine PWc.seq ?_;refine PWc.region ?_;refine PWl.step (LR.move rfl) rfl ?_;refine PWl.step (LR.move rfl) rfl ?_;replace h:=za h;obtain⟨v14,hy15,h⟩:=h;refine PWl.step (LR.callN (Yf c2 v14 hy15) rfl Tryz.call8 rfl rfl rfl rfl) rfl ?_;refine PWl.nil ?_;refine PWc.seq ?_;refine PWc.seq ?_;refine PWc.re (tl:=[(1,_),(2,_),(5,_),(7,_)]) (to:=[(2,_)]) rfl (.cons rfl rfl<|.cons rfl rfl<|.cons rfl rfl<|.cons rfl rfl<|.nil) (.cons rfl rfl<|.nil) ?_;refine PWc.jn (zH h) (fun(v16:Bool) (_:Unit)=>⟨161,[(1,.d (.sl (List.map PT.e c2))),(2,.ref 2 0),(84,.d (.v (.bool v16)))],[(2,.cells 28 [.d (.v (.int .u16 e1.dot.dev)),.d (.v (.int .u64 e1.dot.n)),.d (.v (.int .u8 e1.kind)),.d (.v (.int .u64 e1.cid)),.d (.v (.int .u8 e1.field)),.d (.v (.string e1.text)),.d (.sl (List.map DT.e e1.kills))])]⟩) (fun h=>?_) ?_
   ·refine PWc.regionF [⟨[34],[],[],[],[],[],[],[]⟩,⟨[35],[],[],[],[],[],[],[]⟩,⟨[36],[],[],[],[],[],[],[]⟩,⟨[37],[],[],[],[],[],[],[]⟩,⟨[38],[],[2],[],[],[],[],[]⟩,⟨[39],[],[],[],[],[],[],[]⟩,⟨[40],[],[],[],[],[],[],[]⟩,⟨[41],[],[],[],[],[],[],[]⟩,⟨[42],[],[],[],[],[],[],[]⟩,⟨[43],[],[],[],[],[],[],[]⟩,⟨[44],[],[],[],[],[],[],[]⟩,⟨[45],[],[],[],[],[],[],[]⟩,⟨[46],[],[],[],[],[],[],[]⟩,⟨[47],[],[],[],[],[],[],[]⟩,⟨[48],[],[],[],[],[],[],[]⟩,⟨[49],[],[],[],[],[],[],[]⟩,⟨[50],[],[],[],[],[],[],[]⟩,⟨[51],[],[],[],[],[],[],[]⟩,⟨[52],[],[],[],[],[],[],[]⟩,⟨[53],[],[],[],[],[],[],[]⟩,⟨[54],[],[],[],[],[],[],[]⟩,⟨[55],[],[],[],[],[],[],[]⟩,⟨[56],[],[],[],[],[],[],[]⟩,⟨[57],[],[],[],[],[],[],[]⟩,⟨[58],[],[],[],[],[],[],[]⟩,⟨[59],[],[],[],[],[],[],[]⟩,⟨[60],[],[],[],[],[],[],[]⟩,⟨[61],[],[],[],[],[],[],[]⟩,⟨[62],[],[],[],[],[],[],[]⟩,⟨[63],[],[],[],[],[],[],[]⟩,⟨[64],[],[],[],[],[],[],[]⟩,⟨[65],[],[],[],[],[],[],[]⟩,⟨[66],[],[],[],[],[],[],[]⟩,⟨[67],[],[],[],[],[2],[],[]⟩,⟨[68],[],[2],[],[],[],[],[]⟩,⟨[69],[],[],[],[],[],[],[]⟩,⟨[70],[],[],[],[],[],[],[]⟩,⟨[71],[],[],[],[],[],[],[]⟩,⟨[72],[],[],[],[],[],[],[]⟩,⟨[73],[],[],[],[],[],[],[]⟩,⟨[74],[],[],[],[],[],[],[]⟩,⟨[75],[],[],[],[],[],[],[]⟩,⟨[76],[],[],[],[],[],[],[]⟩,⟨[77],[],[],[],[],[],[],[]⟩,⟨[78],[],[],[],[],[],[],[]⟩,⟨[79],[],[],[],[],[],[],[]⟩,⟨[80],[],[],[],[],[],[],[]⟩,⟨[81],[81,21621,21622],[],[81,21621,21622],[],[81],[21621,21622],[]⟩,⟨[82],[],[81,21621,21622],[],[],[],[],[]⟩,⟨[83],[],[],[],[],[],[],[]⟩,⟨[84],[],[],[],[],[],[],[]⟩] (by kernel_rfl) (by kernel_rfl) rfl ?_;refine PQe.stepP (fun _ he ho=>LR.move (he rfl rfl)) (.inl rfl) rfl ?_;refine PQe.stepP (fun _ he ho=>LR.neq (he rfl rfl) (he rfl rfl)) (.inl rfl) rfl ?_;refine PQe.stepP (fun _ he ho=>LR.move (he rfl rfl)) (.inl rfl) rfl ?_;refine PQe.split (d:=36) rfl (fun hg17=>?_) (fun hg17=>?_)
    ·replace h:=iT hg17 h;refine PQe.skipP (.inl ⟨_,_,_,_,rfl,rfl,rfl,by decide⟩) rfl ?_;refine PQe.skipP (.inl ⟨_,_,_,_,rfl,rfl,rfl,by decide⟩) rfl ?_;refine PQe.skipP (.inl ⟨_,_,_,_,rfl,rfl,rfl,by decide⟩) rfl ?_;refine PQe.skipP (.inl ⟨_,_,_,_,rfl,rfl,rfl,by decide⟩) rfl ?_;refine PQe.stepP (fun _ he ho=>LR.pickT (he rfl rfl) (he rfl rfl)) (.inl rfl) rfl ?_;refine PQe.stepP (fun _ he ho=>LR.move (he rfl rfl)) (.inl rfl) rfl ?_;refine PQe.skipP (.inl ⟨_,_,_,_,rfl,rfl,rfl,by decide⟩) rfl ?_;refine PQe.skipP (.inl ⟨_,_,_,_,rfl,rfl,rfl,by decide⟩) rfl ?_;refine PQe.skipP (.inl ⟨_,_,_,_,rfl,rfl,rfl,by decide⟩) rfl ?_;refine PQe.skipP (.inl ⟨_,_,_,_,rfl,rfl,rfl,by decide⟩) rfl ?_;refine PQe.stepP (fun _ he ho=>LR.pickT (he rfl rfl) (he rfl rfl)) (.inl rfl) rfl ?_;refine PQe.stepP (fun _ he ho=>LR.move (he rfl rfl)) (.inl rfl) rfl ?_;refine PQe.skipP (.inl ⟨_,_,_,_,rfl,rfl,rfl,by decide⟩) rfl ?_;refine PQe.skipP (.inl ⟨_,_,_,_,rfl,rfl,rfl,by decide⟩) rfl ?_;refine PQe.skipP (.inl ⟨_,_,_,_,rfl,rfl,rfl,by decide⟩) rfl ?_;refine PQe.skipP (.inl ⟨_,_,_,_,rfl,rfl,rfl,by decide⟩) rfl ?_;refine PQe.stepP (fun _ he ho=>LR.pickT (he rfl rfl) (he rfl rfl)) (.inl rfl) rfl ?_;refine PQe.stepP (fun _ he ho=>LR.move (he rfl rfl)) (.inl rfl) rfl ?_;refine PQe.skipP (.inl ⟨_,_,_,_,rfl,rfl,rfl,by decide⟩) rfl ?_;refine PQe.skipP (.inl ⟨_,_,_,_,rfl,rfl,rfl,by decide⟩) rfl ?_;refine PQe.skipP (.inl ⟨_,_,_,_,rfl,rfl,rfl,by decide⟩) rfl ?_;refine PQe.skipP (.inl ⟨_,_,_,_,rfl,rfl,rfl,by decide⟩) rfl ?_;refine PQe.skipP (.inl ⟨_,_,_,_,rfl,rfl,rfl,by decide⟩) rfl ?_;refine PQe.skipP (.inl ⟨_,_,_,_,rfl,rfl,rfl,by decide⟩) rfl ?_;refine PQe.skipP (.inl ⟨_,_,_,_,rfl,rfl,rfl,by decide⟩) rfl ?_;refine PQe.skipP (.inl ⟨_,_,_,_,rfl,rfl,rfl,by decide⟩) rfl ?_;refine PQe.skipP (.inl ⟨_,_,_,_,rfl,rfl,rfl,by decide⟩) rfl ?_;refine PQe.skipP (.inl ⟨_,_,_,_,rfl,rfl,rfl,by decide⟩) rfl ?_;refine PQe.skipP (.inl ⟨_,_,_,_,rfl,rfl,rfl,by decide⟩) rfl ?_;refine PQe.skipP (.inl ⟨_,_,_,_,rfl,rfl,rfl,by decide⟩) rfl ?_;refine PQe.skipP (.inl ⟨_,_,_,_,rfl,rfl,rfl,by decide⟩) rfl ?_;refine PQe.skipP (.inl ⟨_,_,_,_,rfl,rfl,rfl,by decide⟩) rfl ?_;refine PQe.skipP (.inl ⟨_,_,_,_,rfl,rfl,rfl,by decide⟩) rfl ?_;refine PQe.skipP (.inl ⟨_,_,_,_,rfl,rfl,rfl,by decide⟩) rfl ?_;refine PQe.skipP (.inl ⟨_,_,_,_,rfl,rfl,rfl,by decide⟩) rfl ?_;refine PQe.skipP (.inl ⟨_,_,_,_,rfl,rfl,rfl,by decide⟩) rfl ?_;refine PQe.stepP (fun _ he ho=>LR.pickT (he rfl rfl) (he rfl rfl)) (.inl rfl) rfl ?_;refine PQe.stepP (fun _ he ho=>LR.move (he rfl rfl)) (.inl rfl) rfl ?_;refine PQe.skipP (.inl ⟨_,_,_,_,rfl,rfl,rfl,by decide⟩) rfl ?_;refine PQe.skipP (.inl ⟨_,_,_,_,rfl,rfl,rfl,by decide⟩) rfl ?_;refine PQe.skipP (.inl ⟨_,_,_,_,rfl,rfl,rfl,by decide⟩) rfl ?_;refine PQe.stepP (fun _ he ho=>LR.pickT (he rfl rfl) (he rfl rfl)) (.inl rfl) rfl ?_;refine PQe.stepP (fun _ he ho=>LR.move (he rfl rfl)) (.inl rfl) rfl ?_;refine PQe.skipP (.inl ⟨_,_,_,_,rfl,rfl,rfl,by decide⟩) rfl ?_;refine PQe.skipP (.inl ⟨_,_,_,_,rfl,rfl,rfl,by decide⟩) rfl ?_;refine PQe.skipP (.inl ⟨_,_,_,_,rfl,rfl,rfl,by decide⟩) rfl ?_;refine PQe.skipP (.inl ⟨_,_,_,_,rfl,rfl,rfl,by decide⟩) rfl ?_;refine PQe.stepP (fun _ he ho=>LR.pickT (he rfl rfl) (he rfl rfl)) (.inl rfl) rfl ?_;refine PQe.nil ?_;exact⟨true,(),h,Sub.of rfl (.cons rfl rfl<|.cons rfl rfl<|.cons rfl rfl<|.nil) (.cons rfl rfl<|.nil)⟩
    ·replace h:=iF hg17 h;refine PQe.stepP (fun _ he ho=>LR.move (he rfl rfl)) (.inr ⟨_,_,_,rfl,rfl,rfl⟩) rfl ?_;refine PQe.stepP (fun _ he ho=>LR.loadRefAgg (ps:=[_,_,_,_,_,_,_]) Tryz.isAgg28 Tryz.sizeOf28 (he rfl rfl) (ho rfl rfl) rfl rfl) (.inr ⟨_,_,_,rfl,rfl,rfl⟩) rfl ?_;replace h:=za h;obtain⟨v18,hy19,h⟩:=h;refine PQe.stepP (fun _ he ho=>LR.callN (Yg e1 v18 hy19) (he rfl rfl) Tryz.call9 (xh he rfl rfl) rfl rfl rfl) (.inr ⟨_,_,_,rfl,rfl,rfl⟩) rfl ?_;refine PQe.stepP (fun _ he ho=>LR.neq (he rfl rfl) (he rfl rfl)) (.inr ⟨_,_,_,rfl,rfl,rfl⟩) rfl ?_;refine PQe.stepP (fun _ he ho=>LR.pickF (he rfl rfl) (he rfl rfl)) (.inl rfl) rfl ?_;refine PQe.stepP (fun _ he ho=>LR.move (he rfl rfl)) (.inl rfl) rfl ?_;refine PQe.split (d:=42) rfl (fun hg20=>?_) (fun hg20=>?_)
     ·replace h:=iT hg20 h;refine PQe.skipP (.inl ⟨_,_,_,_,rfl,rfl,rfl,by decide⟩) rfl ?_;refine PQe.skipP (.inl ⟨_,_,_,_,rfl,rfl,rfl,by decide⟩) rfl ?_;refine PQe.skipP (.inl ⟨_,_,_,_,rfl,rfl,rfl,by decide⟩) rfl ?_;refine PQe.skipP (.inl ⟨_,_,_,_,rfl,rfl,rfl,by decide⟩) rfl ?_;refine PQe.stepP (fun _ he ho=>LR.pickT (he rfl rfl) (he rfl rfl)) (.inl rfl) rfl ?_;refine PQe.stepP (fun _ he ho=>LR.move (he rfl rfl)) (.inl rfl) rfl ?_;refine PQe.skipP (.inl ⟨_,_,_,_,rfl,rfl,rfl,by decide⟩) rfl ?_;refine PQe.skipP (.inl ⟨_,_,_,_,rfl,rfl,rfl,by decide⟩) rfl ?_;refine PQe.skipP (.inl ⟨_,_,_,_,rfl,rfl,rfl,by decide⟩) rfl ?_;refine PQe.skipP (.inl ⟨_,_,_,_,rfl,rfl,rfl,by decide⟩) rfl ?_;refine PQe.stepP (fun _ he ho=>LR.pickT (he rfl rfl) (he rfl rfl)) (.inl rfl) rfl ?_;refine PQe.stepP (fun _ he ho=>LR.move (he rfl rfl)) (.inl rfl) rfl ?_;refine PQe.skipP (.inl ⟨_,_,_,_,rfl,rfl,rfl,by decide⟩) rfl ?_;refine PQe.skipP (.inl ⟨_,_,_,_,rfl,rfl,rfl,by decide⟩) rfl ?_;refine PQe.skipP (.inl ⟨_,_,_,_,rfl,rfl,rfl,by decide⟩) rfl ?_;refine PQe.skipP (.inl ⟨_,_,_,_,rfl,rfl,rfl,by decide⟩) rfl ?_;refine PQe.skipP (.inl ⟨_,_,_,_,rfl,rfl,rfl,by decide⟩) rfl ?_;refine PQe.skipP (.inl ⟨_,_,_,_,rfl,rfl,rfl,by decide⟩) rfl ?_;refine PQe.skipP (.inl ⟨_,_,_,_,rfl,rfl,rfl,by decide⟩) rfl ?_;refine PQe.skipP (.inl ⟨_,_,_,_,rfl,rfl,rfl,by decide⟩) rfl ?_;refine PQe.skipP (.inl ⟨_,_,_,_,rfl,rfl,rfl,by decide⟩) rfl ?_;refine PQe.skipP (.inl ⟨_,_,_,_,rfl,rfl,rfl,by decide⟩) rfl ?_;refine PQe.skipP (.inl ⟨_,_,_,_,rfl,rfl,rfl,by decide⟩) rfl ?_;refine PQe.skipP (.inl ⟨_,_,_,_,rfl,rfl,rfl,by decide⟩) rfl ?_;refine PQe.skipP (.inl ⟨_,_,_,_,rfl,rfl,rfl,by decide⟩) rfl ?_;refine PQe.skipP (.inl ⟨_,_,_,_,rfl,rfl,rfl,by decide⟩) rfl ?_;refine PQe.skipP (.inl ⟨_,_,_,_,rfl,rfl,rfl,by decide⟩) rfl ?_;refine PQe.skipP (.inl ⟨_,_,_,_,rfl,rfl,rfl,by decide⟩) rfl ?_;refine PQe.skipP (.inl ⟨_,_,_,_,rfl,rfl,rfl,by decide⟩) rfl ?_;refine PQe.skipP (.inl ⟨_,_,_,_,rfl,rfl,rfl,by decide⟩) rfl ?_;refine PQe.stepP (fun _ he ho=>LR.pickT (he rfl rfl) (he rfl rfl)) (.inl rfl) rfl ?_;refine PQe.stepP (fun _ he ho=>LR.move (he rfl rfl)) (.inl rfl) rfl ?_;refine PQe.skipP (.inl ⟨_,_,_,_,rfl,rfl,rfl,by decide⟩) rfl ?_;refine PQe.skipP (.inl ⟨_,_,_,_,rfl,rfl,rfl,by decide⟩) rfl ?_;refine PQe.skipP (.inl ⟨_,_,_,_,rfl,rfl,rfl,by decide⟩) rfl ?_;refine PQe.stepP (fun _ he ho=>LR.pickT (he rfl rfl) (he rfl rfl)) (.inl rfl) rfl ?_;refine PQe.stepP (fun _ he ho=>LR.move (he rfl rfl)) (.inl rfl) rfl ?_;refine PQe.skipP (.inl ⟨_,_,_,_,rfl,rfl,rfl,by decide⟩) rfl ?_;refine PQe.skipP (.inl ⟨_,_,_,_,rfl,rfl,rfl,by decide⟩) rfl ?_;refine PQe.skipP (.inl ⟨_,_,_,_,rfl,rfl,rfl,by decide⟩) rfl ?_;refine PQe.skipP (.inl ⟨_,_,_,_,rfl,rfl,rfl,by decide⟩) rfl ?_;refine PQe.stepP (fun _ he ho=>LR.pickT (he rfl rfl) (he rfl rfl)) (.inl rfl) rfl ?_;refine PQe.nil ?_;exact⟨true,(),h,Sub.of rfl (.cons rfl rfl<|.cons rfl rfl<|.cons rfl rfl<|.nil) (.cons rfl rfl<|.nil)⟩
     ·replace h:=iF hg20 h;refine PQe.stepP (fun _ he ho=>LR.move (he rfl rfl)) (.inr ⟨_,_,_,rfl,rfl,rfl⟩) rfl ?_;refine PQe.stepP (fun _ he ho=>LR.move (he rfl rfl)) (.inr ⟨_,_,_,rfl,rfl,rfl⟩) rfl ?_;replace h:=za h;obtain⟨v21,hy22,h⟩:=h;refine PQe.stepP (fun _ he ho=>LR.callN (ZV c2 v21 hy22) (he rfl rfl) Tryz.call10 (xh he rfl rfl) rfl rfl rfl) (.inr ⟨_,_,_,rfl,rfl,rfl⟩) rfl ?_;refine PQe.stepP (fun _ he ho=>LR.neq (he rfl rfl) (he rfl rfl)) (.inr ⟨_,_,_,rfl,rfl,rfl⟩) rfl ?_;refine PQe.stepP (fun _ he ho=>LR.pickF (he rfl rfl) (he rfl rfl)) (.inl rfl) rfl ?_;refine PQe.stepP (fun _ he ho=>LR.move (he rfl rfl)) (.inl rfl) rfl ?_;refine PQe.split (d:=48) rfl (fun hg23=>?_) (fun hg23=>?_)
      ·replace h:=iT hg23 h;refine PQe.skipP (.inl ⟨_,_,_,_,rfl,rfl,rfl,by decide⟩) rfl ?_;refine PQe.skipP (.inl ⟨_,_,_,_,rfl,rfl,rfl,by decide⟩) rfl ?_;refine PQe.skipP (.inl ⟨_,_,_,_,rfl,rfl,rfl,by decide⟩) rfl ?_;refine PQe.skipP (.inl ⟨_,_,_,_,rfl,rfl,rfl,by decide⟩) rfl ?_;refine PQe.stepP (fun _ he ho=>LR.pickT (he rfl rfl) (he rfl rfl)) (.inl rfl) rfl ?_;refine PQe.stepP (fun _ he ho=>LR.move (he rfl rfl)) (.inl rfl) rfl ?_;refine PQe.skipP (.inl ⟨_,_,_,_,rfl,rfl,rfl,by decide⟩) rfl ?_;refine PQe.skipP (.inl ⟨_,_,_,_,rfl,rfl,rfl,by decide⟩) rfl ?_;refine PQe.skipP (.inl ⟨_,_,_,_,rfl,rfl,rfl,by decide⟩) rfl ?_;refine PQe.skipP (.inl ⟨_,_,_,_,rfl,rfl,rfl,by decide⟩) rfl ?_;refine PQe.skipP (.inl ⟨_,_,_,_,rfl,rfl,rfl,by decide⟩) rfl ?_;refine PQe.skipP (.inl ⟨_,_,_,_,rfl,rfl,rfl,by decide⟩) rfl ?_;refine PQe.skipP (.inl ⟨_,_,_,_,rfl,rfl,rfl,by decide⟩) rfl ?_;refine PQe.skipP (.inl ⟨_,_,_,_,rfl,rfl,rfl,by decide⟩) rfl ?_;refine PQe.skipP (.inl ⟨_,_,_,_,rfl,rfl,rfl,by decide⟩) rfl ?_;refine PQe.skipP (.inl ⟨_,_,_,_,rfl,rfl,rfl,by decide⟩) rfl ?_;refine PQe.skipP (.inl ⟨_,_,_,_,rfl,rfl,rfl,by decide⟩) rfl ?_;refine PQe.skipP (.inl ⟨_,_,_,_,rfl,rfl,rfl,by decide⟩) rfl ?_;refine PQe.skipP (.inl ⟨_,_,_,_,rfl,rfl,rfl,by decide⟩) rfl ?_;refine PQe.skipP (.inl ⟨_,_,_,_,rfl,rfl,rfl,by decide⟩) rfl ?_;refine PQe.skipP (.inl ⟨_,_,_,_,rfl,rfl,rfl,by decide⟩) rfl ?_;refine PQe.skipP (.inl ⟨_,_,_,_,rfl,rfl,rfl,by decide⟩) rfl ?_;refine PQe.skipP (.inl ⟨_,_,_,_,rfl,rfl,rfl,by decide⟩) rfl ?_;refine PQe.skipP (.inl ⟨_,_,_,_,rfl,rfl,rfl,by decide⟩) rfl ?_;refine PQe.stepP (fun _ he ho=>LR.pickT (he rfl rfl) (he rfl rfl)) (.inl rfl) rfl ?_;refine PQe.stepP (fun _ he ho=>LR.move (he rfl rfl)) (.inl rfl) rfl ?_;refine PQe.skipP (.inl ⟨_,_,_,_,rfl,rfl,rfl,by decide⟩) rfl ?_;refine PQe.skipP (.inl ⟨_,_,_,_,rfl,rfl,rfl,by decide⟩) rfl ?_;refine PQe.skipP (.inl ⟨_,_,_,_,rfl,rfl,rfl,by decide⟩) rfl ?_;refine PQe.stepP (fun _ he ho=>LR.pickT (he rfl rfl) (he rfl rfl)) (.inl rfl) rfl ?_;refine PQe.stepP (fun _ he ho=>LR.move (he rfl rfl)) (.inl rfl) rfl ?_;refine PQe.skipP (.inl ⟨_,_,_,_,rfl,rfl,rfl,by decide⟩) rfl ?_;refine PQe.skipP (.inl ⟨_,_,_,_,rfl,rfl,rfl,by decide⟩) rfl ?_;refine PQe.skipP (.inl ⟨_,_,_,_,rfl,rfl,rfl,by decide⟩) rfl ?_;refine PQe.skipP (.inl ⟨_,_,_,_,rfl,rfl,rfl,by decide⟩) rfl ?_;refine PQe.stepP (fun _ he ho=>LR.pickT (he rfl rfl) (he rfl rfl)) (.inl rfl) rfl ?_;refine PQe.nil ?_;exact⟨true,(),h,Sub.of rfl (.cons rfl rfl<|.cons rfl rfl<|.cons rfl rfl<|.nil) (.cons rfl rfl<|.nil)⟩
      ·replace h:=iF hg23 h;refine PQe.stepP (fun _ he ho=>LR.move (he rfl rfl)) (.inr ⟨_,_,_,rfl,rfl,rfl⟩) rfl ?_;replace h:=za h;obtain⟨v24,hy25,h⟩:=h;refine PQe.stepP (fun _ he ho=>LR.callN (PRow.fun (vR v24 hy25)) (he rfl rfl) Tryz.call11 (xh he rfl rfl) rfl rfl rfl) (.inr ⟨_,_,_,rfl,rfl,rfl⟩) rfl ?_;refine PQe.stepP (fun _ he ho=>LR.lenMap (enc:=PT.e) (L:=v24) Tryz.underlying30 (he rfl rfl)) (.inr ⟨_,_,_,rfl,rfl,rfl⟩) rfl ?_;refine PQe.stepP (fun _ he ho=>LR.neq (he rfl rfl) (he rfl rfl)) (.inr ⟨_,_,_,rfl,rfl,rfl⟩) rfl ?_;refine PQe.stepP (fun _ he ho=>LR.pickF (he rfl rfl) (he rfl rfl)) (.inl rfl) rfl ?_;refine PQe.stepP (fun _ he ho=>LR.move (he rfl rfl)) (.inl rfl) rfl ?_;refine PQe.split (d:=54) rfl (fun hg26=>?_) (fun hg26=>?_)
       ·replace h:=iT hg26 h;refine PQe.skipP (.inl ⟨_,_,_,_,rfl,rfl,rfl,by decide⟩) rfl ?_;refine PQe.skipP (.inl ⟨_,_,_,_,rfl,rfl,rfl,by decide⟩) rfl ?_;refine PQe.skipP (.inl ⟨_,_,_,_,rfl,rfl,rfl,by decide⟩) rfl ?_;refine PQe.skipP (.inl ⟨_,_,_,_,rfl,rfl,rfl,by decide⟩) rfl ?_;refine PQe.skipP (.inl ⟨_,_,_,_,rfl,rfl,rfl,by decide⟩) rfl ?_;refine PQe.skipP (.inl ⟨_,_,_,_,rfl,rfl,rfl,by decide⟩) rfl ?_;refine PQe.skipP (.inl ⟨_,_,_,_,rfl,rfl,rfl,by decide⟩) rfl ?_;refine PQe.skipP (.inl ⟨_,_,_,_,rfl,rfl,rfl,by decide⟩) rfl ?_;refine PQe.skipP (.inl ⟨_,_,_,_,rfl,rfl,rfl,by decide⟩) rfl ?_;refine PQe.skipP (.inl ⟨_,_,_,_,rfl,rfl,rfl,by decide⟩) rfl ?_;refine PQe.skipP (.inl ⟨_,_,_,_,rfl,rfl,rfl,by decide⟩) rfl ?_;refine PQe.skipP (.inl ⟨_,_,_,_,rfl,rfl,rfl,by decide⟩) rfl ?_;refine PQe.skipP (.inl ⟨_,_,_,_,rfl,rfl,rfl,by decide⟩) rfl ?_;refine PQe.skipP (.inl ⟨_,_,_,_,rfl,rfl,rfl,by decide⟩) rfl ?_;refine PQe.skipP (.inl ⟨_,_,_,_,rfl,rfl,rfl,by decide⟩) rfl ?_;refine PQe.skipP (.inl ⟨_,_,_,_,rfl,rfl,rfl,by decide⟩) rfl ?_;refine PQe.skipP (.inl ⟨_,_,_,_,rfl,rfl,rfl,by decide⟩) rfl ?_;refine PQe.skipP (.inl ⟨_,_,_,_,rfl,rfl,rfl,by decide⟩) rfl ?_;refine PQe.stepP (fun _ he ho=>LR.pickT (he rfl rfl) (he rfl rfl)) (.inl rfl) rfl ?_;refine PQe.stepP (fun _ he ho=>LR.move (he rfl rfl)) (.inl rfl) rfl ?_;refine PQe.skipP (.inl ⟨_,_,_,_,rfl,rfl,rfl,by decide⟩) rfl ?_;refine PQe.skipP (.inl ⟨_,_,_,_,rfl,rfl,rfl,by decide⟩) rfl ?_;refine PQe.skipP (.inl ⟨_,_,_,_,rfl,rfl,rfl,by decide⟩) rfl ?_;refine PQe.stepP (fun _ he ho=>LR.pickT (he rfl rfl) (he rfl rfl)) (.inl rfl) rfl ?_;refine PQe.stepP (fun _ he ho=>LR.move (he rfl rfl)) (.inl rfl) rfl ?_;refine PQe.skipP (.inl ⟨_,_,_,_,rfl,rfl,rfl,by decide⟩) rfl ?_;refine PQe.skipP (.inl ⟨_,_,_,_,rfl,rfl,rfl,by decide⟩) rfl ?_;refine PQe.skipP (.inl ⟨_,_,_,_,rfl,rfl,rfl,by decide⟩) rfl ?_;refine PQe.skipP (.inl ⟨_,_,_,_,rfl,rfl,rfl,by decide⟩) rfl ?_;refine PQe.stepP (fun _ he ho=>LR.pickT (he rfl rfl) (he rfl rfl)) (.inl rfl) rfl ?_;refine PQe.nil ?_;exact⟨true,(),h,Sub.of rfl (.cons rfl rfl<|.cons rfl rfl<|.cons rfl rfl<|.nil) (.cons rfl rfl<|.nil)⟩
       ·replace h:=iF hg26 h;refine PQe.stepP (fun _ he ho=>LR.move (he rfl rfl)) (.inr ⟨_,_,_,rfl,rfl,rfl⟩) rfl ?_;replace h:=za h;obtain⟨v27,hy28,h⟩:=h;refine PQe.stepP (fun _ he ho=>LR.callN (PRow.fun (vC v27 hy28)) (he rfl rfl) Tryz.call12 (xh he rfl rfl) rfl rfl rfl) (.inr ⟨_,_,_,rfl,rfl,rfl⟩) rfl ?_;refine PQe.stepP (fun _ he ho=>LR.lenMap (enc:=EV.e) (L:=v27) Tryz.underlying32 (he rfl rfl)) (.inr ⟨_,_,_,rfl,rfl,rfl⟩) rfl ?_;refine PQe.stepP (fun _ he ho=>LR.move (he rfl rfl)) (.inr ⟨_,_,_,rfl,rfl,rfl⟩) rfl ?_;replace h:=za h;obtain⟨v29,hy30,h⟩:=h;refine PQe.stepP (fun _ he ho=>LR.callN (PRow.fun (wI v29 hy30)) (he rfl rfl) Tryz.call13 (xh he rfl rfl) rfl rfl rfl) (.inr ⟨_,_,_,rfl,rfl,rfl⟩) rfl ?_;refine PQe.stepP (fun _ he ho=>LR.lenMap (enc:=EV.e) (L:=v29) Tryz.underlying32 (he rfl rfl)) (.inr ⟨_,_,_,rfl,rfl,rfl⟩) rfl ?_;refine PQe.stepP (fun _ he ho=>LR.addW (he rfl rfl) (he rfl rfl)) (.inr ⟨_,_,_,rfl,rfl,rfl⟩) rfl ?_;refine PQe.stepP (fun _ he ho=>LR.move (he rfl rfl)) (.inr ⟨_,_,_,rfl,rfl,rfl⟩) rfl ?_;replace h:=za h;obtain⟨v31,hy32,h⟩:=h;refine PQe.stepP (fun _ he ho=>LR.callN (PRow.fun (vS v31 hy32)) (he rfl rfl) Tryz.call14 (xh he rfl rfl) rfl rfl rfl) (.inr ⟨_,_,_,rfl,rfl,rfl⟩) rfl ?_;refine PQe.stepP (fun _ he ho=>LR.lenMap (enc:=EV.e) (L:=v31) Tryz.underlying32 (he rfl rfl)) (.inr ⟨_,_,_,rfl,rfl,rfl⟩) rfl ?_;refine PQe.stepP (fun _ he ho=>LR.addW (he rfl rfl) (he rfl rfl)) (.inr ⟨_,_,_,rfl,rfl,rfl⟩) rfl ?_;refine PQe.stepP (fun _ he ho=>LR.move (he rfl rfl)) (.inr ⟨_,_,_,rfl,rfl,rfl⟩) rfl ?_;refine PQe.stepP (fun _ he ho=>LR.fieldRef Tryz.underlying28 rfl Tryz.sizeOf23 (by decide) rfl (he rfl rfl)) (.inr ⟨_,_,_,rfl,rfl,rfl⟩) rfl ?_;refine PQe.stepP (fun _ he ho=>LR.loadRef Tryz.isAgg23 (he rfl rfl) (ho rfl rfl) rfl) (.inr ⟨_,_,_,rfl,rfl,rfl⟩) rfl ?_;replace h:=za h;obtain⟨v33,hy34,h⟩:=h;refine PQe.stepP (fun _ he ho=>LR.callN (PRow.fun (Yz e1.cid v33 hy34)) (he rfl rfl) Tryz.call15 (xh he rfl rfl) rfl rfl rfl) (.inr ⟨_,_,_,rfl,rfl,rfl⟩) rfl ?_;refine PQe.stepP (fun _ he ho=>LR.lenMap (enc:=EV.e) (L:=v33) Tryz.underlying32 (he rfl rfl)) (.inr ⟨_,_,_,rfl,rfl,rfl⟩) rfl ?_;refine PQe.stepP (fun _ he ho=>LR.addW (he rfl rfl) (he rfl rfl)) (.inr ⟨_,_,_,rfl,rfl,rfl⟩) rfl ?_;refine PQe.stepP (fun _ he ho=>LR.neq (he rfl rfl) (he rfl rfl)) (.inr ⟨_,_,_,rfl,rfl,rfl⟩) rfl ?_;refine PQe.stepP (fun _ he ho=>LR.pickF (he rfl rfl) (he rfl rfl)) (.inl rfl) rfl ?_;refine PQe.stepP (fun _ he ho=>LR.move (he rfl rfl)) (.inl rfl) rfl ?_;refine PQe.split (d:=74) rfl (fun hg35=>?_) (fun hg35=>?_)
        ·replace h:=iT hg35 h;refine PQe.skipP (.inl ⟨_,_,_,_,rfl,rfl,rfl,by decide⟩) rfl ?_;refine PQe.skipP (.inl ⟨_,_,_,_,rfl,rfl,rfl,by decide⟩) rfl ?_;refine PQe.skipP (.inl ⟨_,_,_,_,rfl,rfl,rfl,by decide⟩) rfl ?_;refine PQe.stepP (fun _ he ho=>LR.pickT (he rfl rfl) (he rfl rfl)) (.inl rfl) rfl ?_;refine PQe.stepP (fun _ he ho=>LR.move (he rfl rfl)) (.inl rfl) rfl ?_;refine PQe.skipP (.inl ⟨_,_,_,_,rfl,rfl,rfl,by decide⟩) rfl ?_;refine PQe.skipP (.inl ⟨_,_,_,_,rfl,rfl,rfl,by decide⟩) rfl ?_;refine PQe.skipP (.inl ⟨_,_,_,_,rfl,rfl,rfl,by decide⟩) rfl ?_;refine PQe.skipP (.inl ⟨_,_,_,_,rfl,rfl,rfl,by decide⟩) rfl ?_;refine PQe.stepP (fun _ he ho=>LR.pickT (he rfl rfl) (he rfl rfl)) (.inl rfl) rfl ?_;refine PQe.nil ?_;exact⟨true,(),h,Sub.of rfl (.cons rfl rfl<|.cons rfl rfl<|.cons rfl rfl<|.nil) (.cons rfl rfl<|.nil)⟩
        ·replace h:=iF hg35 h;refine PQe.stepP (fun _ he ho=>LR.move (he rfl rfl)) (.inr ⟨_,_,_,rfl,rfl,rfl⟩) rfl ?_;replace h:=za h;obtain⟨y36,hy37,h⟩:=h;refine PQe.callObj [] [] [] (XA y36 hy37) hK (fun _ he=>⟨he rfl rfl,xh he rfl rfl⟩) Tryz.call16 (by first | rfl | (simp;done) | (simp[PV.nilD,PV.ren,rn] <;> omega)) (.nil) rfl rfl rfl rfl (.inr ⟨_,_,_,rfl,rfl,rfl⟩) rfl ?_;refine PQe.stepP (fun _ he ho=>LR.neqPtrN Tryz.underlying35 (he rfl rfl)) (.inr ⟨_,_,_,rfl,rfl,rfl⟩) rfl ?_;refine PQe.stepP (fun _ he ho=>LR.pickF (he rfl rfl) (he rfl rfl)) (.inl rfl) rfl ?_;refine PQe.stepP (fun _ he ho=>LR.move (he rfl rfl)) (.inl rfl) rfl ?_;refine PQe.stepP (fun _ he ho=>LR.move (he rfl rfl)) (.inr ⟨_,_,_,rfl,rfl,rfl⟩) rfl ?_;replace h:=za h;obtain⟨y38,hy39,h⟩:=h;refine PQe.callObj [(2,81),(30041,21621),(30042,21622)] [] [2,30041,30042] (Xc y38 hy39) hK (fun _ he=>⟨he rfl rfl,xh he rfl rfl⟩) Tryz.call18 (by first | rfl | (simp;done) | (simp[PV.nilD,PV.ren,rn] <;> omega)) (.nil) rfl rfl rfl rfl (.inr ⟨_,_,_,rfl,rfl,rfl⟩) rfl ?_;replace h:=za h;obtain⟨y40,hy41,h⟩:=h;refine PQe.callObjS [(100,81),(101,21621),(102,21622)] [] [100,101,102] [] [(100,.cells 49 [.d (.sl (List.map PT.e y38.1)),.mp 101,.mp 102]),(101,.mapH y38.2.1 [.u16,.u64] true (zI DT.k EV.e y38.2.2.1)),(102,.mapH y38.2.2.2.1 [.u16,.u64] true (zI DT.k EV.e y38.2.2.2.2))] (UK y38.1 y38.2.1 y38.2.2.1 y38.2.2.2.1 y38.2.2.2.2 y40 hy41) hK (fun _ he=>⟨he rfl rfl,xh he rfl rfl⟩) Tryz.call17 (by first | rfl | (simp;done) | (simp[PV.nilD,PV.ren,rn] <;> omega)) (.cons (by first | rfl | (congr 1;first | (simp;done) | (simp;omega) | omega))<|.cons (by first | rfl | (congr 1;first | (simp;done) | (simp;omega) | omega))<|.cons (by first | rfl | (congr 1;first | (simp;done) | (simp;omega) | omega))<|.nil) (.nil) (.cons rfl<|.cons rfl<|.cons rfl<|.nil) (.cons (by first | rfl | (congr 1;first | (simp;done) | (simp;omega) | omega))<|.cons (by first | rfl | (congr 1;first | (simp;done) | (simp;omega) | omega))<|.cons (by first | rfl | (congr 1;first | (simp;done) | (simp;omega) | omega))<|.nil) rfl rfl rfl rfl rfl rfl (.inr ⟨_,_,_,rfl,rfl,rfl⟩) rfl ?_;refine PQe.stepP (fun _ he ho=>LR.not (he rfl rfl)) (.inr ⟨_,_,_,rfl,rfl,rfl⟩) rfl ?_;refine PQe.stepP (fun _ he ho=>LR.pickF (he rfl rfl) (he rfl rfl)) (.inl rfl) rfl ?_;refine PQe.nil ?_;exact⟨(!y40),(),h,Sub.of rfl (.cons rfl rfl<|.cons rfl rfl<|.cons rfl rfl<|.nil) (.cons rfl rfl<|.nil)⟩
   ·rintro v16 _ h;refine PWc.cond rfl (fun hc42=>?_) (fun hc42=>?_)
    ·replace h:=iT hc42 h;refine PWc.seq ?_;refine PWc.region ?_;refine PWl.step (LR.assign rfl) rfl ?_;refine PWl.nil ?_;refine PWc.ret ?_;replace h:_=r0:=h;subst h;exact⟨.inr rfl,_,.cons (.tmp rfl rfl)<|.nil,rfl⟩
    ·replace h:=iF hc42 h;refine PWc.skip ?_;refine PWc.seq ?_;refine PWc.region ?_;refine PWl.step (LR.allocZ (cs:=[_,_,_]) Tryz.zeroValue49 rfl rfl rfl rfl) rfl ?_;refine PWl.sub (Sub.ownMap (id:=8) (j:=1) (id':=30161) (ks:=[.u16,.u64]) (ag:=true) (ck:=0) rfl rfl rfl rfl) ?_;refine PWl.sub (Sub.ownMap (id:=8) (j:=2) (id':=30162) (ks:=[.u16,.u64]) (ag:=true) (ck:=0) rfl rfl rfl rfl) ?_;refine PWl.nil ?_;refine PWc.seq ?_;refine PWc.re (tl:=[(1,_),(2,_),(8,_)]) (to:=[(2,_),(8,_),(30161,_),(30162,_)]) rfl (.cons rfl rfl<|.cons rfl rfl<|.cons rfl rfl<|.nil) (.cons rfl rfl<|.cons rfl rfl<|.cons rfl rfl<|.cons rfl rfl<|.nil) ?_;refine PWc.region ?_;replace h:=za h;obtain⟨y43,hy44,h⟩:=h;refine PWl.sub (Sub.nToH (id:=30161) rfl) ?_;refine PWl.sub (Sub.nToH (id:=30162) rfl) ?_;refine PWl.step (LR.callObjS [(100,8),(101,30161),(102,30162)] [] [100,101,102] [(100,.cells 49 [.d (.sl (List.map PT.e y43)),.mp 101,.mp 102])] [(101,.mapH true [.u16,.u64] true (zI DT.k EV.e ([]:List (DT×EV)))),(102,.mapH true [.u16,.u64] true (zI DT.k EV.e ([]:List (DT×EV))))] (Xe ([]:List PT) ([]:List PT) true ([]:List (DT×EV)) true ([]:List (DT×EV)) y43 hy44) hK rfl Tryz.call8 rfl (by first | rfl | (simp;done) | (simp[PV.nilD,PV.ren,rn] <;> omega)) (.cons (by first | rfl | (congr 1;first | (simp;done) | (simp;omega) | omega))<|.cons (by first | rfl | (congr 1;first | (simp;done) | (simp;omega) | omega))<|.cons (by first | rfl | (congr 1;first | (simp;done) | (simp;omega) | omega))<|.nil) (.cons rfl<|.nil) (.cons rfl<|.cons rfl<|.nil) (.cons (by first | rfl | (congr 1;first | (simp;done) | (simp;omega) | omega))<|.cons (by first | rfl | (congr 1;first | (simp;done) | (simp;omega) | omega))<|.nil) rfl rfl rfl rfl rfl rfl) rfl ?_;refine PWl.nil ?_;refine PWc.seq ?_;refine PWc.re (tl:=[(1,_),(2,_),(8,_)]) (to:=[(2,_),(8,_),(30161,_),(30162,_)]) rfl (.cons rfl rfl<|.cons rfl rfl<|.cons rfl rfl<|.nil) (.cons rfl rfl<|.cons rfl rfl<|.cons rfl rfl<|.cons rfl rfl<|.nil) ?_;refine PWc.region ?_;refine PWl.step (LR.move rfl) rfl ?_;replace h:=za h;obtain⟨y45,hy46,h⟩:=h;refine PWl.step (LR.callObjS [(100,8),(101,30161),(102,30162)] [] [100,101,102] [(101,.mapH y45.2.1 [.u16,.u64] true (zI DT.k EV.e y45.2.2.1)),(102,.mapH y45.2.2.2.1 [.u16,.u64] true (zI DT.k EV.e y45.2.2.2.2))] [(100,.cells 49 [.d (.sl (List.map PT.e y43)),.mp 101,.mp 102])] (vQ c2 y43 true ([]:List (DT×EV)) true ([]:List (DT×EV)) y45 hy46) hK rfl Tryz.call10 rfl (by first | rfl | (simp;done) | (simp[PV.nilD,PV.ren,rn] <;> omega)) (.cons (by first | rfl | (congr 1;first | (simp;done) | (simp;omega) | omega))<|.cons (by first | rfl | (congr 1;first | (simp;done) | (simp;omega) | omega))<|.cons (by first | rfl | (congr 1;first | (simp;done) | (simp;omega) | omega))<|.nil) (.cons rfl<|.cons rfl<|.nil) (.cons rfl<|.nil) (.cons (by first | rfl | (congr 1;first | (simp;done) | (simp;omega) | omega))<|.nil) rfl rfl rfl rfl rfl rfl) rfl ?_;refine PWl.nil ?_;refine PWc.seq ?_;refine PWc.re (tl:=[(2,_),(8,_)]) (to:=[(2,_),(8,_),(30161,_),(30162,_)]) rfl (.cons rfl rfl<|.cons rfl rfl<|.nil) (.cons rfl rfl<|.cons rfl rfl<|.cons rfl rfl<|.cons rfl rfl<|.nil) ?_;refine PWc.region ?_;refine PWl.step (LR.loadRefAgg (ps:=[_,_,_,_,_,_,_]) Tryz.isAgg28 Tryz.sizeOf28 rfl rfl rfl rfl) rfl ?_;refine PWl.step (LR.buildSliceD [.tmp 88] xA rfl rfl (.cons rfl rfl rfl<|.nil) (by decide) (by decide)) rfl ?_;replace h:=za h;obtain⟨v47,hy48,h⟩:=h;refine PWl.step (LR.callN (qg ([e1]) v47 hy48) rfl Tryz.call19 rfl rfl rfl rfl) rfl ?_;replace h:=yK h;obtain⟨x49,hy50,h⟩:=h;refine PWl.step (LR.idxT (enc:=EV.e) (L:=v47) (y:=x49) Tryz.underlying32 Tryz.sizeOf28 rfl rfl hy50 (fun _=>rfl)) rfl ?_;refine PWl.step (LR.loadEpAgg (ys:=[_,_,_,_,_,_,_]) Tryz.isAgg28 Tryz.sizeOf28 rfl rfl rfl) rfl ?_;refine PWl.step (LR.allocZ (cs:=[_,_,_,_,_,_,_]) Tryz.zeroValue28 rfl rfl rfl rfl) rfl ?_;refine PWl.step (LR.storeB (ns:=[_,_,_,_,_,_,_]) Tryz.sizeOf28 rfl rfl rfl rfl rfl rfl rfl) rfl ?_;refine PWl.nil ?_;refine PWc.seq ?_;refine PWc.region ?_;refine PWl.step (LR.buildSlice [] uO rfl rfl (.nil) (by decide) (by decide) rfl) rfl ?_;refine PWl.step (LR.fieldRef Tryz.underlying28 rfl Tryz.sizeOf26 (by decide) rfl rfl) rfl ?_;refine PWl.step (LR.loadRef Tryz.isAgg26 rfl rfl rfl) rfl ?_;replace h:=zp h;obtain⟨hy51,h⟩:=h;refine PWl.step (LR.appT (enc:=DT.e) (L:=([]:List DT)) (R:=e1.kills) [93] uO Tryz.underlying26 rfl (by first | (simp;done) | (simp;omega) | omega) rfl (Src.slT (enc:=DT.e) (R:=e1.kills) rfl (fun _=>rfl)) (fun _=>rfl) hy51 rfl rfl) rfl ?_;refine PWl.step (LR.fieldRef Tryz.underlying28 rfl Tryz.sizeOf26 (by decide) rfl rfl) rfl ?_;refine PWl.frzRwO (oid:=2) (F:=EV.F e1) (l:=e1.kills.map DT.v) [96] (flE e1) (plainE e1) rfl (by decide) (by rw[Zq];rfl) (by rw[Zq];simp) (.cons rfl<|.nil) hK hK0 (fun β hβ=>?_);refine PWl.step (LR.storeB (ns:=[_,_,_,_,_,_,_]) Tryz.sizeOf26 rfl rfl rfl rfl rfl rfl rfl) rfl ?_;refine PWl.nil ?_;refine PWc.seq ?_;replace h:=zp h;obtain⟨⟨hm1,hm2⟩,h⟩:=h;refine PWc.re (tl:=[(2,.ref 2 0),(8,.ref 8 0),(9,.ref 9 0)]) (to:=[(2,.cells 28 ((EV.F e1 (.od (fun b=>β≠some b))).map .d)),(8,.cells 49 [.d (.sl (List.map PT.e y43)),.mp 30161,.mp 30162]),(9,.cells 28 ((EV.eM (fun b=>β=some b) (⟨x49.dot,x49.kind,x49.cid,x49.field,x49.text,e1.kills⟩:EV)).map .d)),(30161,.mapH y45.2.1 [.u16,.u64] true (zI DT.k (EV.eO (fun b=>β≠some b)) ([]:List (DT×EV)))),(30162,.mapH y45.2.2.2.1 [.u16,.u64] true (zI DT.k (EV.eO (fun b=>β≠some b)) ([]:List (DT×EV))))]) rfl (.cons rfl rfl<|.cons rfl rfl<|.cons rfl rfl<|.nil) (.cons rfl rfl<|.cons rfl rfl<|.cons rfl rfl<|.cons rfl (by first | (rw[hm1];done) | (rw[hm1];rfl))<|.cons rfl (by first | (rw[hm2];done) | (rw[hm2];rfl))<|.nil) ?_;refine PWc.region ?_;refine PWl.step (LR.weak (LR.loadRefAgg (ps:=(EV.eM (fun b=>β=some b) (⟨x49.dot,x49.kind,x49.cid,x49.field,x49.text,e1.kills⟩:EV)).map .d) Tryz.isAgg28 Tryz.sizeOf28 rfl rfl rfl rfl) (wkM β (⟨x49.dot,x49.kind,x49.cid,x49.field,x49.text,e1.kills⟩:EV))) rfl ?_;replace h:=za h;obtain⟨p,hy99,h⟩:=h;refine PWl.callObjR [(100,8),(101,30161),(102,30162)] [] [100,101,102] (zfa (fun b=>β≠some b) (⟨x49.dot,x49.kind,x49.cid,x49.field,x49.text,e1.kills⟩:EV) y43 y45.2.1 [] y45.2.2.2.1 [] p hy99) (rwLt (id:=9) (j:=6) rfl rfl) hK rfl Tryz.call9 rfl (by first | rfl | (simp;done) | (simp[PV.nilD,PV.ren,rn] <;> omega)) (.cons (by first | rfl | (congr 1;first | (simp;done) | (simp;omega) | omega))<|.cons (by first | rfl | (congr 1;first | (simp;done) | (simp;omega) | omega))<|.cons (by first | rfl | (congr 1;first | (simp;done) | (simp;omega) | omega))<|.nil) (fun _=>rfl) (fun _=>rfl) rfl rfl rfl (fun _=>?_);refine PWl.step (LR.assign rfl) rfl ?_;refine PWl.nil ?_;refine PWc.re (tl:=[(2,.ref 2 0),(8,.ref 8 0),(10,.d (.v (.int .i64 p.1))),(9,.ref 9 0)]) (to:=[(2,.cells 28 ((EV.F e1 (.od (fun b=>β≠some b))).map .d)),(8,.cells 49 [.d (.sl (List.map PT.e p.2.1)),.mp 30161,.mp 30162]),(9,.cells 28 ((EV.eM (fun b=>β=some b) (⟨x49.dot,x49.kind,x49.cid,x49.field,x49.text,e1.kills⟩:EV)).map .d)),(30161,.mapH p.2.2.1 [.u16,.u64] true (zI DT.k (EV.eO (fun b=>β≠some b)) p.2.2.2.1)),(30162,.mapH p.2.2.2.2.1 [.u16,.u64] true (zI DT.k (EV.eO (fun b=>β≠some b)) p.2.2.2.2.2))]) rfl (.cons rfl rfl<|.cons rfl rfl<|.cons rfl rfl<|.cons rfl rfl<|.nil) (.cons rfl rfl<|.cons rfl rfl<|.cons rfl rfl<|.cons rfl rfl<|.cons rfl rfl<|.nil) ?_;refine PWc.sub (Sub.weakO (id:=8) rfl (.cons (.junk _) (.cons (.refl _) (.cons (.refl _) .nil)))) ?_;refine PWc.re (tl:=[(2,.ref 2 0),(8,.ref 8 0),(10,.d (.v (.int .i64 p.1))),(9,.ref 9 0)]) (to:=[(2,.cells 28 ((EV.F e1 (.od (fun b=>β≠some b))).map .d)),(8,.cells 49 [.junk,.mp 30161,.mp 30162]),(9,.cells 28 ((EV.eM (fun b=>β=some b) (⟨x49.dot,x49.kind,x49.cid,x49.field,x49.text,e1.kills⟩:EV)).map .d)),(30161,.mapH p.2.2.1 [.u16,.u64] true (zI DT.k (EV.eO (fun b=>β≠some b)) p.2.2.2.1)),(30162,.mapH p.2.2.2.2.1 [.u16,.u64] true (zI DT.k (EV.eO (fun b=>β≠some b)) p.2.2.2.2.2))]) rfl (.cons rfl rfl<|.cons rfl rfl<|.cons rfl rfl<|.cons rfl rfl<|.nil) (.cons rfl rfl<|.cons rfl rfl<|.cons rfl rfl<|.cons rfl rfl<|.cons rfl rfl<|.nil) ?_;refine PWc.thaw (id:=9) (rid:=20) (j:=6) (M:=fun b=>β=some b) (l:=e1.kills.map DT.v) rfl rfl (fun j q hj hq=>?_) (fun y hy=>?_) (fun y hy hne=>?_) rfl (by decide) hK0 (fun b hb=>hβ b hb) ?_
     ·match j,hj,hq with
      | 0,_,hq=>cases hq;exact .d (.v _)
      | 1,_,hq=>cases hq;exact .d (.v _)
      | 2,_,hq=>cases hq;exact .d (.v _)
      | 3,_,hq=>cases hq;exact .d (.v _)
      | 4,_,hq=>cases hq;exact .d (.v _)
      | 5,_,hq=>cases hq;exact .d (.v _)
      | 6,hj,_=>exact(hj rfl).elim
      | j+7,_,hq=>cases hq
     ·simp only[List.mem_cons,List.not_mem_nil,or_false] at hy;rcases hy with rfl | rfl | rfl | rfl
      ·exact .ref _ _
      ·exact .ref _ _
      ·exact .d (.v _)
      ·exact .ref _ _
     ·simp only[List.mem_cons,List.not_mem_nil,or_false] at hy;rcases hy with rfl | rfl | rfl | rfl | rfl
      ·exact avF _ _ e1 fun b hb hn=>hn hb
      ·exact avBook _ _ _
      ·exact(hne rfl).elim
      ·exact avMap _ _ fun b hb hn=>hn hb
      ·exact avMap _ _ fun b hb hn=>hn hb
     refine PWc.re (tl:=[(2,.ref 2 0),(8,.ref 8 0),(10,.d (.v (.int .i64 p.1))),(9,.ref 9 0)]) (to:=[(2,.cells 28 ((EV.F e1 (.od (fun b=>β≠some b))).map .d)),(8,.cells 49 [.junk,.mp 30161,.mp 30162]),(9,.cells 28 ([.v (.int .u16 x49.dot.dev),.v (.int .u64 x49.dot.n),.v (.int .u8 x49.kind),.v (.int .u64 x49.cid),.v (.int .u8 x49.field),.v (.string x49.text)].map .d++[.row 20 e1.kills.length])),(20,.row 25 2 (List.map DT.e (Ql 0 e1.kills))),(30161,.mapH p.2.2.1 [.u16,.u64] true (zI DT.k (EV.eO (fun b=>β≠some b)) p.2.2.2.1)),(30162,.mapH p.2.2.2.2.1 [.u16,.u64] true (zI DT.k (EV.eO (fun b=>β≠some b)) p.2.2.2.2.2))]) rfl (.cons rfl rfl<|.cons rfl rfl<|.cons rfl rfl<|.cons rfl rfl<|.nil) (.cons rfl rfl<|.cons rfl rfl<|.cons rfl (by rw[Zq,List.length_map];rfl)<|.cons rfl (by rw[Zq,yna])<|.cons rfl rfl<|.cons rfl rfl<|.nil) ?_;refine PWc.rowMax (id:=20) rfl (fun hmax=>?_);rw[List.length_map,VA] at hmax;refine PWc.seq ?_;refine PWc.seq ?_;refine PWc.region ?_;refine PWl.step (LR.fieldRef Tryz.underlying28 rfl Tryz.sizeOf26 (by decide) rfl rfl) rfl ?_;refine PWl.step (LR.loadRef Tryz.isAgg26 rfl rfl rfl) rfl ?_;refine PWl.step (LR.lenRow Tryz.underlying26 rfl) rfl ?_;refine PWl.step (LR.move rfl) rfl ?_;refine PWl.nil ?_;refine PWc.jn (m:=M.loop (WZ e1.kills.length) 0) (N:=fun _=>True) (yoa _ trivial 0) (fun(_:Unit) (_:Unit)=>⟨161,[(2,.ref 2 0),(8,.ref 8 0),(10,.d (.v (.int .i64 p.1)))],[(2,.cells 28 ((EV.F e1 (.od (fun b=>β≠some b))).map .d)),(8,.cells 49 [.junk,.mp 30161,.mp 30162]),(30161,.mapH p.2.2.1 [.u16,.u64] true (zI DT.k (EV.eO (fun b=>β≠some b)) p.2.2.2.1)),(30162,.mapH p.2.2.2.2.1 [.u16,.u64] true (zI DT.k (EV.eO (fun b=>β≠some b)) p.2.2.2.2.2))]⟩) (fun h2=>?_) ?_
     ·refine PWc.block ?_;refine PWc.loopM (fun(k:Nat) (_:Unit)=>⟨161,[(2,.ref 2 0),(8,.ref 8 0),(10,.d (.v (.int .i64 p.1))),(9,.ref 9 0),(102,.d (.v (.int .i64 (e1.kills.length:Int)))),(103,.d (.v (.int .i64 (k:Int))))],[(2,.cells 28 ((EV.F e1 (.od (fun b=>β≠some b))).map .d)),(8,.cells 49 [.junk,.mp 30161,.mp 30162]),(9,.cells 28 ([.v (.int .u16 x49.dot.dev),.v (.int .u64 x49.dot.n),.v (.int .u8 x49.kind),.v (.int .u64 x49.cid),.v (.int .u8 x49.field),.v (.string x49.text)].map .d++[.row 20 e1.kills.length])),(20,.row 25 2 (List.map DT.e (Ql k e1.kills))),(30161,.mapH p.2.2.1 [.u16,.u64] true (zI DT.k (EV.eO (fun b=>β≠some b)) p.2.2.2.1)),(30162,.mapH p.2.2.2.2.1 [.u16,.u64] true (zI DT.k (EV.eO (fun b=>β≠some b)) p.2.2.2.2.2))]⟩) () h2 (Sub.of rfl (.cons rfl rfl<|.cons rfl rfl<|.cons rfl rfl<|.cons rfl rfl<|.cons rfl rfl<|.cons rfl rfl<|.nil) (.cons rfl rfl<|.cons rfl rfl<|.cons rfl rfl<|.cons rfl rfl<|.cons rfl rfl<|.cons rfl rfl<|.nil)) ?_;rintro N2 k _ h2;refine PWc.seq ?_;refine PWc.region ?_;refine PWl.step (LR.lss rfl rfl) rfl ?_;refine PWl.nil ?_;refine PWc.seq ?_;refine PWc.cond rfl (fun hc2=>?_) (fun hc2=>?_)
      ·replace h2:N2 (k+1):=by have:=iT hc2 h2;exact this
       have hk:k < e1.kills.length:=by have:=of_decide_eq_true hc2;omega
       obtain⟨d,hd⟩:∃ d,e1.kills[k]?=some d:=⟨_,List.getElem?_eq_getElem hk⟩
       have hd2:(Ql k e1.kills)[k]?=some d:=by rw[Wz,hd];simp
       refine PWc.skip ?_;refine PWc.seq ?_;refine PWc.block ?_;refine PWc.seq ?_;refine PWc.region ?_;refine PWl.step (LR.move rfl) rfl ?_;refine PWl.step (LR.assign rfl) rfl ?_;refine PWl.nil ?_;refine PWc.region ?_;refine PWl.step (LR.fieldRef Tryz.underlying28 rfl Tryz.sizeOf26 (by decide) rfl rfl) rfl ?_;refine PWl.step (LR.loadRef Tryz.isAgg26 rfl rfl rfl) rfl ?_;refine PWl.step (LR.move rfl) rfl ?_;refine PWl.step (LR.idxRowT (L:=Ql k e1.kills) (y:=d) Tryz.underlying26 Tryz.sizeOf25 rfl (VA _ _).symm rfl ⟨Int.natCast_nonneg _,hd2⟩) rfl ?_;refine PWl.step (LR.fieldRp Tryz.underlying25 rfl Tryz.sizeOf23 (by decide) rfl rfl) rfl ?_;refine PWl.step (LR.loadRpF (enc:=DT.e) (L:=Ql k e1.kills) (y:=d) Tryz.isAgg23 rfl rfl hd2 rfl) rfl ?_;refine PWl.step (LR.addW rfl rfl) rfl ?_;refine PWl.step (LR.idxRowT (L:=Ql k e1.kills) (y:=d) Tryz.underlying26 Tryz.sizeOf25 rfl (VA _ _).symm rfl ⟨Int.natCast_nonneg _,hd2⟩) rfl ?_;refine PWl.step (LR.fieldRp Tryz.underlying25 rfl Tryz.sizeOf23 (by decide) rfl rfl) rfl ?_;refine PWl.step (LR.storeRpT (enc:=DT.e) (L:=Ql k e1.kills) (a:=d) (b:=(⟨d.dev,IntKind.u64.wrap (d.n+1)⟩:DT)) Tryz.sizeOf23 rfl rfl rfl rfl rfl hd2 rfl rfl) rfl ?_;refine PWl.nil ?_;refine PWc.region ?_;refine PWl.step (LR.addW rfl rfl) rfl ?_;refine PWl.step (LR.move rfl) rfl ?_;refine PWl.nil ?_;exact⟨k+1,(),h2,Sub.of rfl (.cons rfl rfl<|.cons rfl rfl<|.cons rfl rfl<|.cons rfl rfl<|.cons rfl rfl<|.cons rfl (congrArg (fun z=>PV.d (.v (.int .i64 z))) (Vc (Nat.lt_of_lt_of_le hk hmax)))<|.nil) (.cons rfl rfl<|.cons rfl rfl<|.cons rfl rfl<|.cons rfl (congrArg (fun z=>Ob.row 25 2 (List.map DT.e z)) (bump_set k e1.kills d hd))<|.cons rfl rfl<|.cons rfl rfl<|.nil)⟩
      ·refine PWc.exit ?_;exact⟨(),(),trivial,Sub.of rfl (.cons rfl rfl<|.cons rfl rfl<|.cons rfl rfl<|.nil) (.cons rfl rfl<|.cons rfl rfl<|.cons rfl rfl<|.cons rfl rfl<|.nil)⟩
     ·rintro _ _ _;refine PWc.seq ?_;refine PWc.region ?_;replace h:=za h;obtain⟨l,hy116,h⟩:=h;replace h:=zp h;obtain⟨hkl,h⟩:=h;refine PWl.callObjW (fun B=>⟨161,[(2,.ref 2 0),(8,.ref 8 0),(10,.d (.v (.int .i64 p.1)))],[(2,.cells 28 ((EV.F e1 (.od (Yn B))).map .d)),(8,.cells 49 [.junk,.mp 30161,.mp 30162]),(30161,.mapH p.2.2.1 [.u16,.u64] true (zI DT.k (EV.eO (Yn B)) p.2.2.2.1)),(30162,.mapH p.2.2.2.2.1 [.u16,.u64] true (zI DT.k (EV.eO (Yn B)) p.2.2.2.2.2))]⟩) (fun a w hr=>?_) [(100,8),(101,30161),(102,30162),(14,116)] [] [100,101,102,14] (fun B=>Uf (Jx ctx B) (Yn B) p.2.1 p.2.2.1 p.2.2.2.1 p.2.2.2.2.1 p.2.2.2.2.2 l hy116) hK (fun _=>rfl) Tryz.call14 (fun _=>rfl) (by first | rfl | (simp;done) | (simp[PV.nilD,PV.ren,rn] <;> omega)) (fun B=>(.cons (by first | rfl | (congr 1;first | (simp;done) | (simp;omega) | omega))<|.cons (by first | rfl | (congr 1;first | (simp;done) | (simp;omega) | omega))<|.cons (by first | rfl | (congr 1;first | (simp;done) | (simp;omega) | omega))<|.nil)) (fun _=>rfl) (fun _=>rfl) rfl (fun _=>rfl) rfl (fun B hB=>?_)
      ·have h1:=Rel.putOb (id:=2) rfl (fun g h=>(flE e1).oldO h) hr;have h3:=Rel.putOb (id:=30161) rfl (fun g h=>FL.mapOld (F:=EV.F) (N:=(fun b=>β≠some b)) flE h) h1;have h4:=Rel.putOb (id:=30162) rfl (fun g h=>FL.mapOld (F:=EV.F) (N:=(fun b=>β≠some b)) flE h) h3;exact Sub.of rfl (.cons rfl rfl<|.cons rfl rfl<|.cons rfl rfl<|.nil) (.cons rfl rfl<|.cons rfl rfl<|.cons rfl rfl<|.cons rfl rfl<|.nil) a w h4
      refine PWl.step (LR.assign rfl) rfl ?_;refine PWl.nil ?_;refine PWc.re (tl:=[(2,.ref 2 0),(8,.ref 8 0),(10,.d (.v (.int .i64 p.1))),(12,.row 116 l.length)]) (to:=[(2,.cells 28 ((EV.F e1 (.od (Yn B))).map .d)),(8,.cells 49 [.junk,.mp 30161,.mp 30162]),(30161,.mapH p.2.2.1 [.u16,.u64] true (zI DT.k (EV.eO (Yn B)) p.2.2.2.1)),(30162,.mapH p.2.2.2.2.1 [.u16,.u64] true (zI DT.k (EV.eO (Yn B)) p.2.2.2.2.2)),(116,.row 28 7 (l.map fun x=>EV.F x (.nw (Jx ctx B))))]) rfl (.cons rfl rfl<|.cons rfl rfl<|.cons rfl rfl<|.cons rfl rfl<|.nil) (.cons rfl rfl<|.cons rfl rfl<|.cons rfl rfl<|.cons rfl rfl<|.cons rfl rfl<|.nil) ?_;refine PWc.rowMax (id:=116) rfl (fun hmax2=>?_);rw[List.length_map] at hmax2;have key:((l.map fun x=>EV.F x (.sp QZ)).all fun cs=>cs.all DV.spOK)=true:=by simp[List.all_eq_true,EV.F,DV.spOK]
      refine fun a w hr=>?_
      have hph:=spoilRow (u:=⟨161,[(2,.ref 2 0),(8,.ref 8 0),(10,.d (.v (.int .i64 p.1)))],[(2,.cells 28 ((EV.F e1 (.od (Yn B))).map .d)),(8,.cells 49 [.junk,.mp 30161,.mp 30162]),(30161,.mapH p.2.2.1 [.u16,.u64] true (zI DT.k (EV.eO (Yn B)) p.2.2.2.1)),(30162,.mapH p.2.2.2.2.1 [.u16,.u64] true (zI DT.k (EV.eO (Yn B)) p.2.2.2.2.2))]⟩) (rid:=116) (t:=12) (n':=l.length) (F:=EV.F) (l:=l) (B:=B) flE hr rfl rfl rfl (fun i q hq=>by
       simp only[zo] at hq
       split at hq
       ·rename_i e;subst e;cases hq;exact⟨rfl,.ref _ _,rfl⟩
       ·split at hq
        ·rename_i e;subst e;cases hq;exact⟨rfl,.ref _ _,rfl⟩
        ·split at hq
         ·rename_i e;subst e;cases hq;exact⟨rfl,.d (.v _),rfl⟩
         ·simp[xy] at hq) (fun id ob ho=>by
       have hd:∀ b,Jx ctx B b->¬ Yn B b:=fun b h1 h2=>by have h3:B<=b:=h1.1;have h4:b < B:=h2;omega
       simp only[Ep.look] at ho
       split at ho
       ·rename_i e;subst e;cases ho;exact⟨rfl,by decide,avF _ _ e1 hd⟩
       ·split at ho
        ·rename_i e;subst e;cases ho;exact⟨rfl,by decide,avBook _ _ _⟩
        ·split at ho
         ·rename_i e;subst e;cases ho;exact⟨rfl,by decide,avMap _ _ hd⟩
         ·split at ho
          ·rename_i e;subst e;cases ho;exact⟨rfl,by decide,avMap _ _ hd⟩
          ·cases ho)
      obtain⟨ctx',vs,hSK,hKS,hr',back⟩:=hph;refine ypa (ctx':=ctx') ?_ a w hr';refine PWc.re (tl:=[(2,.d (.v (vs 2))),(8,.d (.v (vs 8))),(10,.d (.v (vs 10))),(12,.row 116 l.length)]) (to:=[(116,.row 28 7 (l.map fun x=>EV.F x (.sp QZ)))]) rfl (.cons rfl rfl<|.cons rfl rfl<|.cons rfl rfl<|.cons rfl rfl<|.nil) (.cons rfl rfl<|.nil) ?_;refine PWc.seq ?_;refine PWc.region ?_;refine PWl.step (LR.move rfl) rfl ?_;refine PWl.step (LR.lenRow Tryz.underlying32 rfl) rfl ?_;refine PWl.step (LR.move rfl) rfl ?_;refine PWl.nil ?_;refine PWc.jn (m:=M.loop (WZ l.length) 0) (N:=fun _=>True) (yoa _ trivial 0) (fun(_:Unit) (_:Unit)=>⟨161,[(2,.d (.v (vs 2))),(8,.d (.v (vs 8))),(10,.d (.v (vs 10)))],[]⟩) (fun h3=>?_) ?_ (fun t u hs ⟨he,hq⟩=>⟨he,fun a w hr=>hq a w (hs a w hr)⟩)
      ·refine PWc.block ?_;refine PWc.loopM (fun(i:Nat) (_:Unit)=>⟨161,[(2,.d (.v (vs 2))),(8,.d (.v (vs 8))),(10,.d (.v (vs 10))),(12,.row 116 l.length),(118,.d (.v (.int .i64 (l.length:Int)))),(119,.d (.v (.int .i64 (i:Int))))],[(116,.row 28 7 (l.map fun x=>EV.F x (.sp QZ)))]⟩) () h3 (Sub.of rfl (.cons rfl rfl<|.cons rfl rfl<|.cons rfl rfl<|.cons rfl rfl<|.cons rfl rfl<|.cons rfl rfl<|.nil) (.cons rfl rfl<|.nil)) ?_;rintro N3 i _ h3;refine PWc.seq ?_;refine PWc.region ?_;refine PWl.step (LR.lss rfl rfl) rfl ?_;refine PWl.nil ?_;refine PWc.seq ?_;refine PWc.cond rfl (fun hc3=>?_) (fun hc3=>?_)
       ·replace h3:N3 (i+1):=by have:=iT hc3 h3;exact this
        have hi:i < l.length:=by have:=of_decide_eq_true hc3;omega
        obtain⟨x,hx⟩:∃ x,l[i]?=some x:=⟨_,List.getElem?_eq_getElem hi⟩
        have hxl:=hkl x (List.mem_of_getElem? hx);refine PWc.skip ?_;refine PWc.seq ?_;refine PWc.block ?_;refine PWc.seq ?_;refine PWc.region ?_;refine PWl.step (LR.move rfl) rfl ?_;refine PWl.step (LR.assign rfl) rfl ?_;refine PWl.nil ?_;refine PWc.seq ?_;refine PWc.region ?_;refine PWl.step (LR.move rfl) rfl ?_;refine PWl.step (LR.move rfl) rfl ?_;refine PWl.step (LR.idxRowT (L:=l) (y:=x) Tryz.underlying32 Tryz.sizeOf28 rfl rfl rfl ⟨Int.natCast_nonneg _,hx⟩) rfl ?_;refine PWl.step (LR.fieldRp Tryz.underlying28 rfl Tryz.sizeOf26 (by decide) rfl rfl) rfl ?_;refine PWl.step (LR.loadRpF (enc:=fun x=>EV.F x (.sp QZ)) (L:=l) (y:=x) Tryz.isAgg26 rfl rfl hx rfl) rfl ?_;refine PWl.step (LR.lenSp Tryz.underlying26 rfl) rfl ?_;refine PWl.step (LR.move rfl) rfl ?_;refine PWl.nil ?_;refine PWc.jn (m:=M.loop (WZ x.kills.length) 0) (N:=fun _=>True) (yoa _ trivial 0) (fun(_:Unit) (_:Unit)=>⟨161,[(2,.d (.v (vs 2))),(8,.d (.v (vs 8))),(10,.d (.v (vs 10))),(12,.row 116 l.length),(118,.d (.v (.int .i64 (l.length:Int)))),(119,.d (.v (.int .i64 (i:Int))))],[(116,.row 28 7 (l.map fun x=>EV.F x (.sp QZ)))]⟩) (fun h5=>?_) ?_ (fun t u hs q=>PWc.sub hs q)
        ·refine PWc.block ?_;refine PWc.loopM (fun(k:Nat) (_:Unit)=>⟨161,[(2,.d (.v (vs 2))),(8,.d (.v (vs 8))),(10,.d (.v (vs 10))),(12,.row 116 l.length),(118,.d (.v (.int .i64 (l.length:Int)))),(119,.d (.v (.int .i64 (i:Int)))),(13,.d (.v (.int .i64 (i:Int)))),(127,.d (.v (.int .i64 (x.kills.length:Int)))),(128,.d (.v (.int .i64 (k:Int))))],[(116,.row 28 7 (l.map fun x=>EV.F x (.sp QZ)))]⟩) () h5 (Sub.of rfl (.cons rfl rfl<|.cons rfl rfl<|.cons rfl rfl<|.cons rfl rfl<|.cons rfl rfl<|.cons rfl rfl<|.cons rfl rfl<|.cons rfl (by simp)<|.cons rfl rfl<|.nil) (.cons rfl rfl<|.nil)) ?_;rintro N5 k _ h5;refine PWc.seq ?_;refine PWc.region ?_;refine PWl.step (LR.lss rfl rfl) rfl ?_;refine PWl.nil ?_;refine PWc.seq ?_;refine PWc.cond rfl (fun hc5=>?_) (fun hc5=>?_)
         ·replace h5:N5 (k+1):=by have:=iT hc5 h5;exact this
          have hk:k < x.kills.length:=by have:=of_decide_eq_true hc5;omega
          obtain⟨y,hy⟩:∃ y,x.kills[k]?=some y:=⟨_,List.getElem?_eq_getElem hk⟩
          have hy2:(List.map DT.e x.kills)[k]?=some (DT.e y):=by rw[List.getElem?_map,hy];rfl
          refine PWc.skip ?_;refine PWc.seq ?_;refine PWc.block ?_;refine PWc.seq ?_;refine PWc.region ?_;refine PWl.step (LR.move rfl) rfl ?_;refine PWl.step (LR.assign rfl) rfl ?_;refine PWl.nil ?_;refine PWc.region ?_;refine PWl.step (LR.move rfl) rfl ?_;refine PWl.step (LR.move rfl) rfl ?_;refine PWl.step (LR.idxRowT (L:=l) (y:=x) Tryz.underlying32 Tryz.sizeOf28 rfl rfl rfl ⟨Int.natCast_nonneg _,hx⟩) rfl ?_;refine PWl.step (LR.fieldRp Tryz.underlying28 rfl Tryz.sizeOf26 (by decide) rfl rfl) rfl ?_;refine PWl.step (LR.loadRpF (enc:=fun x=>EV.F x (.sp QZ)) (L:=l) (y:=x) Tryz.isAgg26 rfl rfl hx rfl) rfl ?_;refine PWl.step (LR.move rfl) rfl ?_;refine PWl.step (LR.idxSp Tryz.underlying26 Tryz.sizeOf25 rfl rfl rfl hy2 rfl) rfl ?_;refine PWl.step (LR.fieldSq Tryz.underlying25 rfl Tryz.sizeOf22 (by decide) rfl rfl) rfl ?_;refine PWl.step (LR.loadSq Tryz.isAgg22 rfl rfl) rfl ?_;refine PWl.step (LR.addSp rfl rfl) rfl ?_;refine PWl.step (LR.idxSp Tryz.underlying26 Tryz.sizeOf25 rfl rfl rfl hy2 rfl) rfl ?_;refine PWl.step (LR.fieldSq Tryz.underlying25 rfl Tryz.sizeOf22 (by decide) rfl rfl) rfl ?_;refine PWl.step (LR.storeSpI hSK (Bool.and_eq_true_iff.2 ⟨rfl,by show((l.map fun x=>EV.F x (.sp QZ)).all (fun cs=>cs.all DV.spOK)&&true)=true;rw[key];rfl⟩) Tryz.sizeOf22 rfl rfl rfl) rfl ?_;refine PWl.nil ?_;refine PWc.region ?_;refine PWl.step (LR.addW rfl rfl) rfl ?_;refine PWl.step (LR.move rfl) rfl ?_;refine PWl.nil ?_;exact⟨k+1,(),h5,Sub.of rfl (.cons rfl rfl<|.cons rfl rfl<|.cons rfl rfl<|.cons rfl rfl<|.cons rfl rfl<|.cons rfl rfl<|.cons rfl rfl<|.cons rfl rfl<|.cons rfl (congrArg (fun z=>PV.d (.v (.int .i64 z))) (Vc (by omega)))<|.nil) (.cons rfl rfl<|.nil)⟩
         ·refine PWc.exit ?_;exact⟨(),(),trivial,Sub.of rfl (.cons rfl rfl<|.cons rfl rfl<|.cons rfl rfl<|.cons rfl rfl<|.cons rfl rfl<|.cons rfl rfl<|.nil) (.cons rfl rfl<|.nil)⟩
        ·rintro _ _ _;refine PWc.region ?_;refine PWl.step (LR.addW rfl rfl) rfl ?_;refine PWl.step (LR.move rfl) rfl ?_;refine PWl.nil ?_;exact⟨i+1,(),h3,Sub.of rfl (.cons rfl rfl<|.cons rfl rfl<|.cons rfl rfl<|.cons rfl rfl<|.cons rfl rfl<|.cons rfl (congrArg (fun z=>PV.d (.v (.int .i64 z))) (Vc (Nat.lt_of_lt_of_le hi hmax2)))<|.nil) (.cons rfl rfl<|.nil)⟩
       ·refine PWc.exit ?_;exact⟨(),(),trivial,Sub.of rfl (.cons rfl rfl<|.cons rfl rfl<|.cons rfl rfl<|.nil) (.nil)⟩
      ·rintro _ _ _;refine⟨rfl,fun a w hr=>?_⟩;have hr3:=back a w hr;refine(?_:PWc Tryz.prog ctx _ _ _) a w hr3;refine PWc.seq ?_;refine PWc.seq ?_;refine PWc.region ?_;refine PWl.step (LR.weak (LR.loadRefAgg (ps:=(EV.F e1 (.od (Yn B))).map .d) Tryz.isAgg28 Tryz.sizeOf28 rfl rfl rfl rfl) (wkO (Yn B) e1)) rfl ?_;replace h:=za h;obtain⟨v146,hy146,h⟩:=h;refine PWl.step (LR.callN (qn e1 v146 hy146) rfl Tryz.call20 rfl rfl rfl rfl) rfl ?_;refine PWl.step (LR.move rfl) rfl ?_;refine PWl.step (LR.eql rfl rfl) rfl ?_;refine PWl.step (LR.neqBool Tryz.underlying4 rfl rfl) rfl ?_;refine PWl.nil ?_;refine PWc.cond rfl (fun hc6=>?_) (fun hc6=>?_)
       ·replace h:=iT hc6 h;refine PWc.seq ?_;refine PWc.region ?_;refine PWl.step (LR.assign rfl) rfl ?_;refine PWl.nil ?_;refine PWc.ret ?_;replace h:_=r0:=h;subst h;exact⟨.inr rfl,_,.cons (.tmp rfl rfl)<|.nil,rfl⟩
       ·replace h:=iF hc6 h;refine PWc.skip ?_;refine PWc.seq ?_;have hAll:PObj Tryz.prog 14 [.ref 100 0] [(100,.cells 49 [.junk,.mp 101,.mp 102]),(101,.mapH p.2.2.1 [.u16,.u64] true (zI DT.k (EV.eO (Yn B)) p.2.2.2.1)),(102,.mapH p.2.2.2.2.1 [.u16,.u64] true (zI DT.k (EV.eO (Yn B)) p.2.2.2.2.2))] [100,101,102] (.d (.sl (List.map EV.e l))) (fun _:Unit=>[(100,.cells 49 [.junk,.mp 101,.mp 102]),(101,.mapH p.2.2.1 [.u16,.u64] true (zI DT.k (EV.eO (Yn B)) p.2.2.2.1)),(102,.mapH p.2.2.2.2.1 [.u16,.u64] true (zI DT.k (EV.eO (Yn B)) p.2.2.2.2.2))]):=PObj.weakR (PObj.dropRow (l:=List.map (EV.eN fun _=>True) l) (Uf (fun _=>True) (Yn B) p.2.1 p.2.2.1 p.2.2.2.1 p.2.2.2.2.1 p.2.2.2.2.2 l hy116).all (fun _=>rfl) (by simp) (fun _=>rfl)) (Wk.slm (F:=EV.F) flE (fun _=>True) l);refine PWc.re (tl:=[(2,.ref 2 0),(8,.ref 8 0),(10,.d (.v (.int .i64 p.1)))]) (to:=[(2,.cells 28 ((EV.F e1 (.od (Yn B))).map .d)),(8,.cells 49 [.junk,.mp 30161,.mp 30162]),(30161,.mapH p.2.2.1 [.u16,.u64] true (zI DT.k (EV.eO (Yn B)) p.2.2.2.1)),(30162,.mapH p.2.2.2.2.1 [.u16,.u64] true (zI DT.k (EV.eO (Yn B)) p.2.2.2.2.2))]) rfl (.cons rfl rfl<|.cons rfl rfl<|.cons rfl rfl<|.nil) (.cons rfl rfl<|.cons rfl rfl<|.cons rfl rfl<|.cons rfl rfl<|.nil) ?_;refine PWc.regionE [⟨[150],[],[],[],[],[],[],[]⟩,⟨[151],[],[],[],[],[],[],[]⟩,⟨[152],[],[],[],[],[],[],[]⟩,⟨[153],[],[8,30161,30162],[],[],[],[],[]⟩,⟨[154],[],[2],[],[],[],[],[]⟩,⟨[155],[],[],[],[],[],[],[]⟩,⟨[156],[],[],[],[],[],[],[]⟩,⟨[157],[],[],[],[],[],[],[]⟩,⟨[158],[],[],[],[],[],[],[]⟩,⟨[159],[],[],[],[],[],[],[]⟩,⟨[160],[],[],[],[],[],[],[]⟩,⟨[4],[],[],[],[],[],[],[]⟩] (by kernel_rfl) (by kernel_rfl) rfl ?_;refine PQe.stepP (fun _ he ho=>LR.move (he rfl rfl)) (.inl rfl) rfl ?_;refine PQe.stepP (fun _ he ho=>LR.neq (he rfl rfl) (he rfl rfl)) (.inl rfl) rfl ?_;refine PQe.stepP (fun _ he ho=>LR.move (he rfl rfl)) (.inl rfl) rfl ?_;refine PQe.split (d:=152) rfl (fun hg=>?_) (fun hg=>?_)
        ·replace h:=iT hg (zH h);replace h:(cond true (M.bind (M.det vq) fun v159=>M.pure v159) (M.pure false)).wp (·=r0):=h;refine PQe.skipP (.inl ⟨_,_,_,_,rfl,rfl,rfl,by decide⟩) rfl ?_;refine PQe.skipP (.inl ⟨_,_,_,_,rfl,rfl,rfl,by decide⟩) rfl ?_;refine PQe.skipP (.inl ⟨_,_,_,_,rfl,rfl,rfl,by decide⟩) rfl ?_;refine PQe.skipP (.inl ⟨_,_,_,_,rfl,rfl,rfl,by decide⟩) rfl ?_;refine PQe.stepP (fun _ he ho=>LR.pickT (he rfl rfl) (he rfl rfl)) (.inl rfl) rfl ?_;refine PQe.stepP (fun _ he ho=>LR.move (he rfl rfl)) (.inl rfl) rfl ?_;refine PQe.split (d:=158) rfl (fun hg2=>?_) (fun hg2=>?_)
         ·replace h:=iT hg2 h;replace h:=za h;obtain⟨v159,hy159,h⟩:=h;refine PQe.stepP (fun _ he ho=>LR.callN (Zo v159 hy159) (he rfl rfl) Tryz.call6 (xh he rfl rfl) rfl rfl rfl) (.inr ⟨_,_,_,rfl,rfl,rfl⟩) rfl ?_;refine PQe.stepP (fun _ he ho=>LR.pickT (he rfl rfl) (he rfl rfl)) (.inl rfl) rfl ?_;refine PQe.stepP (fun _ he ho=>LR.assign (he rfl rfl)) (.inl rfl) rfl ?_;refine PQe.nil ?_;refine PWc.ret ?_;replace h:_=r0:=h;subst h;exact⟨.inr rfl,_,.cons (.tmp rfl rfl)<|.nil,rfl⟩
         ·replace h:=iF hg2 h;refine PQe.skipP (.inl ⟨_,_,_,_,rfl,rfl,rfl,by decide⟩) rfl ?_;refine PQe.stepP (fun _ he ho=>LR.pickF (he rfl rfl) (he rfl rfl)) (.inl rfl) rfl ?_;refine PQe.stepP (fun _ he ho=>LR.assign (he rfl rfl)) (.inl rfl) rfl ?_;refine PQe.nil ?_;refine PWc.ret ?_;replace h:_=r0:=h;subst h;exact⟨.inr rfl,_,.cons (.tmp rfl rfl)<|.nil,rfl⟩
        ·replace h:=iF hg (zH h);replace h:=za h;obtain⟨v156,hy156,h⟩:=h;replace h:(cond v156 (M.bind (M.det vq) fun v159=>M.pure v159) (M.pure false)).wp (·=r0):=h;refine PQe.callObjS [(100,8),(101,30161),(102,30162)] [] [100,101,102] [] [(100,.cells 49 [.junk,.mp 101,.mp 102]),(101,.mapH p.2.2.1 [.u16,.u64] true (zI DT.k (EV.eO (Yn B)) p.2.2.2.1)),(102,.mapH p.2.2.2.2.1 [.u16,.u64] true (zI DT.k (EV.eO (Yn B)) p.2.2.2.2.2))] hAll hK (fun _ he=>⟨he rfl rfl,xh he rfl rfl⟩) Tryz.call14 (by first | rfl | (simp;done) | (simp[PV.nilD,PV.ren,rn] <;> omega)) (.cons (by first | rfl | (congr 1;first | (simp;done) | (simp;omega) | omega))<|.cons (by first | rfl | (congr 1;first | (simp;done) | (simp;omega) | omega))<|.cons (by first | rfl | (congr 1;first | (simp;done) | (simp;omega) | omega))<|.nil) (.nil) (.cons rfl<|.cons rfl<|.cons rfl<|.nil) (.cons (by first | rfl | (congr 1;first | (simp;done) | (simp;omega) | omega))<|.cons (by first | rfl | (congr 1;first | (simp;done) | (simp;omega) | omega))<|.cons (by first | rfl | (congr 1;first | (simp;done) | (simp;omega) | omega))<|.nil) rfl rfl rfl rfl rfl rfl (.inr ⟨_,_,_,rfl,rfl,rfl⟩) rfl ?_;refine PQe.stepP (fun _ he ho=>LR.weak (LR.loadRefAgg (ps:=(EV.F e1 (.od (Yn B))).map .d) Tryz.isAgg28 Tryz.sizeOf28 (he rfl rfl) (ho rfl rfl) rfl rfl) (wkO (Yn B) e1)) (.inr ⟨_,_,_,rfl,rfl,rfl⟩) rfl ?_;refine PQe.stepP (fun _ he ho=>LR.buildSliceD [.tmp 154] xA rfl rfl (.cons (he rfl rfl) rfl rfl<|.nil) (by decide) (by decide)) (.inr ⟨_,_,_,rfl,rfl,rfl⟩) rfl ?_;refine PQe.stepP (fun _ he ho=>LR.callN (zia l ([e1]) v156 hy156) (he rfl rfl) Tryz.call21 (xh he rfl rfl) rfl rfl rfl) (.inr ⟨_,_,_,rfl,rfl,rfl⟩) rfl ?_;refine PQe.stepP (fun _ he ho=>LR.pickF (he rfl rfl) (he rfl rfl)) (.inl rfl) rfl ?_;refine PQe.stepP (fun _ he ho=>LR.move (he rfl rfl)) (.inl rfl) rfl ?_;refine PQe.split (d:=158) rfl (fun hg2=>?_) (fun hg2=>?_)
         ·replace h:=iT hg2 h;replace h:=za h;obtain⟨v159,hy159,h⟩:=h;refine PQe.stepP (fun _ he ho=>LR.callN (Zo v159 hy159) (he rfl rfl) Tryz.call6 (xh he rfl rfl) rfl rfl rfl) (.inr ⟨_,_,_,rfl,rfl,rfl⟩) rfl ?_;refine PQe.stepP (fun _ he ho=>LR.pickT (he rfl rfl) (he rfl rfl)) (.inl rfl) rfl ?_;refine PQe.stepP (fun _ he ho=>LR.assign (he rfl rfl)) (.inl rfl) rfl ?_;refine PQe.nil ?_;refine PWc.ret ?_;replace h:_=r0:=h;subst h;exact⟨.inr rfl,_,.cons (.tmp rfl rfl)<|.nil,rfl⟩
         ·replace h:=iF hg2 h;refine PQe.skipP (.inl ⟨_,_,_,_,rfl,rfl,rfl,by decide⟩) rfl ?_;refine PQe.stepP (fun _ he ho=>LR.pickF (he rfl rfl) (he rfl rfl)) (.inl rfl) rfl ?_;refine PQe.stepP (fun _ he ho=>LR.assign (he rfl rfl)) (.inl rfl) rfl ?_;refine PQe.nil ?_;refine PWc.ret ?_;replace h:_=r0:=h;subst h;exact⟨.inr rfl,_,.cons (.tmp rfl rfl)<|.nil,rfl⟩
end Go.Proofs
namespace Go.Ep
open Go
theorem UF{n:Int}(h:-9223372036854775808<=n)(h':n<=9223372036854775807):IntKind.i64.wrap n=n:=by simp[IntKind.wrap,IntKind.bits,IntKind.signed];omega
theorem wU64{n:Int}(h:0<=n)(h':n<=18446744073709551615):IntKind.u64.wrap n=n:=by simp[IntKind.wrap,IntKind.bits,IntKind.signed];omega
theorem wU16{n:Int}(h:0<=n)(h':n<=65535):IntKind.u16.wrap n=n:=by simp[IntKind.wrap,IntKind.bits,IntKind.signed];omega
theorem yC{i:Nat}(h:i < 9223372036854775807):IntKind.i64.wrap ((i:Int)+1)=((i+1:Nat):Int):=by rw[UF (by omega) (by omega)];rfl
namespace M
variable{α β σ ρ τ ε:Type}
theorem yi(p:Prop)[Decidable p](x y:M α):cond (decide p) x y=if p then x else y:=by by_cases h:p <;> simp[h]
theorem ZL{body:σ->M (Step σ ρ)}(l:List ε)(mk:Nat->τ->σ)(f:τ->ε->τ)(g:τ->M ρ)
  (I:Nat->τ->Prop) (h1:∀ (i:Nat) (x:ε) (t:τ),l[i]?=some x->i < l.length->I i t->body (mk i t)=pure (.next (mk (i+1) (f t x)))/\I (i+1) (f t x))
  (h2:∀ t,I l.length t->body (mk l.length t)=(g t).bind fun r=>pure (.done r)) (t0:τ) (h0:I 0 t0):loop body (mk 0 t0)=g (l.foldl f t0):=by
 have key:∀ k i t,i+k=l.length->I i t->loop body (mk i t)=g ((l.drop i).foldl f t):=by
  intro k
  induction k with
  | zero=>
   intro i t hi hI;have:i=l.length:=by omega
   subst this;rw[Uw,h2 t hI,List.drop_length]
   rfl
  | succ k ih=>
   intro i t hi hI;have hlt:i < l.length:=by omega
   obtain⟨h3,h4⟩:=h1 i l[i] t (List.getElem?_eq_getElem hlt) hlt hI;rw[yD h3,ih (i+1) _ (by omega) h4,List.drop_eq_getElem_cons hlt]
   rfl
 simpa using key l.length 0 t0 (by omega) h0
theorem loopF{body:σ->M (Step σ ρ)}(l:List ε)(mk:Nat->σ)(p:Nat->ε->Bool)(r:Nat->ε->ρ)(d:M ρ)
  (h1:∀ (i:Nat) (x:ε),l[i]?=some x->i < l.length->body (mk i)=if p i x then pure (.done (r i x)) else pure (.next (mk (i+1))))
  (h2:body (mk l.length)=d.bind fun r=>pure (.done r)):loop body (mk 0)=match (l.zipIdx).find? (fun y=>p y.2 y.1) with | some y=>pure (r y.2 y.1) | none=>d:=by
 have key:∀ k i,i+k=l.length->loop body (mk i)=match ((l.drop i).zipIdx i).find? (fun y=>p y.2 y.1) with | some y=>pure (r y.2 y.1) | none=>d:=by
  intro k
  induction k with
  | zero=>
   intro i hi;have:i=l.length:=by omega
   subst this;rw[Uw,h2,List.drop_length]
   rfl
  | succ k ih=>
   intro i hi;have hlt:i < l.length:=by omega
   have h3:=h1 i l[i] (List.getElem?_eq_getElem hlt) hlt;rw[List.drop_eq_getElem_cons hlt,List.zipIdx_cons,List.find?_cons]
   by_cases hp:p i l[i]=true
   ·rw[if_pos hp] at h3;rw[zr h3];simp[hp]
   ·rw[if_neg hp] at h3;rw[yD h3,ih (i+1) (by omega)];simp[hp]
 simpa using key l.length 0 (by omega)
theorem wd{body:σ->M (Step σ ρ)}(l:List ε)(mk:Nat->σ)(p:Nat->ε->Bool)(r1 r2:ρ)
  (h1:∀ (i:Nat) (x:ε),l[i]?=some x->i < l.length->body (mk i)=if p i x then pure (.next (mk (i+1))) else pure (.done r2))
  (h2:body (mk l.length)=pure (.done r1)):loop body (mk 0)=pure (if l.zipIdx.all (fun y=>p y.2 y.1) then r1 else r2):=by
 have key:∀ k i,i+k=l.length->loop body (mk i)=pure (if ((l.drop i).zipIdx i).all (fun y=>p y.2 y.1) then r1 else r2):=by
  intro k
  induction k with
  | zero=>
   intro i hi;have:i=l.length:=by omega
   subst this;rw[zr h2,List.drop_length]
   rfl
  | succ k ih=>
   intro i hi;have hlt:i < l.length:=by omega
   have h3:=h1 i l[i] (List.getElem?_eq_getElem hlt) hlt;rw[List.drop_eq_getElem_cons hlt,List.zipIdx_cons,List.all_cons]
   by_cases hp:p i l[i]=true
   ·rw[if_pos hp] at h3;rw[yD h3,ih (i+1) (by omega),hp,Bool.true_and]
   ·rw[if_neg hp] at h3;rw[zr h3];simp[hp]
 have:=key l.length 0 (by omega);rw[List.drop_zero] at this;exact this
def came{ε:Type}(m:List ε)(L:List Nat):List ε:=L.filterMap fun i=>m[i]?
theorem yqa{m:List ε}{L:List Nat}{i:Nat}{y:ε}(h:m[i]?=some y):came m (L++[i])=came m L++[y]:=by simp[came,h]
theorem Qm{n:Nat}{L:List Nat}(hn:L.Nodup)(hb:∀ i∈L,i < n)(ha:∀ i,i < n->i∈L):L.Perm (List.range n):=by
 refine(List.perm_ext_iff_of_nodup hn List.nodup_range).2 fun i=>?_
 rw[List.mem_range];exact⟨hb i,ha i⟩
theorem yra{m:List ε}{L:List Nat}(hn:L.Nodup)(hb:∀ i∈L,i < m.length)(ha:∀ i,i < m.length->i∈L):(came m L).Perm m:=by
 have h1:=(Qm hn hb ha).filterMap fun i=>m[i]?
 have h2:(List.range m.length).filterMap (fun i=>m[i]?)=m:=by
  apply List.ext_getElem?;intro i;clear h1 hn hb ha;have:(List.range m.length).filterMap (fun i=>m[i]?)=m:=by
   induction m with
   | nil=>rfl
   | cons x r ih=>
    rw[List.length_cons,List.range_succ_eq_map,List.filterMap_cons];simp only[List.getElem?_cons_zero,List.filterMap_map]
    congr 1
  rw[this]
 rw[h2] at h1;exact h1
theorem ysa{n:Nat}{L:List Nat}(hn:L.Nodup)(hb:∀ i∈L,i < n):L.length<=n:=by
 have:=List.Nodup.length_le_of_subset hn (l₂:=List.range n) (fun i hi=>List.mem_range.2 (hb i hi));simpa using this
theorem full{n:Nat}{L:List Nat}(hn:L.Nodup)(hb:∀ i∈L,i < n)(hl:n<=L.length):∀ i,i < n->i∈L:=by
 intro i hi;refine Classical.byContradiction fun hni=>?_
 have:=ysa (n:=n) (L:=i::L) (List.nodup_cons.2 ⟨hni,hn⟩) (fun j hj=>by
  rcases List.mem_cons.1 hj with rfl | hj
  ·exact hi
  ·exact hb j hj)
 simp at this;omega
theorem loopM{body:σ->M (Step σ ρ)}(m:List ε)(mk:List Nat->τ->σ)(f:τ->ε->M τ)(g:τ->M ρ)(I:List ε->τ->Prop)(Q:ρ->Prop)
  (hb:∀ L t,(∀ i∈L,i < m.length)->body (mk L t)=yo (∀ i∈L,i < m.length) ((nxt m.length L).bind fun o=>match o with
   | none=>(g t).bind fun r=>pure (.done r)
   | some i=>(idx m (Int.ofNat i)).bind fun y=>(f t y).bind fun t'=>pure (.next (mk (L++[i]) t'))))
  (hs:∀ l t y,I l t->l.length < m.length->y∈m->∃ t',f t y=pure t'/\I (l++[y]) t') (he:∀ l t,l.Perm m->I l t->(g t).wp Q) (t0:τ) (h0:I [] t0):(loop body (mk [] t0)).wp Q:=by
 have key:∀ k L t,L.length+k=m.length->L.Nodup->(∀ i∈L,i < m.length)->I (came m L) t->Uv body Q (mk L t):=by
  intro k
  induction k with
  | zero=>
   intro L t hk hn hlt hI;refine XK ?_;rw[hb L t hlt];have hall:∀ i,i < m.length->i∈L:=fun i hi=>full hn hlt (by omega) i hi
   refine⟨hlt,⟨⟨none,hall⟩,fun o ho=>?_⟩⟩
   cases o with
   | none=>
    have:=he _ t (yra hn hlt hall) hI;exact this
   | some i=>exact absurd (hall i ho.1) ho.2
  | succ k ih=>
   intro L t hk hn hlt hI;refine XK ?_;rw[hb L t hlt];have hex:∃ i,i < m.length/\i∉L:=by
    refine Classical.byContradiction fun hno=>?_
    have hall:∀ i,i < m.length->i∈L:=fun i hi=>Classical.byContradiction fun h=>hno ⟨i,hi,h⟩
    have:=(Qm hn hlt hall).length_eq;simp at this;omega
   obtain⟨i0,hi0⟩:=hex;refine⟨hlt,⟨⟨some i0,hi0⟩,fun o ho=>?_⟩⟩
   cases o with
   | none=>exact absurd (ho i0 hi0.1) hi0.2
   | some i=>
    have hi:=List.getElem?_eq_getElem ho.1;obtain⟨t',h1,h2⟩:=hs (came m L) t m[i] hI (by have:=List.length_filterMap_le (fun i=>m[i]?) L;unfold came;omega) (List.getElem_mem ho.1);show((idx m (Int.ofNat i)).bind _).wp _;rw[show(Int.ofNat i)=(i:Int) from rfl,zJ hi,zA,h1,zA];refine ih (L++[i]) t' (by simp;omega) ?_ ?_ (by rw[yqa hi];exact h2)
    ·rw[List.nodup_append];refine⟨hn,by simp,fun a ha b hb'=>?_⟩;rw[List.mem_singleton.1 hb'];intro e;exact ho.2 (e▸ha)
    ·intro j hj;rcases List.mem_append.1 hj with hj | hj
     ·exact hlt j hj
     ·rw[List.mem_singleton.1 hj];exact ho.1
 exact key m.length [] t0 (by simp) List.nodup_nil (by simp) h0
end M
namespace AL
variable{κ ν:Type}[DecidableEq κ]
theorem get_set(m:List (κ×ν))(k q:κ)(v:ν):get (set m k v) q=if k=q then some v else get m q:=by
 induction m with
 | nil=>simp[set,get]
 | cons x r ih=>
  obtain⟨a,u⟩:=x
  by_cases h:a=k
  ·subst h;simp only[set,if_true,get];split <;> rfl
  ·simp only[set,h,if_false,get,ih]
   by_cases h2:a=q
   ·subst h2;simp[Ne.symm h]
   ·simp[h2]
theorem getZ_set(m:List (κ×ν))(k q:κ)(v z:ν):getZ (set m k v) q z=if k=q then v else getZ m q z:=by
 unfold getZ;rw[get_set];split <;> rfl
theorem keys_set(m:List (κ×ν))(k:κ)(v:ν):(set m k v).map (·.1)=if k∈m.map (·.1) then m.map (·.1) else m.map (·.1)++[k]:=by
 induction m with
 | nil=>simp[set]
 | cons x r ih=>
  obtain⟨a,u⟩:=x
  by_cases h:a=k
  ·subst h;simp[set]
  ·simp only[set,h,if_false,List.map_cons,ih,List.mem_cons,Ne.symm h,false_or]
   split <;> simp
theorem nodup_set{m:List (κ×ν)}(h:(m.map (·.1)).Nodup)(k:κ)(v:ν):((set m k v).map (·.1)).Nodup:=by
 rw[keys_set]
 split
 ·exact h
 ·rename_i hk
  rw[List.nodup_append];refine⟨h,by simp,fun a ha b hb=>?_⟩;rw[List.mem_singleton.1 hb];intro e;exact hk (e▸ha)
theorem get_mem{m:List (κ×ν)}{k:κ}{v:ν}(h:get m k=some v):(k,v)∈m:=by
 induction m with
 | nil=>simp[get] at h
 | cons x r ih=>
  obtain⟨a,u⟩:=x
  by_cases e:a=k
  ·subst e;simp[get] at h;subst h;simp
  ·simp only[get,e,if_false] at h;exact List.mem_cons_of_mem _ (ih h)
theorem mem_get{m:List (κ×ν)}(hn:(m.map (·.1)).Nodup){k:κ}{v:ν}(h:(k,v)∈m):get m k=some v:=by
 induction m with
 | nil=>simp at h
 | cons x r ih=>
  obtain⟨a,u⟩:=x;simp only[List.map_cons,List.nodup_cons] at hn;rcases List.mem_cons.1 h with e | h
  ·cases e;simp[get]
  ·have:a≠k:=fun e=>hn.1 (e▸List.mem_map.2 ⟨(k,v),h,rfl⟩)
   simp only[get,this,if_false];exact ih hn.2 h
theorem len_set(m:List (κ×ν))(k:κ)(v:ν):(set m k v).length<=m.length+1:=by
 induction m with
 | nil=>simp[set]
 | cons x r ih=>
  obtain⟨a,u⟩:=x;unfold set
  split
  ·simp
  ·simpa using ih
end AL
end Go.Ep
namespace Go.Ep
open Go
structure RB where
 ctx:List PT
 l:List EV
 deriving DecidableEq
def uB(l1:List EV)(i80:Int):List DT×Int->M (M.Step (List DT×Int) (List DT)):=fun⟨out107,k108⟩=>
 M.bind (M.idx l1 i80) fun x109=>
 cond ((decide (k108 < (x109.kills.length:Int))))
  (M.bind (M.idx l1 i80) fun x112=>
  M.bind (M.idx x112.kills k108) fun x114=>
  M.bind (M.det (Zg out107 x114)) fun v116=>
  M.pure (.next ((v116,(IntKind.i64.wrap (k108+1))))))
  (M.pure (.done out107))
def ZM(l1:List EV):List DT×Int->M (M.Step (List DT×Int) (List DT)):=fun⟨out79,i80⟩=>
 cond ((decide (i80 < (l1.length:Int))))
  (M.bind (M.bind (M.idx l1 i80) fun x83=>
  M.bind (M.det (Zg out79 x83.dot)) fun v85=>
  M.loop (uB l1 i80) (v85,0)) (fun out82=>
  M.pure (.next ((out82,(IntKind.i64.wrap (i80+1)))))))
  (M.pure (.done out79))
def Xf(l1:List EV):M (List DT):=
 M.bind (M.loop (ZM l1) (([]:List DT),0)) (fun out2=>
 M.pure out2)
def uo(b1:RB)(e2:EV):Int×List EV->M (M.Step (Int×List EV) (List EV)):=fun⟨i40,l41⟩=>
 cond ((decide (i40 < (b1.l.length:Int))))
  (M.bind (M.bind (M.bind (M.idx b1.l i40) fun x45=>
  cond (!decide (x45.kind=1))
   (M.pure true)
   (M.bind (M.idx b1.l i40) fun x48=>
   M.bind (M.det (WF e2.kills x48.dot)) fun v50=>
   M.pure (!v50))) (fun v44=>
  cond v44
   (M.bind (M.idx b1.l i40) fun x53=>
   M.yo ((l41.length+List.length ([x53]))*80<=140737488355328) <|
   M.pure (l41++[x53]))
   (M.pure l41))) (fun l43=>
  M.pure (.next (((IntKind.i64.wrap (i40+1)),l43)))))
  (M.pure (.done l41))
def qp(b1:RB)(e2:EV):M (RB×Int):=
 M.bind (M.det (YU e2)) fun v3=>
 cond (!v3)
  (M.pure (b1,1))
  (M.bind (M.det (wW b1.ctx e2.dot)) fun v6=>
  cond v6
   (M.pure (b1,7))
   (M.bind (M.loop (uo b1 e2) (0,([]:List EV))) (fun l9=>
   M.bind (M.det (Xf ([e2]))) fun v56=>
   M.bind (M.det (JW v56)) fun v58=>
   M.bind (M.det (ZG b1.ctx v58)) fun v60=>
   M.bind (M.det (Yv l9 e2)) fun v62=>
   M.pure ((⟨v60,v62⟩:RB),0))))
def ZN(l1:List EV)(k2:Int):Int×List EV->M (M.Step (Int×List EV) (List EV)):=fun⟨i22,out23⟩=>
 cond ((decide (i22 < (l1.length:Int))))
  (M.bind (M.bind (M.idx l1 i22) fun x26=>
  cond (decide (x26.kind=k2))
   (M.bind (M.idx l1 i22) fun x29=>
   M.yo ((out23.length+List.length ([x29]))*80<=140737488355328) <|
   M.pure (out23++[x29]))
   (M.pure out23)) (fun out25=>
  M.pure (.next (((IntKind.i64.wrap (i22+1)),out25)))))
  (M.pure (.done out23))
def jW(l1:List EV)(k2:Int):M (List EV):=
 M.bind (M.loop (ZN l1 k2) (0,([]:List EV))) (fun out3=>
 M.pure out3)
def VB(b1:RB):M (List EV):=
 M.bind (M.det (jW b1.l 1)) fun v2=>
 M.pure v2
def vY(l1:List EV)(cid2:Int):Int×List EV->M (M.Step (Int×List EV) (List EV)):=fun⟨i30,some31⟩=>
 cond ((decide (i30 < (l1.length:Int))))
  (M.bind (M.bind (M.bind (M.idx l1 i30) fun x35=>
  cond (decide (x35.kind=1))
   (M.bind (M.idx l1 i30) fun x38=>
   M.pure (decide (x38.cid=cid2)))
   (M.pure false)) (fun v34=>
  cond v34
   (M.bind (M.idx l1 i30) fun x41=>
   M.yo ((some31.length+List.length ([x41]))*80<=140737488355328) <|
   M.pure (some31++[x41]))
   (M.pure some31))) (fun some33=>
  M.pure (.next (((IntKind.i64.wrap (i30+1)),some33)))))
  (M.pure (.done some31))
def WJ(l1:List EV)(cid2:Int):M (List DT):=
 M.bind (M.loop (vY l1 cid2) (0,([]:List EV))) (fun some3=>
 M.bind (M.det (Xf some3)) fun v44=>
 M.pure v44)
def ZO(l1:List EV)(cid2:Int)(f3:Int):Int×List EV->M (M.Step (Int×List EV) (List EV)):=fun⟨i37,some38⟩=>
 cond ((decide (i37 < (l1.length:Int))))
  (M.bind (M.bind (M.bind (M.idx l1 i37) fun x42=>
  cond (decide (x42.kind=1))
   (M.bind (M.idx l1 i37) fun x45=>
   cond (decide (x45.cid=cid2))
    (M.bind (M.idx l1 i37) fun x48=>
    M.pure (decide (x48.field=f3)))
    (M.pure false))
   (M.pure false)) (fun v41=>
  cond v41
   (M.bind (M.idx l1 i37) fun x51=>
   M.yo ((some38.length+List.length ([x51]))*80<=140737488355328) <|
   M.pure (some38++[x51]))
   (M.pure some38))) (fun some40=>
  M.pure (.next (((IntKind.i64.wrap (i37+1)),some40)))))
  (M.pure (.done some38))
def jX(l1:List EV)(cid2:Int)(f3:Int):M (List DT):=
 M.bind (M.loop (ZO l1 cid2 f3) (0,([]:List EV))) (fun some4=>
 M.bind (M.det (Xf some4)) fun v54=>
 M.pure v54)
def Qn(b1:RB)(e2:EV):M (EV×Int):=
 M.bind (M.det (YU (⟨e2.dot,e2.kind,e2.cid,e2.field,e2.text,([]:List DT)⟩:EV))) fun v3=>
 cond (!v3)
  (M.pure (((⟨(⟨0,0⟩:DT),0,0,0,(⟨#[]⟩:ByteArray),([]:List DT)⟩:EV),1)))
  (M.bind (M.det (wW b1.ctx e2.dot)) fun v6=>
  cond v6
   (M.pure (((⟨(⟨0,0⟩:DT),0,0,0,(⟨#[]⟩:ByteArray),([]:List DT)⟩:EV),7)))
   (M.bind (M.det (VB b1)) fun v9=>
   M.bind (M.det (WJ v9 e2.cid)) fun v11=>
   M.bind (cond (decide (e2.kind=1))
    (M.bind (M.det (VB b1)) fun v15=>
    M.bind (M.det (jX v15 e2.cid e2.field)) fun v17=>
    M.pure v17)
    (M.pure v11)) (fun e13=>
   cond ((decide (256 < (e13.length:Int))))
    (M.pure (((⟨(⟨0,0⟩:DT),0,0,0,(⟨#[]⟩:ByteArray),([]:List DT)⟩:EV),3)))
    (M.pure ((⟨e2.dot,e2.kind,e2.cid,e2.field,e2.text,e13⟩:EV),0)))))
def yta(b1:RB)(c2:List PT):M RB:=
 M.bind (M.det (ZG b1.ctx c2)) fun v3=>
 M.pure (⟨v3,b1.l⟩:RB)
def Vk(e1:EV)(c2:List PT):M EV:=
 M.bind (M.det (wW c2 e1.dot)) fun v3=>
 M.bind (cond v3
  (M.pure ([]:List DT))
  (M.pure e1.kills)) (fun e5=>
 M.pure (⟨e1.dot,e1.kind,e1.cid,e1.field,e1.text,e5⟩:EV))
def vE(b1:RB)(c2:List PT):Int×List EV->M (M.Step (Int×List EV) (List EV)):=fun⟨i38,l39⟩=>
 cond ((decide (i38 < (b1.l.length:Int))))
  (M.bind (M.bind (M.bind (M.idx b1.l i38) fun x43=>
  cond (decide (x43.kind=1))
   (M.pure true)
   (M.bind (M.idx b1.l i38) fun x46=>
   M.bind (M.det (wW c2 x46.dot)) fun v48=>
   M.pure (!v48))) (fun v42=>
  cond v42
   (M.bind (M.idx b1.l i38) fun x51=>
   M.bind (M.det (Vk x51 c2)) fun v53=>
   M.yo ((l39.length+List.length ([v53]))*80<=140737488355328) <|
   M.pure (l39++[v53]))
   (M.pure l39))) (fun l41=>
  M.pure (.next (((IntKind.i64.wrap (i38+1)),l41)))))
  (M.pure (.done l39))
def Ji(b1:RB)(c2:List PT):M (RB×Int):=
 M.bind (M.loop (vE b1 c2) (0,([]:List EV))) (fun l3=>
 M.pure (((⟨b1.ctx,l3⟩:RB),(IntKind.i64.wrap ((b1.l.length:Int) - (l3.length:Int))))))
end Go.Ep
namespace Go.Ep.M.V
open Go
def yE(d:DT):Bool:=decide (1<=d.dev)&&(decide (1<=d.n)&&decide (d.n<=281474976710655))
theorem xK{d:DT}:yE d=true↔1<=d.dev/\1<=d.n/\d.n<=281474976710655:=by simp[yE]
theorem XB(d:DT):xM d=pure (yE d):=by
 unfold xM;rw[zd,zd,zA];refine congrArg pure ?_;rw[Bool.eq_iff_iff,xK];simp only[Bool.and_eq_true,decide_eq_true_eq];omega
theorem uC(d:DT):uQ d=pure (yE d):=by
 unfold uQ;rw[zd,zd,zA];refine congrArg pure ?_;rw[Bool.eq_iff_iff,xK];simp only[Bool.and_eq_true,decide_eq_true_eq];omega
theorem Vl(a b:List DT)(h:a.length<=1000000000000):Xa a b=pure (decide (a=b)):=by
 unfold Xa
 by_cases hl:(a.length:Int)=b.length
 ·simp only[hl,decide_true,Bool.not_true,cond_false];have:=wd (body:=ZH a b) a (fun i=>(i:Int)) (fun i x=>decide (b[i]?=some x)) (.brk ()) (.ret false) (fun i x hx hi=>by
   have hb:i < b.length:=by omega
   unfold ZH;rw[zJ hx,zJ (List.getElem?_eq_getElem hb),yC (by omega)];simp only[zA,List.getElem?_eq_getElem hb,Option.some.injEq];have:decide ((i:Int) < (a.length:Int))=true:=by simpa using hi
   rw[this,cond_true]
   by_cases he:b[i]=x
   ·subst he;simp
   ·rw[if_neg (by simpa using he)];have:(decide (x.dev=b[i].dev)&&decide (x.n=b[i].n))=false:=by
     rw[Bool.eq_false_iff];intro hc;simp at hc;apply he
     cases x;cases hh:b[i];simp_all
    rw[this];rfl) (by
   unfold ZH;simp)
  rw[show(0:Int)=((0:Nat):Int) from rfl,this]
  by_cases he:a=b
  ·subst he;rw[if_pos]
   ·simp[zA,Xz]
   ·rw[List.all_eq_true];intro ⟨x,i⟩ hx;rw[List.mk_mem_zipIdx_iff_getElem?] at hx;simpa using hx
  ·rw[if_neg]
   ·simp[he,zA,qJ]
   ·intro hall;rw[List.all_eq_true] at hall;apply he;apply List.ext_getElem (by omega);intro i h1 h2;have:=hall (a[i],i) (by rw[List.mk_mem_zipIdx_iff_getElem?];exact List.getElem?_eq_getElem h1);simp[h2] at this;exact this.symm
 ·have hne:a≠b:=fun e=>hl (by rw[e])
  simp[hl,hne]
def ofV : List DT->Int->Int
 | [],_=>0
 | d::r,dev=>if d.dev=dev/\yE d=true then max d.n (ofV r dev) else ofV r dev
theorem yua(v:List DT)(dev:Int):0<=ofV v dev/\ofV v dev<=281474976710655:=by
 induction v with
 | nil=>simp[ofV]
 | cons d r ih=>
  simp only[ofV]
  split
  ·rename_i h;have:=xK.1 h.2;omega
  ·exact ih
theorem ofV_pos{v:List DT}{dev:Int}:0 < ofV v dev↔∃ d∈v,d.dev=dev/\yE d=true:=by
 induction v with
 | nil=>simp[ofV]
 | cons d r ih=>
  simp only[ofV,List.mem_cons,exists_eq_or_imp]
  split
  ·rename_i h
   have:=xK.1 h.2
   constructor
   ·intro _;exact .inl h
   ·intro _;omega
  ·rename_i h
   rw[ih]
   constructor
   ·exact .inr
   ·rintro(hh | hh)
    ·exact absurd hh h
    ·exact hh
def UG : List Int->Int->List Int
 | [],k=>[k]
 | a::r,k=>if k < a then k::a::r else if k=a then a::r else a::UG r k
theorem VC{l:List Int}{k q:Int}:q∈UG l k↔q=k\/q∈l:=by
 induction l with
 | nil=>simp[UG]
 | cons a r ih=>
  unfold UG
  split
  ·simp
  ·split
   ·rename_i h;subst h;simp
   ·simp only[List.mem_cons,ih];constructor
    ·rintro(h | h | h) <;> simp[h]
    ·rintro(h | h | h) <;> simp[h]
theorem uD{l:List Int}(h:l.Pairwise (· < ·))(k:Int):(UG l k).Pairwise (· < ·):=by
 induction l with
 | nil=>simp[UG]
 | cons a r ih=>
  obtain⟨h1,h2⟩:=List.pairwise_cons.1 h;unfold UG
  split
  ·rename_i hk
   refine List.pairwise_cons.2 ⟨fun x hx=>?_,h⟩;rcases List.mem_cons.1 hx with rfl | hx
   ·exact hk
   ·have:=h1 x hx;omega
  ·split
   ·exact h
   ·refine List.pairwise_cons.2 ⟨fun x hx=>?_,ih h2⟩;rcases VC.1 hx with rfl | hx
    ·omega
    ·exact h1 x hx
theorem Xg(l : List Int)(k : Int) : (UG l k).length<=l.length+1 := by
  induction l with
  | nil => simp[UG]
  | cons a r ih => unfold UG; split <;> try split
                   all_goals simp_all
def ZP(l:List Int)(d:DT):List Int:=if yE d then UG l d.dev else l
def devsL(v:List DT):List Int:=v.foldl ZP []
theorem Xh(v:List DT):∀ l:List Int,l.Pairwise (· < ·)->(v.foldl ZP l).Pairwise (· < ·)/\(∀ k,k∈v.foldl ZP l↔k∈l\/∃ d∈v,d.dev=k/\yE d=true)/\(v.foldl ZP l).length<=l.length+v.length:=by
 induction v with
 | nil=>intro l h;simp[h]
 | cons d r ih=>
  intro l h;simp only[List.foldl_cons];unfold ZP
  split
  ·rename_i hg
   obtain⟨h1,h2,h3⟩:=ih _ (uD h d.dev);refine⟨h1,fun k=>?_,?_⟩
   ·have:=h2 k;unfold ZP at this;rw[this,VC]
    constructor
    ·rintro((rfl | h) | ⟨e,he,h⟩)
     ·exact .inr ⟨d,by simp,rfl,hg⟩
     ·exact .inl h
     ·exact .inr ⟨e,by simp[he],h⟩
    ·rintro(h | ⟨e,he,h⟩)
     ·exact .inl (.inr h)
     ·rcases List.mem_cons.1 he with rfl | he
      ·exact .inl (.inl h.1.symm)
      ·exact .inr ⟨e,he,h⟩
   ·have:=Xg l d.dev;simp only[List.length_cons];unfold ZP at h3;omega
  ·rename_i hg
   obtain⟨h1,h2,h3⟩:=ih _ h;refine⟨h1,fun k=>?_,?_⟩
   ·have:=h2 k;unfold ZP at this;rw[this]
    constructor
    ·rintro(h | ⟨e,he,h⟩)
     ·exact .inl h
     ·exact .inr ⟨e,by simp[he],h⟩
    ·rintro(h | ⟨e,he,h⟩)
     ·exact .inl h
     ·rcases List.mem_cons.1 he with rfl | he
      ·exact absurd h.2 hg
      ·exact .inr ⟨e,he,h⟩
   ·simp only[List.length_cons];unfold ZP at h3;omega
theorem vZ{v:List DT}{k:Int}:k∈devsL v↔0 < ofV v k:=by rw[ofV_pos];simpa[devsL] using (Xh v [] List.Pairwise.nil).2.1 k
def va(m:List (Int×Int))(d:DT):List (Int×Int):=if yE d then AL.set m d.dev (max (AL.getZ m d.dev 0) d.n) else m
def ZW(v:List DT):List (Int×Int):=v.foldl va []
theorem jY(v:List DT):∀ m:List (Int×Int),(m.map (·.1)).Nodup->((v.foldl va m).map (·.1)).Nodup/\((∀ k,0<=AL.getZ m k 0)->∀ k,AL.getZ (v.foldl va m) k 0=max (AL.getZ m k 0) (ofV v k))/\(v.foldl va m).length<=m.length+v.length/\(∀ k,k∈(v.foldl va m).map (·.1)->k∈m.map (·.1)\/0 < ofV v k):=by
 induction v with
 | nil=>
  intro m h;refine⟨h,fun h0 k=>?_,by simp,fun k hk=>.inl hk⟩;have:=h0 k;simp only[List.foldl_nil,ofV];omega
 | cons d r ih=>
  intro m h;simp only[List.foldl_cons]
  by_cases hg:yE d=true
  ·have hd:=xK.1 hg;have e:va m d=AL.set m d.dev (max (AL.getZ m d.dev 0) d.n):=by simp[va,hg]
   rw[e];obtain⟨h1,h2,h3,h4⟩:=ih _ (AL.nodup_set h d.dev (max (AL.getZ m d.dev 0) d.n));refine⟨h1,fun h0 k=>?_,?_,fun k hk=>?_⟩
   ·rw[h2 (fun q=>by rw[AL.getZ_set];have:=h0 q;have:=h0 d.dev;split <;> omega),AL.getZ_set];simp only[ofV]
    by_cases hk:d.dev=k
    ·subst hk;simp only[if_true,hg,and_self];omega
    ·simp[hk]
   ·have:=AL.len_set m d.dev (max (AL.getZ m d.dev 0) d.n);simp only[List.length_cons];omega
   ·simp only[ofV];rcases h4 k hk with h5 | h5
    ·rw[AL.keys_set] at h5
     split at h5
     ·exact .inl h5
     ·rcases List.mem_append.1 h5 with h5 | h5
      ·exact .inl h5
      ·right
       rw[List.mem_singleton.1 h5,if_pos ⟨rfl,hg⟩];omega
    ·right;split <;> omega
  ·have e:va m d=m:=by simp[va,hg]
   rw[e];obtain⟨h1,h2,h3,h4⟩:=ih m h;have e2:∀ k,ofV (d::r) k=ofV r k:=fun k=>by simp only[ofV];rw[if_neg (fun hh=>hg hh.2)]
   exact⟨h1,fun h0 k=>by rw[h2 h0,e2],by simp only[List.length_cons];omega,fun k hk=>by rw[e2];exact h4 k hk⟩
theorem YX(v:List DT):((ZW v).map (·.1)).Nodup:=(jY v [] (by simp)).1
theorem Xi(v:List DT)(k:Int):AL.getZ (ZW v) k 0=ofV v k:=by
 have:=(jY v [] (by simp)).2.1 (fun _=>Int.le_refl _) k;have h2:=yua v k;rw[ZW,this];show max 0 (ofV v k)=_;omega
theorem jZ{v:List DT}{k n:Int}(h:(k,n)∈ZW v):n=ofV v k/\0 < n:=by
 have h1:=AL.mem_get (YX v) h;have h2:AL.getZ (ZW v) k 0=n:=by simp[AL.getZ,h1]
 rw[Xi] at h2;have h3:=(jY v [] (by simp)).2.2.2 k (List.mem_map.2 ⟨_,h,rfl⟩);simp at h3;omega
def qq(a b:DT):Int:=if a=b then 0 else if zQ a b then -1 else 1
theorem YY(a b:DT):Yu a b=pure (qq a b):=by
 unfold Yu qq;have h1:(decide (a.dev=b.dev)&&decide (a.n=b.n))=decide (a=b):=by
  rw[Bool.eq_iff_iff];cases a;cases b;simp
 have h2:(cond (decide (a.dev < b.dev)) (pure true) (cond (decide (a.dev=b.dev)) (pure (decide (a.n < b.n))) (pure false)):M Bool)=pure (zQ a b):=by
  rw[zd,JP];rfl
 rw[h1,h2,yi,zA]
 split
 ·rfl
 ·cases zQ a b <;> rfl
theorem Xj{a b:DT}:qq a b < 0↔zQ a b=true:=by
 unfold qq
 split
 ·rename_i h;subst h;simp[zQ]
 ·split <;> simp_all
theorem cmpD_pos{a b:DT}:0 < qq a b↔zQ b a=true:=by
 unfold qq
 by_cases h:a=b
 ·subst h;simp[zQ]
 ·rw[if_neg h]
  cases a;cases b
  simp only[DT.mk.injEq] at h;simp only[zQ,Bool.or_eq_true,Bool.and_eq_true,decide_eq_true_eq]
  split <;> omega
theorem WK(l:List DT)(d:DT)(h:l.length<=1000000000000):Zg l d=pure ((l.filter fun x=>zQ x d)++[d]++(l.filter fun x=>zQ d x)):=by
 unfold Zg;have c0:∀ o:List DT,o.length<=1000000000000->True:=fun _ _=>trivial
 have h1:=ZL (body:=YO l d) l (fun i (o:List DT)=>((i:Int),o)) (fun o x=>if zQ x d then o++[x] else o) (fun o=>pure o) (fun i o=>o.length<=i) (fun i x o hx hi ho=>by
  have h1:decide ((i:Int) < (l.length:Int))=true:=by simpa using hi
  unfold YO;simp only[h1,cond_true,zJ hx,zA,YY,zB,yC (show i < 9223372036854775807 by omega),yi,Xj]
  split
  ·rw[zE (by simp;omega)];exact⟨rfl,by simp;omega⟩
  ·exact⟨rfl,by omega⟩) (fun o _=>by unfold YO;simp[zA]) [] (by simp)
 have h2:∀ o0:List DT,o0.length<=1000000000001->loop (ul l d) (0,o0)=pure (l.foldl (fun o x=>if zQ d x then o++[x] else o) o0):=fun o0 ho0=>by
  have:=ZL (body:=ul l d) l (fun i (o:List DT)=>((i:Int),o)) (fun o x=>if zQ d x then o++[x] else o) (fun o=>pure o) (fun i o=>o.length<=o0.length+i) (fun i x o hx hi ho=>by
   have h1:decide ((i:Int) < (l.length:Int))=true:=by simpa using hi
   unfold ul;simp only[h1,cond_true,zJ hx,zA,YY,zB,yC (show i < 9223372036854775807 by omega),yi,cmpD_pos]
   split
   ·rw[zE (by simp;omega)];exact⟨rfl,by simp;omega⟩
   ·exact⟨rfl,by omega⟩) (fun o _=>by unfold ul;simp[zA]) o0 (by simp)
  exact this
 have hf:∀ (p:DT->Bool) (l o:List DT),l.foldl (fun o x=>if p x then o++[x] else o) o=o++l.filter p:=by
  intro p l
  induction l with
  | nil=>simp
  | cons x r ih=>
   intro o;rw[List.foldl_cons,ih,List.filter_cons]
   split <;> simp
 rw[show((0:Int),([]:List DT))=(((0:Nat):Int),[]) from rfl,h1,hf,zA,zE,h2,hf,zA]
 ·rfl
 ·have:=List.length_filter_le (fun x=>zQ x d) l;simp;omega
 ·have:=List.length_filter_le (fun x=>zQ x d) l;simp;omega
def Yh(l:List Int):List DT:=l.map fun k=>⟨k,1⟩
theorem Qo{l:List Int}(h:l.Pairwise (· < ·))(k:Int):((Yh l).filter fun x=>zQ x ⟨k,1⟩)++[⟨k,1⟩]++((Yh l).filter fun x=>zQ ⟨k,1⟩ x)=Yh (UG l k):=by
 induction l with
 | nil=>rfl
 | cons a r ih=>
  obtain⟨h1,h2⟩:=List.pairwise_cons.1 h;have i2:=ih h2;unfold UG
  by_cases c1:k < a
  ·rw[if_pos c1];have e1:(Yh (a::r)).filter (fun x=>zQ x ⟨k,1⟩)=[]:=by
    rw[List.filter_eq_nil_iff];intro x hx;simp only[Yh,List.map_cons,List.mem_cons,List.mem_map] at hx;rcases hx with rfl | ⟨b,hb,rfl⟩
    ·simp[zQ];omega
    ·have:=h1 b hb;simp[zQ];omega
   have e2:(Yh (a::r)).filter (fun x=>zQ ⟨k,1⟩ x)=Yh (a::r):=by
    rw[List.filter_eq_self];intro x hx;simp only[Yh,List.map_cons,List.mem_cons,List.mem_map] at hx;rcases hx with rfl | ⟨b,hb,rfl⟩
    ·simp[zQ];omega
    ·have:=h1 b hb;simp[zQ];omega
   rw[e1,e2];rfl
  ·rw[if_neg c1]
   by_cases c2:k=a
   ·subst c2;rw[if_pos rfl];have e1:(Yh (k::r)).filter (fun x=>zQ x ⟨k,1⟩)=[]:=by
     rw[List.filter_eq_nil_iff];intro x hx;simp only[Yh,List.map_cons,List.mem_cons,List.mem_map] at hx;rcases hx with rfl | ⟨b,hb,rfl⟩
     ·simp[zQ]
     ·have:=h1 b hb;simp[zQ];omega
    have e2:(Yh (k::r)).filter (fun x=>zQ ⟨k,1⟩ x)=Yh r:=by
     show List.filter _ (⟨k,1⟩::Yh r)=_;rw[List.filter_cons,if_neg (by simp[zQ]),List.filter_eq_self];intro x hx;simp only[Yh,List.mem_map] at hx;obtain⟨b,hb,rfl⟩:=hx;have:=h1 b hb;simp[zQ];omega
    rw[e1,e2];rfl
   ·rw[if_neg c2];show(List.filter _ (⟨a,1⟩::Yh r))++_++(List.filter _ (⟨a,1⟩::Yh r))=⟨a,1⟩::Yh (UG r k);rw[List.filter_cons,if_pos (by simp[zQ];omega),List.filter_cons,if_neg (by simp[zQ];omega),<- i2]
    rfl
theorem equal_eq(a b:List DT)(h:a.length<=1000000000000):yN a b=pure (decide (a=b)):=by
 have e:yN a b=Xa a b:=rfl;rw[e,Vl a b h]
theorem qr(a b:List DT)(h:a.length<=1000000000000):Wt a b=pure (decide (a=b)):=by
 unfold Wt;rw[equal_eq a b h,zB,zA]
end Go.Ep.M.V

/- Texts that the walks and laws lean on, side by side. -/
import Derived.Test.YtkenfmgolgaidaaADs3
import Derived.Test.YtkenfmgolgaidaaADs4
import Derived.Test.YtkenfmgolgaidaaADs5
set_option linter.unusedVariables false
set_option linter.unusedSimpArgs false
namespace Go.Ep
def TEvent.eV(v:Value)(x:TEvent):List DV:=[.v (.int .u16 x.dot.dev),.v (.int .u64 x.dot.n),.v (.int .u8 x.kind),.v (.int .u64 x.cid),.v (.int .u8 x.field),.v (.string x.text),.v v]
end Go.Ep
namespace Go.Proofs
open Go.Ep
set_option maxHeartbeats 1000000
set_option maxRecDepth 100000
set_option linter.unusedVariables false
set_option linter.unusedSimpArgs false
def rowC(β:Nat → Option Nat)(vs:Nat → Value)(c:Nat)(L:List TEvent):List (List DV):=L.mapIdx fun j x=>if j < c then x.eV (vs j) else x.eM (fun b=>β j=some b)
theorem rowC_get(β:Nat → Option Nat)(vs:Nat → Value)(c:Nat)(L:List TEvent)(j:Nat):(rowC β vs c L)[j]?=L[j]?.map fun x=>if j < c then x.eV (vs j) else x.eM (fun b=>β j=some b):=by
 simp[rowC]
theorem rowC_len(β:Nat → Option Nat)(vs:Nat → Value)(c:Nat)(L:List TEvent):(rowC β vs c L).length=L.length:=by simp[rowC]
theorem rowC_zero(β:Nat → Option Nat)(vs:Nat → Value)(L:List TEvent):rowB β L.length L=rowC β vs 0 L:=by
 apply List.ext_getElem?;intro j;rw[rowB_get,rowC_get]
 cases hj:L[j]? with
 | none=>rfl
 | some x=>
  simp only[Option.map_some];rw[if_pos (List.getElem?_eq_some_iff.1 hj).1,if_neg (by omega)]
theorem rowC_set(β:Nat → Option Nat)(vs:Nat → Value)(c:Nat)(L:List TEvent)(y:TEvent)(v:Value)(hy:L[c]?=some y):(rowC β vs c L).set c (y.eV v)=rowC β (fun j=>if j=c then v else vs j) (c+1) L:=by
 apply List.ext_getElem?;intro j;rw[rowC_get,List.getElem?_set,rowC_get,rowC_len]
 by_cases h1:c=j
 ·subst h1;rw[if_pos rfl,if_pos (List.getElem?_eq_some_iff.1 hy).1,hy];simp
 ·rw[if_neg h1]
  cases hj:L[j]? with
  | none=>rfl
  | some z=>
   simp only[Option.map_some]
   by_cases h2:j < c
   ·rw[if_pos h2,if_pos (by omega),if_neg (Ne.symm h1)]
   ·rw[if_neg h2,if_neg (by omega)]
theorem rowC_av{B:Nat}{β:Nat → Option Nat}(hβ:InjB B β)(vs:Nat → Value)(c:Nat)(L:List TEvent):∀ cs∈rowC β vs (c+1) L,∀ x∈cs,AvD (fun b=>β c=some b) x:=by
 intro cs hcs x hx;obtain⟨j,hj⟩:=List.mem_iff_getElem?.1 hcs;rw[rowC_get] at hj
 cases hl:L[j]? with
 | none=>rw[hl] at hj;cases hj
 | some z=>
  rw[hl] at hj;simp only[Option.map_some,Option.some.injEq] at hj;subst hj
  by_cases h:j < c+1
  ·rw[if_pos h] at hx;simp only[TEvent.eV,List.mem_cons,List.not_mem_nil,or_false] at hx;rcases hx with rfl | rfl | rfl | rfl | rfl | rfl | rfl <;> exact .v _
  ·rw[if_neg h] at hx;simp only[TEvent.eM,List.mem_cons,List.not_mem_nil,or_false] at hx;rcases hx with rfl | rfl | rfl | rfl | rfl | rfl | rfl
   iterate 6 exact .v _
   exact .rw _ _ _ _ fun b hb=>hβ.1 c j b (by omega) hb
def bump(k:Nat)(L:List TDot):List TDot:=L.mapIdx fun j d=>if j < k then ⟨d.dev,IntKind.u64.wrap (d.n+1)⟩ else d
theorem bump_get(k:Nat)(L:List TDot)(j:Nat):(bump k L)[j]?=L[j]?.map fun d=>if j < k then ⟨d.dev,IntKind.u64.wrap (d.n+1)⟩ else d:=by simp[bump]
theorem bump_len(k:Nat)(L:List TDot):(bump k L).length=L.length:=by simp[bump]
theorem bump_zero(L:List TDot):bump 0 L=L:=by
 apply List.ext_getElem?;intro j;simp[bump_get]
theorem bump_set(k:Nat)(L:List TDot)(d:TDot)(h:L[k]?=some d):(bump k L).set k ⟨d.dev,IntKind.u64.wrap (d.n+1)⟩=bump (k+1) L:=by
 apply List.ext_getElem?;intro j;rw[bump_get,List.getElem?_set,bump_get,bump_len]
 by_cases h1:k=j
 ·subst h1;rw[if_pos rfl,if_pos (List.getElem?_eq_some_iff.1 h).1,h];simp
 ·rw[if_neg h1]
  cases hj:L[j]? with
  | none=>rfl
  | some z=>
   simp only[Option.map_some]
   by_cases h2:j < k
   ·rw[if_pos h2,if_pos (by omega)]
   ·rw[if_neg h2,if_neg (by omega)]
def cntB(n:Nat):Nat → M (M.Step Nat Unit):=fun i=>cond (decide ((i:Int) < (n:Int))) (M.pure (.next (i+1))) (M.pure (.done ()))
theorem cnt_wp(n:Nat){R:Unit → Prop}(hR:R ())(i:Nat):(M.loop (cntB n) i).wp R:=by
 intro Q hQ;have key:∀ k i,n - i ≤ k → Q i:=by
  intro k
  induction k with
  | zero=>
   intro i hi;refine hQ i ?_;unfold cntB;rw[show decide ((i:Int) < (n:Int))=false from decide_eq_false (by omega)];exact hR
  | succ k ih=>
   intro i hi;refine hQ i ?_;unfold cntB
   by_cases h:i < n
   ·rw[show decide ((i:Int) < (n:Int))=true from decide_eq_true (by omega)];exact ih (i+1) (by omega)
   ·rw[show decide ((i:Int) < (n:Int))=false from decide_eq_false (by omega)];exact hR
 exact key _ i (Nat.le_refl _)
theorem plainEvents(l:List TEvent):Plain (.sl (List.map TEvent.e l)):=.slm (fun a x hx=>by
 simp only[TEvent.e,List.mem_cons,List.not_mem_nil,or_false] at hx;rcases hx with rfl | rfl | rfl | rfl | rfl | rfl | rfl
 iterate 6 exact .v _
 exact .slm (fun a x hx=>by
  simp only[TDot.e,List.mem_cons,List.not_mem_nil,or_false] at hx;rcases hx with rfl | rfl <;> exact .v _) _) l
theorem plainParts(l:List TPart):Plain (.sl (List.map TPart.e l)):=.slm (fun a x hx=>by
 simp only[TPart.e,List.mem_cons,List.not_mem_nil,or_false] at hx;rcases hx with rfl | rfl
 ·exact .v _
 exact .slm (fun a x hx=>by
  simp only[TRun.e,List.mem_cons,List.not_mem_nil,or_false] at hx;rcases hx with rfl | rfl <;> exact .v _) _) l
structure Chk(dev:Int)(to:List TPart)(i:Nat)(a b:TEvent):Prop where
 kind:b.kind=a.kind
 cid:b.cid=a.cid
 field:b.field=a.field
 text:b.text=a.text
 dev:b.dot.dev=dev
 n:b.dot.n=IntKind.u64.wrap (IntKind.u64.wrap (i:Int)+1)
 good:∃ ga:Bool,(r13_Good a).wp (·=ga) ∧ (ga=true → (r13_Good b).wp (·=true))
 has:∀ d∈b.kills,(r09_Has to d).wp (·=true)
def l29_OutboxNew(l : List TEvent)(dev : Int)(to : List TPart) : M Bool :=
  M.bind (M.bind (M.det (r13_Few l 30)) fun v13 =>
    cond (!v13) (M.pure true) (M.bind (M.det (r09_Few to)) fun v17 =>
    cond (!v17) (M.pure true) (cond (decide (dev=0)) (M.pure true) (M.bind (M.det (r09_Runs to dev)) fun v27 => M.pure (decide ((v27.length : Int) > 0)))))) fun v30 =>
  cond v30 (M.bind (M.det l29_works) M.pure)
  (M.bind (M.det (outbox_Replay l dev to)) fun x =>
   M.need (l.length=x.length ∧ ∀ i a b, l[i]?=some a → x[i]?=some b → Chk dev to i a b)
   (M.bind (M.det (r29_Replay l dev to)) fun y =>
   M.bind (M.det (r13_All x y)) fun v132 =>
   cond v132 (M.bind (M.det l29_works) M.pure) (M.pure false)))
theorem l29_OutboxNew_ok(l1:List TEvent)(dev2:Int)(to3:List TPart)(r0:Bool)(h:(l29_OutboxNew l1 dev2 to3).wp (·=r0)):PFun Try.prog 3 [.d (.sl (List.map TEvent.e l1)),.d (.v (.int .u16 dev2)),.d (.sl (List.map TPart.e to3))] (.d (.v (.bool r0))):=by
 refine PFun.intro0 (sl:=[(0,_),(1,_),(2,_)]) Try.func3 rfl Try.ntmps3 rfl rfl ?_;intro ctx hK hK0;refine PWc.seq ?_;refine PWc.region ?_;refine PWl.step (LR.assign rfl) rfl ?_;refine PWl.nil ?_;refine PWc.seq ?_;refine PWc.seq ?_;refine PWc.jn (iBind h) (fun(v30:Bool) (_:Unit)=>⟨136,[(0,.d (.sl (List.map TEvent.e l1))),(1,.d (.v (.int .u16 dev2))),(2,.d (.sl (List.map TPart.e to3))),(30,.d (.v (.bool v30)))],[]⟩) (fun h=>?_) ?_
 ·refine PWc.region ?_;refine PWl.step (LR.move rfl) rfl ?_;replace h:=iDet h;obtain⟨v13,hy13,h⟩:=h;refine PWl.step (LR.callN (r13_Few_ok l1 30 v13 hy13) rfl Try.call4 rfl rfl rfl rfl) rfl ?_;refine PWl.step (LR.not rfl) rfl ?_;refine PWl.step (LR.move rfl) rfl ?_;refine PWl.split (d:=15) rfl (fun hg1=>?_) (fun hg1=>?_)
  ·replace h:=iT hg1 h;refine PWl.guardF rfl rfl rfl (by decide) ?_;refine PWl.guardF rfl rfl rfl (by decide) ?_;refine PWl.guardF rfl rfl rfl (by decide) ?_;refine PWl.step (LR.pickT rfl rfl) rfl ?_;refine PWl.step (LR.move rfl) rfl ?_;refine PWl.guardF rfl rfl rfl (by decide) ?_;refine PWl.guardF rfl rfl rfl (by decide) ?_;refine PWl.step (LR.pickT rfl rfl) rfl ?_;refine PWl.step (LR.move rfl) rfl ?_;refine PWl.guardF rfl rfl rfl (by decide) ?_;refine PWl.guardF rfl rfl rfl (by decide) ?_;refine PWl.guardF rfl rfl rfl (by decide) ?_;refine PWl.guardF rfl rfl rfl (by decide) ?_;refine PWl.guardF rfl rfl rfl (by decide) ?_;refine PWl.step (LR.pickT rfl rfl) rfl ?_;refine PWl.nil ?_;exact⟨true,(),h,Sub.of rfl (.cons rfl rfl<|.cons rfl rfl<|.cons rfl rfl<|.cons rfl rfl<|.nil) (.nil)⟩
  ·replace h:=iF hg1 h;refine PWl.guardT (LR.move rfl) rfl rfl rfl ?_;replace h:=iDet h;obtain⟨v17,hy17,h⟩:=h;refine PWl.guardT (LR.callN (r09_Few_ok to3 v17 hy17) rfl Try.call5 rfl rfl rfl rfl) rfl rfl rfl ?_;refine PWl.guardT (LR.not rfl) rfl rfl rfl ?_;refine PWl.step (LR.pickF rfl rfl) rfl ?_;refine PWl.step (LR.move rfl) rfl ?_;refine PWl.split (d:=20) rfl (fun hg2=>?_) (fun hg2=>?_)
   ·replace h:=iT hg2 h;refine PWl.guardF rfl rfl rfl (by decide) ?_;refine PWl.guardF rfl rfl rfl (by decide) ?_;refine PWl.step (LR.pickT rfl rfl) rfl ?_;refine PWl.step (LR.move rfl) rfl ?_;refine PWl.guardF rfl rfl rfl (by decide) ?_;refine PWl.guardF rfl rfl rfl (by decide) ?_;refine PWl.guardF rfl rfl rfl (by decide) ?_;refine PWl.guardF rfl rfl rfl (by decide) ?_;refine PWl.guardF rfl rfl rfl (by decide) ?_;refine PWl.step (LR.pickT rfl rfl) rfl ?_;refine PWl.nil ?_;exact⟨true,(),h,Sub.of rfl (.cons rfl rfl<|.cons rfl rfl<|.cons rfl rfl<|.cons rfl rfl<|.nil) (.nil)⟩
   ·replace h:=iF hg2 h;refine PWl.guardT (LR.move rfl) rfl rfl rfl ?_;refine PWl.guardT (LR.eql rfl rfl) rfl rfl rfl ?_;refine PWl.step (LR.pickF rfl rfl) rfl ?_;refine PWl.step (LR.move rfl) rfl ?_;refine PWl.split (d:=24) rfl (fun hg3=>?_) (fun hg3=>?_)
    ·replace h:=iT hg3 h;refine PWl.guardF rfl rfl rfl (by decide) ?_;refine PWl.guardF rfl rfl rfl (by decide) ?_;refine PWl.guardF rfl rfl rfl (by decide) ?_;refine PWl.guardF rfl rfl rfl (by decide) ?_;refine PWl.guardF rfl rfl rfl (by decide) ?_;refine PWl.step (LR.pickT rfl rfl) rfl ?_;refine PWl.nil ?_;exact⟨true,(),h,Sub.of rfl (.cons rfl rfl<|.cons rfl rfl<|.cons rfl rfl<|.cons rfl rfl<|.nil) (.nil)⟩
    ·replace h:=iF hg3 h;refine PWl.guardT (LR.move rfl) rfl rfl rfl ?_;refine PWl.guardT (LR.move rfl) rfl rfl rfl ?_;replace h:=iDet h;obtain⟨v27,hy27,h⟩:=h;refine PWl.guardT (LR.callN (r09_Runs_ok to3 dev2 v27 hy27) rfl Try.call6 rfl rfl rfl rfl) rfl rfl rfl ?_;refine PWl.guardT (LR.lenMap (enc:=TRun.e) (L:=v27) Try.underlying28 rfl) rfl rfl rfl ?_;refine PWl.guardT (LR.gtr rfl rfl) rfl rfl rfl ?_;refine PWl.step (LR.pickF rfl rfl) rfl ?_;refine PWl.nil ?_;exact⟨_,(),h,Sub.of rfl (.cons rfl rfl<|.cons rfl rfl<|.cons rfl rfl<|.cons rfl rfl<|.nil) (.nil)⟩
 ·rintro v30 _ h;refine PWc.cond rfl (fun hc30=>?_) (fun hc30=>?_)
  ·replace h:=iT hc30 h;refine PWc.seq ?_;refine PWc.region ?_;replace h:=iDet h;obtain⟨v31,hy31,h⟩:=h;refine PWl.step (LR.callN (l29_works_ok v31 hy31) rfl Try.call7 rfl rfl rfl rfl) rfl ?_;refine PWl.step (LR.assign rfl) rfl ?_;refine PWl.nil ?_;refine PWc.ret ?_;replace h:_=r0:=h;subst h;exact⟨.inr rfl,_,.cons (.tmp rfl rfl)<|.nil,rfl⟩
  ·replace h:=iF hc30 h;refine PWc.skip ?_;refine PWc.seq ?_;refine PWc.region ?_;refine PWl.step (LR.move rfl) rfl ?_;refine PWl.step (LR.move rfl) rfl ?_;refine PWl.step (LR.move rfl) rfl ?_;replace h:=iDet h;obtain⟨x,hy35,h⟩:=h;refine PWl.callRowB (t1:=0) (t2:=2) (outbox_Replay_b l1 dev2 to3 x hy35) (plainEvents l1) rfl (plainParts to3) (fun _=>rfl) (fun _ _=>rfl) Try.call8 (fun _ _=>rfl) rfl (fun _ _=>rfl) (fun B β hB hβ=>?_);obtain⟨⟨hlen,hC⟩,h⟩:=iNeed h;refine PWl.step (LR.assign rfl) rfl ?_;refine PWl.nil ?_;refine PWc.re (tl:=[(0,.d (.od (oldB B) (.sl (List.map TEvent.e l1)))),(1,.d (.v (.int .u16 dev2))),(2,.d (.od (oldB B) (.sl (List.map TPart.e to3)))),(7,.row 35 x.length)]) (to:=[(35,.row 37 7 (rowB β x.length x))]) rfl (.cons rfl rfl<|.cons rfl rfl<|.cons rfl rfl<|.cons rfl (congrArg (PV.row 35) (rowB_len _ _ _))<|.nil) (.cons rfl rfl<|.nil) ?_;refine PWc.rowMax (id:=35) rfl (fun hmax=>?_);rw[rowB_len] at hmax;refine PWc.seq ?_;refine PWc.seq ?_;refine PWc.region ?_;refine PWl.step (LR.move rfl) rfl ?_;refine PWl.step (LR.lenRow Try.underlying22 rfl) rfl ?_;refine PWl.step (LR.moveOd rfl) rfl ?_;refine PWl.step (LR.lenMap (enc:=TEvent.e) (L:=l1) Try.underlying22 rfl) rfl ?_;refine PWl.step (LR.neq rfl rfl) rfl ?_;refine PWl.nil ?_;refine PWc.cond rfl (fun hc=>?_) (fun hc=>?_)
   ·rw[hlen] at hc;simp at hc
   ·clear hc;refine PWc.skip ?_;refine PWc.seq ?_;refine PWc.seq ?_;refine PWc.region ?_;refine PWl.step (LR.assign rfl) rfl ?_;refine PWl.nil ?_;refine PWc.jn (m:=M.loop (cntB x.length) 0) (N:=fun _=>True) (cnt_wp _ trivial 0) (fun(_:Unit) (_:Unit)=>⟨136,[(0,.d (.od (oldB B) (.sl (List.map TEvent.e l1)))),(1,.d (.v (.int .u16 dev2))),(2,.d (.od (oldB B) (.sl (List.map TPart.e to3))))],[]⟩) (fun h1=>?_) ?_
    ·refine PWc.block ?_;refine PWc.loopM (fun(i:Nat) (vs:Nat → Value)=>⟨136,[(0,.d (.od (oldB B) (.sl (List.map TEvent.e l1)))),(1,.d (.v (.int .u16 dev2))),(2,.d (.od (oldB B) (.sl (List.map TPart.e to3)))),(7,.row 35 x.length),(8,.d (.v (.int .i64 (i:Int))))],[(35,.row 37 7 (rowC β vs i x))]⟩) (fun _=>undef) h1 (Sub.of rfl (.cons rfl rfl<|.cons rfl rfl<|.cons rfl rfl<|.cons rfl rfl<|.cons rfl rfl<|.nil) (.cons rfl (congrArg (Ob.row 37 7) (rowC_zero _ _ _))<|.nil)) ?_;rintro N i vs h1;refine PWc.seq ?_;refine PWc.seq ?_;refine PWc.region ?_;refine PWl.step (LR.move rfl) rfl ?_;refine PWl.step (LR.move rfl) rfl ?_;refine PWl.step (LR.lenRow Try.underlying22 rfl) rfl ?_;refine PWl.step (LR.lss rfl rfl) rfl ?_;refine PWl.nil ?_;refine PWc.cond rfl (fun hc=>?_) (fun hc=>?_)
     ·replace h1:N (i+1):=by have:=iT hc h1;exact this
      have hi:i < x.length:=by have:=of_decide_eq_true hc;omega
      obtain⟨a,ha⟩:∃ a,l1[i]?=some a:=⟨_,List.getElem?_eq_getElem (by omega)⟩
      obtain⟨b,hb⟩:∃ b,x[i]?=some b:=⟨_,List.getElem?_eq_getElem hi⟩
      have hCi:=hC i a b ha hb;have hbr:(rowC β vs i x)[i]?=some (b.eM fun q=>β i=some q):=by rw[rowC_get,hb];simp
      refine PWc.skip ?_;refine PWc.seq ?_;refine PWc.block ?_;refine PWc.seq ?_;refine PWc.regionE [⟨[47],[],[],[],[],[],[],[]⟩,⟨[48],[],[],[],[],[],[],[]⟩,⟨[49],[],[],[],[],[],[],[]⟩,⟨[50],[],[],[],[],[],[],[]⟩,⟨[51],[],[],[],[],[35],[],[]⟩,⟨[52],[],[],[],[],[],[],[]⟩,⟨[53],[],[],[],[],[35],[],[]⟩,⟨[54],[],[35],[],[],[],[],[]⟩,⟨[9],[9],[],[9],[],[9],[],[]⟩,⟨[10],[10],[],[10],[],[10],[],[]⟩,⟨[],[9],[9],[],[],[],[],[]⟩,⟨[],[10],[10],[],[],[],[],[]⟩] (by kernel_rfl) (by kernel_rfl) rfl ?_;refine PQe.stepP (fun _ he ho=>LR.moveOd (he rfl rfl)) (.inl rfl) rfl ?_;refine PQe.stepP (fun _ he ho=>LR.move (he rfl rfl)) (.inl rfl) rfl ?_;refine PQe.stepP (fun _ he ho=>LR.idxT (enc:=TEvent.e) (L:=l1) (y:=a) Try.underlying22 Try.sizeOf37 (he rfl rfl) (he rfl rfl) ⟨Int.natCast_nonneg _,ha⟩ (fun _=>rfl)) (.inl rfl) rfl ?_;refine PQe.stepP (fun _ he ho=>LR.loadEpAgg (ys:=[_,_,_,_,_,_,_]) Try.isAgg37 Try.sizeOf37 (he rfl rfl) rfl rfl) (.inl rfl) rfl ?_;refine PQe.stepP (fun _ he ho=>LR.move (he rfl rfl)) (.inl rfl) rfl ?_;refine PQe.stepP (fun _ he ho=>LR.move (he rfl rfl)) (.inl rfl) rfl ?_;refine PQe.stepP (fun _ he ho=>LR.idxRowT (L:=x) (y:=b) Try.underlying22 Try.sizeOf37 (he rfl rfl) rfl (he rfl rfl) ⟨Int.natCast_nonneg _,hb⟩) (.inl rfl) rfl ?_;refine PQe.stepP (fun _ he ho=>LR.loadRpAgg (cs:=b.eM fun q=>β i=some q) Try.isAgg37 Try.sizeOf37 (he rfl rfl) (ho rfl rfl) hbr) (.inl rfl) rfl ?_;refine PQe.stepN (fun _ he ho hf=>LR.allocZ (cs:=[_,_,_,_,_,_,_]) Try.zeroValue37 rfl rfl rfl hf) rfl (.inl rfl) rfl ?_;refine PQe.stepN (fun _ he ho hf=>LR.allocZ (cs:=[_,_,_,_,_,_,_]) Try.zeroValue37 rfl rfl rfl hf) rfl (.inl rfl) rfl ?_;refine PQe.stepS (fun _ he ho=>LR.storeB (ns:=[_,_,_,_,_,_,_]) Try.sizeOf37 (he rfl rfl) (he rfl rfl) rfl rfl (ho rfl rfl) rfl rfl) (.inl rfl) rfl ?_;refine PQe.stepS (fun _ he ho=>LR.storeB (ns:=[_,_,_,_,_,_,_]) Try.sizeOf37 (he rfl rfl) (he rfl rfl) rfl rfl (ho rfl rfl) rfl rfl) (.inl rfl) rfl ?_;refine PQe.nil ?_;refine PWc.seq ?_;refine PWc.jn (m:=M.pure ()) (N:=fun _=>True) trivial (fun(_:Unit) (_:Unit)=>⟨136,[(0,.d (.od (oldB B) (.sl (List.map TEvent.e l1)))),(1,.d (.v (.int .u16 dev2))),(2,.d (.od (oldB B) (.sl (List.map TPart.e to3)))),(7,.row 35 x.length),(8,.d (.v (.int .i64 (i:Int)))),(10,.ref 10 0)],[(10,.cells 37 ((b.eM fun q=>β i=some q).map .d)),(35,.row 37 7 (rowC β vs i x))]⟩) (fun _=>?_) ?_
      ·refine PWc.seq ?_;refine PWc.region ?_;refine PWl.step (LR.fieldRef Try.underlying37 rfl Try.sizeOf5 (by decide) rfl rfl) rfl ?_;refine PWl.step (LR.loadRef Try.isAgg5 rfl rfl rfl) rfl ?_;refine PWl.step (LR.fieldRef Try.underlying37 rfl Try.sizeOf5 (by decide) rfl rfl) rfl ?_;refine PWl.step (LR.loadRef Try.isAgg5 rfl rfl rfl) rfl ?_;refine PWl.step (LR.neq rfl rfl) rfl ?_;refine PWl.step (LR.move rfl) rfl ?_;refine PWl.split (d:=60) rfl (fun hg=>?_) (fun hg=>?_)
       ·rw[hCi.kind] at hg;simp at hg
       ·clear hg;refine PWl.guardT (LR.fieldRef Try.underlying37 rfl Try.sizeOf32 (by decide) rfl rfl) rfl rfl rfl ?_;refine PWl.guardT (LR.loadRef Try.isAgg32 rfl rfl rfl) rfl rfl rfl ?_;refine PWl.guardT (LR.fieldRef Try.underlying37 rfl Try.sizeOf32 (by decide) rfl rfl) rfl rfl rfl ?_;refine PWl.guardT (LR.loadRef Try.isAgg32 rfl rfl rfl) rfl rfl rfl ?_;refine PWl.guardT (LR.neq rfl rfl) rfl rfl rfl ?_;refine PWl.step (LR.pickF rfl rfl) rfl ?_;refine PWl.step (LR.move rfl) rfl ?_;refine PWl.split (d:=67) rfl (fun hg=>?_) (fun hg=>?_)
        ·rw[hCi.cid] at hg;simp at hg
        ·clear hg;refine PWl.guardT (LR.fieldRef Try.underlying37 rfl Try.sizeOf5 (by decide) rfl rfl) rfl rfl rfl ?_;refine PWl.guardT (LR.loadRef Try.isAgg5 rfl rfl rfl) rfl rfl rfl ?_;refine PWl.guardT (LR.fieldRef Try.underlying37 rfl Try.sizeOf5 (by decide) rfl rfl) rfl rfl rfl ?_;refine PWl.guardT (LR.loadRef Try.isAgg5 rfl rfl rfl) rfl rfl rfl ?_;refine PWl.guardT (LR.neq rfl rfl) rfl rfl rfl ?_;refine PWl.step (LR.pickF rfl rfl) rfl ?_;refine PWl.step (LR.move rfl) rfl ?_;refine PWl.split (d:=74) rfl (fun hg=>?_) (fun hg=>?_)
         ·rw[hCi.field] at hg;simp at hg
         ·clear hg;refine PWl.guardT (LR.fieldRef Try.underlying37 rfl Try.sizeOf9 (by decide) rfl rfl) rfl rfl rfl ?_;refine PWl.guardT (LR.loadRef Try.isAgg9 rfl rfl rfl) rfl rfl rfl ?_;refine PWl.guardT (LR.fieldRef Try.underlying37 rfl Try.sizeOf9 (by decide) rfl rfl) rfl rfl rfl ?_;refine PWl.guardT (LR.loadRef Try.isAgg9 rfl rfl rfl) rfl rfl rfl ?_;refine PWl.guardT (LR.neqStr rfl rfl) rfl rfl rfl ?_;refine PWl.step (LR.pickF rfl rfl) rfl ?_;refine PWl.step (LR.move rfl) rfl ?_;refine PWl.split (d:=81) rfl (fun hg=>?_) (fun hg=>?_)
          ·rw[hCi.text] at hg;simp at hg
          ·clear hg;refine PWl.guardT (LR.fieldRef Try.underlying37 rfl Try.sizeOf34 (by decide) rfl rfl) rfl rfl rfl ?_;refine PWl.guardT (LR.loadRefAgg (ps:=[_,_]) Try.isAgg34 Try.sizeOf34 rfl rfl rfl rfl) rfl rfl rfl ?_;refine PWl.guardT (LR.move rfl) rfl rfl rfl ?_;refine PWl.guardT (LR.move rfl) rfl rfl rfl ?_;refine PWl.guardT (LR.convInt Try.underlying32 (by rw[Try.underlying3];rfl) rfl rfl) rfl rfl rfl ?_;refine PWl.guardT (LR.addW rfl rfl) rfl rfl rfl ?_;refine PWl.guardT (LR.build (ns:=[_,_]) build34 rfl rfl rfl) rfl rfl rfl ?_;refine PWl.guardT (LR.neqAgg rfl rfl rfl rfl eq34) rfl rfl rfl ?_;refine PWl.step (LR.pickF rfl rfl) rfl ?_;refine PWl.step (LR.move rfl) rfl ?_;refine PWl.split (d:=91) rfl (fun hg=>?_) (fun hg=>?_)
           ·rw[hCi.dev,hCi.n] at hg;simp at hg
           ·clear hg;obtain⟨ga,hga,hgb⟩:=hCi.good;refine PWl.guardT (LR.loadRefAgg (ps:=[_,_,_,_,_,_,_]) Try.isAgg37 Try.sizeOf37 rfl rfl rfl rfl) rfl rfl rfl ?_;refine PWl.guardT (LR.callN (r13_Good_ok a ga hga) rfl Try.call9 rfl rfl rfl rfl) rfl rfl rfl ?_;refine PWl.guardT (LR.move rfl) rfl rfl rfl ?_;refine PWl.split (d:=94) rfl (fun hg=>?_) (fun hg=>?_)
            ·have hgb:=hgb hg;refine PWl.guardT (LR.loadRefAgg (ps:=((b.eM fun q=>β i=some q).map .d)) Try.isAgg37 Try.sizeOf37 rfl rfl rfl rfl) rfl rfl rfl ?_;refine PWl.sub (Sub.unrwAgg (t:=95) (cs:=[.v (.int .u16 b.dot.dev),.v (.int .u64 b.dot.n),.v (.int .u8 b.kind),.v (.int .u64 b.cid),.v (.int .u8 b.field),.v (.string b.text)].map .d) (M:=fun q=>β i=some q) (l:=b.kills.map TDot.v) rfl) ?_;refine PWl.sub (t:=PState.put _ 95 (.agg (List.map .d (TEvent.e b)))) (by rw[flatD_dot];exact Sub.refl _) ?_;refine PWl.guardT (LR.callN (r13_Good_ok b true hgb) rfl Try.call9 rfl rfl rfl rfl) rfl rfl rfl ?_;refine PWl.guardT (LR.not rfl) rfl rfl rfl ?_;refine PWl.guardT (LR.pickT rfl rfl) rfl rfl rfl ?_;refine PWl.step (LR.pickF rfl rfl) rfl ?_;refine PWl.nil ?_;refine PWc.cond rfl (fun hc=>by cases hc) (fun _=>?_);refine PWc.skip ?_;exact⟨(),(),trivial,Sub.of rfl (.cons rfl rfl<|.cons rfl rfl<|.cons rfl rfl<|.cons rfl rfl<|.cons rfl rfl<|.cons rfl rfl<|.nil) (.cons rfl rfl<|.cons rfl rfl<|.nil)⟩
            ·clear hg;refine PWl.guardF rfl rfl rfl (by decide) ?_;refine PWl.guardF rfl rfl rfl (by decide) ?_;refine PWl.guardF rfl rfl rfl (by decide) ?_;refine PWl.guardT (LR.pickF rfl rfl) rfl rfl rfl ?_;refine PWl.step (LR.pickF rfl rfl) rfl ?_;refine PWl.nil ?_;refine PWc.cond rfl (fun hc=>by cases hc) (fun _=>?_);refine PWc.skip ?_;exact⟨(),(),trivial,Sub.of rfl (.cons rfl rfl<|.cons rfl rfl<|.cons rfl rfl<|.cons rfl rfl<|.cons rfl rfl<|.cons rfl rfl<|.nil) (.cons rfl rfl<|.cons rfl rfl<|.nil)⟩
      ·rintro _ _ _;refine PWc.rawCell (id:=35) (i:=i) (j:=6) (y:=.rw _ _ _ _) rfl hbr rfl (fun v=>?_);refine PWc.re (tl:=[(0,.d (.od (oldB B) (.sl (List.map TEvent.e l1)))),(1,.d (.v (.int .u16 dev2))),(2,.d (.od (oldB B) (.sl (List.map TPart.e to3)))),(7,.row 35 x.length),(8,.d (.v (.int .i64 (i:Int)))),(10,.ref 10 0)]) (to:=[(10,.cells 37 ((b.eM fun q=>β i=some q).map .d)),(35,.row 37 7 (rowC β (fun j=>if j=i then v else vs j) (i+1) x))]) rfl (.cons rfl rfl<|.cons rfl rfl<|.cons rfl rfl<|.cons rfl rfl<|.cons rfl rfl<|.cons rfl rfl<|.nil) (.cons rfl rfl<|.cons rfl (congrArg (Ob.row 37 7) (rowC_set β vs i x b v hb))<|.nil) ?_
       generalize (fun j=>if j=i then v else vs j)=vs'
       refine PWc.thaw (id:=10) (rid:=20) (j:=6) (M:=fun q=>β i=some q) (l:=b.kills.map TDot.v) rfl rfl (fun j p hj hp=>?_) (fun y hy=>?_) (fun y hy hne=>?_) rfl (by decide) hK0 (fun q hq=>Nat.le_trans hB (hβ.2 i q hq)) ?_
       ·match j,hj,hp with
        | 0,_,hp=>cases hp;exact .d (.v _)
        | 1,_,hp=>cases hp;exact .d (.v _)
        | 2,_,hp=>cases hp;exact .d (.v _)
        | 3,_,hp=>cases hp;exact .d (.v _)
        | 4,_,hp=>cases hp;exact .d (.v _)
        | 5,_,hp=>cases hp;exact .d (.v _)
        | 6,hj,_=>exact(hj rfl).elim
        | j+7,_,hp=>cases hp
       ·simp only[List.mem_cons,List.not_mem_nil,or_false] at hy;rcases hy with rfl | rfl | rfl | rfl | rfl | rfl
        ·exact .d (.od _ _ fun q hq hlt=>Nat.lt_irrefl _ (Nat.lt_of_lt_of_le hlt (hβ.2 i q hq)))
        ·exact .d (.v _)
        ·exact .d (.od _ _ fun q hq hlt=>Nat.lt_irrefl _ (Nat.lt_of_lt_of_le hlt (hβ.2 i q hq)))
        ·exact .row _ _
        ·exact .d (.v _)
        ·exact .ref _ _
       ·simp only[List.mem_cons,List.not_mem_nil,or_false] at hy;rcases hy with rfl | rfl
        ·exact(hne rfl).elim
        ·exact .row _ _ _ (rowC_av hβ vs' i x)
       refine PWc.re (tl:=[(0,.d (.od (oldB B) (.sl (List.map TEvent.e l1)))),(1,.d (.v (.int .u16 dev2))),(2,.d (.od (oldB B) (.sl (List.map TPart.e to3)))),(7,.row 35 x.length),(8,.d (.v (.int .i64 (i:Int)))),(10,.ref 10 0)]) (to:=[(10,.cells 37 ([.v (.int .u16 b.dot.dev),.v (.int .u64 b.dot.n),.v (.int .u8 b.kind),.v (.int .u64 b.cid),.v (.int .u8 b.field),.v (.string b.text)].map .d++[.row 20 b.kills.length])),(20,.row 34 2 (List.map TDot.e (bump 0 b.kills))),(35,.row 37 7 (rowC β vs' (i+1) x))]) rfl (.cons rfl rfl<|.cons rfl rfl<|.cons rfl rfl<|.cons rfl rfl<|.cons rfl rfl<|.cons rfl rfl<|.nil) (.cons rfl (by rw[flatD_dot,List.length_map];rfl)<|.cons rfl (by rw[flatD_dot,bump_zero])<|.cons rfl rfl<|.nil) ?_;refine PWc.rowMax (id:=20) rfl (fun hmax2=>?_);rw[List.length_map,bump_len] at hmax2;refine PWc.seq ?_;refine PWc.region ?_;refine PWl.step (LR.assign rfl) rfl ?_;refine PWl.nil ?_;refine PWc.jn (m:=M.loop (cntB b.kills.length) 0) (N:=fun _=>True) (cnt_wp _ trivial 0) (fun(_:Unit) (_:Unit)=>⟨136,[(0,.d (.od (oldB B) (.sl (List.map TEvent.e l1)))),(1,.d (.v (.int .u16 dev2))),(2,.d (.od (oldB B) (.sl (List.map TPart.e to3)))),(7,.row 35 x.length),(8,.d (.v (.int .i64 (i:Int))))],[(35,.row 37 7 (rowC β vs' (i+1) x))]⟩) (fun h2=>?_) ?_
       ·refine PWc.block ?_;refine PWc.loopM (fun(k:Nat) (_:Unit)=>⟨136,[(0,.d (.od (oldB B) (.sl (List.map TEvent.e l1)))),(1,.d (.v (.int .u16 dev2))),(2,.d (.od (oldB B) (.sl (List.map TPart.e to3)))),(7,.row 35 x.length),(8,.d (.v (.int .i64 (i:Int)))),(10,.ref 10 0),(11,.d (.v (.int .i64 (k:Int))))],[(10,.cells 37 ([.v (.int .u16 b.dot.dev),.v (.int .u64 b.dot.n),.v (.int .u8 b.kind),.v (.int .u64 b.cid),.v (.int .u8 b.field),.v (.string b.text)].map .d++[.row 20 b.kills.length])),(20,.row 34 2 (List.map TDot.e (bump k b.kills))),(35,.row 37 7 (rowC β vs' (i+1) x))]⟩) () h2 (Sub.of rfl (.cons rfl rfl<|.cons rfl rfl<|.cons rfl rfl<|.cons rfl rfl<|.cons rfl rfl<|.cons rfl rfl<|.cons rfl rfl<|.nil) (.cons rfl rfl<|.cons rfl rfl<|.cons rfl rfl<|.nil)) ?_;rintro N2 k _ h2;refine PWc.seq ?_;refine PWc.seq ?_;refine PWc.region ?_;refine PWl.step (LR.move rfl) rfl ?_;refine PWl.step (LR.fieldRef Try.underlying37 rfl Try.sizeOf35 (by decide) rfl rfl) rfl ?_;refine PWl.step (LR.loadRef Try.isAgg35 rfl rfl rfl) rfl ?_;refine PWl.step (LR.lenRow Try.underlying35 rfl) rfl ?_;refine PWl.step (LR.lss rfl rfl) rfl ?_;refine PWl.nil ?_;refine PWc.cond rfl (fun hc2=>?_) (fun hc2=>?_)
        ·replace h2:N2 (k+1):=by have:=iT hc2 h2;exact this
         have hk:k < b.kills.length:=by have:=of_decide_eq_true hc2;omega
         obtain⟨d,hd⟩:∃ d,b.kills[k]?=some d:=⟨_,List.getElem?_eq_getElem hk⟩
         have hd2:(bump k b.kills)[k]?=some d:=by rw[bump_get,hd];simp
         refine PWc.skip ?_;refine PWc.seq ?_;refine PWc.block ?_;refine PWc.seq ?_;refine PWc.seq ?_;refine PWc.region ?_;refine PWl.step (LR.moveOd rfl) rfl ?_;refine PWl.step (LR.fieldRef Try.underlying37 rfl Try.sizeOf35 (by decide) rfl rfl) rfl ?_;refine PWl.step (LR.loadRef Try.isAgg35 rfl rfl rfl) rfl ?_;refine PWl.step (LR.move rfl) rfl ?_;refine PWl.step (LR.idxRowT (L:=bump k b.kills) (y:=d) Try.underlying35 Try.sizeOf34 rfl (bump_len _ _).symm rfl ⟨Int.natCast_nonneg _,hd2⟩) rfl ?_;refine PWl.step (LR.loadRpT (enc:=TDot.e) (L:=bump k b.kills) (y:=d) Try.isAgg34 Try.sizeOf34 rfl rfl hd2) rfl ?_;refine PWl.step (LR.callN (r09_Has_ok to3 d true (hCi.has d (List.mem_of_getElem? hd))) rfl Try.call10 rfl rfl rfl rfl) rfl ?_;refine PWl.step (LR.not rfl) rfl ?_;refine PWl.nil ?_;refine PWc.cond rfl (fun hc3=>by cases hc3) (fun _=>?_);refine PWc.skip ?_;refine PWc.region ?_;refine PWl.step (LR.fieldRef Try.underlying37 rfl Try.sizeOf35 (by decide) rfl rfl) rfl ?_;refine PWl.step (LR.loadRef Try.isAgg35 rfl rfl rfl) rfl ?_;refine PWl.step (LR.move rfl) rfl ?_;refine PWl.step (LR.idxRowT (L:=bump k b.kills) (y:=d) Try.underlying35 Try.sizeOf34 rfl (bump_len _ _).symm rfl ⟨Int.natCast_nonneg _,hd2⟩) rfl ?_;refine PWl.step (LR.fieldRp Try.underlying34 rfl Try.sizeOf32 (by decide) rfl rfl) rfl ?_;refine PWl.step (LR.loadRpF (enc:=TDot.e) (L:=bump k b.kills) (y:=d) Try.isAgg32 rfl rfl hd2 rfl) rfl ?_;refine PWl.step (LR.addW rfl rfl) rfl ?_;refine PWl.step (LR.idxRowT (L:=bump k b.kills) (y:=d) Try.underlying35 Try.sizeOf34 rfl (bump_len _ _).symm rfl ⟨Int.natCast_nonneg _,hd2⟩) rfl ?_;refine PWl.step (LR.fieldRp Try.underlying34 rfl Try.sizeOf32 (by decide) rfl rfl) rfl ?_;refine PWl.step (LR.storeRpT (enc:=TDot.e) (L:=bump k b.kills) (a:=d) (b:=(⟨d.dev,IntKind.u64.wrap (d.n+1)⟩:TDot)) Try.sizeOf32 rfl rfl rfl rfl rfl hd2 rfl rfl) rfl ?_;refine PWl.nil ?_;refine PWc.region ?_;refine PWl.step (LR.move rfl) rfl ?_;refine PWl.step (LR.addW rfl rfl) rfl ?_;refine PWl.step (LR.assign rfl) rfl ?_;refine PWl.nil ?_;exact⟨k+1,(),h2,Sub.of rfl (.cons rfl rfl<|.cons rfl rfl<|.cons rfl rfl<|.cons rfl rfl<|.cons rfl rfl<|.cons rfl rfl<|.cons rfl (congrArg (fun z=>PV.d (.v (.int .i64 z))) (wrapNat (Nat.lt_of_lt_of_le hk hmax2)))<|.nil) (.cons rfl rfl<|.cons rfl (congrArg (fun z=>Ob.row 34 2 (List.map TDot.e z)) (bump_set k b.kills d hd))<|.cons rfl rfl<|.nil)⟩
        ·refine PWc.exit ?_;exact⟨(),(),trivial,Sub.of rfl (.cons rfl rfl<|.cons rfl rfl<|.cons rfl rfl<|.cons rfl rfl<|.cons rfl rfl<|.nil) (.cons rfl rfl<|.nil)⟩
       ·rintro _ _ _;refine PWc.region ?_;refine PWl.step (LR.move rfl) rfl ?_;refine PWl.step (LR.addW rfl rfl) rfl ?_;refine PWl.step (LR.assign rfl) rfl ?_;refine PWl.nil ?_;exact⟨i+1,vs',h1,Sub.of rfl (.cons rfl rfl<|.cons rfl rfl<|.cons rfl rfl<|.cons rfl rfl<|.cons rfl (congrArg (fun z=>PV.d (.v (.int .i64 z))) (wrapNat (Nat.lt_of_lt_of_le hi hmax)))<|.nil) (.cons rfl rfl<|.nil)⟩
     ·refine PWc.exit ?_;exact⟨(),(),trivial,Sub.of rfl (.cons rfl rfl<|.cons rfl rfl<|.cons rfl rfl<|.nil) (.nil)⟩
    ·rintro _ _ _;refine PWc.seq ?_;refine PWc.region ?_;refine PWl.step (LR.moveOd rfl) rfl ?_;refine PWl.step (LR.move rfl) rfl ?_;refine PWl.step (LR.moveOd rfl) rfl ?_;refine PWl.step (LR.rowN (outbox_Replay_ok l1 dev2 to3 x hy35) rfl Try.call8 rfl rfl rfl rfl) rfl ?_;refine PWl.step (LR.moveOd rfl) rfl ?_;refine PWl.step (LR.move rfl) rfl ?_;refine PWl.step (LR.moveOd rfl) rfl ?_;replace h:=iDet h;obtain⟨y,hy131,h⟩:=h;refine PWl.step (LR.rowN (r29_Replay_ok l1 dev2 to3 y hy131) rfl Try.call12 rfl rfl rfl rfl) rfl ?_;refine PWl.frz [127] hK (.cons rfl<|.nil) rfl (by simp) ?_;refine PWl.frz [131] hK (.cons rfl<|.nil) rfl (by simp) ?_;replace h:=iDet h;obtain⟨v132,hy132,h⟩:=h;refine PWl.step (LR.callN (r13_All_ok x y v132 hy132) rfl Try.call11 rfl rfl rfl rfl) rfl ?_;refine PWl.step (LR.move rfl) rfl ?_;refine PWl.split (d:=133) rfl (fun hg=>?_) (fun hg=>?_)
     ·replace h:=iT hg h;replace h:=iDet h;obtain⟨v134,hy134,h⟩:=h;refine PWl.guardT (LR.callN (l29_works_ok v134 hy134) rfl Try.call7 rfl rfl rfl rfl) rfl rfl rfl ?_;refine PWl.step (LR.pickT rfl rfl) rfl ?_;refine PWl.step (LR.assign rfl) rfl ?_;refine PWl.nil ?_;refine PWc.ret ?_;replace h:_=r0:=h;subst h;exact⟨.inr rfl,_,.cons (.tmp rfl rfl)<|.nil,rfl⟩
     ·replace h:=iF hg h;refine PWl.guardF rfl rfl rfl (by decide) ?_;refine PWl.step (LR.pickF rfl rfl) rfl ?_;refine PWl.step (LR.assign rfl) rfl ?_;refine PWl.nil ?_;refine PWc.ret ?_;replace h:_=r0:=h;subst h;exact⟨.inr rfl,_,.cons (.tmp rfl rfl)<|.nil,rfl⟩
end Go.Proofs
namespace Go.Ep
open Go
theorem wI64{n:Int}(h:-9223372036854775808 ≤ n)(h':n ≤ 9223372036854775807):IntKind.i64.wrap n=n:=by simp[IntKind.wrap,IntKind.bits,IntKind.signed];omega
theorem wU64{n:Int}(h:0 ≤ n)(h':n ≤ 18446744073709551615):IntKind.u64.wrap n=n:=by simp[IntKind.wrap,IntKind.bits,IntKind.signed];omega
theorem wU16{n:Int}(h:0 ≤ n)(h':n ≤ 65535):IntKind.u16.wrap n=n:=by simp[IntKind.wrap,IntKind.bits,IntKind.signed];omega
theorem wSucc{i:Nat}(h:i < 9223372036854775807):IntKind.i64.wrap ((i:Int)+1)=((i+1:Nat):Int):=by rw[wI64 (by omega) (by omega)];rfl
namespace M
variable{α β σ ρ τ ε:Type}
theorem cond_dec(p:Prop)[Decidable p](x y:M α):cond (decide p) x y=if p then x else y:=by by_cases h:p <;> simp[h]
theorem loopL{body:σ → M (Step σ ρ)}(l:List ε)(mk:Nat → τ → σ)(f:τ → ε → τ)(g:τ → M ρ)
  (I:Nat → τ → Prop) (h1:∀ (i:Nat) (x:ε) (t:τ),l[i]?=some x → i < l.length → I i t → body (mk i t)=pure (.next (mk (i+1) (f t x))) ∧ I (i+1) (f t x))
  (h2:∀ t,I l.length t → body (mk l.length t)=(g t).bind fun r=>pure (.done r)) (t0:τ) (h0:I 0 t0):loop body (mk 0 t0)=g (l.foldl f t0):=by
 have key:∀ k i t,i+k=l.length → I i t → loop body (mk i t)=g ((l.drop i).foldl f t):=by
  intro k
  induction k with
  | zero=>
   intro i t hi hI;have:i=l.length:=by omega
   subst this;rw[loop_eq,h2 t hI,List.drop_length]
   rfl
  | succ k ih=>
   intro i t hi hI;have hlt:i < l.length:=by omega
   obtain⟨h3,h4⟩:=h1 i l[i] t (List.getElem?_eq_getElem hlt) hlt hI;rw[loop_next h3,ih (i+1) _ (by omega) h4,List.drop_eq_getElem_cons hlt]
   rfl
 simpa using key l.length 0 t0 (by omega) h0
theorem loopAll{body:σ → M (Step σ ρ)}(l:List ε)(mk:Nat → σ)(p:Nat → ε → Bool)(r1 r2:ρ)
  (h1:∀ (i:Nat) (x:ε),l[i]?=some x → i < l.length → body (mk i)=if p i x then pure (.next (mk (i+1))) else pure (.done r2))
  (h2:body (mk l.length)=pure (.done r1)):loop body (mk 0)=pure (if l.zipIdx.all (fun y=>p y.2 y.1) then r1 else r2):=by
 have key:∀ k i,i+k=l.length → loop body (mk i)=pure (if ((l.drop i).zipIdx i).all (fun y=>p y.2 y.1) then r1 else r2):=by
  intro k
  induction k with
  | zero=>
   intro i hi;have:i=l.length:=by omega
   subst this;rw[loop_done h2,List.drop_length]
   rfl
  | succ k ih=>
   intro i hi;have hlt:i < l.length:=by omega
   have h3:=h1 i l[i] (List.getElem?_eq_getElem hlt) hlt;rw[List.drop_eq_getElem_cons hlt,List.zipIdx_cons,List.all_cons]
   by_cases hp:p i l[i]=true
   ·rw[if_pos hp] at h3;rw[loop_next h3,ih (i+1) (by omega),hp,Bool.true_and]
   ·rw[if_neg hp] at h3;rw[loop_done h3];simp[hp]
 have:=key l.length 0 (by omega);rw[List.drop_zero] at this;exact this
end M
namespace AL
variable{κ ν:Type}[DecidableEq κ]
theorem get_set(m:List (κ×ν))(k q:κ)(v:ν):get (set m k v) q=if k=q then some v else get m q:=by
 induction m with
 | nil=>simp[set,get]
 | cons x r ih=>
  obtain⟨a,u⟩:=x
  by_cases h:a=k
  ·subst h;simp only[set,if_true,get];split <;> rfl
  ·simp only[set,h,if_false,get,ih]
   by_cases h2:a=q
   ·subst h2;simp[Ne.symm h]
   ·simp[h2]
theorem getZ_set(m:List (κ×ν))(k q:κ)(v z:ν):getZ (set m k v) q z=if k=q then v else getZ m q z:=by
 unfold getZ;rw[get_set];split <;> rfl
theorem keys_set(m:List (κ×ν))(k:κ)(v:ν):(set m k v).map (·.1)=if k∈m.map (·.1) then m.map (·.1) else m.map (·.1)++[k]:=by
 induction m with
 | nil=>simp[set]
 | cons x r ih=>
  obtain⟨a,u⟩:=x
  by_cases h:a=k
  ·subst h;simp[set]
  ·simp only[set,h,if_false,List.map_cons,ih,List.mem_cons,Ne.symm h,false_or]
   split <;> simp
theorem nodup_set{m:List (κ×ν)}(h:(m.map (·.1)).Nodup)(k:κ)(v:ν):((set m k v).map (·.1)).Nodup:=by
 rw[keys_set]
 split
 ·exact h
 ·rename_i hk
  rw[List.nodup_append];refine⟨h,by simp,fun a ha b hb=>?_⟩;rw[List.mem_singleton.1 hb];intro e;exact hk (e▸ha)
theorem len_set(m:List (κ×ν))(k:κ)(v:ν):(set m k v).length ≤ m.length+1:=by
 induction m with
 | nil=>simp[set]
 | cons x r ih=>
  obtain⟨a,u⟩:=x;unfold set
  split
  ·simp
  ·simpa using ih
end AL
end Go.Ep
namespace Go.Ep.M.V
open Go
def goodD(d:TDot):Bool:=decide (1 ≤ d.dev)&&(decide (1 ≤ d.n)&&decide (d.n ≤ 281474976710655))
theorem goodD_iff{d:TDot}:goodD d=true↔1 ≤ d.dev ∧ 1 ≤ d.n ∧ d.n ≤ 281474976710655:=by simp[goodD]
theorem r07_Good_eq(d:TDot):r07_Good d=pure (goodD d):=by
 unfold r07_Good;rw[cond_pure_and,cond_pure_and,pure_bind];refine congrArg pure ?_;rw[Bool.eq_iff_iff,goodD_iff];simp only[Bool.and_eq_true,decide_eq_true_eq];omega
theorem r07_Same_eq(a b:List TDot)(h:a.length ≤ 1000000000000):r07_Same a b=pure (decide (a=b)):=by
 unfold r07_Same
 by_cases hl:(a.length:Int)=b.length
 ·simp only[hl,decide_true,Bool.not_true,cond_false];have:=loopAll (body:=r07_Same_l0 a b) a (fun i=>(i:Int)) (fun i x=>decide (b[i]?=some x)) (.brk ()) (.ret false) (fun i x hx hi=>by
   have hb:i < b.length:=by omega
   unfold r07_Same_l0;rw[idx_nat hx,idx_nat (List.getElem?_eq_getElem hb),wSucc (by omega)];simp only[pure_bind,List.getElem?_eq_getElem hb,Option.some.injEq];have:decide ((i:Int) < (a.length:Int))=true:=by simpa using hi
   rw[this,cond_true]
   by_cases he:b[i]=x
   ·subst he;simp
   ·rw[if_neg (by simpa using he)];have:(decide (x.dev=b[i].dev)&&decide (x.n=b[i].n))=false:=by
     rw[Bool.eq_false_iff];intro hc;simp at hc;apply he
     cases x;cases hh:b[i];simp_all
    rw[this];rfl) (by
   unfold r07_Same_l0;simp)
  rw[show(0:Int)=((0:Nat):Int) from rfl,this]
  by_cases he:a=b
  ·subst he;rw[if_pos]
   ·simp[pure_bind,exk_brk]
   ·rw[List.all_eq_true];intro ⟨x,i⟩ hx;rw[List.mk_mem_zipIdx_iff_getElem?] at hx;simpa using hx
  ·rw[if_neg]
   ·simp[he,pure_bind,exk_ret]
   ·intro hall;rw[List.all_eq_true] at hall;apply he;apply List.ext_getElem (by omega);intro i h1 h2;have:=hall (a[i],i) (by rw[List.mk_mem_zipIdx_iff_getElem?];exact List.getElem?_eq_getElem h1);simp[h2] at this;exact this.symm
 ·have hne:a≠b:=fun e=>hl (by rw[e])
  simp[hl,hne]
def ofV : List TDot → Int → Int
 | [],_=>0
 | d::r,dev=>if d.dev=dev ∧ goodD d=true then max d.n (ofV r dev) else ofV r dev
theorem ofV_range(v:List TDot)(dev:Int):0 ≤ ofV v dev ∧ ofV v dev ≤ 281474976710655:=by
 induction v with
 | nil=>simp[ofV]
 | cons d r ih=>
  simp only[ofV]
  split
  ·rename_i h;have:=goodD_iff.1 h.2;omega
  ·exact ih
def toldStep(m:List (Int×Int))(d:TDot):List (Int×Int):=if goodD d then AL.set m d.dev (max (AL.getZ m d.dev 0) d.n) else m
def toldM(v:List TDot):List (Int×Int):=v.foldl toldStep []
theorem told_gen(v:List TDot):∀ m:List (Int×Int),(m.map (·.1)).Nodup → ((v.foldl toldStep m).map (·.1)).Nodup ∧ ((∀ k,0 ≤ AL.getZ m k 0) → ∀ k,AL.getZ (v.foldl toldStep m) k 0=max (AL.getZ m k 0) (ofV v k)) ∧ (v.foldl toldStep m).length ≤ m.length+v.length ∧ (∀ k,k∈(v.foldl toldStep m).map (·.1) → k∈m.map (·.1) ∨ 0 < ofV v k):=by
 induction v with
 | nil=>
  intro m h;refine⟨h,fun h0 k=>?_,by simp,fun k hk=>.inl hk⟩;have:=h0 k;simp only[List.foldl_nil,ofV];omega
 | cons d r ih=>
  intro m h;simp only[List.foldl_cons]
  by_cases hg:goodD d=true
  ·have hd:=goodD_iff.1 hg;have e:toldStep m d=AL.set m d.dev (max (AL.getZ m d.dev 0) d.n):=by simp[toldStep,hg]
   rw[e];obtain⟨h1,h2,h3,h4⟩:=ih _ (AL.nodup_set h d.dev (max (AL.getZ m d.dev 0) d.n));refine⟨h1,fun h0 k=>?_,?_,fun k hk=>?_⟩
   ·rw[h2 (fun q=>by rw[AL.getZ_set];have:=h0 q;have:=h0 d.dev;split <;> omega),AL.getZ_set];simp only[ofV]
    by_cases hk:d.dev=k
    ·subst hk;simp only[if_true,hg,and_self];omega
    ·simp[hk]
   ·have:=AL.len_set m d.dev (max (AL.getZ m d.dev 0) d.n);simp only[List.length_cons];omega
   ·simp only[ofV];rcases h4 k hk with h5 | h5
    ·rw[AL.keys_set] at h5
     split at h5
     ·exact .inl h5
     ·rcases List.mem_append.1 h5 with h5 | h5
      ·exact .inl h5
      ·right
       rw[List.mem_singleton.1 h5,if_pos ⟨rfl,hg⟩];omega
    ·right;split <;> omega
  ·have e:toldStep m d=m:=by simp[toldStep,hg]
   rw[e];obtain⟨h1,h2,h3,h4⟩:=ih m h;have e2:∀ k,ofV (d::r) k=ofV r k:=fun k=>by simp only[ofV];rw[if_neg (fun hh=>hg hh.2)]
   exact⟨h1,fun h0 k=>by rw[h2 h0,e2],by simp only[List.length_cons];omega,fun k hk=>by rw[e2];exact h4 k hk⟩
theorem told_get(v:List TDot)(k:Int):AL.getZ (toldM v) k 0=ofV v k:=by
 have:=(told_gen v [] (by simp)).2.1 (fun _=>Int.le_refl _) k;have h2:=ofV_range v k;rw[toldM,this];show max 0 (ofV v k)=_;omega
def cmpD(a b:TDot):Int:=if a=b then 0 else if ltDot a b then -1 else 1
theorem r07_Cmp_eq(a b:TDot):r07_Cmp a b=pure (cmpD a b):=by
 unfold r07_Cmp cmpD;have h1:(decide (a.dev=b.dev)&&decide (a.n=b.n))=decide (a=b):=by
  rw[Bool.eq_iff_iff];cases a;cases b;simp
 have h2:(cond (decide (a.dev < b.dev)) (pure true) (cond (decide (a.dev=b.dev)) (pure (decide (a.n < b.n))) (pure false)):M Bool)=pure (ltDot a b):=by
  rw[cond_pure_and,cond_pure_or];rfl
 rw[h1,h2,cond_dec,pure_bind]
 split
 ·rfl
 ·cases ltDot a b <;> rfl
theorem cmpD_neg{a b:TDot}:cmpD a b < 0↔ltDot a b=true:=by
 unfold cmpD
 split
 ·rename_i h;subst h;simp[ltDot]
 ·split <;> simp_all
theorem cmpD_pos{a b:TDot}:0 < cmpD a b↔ltDot b a=true:=by
 unfold cmpD
 by_cases h:a=b
 ·subst h;simp[ltDot]
 ·rw[if_neg h]
  cases a;cases b
  simp only[TDot.mk.injEq] at h;simp only[ltDot,Bool.or_eq_true,Bool.and_eq_true,decide_eq_true_eq]
  split <;> omega
theorem r07_Put_eq(l:List TDot)(d:TDot)(h:l.length ≤ 1000000000000):r07_Put l d=pure ((l.filter fun x=>ltDot x d)++[d]++(l.filter fun x=>ltDot d x)):=by
 unfold r07_Put;have c0:∀ o:List TDot,o.length ≤ 1000000000000 → True:=fun _ _=>trivial
 have h1:=loopL (body:=r07_Put_l0 l d) l (fun i (o:List TDot)=>((i:Int),o)) (fun o x=>if ltDot x d then o++[x] else o) (fun o=>pure o) (fun i o=>o.length ≤ i) (fun i x o hx hi ho=>by
  have h1:decide ((i:Int) < (l.length:Int))=true:=by simpa using hi
  unfold r07_Put_l0;simp only[h1,cond_true,idx_nat hx,pure_bind,r07_Cmp_eq,det_pure,wSucc (show i < 9223372036854775807 by omega),cond_dec,cmpD_neg]
  split
  ·rw[need_true (by simp;omega)];exact⟨rfl,by simp;omega⟩
  ·exact⟨rfl,by omega⟩) (fun o _=>by unfold r07_Put_l0;simp[pure_bind]) [] (by simp)
 have h2:∀ o0:List TDot,o0.length ≤ 1000000000001 → loop (r07_Put_l1 l d) (0,o0)=pure (l.foldl (fun o x=>if ltDot d x then o++[x] else o) o0):=fun o0 ho0=>by
  have:=loopL (body:=r07_Put_l1 l d) l (fun i (o:List TDot)=>((i:Int),o)) (fun o x=>if ltDot d x then o++[x] else o) (fun o=>pure o) (fun i o=>o.length ≤ o0.length+i) (fun i x o hx hi ho=>by
   have h1:decide ((i:Int) < (l.length:Int))=true:=by simpa using hi
   unfold r07_Put_l1;simp only[h1,cond_true,idx_nat hx,pure_bind,r07_Cmp_eq,det_pure,wSucc (show i < 9223372036854775807 by omega),cond_dec,cmpD_pos]
   split
   ·rw[need_true (by simp;omega)];exact⟨rfl,by simp;omega⟩
   ·exact⟨rfl,by omega⟩) (fun o _=>by unfold r07_Put_l1;simp[pure_bind]) o0 (by simp)
  exact this
 have hf:∀ (p:TDot → Bool) (l o:List TDot),l.foldl (fun o x=>if p x then o++[x] else o) o=o++l.filter p:=by
  intro p l
  induction l with
  | nil=>simp
  | cons x r ih=>
   intro o;rw[List.foldl_cons,ih,List.filter_cons]
   split <;> simp
 rw[show((0:Int),([]:List TDot))=(((0:Nat):Int),[]) from rfl,h1,hf,pure_bind,need_true,h2,hf,pure_bind]
 ·rfl
 ·have:=List.length_filter_le (fun x=>ltDot x d) l;simp;omega
 ·have:=List.length_filter_le (fun x=>ltDot x d) l;simp;omega
def ones(l:List Int):List TDot:=l.map fun k=>⟨k,1⟩
end Go.Ep.M.V
namespace Go.Ep.M.R
open Go
def mayR(x:TRun):Bool:=decide (1 ≤ x.lo)&&(decide (x.lo ≤ x.hi)&&decide (x.hi ≤ 281474976710655))
theorem mayR_iff{x:TRun}:mayR x=true↔1 ≤ x.lo ∧ x.lo ≤ x.hi ∧ x.hi ≤ 281474976710655:=by simp[mayR]
def inR(n:Int)(x:TRun):Bool:=mayR x&&(decide (x.lo ≤ n)&&decide (n ≤ x.hi))
theorem inR_iff{n:Int}{x:TRun}:inR n x=true↔(1 ≤ x.lo ∧ x.lo ≤ x.hi ∧ x.hi ≤ 281474976710655) ∧ x.lo ≤ n ∧ n ≤ x.hi:=by simp[inR,mayR]
def hasR(l:List TRun)(n:Int):Bool:=l.any (inR n)
theorem hasR_iff{l:List TRun}{n:Int}:hasR l n=true↔∃ x∈l,mayR x=true ∧ x.lo ≤ n ∧ n ≤ x.hi:=by
 unfold hasR;rw[List.any_eq_true];simp[inR]
@[simp] theorem hasR_nil(n:Int):hasR [] n=false:=rfl
theorem hasR_cons(x:TRun)(l:List TRun)(n:Int):hasR (x::l) n=(inR n x||hasR l n):=rfl
theorem hasR_app(a b:List TRun)(n:Int):hasR (a++b) n=(hasR a n||hasR b n):=by simp[hasR]
theorem hasR_one(x:TRun)(n:Int):hasR [x] n=inR n x:=by simp[hasR]
theorem hasR_perm{a b:List TRun}(h:a.Perm b)(n:Int):hasR a n=hasR b n:=by
 rw[Bool.eq_iff_iff,hasR_iff,hasR_iff];simp only[h.mem_iff]
theorem hasR_filter(l:List TRun)(n:Int):hasR (l.filter mayR) n=hasR l n:=by
 rw[Bool.eq_iff_iff,hasR_iff,hasR_iff];simp only[List.mem_filter];exact⟨fun⟨x,⟨h1,_⟩,h3⟩=>⟨x,h1,h3⟩,fun⟨x,h1,h2,h3⟩=>⟨x,⟨h1,h2⟩,h2,h3⟩⟩
theorem hasR_range{l:List TRun}{n:Int}(h:hasR l n=true):1 ≤ n ∧ n ≤ 281474976710655:=by
 obtain⟨x,_,h2,h3,h4⟩:=hasR_iff.1 h;have:=mayR_iff.1 h2;omega
def Nf : List TRun → Prop
 | []=>True
 | x::r=>mayR x=true ∧ (∀ y∈r,x.hi+1 < y.lo) ∧ Nf r
theorem Nf.may{l:List TRun}(h:Nf l):∀ x∈l,mayR x=true:=by
 induction l with
 | nil=>simp
 | cons y r ih=>
  intro x hx;rcases List.mem_cons.1 hx with rfl | hx
  ·exact h.1
  ·exact ih h.2.2 x hx
theorem nf_snoc{l:List TRun}{z:TRun}:Nf (l++[z])↔Nf l ∧ mayR z=true ∧ ∀ p∈l,p.hi+1 < z.lo:=by
 induction l with
 | nil=>simp[Nf]
 | cons x r ih=>
  simp only[List.cons_append,Nf,ih,List.mem_append,List.mem_cons,List.not_mem_nil,or_false]
  constructor
  ·rintro⟨h1,h2,h3,h4,h5⟩;refine⟨⟨h1,fun y hy=>h2 y (.inl hy),h3⟩,h4,fun p hp=>?_⟩;rcases hp with rfl | hp
   ·exact h2 z (.inr rfl)
   ·exact h5 p hp
  ·rintro⟨⟨h1,h2,h3⟩,h4,h5⟩;refine⟨h1,fun y hy=>?_,h3,h4,fun p hp=>h5 p (.inr hp)⟩;rcases hy with hy | rfl
   ·exact h2 y hy
   ·exact h5 x (.inl rfl)
theorem nf_low{x:TRun}{r:List TRun}(h:Nf (x::r)){n:Int}(hn:hasR r n=true):x.hi+1 < n:=by
 obtain⟨y,h1,_,h3,_⟩:=hasR_iff.1 hn;have:=h.2.1 y h1;omega
theorem nf_head{x:TRun}{r:List TRun}(h:Nf (x::r)):hasR (x::r) x.lo=true:=by
 rw[hasR_cons];have:=mayR_iff.1 h.1;rw[Bool.or_eq_true];exact .inl (inR_iff.2 ⟨this,by omega,by omega⟩)
theorem nf_least{x:TRun}{r:List TRun}(h:Nf (x::r)){n:Int}(hn:hasR (x::r) n=true):x.lo ≤ n:=by
 rw[hasR_cons,Bool.or_eq_true] at hn;rcases hn with hn | hn
 ·exact(inR_iff.1 hn).2.1
 ·have:=nf_low h hn;have:=mayR_iff.1 h.1;omega
theorem nf_hi{x:TRun}{r:List TRun}(h:Nf (x::r)){n:Int}(h1:x.lo ≤ n):hasR (x::r) n=true↔n ≤ x.hi ∨ hasR r n=true:=by
 rw[hasR_cons,Bool.or_eq_true,inR_iff];have:=mayR_iff.1 h.1
 constructor
 ·rintro(h2 | h2)
  ·exact .inl h2.2.2
  ·exact .inr h2
 ·rintro(h2 | h2)
  ·exact .inl ⟨this,h1,h2⟩
  ·exact .inr h2
theorem nf_ext : ∀ {a b:List TRun},Nf a → Nf b → (∀ n,hasR a n=hasR b n) → a=b
 | [],[],_,_,_=>rfl
 | [],y::s,_,hb,h=>by have:=h y.lo;rw[nf_head hb] at this;simp at this
 | x::r,[],ha,_,h=>by have:=h x.lo;rw[nf_head ha] at this;simp at this
 | x::r,y::s,ha,hb,h=>by
  have h1:x.lo=y.lo:=by
   have h2:=nf_least hb (by rw[← h];exact nf_head ha);have h3:=nf_least ha (by rw[h];exact nf_head hb);omega
  have hx:=mayR_iff.1 ha.1;have hy:=mayR_iff.1 hb.1;have hle:∀ {x y:TRun} {r s:List TRun},Nf (x::r) → Nf (y::s) → (∀ n,hasR (x::r) n=hasR (y::s) n) → x.lo=y.lo → y.hi ≤ x.hi:=by
   intro x y r s ha hb h h1;have hx:=mayR_iff.1 ha.1;refine Classical.byContradiction fun hc=>?_
   have h2:hasR (y::s) (x.hi+1)=true:=(nf_hi hb (by omega)).2 (.inl (by omega));rw[← h,nf_hi ha (by omega)] at h2;rcases h2 with h2 | h2
   ·omega
   ·have:=nf_low ha h2;omega
  have h2:x.hi=y.hi:=by
   have:=hle ha hb h h1;have:=hle hb ha (fun n=>(h n).symm) h1.symm;omega
  have he:x=y:=by cases x;cases y;simp_all
  subst he;rw[nf_ext ha.2.2 hb.2.2 fun n=>?_];rw[Bool.eq_iff_iff];have h3:=h n
  constructor
  ·intro hn;have:=nf_low ha hn;have h4:hasR (x::r) n=true:=(nf_hi ha (by omega)).2 (.inr hn);rw[h3,nf_hi hb (by omega)] at h4;rcases h4 with h4 | h4
   ·omega
   ·exact h4
  ·intro hn;have:=nf_low hb hn;have h4:hasR (x::s) n=true:=(nf_hi hb (by omega)).2 (.inr hn);rw[← h3,nf_hi ha (by omega)] at h4;rcases h4 with h4 | h4
   ·omega
   ·exact h4
def putS(n:Int)(s:Bool×List Int)(x:Int):Bool×List Int:=
 let t:=if s.1=false ∧ n ≤ x then (true,s.2++[n]) else s
 if x=n then t else (t.1,t.2++[x])
def putP(l:List Int)(n:Int):List Int:=let t:=l.foldl (putS n) (false,[]);if t.1 then t.2 else t.2++[n]
abbrev Up(l:List Int):Prop:=l.Pairwise (· < ·)
theorem up_snoc{l:List Int}{z:Int}:Up (l++[z])↔Up l ∧ ∀ p∈l,p < z:=by
 unfold Up;rw[List.pairwise_append];simp
theorem putS_inv(n:Int):∀ (l:List Int) (s:Bool×List Int),Up l → Up s.2 → (∀ p∈s.2,∀ x∈l,p < x ∨ (p=n ∧ s.1=true ∧ p ≤ x)) → (s.1=true → n∈s.2) → (s.1=false → ∀ p∈s.2,p < n) →
  Up (l.foldl (putS n) s).2 ∧ (∀ m,m∈(l.foldl (putS n) s).2↔m∈s.2 ∨ (m∈l ∧ m≠n) ∨ (m=n ∧ (l.foldl (putS n) s).1=true)) ∧ ((l.foldl (putS n) s).1=false → ∀ p∈(l.foldl (putS n) s).2,p < n) ∧ (l.foldl (putS n) s).2.length ≤ s.2.length+l.length+(if s.1 then 0 else 1) ∧ ((l.foldl (putS n) s).1=false → (l.foldl (putS n) s).2.length ≤ s.2.length+l.length)
 | [],s,_,hs,_,h2,h3=>by
  refine⟨hs,fun m=>?_,h3,by simp,by simp⟩;simp only[List.foldl_nil,List.not_mem_nil,false_and,false_or];exact⟨fun h=>.inl h,fun h=>h.elim id fun⟨e,h⟩=>e▸h2 h⟩
 | x::r,(d,out),hl,hs,h1,h2,h3=>by
  rw[List.foldl_cons];have hl':=List.pairwise_cons.1 hl;simp only at hs h1 h2 h3
  by_cases hc:d=false ∧ n ≤ x
  ·obtain⟨rfl,hnx⟩:=hc
   by_cases hx:x=n
   ·have e:putS n (false,out) x=(true,out++[n]):=by simp[putS,hx]
    rw[e];obtain⟨i1,i2,i3,i4,i5⟩:=putS_inv n r (true,out++[n]) hl'.2 (up_snoc.2 ⟨hs,h3 rfl⟩) (fun p hp y hy=>by
     have:=hl'.1 y hy;rcases List.mem_append.1 hp with hp | hp
     ·have:=h3 rfl p hp;left;omega
     ·simp at hp;left;omega) (fun _=>by simp) (fun h=>by cases h)
    refine⟨i1,fun m=>?_,i3,?_,?_⟩
    ·rw[i2];simp only[List.mem_append,List.mem_cons,List.not_mem_nil,or_false]
     constructor
     ·rintro((h | h) | h | h)
      ·exact .inl h
      ·refine .inr (.inr ⟨h,?_⟩)
       cases hb:(r.foldl (putS n) (true,out++[n])).1 with
       | true=>rfl
       | false=>have:=i3 hb n ((i2 n).2 (.inl (by simp)));omega
      ·exact .inr (.inl ⟨.inr h.1,h.2⟩)
      ·exact .inr (.inr h)
     ·rintro(h | ⟨h | h,h'⟩ | h)
      ·exact .inl (.inl h)
      ·exact absurd (h.trans hx) h'
      ·exact .inr (.inl ⟨h,h'⟩)
      ·exact .inr (.inr h)
    ·simp at i4 ⊢;omega
    ·intro hf;have:=i5 hf;simp at this ⊢;omega
   ·have e:putS n (false,out) x=(true,out++[n]++[x]):=by simp[putS,hx,hnx]
    rw[e];obtain⟨i1,i2,i3,i4,i5⟩:=putS_inv n r (true,out++[n]++[x]) hl'.2 (up_snoc.2 ⟨up_snoc.2 ⟨hs,h3 rfl⟩,fun p hp=>by
     rcases List.mem_append.1 hp with hp | hp
     ·have:=h3 rfl p hp;omega
     ·simp at hp;omega⟩) (fun p hp y hy=>by
     have:=hl'.1 y hy;simp only[List.mem_append,List.mem_singleton] at hp;rcases hp with(hp | hp) | hp
     ·have:=h3 rfl p hp;left;omega
     ·left;omega
     ·left;omega) (fun _=>by simp) (fun h=>by cases h)
    refine⟨i1,fun m=>?_,i3,?_,?_⟩
    ·rw[i2];simp only[List.mem_append,List.mem_cons,List.not_mem_nil,or_false]
     constructor
     ·rintro(((h | h) | h) | h | h)
      ·exact .inl h
      ·refine .inr (.inr ⟨h,?_⟩)
       cases hb:(r.foldl (putS n) (true,out++[n]++[x])).1 with
       | true=>rfl
       | false=>have:=i3 hb n ((i2 n).2 (.inl (by simp)));omega
      ·exact .inr (.inl ⟨.inl h,fun e=>hx (h.symm.trans e)⟩)
      ·exact .inr (.inl ⟨.inr h.1,h.2⟩)
      ·exact .inr (.inr h)
     ·rintro(h | ⟨h | h,h'⟩ | h)
      ·exact .inl (.inl (.inl h))
      ·exact .inl (.inr h)
      ·exact .inr (.inl ⟨h,h'⟩)
      ·exact .inr (.inr h)
    ·simp at i4 ⊢;omega
    ·intro hf;have:=i5 hf;simp at this ⊢;exfalso;have:=i3 hf n ((i2 n).2 (.inl (by simp)));omega
  ·by_cases hx:x=n
   ·have hd:d=true:=by cases d with | true=>rfl | false=>exact absurd ⟨rfl,by omega⟩ hc
    subst hd;have e:putS n (true,out) x=(true,out):=by simp[putS,hx]
    rw[e];obtain⟨i1,i2,i3,i4,i5⟩:=putS_inv n r (true,out) hl'.2 hs (fun p hp y hy=>h1 p hp y (List.mem_cons_of_mem _ hy)) h2 h3;refine⟨i1,fun m=>?_,i3,?_,?_⟩
    ·rw[i2];simp only[List.mem_cons]
     constructor
     ·rintro(h | h | h)
      ·exact .inl h
      ·exact .inr (.inl ⟨.inr h.1,h.2⟩)
      ·exact .inr (.inr h)
     ·rintro(h | ⟨h | h,h'⟩ | h)
      ·exact .inl h
      ·exact absurd (h.trans hx) h'
      ·exact .inr (.inl ⟨h,h'⟩)
      ·exact .inr (.inr h)
    ·simp at i4 ⊢;omega
    ·intro hf;have:=i5 hf;simp at this ⊢;omega
   ·have e:putS n (d,out) x=(d,out++[x]):=by
     unfold putS;simp only[hc,if_false,hx]
    rw[e];have hlt:d=false → x < n:=fun h=>by
     have:¬ n ≤ x:=fun h'=>hc ⟨h,h'⟩
     omega
    obtain⟨i1,i2,i3,i4,i5⟩:=putS_inv n r (d,out++[x]) hl'.2 (up_snoc.2 ⟨hs,fun p hp=>by
     rcases h1 p hp x (by simp) with h | h
     ·exact h
     ·omega⟩) (fun p hp y hy=>by
     rcases List.mem_append.1 hp with hp | hp
     ·exact h1 p hp y (List.mem_cons_of_mem _ hy)
     ·simp at hp;have:=hl'.1 y hy;left;omega) (fun h=>List.mem_append_left _ (h2 h)) (fun h p hp=>by
     rcases List.mem_append.1 hp with hp | hp
     ·exact h3 h p hp
     ·simp at hp;rw[hp];exact hlt h)
    refine⟨i1,fun m=>?_,i3,?_,?_⟩
    ·rw[i2];simp only[List.mem_append,List.mem_cons,List.not_mem_nil,or_false]
     constructor
     ·rintro((h | h) | h | h)
      ·exact .inl h
      ·exact .inr (.inl ⟨.inl h,fun e=>hx (h.symm.trans e)⟩)
      ·exact .inr (.inl ⟨.inr h.1,h.2⟩)
      ·exact .inr (.inr h)
     ·rintro(h | ⟨h | h,h'⟩ | h)
      ·exact .inl (.inl h)
      ·exact .inl (.inr h)
      ·exact .inr (.inl ⟨h,h'⟩)
      ·exact .inr (.inr h)
    ·simp at i4 ⊢;omega
    ·intro hf;have:=i5 hf;simp at this ⊢;omega
theorem putP_props{l:List Int}(h:Up l)(n:Int):Up (putP l n) ∧ (∀ m,m∈putP l n↔m∈l ∨ m=n) ∧ (putP l n).length ≤ l.length+1:=by
 obtain⟨i1,i2,i3,i4,i5⟩:=putS_inv n l (false,[]) h (by simp[Up]) (by simp) (by simp) (by simp);unfold putP;simp only
 cases hb:(l.foldl (putS n) (false,[])).1 with
 | true=>
  simp only[if_true];refine⟨i1,fun m=>?_,by simpa using i4⟩;rw[i2,hb];simp only[List.not_mem_nil,false_or,and_true]
  constructor
  ·rintro(h | h)
   ·exact .inl h.1
   ·exact .inr h
  ·rintro(h | h)
   ·by_cases e:m=n
    ·exact .inr e
    ·exact .inl ⟨h,e⟩
   ·exact .inr h
 | false=>
  have:=i5 hb;rw[if_neg (by simp)];refine⟨up_snoc.2 ⟨i1,i3 hb⟩,fun m=>?_,by simp at this ⊢;omega⟩;simp only[List.mem_append,List.mem_singleton,i2,hb,List.not_mem_nil,false_or]
  constructor
  ·rintro((h | h) | h)
   ·exact .inl h.1
   ·cases h.2
   ·exact .inr h
  ·rintro(h | h)
   ·by_cases e:m=n
    ·exact .inr e
    ·exact .inl (.inl ⟨h,e⟩)
   ·exact .inr h
def ptS(out:List Int)(x:TRun):List Int:=if mayR x then putP (putP out x.lo) (x.hi+1) else out
def ptsP(l:List TRun):List Int:=l.foldl ptS []
theorem ptS_inv : ∀ (l:List TRun) (out:List Int),Up out → Up (l.foldl ptS out) ∧ (∀ m,m∈l.foldl ptS out↔m∈out ∨ ∃ x∈l,mayR x=true ∧ (m=x.lo ∨ m=x.hi+1)) ∧ (l.foldl ptS out).length ≤ out.length+2*l.length
 | [],out,h=>⟨h,fun m=>by simp,by simp⟩
 | x::r,out,h=>by
  rw[List.foldl_cons];obtain⟨j1,j2,j3⟩:=putP_props h x.lo;obtain⟨k1,k2,k3⟩:=putP_props j1 (x.hi+1)
  by_cases hm:mayR x=true
  ·have e:ptS out x=putP (putP out x.lo) (x.hi+1):=by simp[ptS,hm]
   rw[e];obtain⟨i1,i2,i3⟩:=ptS_inv r _ k1;refine⟨i1,fun m=>?_,by simp;omega⟩;rw[i2,k2,j2]
   constructor
   ·rintro(((h | h) | h) | ⟨y,h1,h2⟩)
    ·exact .inl h
    ·exact .inr ⟨x,by simp,hm,.inl h⟩
    ·exact .inr ⟨x,by simp,hm,.inr h⟩
    ·exact .inr ⟨y,by simp[h1],h2⟩
   ·rintro(h | ⟨y,h1,h2,h3⟩)
    ·exact .inl (.inl (.inl h))
    ·rcases List.mem_cons.1 h1 with rfl | h1
     ·rcases h3 with h3 | h3
      ·exact .inl (.inl (.inr h3))
      ·exact .inl (.inr h3)
     ·exact .inr ⟨y,h1,h2,h3⟩
  ·have e:ptS out x=out:=by simp[ptS,hm]
   rw[e];obtain⟨i1,i2,i3⟩:=ptS_inv r _ h;refine⟨i1,fun m=>?_,by simp;omega⟩;rw[i2]
   constructor
   ·rintro(h | ⟨y,h1,h2⟩)
    ·exact .inl h
    ·exact .inr ⟨y,by simp[h1],h2⟩
   ·rintro(h | ⟨y,h1,h2,h3⟩)
    ·exact .inl h
    ·rcases List.mem_cons.1 h1 with rfl | h1
     ·exact absurd h2 hm
     ·exact .inr ⟨y,h1,h2,h3⟩
theorem ptsP_props(l:List TRun):Up (ptsP l) ∧ (∀ m,m∈ptsP l↔∃ x∈l,mayR x=true ∧ (m=x.lo ∨ m=x.hi+1)) ∧ (ptsP l).length ≤ 2*l.length:=by
 obtain⟨h1,h2,h3⟩:=ptS_inv l [] (by simp[Up]);exact⟨h1,fun m=>by rw[ptsP,h2];simp,by simpa[ptsP] using h3⟩
def lastOr(out:List TRun)(p:Int)(z:TRun → TRun)(x:TRun):List TRun:=match out.getLast? with
 | some y=>if y.hi+1=p then out.dropLast++[z y] else out++[x]
 | none=>out++[x]
def setS(op:Bool → Bool → Bool)(a b:List TRun)(out:List TRun)(pq:Int×Int):List TRun:=
 if op (hasR a pq.1) (hasR b pq.1) then lastOr out pq.1 (fun y=>⟨y.lo,pq.2 - 1⟩) ⟨pq.1,pq.2 - 1⟩ else out
def pairs(l:List Int):List (Int×Int):=l.zip l.tail
def setR(op:Bool → Bool → Bool)(a b:List TRun):List TRun:=(pairs (ptsP (a++b))).foldl (setS op a b) []
theorem lastOr_nil(p:Int)(z:TRun → TRun)(x:TRun):lastOr [] p z x=[x]:=rfl
theorem lastOr_snoc(l:List TRun)(y:TRun)(p:Int)(z:TRun → TRun)(x:TRun):lastOr (l++[y]) p z x=if y.hi+1=p then l++[z y] else l++[y]++[x]:=by simp[lastOr]
theorem snoc_cases{α:Type}(l:List α):l=[] ∨ ∃ r y,l=r++[y]:=by
 rcases List.eq_nil_or_concat l with h | ⟨r,y,h⟩
 ·exact .inl h
 ·exact .inr ⟨r,y,by simpa using h⟩
theorem setS_inv(op:Bool → Bool → Bool)(a b:List TRun):∀ (P:List Int) (p:Int) (out:List TRun),Up (p::P) → (∀ q∈p::P,1 ≤ q ∧ q ≤ 281474976710656) → Nf out → (∀ y∈out,y.hi < p) →
  Nf ((pairs (p::P)).foldl (setS op a b) out) ∧ (∀ n,hasR ((pairs (p::P)).foldl (setS op a b) out) n=true↔hasR out n=true ∨ ∃ pq∈pairs (p::P),pq.1 ≤ n ∧ n < pq.2 ∧ op (hasR a pq.1) (hasR b pq.1)=true) ∧ ((pairs (p::P)).foldl (setS op a b) out).length ≤ out.length+P.length
 | [],p,out,_,_,h,_=>by simp[pairs,h]
 | q::P,p,out,hu,hr,h,hy=>by
  have e:pairs (p::q::P)=(p,q)::pairs (q::P):=rfl;rw[e,List.foldl_cons];have hu':=List.pairwise_cons.1 hu;have hpq:p < q:=hu'.1 q (by simp);have hp:=hr p (by simp);have hq:=hr q (by simp);have step:Nf (setS op a b out (p,q)) ∧ (∀ n,hasR (setS op a b out (p,q)) n=true↔hasR out n=true ∨ (p ≤ n ∧ n < q ∧ op (hasR a p) (hasR b p)=true)) ∧ (∀ y∈setS op a b out (p,q),y.hi < q) ∧ (setS op a b out (p,q)).length ≤ out.length+1:=by
   unfold setS;simp only
   by_cases hop:op (hasR a p) (hasR b p)=true
   ·rw[if_pos hop];rcases snoc_cases out with rfl | ⟨l,y,rfl⟩
    ·rw[lastOr_nil];have hm:mayR (⟨p,q - 1⟩:TRun)=true:=mayR_iff.2 ⟨hp.1,by simp only;omega,by simp only;omega⟩;refine⟨⟨hm,by simp,trivial⟩,fun n=>?_,fun y hy=>?_,by simp⟩
     ·rw[hasR_one,inR_iff];have:=mayR_iff.1 hm;simp only at this ⊢;simp only[hasR_nil,Bool.false_eq_true,false_or,hop,and_true];omega
     ·simp at hy;subst hy;simp only;omega
    ·rw[lastOr_snoc];obtain⟨n1,n2,n3⟩:=nf_snoc.1 h;have hym:=mayR_iff.1 n2;have hyp:=hy y (by simp)
     by_cases hadj:y.hi+1=p
     ·rw[if_pos hadj];have hm:mayR (⟨y.lo,q - 1⟩:TRun)=true:=mayR_iff.2 ⟨hym.1,by simp only;omega,by simp only;omega⟩;refine⟨nf_snoc.2 ⟨n1,hm,n3⟩,fun n=>?_,fun z hz=>?_,by simp⟩
      ·rw[hasR_app,hasR_app,hasR_one,hasR_one,Bool.or_eq_true,Bool.or_eq_true,inR_iff,inR_iff];have:=mayR_iff.1 hm;simp only at this ⊢;simp only[hop,and_true]
       constructor
       ·rintro(h | h)
        ·exact .inl (.inl h)
        ·by_cases hc:n ≤ y.hi
         ·exact .inl (.inr ⟨hym,h.2.1,hc⟩)
         ·right;omega
       ·rintro((h | h) | h)
        ·exact .inl h
        ·right;omega
        ·right;omega
      ·rcases List.mem_append.1 hz with hz | hz
       ·have:=hy z (by simp[hz]);omega
       ·simp at hz;subst hz;simp only;omega
     ·rw[if_neg hadj];have hm:mayR (⟨p,q - 1⟩:TRun)=true:=mayR_iff.2 ⟨hp.1,by simp only;omega,by simp only;omega⟩;refine⟨nf_snoc.2 ⟨h,hm,fun z hz=>?_⟩,fun n=>?_,fun z hz=>?_,by simp⟩
      ·simp only;rcases List.mem_append.1 hz with hz | hz
       ·have:=n3 z hz;omega
       ·simp at hz;subst hz;omega
      ·rw[hasR_app (l++[y]),hasR_one,Bool.or_eq_true,inR_iff];have:=mayR_iff.1 hm;simp only at this ⊢;simp only[hop,and_true]
       constructor
       ·rintro(h | h)
        ·exact .inl h
        ·right;omega
       ·rintro(h | h)
        ·exact .inl h
        ·right;omega
      ·rcases List.mem_append.1 hz with hz | hz
       ·have:=hy z hz;omega
       ·simp at hz;subst hz;simp only;omega
   ·rw[if_neg hop];refine⟨h,fun n=>?_,fun y hy'=>by have:=hy y hy';omega,by omega⟩;exact⟨fun h=>.inl h,fun h=>h.elim id fun h=>absurd h.2.2 hop⟩
  obtain⟨s1,s2,s3,s4⟩:=step;obtain⟨i1,i2,i3⟩:=setS_inv op a b P q _ hu'.2 (fun z hz=>hr z (List.mem_cons_of_mem _ hz)) s1 s3;refine⟨i1,fun n=>?_,by simp;omega⟩;rw[i2,s2];simp only[List.mem_cons,exists_eq_or_imp]
  constructor
  ·rintro((h | h) | h)
   ·exact .inl h
   ·exact .inr (.inl h)
   ·exact .inr (.inr h)
  ·rintro(h | h | h)
   ·exact .inl (.inl h)
   ·exact .inl (.inr h)
   ·exact .inr h
theorem pairs_next : ∀ {P:List Int},Up P → ∀ pq∈pairs P,pq.1∈P ∧ pq.2∈P ∧ pq.1 < pq.2 ∧ ∀ m∈P,m ≤ pq.1 ∨ pq.2 ≤ m
 | [],_,pq,h=>by simp[pairs] at h
 | [p],_,pq,h=>by simp[pairs] at h
 | p::q::P,hu,pq,h=>by
  have e:pairs (p::q::P)=(p,q)::pairs (q::P):=rfl;rw[e] at h;have hu':=List.pairwise_cons.1 hu;rcases List.mem_cons.1 h with rfl | h
  ·refine⟨by simp,by simp,hu'.1 q (by simp),fun m hm=>?_⟩;rcases List.mem_cons.1 hm with rfl | hm
   ·simp
   ·right
    rcases List.mem_cons.1 hm with rfl | hm
    ·simp
    ·have:=(List.pairwise_cons.1 hu'.2).1 m hm;simp only;omega
  ·obtain⟨h1,h2,h3,h4⟩:=pairs_next hu'.2 pq h;refine⟨List.mem_cons_of_mem _ h1,List.mem_cons_of_mem _ h2,h3,fun m hm=>?_⟩;rcases List.mem_cons.1 hm with rfl | hm
   ·left;have:=hu'.1 _ h1;omega
   ·exact h4 m hm
theorem pairs_find : ∀ {P:List Int},Up P → ∀ {u v n:Int},u∈P → v∈P → u ≤ n → n < v → ∃ pq∈pairs P,pq.1 ≤ n ∧ n < pq.2
 | [],_,_,_,_,h,_,_,_=>by simp at h
 | [p],_,u,v,n,h1,h2,h3,h4=>by simp at h1 h2;omega
 | p::q::P,hu,u,v,n,h1,h2,h3,h4=>by
  have e:pairs (p::q::P)=(p,q)::pairs (q::P):=rfl;have hu':=List.pairwise_cons.1 hu
  by_cases hc:n < q
  ·refine⟨(p,q),by rw[e];simp,?_,hc⟩;rcases List.mem_cons.1 h1 with rfl | h1
   ·exact h3
   ·have:q ≤ u:=by
     rcases List.mem_cons.1 h1 with rfl | h1
     ·omega
     ·have:=(List.pairwise_cons.1 hu'.2).1 u h1;omega
    simp only;omega
  ·have hv:v∈q::P:=by
    rcases List.mem_cons.1 h2 with rfl | h2
    ·have:=hu'.1 q (by simp);omega
    ·exact h2
   obtain⟨pq,h5,h6⟩:=pairs_find hu'.2 (u:=q) (by simp) hv (by omega) h4;exact⟨pq,by rw[e];exact List.mem_cons_of_mem _ h5,h6⟩
theorem pairs_len(P:List Int):(pairs P).length=P.length - 1:=by simp[pairs]
theorem has_between{l:List TRun}{P:List Int}(hP:∀ x∈l,mayR x=true → x.lo∈P ∧ x.hi+1∈P){p q n:Int}(h1:∀ m∈P,m ≤ p ∨ q ≤ m)(h2:p ≤ n)(h3:n < q):hasR l n=hasR l p:=by
 rw[Bool.eq_iff_iff,hasR_iff,hasR_iff]
 constructor
 ·rintro⟨x,hx,hm,h4,h5⟩;obtain⟨h6,h7⟩:=hP x hx hm;have:=h1 _ h6;have:=h1 _ h7;exact⟨x,hx,hm,by omega,by omega⟩
 ·rintro⟨x,hx,hm,h4,h5⟩;obtain⟨h6,h7⟩:=hP x hx hm;have:=h1 _ h6;have:=h1 _ h7;exact⟨x,hx,hm,by omega,by omega⟩
theorem setR_props(op:Bool → Bool → Bool)(h0:op false false=false)(a b:List TRun):Nf (setR op a b) ∧ (∀ n,hasR (setR op a b) n=op (hasR a n) (hasR b n)) ∧ (setR op a b).length ≤ 2*(a.length+b.length):=by
 obtain⟨p1,p2,p3⟩:=ptsP_props (a++b);have hrange:∀ q∈ptsP (a++b),1 ≤ q ∧ q ≤ 281474976710656:=fun q hq=>by
  obtain⟨x,_,h2,h3⟩:=(p2 q).1 hq;have:=mayR_iff.1 h2;omega
 have main:Nf (setR op a b) ∧ (∀ n,hasR (setR op a b) n=true↔∃ pq∈pairs (ptsP (a++b)),pq.1 ≤ n ∧ n < pq.2 ∧ op (hasR a pq.1) (hasR b pq.1)=true) ∧ (setR op a b).length ≤ (ptsP (a++b)).length:=by
  unfold setR
  generalize hP:ptsP (a++b)=P at p1 hrange
  cases P with
  | nil=>simp[pairs,Nf]
  | cons p P=>
   obtain⟨i1,i2,i3⟩:=setS_inv op a b P p [] p1 hrange trivial (by simp);exact⟨i1,fun n=>by rw[i2];simp,by simp at i3 ⊢;omega⟩
 obtain⟨m1,m2,m3⟩:=main;refine⟨m1,fun n=>?_,by simp at p3;omega⟩;have hPa:∀ x∈a,mayR x=true → x.lo∈ptsP (a++b) ∧ x.hi+1∈ptsP (a++b):=fun x hx hm=>⟨(p2 _).2 ⟨x,by simp[hx],hm,.inl rfl⟩,(p2 _).2 ⟨x,by simp[hx],hm,.inr rfl⟩⟩
 have hPb:∀ x∈b,mayR x=true → x.lo∈ptsP (a++b) ∧ x.hi+1∈ptsP (a++b):=fun x hx hm=>⟨(p2 _).2 ⟨x,by simp[hx],hm,.inl rfl⟩,(p2 _).2 ⟨x,by simp[hx],hm,.inr rfl⟩⟩
 rw[Bool.eq_iff_iff,m2]
 constructor
 ·rintro⟨pq,h1,h2,h3,h4⟩;obtain⟨_,_,_,h5⟩:=pairs_next p1 pq h1
  rwa [has_between hPa h5 h2 h3,has_between hPb h5 h2 h3]
 ·intro h;have hex:∃ u∈ptsP (a++b),∃ v∈ptsP (a++b),u ≤ n ∧ n < v:=by
   cases ha:hasR a n with
   | true=>
    obtain⟨x,h1,h2,h3,h4⟩:=hasR_iff.1 ha;exact⟨_,(hPa x h1 h2).1,_,(hPa x h1 h2).2,h3,by omega⟩
   | false=>
    cases hb:hasR b n with
    | true=>
     obtain⟨x,h1,h2,h3,h4⟩:=hasR_iff.1 hb;exact⟨_,(hPb x h1 h2).1,_,(hPb x h1 h2).2,h3,by omega⟩
    | false=>rw[ha,hb,h0] at h;cases h
  obtain⟨u,hu,v,hv,h1,h2⟩:=hex;obtain⟨pq,h3,h4,h5⟩:=pairs_find p1 hu hv h1 h2;obtain⟨_,_,_,h6⟩:=pairs_next p1 pq h3;exact⟨pq,h3,h4,h5,by rwa [← has_between hPa h6 h4 h5,← has_between hPb h6 h4 h5]⟩
def nrm(l:List TRun):List TRun:=setR (·||·) l []
theorem nrm_nf(l:List TRun):Nf (nrm l):=(setR_props _ rfl l []).1
theorem nrm_has(l:List TRun)(n:Int):hasR (nrm l) n=hasR l n:=by rw[nrm,(setR_props _ rfl l []).2.1];simp
theorem nrm_len(l:List TRun):(nrm l).length ≤ 2*l.length:=by
 have:=(setR_props (·||·) rfl l []).2.2;rw[List.length_nil,Nat.add_zero] at this;exact this
theorem nrm_of{l r:List TRun}(h:Nf r)(h2:∀ n,hasR r n=hasR l n):r=nrm l:=nf_ext h (nrm_nf l) fun n=>by rw[h2,nrm_has]
theorem rmay_eq(x:TRun):r06_may x=pure (mayR x):=by
 unfold r06_may;rw[cond_pure_and,cond_pure_and,pure_bind]
 rfl
theorem rhas_eq(l:List TRun)(n:Int)(h:l.length ≤ 1000000000000):r06_Has l n=pure (hasR l n):=by
 unfold r06_Has;have:=loopAll (body:=r06_Has_l0 l n) l (fun i=>(i:Int)) (fun _ x=>!inR n x) (.brk ()) (.ret true) (fun i x hx hi=>by
  unfold r06_Has_l0;have h1:decide ((i:Int) < (l.length:Int))=true:=by simpa using hi
  simp only[h1,cond_true,idx_nat hx,pure_bind,rmay_eq,det_pure,wSucc (show i < 9223372036854775807 by omega),cond_pure_and];unfold inR
  cases mayR x <;> cases decide (x.lo ≤ n) <;> cases decide (n ≤ x.hi) <;> rfl) (by unfold r06_Has_l0;simp)
 rw[show(0:Int)=((0:Nat):Int) from rfl,this,pure_bind];have e:l.zipIdx.all (fun y=>!inR n y.1)=!hasR l n:=by
  unfold hasR;rw[Bool.eq_iff_iff];simp only[List.all_eq_true,Bool.not_eq_true',List.any_eq_false]
  constructor
  ·intro h x hx;obtain⟨i,hi,he⟩:=List.getElem_of_mem hx;have:=h (x,i) (by rw[List.mk_mem_zipIdx_iff_getElem?];rw[List.getElem?_eq_getElem hi,he]);simpa using this
  ·intro h y hy;have:=List.fst_mem_of_mem_zipIdx hy;have:=h _ this;simpa using this
 simp only[e]
 cases hasR l n <;> rfl
theorem rput_eq(l:List Int)(n:Int)(h:l.length ≤ 100000000000):r06_put l n=pure (putP l n):=by
 unfold r06_put;have:=loopL (body:=r06_put_l0 l n) l (fun i (t:Bool×List Int)=>(t.1,(i:Int),t.2)) (putS n) (fun t=>pure t) (fun i t=>t.2.length ≤ 2*i) (fun i x t hx hi hI=>by
  obtain⟨d,out⟩:=t;simp only at hI;have h1:decide ((i:Int) < (l.length:Int))=true:=by simpa using hi
  refine⟨?_,?_⟩
  ·unfold r06_put_l0 putS;simp only[h1,cond_true,idx_nat hx,pure_bind,wSucc (show i < 9223372036854775807 by omega)]
   cases d with
   | true=>
    by_cases hc:x=n
    ·simp[hc,pure_bind]
    ·simp only[Bool.not_true,cond_false,pure_bind,hc,decide_false,Bool.not_false,cond_true,if_false];rw[need_true (by simp;omega)];simp[pure_bind]
   | false=>
    by_cases hc1:n ≤ x
    ·simp only[Bool.not_false,cond_true,pure_bind,hc1,decide_true];rw[need_true (by simp;omega),pure_bind]
     by_cases hc:x=n
     ·simp[hc,pure_bind]
     ·simp only[hc,decide_false,Bool.not_false,cond_true];rw[need_true (by simp;omega)];simp[pure_bind]
    ·simp only[Bool.not_false,cond_true,pure_bind,hc1,decide_false,cond_false];have hc:x≠n:=by omega
     simp only[hc,decide_false,Bool.not_false,cond_true];rw[need_true (by simp;omega)];simp[pure_bind]
  ·unfold putS;simp only
   split <;> split <;> simp <;> omega) (fun t _=>by unfold r06_put_l0;simp[pure_bind]) (false,[]) (by simp)
 rw[show((false,(0:Int),([]:List Int)):Bool×Int×List Int)=(false,((0:Nat):Int),[]) from rfl,this,pure_bind];unfold putP;have hlen:(l.foldl (putS n) (false,[])).2.length ≤ 2*l.length:=by
  have:∀ (l:List Int) (s:Bool×List Int),(l.foldl (putS n) s).2.length ≤ s.2.length+2*l.length:=by
   intro l
   induction l with
   | nil=>intro s;simp
   | cons x r ih=>
    intro s;rw[List.foldl_cons];have:=ih (putS n s x);have h2:(putS n s x).2.length ≤ s.2.length+2:=by
     unfold putS;simp only
     split <;> split <;> simp
    simp;omega
  simpa using this l (false,[])
 generalize l.foldl (putS n) (false,[])=t at hlen
 obtain⟨d,out⟩:=t
 cases d with
 | true=>rfl
 | false=>
  simp only[Bool.not_false,cond_true];rw[need_true (by simp at hlen ⊢;omega)]
  rfl
theorem rpts_eq(a b:List TRun)(h:a.length+b.length ≤ 10000000000):r06_points a b=pure (ptsP (a++b)):=by
 unfold r06_points;rw[need_true (by simp;omega),need_true (by simp;omega)];have hup:∀ i,Up (((a++b).take i).foldl ptS []) ∧ (((a++b).take i).foldl ptS []).length ≤ 2*(a++b).length:=fun i=>by
  obtain⟨h1,_,h3⟩:=ptS_inv ((a++b).take i) [] (by simp[Up]);refine⟨h1,?_⟩;have:((a++b).take i).length ≤ (a++b).length:=by simp;omega
  simp only[List.length_nil,Nat.zero_add] at h3;omega
 have:=loopL (body:=r06_points_l0 a b) (a++b) (fun i (t:List Int)=>(t,(i:Int))) ptS (fun t=>pure t) (fun i t=>t=((a++b).take i).foldl ptS []) (fun i x t hx hi hI=>by
  have h1:decide ((i:Int) < ((a++b).length:Int))=true:=decide_eq_true (by omega);have hlen:(a++b).length ≤ 10000000000:=by simp;omega
  obtain⟨u1,u2⟩:=hup i;rw[← hI] at u1 u2;refine⟨?_,?_⟩
  ·unfold r06_points_l0 ptS;simp only[List.nil_append,h1,cond_true,idx_nat hx,pure_bind,wSucc (show i < 9223372036854775807 by omega),rmay_eq,det_pure]
   cases hm:mayR x with
   | false=>simp[pure_bind]
   | true=>
    have hm':=mayR_iff.1 hm;have hp:=putP_props u1 x.lo;rw[cond_true,rput_eq _ _ (by omega),det_pure,pure_bind,wU64 (by omega) (by omega),rput_eq _ _ (by omega),det_pure];simp[pure_bind]
  ·rw[List.take_add_one,hx];simp[hI]) (fun t _=>by unfold r06_points_l0;simp[pure_bind]) [] (by simp)
 rw[show(([]:List Int),(0:Int))=([],((0:Nat):Int)) from rfl,this];simp only[pure_bind]
 rfl
theorem zip_tail_get{P:List Int}{i:Nat}{pq:Int×Int}(h:(pairs P)[i]?=some pq):P[i]?=some pq.1 ∧ P[i+1]?=some pq.2:=by
 unfold pairs at h;rw[List.getElem?_zip_eq_some] at h;obtain⟨h1,h2⟩:=h;rw[List.getElem?_tail] at h2;exact⟨h1,h2⟩
theorem rset_eq(op:Bool → Bool → Bool)(how:Int)(hop:∀ x y,op x y=if how=2 then (x&&!y) else if how=1 then (x&&y) else (x||y))(_h0:op false false=false)(a b:List TRun)(h:a.length+b.length ≤ 10000000000):r06_set a b how=pure (setR op a b):=by
 unfold r06_set;rw[rpts_eq a b h,det_pure,pure_bind];obtain⟨p1,p2,p3⟩:=ptsP_props (a++b);have hrange:∀ q∈ptsP (a++b),1 ≤ q ∧ q ≤ 281474976710656:=fun q hq=>by
  obtain⟨x,_,h2,h3⟩:=(p2 q).1 hq;have:=mayR_iff.1 h2;omega
 unfold setR
 generalize ptsP (a++b)=P at p1 hrange p3
 simp only[List.length_append] at p3;have hinv:∀ i,i ≤ (pairs P).length → Nf (((pairs P).take i).foldl (setS op a b) []) ∧ (((pairs P).take i).foldl (setS op a b) []).length ≤ P.length:=fun i hi=>by
  cases P with
  | nil=>simp[pairs,Nf]
  | cons p P=>
   have key:(pairs (p::P)).take i=pairs (p::P.take i):=by
    unfold pairs;simp only[List.tail_cons];clear hi p1 hrange p3
    induction i generalizing p P with
    | zero=>simp
    | succ i ih=>
     cases P with
     | nil=>simp
     | cons q P=>
      simp only[List.zip_cons_cons,List.take_succ_cons];rw[ih q P]
   rw[key];have hsub:(p::P.take i).Sublist (p::P):=List.Sublist.cons_cons _ (List.take_sublist _ _);obtain⟨i1,_,i3⟩:=setS_inv op a b (P.take i) p [] (List.Pairwise.sublist hsub p1) (fun q hq=>hrange q (hsub.subset hq)) trivial (by simp);refine⟨i1,?_⟩;simp at i3 ⊢;omega
 have:=loopL (body:=r06_set_l0 P a b how) (pairs P) (fun i (t:List TRun)=>((i:Int),t)) (setS op a b) (fun t=>pure t) (fun i t=>i ≤ (pairs P).length ∧ t=((pairs P).take i).foldl (setS op a b) []) (fun i pq t hx hi hI=>by
  obtain⟨hI1,hI⟩:=hI;obtain⟨g1,g2⟩:=zip_tail_get hx;have hlt:i+1 < P.length:=(List.getElem?_eq_some_iff.1 g2).1;have hPl:P.length ≤ 20000000000:=by omega
  have h1:decide (((i+1:Nat):Int) < (P.length:Int))=true:=by rw[decide_eq_true_eq];omega
  obtain⟨v1,v2⟩:=hinv i hI1;rw[← hI] at v1 v2;refine⟨?_,by omega,by rw[List.take_add_one,hx];simp[hI]⟩;unfold r06_set_l0 setS;have e2:idx P ((i+1:Nat):Int)=pure pq.2:=idx_nat g2;have hq:=hrange pq.2 (List.mem_of_getElem? g2);simp only[wSucc (show i < 9223372036854775807 by omega),h1,cond_true,idx_nat g1,e2,pure_bind,rhas_eq a pq.1 (by omega),rhas_eq b pq.1 (by omega),det_pure];rw[hop];have hin:∀ (x y:Bool),(M.bind (cond x (M.pure true) (M.pure y)) fun in97=>M.bind (cond (decide (how=1)) (M.bind (cond x (M.pure y) (M.pure false)) fun in101=>M.pure in101) (M.pure in97)) fun in99=>cond (decide (how=2)) (M.bind (cond x (M.pure (!y)) (M.pure false)) fun in105=>M.pure in105) (M.pure in99))=pure (if how=2 then (x&&!y) else if how=1 then (x&&y) else (x||y)):=by
   intro x y
   by_cases c2:how=2
   ·subst c2;cases x <;> cases y <;> rfl
   ·by_cases c1:how=1
    ·subst c1;cases x <;> cases y <;> rfl
    ·simp only[c1,c2,decide_false,cond_false,if_false]
     cases x <;> cases y <;> rfl
  have hin':=hin (hasR a pq.1) (hasR b pq.1)
  generalize (if how=2 then (hasR a pq.1&&!hasR b pq.1) else if how=1 then (hasR a pq.1&&hasR b pq.1) else (hasR a pq.1||hasR b pq.1))=inn at hin'
  -- the three steps are one
  have assoc:∀ (K:Bool → M (List TRun)),(M.bind (cond (hasR a pq.1) (M.pure true) (M.pure (hasR b pq.1))) fun in97=>M.bind (cond (decide (how=1)) (M.bind (cond (hasR a pq.1) (M.pure (hasR b pq.1)) (M.pure false)) fun in101=>M.pure in101) (M.pure in97)) fun in99=>M.bind (cond (decide (how=2)) (M.bind (cond (hasR a pq.1) (M.pure (!hasR b pq.1)) (M.pure false)) fun in105=>M.pure in105) (M.pure in99)) K)=K inn:=by
   intro K;have:=congrArg (fun m=>M.bind m K) hin';exact this
  rw[assoc]
  cases inn with
  | false=>rfl
  | true=>
   simp only[cond_true,if_true];rcases snoc_cases t with rfl | ⟨l,y,rfl⟩
   ·have e:decide ((0:Int) ≤ IntKind.i64.wrap (((([]:List TRun).length:Nat):Int) - 1))=false:=by
     rw[wI64 (by simp) (by simp)];simp
    rw[e];simp only[cond_false,pure_bind];rw[need_true (by simp),wU64 (by omega) (by omega)]
    rfl
   ·have hy:=(nf_snoc.1 v1).2.1;have hym:=mayR_iff.1 hy;have e0:IntKind.i64.wrap ((((l++[y]).length:Nat):Int) - 1)=(l.length:Int):=by
     simp only[List.length_append,List.length_singleton] at v2 ⊢;rw[wI64 (by omega) (by omega)];omega
    have e1:idx (l++[y]) (l.length:Int)=pure y:=idx_nat (by simp);have e3:decide ((0:Int) ≤ (l.length:Int))=true:=by simp
    rw[e0,e3];simp only[cond_true,e1,pure_bind,wU64 (show 0 ≤ y.hi+1 by omega) (by omega),wU64 (show 0 ≤ pq.2 - 1 by omega) (by omega)];rw[lastOr_snoc]
    by_cases hc:y.hi+1=pq.1
    ·simp only[hc,decide_true,cond_true,if_true,Int.toNat_natCast];have:(l++[y]).set l.length (⟨y.lo,pq.2 - 1⟩:TRun)=l++[⟨y.lo,pq.2 - 1⟩]:=by simp
     rw[this]
     rfl
    ·simp only[hc,decide_false,cond_false,if_false];rw[need_true (by simp only[List.length_append,List.length_singleton] at v2 ⊢;omega)]
     rfl) (fun t _=>by
  unfold r06_set_l0;have e:decide (IntKind.i64.wrap (((pairs P).length:Int)+1) < (P.length:Int))=false:=by
   rw[pairs_len,wI64 (by omega) (by omega)];simp;omega
  simp only[e,cond_false,pure_bind]) [] ⟨Nat.zero_le _,by simp⟩
 rw[show((0:Int),([]:List TRun))=(((0:Nat):Int),[]) from rfl,this];simp only[pure_bind]
theorem rjoin_eq(a b:List TRun)(h:a.length+b.length ≤ 10000000000):r06_Join a b=pure (setR (·||·) a b):=by
 unfold r06_Join;rw[rset_eq (·||·) 0 (fun x y=>by simp) rfl a b h,det_pure,pure_bind]
def addN(out:List TRun)(x:TRun):List TRun:=match out.getLast? with
 | some y=>if x.lo ≤ y.hi+1 then out.dropLast++[⟨y.lo,max y.hi x.hi⟩] else out++[x]
 | none=>out++[x]
theorem addN_nil(x:TRun):addN [] x=[x]:=rfl
theorem addN_snoc(l:List TRun)(y x:TRun):addN (l++[y]) x=if x.lo ≤ y.hi+1 then l++[⟨y.lo,max y.hi x.hi⟩] else l++[y]++[x]:=by simp[addN]
theorem addN_props{out:List TRun}{x:TRun}(h:Nf out)(hx:mayR x=true)(hlo:∀ y∈out,y.lo ≤ x.lo):Nf (addN out x) ∧ (∀ n,hasR (addN out x) n=(hasR out n||inR n x)) ∧ (∀ y∈addN out x,y.lo ≤ x.lo) ∧ (addN out x).length ≤ out.length+1:=by
 have hxm:=mayR_iff.1 hx;rcases snoc_cases out with rfl | ⟨l,y,rfl⟩
 ·rw[addN_nil];exact⟨⟨hx,by simp,trivial⟩,fun n=>by rw[hasR_one];simp,by simp,by simp⟩
 ·rw[addN_snoc];obtain⟨n1,n2,n3⟩:=nf_snoc.1 h;have hym:=mayR_iff.1 n2;have hyx:=hlo y (by simp)
  by_cases hc:x.lo ≤ y.hi+1
  ·rw[if_pos hc];have hm:mayR (⟨y.lo,max y.hi x.hi⟩:TRun)=true:=mayR_iff.2 ⟨hym.1,by simp only;omega,by simp only;omega⟩;refine⟨nf_snoc.2 ⟨n1,hm,n3⟩,fun n=>?_,fun z hz=>?_,by simp⟩
   ·rw[hasR_app,hasR_app,hasR_one,hasR_one,Bool.or_assoc]
    congr 1
    rw[Bool.eq_iff_iff,Bool.or_eq_true,inR_iff,inR_iff,inR_iff];have:=mayR_iff.1 hm;simp only at this ⊢;omega
   ·rcases List.mem_append.1 hz with hz | hz
    ·exact hlo z (by simp[hz])
    ·simp at hz;subst hz;exact hyx
  ·rw[if_neg hc];refine⟨nf_snoc.2 ⟨h,hx,fun z hz=>?_⟩,fun n=>by rw[hasR_app (l++[y]),hasR_one],fun z hz=>?_,by simp⟩
   ·rcases List.mem_append.1 hz with hz | hz
    ·have:=n3 z hz;omega
    ·simp at hz;subst hz;omega
   ·rcases List.mem_append.1 hz with hz | hz
    ·exact hlo z hz
    ·simp at hz;subst hz;exact Int.le_refl _
theorem addN_fold : ∀ (s out:List TRun),Nf out → (∀ x∈s,mayR x=true) → s.Pairwise (fun x y=>x.lo ≤ y.lo) → (∀ y∈out,∀ x∈s,y.lo ≤ x.lo) → Nf (s.foldl addN out) ∧ (∀ n,hasR (s.foldl addN out) n=(hasR out n||hasR s n)) ∧ (s.foldl addN out).length ≤ out.length+s.length
 | [],out,h,_,_,_=>⟨h,by simp,by simp⟩
 | x::r,out,h,hm,hp,hlo=>by
  obtain⟨a1,a2,a3,a4⟩:=addN_props h (hm x (by simp)) fun y hy=>hlo y hy x (by simp)
  obtain⟨p1,p2⟩:=List.pairwise_cons.1 hp;obtain⟨i1,i2,i3⟩:=addN_fold r _ a1 (fun y hy=>hm y (List.mem_cons_of_mem _ hy)) p2 fun y hy z hz=>by
   have:=a3 y hy;have:=p1 z hz;omega
  refine⟨i1,fun n=>?_,by simp;omega⟩;rw[List.foldl_cons,i2,a2,hasR_cons,Bool.or_assoc]
theorem srt_wp{l:List TRun}{Q:List TRun → Prop}(h:∀ s,s.Perm l → s.Pairwise (fun x y=>x.lo ≤ y.lo) → Q s):(srt ltRun l).wp Q:=by
 refine⟨⟨l.mergeSort (fun x y=>decide (x.lo ≤ y.lo)),List.mergeSort_perm _ _,?_⟩,fun s ⟨h1,h2⟩=>h s h1 (h2.imp fun {x y} h=>?_)⟩
 ·refine(List.pairwise_mergeSort (fun a b c h1 h2=>?_) (fun a b=>?_) l).imp fun {x y} h=>?_
  ·simp only[decide_eq_true_eq] at h1 h2 ⊢;omega
  ·simp only[Bool.or_eq_true,decide_eq_true_eq];omega
  ·simp only[decide_eq_true_eq] at h;unfold ltRun;simp only[decide_eq_false_iff_not];omega
 ·unfold ltRun at h;simp only[decide_eq_false_iff_not] at h;omega
theorem norm_eq(l:List TRun)(h:l.length ≤ 1000000000000):runs_Norm l=pure (nrm l):=by
 unfold runs_Norm;have h1:=loopL (body:=runs_Norm_l0 l) l (fun i (t:List TRun)=>((i:Int),t)) (fun t x=>if mayR x then t++[x] else t) (fun t=>pure t) (fun i t=>t.length ≤ i) (fun i x t hx hi hI=>by
  have h1:decide ((i:Int) < (l.length:Int))=true:=by simpa using hi
  refine⟨?_,by split <;> (try simp only[List.length_append,List.length_singleton]) <;> omega⟩;unfold runs_Norm_l0;simp only[h1,cond_true,idx_nat hx,pure_bind,wSucc (show i < 9223372036854775807 by omega)];have e:(cond (decide (0 < x.lo)) (cond (decide (x.lo ≤ x.hi)) (M.pure (decide (x.hi ≤ 281474976710655))) (M.pure false)) (M.pure false):M Bool)=pure (mayR x):=by
   rw[cond_pure_and,cond_pure_and];refine congrArg pure ?_;rw[Bool.eq_iff_iff,mayR_iff];simp only[Bool.and_eq_true,decide_eq_true_eq];omega
  rw[e,pure_bind]
  cases hm:mayR x with
  | false=>simp[pure_bind]
  | true=>
   rw[cond_true,need_true (by simp;omega)];simp[pure_bind]) (fun t _=>by unfold runs_Norm_l0;simp[pure_bind]) [] (by simp)
 have hf:∀ (l t:List TRun),l.foldl (fun t x=>if mayR x then t++[x] else t) t=t++l.filter mayR:=by
  intro l
  induction l with
  | nil=>simp
  | cons x r ih=>
   intro t;rw[List.foldl_cons,ih]
   cases hm:mayR x <;> simp[hm]
 rw[hf,List.nil_append] at h1;have h1':loop (runs_Norm_l0 l) (0,[])=pure (l.filter mayR):=h1;have hfl:(l.filter mayR).length ≤ l.length:=List.length_filter_le _ _;rw[h1',pure_bind,need_true (by omega)];refine eq_pure (srt_wp fun s hs hp=>?_);have hsl:=hs.length_eq;have hmay:∀ x∈s,mayR x=true:=fun x hx=>(List.mem_filter.1 (hs.mem_iff.1 hx)).2
 have hpre:∀ i,Nf ((s.take i).foldl addN []) ∧ ((s.take i).foldl addN []).length ≤ i ∧ ∀ x,s[i]?=some x → ∀ y∈(s.take i).foldl addN [],y.lo ≤ x.lo:=fun i=>by
  obtain⟨i1,i2,i3⟩:=addN_fold (s.take i) [] trivial (fun x hx=>hmay x (List.mem_of_mem_take hx)) (List.Pairwise.sublist (List.take_sublist _ _) hp) (by simp);refine⟨i1,by simp at i3;omega,fun x hx y hy=>?_⟩;have hmy:=mayR_iff.1 (i1.may y hy);have:hasR ((s.take i).foldl addN []) y.lo=true:=hasR_iff.2 ⟨y,hy,i1.may y hy,by omega,by omega⟩;rw[i2] at this;simp only[hasR_nil,Bool.false_or] at this;obtain⟨z,hz,_,h3,_⟩:=hasR_iff.1 this
  -- z is ahead of x; y begins where one of those ahead begins
  have hall:∀ (s out:List TRun),(∀ y∈s.foldl addN out,(∃ z∈out,y.lo=z.lo) ∨ ∃ z∈s,y.lo=z.lo):=by
   intro s
   induction s with
   | nil=>intro out y hy;exact .inl ⟨y,hy,rfl⟩
   | cons a r ih=>
    intro out y hy;rcases ih _ y hy with⟨z,hz,e⟩ | ⟨z,hz,e⟩
    ·rcases snoc_cases out with rfl | ⟨q,w,rfl⟩
     ·rw[addN_nil] at hz;simp at hz;subst hz;exact .inr ⟨z,by simp,e⟩
     ·rw[addN_snoc] at hz
      split at hz
      ·rcases List.mem_append.1 hz with hz | hz
       ·exact .inl ⟨z,by simp[hz],e⟩
       ·simp at hz;subst hz;exact .inl ⟨w,by simp,e⟩
      ·rcases List.mem_append.1 hz with hz | hz
       ·exact .inl ⟨z,hz,e⟩
       ·simp at hz;subst hz;exact .inr ⟨z,by simp,e⟩
    ·exact .inr ⟨z,by simp[hz],e⟩
  rcases hall _ _ y hy with⟨z,hz,_⟩ | ⟨z,hz,e⟩
  ·simp at hz
  ·obtain⟨j,hj,hje⟩:=List.getElem_of_mem hz;have hlt:=(List.getElem?_eq_some_iff.1 hx).1;have hji:j < i:=by simp at hj;omega
   have:=List.pairwise_iff_getElem.1 hp j i (by omega) hlt hji;rw[List.getElem_take] at hje;have hxe:s[i]=x:=by rw[List.getElem?_eq_getElem hlt] at hx;simpa using hx
   rw[hje,hxe] at this;omega
 have h2:=loopL (body:=runs_Norm_l1 (l.filter mayR) s) s (fun i (t:List TRun)=>((i:Int),t)) addN (fun t=>pure t) (fun i t=>t=(s.take i).foldl addN []) (fun i x t hx hi hI=>by
  obtain⟨v1,v2,v3⟩:=hpre i;have v3:=v3 x hx;rw[← hI] at v1 v2 v3;have hxm:=mayR_iff.1 (hmay x (List.mem_of_getElem? hx));have h1:decide ((i:Int) < ((l.filter mayR).length:Int))=true:=by simp;omega
  refine⟨?_,by rw[List.take_add_one,hx];simp[hI]⟩;unfold runs_Norm_l1;simp only[h1,cond_true,idx_nat hx,pure_bind,wSucc (show i < 9223372036854775807 by omega)];rcases snoc_cases t with rfl | ⟨q,y,rfl⟩
  ·have e:decide ((0:Int) ≤ IntKind.i64.wrap (((([]:List TRun).length:Nat):Int) - 1))=false:=by
    rw[wI64 (by simp) (by simp)];simp
   rw[e];simp only[cond_false,pure_bind];rw[need_true (by simp),addN_nil]
   rfl
  ·have hy:=(nf_snoc.1 v1).2.1;have hym:=mayR_iff.1 hy;have e0:IntKind.i64.wrap ((((q++[y]).length:Nat):Int) - 1)=(q.length:Int):=by
    simp only[List.length_append,List.length_singleton] at v2 ⊢;rw[wI64 (by omega) (by omega)];omega
   have e1:idx (q++[y]) (q.length:Int)=pure y:=idx_nat (by simp);have e3:decide ((0:Int) ≤ (q.length:Int))=true:=by simp
   rw[e0,e3];simp only[cond_true,e1,pure_bind,wU64 (show 0 ≤ y.hi+1 by omega) (by omega)];rw[addN_snoc]
   by_cases hc:x.lo ≤ y.hi+1
   ·simp only[hc,decide_true,cond_true,if_true,Int.toNat_natCast];have:(q++[y]).set q.length (⟨y.lo,max y.hi x.hi⟩:TRun)=q++[⟨y.lo,max y.hi x.hi⟩]:=by simp
    rw[this]
    rfl
   ·simp only[hc,decide_false,cond_false,if_false];rw[need_true (by simp only[List.length_append,List.length_singleton] at v2 ⊢;omega)]
    rfl) (fun t _=>by
  unfold runs_Norm_l1;have e:decide ((s.length:Int) < ((l.filter mayR).length:Int))=false:=by simp;omega
  simp only[e,cond_false,pure_bind]) [] (by simp)
 show(M.bind (M.loop (runs_Norm_l1 (l.filter mayR) s) (0,[])) fun out38=>M.pure out38).wp (·=nrm l);rw[show((0:Int),([]:List TRun))=(((0:Nat):Int),[]) from rfl,h2];obtain⟨i1,i2,_⟩:=addN_fold s [] trivial hmay hp (by simp);exact nrm_of i1 fun n=>by rw[i2,hasR_perm hs,hasR_filter];simp
def ones(nums:List Int):List TRun:=nums.map fun n=>⟨n,n⟩
def cmp3(x y:Int):Int:=if x < y then -1 else if y < x then 1 else 0
theorem cmp3_eq(x y:Int):cmp_Compare_uint64 x y=pure (cmp3 x y):=by
 unfold cmp_Compare_uint64 cmp_isNaN_uint64 cmp3;simp only[decide_true,Bool.not_true,det_pure,pure_bind,cond_false,cond_dec]
 split
 ·rfl
 ·split <;> rfl
theorem hasC_eq(x:TRun)(n:Int):runs_Has_c1 x n=pure (cmp3 x.hi n):=by
 unfold runs_Has_c1;rw[cmp3_eq,det_pure,pure_bind]
def cntB : List TRun → Int → Nat
 | [],_=>0
 | x::r,n=>if x.hi < n then cntB r n+1 else 0
theorem cntB_uniq : ∀ {v:List TRun} {n:Int} {c:Nat},c ≤ v.length → (∀ (k:Nat) (x:TRun),k < c → v[k]?=some x → x.hi < n) → (∀ (k:Nat) (x:TRun),c ≤ k → v[k]?=some x → n ≤ x.hi) → c=cntB v n
 | [],n,c,h,_,_=>by simp at h;simp[cntB,h]
 | x::r,n,0,_,_,h2=>by
  have:=h2 0 x (by omega) rfl;simp only[cntB];rw[if_neg (by omega)]
 | x::r,n,c+1,h,h1,h2=>by
  have:=h1 0 x (by omega) rfl;simp only[cntB];rw[if_pos this,← cntB_uniq (v:=r) (n:=n) (c:=c) (by simpa using h) (fun k y hk hy=>h1 (k+1) y (by omega) (by simpa using hy)) (fun k y hk hy=>h2 (k+1) y (by omega) (by simpa using hy))]
theorem nf_mono{v:List TRun}(h:Nf v):∀ {i j:Nat} {x y:TRun},i < j → v[i]?=some x → v[j]?=some y → x.hi < y.hi:=by
 induction v with
 | nil=>intro i j x y _ hx;simp at hx
 | cons z r ih=>
  intro i j x y hij hx hy
  cases j with
  | zero=>omega
  | succ j=>
   have hyr:r[j]?=some y:=by simpa using hy
   have hym:=List.mem_of_getElem? hyr
   cases i with
   | zero=>
    simp at hx;subst hx;have:=h.2.1 y hym;have:=mayR_iff.1 (h.2.2.may y hym);omega
   | succ i=>exact ih h.2.2 (show i < j by omega) (by simpa using hx) hyr
theorem bs_loop(v:List TRun)(n:Int)(hv:Nf v)(hl:v.length ≤ 1000000000000):loop (slices_BinarySearchFunc_sl_Run_Run_uint64_runs_Has_c1_l0 v n) (0,(v.length:Int))=pure (cntB v n:Int):=by
 refine eq_pure (loop_inv (fun s=>∃ i j:Nat,s=((i:Int),(j:Int)) ∧ i ≤ j ∧ j ≤ v.length ∧ (∀ (k:Nat) (x:TRun),k < i → v[k]?=some x → x.hi < n) ∧ (∀ (k:Nat) (x:TRun),j ≤ k → v[k]?=some x → n ≤ x.hi)) (fun s=>(s.2 - s.1).toNat) ?_ _ ⟨0,v.length,rfl,Nat.zero_le _,Nat.le_refl _,fun k x hk=>absurd hk (Nat.not_lt_zero _),fun k x hk hx=>absurd (List.getElem?_eq_some_iff.1 hx).1 (Nat.not_lt.2 hk)⟩);rintro _ ⟨i,j,rfl,hij,hj,h1,h2⟩;unfold slices_BinarySearchFunc_sl_Run_Run_uint64_runs_Has_c1_l0;simp only[cond_dec]
 by_cases hc:(i:Int) < j
 ·rw[if_pos hc];have e:IntKind.i64.wrap (Int.fdiv (IntKind.u64.wrap (IntKind.i64.wrap ((i:Int)+j))) (2 ^ 1))=(((i+j) / 2:Nat):Int):=by
   rw[wI64 (n:=(i:Int)+j) (by omega) (by omega),wU64 (by omega) (by omega),Int.fdiv_eq_ediv_of_nonneg _ (by decide)];have:((i:Int)+j) / 2 ^ 1=(((i+j) / 2:Nat):Int):=by omega
   rw[this,wI64 (by omega) (by omega)]
  have hm:(i+j) / 2 < v.length:=by omega
  rw[e];simp only[idx_nat (List.getElem?_eq_getElem hm),pure_bind,hasC_eq,det_pure,wSucc (show(i+j) / 2 < 9223372036854775807 by omega)]
  by_cases hlt:v[(i+j) / 2].hi < n
  ·have:cmp3 v[(i+j) / 2].hi n < 0:=by unfold cmp3;rw[if_pos hlt];decide
   rw[if_pos this];refine⟨⟨(i+j) / 2+1,j,rfl,by omega,hj,fun k x hk hx=>?_,h2⟩,?_⟩
   ·by_cases e:k=(i+j) / 2
    ·subst e;rw[List.getElem?_eq_getElem hm] at hx;cases hx;exact hlt
    ·have:=nf_mono hv (show k < (i+j) / 2 by omega) hx (List.getElem?_eq_getElem hm);omega
   ·simp only;omega
  ·have:¬ cmp3 v[(i+j) / 2].hi n < 0:=by unfold cmp3;rw[if_neg hlt];split <;> decide
   rw[if_neg this];refine⟨⟨i,(i+j) / 2,rfl,by omega,by omega,h1,fun k x hk hx=>?_⟩,?_⟩
   ·by_cases e:k=(i+j) / 2
    ·subst e;rw[List.getElem?_eq_getElem hm] at hx;cases hx;omega
    ·have:=nf_mono hv (show(i+j) / 2 < k by omega) (List.getElem?_eq_getElem hm) hx;omega
   ·simp only;omega
 ·rw[if_neg hc];have hij':i=j:=by omega
  subst hij';show(i:Int)=(cntB v n:Int)
  rw[← cntB_uniq hj h1 h2]
def hitB(v:List TRun)(n:Int):Bool:=match v[cntB v n]? with | some x=>decide (cmp3 x.hi n=0) | none=>false
theorem bs_eq(v:List TRun)(n:Int)(hv:Nf v)(hl:v.length ≤ 1000000000000):slices_BinarySearchFunc_sl_Run_Run_uint64_runs_Has_c1 v n=pure ((cntB v n:Int),hitB v n):=by
 unfold slices_BinarySearchFunc_sl_Run_Run_uint64_runs_Has_c1 hitB;rw[bs_loop v n hv hl,pure_bind]
 by_cases hc:cntB v n < v.length
 ·have:decide ((cntB v n:Int) < (v.length:Int))=true:=by simpa using hc
  rw[this,cond_true,idx_nat (List.getElem?_eq_getElem hc)];simp only[pure_bind,hasC_eq,det_pure,List.getElem?_eq_getElem hc]
 ·have:decide ((cntB v n:Int) < (v.length:Int))=false:=by simpa using hc
  rw[this,cond_false,pure_bind,List.getElem?_eq_none (by omega)]
theorem cntB_has : ∀ {v:List TRun} (n:Int),Nf v → hasR v n=(match v[cntB v n]? with | some x=>decide (x.lo ≤ n) | none=>false)
 | [],n,_=>rfl
 | x::r,n,h=>by
  by_cases hc:x.hi < n
  ·simp only[cntB,if_pos hc,List.getElem?_cons_succ];rw[← cntB_has n h.2.2,hasR_cons];have:inR n x=false:=by
    rw[Bool.eq_false_iff];intro h;have:=(inR_iff.1 h).2.2;omega
   rw[this,Bool.false_or]
  ·simp only[cntB,if_neg hc,List.getElem?_cons_zero];rw[Bool.eq_iff_iff,decide_eq_true_eq]
   constructor
   ·exact nf_least h
   ·intro hle;exact(nf_hi h hle).2 (.inl (by omega))
theorem has_eq(l:List TRun)(n:Int)(h:l.length ≤ 100000000000):runs_Has l n=pure (hasR l n):=by
 unfold runs_Has;have hl:=nrm_len l;rw[norm_eq l (by omega),det_pure,pure_bind,bs_eq _ n (nrm_nf l) (by omega),det_pure,pure_bind,← nrm_has l n,cntB_has n (nrm_nf l)]
 generalize nrm l=v
 by_cases hc:cntB v n < v.length
 ·have:decide ((cntB v n:Int) < (v.length:Int))=true:=by simpa using hc
  simp only[this,cond_true,idx_nat (List.getElem?_eq_getElem hc),pure_bind,List.getElem?_eq_getElem hc]
 ·have:decide ((cntB v n:Int) < (v.length:Int))=false:=by simpa using hc
  simp only[this,cond_false,pure_bind,List.getElem?_eq_none (show v.length ≤ cntB v n by omega)]
end Go.Ep.M.R
namespace Go.Ep.M.C
open Go
def rawC(c:List TPart)(k:Int):List TRun:=(c.filter fun p=>decide (p.dev=k)&&decide (0 < k)).flatMap (·.runs)
theorem rawC_nil(k:Int):rawC [] k=[]:=rfl
theorem rawC_cons(p:TPart)(c:List TPart)(k:Int):rawC (p::c) k=(if p.dev=k ∧ 0 < k then p.runs else [])++rawC c k:=by
 unfold rawC;rw[List.filter_cons]
 by_cases h:p.dev=k ∧ 0 < k
 ·simp[h.1,h.2]
 ·rw[if_neg (by simpa using h),if_neg h];rfl
theorem rawC_app(a b:List TPart)(k:Int):rawC (a++b) k=rawC a k++rawC b k:=by simp[rawC,List.filter_append]
theorem rawC_bad{c:List TPart}{k:Int}(h:¬ 0 < k):rawC c k=[]:=by simp[rawC,h]
def hasC(c:List TPart)(k n:Int):Bool:=R.hasR (rawC c k) n
def totC(c:List TPart):Nat:=(c.map fun p=>p.runs.length).sum
theorem totC_app(a b:List TPart):totC (a++b)=totC a+totC b:=by simp[totC]
theorem rawC_len(c:List TPart)(k:Int):(rawC c k).length ≤ totC c:=by
 induction c with
 | nil=>simp[rawC]
 | cons p r ih=>
  rw[rawC_cons,List.length_append];have:totC (p::r)=p.runs.length+totC r:=by simp[totC]
  split
  ·omega
  ·simp;omega
theorem setR_nil{op:Bool → Bool → Bool}(h0:op false false=false):R.setR op [] []=[]:=by
 have:=R.setR_props op h0 [] [];exact R.nf_ext this.1 trivial fun n=>by rw[this.2.1];exact h0
theorem nrm_nil : R.nrm []=[]:=setR_nil rfl
theorem get_grow(l:List (Int×List TRun)):∀ (m:List (Int×List TRun)) (k:Int),AL.getZ (AL.grow m l) k []=AL.getZ m k []++(l.filter fun x=>decide (x.1=k)).flatMap (·.2):=by
 induction l with
 | nil=>intro m k;simp[AL.grow]
 | cons x r ih=>
  intro m k;show AL.getZ (AL.grow (AL.set m x.1 (AL.getZ m x.1 []++x.2)) r) k []=_;rw[ih,AL.getZ_set,List.filter_cons]
  by_cases h:x.1=k
  ·subst h;simp
  ·simp[h]
def toldM(c:List TPart):List (Int×List TRun):=AL.grow [] (c.filterMap ctx_toldF)
theorem told_get(c:List TPart)(k:Int):AL.getZ (toldM c) k []=rawC c k:=by
 unfold toldM;rw[get_grow];show[]++_=_;rw[List.nil_append]
 induction c with
 | nil=>rfl
 | cons p r ih=>
  rw[rawC_cons,← ih,List.filterMap_cons]
  by_cases h0:0 < p.dev
  ·have e:ctx_toldF p=some (p.dev,p.runs):=by simp[ctx_toldF,h0]
   rw[e];simp only[List.filter_cons]
   by_cases h:p.dev=k
   ·subst h;simp[h0]
   ·simp[h]
  ·have e:ctx_toldF p=none:=by simp[ctx_toldF,h0]
   rw[e,if_neg (by rintro⟨h1,h2⟩;omega)];rfl
theorem tot_told(c:List TPart):((c.filterMap ctx_toldF).map fun x=>x.2.length).sum ≤ totC c:=by
 induction c with
 | nil=>simp
 | cons p r ih=>
  have e:totC (p::r)=p.runs.length+totC r:=by simp[totC]
  rw[List.filterMap_cons]
  by_cases h0:0 < p.dev
  ·have e2:ctx_toldF p=some (p.dev,p.runs):=by simp[ctx_toldF,h0]
   rw[e2];simp only[List.map_cons,List.sum_cons];omega
  ·have e2:ctx_toldF p=none:=by simp[ctx_toldF,h0]
   rw[e2];simp only;omega
def Sm(c:List TPart):Prop:=c.length ≤ 10000000000 ∧ totC c ≤ 10000000000
theorem told_eq(c:List TPart)(h:Sm c):ctx_told c=pure (toldM c):=by
 unfold ctx_told;rw[need_true]
 ·rfl
 ·have:=tot_told c;refine⟨by have:=h.1;omega,?_⟩;have:=h.2;omega
theorem Runs_eq(c:List TPart)(k:Int)(h:Sm c):ctx_Runs c k=pure (R.nrm (rawC c k)):=by
 unfold ctx_Runs;rw[told_eq c h,det_pure,pure_bind,told_get,R.norm_eq _ (by have:=rawC_len c k;have:=h.2;omega),det_pure,pure_bind]
theorem Has_eq(c:List TPart)(d:TDot)(h:Sm c):ctx_Has c d=pure (hasC c d.dev d.n):=by
 unfold ctx_Has;rw[cond_dec]
 by_cases h0:0 < d.dev
 ·rw[if_pos h0,Runs_eq c _ h,det_pure,pure_bind,R.has_eq _ _ (by have:=R.nrm_len (rawC c d.dev);have:=rawC_len c d.dev;have:=h.2;omega),det_pure,pure_bind,pure_bind,R.nrm_has]
  rfl
 ·rw[if_neg h0,pure_bind];show pure false=pure (R.hasR (rawC c d.dev) d.n);rw[rawC_bad h0];rfl
theorem run_le{c:List TPart}:∀ p∈c,p.runs.length ≤ totC c:=by
 induction c with
 | nil=>intro p hp;simp at hp
 | cons q r ih=>
  intro p hp;have e:totC (q::r)=q.runs.length+totC r:=by simp[totC]
  rcases List.mem_cons.1 hp with rfl | hp
  ·omega
  ·have:=ih p hp;omega
theorem join_nrm(u v:List TRun):R.setR (·||·) (R.nrm u) v=R.nrm (u++v):=R.nf_ext (R.setR_props _ rfl _ _).1 (R.nrm_nf _) fun n=>by rw[(R.setR_props _ rfl _ _).2.1,R.nrm_has,R.nrm_has,R.hasR_app]
theorem rRuns_eq(c:List TPart)(k:Int)(hk:0 ≤ k)(h:c.length ≤ 1000000000)(ht:totC c ≤ 1000000000):r09_Runs c k=pure (R.nrm (rawC c k)):=by
 unfold r09_Runs;have hpre:∀ i,(rawC (c.take i) k).length ≤ 1000000000:=fun i=>by
  have h1:=rawC_len (c.take i) k;have h2:totC (c.take i) ≤ totC c:=by
   conv=>rhs;rw[← List.take_append_drop i c]
   rw[totC_app];omega
  omega
 have:=loopL (body:=r09_Runs_l0 c k) c (fun i (t:List TRun)=>(t,(i:Int))) (fun t p=>if p.dev=k ∧ 0 < k then R.setR (·||·) t p.runs else t) (fun t=>pure t) (fun i t=>t=R.nrm (rawC (c.take i) k)) (fun i x t hx hi ht2=>by
  have h1:decide ((i:Int) < (c.length:Int))=true:=by simpa using hi
  have hxl:x.runs.length ≤ 1000000000:=by have:=run_le x (List.mem_of_getElem? hx);omega
  have htl:t.length ≤ 2000000000:=by have:=R.nrm_len (rawC (c.take i) k);have:=hpre i;rw[ht2];omega
  unfold r09_Runs_l0;simp only[h1,cond_true,idx_nat hx,pure_bind,wSucc (show i < 9223372036854775807 by omega),cond_dec];have hnext:(if x.dev=k ∧ 0 < k then R.setR (·||·) t x.runs else t)=R.nrm (rawC (c.take (i+1)) k):=by
   rw[List.take_add_one,hx,rawC_app,Option.toList,rawC_cons,rawC_nil,List.append_nil,ht2]
   split
   ·exact join_nrm _ _
   ·rw[List.append_nil]
  refine⟨?_,hnext⟩
  by_cases hd:x.dev=k
  ·by_cases h0:k=0
   ·have:¬ (x.dev=k ∧ 0 < k):=by omega
    rw[if_neg this,if_pos hd];simp[h0,pure_bind]
   ·rw[if_pos (show x.dev=k ∧ 0 < k from ⟨hd,by omega⟩),if_pos hd];simp only[h0,decide_false,Bool.not_false,pure_bind,cond_true];rw[R.rjoin_eq _ _ (by omega),det_pure,pure_bind,pure_bind]
  ·rw[if_neg (fun(q:x.dev=k ∧ 0 < k)=>hd q.1),if_neg hd]
   rfl) (fun t _=>by unfold r09_Runs_l0;simp[pure_bind]) [] (by rw[List.take_zero,rawC_nil,nrm_nil])
 rw[show(([]:List TRun),(0:Int))=([],((0:Nat):Int)) from rfl,this];have key:∀ (l:List TPart) (u:List TRun),l.foldl (fun t p=>if p.dev=k ∧ 0 < k then R.setR (·||·) t p.runs else t) (R.nrm u)=R.nrm (u++rawC l k):=by
  intro l
  induction l with
  | nil=>intro u;simp[rawC]
  | cons p r ih=>
   intro u;rw[List.foldl_cons,rawC_cons]
   by_cases hp:p.dev=k ∧ 0 < k
   ·rw[if_pos hp,if_pos hp,join_nrm,ih,List.append_assoc]
   ·rw[if_neg hp,if_neg hp,ih,List.nil_append]
 have h2:=key c [];rw[nrm_nil,List.nil_append] at h2;rw[h2];rfl
structure Ok(c:List TPart):Prop where
 dev:∀ p∈c,0 ≤ p.dev
 len:c.length ≤ 1000000000
 tot:totC c ≤ 1000000000
theorem Ok.sm{c:List TPart}(h:Ok c):Sm c:=⟨by have:=h.len;omega,by have:=h.tot;omega⟩
section
variable(a b:List TPart)(ha:Ok a)(hb:Ok b)
include ha hb
end
theorem has_pos{c:List TPart}{k n:Int}(h:hasC c k n=true):0 < k ∧ 1 ≤ n ∧ n ≤ 281474976710655:=by
 refine⟨Classical.byContradiction fun h0=>?_,R.hasR_range h⟩;unfold hasC at h;rw[rawC_bad h0] at h
 cases h
theorem rHas_eq(c:List TPart)(d:TDot)(h:Ok c):r09_Has c d=pure (hasC c d.dev d.n):=by
 unfold r09_Has;rw[V.r07_Good_eq,det_pure,pure_bind]
 by_cases hg:V.goodD d=true
 ·have h1:=V.goodD_iff.1 hg;rw[hg,cond_true,rRuns_eq c d.dev (by omega) h.len h.tot,det_pure,pure_bind,R.rhas_eq _ _ (by have:=R.nrm_len (rawC c d.dev);have:=rawC_len c d.dev;have:=h.tot;omega),det_pure,pure_bind,pure_bind,R.nrm_has]
  rfl
 ·have hg':V.goodD d=false:=by simpa using hg
  rw[hg',cond_false,pure_bind]
  cases hh:hasC c d.dev d.n with
  | false=>rfl
  | true=>obtain⟨h1,h2,h3⟩:=has_pos hh;exact absurd (V.goodD_iff.2 ⟨by omega,h2,h3⟩) hg
theorem rFew_eq(c:List TPart):r09_Few c=pure (decide (c.length ≤ 30)&&c.all fun p=>decide (p.runs.length ≤ 30)):=by
 unfold r09_Few
 by_cases h0:30 < c.length
 ·have:decide ((30:Int) < (c.length:Int))=true:=by simp;omega
  rw[this,cond_true];have:decide (c.length ≤ 30)=false:=by simp;omega
  rw[this];rfl
 ·have h1:decide ((30:Int) < (c.length:Int))=false:=by simp;omega
  rw[h1,cond_false];have:=loopAll (body:=r09_Few_l0 c) c (fun i=>(i:Int)) (fun i x=>decide (x.runs.length ≤ 30)) (.brk ()) (.ret false) (fun i x hx hi=>by
   have h2:decide ((i:Int) < (c.length:Int))=true:=by simpa using hi
   unfold r09_Few_l0;simp only[h2,cond_true,idx_nat hx,pure_bind,cond_dec,wSucc (show i < 9223372036854775807 by omega),decide_eq_true_eq]
   by_cases h3:x.runs.length ≤ 30
   ·rw[if_neg (by omega),if_pos h3]
   ·rw[if_pos (by omega),if_neg h3]) (by unfold r09_Few_l0;simp)
  rw[show(0:Int)=((0:Nat):Int) from rfl,this];have hiff:(c.zipIdx.all fun y=>decide (y.1.runs.length ≤ 30))=c.all fun p=>decide (p.runs.length ≤ 30):=by
   rw[Bool.eq_iff_iff,List.all_eq_true,List.all_eq_true]
   constructor
   ·intro h p hp;obtain⟨i,hi⟩:=List.mem_iff_getElem?.1 hp;exact h (p,i) (List.mem_zipIdx_iff_getElem?.2 hi)
   ·intro h y hy;exact h _ (List.mem_of_getElem? (List.mem_zipIdx_iff_getElem?.1 hy))
  rw[hiff];have h4:decide (c.length ≤ 30)=true:=by simp;omega
  rw[h4,Bool.true_and]
  cases c.all fun p=>decide (p.runs.length ≤ 30) <;> rfl
theorem few_tot{c:List TPart}(h:(decide (c.length ≤ 30)&&c.all fun p=>decide (p.runs.length ≤ 30))=true):c.length ≤ 30 ∧ totC c ≤ 900:=by
 rw[Bool.and_eq_true,decide_eq_true_eq,List.all_eq_true] at h;refine⟨h.1,?_⟩;have:∀ l:List TPart,(∀ p∈l,decide (p.runs.length ≤ 30)=true) → totC l ≤ l.length*30:=by
  intro l
  induction l with
  | nil=>intro _;simp[totC]
  | cons p r ih=>
   intro hl;have e:totC (p::r)=p.runs.length+totC r:=by simp[totC]
   have h1:=ih fun q hq=>hl q (by simp[hq])
   have h2:=hl p (by simp);simp only[decide_eq_true_eq] at h2;simp only[List.length_cons];omega
 have:=this c h.2;omega
theorem ok_few{c:List TPart}(o:∀ p∈c,0 ≤ p.dev)(h:c.length ≤ 30 ∧ totC c ≤ 900):Ok c:=⟨o,by omega,by omega⟩
end Go.Ep.M.C
namespace Go.Ep.M.N
open Go
def lenN(n:Nat):Nat:=if n=0 then 0 else lenN (n / 256)+1
def byteAt(n i:Nat):Int:=((n / 256 ^ i % 256:Nat):Int)
def be(n:Nat):Nat → List Int
 | 0=>[]
 | k+1=>byteAt n k::be n k
def encN(n:Nat):List Int:=(lenN n:Int)::be n (lenN n)
def encI(v:Int):List Int:=encN v.toNat
def By(l:List Int):Prop:=∀ x∈l,0 ≤ x ∧ x ≤ 255
theorem By.drop{l:List Int}(h:By l)(n:Nat):By (l.drop n):=fun x hx=>h x (List.mem_of_mem_drop hx)
theorem By.take{l:List Int}(h:By l)(n:Nat):By (l.take n):=fun x hx=>h x (List.mem_of_mem_take hx)
theorem By.app{a b:List Int}(ha:By a)(hb:By b):By (a++b):=fun x hx=>(List.mem_append.1 hx).elim (ha x) (hb x)
theorem By.nil : By []:=fun x hx=>by cases hx
def valB(l:List Int):Int:=l.foldl (fun v x=>v*256+x) 0
def rdN : List Int → Int×Nat×Int
 | []=>(0,0,2)
 | n::r=>if 8 < n ∨ (0 < n ∧ r.head?=some 0) then (0,0,4) else if (r.length:Int) < n then (0,0,2) else (valB (r.take n.toNat),n.toNat+1,0)
abbrev RS:=List Int×Int
structure Ok(s:RS):Prop where
 by_:By s.1
 len:s.1.length ≤ 1000000000
 nil:s.2≠0 → s.1=[]
def failS(e:Int)(s:RS):RS:=if s.2=0 ∧ e≠0 then ([],e) else s
def numS(s:RS):Int×RS:=if s.2≠0 then (0,s) else if (rdN s.1).2.2≠0 then (0,failS (rdN s.1).2.2 s) else ((rdN s.1).1,(s.1.drop (rdN s.1).2.1,0))
def uptoS(m:Int)(s:RS):Int×RS:=if m < (numS s).1 then (0,failS 4 (numS s).2) else numS s
def byteS(s:RS):Int×RS:=if s.2≠0 then (0,s) else match s.1 with | []=>(0,failS 2 s) | x::r=>(x,(r,0))
def textS(m:Int)(s:RS):ByteArray×RS:=
 if (numS s).2.2≠0 then (⟨#[]⟩,(numS s).2) else if max m 0 < (numS s).1 then (⟨#[]⟩,failS 3 (numS s).2) else if ((numS s).2.1.length:Int) < (numS s).1 then (⟨#[]⟩,failS 2 (numS s).2)
 else (strL ((numS s).2.1.take (numS s).1.toNat),((numS s).2.1.drop (numS s).1.toNat,0))
structure Sim(B:List Int)(a:Int)(s:RS):Prop where
 lo:0 ≤ a
 hi:a ≤ B.length
 eq:s.2=0 → s.1=B.drop a.toNat
structure OkB(B:List Int):Prop where
 by_:By B
 len:B.length ≤ 1000000000
theorem OkB.ok{B:List Int}(h:OkB B):Ok (B,0):=⟨h.by_,h.len,fun h=>absurd rfl h⟩
variable{B:List Int}{a:Int}{s:RS}
end Go.Ep.M.N

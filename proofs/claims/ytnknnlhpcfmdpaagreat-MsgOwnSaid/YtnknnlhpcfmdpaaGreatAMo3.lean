/- Texts that the walks and laws lean on, side by side. -/
import Derived.WalkSpells
import Derived.Test.YtnknnlhpcfmdpaaGreatAMo2
set_option linter.unusedVariables false
set_option linter.unusedSimpArgs false
namespace Go.Ep
open Go.RowKit
def OwnB(g:Ghost)(os:List (Nat×Ob))(b:Nat):Prop:=∃ id o n,look os id=some o ∧ g id=some (b,n)
structure ObsRd(w:World)(g:Ghost)(S:Nat → Prop)(os:List (Nat×Ob)):Prop where
 rd:∀ id o,look os id=some o → ObRd w g S id o
 inj:∀ i j oi oj b n m,look os i=some oi → look os j=some oj → g i=some (b,n) → g j=some (b,m) → i=j
 lt:∀ id o b n,look os id=some o → g id=some (b,n) → b < w.heap.size
def After(w:World)(g:Ghost)(S:Nat → Prop)(os:List (Nat×Ob))(g':Ghost)(os':List (Nat×Ob))(b:Nat):Prop:=(S b ∨ OwnB g os b ∨ w.heap.size ≤ b) ∧ ¬ OwnB g' os' b
structure ObPost(w:World)(g:Ghost)(S:Nat → Prop)(os:List (Nat×Ob))(pins:List Nat)(r:PV)(os':List (Nat×Ob))(w':World)(g':Ghost)(u:Value):Prop where
 eos:w'.os=w.os
 tape:w'.tape=w.tape
 output:w'.output=w.output
 grows:w.heap.size ≤ w'.heap.size
 keep:∀ k,k < w.heap.size → ¬ OwnB g os k → w'.heap[k]?=w.heap[k]?
 own:∀ b,OwnB g' os' b → OwnB g os b ∨ w.heap.size ≤ b
 pin:∀ id∈pins,g' id=g id
 res:Rd w' g' (After w g S os g' os') r u
 obs:ObsRd w' g' (After w g S os g' os') os'
def PObj{G:Type}(P:Program)(f:FuncId)(ps:List PV)(os:List (Nat×Ob))(pins:List Nat)(r:PV)(os':G → List (Nat×Ob)):Prop:=
 ∀ (w:World) (g:Ghost) (S:Nat → Prop) (vs:List Value),ps.length=vs.length → (∀ (i:Nat) (p:PV) (v:Value),ps[i]?=some p → vs[i]?=some v → Rd w g S p v) → ObsRd w g S os → (∀ b,S b → ¬ OwnB g os b) →
  Calls P f vs.toArray w (fun e w'=>∃ u g' gh,e=.returned u ∧ ObPost w g S os pins r (os' gh) w' g' u)
def ObjAt{G:Type}(P:Program)(f:FuncId)(ps:List PV)(os:List (Nat×Ob))(pins:List Nat)(r:PV)(os':G → List (Nat×Ob))(w:World)(S:Nat → Prop):Prop:=
 ∀ (g:Ghost) (vs:List Value),ps.length=vs.length → (∀ (i:Nat) (p:PV) (v:Value),ps[i]?=some p → vs[i]?=some v → Rd w g S p v) → ObsRd w g S os → (∀ b,S b → ¬ OwnB g os b) →
  Calls P f vs.toArray w (fun e w'=>∃ u g' gh,e=.returned u ∧ ObPost w g S os pins r (os' gh) w' g' u)
theorem PObj.at{G:Type}{P:Program}{f:FuncId}{ps:List PV}{os:List (Nat×Ob)}{pins:List Nat}{r:PV}{os':G → List (Nat×Ob)}(h:PObj P f ps os pins r os')(w:World)(S:Nat → Prop):ObjAt P f ps os pins r os' w S:=fun g vs=>h w g S vs
section
variable{ctx:Ctx}
inductive ResO (P:Program) (s:PState):ResultVar → PV → Prop
 | tmp {t:Nat} {p:PV} (h:s.at t=some p):ResO P s (.tmp t) p
 | agg {t T k id:Nat} {T0:TypeId} {cs:List PV} (ha:∀ w,(isAgg T).run P w=.ok true w) (hs:∀ w,(sizeOf T).run P w=.ok k w) (h:s.at t=some (.ref id 0)) (hl:look s.objs id=some (.cells T0 cs)) (hk:cs.length=k):ResO P s (.cell t T) (.agg cs)
 | cell {t T id:Nat} {T0:TypeId} {p:PV} (ha:∀ w,(isAgg T).run P w=.ok false w) (h:s.at t=some (.ref id 0)) (hl:look s.objs id=some (.cells T0 [p])):ResO P s (.cell t T) p
inductive ResLO (P:Program) (s:PState):List ResultVar → List PV → Prop
 | nil:ResLO P s [] []
 | cons {r:ResultVar} {p:PV} {rs:List ResultVar} {ps:List PV} (h:ResO P s r p) (t:ResLO P s rs ps):ResLO P s (r::rs) (p::ps)
def EndsO{G:Type}(P:Program)(ctx:Ctx)(fn:Func)(pl:List (Nat×Ob))(r:PV)(os':G → List (Nat×Ob)):PQ:=fun e s=>(e=.normal ∨ e=.ret) ∧ ∃ gh ps t,Sub ctx s t ∧ ResLO P t fn.results.toList ps ∧ tupOf ps=r ∧
 (∀ id o,look (os' gh) id=some o → look t.objs id=some o) ∧ ∀ id o,look pl id=some o → look t.objs id=some o
variable{P:Program}{s:PState}
theorem resO_real{g:Ghost}{a:Act}{w:World}(hg:RelG ctx g s a w){rv:ResultVar}{p:PV}(h:ResO P s rv p) :
  ∃ v,(resOne a.tmps rv).run P w=.ok v w ∧ Rd w g (Free ctx g s.objs) p v:=by
 cases h with
 | @tmp t _ h=>exact⟨_,rfl,hg.slots t _ h⟩
 | @agg t T k id T0 cs ha hs h hl hk=>
  have hr:=hg.slots t _ h
  generalize hv:a.tmps.getD t undef=v at hr
  cases hr with
  | ref _ _ blk n hgi=>
   cases hg.objs id _ hl with
   | cells _ _ blk' n' us h' hh hlen hr' h1=>
    rw[hgi] at h'
    cases h'
    refine⟨.agg us.toArray,?_,.agg cs us hlen hr' h1⟩;have:=run_loadAgg (P:=P) (us:=us) ha (by rw[← hlen,hk];exact hs) (w:=w) (b:=blk) (o:=0) (fun j u hu=>by rw[Nat.zero_add,cell_of_heap hh];exact hu);show(do loadVar T (← asAddr (a.tmps.getD t undef)):Sem Value).run P w=_;rw[hv];simp only[asAddr,Sem.run_bind,Sem.run_pure,Result.andThen_ok];exact this
 | @cell t T id T0 p ha h hl=>
  have hr:=hg.slots t _ h
  generalize hv:a.tmps.getD t undef=v at hr
  cases hr with
  | ref _ _ blk n hgi=>
   cases hg.objs id _ hl with
   | cells _ _ blk' n' us h' hh hlen hr' h1=>
    rw[hgi] at h'
    cases h'
    have hlt:0 < us.length:=by rw[← hlen];simp
    have hu:us[0]?=some us[0]:=List.getElem?_eq_getElem hlt;refine⟨us[0],?_,hr' 0 p _ rfl hu⟩;have:=run_loadOne (P:=P) ha (w:=w) (ad:=⟨blk,0,none⟩) (u:=us[0]) (by rw[cell_of_heap hh];exact hu);show(do loadVar T (← asAddr (a.tmps.getD t undef)):Sem Value).run P w=_;rw[hv];simp only[asAddr,Sem.run_bind,Sem.run_pure,Result.andThen_ok];exact this
theorem resLO_real{g:Ghost}{a:Act}{w:World}(hg:RelG ctx g s a w){rs:List ResultVar}{ps:List PV}(h:ResLO P s rs ps) :
  ∃ vs:List Value,(rs.mapM (resOne a.tmps)).run P w=.ok vs w ∧ ps.length=vs.length ∧
   ∀ (i:Nat) (p:PV) (v:Value),ps[i]?=some p → vs[i]?=some v → Rd w g (Free ctx g s.objs) p v:=by
 induction h with
 | nil=>exact⟨[],by simp,rfl,by simp⟩
 | cons h _ ih=>
  obtain⟨vs,h1,h2,h3⟩:=ih;obtain⟨v,hv1,hv2⟩:=resO_real hg h;refine⟨v::vs,?_,by simp[h2],?_⟩
  ·simp only[List.mapM_cons,Sem.run_bind,hv1,h1,Result.andThen_ok,Sem.run_pure]
  ·intro i p u hp hu
   cases i with
   | zero=>simp at hp hu;subst hp;subst hu;exact hv2
   | succ i=>simp at hp hu;exact h3 i p u hp hu
def pinL(pv:Nat → Option (Nat×Nat)):List Nat → List (Nat×Ob)
 | []=>[]
 | id::r=>(id+1000,.pin id (pv id))::pinL pv r
theorem pinL_mem{pv:Nat → Option (Nat×Nat)}{pins:List Nat}{id:Nat}{o:Ob}(h:look (pinL pv pins) id=some o):∃ t∈pins,id=t+1000 ∧ o=.pin t (pv t):=by
 induction pins with
 | nil=>simp[pinL,look] at h
 | cons t r ih=>
  simp only[pinL,look] at h
  split at h
  ·rename_i e;exact⟨t,by simp,e,by simpa using h.symm⟩
  ·obtain⟨t',h1,h2,h3⟩:=ih h;exact⟨t',by simp[h1],h2,h3⟩
theorem pinL_look{pv:Nat → Option (Nat×Nat)}{pins:List Nat}{t:Nat}(h:t∈pins):look (pinL pv pins) (t+1000)=some (.pin t (pv t)):=by
 induction pins with
 | nil=>cases h
 | cons q r ih=>
  simp only[pinL,look]
  by_cases e:t=q
  ·subst e;simp
  ·rw[if_neg (by omega)];exact ih ((List.mem_cons.1 h).resolve_left e)
theorem look_append(l l':List (Nat×Ob))(id:Nat):look (l++l') id=(look l id).or (look l' id):=by
 induction l with
 | nil=>simp[look]
 | cons x r ih=>
  obtain⟨k,o⟩:=x;simp only[List.cons_append,look]
  split
  ·rfl
  ·exact ih
def pinOK(ps:List PV)(os:List (Nat×Ob))(pins:List Nat):Bool:=
 pins.all fun t=>ps.all (fun p=>!p.has (t+1000))&&os.all (fun x=>x.1 != t+1000&&!x.2.has (t+1000))&&pins.all (fun t'=>t'+1000 != t)
theorem ObjAt.intro{G:Type}{w:World}{S:Nat → Prop}{f:FuncId}{fn:Func}{c:Code}{ps:List PV}{os:List (Nat×Ob)}{pins:List Nat}{r:PV}{os':G → List (Nat×Ob)}{n:Nat}{sl:List (Nat×PV)}(hf:P.funcs[f]?=some fn)(hb:fn.body=some c)(hn:fn.ntmps=n)(hsl:args 0 ps=sl)(hpn:Nat.ble ps.length n=true)(hpin:pinOK ps os pins=true)
  (body:∀ g:Ghost,(∀ b,S b → ¬ OwnB g os b) → PWc P ⟨w,fun b=>S b ∨ OwnB g os b,OwnB g os⟩ c (EndsO P ⟨w,fun b=>S b ∨ OwnB g os b,OwnB g os⟩ fn (pinL g pins) r os') ⟨n,sl,os++pinL g pins⟩):ObjAt P f ps os pins r os' w S:=by
 intro g vs hlen hreal hobs hdis
 let ctx:Ctx:=⟨w,fun b=>S b ∨ OwnB g os b,OwnB g os⟩
 let pv:Nat → Option (Nat×Nat):=g
 let g1:Ghost:=fun j=>if pins.any (fun t=>j==t+1000) then none else g j
 simp only[pinOK,List.all_eq_true,Bool.and_eq_true,Bool.not_eq_true',bne_iff_ne,ne_eq] at hpin;have g1pin:∀ t∈pins,g1 (t+1000)=none:=fun t ht=>by
  have:(pins.any fun t'=>t+1000==t'+1000)=true:=List.any_eq_true.2 ⟨t,ht,by simp⟩;simp only[g1,this,if_true]
 have g1ne:∀ j,(∀ t∈pins,j≠t+1000) → g1 j=g j:=fun j hj=>by
  have:(pins.any fun t'=>j==t'+1000)=false:=by
   rw[List.any_eq_false];intro t ht;simpa using hj t ht
  simp only[g1,this,Bool.false_eq_true,if_false]
 have g1p:∀ p∈ps,∀ j,p.has j=true → g1 j=g j:=fun p hp j hj=>g1ne j fun t ht e=>by
  have:=(hpin t ht).1.1 p hp;rw[← e,hj] at this
  cases this
 have hosk:∀ id o,look os id=some o → ∀ t∈pins,id≠t+1000:=fun id o ho t ht=>((hpin t ht).1.2 _ (look_mem ho)).1
 have g1k:∀ id o,look os id=some o → g1 id=g id:=fun id o ho=>g1ne id (hosk id o ho)
 have g1o:∀ id o,look os id=some o → ∀ j,o.has j=true → g1 j=g j:=fun id o ho j hj=>g1ne j fun t ht e=>by
  have:=((hpin t ht).1.2 _ (look_mem ho)).2;simp only at this;rw[← e,hj] at this
  cases this
 have hgp:∀ t∈pins,g t=pv t:=fun t _=>rfl
 have hlook:∀ id o,look (os++pinL pv pins) id=some o → look os id=some o ∨ ∃ t∈pins,id=t+1000 ∧ o=.pin t (pv t):=fun id o h=>by
  rw[look_append] at h
  cases hl:look os id with
  | none=>rw[hl,Option.none_or] at h;exact .inr (pinL_mem h)
  | some q=>rw[hl,Option.some_or] at h;exact .inl h
 have hfree:∀ b,S b → Free ctx g1 (os++pinL pv pins) b:=fun b hb=>⟨.inl (.inl hb),fun id o n ho hg=>by
  rcases hlook id o ho with h | ⟨t,ht,h,_⟩
  ·rw[g1k id o h] at hg;exact hdis b hb ⟨id,o,n,h,hg⟩
  ·rw[h,g1pin t ht] at hg;cases hg⟩
 have hst:Stays w w S:=⟨Nat.le_refl _,fun _ _ _=>rfl⟩
 have hpl:vs.length ≤ n:=by rw[← hlen];exact Nat.le_of_ble_eq_true hpn
 refine calls_of_wp hf hb ?_;subst hsl;have hrel:RelG ctx g1 ⟨n,args 0 ps,os++pinL pv pins⟩ { tmps:=vs.toArray++Array.replicate (fn.ntmps - vs.toArray.size) undef,defers:=[] } w:=by
  rw[hn];refine⟨rfl,by simp;omega,?_,?_,?_,?_,rfl,rfl,rfl,Nat.le_refl _,fun _ _ _=>rfl⟩
  ·intro i p hp;obtain⟨j,h1,h2⟩:=args_get (at_get hp);have e:i=j:=by omega
   subst e;have hi':i < vs.length:=by rw[← hlen];exact(List.getElem?_eq_some_iff.1 h2).1
   have hv:vs[i]?=some vs[i]:=List.getElem?_eq_getElem hi';have e:(vs.toArray++Array.replicate (n - vs.toArray.size) undef).getD i undef=vs[i]:=by
    simp[Array.getD_eq_getD_getElem?,Array.getElem?_append,hi']
   rw[e];exact(hreal i p _ h2 hv).keep (w':=w) (g':=g1) hst (fun b hb _=>hfree b hb) (fun j hj=>g1p p (List.mem_of_getElem? h2) j hj)
  ·intro id o ho;rcases hlook id o ho with h | ⟨t,ht,rfl,rfl⟩
   ·exact(hobs.rd id o h).keep hst (fun b hb _=>hfree b hb) (fun _ _ _=>rfl) (g1k id o h) (g1o id o h)
   ·refine .pin t _ (g1pin t ht) ?_;rw[g1ne t fun t' ht' e=>(hpin t ht).2 t' ht' e.symm]
  ·intro i j oi oj b n m hi hj hgi hgj;rcases hlook i oi hi with h | ⟨t,ht,rfl,_⟩
   ·rcases hlook j oj hj with h2 | ⟨t,ht,rfl,_⟩
    ·rw[g1k i oi h] at hgi;rw[g1k j oj h2] at hgj;exact hobs.inj i j oi oj b n m h h2 hgi hgj
    ·rw[g1pin t ht] at hgj;cases hgj
   ·rw[g1pin t ht] at hgi;cases hgi
  ·intro id o b n ho hg;rcases hlook id o ho with h | ⟨t,ht,rfl,_⟩
   ·rw[g1k id o h] at hg;exact⟨hobs.lt id o b n h hg,.inr ⟨id,o,n,h,hg⟩⟩
   ·rw[g1pin t ht] at hg;cases hg
 refine wp_mono (body g hdis _ w ⟨g1,hrel⟩) fun e a' w' ⟨s1,⟨he,gh,qs,t,hsub,hres,hq,hos,hpl'⟩,hr1⟩=>?_
 have main:a'.defers=[] ∧ ∃ v,(results fn a'.tmps).run P w'=.ok v w' ∧ (∃ u g' gh,Ending.returned v=.returned u ∧ ObPost w g S os pins r (os' gh) w' g' u):=by
  obtain⟨g2,hg⟩:=hsub a' w' hr1;obtain⟨us,h1,h2,h3⟩:=resLO_real hg hres;have hrun:(results fn a'.tmps).run P w'=.ok (if h:us.toArray.size=1 then us.toArray[0] else .tuple us.toArray) w':=by
   rw[results_eq,Array.mapM_eq_mapM_toList];simp only[Sem.run_bind,Sem.run_map,h1,Result.andThen_ok,Sem.run_pure]
  have hFA:∀ b,Free ctx g2 t.objs b → After w g S os g2 (os' gh) b:=fun b ⟨f1,f2⟩=>⟨by
   rcases f1 with(f1 | f1) | f1
   ·exact .inl f1
   ·exact .inr (.inl f1)
   ·exact .inr (.inr f1),fun⟨id,o,n,h4,h5⟩=>f2 id o n (hos id o h4) h5⟩
  have hst':Stays w' w' (Free ctx g2 t.objs):=⟨Nat.le_refl _,fun _ _ _=>rfl⟩
  refine⟨hg.defers,_,hrun,_,g2,gh,rfl,hg.os,hg.tape,hg.output,hg.grows,hg.keep,fun b ⟨id,o,n,h4,h5⟩=>?_,fun id hid=>?_,?_,⟨fun id o h4=>(hg.objs id o (hos id o h4)).keep hst' (fun b hb _=>hFA b hb) (fun _ _ _=>rfl) rfl (fun _ _=>rfl),fun i j oi oj b n m hi hj=>hg.inj i j oi oj b n m (hos i oi hi) (hos j oj hj),fun id o b n h4 h5=>(hg.own id o b n (hos id o h4) h5).1⟩⟩
  ·rcases(hg.own id o b n (hos id o h4) h5).2 with h6 | h6
   ·exact .inr h6
   ·exact .inl h6
  ·have h6:=hg.objs _ _ (hpl' _ _ (pinL_look (pv:=pv) hid))
   cases h6 with
   | pin _ _ _ ht=>rw[ht,hgp id hid]
  ·have hk:∀ {p:PV} {v:Value},Rd w' g2 (Free ctx g2 t.objs) p v → Rd w' g2 (After w g S os g2 (os' gh)) p v:=fun h=>h.keep hst' (fun b hb _=>hFA b hb) (fun _ _=>rfl)
   subst hq
   match qs,us,h2,h3 with
   | [p],[u],_,h3=>exact hk (h3 0 p u rfl rfl)
   | [],[],_,h3=>exact .tup [] [] rfl (by simp)
   | p::q::ps,u::v::us,h2,h3=>
    have hne:¬ (u::v::us).toArray.size=1:=by simp
    rw[dif_neg hne];exact .tup _ _ h2 fun i p u hp hu=>hk (h3 i p u hp hu)
 rcases he with rfl | rfl
 ·exact main
 ·exact main
theorem PObj.intro{G:Type}{f:FuncId}{fn:Func}{c:Code}{ps:List PV}{os:List (Nat×Ob)}{pins:List Nat}{r:PV}{os':G → List (Nat×Ob)}{n:Nat}{sl:List (Nat×PV)}(hf:P.funcs[f]?=some fn)(hb:fn.body=some c)(hn:fn.ntmps=n)(hsl:args 0 ps=sl)(hpn:Nat.ble ps.length n=true)(hpin:pinOK ps os pins=true)
  (body:∀ ctx:Ctx,(∀ b,ctx.K b → ctx.S b) → ∀ pv:Nat → Option (Nat×Nat),PWc P ctx c (EndsO P ctx fn (pinL pv pins) r os') ⟨n,sl,os++pinL pv pins⟩):PObj P f ps os pins r os':=
 fun w g S vs h1 h2 h3 h4=>ObjAt.intro hf hb hn hsl hpn hpin (fun g _=>body ⟨w,fun b=>S b ∨ OwnB g os b,OwnB g os⟩ (fun b h=>Or.inr h) g) g vs h1 h2 h3 h4
end
end Go.Ep
namespace Go.Ep
open Go.RowKit
def rn(ρ:List (Nat×Nat))(i:Nat):Nat:=match ρ with
 | []=>i
 | (a,b)::r=>bif Nat.beq a i then b else rn r i
mutual
def PV.ren(ρ:List (Nat×Nat)):PV → PV
 | .ref i o=>.ref (rn ρ i) o
 | .row i n=>.row (rn ρ i) n
 | .rp i a b c=>.rp (rn ρ i) a b c
 | .pc i a b c=>.pc (rn ρ i) a b c
 | .mp i=>.mp (rn ρ i)
 | .pa i o n=>.pa (rn ρ i) o n
 | .agg cs=>.agg (PV.renL ρ cs)
 | .tup cs=>.tup (PV.renL ρ cs)
 | p=>p
def PV.renL(ρ:List (Nat×Nat)):List PV → List PV
 | []=>[]
 | c::r=>c.ren ρ::PV.renL ρ r
end
def Ob.ren(ρ:List (Nat×Nat)):Ob → Ob
 | .cells T cs=>.cells T (PV.renL ρ cs)
 | .iterO mid bs ck L=>.iterO (rn ρ mid) bs ck L
 | .pin t x=>.pin (rn ρ t) x
 | .mapP ks m ov bs ck=>.mapP ks m (ov.map fun x=>(x.1,x.2.ren ρ)) bs ck
 | o=>o
theorem renL_map(ρ:List (Nat×Nat)):∀ cs:List PV,PV.renL ρ cs=cs.map (PV.ren ρ)
 | []=>by simp[PV.renL]
 | c::r=>by simp[PV.renL,renL_map ρ r]
section
variable{w:World}{g:Ghost}{S:Nat → Prop}{ρ:List (Nat×Nat)}
theorem Rd.ren{p:PV}{v:Value}(h:Rd w (fun i=>g (rn ρ i)) S p v):Rd w g S (p.ren ρ) v:=by
 induction h with
 | junk u=>exact .junk u
 | und=>exact .und
 | d h=>exact .d h
 | agg cs us hl h h1 ih=>
  rw[PV.ren,renL_map];refine .agg _ us (by simpa using hl) (fun i p u hp hu=>?_) h1;rw[List.getElem?_map] at hp
  cases hc:cs[i]? with
  | none=>rw[hc] at hp;cases hp
  | some q=>rw[hc] at hp;simp only[Option.map_some,Option.some.injEq] at hp;subst hp;exact ih i q u hc hu
 | tup cs us hl h ih=>
  rw[PV.ren,renL_map];refine .tup _ us (by simpa using hl) (fun i p u hp hu=>?_);rw[List.getElem?_map] at hp
  cases hc:cs[i]? with
  | none=>rw[hc] at hp;cases hp
  | some q=>rw[hc] at hp;simp only[Option.map_some,Option.some.injEq] at hp;subst hp;exact ih i q u hc hu
 | ref id off blk n h=>exact .ref _ off blk n h
 | row id n blk cap h=>exact .row _ n blk cap h
 | rowNil id h=>exact .rowNil _ h
 | rp id i off k blk cap h=>exact .rp _ i off k blk cap h
 | pc id i n k blk cap h hi=>exact .pc _ i n k blk cap h hi
 | pc0 id i k a c=>exact .pc0 _ i k a c
 | ep cs b off o c hS hb hc hr=>exact .ep cs b off o c hS hb hc hr
 | sq cs b off o c hS hb hz hc hr=>exact .sq cs b off o c hS hb hz hc hr
 | mp id blk n h=>exact .mp _ blk n h
 | pa id off n blk c h=>exact .pa _ off n blk c h
 | mpNil id h=>exact .mpNil _ h
 | md ks ag m bs ck b es hS hb hh hm=>exact .md ks ag m bs ck b es hS hb hh hm
 | mdNil ks ag=>exact .mdNil ks ag
 | clo f cs us hl h=>exact .clo f cs us hl h
theorem Rd.unren{q:PV}{v:Value}(h:Rd w g S q v):∀ {p:PV},q=p.ren ρ → Rd w (fun i=>g (rn ρ i)) S p v:=by
 induction h with
 | junk u=>intro p hp;cases p <;> simp only[PV.ren,reduceCtorEq] at hp;exact .junk u
 | und=>intro p hp;cases p <;> simp only[PV.ren,reduceCtorEq] at hp;exact .und
 | d h=>intro p hp;cases p <;> simp only[PV.ren,reduceCtorEq,PV.d.injEq] at hp;subst hp;exact .d h
 | agg cs us hl h h1 ih=>
  intro p hp
  cases p <;> simp only[PV.ren,reduceCtorEq,PV.agg.injEq] at hp
  rename_i cs'
  rw[renL_map] at hp;subst hp;exact .agg cs' us (by simpa using hl) (fun i p u hp hu=>ih i (p.ren ρ) u (by simp[hp]) hu rfl) h1
 | tup cs us hl h ih=>
  intro p hp
  cases p <;> simp only[PV.ren,reduceCtorEq,PV.tup.injEq] at hp
  rename_i cs'
  rw[renL_map] at hp;subst hp;exact .tup cs' us (by simpa using hl) (fun i p u hp hu=>ih i (p.ren ρ) u (by simp[hp]) hu rfl)
 | ref id off blk n h=>
  intro p hp
  cases p <;> simp only[PV.ren,reduceCtorEq,PV.ref.injEq] at hp
  obtain⟨rfl,rfl⟩:=hp;exact .ref _ _ blk n h
 | row id n blk cap h=>
  intro p hp
  cases p <;> simp only[PV.ren,reduceCtorEq,PV.row.injEq] at hp
  obtain⟨rfl,rfl⟩:=hp;exact .row _ _ blk cap h
 | rowNil id h=>
  intro p hp
  cases p <;> simp only[PV.ren,reduceCtorEq,PV.row.injEq] at hp
  obtain⟨rfl,rfl⟩:=hp;exact .rowNil _ h
 | rp id i off k blk cap h=>
  intro p hp
  cases p <;> simp only[PV.ren,reduceCtorEq,PV.rp.injEq] at hp
  obtain⟨rfl,rfl,rfl,rfl⟩:=hp;exact .rp _ _ _ _ blk cap h
 | pc id i n k blk cap h hi=>
  intro p hp
  cases p <;> simp only[PV.ren,reduceCtorEq,PV.pc.injEq] at hp
  obtain⟨rfl,rfl,rfl,rfl⟩:=hp;exact .pc _ _ _ _ blk cap h hi
 | pc0 id i k a c=>
  intro p hp
  cases p <;> simp only[PV.ren,reduceCtorEq,PV.pc.injEq] at hp
  obtain⟨rfl,rfl,rfl,rfl⟩:=hp;exact .pc0 _ _ _ a c
 | ep cs b off o c hS hb hc hr=>
  intro p hp
  cases p <;> simp only[PV.ren,reduceCtorEq,PV.ep.injEq] at hp
  obtain⟨rfl,rfl⟩:=hp;exact .ep _ b off _ c hS hb hc hr
 | sq cs b off o c hS hb hz hc hr=>
  intro p hp
  cases p <;> simp only[PV.ren,reduceCtorEq,PV.sq.injEq] at hp
  obtain⟨rfl,rfl⟩:=hp;exact .sq _ b off _ c hS hb hz hc hr
 | mp id blk n h=>
  intro p hp
  cases p <;> simp only[PV.ren,reduceCtorEq,PV.mp.injEq] at hp
  subst hp;exact .mp _ blk n h
 | pa id off n blk c h=>
  intro p hp
  cases p <;> simp only[PV.ren,reduceCtorEq,PV.pa.injEq] at hp
  obtain⟨rfl,rfl,rfl⟩:=hp;exact .pa _ _ _ blk c h
 | mpNil id h=>
  intro p hp
  cases p <;> simp only[PV.ren,reduceCtorEq,PV.mp.injEq] at hp
  subst hp;exact .mpNil _ h
 | md ks ag m bs ck b es hS hb hh hm=>
  intro p hp
  cases p <;> simp only[PV.ren,reduceCtorEq,PV.md.injEq] at hp
  obtain⟨rfl,rfl,rfl⟩:=hp;exact .md _ _ _ bs ck b es hS hb hh hm
 | mdNil ks ag=>
  intro p hp
  cases p <;> simp only[PV.ren,reduceCtorEq,PV.md.injEq] at hp
  obtain⟨rfl,rfl,rfl⟩:=hp;exact .mdNil _ _
 | clo f cs us hl h=>
  intro p hp
  cases p <;> simp only[PV.ren,reduceCtorEq,PV.clo.injEq] at hp
  obtain⟨rfl,rfl⟩:=hp;exact .clo _ _ us hl h
theorem ObRd.ren{id:Nat}{o:Ob}(h:ObRd w (fun i=>g (rn ρ i)) S id o):ObRd w g S (rn ρ id) (o.ren ρ):=by
 cases h with
 | cells T cs blk n us h hh hl hr h1=>
  rw[Ob.ren,renL_map];refine .cells T _ blk n us h hh (by simpa using hl) (fun i p u hp hu=>?_) h1;rw[List.getElem?_map] at hp
  cases hc:cs[i]? with
  | none=>rw[hc] at hp;cases hp
  | some q=>rw[hc] at hp;simp only[Option.map_some,Option.some.injEq] at hp;subst hp;exact(hr i q u hc hu).ren
 | rowNil T k h=>exact .rowNil T k h
 | row T k l blk cap cur h hh hlc hcap hcs hkk hr=>exact .row T k l blk cap cur h hh hlc hcap hcs hkk hr
 | map ks ag m bs ck blk n es h hh hm=>exact .map ks ag m bs ck blk n es h hh hm
 | mapNil ks ag ck h=>exact .mapNil ks ag ck h
 | mapN ks ag m bs ck blk n es h hh hm=>exact .mapN ks ag m bs ck blk n es h hh hm
 | mapHNil ks ag h=>exact .mapHNil ks ag h
 | mapH ks ag m bs ck blk n es h hh hm=>exact .mapH ks ag m bs ck blk n es h hh hm
 | iterO mid bs ck L blk n b n' h hh hm=>exact .iterO _ bs ck L blk n b n' h hh hm
 | iterON mid ck blk n h hh hm=>exact .iterON _ ck blk n h hh hm
 | iterD ks ag m bs ck L blk n b es h hh hs hb hb2 hm=>exact .iterD ks ag m bs ck L blk n b es h hh hs hb hb2 hm
 | iterN ks ag blk n h hh=>exact .iterN ks ag blk n h hh
 | pin tgt x h ht=>exact .pin _ x h ht
 | mapP ks m ov bs ck blk n es h hh hsz hst hbl hnd hent hov=>
  rw[Ob.ren];refine .mapP ks m _ bs ck blk n es h hh hsz hst hbl hnd (fun i ns u hi=>?_) fun j p hj=>?_
  ·obtain⟨e,h1,h2,h3,h4,h5⟩:=hent i ns u hi;refine⟨e,h1,h2,h3,h4,fun hne=>h5 fun p hp=>?_⟩;exact hne (p.ren ρ) (by rw[hp];rfl)
  ·cases ov with
   | none=>cases hj
   | some x=>
    obtain⟨j',p'⟩:=x;simp only[Option.map_some,Option.some.injEq,Prod.mk.injEq] at hj;obtain⟨rfl,rfl⟩:=hj;obtain⟨e,h1,h2⟩:=hov _ _ rfl;exact⟨e,h1,h2.ren⟩
theorem ObRd.unren{j:Nat}{q:Ob}(h:ObRd w g S j q):∀ {id:Nat} {o:Ob},j=rn ρ id → q=o.ren ρ → ObRd w (fun i=>g (rn ρ i)) S id o:=by
 intro id o hj hq;subst hj
 cases h with
 | cells T cs blk n us h hh hl hr h1=>
  cases o <;> simp only[Ob.ren,reduceCtorEq,Ob.cells.injEq] at hq
  obtain⟨rfl,rfl⟩:=hq;rw[renL_map] at hl hr;exact .cells _ _ blk n us h hh (by simpa using hl) (fun i p u hp hu=>(hr i (p.ren ρ) u (by simp[hp]) hu).unren rfl) h1
 | rowNil T k h=>
  cases o <;> simp only[Ob.ren,reduceCtorEq,Ob.row.injEq] at hq
  obtain⟨rfl,rfl,rfl⟩:=hq;exact .rowNil _ _ h
 | row T k l blk cap cur h hh hlc hcap hcs hkk hr=>
  cases o <;> simp only[Ob.ren,reduceCtorEq,Ob.row.injEq] at hq
  obtain⟨rfl,rfl,rfl⟩:=hq;exact .row _ _ _ blk cap cur h hh hlc hcap hcs hkk hr
 | map ks ag m bs ck blk n es h hh hm=>
  cases o <;> simp only[Ob.ren,reduceCtorEq,Ob.map.injEq] at hq
  obtain⟨rfl,rfl,rfl,rfl,rfl⟩:=hq;exact .map _ _ _ _ _ blk n es h hh hm
 | mapNil ks ag ck h=>
  cases o <;> simp only[Ob.ren,reduceCtorEq,Ob.mapN.injEq] at hq
  obtain⟨rfl,rfl,rfl,rfl,rfl,rfl⟩:=hq;exact .mapNil _ _ _ h
 | mapN ks ag m bs ck blk n es h hh hm=>
  cases o <;> simp only[Ob.ren,reduceCtorEq,Ob.mapN.injEq] at hq
  obtain⟨rfl,rfl,rfl,rfl,rfl,rfl⟩:=hq;exact .mapN _ _ _ _ _ blk n es h hh hm
 | mapHNil ks ag h=>
  cases o <;> simp only[Ob.ren,reduceCtorEq,Ob.mapH.injEq] at hq
  obtain⟨rfl,rfl,rfl,rfl⟩:=hq;exact .mapHNil _ _ h
 | mapH ks ag m bs ck blk n es h hh hm=>
  cases o <;> simp only[Ob.ren,reduceCtorEq,Ob.mapH.injEq] at hq
  obtain⟨rfl,rfl,rfl,rfl⟩:=hq;exact .mapH _ _ _ _ _ blk n es h hh hm
 | iterO mid bs ck L blk n b n' h hh hm=>
  cases o <;> simp only[Ob.ren,reduceCtorEq,Ob.iterO.injEq] at hq
  obtain⟨rfl,rfl,rfl,rfl⟩:=hq;exact .iterO _ _ _ _ blk n b n' h hh hm
 | iterON mid ck blk n h hh hm=>
  cases o <;> simp only[Ob.ren,reduceCtorEq,Ob.iterO.injEq] at hq
  obtain⟨rfl,rfl,rfl,rfl⟩:=hq;exact .iterON _ _ blk n h hh hm
 | iterD ks ag m bs ck L blk n b es h hh hs hb hb2 hm=>
  cases o <;> simp only[Ob.ren,reduceCtorEq,Ob.iterD.injEq] at hq
  obtain⟨rfl,rfl,rfl,rfl,rfl,rfl⟩:=hq;exact .iterD _ _ _ _ _ _ blk n b es h hh hs hb hb2 hm
 | iterN ks ag blk n h hh=>
  cases o <;> simp only[Ob.ren,reduceCtorEq,Ob.iterD.injEq] at hq
  obtain⟨rfl,rfl,rfl,rfl,rfl,rfl⟩:=hq;exact .iterN _ _ blk n h hh
 | pin tgt x h ht=>
  cases o <;> simp only[Ob.ren,reduceCtorEq,Ob.pin.injEq] at hq
  obtain⟨rfl,rfl⟩:=hq;exact .pin _ _ h ht
 | mapP ks m ov bs ck blk n es h hh hsz hst hbl hnd hent hov=>
  cases o <;> simp only[Ob.ren,reduceCtorEq,Ob.mapP.injEq] at hq
  rename_i ov' _ _
  obtain⟨rfl,rfl,rfl,rfl,rfl⟩:=hq;refine .mapP _ _ _ _ _ blk n es h hh hsz hst hbl hnd (fun i ns u hi=>?_) fun j p hj=>?_
  ·obtain⟨e,h1,h2,h3,h4,h5⟩:=hent i ns u hi;refine⟨e,h1,h2,h3,h4,fun hne=>h5 fun p hp=>?_⟩
   cases ov' with
   | none=>cases hp
   | some x=>
    simp only[Option.map_some,Option.some.injEq,Prod.mk.injEq] at hp;exact hne x.2 (by rw[← hp.1])
  ·subst hj;obtain⟨e,h1,h2⟩:=hov j (p.ren ρ) rfl;exact⟨e,h1,h2.unren rfl⟩
end
end Go.Ep
namespace Go.Ep
open Go.RowKit
def PState.callO(s:PState)(ρ:List (Nat×Nat))(js:List Nat)(os os':List (Nat×Ob)):PState:=
 { n:=s.n,sl:=(s.junks js).sl,objs:=os'.foldr (fun x l=>putO (rn ρ x.1) (x.2.ren ρ) l) (os.foldr (fun x l=>delO (rn ρ x.1) l) s.objs) }
inductive AllOb (s:PState) (ρ:List (Nat×Nat)):List (Nat×Ob) → Prop
 | nil:AllOb s ρ []
 | cons {id:Nat} {o:Ob} {r:List (Nat×Ob)} (h:look s.objs (rn ρ id)=some (o.ren ρ)) (t:AllOb s ρ r):AllOb s ρ ((id,o)::r)
theorem AllOb.get{s:PState}{ρ:List (Nat×Nat)}{os:List (Nat×Ob)}(h:AllOb s ρ os):∀ id o,look os id=some o → look s.objs (rn ρ id)=some (o.ren ρ):=by
 induction h with
 | nil=>intro id o h;simp[look] at h
 | cons h _ ih=>
  intro id o hl;simp only[look] at hl
  split at hl
  ·rename_i e;subst e;cases hl;exact h
  ·exact ih id o hl
def callOK(s:PState)(ρ:List (Nat×Nat))(js okeys pins ks:List Nat):Bool:=
 ((okeys++ks).all fun i=>(okeys++ks).all fun j=>Nat.beq i j||!Nat.beq (rn ρ i) (rn ρ j))&&ks.all (fun i=>inL okeys i||s.fresh (rn ρ i)) &&
 ks.all fun i=>inL pins i||(chkS (rn ρ i) (s.junks js).sl (s.junks js).sl&&s.objs.all fun x=>!x.2.has (rn ρ i)||inL (okeys.map (rn ρ)) x.1)
theorem lookR{ρ:List (Nat×Nat)}{acc:List (Nat×Ob)}{j:Nat}{o:Ob}:∀ {l:List (Nat×Ob)},look (l.foldr (fun x acc=>putO (rn ρ x.1) (x.2.ren ρ) acc) acc) j=some o → (∃ i o1,look l i=some o1 ∧ j=rn ρ i ∧ o=o1.ren ρ) ∨ ((∀ i∈l.map (·.1),rn ρ i≠j) ∧ look acc j=some o)
 | [],h=>.inr ⟨by simp,h⟩
 | (k,q)::r,h=>by
  rw[List.foldr_cons,look_putO] at h
  by_cases e:j=rn ρ k
  ·rw[if_pos e] at h;exact .inl ⟨k,q,by simp[look],e,by simpa using h.symm⟩
  ·rw[if_neg e] at h;rcases lookR h with⟨i,o1,h1,h2,h3⟩ | ⟨h1,h2⟩
   ·refine .inl ⟨i,o1,?_,h2,h3⟩;simp only[look];rw[if_neg (fun e2=>e (by rw[h2,e2]))];exact h1
   ·refine .inr ⟨fun i hi=>?_,h2⟩;simp only[List.map_cons,List.mem_cons] at hi;rcases hi with rfl | hi
    ·exact fun e2=>e e2.symm
    ·exact h1 i hi
theorem lookD{ρ:List (Nat×Nat)}{acc:List (Nat×Ob)}{j:Nat}{o:Ob}:∀ {l:List (Nat×Ob)},look (l.foldr (fun x acc=>delO (rn ρ x.1) acc) acc) j=some o → (∀ i∈l.map (·.1),rn ρ i≠j) ∧ look acc j=some o
 | [],h=>⟨by simp,h⟩
 | (k,q)::r,h=>by
  rw[List.foldr_cons,look_delO] at h
  by_cases e:j=rn ρ k
  ·rw[if_pos e] at h;cases h
  ·rw[if_neg e] at h;obtain⟨h1,h2⟩:=lookD h;refine⟨fun i hi=>?_,h2⟩;simp only[List.map_cons,List.mem_cons] at hi;rcases hi with rfl | hi
   ·exact fun e2=>e e2.symm
   ·exact h1 i hi
theorem look_key{l:List (Nat×Ob)}{i:Nat}{o:Ob}(h:look l i=some o):i∈l.map (·.1):=List.mem_map.2 ⟨(i,o),look_mem h,rfl⟩
section
variable{P:Program}{ctx:Ctx}{s:PState}
theorem callObj_core{G:Type}{f:FuncId}{ps qs:List PV}{os:List (Nat×Ob)}{pins:List Nat}{r:PV}{os':G → List (Nat×Ob)}(ρ:List (Nat×Nat))(js ks:List Nat)(hK:∀ b,ctx.K b → ctx.S b)(hq:qs.map PV.nilD=ps.map (PV.ren ρ))(hos:AllOb s ρ os)
  (hks:∀ gh,(os' gh).map (·.1)=ks) (hcl:∀ gh,(os' gh).all (fun x=>x.2.named ks)=true) (hr:r.named ks=true) (hok:callOK s ρ js (os.map (·.1)) pins ks=true) {g:Ghost} {a:Act} {w:World} (hg:RelG ctx g s a w) {vs:List Value} (hlen:qs.length=vs.length)
  (hreal:∀ (i:Nat) (q:PV) (v:Value),qs[i]?=some q → vs[i]?=some v → Rd w g (Free ctx g s.objs) q v) (dst:Option Nat) (hc:ObjAt P f ps os pins r os' w (Free ctx g s.objs)) :
  Calls P f vs.toArray w (fun e w'=>∃ u gh,e=.returned u ∧ Rel ctx ((s.callO ρ js os (os' gh)).putD dst (r.ren ρ)) (a.put dst u) w'):=by
 let g0:Ghost:=fun i=>g (rn ρ i)
 have hlo:=hos.get;simp only[callOK,Bool.and_eq_true,List.all_eq_true,Bool.or_eq_true,Bool.not_eq_true'] at hok;obtain⟨⟨hinj0,hfresh⟩,hnm⟩:=hok;have hinj:∀ i j,i∈os.map (·.1)++ks → j∈os.map (·.1)++ks → rn ρ i=rn ρ j → i=j:=fun i j hi hj e=>by
  rcases hinj0 i hi j hj with h | h
  ·exact Nat.eq_of_beq_eq_true h
  ·rw[e,Nat.beq_refl] at h;cases h
 have hdis:∀ b,Free ctx g s.objs b → ¬ OwnB g0 os b:=fun b hb ⟨id,o,n,h1,h2⟩=>hb.2 _ _ n (hlo id o h1) h2
 have hobs:ObsRd w g0 (Free ctx g s.objs) os:=⟨fun id o h=>(hg.objs _ _ (hlo id o h)).unren rfl rfl,
  fun i j oi oj b n m hi hj hgi hgj=>hinj i j (List.mem_append_left _ (look_key hi)) (List.mem_append_left _ (look_key hj)) (hg.inj _ _ _ _ b n m (hlo i oi hi) (hlo j oj hj) hgi hgj),
  fun id o b n h h2=>(hg.own _ _ b n (hlo id o h) h2).1⟩
 have hpl:ps.length=qs.length:=by have:=congrArg List.length hq;simpa using this.symm
 refine(hc g0 vs (by omega) (fun i p v hp hv=>?_) hobs hdis).mono fun e w' ⟨u,g',gh,he,hpost⟩=>⟨u,gh,he,?_⟩
 ·cases hqi:qs[i]? with
  | none=>have:=List.getElem?_eq_none_iff.1 hqi;have:=(List.getElem?_eq_some_iff.1 hp).1;omega
  | some q=>
   have h1:(qs.map PV.nilD)[i]?=(ps.map (PV.ren ρ))[i]?:=by rw[hq]
   rw[List.getElem?_map,List.getElem?_map,hqi,hp] at h1;simp only[Option.map_some,Option.some.injEq] at h1;exact(hreal i q v hqi hv).nilD.unren h1
 have hks':=hks gh;have hcl':=hcl gh
 generalize os' gh=os1 at hpost hks' hcl' ⊢
 let G':Ghost:=fun j=>match ks.find? (fun i=>Nat.beq (rn ρ i) j) with | some i=>g' i | none=>g j
 have hG1:∀ i∈ks,G' (rn ρ i)=g' i:=fun i hi=>by
  show(match ks.find? (fun k=>Nat.beq (rn ρ k) (rn ρ i)) with | some i=>g' i | none=>g (rn ρ i))=g' i
  cases hf:ks.find? (fun k=>Nat.beq (rn ρ k) (rn ρ i)) with
  | none=>have:=List.find?_eq_none.1 hf i hi;simp at this
  | some k=>
   have h1:=List.find?_some hf;have h2:=List.mem_of_find?_eq_some hf;rw[hinj k i (List.mem_append_right _ h2) (List.mem_append_right _ hi) (Nat.eq_of_beq_eq_true h1)]
 have hG2:∀ j,(∀ i∈ks,rn ρ i≠j) → G' j=g j:=fun j hj=>by
  show(match ks.find? (fun k=>Nat.beq (rn ρ k) j) with | some i=>g' i | none=>g j)=g j
  cases hf:ks.find? (fun k=>Nat.beq (rn ρ k) j) with
  | none=>rfl
  | some k=>exact absurd (Nat.eq_of_beq_eq_true (by simpa using List.find?_some hf)) (hj k (List.mem_of_find?_eq_some hf))
 have hlookN:∀ j o,look (s.callO ρ js os os1).objs j=some o → (∃ i o1,look os1 i=some o1 ∧ j=rn ρ i ∧ o=o1.ren ρ ∧ i∈ks) ∨ ((∀ i∈ks,rn ρ i≠j) ∧ (∀ i∈os.map (·.1),rn ρ i≠j) ∧ look s.objs j=some o):=fun j o h=>by
  rcases lookR h with⟨i,o1,h1,h2,h3⟩ | ⟨h1,h2⟩
  ·exact .inl ⟨i,o1,h1,h2,h3,hks'▸look_key h1⟩
  ·obtain⟨h3,h4⟩:=lookD h2;exact .inr ⟨fun i hi=>h1 i (hks'▸hi),h3,h4⟩
 have freeS:∀ b,Free ctx g s.objs b → b < w.heap.size → Free ctx G' (s.callO ρ js os os1).objs b:=fun b hb hlt=>⟨hb.1,fun j o n hj hgj=>by
  rcases hlookN j o hj with⟨i,o1,h1,h2,_,hik⟩ | ⟨h1,_,h3⟩
  ·rw[h2,hG1 i hik] at hgj;rcases hpost.own b ⟨i,o1,n,h1,hgj⟩ with h | h
   ·exact hdis b hb h
   ·omega
  ·rw[hG2 j h1] at hgj;exact hb.2 j o n h3 hgj⟩
 have freeA:∀ b,After w g0 (Free ctx g s.objs) os g' os1 b → Free ctx G' (s.callO ρ js os os1).objs b:=fun b ⟨h1,h2⟩=>⟨by
  rcases h1 with h1 | ⟨id,o,n,h1,h3⟩ | h1
  ·exact h1.1
  ·rcases(hg.own _ _ b n (hlo id o h1) h3).2 with h4 | h4
   ·exact .inr h4
   ·exact .inl (hK b h4)
  ·exact .inr (Nat.le_trans hg.grows h1),fun j o n hj hgj=>by
  rcases hlookN j o hj with⟨i,o1,h3,h4,_,hik⟩ | ⟨h3,h4,h5⟩
  ·rw[h4,hG1 i hik] at hgj;exact h2 ⟨i,o1,n,h3,hgj⟩
  ·rw[hG2 j h3] at hgj;rcases h1 with h1 | ⟨id,o',n',h1,h6⟩ | h1
   ·exact h1.2 j o n h5 hgj
   ·exact h4 id (look_key h1) (hg.inj j (rn ρ id) o _ b n n' h5 (hlo id o' h1) hgj h6).symm
   ·have:=(hg.own j o b n h5 hgj).1;omega⟩
 have hst:Stays w w' (Free ctx g s.objs):=⟨hpost.grows,fun b hb hlt=>hpost.keep b hlt (hdis b hb)⟩
 -- what is named elsewhere keeps its ghost
 have hslot:∀ i p,(s.junks js).at i=some p → ∀ j,p.has j=true → G' j=g j:=fun i p hp j hj=>by
  by_cases hex:∃ k∈ks,rn ρ k=j
  ·obtain⟨k,hk,rfl⟩:=hex;rw[hG1 k hk];rcases hnm k hk with h | ⟨h,_⟩
   ·exact hpost.pin k (inL_iff.1 h)
   ·rw[chkS_at (s:=s.junks js) h hp] at hj;cases hj
  ·exact hG2 j fun k hk e=>hex ⟨k,hk,e⟩
 have hother:∀ j o,look s.objs j=some o → (∀ i∈os.map (·.1),rn ρ i≠j) → ∀ jj,o.has jj=true → G' jj=g jj:=fun j o hj hno jj hjj=>by
  by_cases hex:∃ k∈ks,rn ρ k=jj
  ·obtain⟨k,hk,rfl⟩:=hex;rw[hG1 k hk];rcases hnm k hk with h | ⟨_,h⟩
   ·exact hpost.pin k (inL_iff.1 h)
   ·rcases h _ (look_mem hj) with h2 | h2
    ·rw[hjj] at h2;cases h2
    ·obtain⟨i,hi,he⟩:=List.mem_map.1 (inL_iff.1 h2);exact absurd he (hno i hi)
  ·exact hG2 jj fun k hk e=>hex ⟨k,hk,e⟩
 have hnown:∀ j o b n,look s.objs j=some o → (∀ i∈os.map (·.1),rn ρ i≠j) → g j=some (b,n) → ¬ OwnB g0 os b:=fun j o b n hj hno hgj ⟨id,o',n',h1,h2⟩=>
  hno id (look_key h1) (hg.inj j (rn ρ id) o _ b n n' hj (hlo id o' h1) hgj h2).symm
 have main:RelG ctx G' (s.callO ρ js os os1) a w':=by
  refine⟨hg.defers,hg.size,fun i p hp=>?_,fun j o hj=>?_,fun i j oi oj b n m hi hj hgi hgj=>?_,fun j o b n hj hgj=>?_,hpost.eos.trans hg.os,hpost.tape.trans hg.tape,hpost.output.trans hg.output,Nat.le_trans hg.grows hpost.grows,fun k hk hkK=>?_⟩
  ·have hp':(s.junks js).at i=some p:=by
    rw[at_eq,junks_n];rw[at_eq] at hp;exact hp
   have h:=(hg.junks js).slots i p hp';rw[junks_objs] at h;exact h.keep hst freeS (hslot i p hp')
  ·rcases hlookN j o hj with⟨i,o1,h1,rfl,rfl,hik⟩ | ⟨h1,h2,h3⟩
   ·refine ObRd.ren ?_;have hst':Stays w' w' (After w g0 (Free ctx g s.objs) os g' os1):=⟨Nat.le_refl _,fun _ _ _=>rfl⟩
    have hn:=(List.all_eq_true.1 hcl') _ (look_mem h1);exact(hpost.obs.rd i o1 h1).keep hst' (fun b hb _=>freeA b hb) (fun _ _ _=>rfl) (hG1 i hik) (fun jj hjj=>hG1 jj (Ob.named_has hn hjj))
   ·exact(hg.objs j o h3).keep hst freeS (fun b n hgj=>hpost.keep b (hg.own j o b n h3 hgj).1 (hnown j o b n h3 h2 hgj)) (hG2 j h1) (hother j o h3 h2)
  ·rcases hlookN i oi hi with⟨k,o1,h1,rfl,_,hik⟩ | ⟨h1,h2,h3⟩
   ·rw[hG1 k hik] at hgi;rcases hlookN j oj hj with⟨k2,o2,h4,rfl,_,hik2⟩ | ⟨h4,h5,h6⟩
    ·rw[hG1 k2 hik2] at hgj;rw[hpost.obs.inj k k2 o1 o2 b n m h1 h4 hgi hgj]
    ·rw[hG2 j h4] at hgj;exfalso;rcases hpost.own b ⟨k,o1,n,h1,hgi⟩ with h | h
     ·exact hnown j oj b m h6 h5 hgj h
     ·have:=(hg.own j oj b m h6 hgj).1;omega
   ·rw[hG2 i h1] at hgi;rcases hlookN j oj hj with⟨k2,o2,h4,rfl,_,hik2⟩ | ⟨h4,h5,h6⟩
    ·rw[hG1 k2 hik2] at hgj;exfalso;rcases hpost.own b ⟨k2,o2,m,h4,hgj⟩ with h | h
     ·exact hnown i oi b n h3 h2 hgi h
     ·have:=(hg.own i oi b n h3 hgi).1;omega
    ·rw[hG2 j h4] at hgj;exact hg.inj i j oi oj b n m h3 h6 hgi hgj
  ·rcases hlookN j o hj with⟨k,o1,h1,rfl,_,hik⟩ | ⟨h1,h2,h3⟩
   ·rw[hG1 k hik] at hgj;refine⟨hpost.obs.lt k o1 b n h1 hgj,?_⟩;rcases hpost.own b ⟨k,o1,n,h1,hgj⟩ with⟨id,o',n',h4,h5⟩ | h
    ·exact(hg.own _ _ b n' (hlo id o' h4) h5).2
    ·exact .inl (Nat.le_trans hg.grows h)
   ·rw[hG2 j h1] at hgj;obtain⟨h4,h5⟩:=hg.own j o b n h3 hgj;exact⟨Nat.lt_of_lt_of_le h4 hpost.grows,h5⟩
  ·refine(hpost.keep k (Nat.lt_of_lt_of_le hk hg.grows) fun⟨id,o,n,h1,h2⟩=>?_).trans (hg.keep k hk hkK);rcases(hg.own _ _ k n (hlo id o h1) h2).2 with h | h
   ·omega
   ·exact hkK h
 refine⟨G',main.put dst ?_⟩;have hst':Stays w' w' (After w g0 (Free ctx g s.objs) os g' os1):=⟨Nat.le_refl _,fun _ _ _=>rfl⟩
 exact(hpost.res.keep (w':=w') (g':=fun i=>G' (rn ρ i)) hst' (fun b hb _=>freeA b hb) (fun jj hjj=>hG1 jj (PV.named_has hr hjj))).ren
end
end Go.Ep
namespace Go.Ep
open Go.RowKit
section
variable{P:Program}{ctx:Ctx}{Q:PQ}{s:PState}
variable{dst:Option Tmp}{ty:TypeId}{pos:String}{after:Array Edge}{gd:Option (Nat×Bool)}
theorem evs_rd{xs:List Operand}{ps:List PV}(hps:s.evs xs=some ps){a:Act}{w:World}{g:Ghost}(hg:RelG ctx g s a w) :
  ps.length=(xs.map a.eval).length ∧ ∀ (i:Nat) (p:PV) (v:Value),ps[i]?=some p → (xs.map a.eval)[i]?=some v → Rd w g (Free ctx g s.objs) p v:=by
 refine⟨by simpa using evs_len hps,fun i p v hp hv=>?_⟩;rw[List.getElem?_map] at hv
 cases hx:xs[i]? with
 | none=>simp[hx] at hv
 | some x=>
  simp[hx] at hv;subst hv;exact hg.ev (evs_get hps hp hx)
theorem LR.callObj{x:Operand}{xs:List Operand}{ats:Array TypeId}{f:FuncId}{ps qs:List PV}{os os':List (Nat×Ob)}{pins:List Nat}{r:PV}(ρ:List (Nat×Nat))(js ks:List Nat)
  (hc:PObj P f ps os pins r (fun _:Unit=>os')) (hK:∀ b,ctx.K b → ctx.S b) (hx:s.ev x=some (.d (.v (.func (.func f) #[] #[])))) (he:∀ args w,(callFunc f args).run P w=.ok (.enter f args) w) (hps:s.evs xs=some qs) (hq:qs.map PV.nilD=ps.map (PV.ren ρ)) (hos:AllOb s ρ os)
  (hks:os'.map (·.1)=ks) (hcl:os'.all (fun x=>x.2.named ks)=true) (hr:r.named ks=true) (hok:callOK s ρ js (os.map (·.1)) pins ks=true) :
  Local P ctx ⟨dst,.call ⟨.value x,xs.toArray,ats⟩,ty,pos,after,gd⟩ s ((s.callO ρ js os os').putD dst (r.ren ρ)):=
 local_enter (o:=⟨dst,.call ⟨.value x,xs.toArray,ats⟩,ty,pos,after,gd⟩) fun a w g hg=>by
  obtain⟨hlen,hreal⟩:=evs_rd hps hg;refine⟨f,_,exec_call (o:=⟨dst,.call ⟨.value x,xs.toArray,ats⟩,ty,pos,after,gd⟩) rfl (ev_v hg hx) he w,?_⟩;rw[List.map_toArray];exact(callObj_core ρ js ks hK hq hos (fun _=>hks) (fun _=>hcl) hr hok hg hlen hreal dst (hc.at _ _)).mono fun en w' ⟨u,_,he,hrel⟩=>⟨u,he,hrel⟩
end
end Go.Ep
namespace Go.Ep
theorem look_left{a b:List (Nat×Ob)}{id:Nat}{o:Ob}(h:look a id=some o):look (a++b) id=some o:=by rw[look_append,h];rfl
theorem EndsO.mk{G:Type}{P:Program}{ctx:Ctx}{fn:Func}{pl:List (Nat×Ob)}{r:PV}{os':G → List (Nat×Ob)}{e:Exit}{s:PState}(gh:G){n:Nat}{sl:List (Nat×PV)}{ps:List PV}(he:e=.normal ∨ e=.ret)(hsub:Sub ctx s ⟨n,sl,os' gh++pl⟩)
  (hres:ResLO P ⟨n,sl,os' gh++pl⟩ fn.results.toList ps) (hq:tupOf ps=r) (hd:(pl.all fun x=>!inL ((os' gh).map (·.1)) x.1)=true):EndsO P ctx fn pl r os' e s:=by
 refine⟨he,gh,ps,_,hsub,hres,hq,fun id o h=>look_left h,fun id o h=>?_⟩;show look (os' gh++pl) id=some o;rw[look_append]
 cases hl:look (os' gh) id with
 | none=>rw[Option.none_or];exact h
 | some q=>
  have h1:=List.all_eq_true.1 hd _ (look_mem h);have h2:=inL_iff.2 (look_key hl);simp only at h1;rw[h2] at h1
  cases h1
end Go.Ep
namespace Go.Ep
open Go.RowKit
section
variable{P:Program}{ctx:Ctx}{Q:PQ}{s:PState}
variable{dst:Option Tmp}{ty:TypeId}{pos:String}{after:Array Edge}{gd:Option (Nat×Bool)}
end
end Go.Ep
namespace Go.Ep
open Go.RowKit
section
variable{ctx:Ctx}{s:PState}
theorem Sub.ownNil{id j id' k:Nat}{e T:TypeId}{cs:List PV}(hl:look s.objs id=some (.cells T cs))(hj:cs[j]?=some (.d (.v (.slice none 0 0))))(hf:s.fresh id'=true)(hne:Nat.beq id id'=false) :
  Sub ctx s { s with objs:=putO id (.cells T (cs.set j (.row id' 0))) (putO id' (.row e k []) s.objs) }:=by
 rintro a w ⟨g,hg⟩;have hne':id≠id':=fun h=>by rw[h,Nat.beq_refl] at hne;cases hne
 have h1:=hg.new (Below.refl _ w) hf none (fun b n e=>by cases e) (.row e k []) (.rowNil e k (upd_same _ _ _));have hl1:look (putO id' (.row e k []) s.objs) id=some (.cells T cs):=by rw[look_putO,if_neg hne'];exact hl
 refine⟨upd g id' none,?_⟩;have hF:∀ b,Free ctx (upd g id' none) (putO id' (.row e k []) s.objs) b → Free ctx (upd g id' none) (putO id (.cells T (cs.set j (.row id' 0))) (putO id' (.row e k []) s.objs)) b:=fun b hb=>⟨hb.1,fun i o n ho hgi=>by
  rw[look_putO] at ho
  by_cases ei:i=id
  ·subst ei;exact hb.2 i _ n hl1 hgi
  ·rw[if_neg ei] at ho;exact hb.2 i o n ho hgi⟩
 have hst:Stays w w (Free ctx (upd g id' none) (putO id' (.row e k []) s.objs)):=⟨Nat.le_refl _,fun _ _ _=>rfl⟩
 refine⟨h1.defers,h1.size,fun i p hp=>(h1.slots i p hp).keep hst (fun b hb _=>hF b hb) (fun _ _=>rfl),fun i o ho=>?_,fun i i2 o o2 b n m ho ho2 hgi hgi2=>?_,fun i o b n ho hgi=>?_,h1.os,h1.tape,h1.output,h1.grows,h1.keep⟩
 ·rw[look_putO] at ho
  by_cases ei:i=id
  ·subst ei;rw[if_pos rfl] at ho
   cases ho
   cases (h1.objs i _ hl1).keep hst (fun b hb _=>hF b hb) (fun _ _ _=>rfl) rfl (fun _ _=>rfl) with
   | cells _ _ blk n us hgi hh hlen hr h1'=>
    refine .cells T _ blk n us hgi hh (by simpa using hlen) (fun q p u hp hu=>?_) h1'
    by_cases ej:q=j
    ·subst ej;have hlt:q < cs.length:=(List.getElem?_eq_some_iff.1 hj).1;rw[List.getElem?_set_self hlt] at hp
     cases hp
     have:=(hr q _ u hj hu).of_v;subst this;exact .rowNil id' (upd_same _ _ _)
    ·rw[List.getElem?_set_ne (Ne.symm ej)] at hp;exact hr q p u hp hu
  ·rw[if_neg ei] at ho;exact(h1.objs i o ho).keep hst (fun b hb _=>hF b hb) (fun _ _ _=>rfl) rfl (fun _ _=>rfl)
 ·rw[look_putO] at ho ho2;have key:∀ q o,(if q=id then some (Ob.cells T (cs.set j (.row id' 0))) else look (putO id' (.row e k []) s.objs) q)=some o → ∃ o',look (putO id' (.row e k []) s.objs) q=some o':=fun q o hq=>by
   by_cases eq:q=id
   ·subst eq;exact⟨_,hl1⟩
   ·rw[if_neg eq] at hq;exact⟨o,hq⟩
  obtain⟨p1,q1⟩:=key i o ho;obtain⟨p2,q2⟩:=key i2 o2 ho2;exact h1.inj i i2 p1 p2 b n m q1 q2 hgi hgi2
 ·rw[look_putO] at ho
  by_cases ei:i=id
  ·subst ei;exact h1.own i _ b n hl1 hgi
  ·rw[if_neg ei] at ho;exact h1.own i o b n ho hgi
end
end Go.Ep
namespace Go.Ep
open Go.RowKit
section
variable{P:Program}{ctx:Ctx}{Q:PQ}{s:PState}
variable{dst:Option Tmp}{ty:TypeId}{pos:String}{after:Array Edge}{gd:Option (Nat×Bool)}
end
end Go.Ep
namespace Go.Ep
open Go.RowKit
section
variable{ctx:Ctx}{s:PState}
theorem Sub.junkCell{id j:Nat}{T:TypeId}{cs:List PV}(hl:look s.objs id=some (.cells T cs)):Sub ctx s { s with objs:=putO id (.cells T (cs.set j .junk)) s.objs }:=by
 rintro a w ⟨g,h1⟩;refine⟨g,?_⟩;have hF:∀ b,Free ctx g s.objs b → Free ctx g (putO id (.cells T (cs.set j .junk)) s.objs) b:=fun b hb=>⟨hb.1,fun i o n ho hgi=>by
  rw[look_putO] at ho
  by_cases ei:i=id
  ·subst ei;exact hb.2 i _ n hl hgi
  ·rw[if_neg ei] at ho;exact hb.2 i o n ho hgi⟩
 have hst:Stays w w (Free ctx g s.objs):=⟨Nat.le_refl _,fun _ _ _=>rfl⟩
 refine⟨h1.defers,h1.size,fun i p hp=>(h1.slots i p hp).keep hst (fun b hb _=>hF b hb) (fun _ _=>rfl),fun i o ho=>?_,fun i i2 o o2 b n m ho ho2 hgi hgi2=>?_,fun i o b n ho hgi=>?_,h1.os,h1.tape,h1.output,h1.grows,h1.keep⟩
 ·rw[look_putO] at ho
  by_cases ei:i=id
  ·subst ei;rw[if_pos rfl] at ho
   cases ho
   cases (h1.objs i _ hl).keep hst (fun b hb _=>hF b hb) (fun _ _ _=>rfl) rfl (fun _ _=>rfl) with
   | cells _ _ blk n us hgi hh hlen hr h1'=>
    refine .cells T _ blk n us hgi hh (by simpa using hlen) (fun q p u hp hu=>?_) h1'
    by_cases ej:q=j
    ·subst ej;have hlt:q < cs.length:=by have:=(List.getElem?_eq_some_iff.1 hp).1;simpa using this
     rw[List.getElem?_set_self hlt] at hp
     cases hp
     exact .junk u
    ·rw[List.getElem?_set_ne (Ne.symm ej)] at hp;exact hr q p u hp hu
  ·rw[if_neg ei] at ho;exact(h1.objs i o ho).keep hst (fun b hb _=>hF b hb) (fun _ _ _=>rfl) rfl (fun _ _=>rfl)
 ·rw[look_putO] at ho ho2;have key:∀ q o,(if q=id then some (Ob.cells T (cs.set j .junk)) else look s.objs q)=some o → ∃ o',look s.objs q=some o':=fun q o hq=>by
   by_cases eq:q=id
   ·subst eq;exact⟨_,hl⟩
   ·rw[if_neg eq] at hq;exact⟨o,hq⟩
  obtain⟨p1,q1⟩:=key i o ho;obtain⟨p2,q2⟩:=key i2 o2 ho2;exact h1.inj i i2 p1 p2 b n m q1 q2 hgi hgi2
 ·rw[look_putO] at ho
  by_cases ei:i=id
  ·subst ei;exact h1.own i _ b n hl hgi
  ·rw[if_neg ei] at ho;exact h1.own i o b n ho hgi
end
end Go.Ep
namespace Go.Ep
open Go.RowKit
section
variable{P:Program}{ctx:Ctx}{Q:PState → Prop}{s:PState}{ops:Array Oper}{rest:List Oper}{fs:List Ft}{f:Ft}
variable{dst:Option Tmp}{ty:TypeId}{pos:String}{after:Array Edge}{gd:Option (Nat×Bool)}
theorem AllOb.keep{ρ:List (Nat×Nat)}{os:List (Nat×Ob)}{s':PState}(h:AllOb s ρ os)(hk:∀ {id ob},inL f.ro id=true → look s.objs id=some ob → look s'.objs id=some ob)(hr:((os.map (·.1)).all fun i=>inL f.ro (rn ρ i))=true):AllOb s' ρ os:=by
 induction h with
 | nil=>exact .nil
 | cons h _ ih=>
  simp only[List.map_cons,List.all_cons,Bool.and_eq_true] at hr;exact .cons (hk hr.1 h) (ih hr.2)
end
section
variable{ctx:Ctx}{s:PState}
theorem Sub.nilCell{id j:Nat}{T:TypeId}{cs:List PV}(hl:look s.objs id=some (.cells T cs))(hj:cs[j]?=some (.d (.v (.slice none 0 0)))):Sub ctx s { s with objs:=putO id (.cells T (cs.set j (.d (.sl [])))) s.objs }:=by
 rintro a w ⟨g,h1⟩;refine⟨g,?_⟩;have hF:∀ b,Free ctx g s.objs b → Free ctx g (putO id (.cells T (cs.set j (.d (.sl [])))) s.objs) b:=fun b hb=>⟨hb.1,fun i o n ho hgi=>by
  rw[look_putO] at ho
  by_cases ei:i=id
  ·subst ei;exact hb.2 i _ n hl hgi
  ·rw[if_neg ei] at ho;exact hb.2 i o n ho hgi⟩
 have hst:Stays w w (Free ctx g s.objs):=⟨Nat.le_refl _,fun _ _ _=>rfl⟩
 refine⟨h1.defers,h1.size,fun i p hp=>(h1.slots i p hp).keep hst (fun b hb _=>hF b hb) (fun _ _=>rfl),fun i o ho=>?_,fun i i2 o o2 b n m ho ho2 hgi hgi2=>?_,fun i o b n ho hgi=>?_,h1.os,h1.tape,h1.output,h1.grows,h1.keep⟩
 ·rw[look_putO] at ho
  by_cases ei:i=id
  ·subst ei;rw[if_pos rfl] at ho
   cases ho
   cases h1.objs i _ hl with
   | cells _ _ blk n us hgi hh hlen hr h1'=>
    refine .cells T _ blk n us hgi hh (by simpa using hlen) (fun q p u hp hu=>?_) h1';rw[List.getElem?_set] at hp
    split at hp
    ·rename_i e
     subst e
     split at hp
     ·simp only[Option.some.injEq] at hp;subst hp;have:=(hr j _ u hj hu).of_v;subst this;exact .d (.nil none 0 (Nat.zero_le _) (fun _=>rfl))
     ·cases hp
    ·exact(hr q p u hp hu).keep hst (fun b hb _=>hF b hb) (fun _ _=>rfl)
  ·rw[if_neg ei] at ho;exact(h1.objs i o ho).keep hst (fun b hb _=>hF b hb) (fun _ _ _=>rfl) rfl (fun _ _=>rfl)
 ·have lk:∀ {i:Nat} {o:Ob},look (putO id (.cells T (cs.set j (.d (.sl [])))) s.objs) i=some o → ∃ o',look s.objs i=some o':=fun {i o} h=>by
   rw[look_putO] at h
   by_cases ei:i=id
   ·subst ei;exact⟨_,hl⟩
   ·rw[if_neg ei] at h;exact⟨_,h⟩
  obtain⟨_,h5⟩:=lk ho;obtain⟨_,h6⟩:=lk ho2;exact h1.inj i i2 _ _ b n m h5 h6 hgi hgi2
 ·rw[look_putO] at ho
  by_cases ei:i=id
  ·subst ei;exact h1.own i _ b n hl hgi
  ·rw[if_neg ei] at ho;exact h1.own i o b n ho hgi
end
end Go.Ep
namespace Go.Ep
open Go.RowKit
section
variable{ctx:Ctx}{s:PState}
end
section
variable{P:Program}{ctx:Ctx}{Q:PQ}{s:PState}
variable{dst:Option Tmp}{ty:TypeId}{pos:String}{after:Array Edge}{gd:Option (Nat×Bool)}
variable{id:Nat}{nl:Bool}{ks:List IntKind}{ag:Bool}{m:List (List Int×List DV)}{bs:List Nat}{ck:Nat}
section
variable{x kx:Operand}{t kt et:TypeId}{ns:List Int}{z:Value}{zs:List DV}{p:PV}
 (hu:P.underlying t=some (.map kt et)) (K:KeyOK P kt ks) (hz:∀ w,(zeroValue et).run P w=.ok z w) (hzr:∀ (w:World) (g:Ghost) (S:Nat → Prop),Rd w g S (elP ag zs) z) (hk:s.ev kx=some (keyP ks ns)) (hn:ns.length=ks.length) (hp:elP ag ((mget m ns).getD zs)=p)
 (hx:s.ev x=some (.mp id)) (hl:look s.objs id=some (.mapN nl ks ag m bs ck))
include hu K hz hzr hk hn hp hx hl
end
def PWL(P:Program)(ctx:Ctx)(c:Code)(Q:PQ)(s:PState):Prop:=∀ a w,Rel ctx s a w → LoopAt P c (lift ctx Q) a w
theorem PWL.step{c:Code}(h:PWc P ctx c (Then (PWL P ctx c Q) Q) s):PWL P ctx c Q s:=fun a w hr=>by
 refine LoopAt.step (wp_mono (h a w hr) fun e a' w' ⟨t,h1,h2⟩=>?_)
 cases e with
 | normal=>exact h1 a' w' h2
 | _=>exact⟨t,h1,h2⟩
theorem PWL.sub{c:Code}{t:PState}(hs:Sub ctx s t)(h:PWL P ctx c Q t):PWL P ctx c Q s:=fun a w hr=>h a w (hs a w hr)
section
variable{ops:Array Oper}{rest:List Oper}{it:Operand}{L:List Nat}{mid:Nat}
end
end
section
variable{P:Program}{ctx:Ctx}{Q:PQ}{s:PState}
variable{dst:Option Tmp}{ty:TypeId}{pos:String}{after:Array Edge}{gd:Option (Nat×Bool)}
variable{κ ν:Type}[DecidableEq κ]{eK:κ → List Int}{eV:ν → List DV}{m:List (κ×ν)}{q:κ}{zv:ν}(inj:∀ a b,eK a=eK b → a=b)
variable{x kx:Operand}{t kt et:TypeId}{ks:List IntKind}{ag:Bool}{z:Value}{p kp:PV}{id:Nat}{nl:Bool}{bs:List Nat}{ck:Nat}
section
variable(hu:P.underlying t=some (.map kt et))(K:KeyOK P kt ks)(hz:∀ w,(zeroValue et).run P w=.ok z w)(hzr:∀ (w:World) (g:Ghost) (S:Nat → Prop),Rd w g S (elP ag (eV zv)) z)(hk:s.ev kx=some kp)(hkp:kp=keyP ks (eK q))(hn:(eK q).length=ks.length)(hp:elP ag (eV (AL.getZ m q zv))=p)
include inj hu K hz hzr hk hkp hn hp
end
end
section
variable{ctx:Ctx}{s:PState}
end
end Go.Ep
namespace Go.Ep
open Go.RowKit
def keysP(m:List (List Int×Value)):Mp:=m.map fun x=>(x.1,[])
theorem keysP_get{m:List (List Int×Value)}{i:Nat}{ns:List Int}{c:List DV}(h:(keysP m)[i]?=some (ns,c)):∃ p,m[i]?=some (ns,p):=by
 unfold keysP at h;rw[List.getElem?_map] at h
 cases hm:m[i]? with
 | none=>rw[hm] at h;cases h
 | some x=>rw[hm] at h;simp only[Option.map_some,Option.some.injEq,Prod.mk.injEq] at h;exact⟨x.2,by rw[← h.1]⟩
section
variable{P:Program}{ctx:Ctx}{Q:PQ}{s:PState}
variable{dst:Option Tmp}{ty:TypeId}{pos:String}{after:Array Edge}{gd:Option (Nat×Bool)}
theorem RelG.reread{g:Ghost}{a:Act}{w:World}(h1:RelG ctx g s a w){id:Nat}{o0 ob:Ob}(hl:look s.objs id=some o0){objs':List (Nat×Ob)}(ho':∀ i,look objs' i=if i=id then some ob else look s.objs i)
  (hr:∀ S,ObRd w g S id o0 → ObRd w g S id ob):RelG ctx g { s with objs:=objs' } a w:=by
 have hF:∀ b,Free ctx g s.objs b → Free ctx g objs' b:=fun b hb=>⟨hb.1,fun i o n ho hgi=>by
  rw[ho'] at ho
  by_cases ei:i=id
  ·subst ei;exact hb.2 i _ n hl hgi
  ·rw[if_neg ei] at ho;exact hb.2 i o n ho hgi⟩
 have hst:Stays w w (Free ctx g s.objs):=⟨Nat.le_refl _,fun _ _ _=>rfl⟩
 refine⟨h1.defers,h1.size,fun i p hp=>(h1.slots i p hp).keep hst (fun b hb _=>hF b hb) (fun _ _=>rfl),fun i o ho=>?_,fun i i2 o o2 b n m ho ho2 hgi hgi2=>?_,fun i o b n ho hgi=>?_,h1.os,h1.tape,h1.output,h1.grows,h1.keep⟩
 ·simp only[ho'] at ho
  by_cases ei:i=id
  ·subst ei;rw[if_pos rfl] at ho
   cases ho
   exact hr _ ((h1.objs i _ hl).keep hst (fun b hb _=>hF b hb) (fun _ _ _=>rfl) rfl (fun _ _=>rfl))
  ·rw[if_neg ei] at ho;exact(h1.objs i o ho).keep hst (fun b hb _=>hF b hb) (fun _ _ _=>rfl) rfl (fun _ _=>rfl)
 ·simp only[ho'] at ho ho2;have key:∀ q o,(if q=id then some ob else look s.objs q)=some o → ∃ o',look s.objs q=some o':=fun q o hq=>by
   by_cases eq:q=id
   ·subst eq;exact⟨_,hl⟩
   ·rw[if_neg eq] at hq;exact⟨o,hq⟩
  obtain⟨p1,q1⟩:=key i o ho;obtain⟨p2,q2⟩:=key i2 o2 ho2;exact h1.inj i i2 p1 p2 b n m q1 q2 hgi hgi2
 ·simp only[ho'] at ho
  by_cases ei:i=id
  ·subst ei;exact h1.own i _ b n hl hgi
  ·rw[if_neg ei] at ho;exact h1.own i o b n ho hgi
theorem look_putdel(id:Nat)(ob:Ob)(l:List (Nat×Ob))(i:Nat):look (putO id ob (delO id l)) i=if i=id then some ob else look l i:=by
 rw[look_putO,look_delO]
 by_cases h:i=id <;> simp[h]
theorem delO_mem{id:Nat}:∀ {l:List (Nat×Ob)} {x:Nat×Ob},x∈delO id l → x.1≠id ∧ x∈l
 | [],x,h=>by simp[delO] at h
 | (k,p)::r,x,h=>by
  unfold delO at h
  by_cases e:id=k
  ·rw[if_pos e] at h;have:=delO_mem h;exact⟨this.1,List.mem_cons_of_mem _ this.2⟩
  ·rw[if_neg e] at h;rcases List.mem_cons.1 h with h | h
   ·subst h;exact⟨Ne.symm e,List.mem_cons_self⟩
   ·have:=delO_mem h;exact⟨this.1,List.mem_cons_of_mem _ this.2⟩
theorem ObRd.junkP{w:World}{g:Ghost}{S:Nat → Prop}{id:Nat}{ks:List IntKind}{m:List (List Int×Value)}{j:Nat}{p:PV}{bs:List Nat}{ck:Nat}(h:ObRd w g S id (.mapP ks m (some (j,p)) bs ck)):ObRd w g S id (.mapP ks m (some (j,.junk)) bs ck):=by
 cases h with
 | mapP _ _ _ _ _ blk n es h hh hsz hst hbl hnd hent hov=>
  refine .mapP ks m _ bs ck blk n es h hh hsz hst hbl hnd (fun i ns u hi=>?_) fun j' p' hj=>?_
  ·obtain⟨e,h1,h2,h3,h4,h5⟩:=hent i ns u hi;refine⟨e,h1,h2,h3,h4,fun hne=>h5 fun q hq=>?_⟩
   cases hq
   exact hne .junk rfl
  ·cases hj
   obtain⟨e,h1,h2⟩:=hov j p rfl;exact⟨e,h1,.junk _⟩
section
variable{x kx:Operand}{t kt et:TypeId}{ks:List IntKind}{m:List (List Int×Value)}{ns:List Int}{bs:List Nat}{ck id:Nat}{ov:Option (Nat×PV)}
theorem mapP_keys{es:Array MapEntry}
  (hent:∀ (i:Nat) (ns:List Int) (u:Value),m[i]?=some (ns,u) → ∃ e,es[i]?=some e ∧ e.key=keyV ks ns ∧ ns.length=ks.length ∧ e.val.oneCell'=true ∧ ((∀ p,ov≠some (i,p)) → e.val=u)) :
  ∀ (i:Nat) (e:MapEntry) (nn:List Int) (c:List DV),es.toList[i]?=some e → (keysP m)[i]?=some (nn,c) → e.key=keyV ks nn ∧ nn.length=ks.length:=fun i e nn c h1 h2=>by
 obtain⟨q,hq⟩:=keysP_get h2;obtain⟨e',g1,g2,g3,_⟩:=hent i nn q hq;have:e'=e:=by simp at h1;rw[g1] at h1;cases h1;rfl
 subst this;exact⟨g2,g3⟩
variable(hu:P.underlying t=some (.map kt et))(K:KeyOK P kt ks)(hx:s.ev x=some (.mp id))(hl:look s.objs id=some (.mapP ks m ov bs ck))(hk:s.ev kx=some (keyP ks ns))(hn:ns.length=ks.length)
include hu K hx hl hk hn
theorem LR.lookupP{j:Nat}{p:PV}(hj:pfind ns (keysP m) 0=some j)(hp:ov=some (j,p)):Local P ctx ⟨dst,.lookup t x kx false,ty,pos,after,gd⟩ s (s.putD dst p):=
 local_pure (o:=⟨dst,.lookup t x kx false,ty,pos,after,gd⟩) fun a w g hg=>by
  have h:=hg.ev hx
  generalize hv:a.eval x=v at h
  cases h with
  | mpNil _ hgn=>
   cases hg.objs id _ hl with
   | mapP _ _ _ _ _ blk' n' es h' hh hsz hst hbl hnd hent hov=>rw[hgn] at h';cases h'
  | mp _ blk n hgi=>
   cases hg.objs id _ hl with
   | mapP _ _ _ _ _ blk' n' es h' hh hsz hst hbl hnd hent hov=>
    rw[hgi] at h';cases h';have hf:=K.find w ns (keysP m) es.toList hn (by simpa[keysP] using hsz) (mapP_keys hent);obtain⟨e,g1,g5⟩:=hov j p hp;have he:es.toList[j]?=some e:=by simpa using g1
    rw[hj] at hf;simp only[Option.bind_some,he,Option.map_some] at hf;refine⟨e.val,?_,g5⟩;simp only[execOp,hv,keyP_eq (hg.ev hk),Instr.lookup,Sem.run_bind,run_underlying hu,Result.andThen_ok,MapKept.run_getObj_map hh,Sem.run_pure,K.check w _ ns hn,hf]
    rfl
theorem LR.lookupPN{z:Value}(hz:∀ w,(zeroValue et).run P w=.ok z w)(h1:z.oneCell'=true)(hj:pfind ns (keysP m) 0=none):Local P ctx ⟨dst,.lookup t x kx false,ty,pos,after,gd⟩ s (s.putD dst (.d (.v z))):=
 local_pure (o:=⟨dst,.lookup t x kx false,ty,pos,after,gd⟩) fun a w g hg=>by
  have h:=hg.ev hx
  generalize hv:a.eval x=v at h
  cases h with
  | mpNil _ hgn=>
   cases hg.objs id _ hl with
   | mapP _ _ _ _ _ blk' n' es h' hh hsz hst hbl hnd hent hov=>rw[hgn] at h';cases h'
  | mp _ blk n hgi=>
   cases hg.objs id _ hl with
   | mapP _ _ _ _ _ blk' n' es h' hh hsz hst hbl hnd hent hov=>
    rw[hgi] at h';cases h';have hf:=K.find w ns (keysP m) es.toList hn (by simpa[keysP] using hsz) (mapP_keys hent);rw[hj] at hf;simp only[Option.bind_none] at hf;refine⟨z,?_,.d (.v z h1)⟩;simp only[execOp,hv,keyP_eq (hg.ev hk),Instr.lookup,Sem.run_bind,run_underlying hu,Result.andThen_ok,MapKept.run_getObj_map hh,Sem.run_pure,K.check w _ ns hn,hf,hz]
    rfl
omit hu K hx hl hk hn in
theorem row_one{w:World}{g:Ghost}{S:Nat → Prop}{q n:Nat}{u:Value}(h:Rd w g S (.row q n) u):u.oneCell'=true:=by cases h <;> rfl
theorem LR.mapUpdateP{vx:Operand}{j q nn:Nat}{p:PV}(hov:ov=some (j,p))(hv:s.ev vx=some (.row q nn))(hj:pfind ns (keysP m) 0=some j):Local P ctx ⟨none,.mapUpdate t x kx vx,ty,pos,after,gd⟩ s (s.setO id (.mapP ks m (some (j,.row q nn)) bs ck)):=by
 subst hov;refine local_skip (o:=⟨none,.mapUpdate t x kx vx,ty,pos,after,gd⟩) fun a w g hg=>?_
 have h:=hg.ev hx
 generalize hxv:a.eval x=v at h
 cases h with
 | mpNil _ hgn=>
  cases hg.objs id _ hl with
  | mapP _ _ _ _ _ blk' n' es h' hh hsz hst hbl hnd hent hov=>rw[hgn] at h';cases h'
 | mp _ blk n hgi=>
  cases hg.objs id _ hl with
  | mapP _ _ _ _ _ blk' n' es h' hh hsz hst hbl hnd hent hov=>
   rw[hgi] at h';cases h';have hf:=K.find w ns (keysP m) es.toList hn (by simpa[keysP] using hsz) (mapP_keys hent);obtain⟨k,hjk,cs0,h2,h3⟩:=pfind_off ns (keysP m) 0 j hj;have:j=k:=by omega
   subst this;obtain⟨p0,hp0⟩:=keysP_get h2;obtain⟨e0,g1,g2,g3,g4,g5⟩:=hent j ns p0 hp0;have he:es.toList[j]?=some e0:=by simpa using g1
   rw[hj] at hf;simp only[Option.bind_some,he,Option.map_some] at hf;have hvr:=hg.ev hv
   generalize hu':a.eval vx=u at hvr
   have hsame:(Instr.keyThatStays (((es[j]?).map (·.key)).getD (keyV ks ns)) (keyV ks ns)).run P w=.ok (keyV ks ns) w:=by
    simp only[g1,Option.map_some,Option.getD_some,g2,Instr.keyThatStays,sameBits_key,if_true,Sem.run_pure]
   have hrun:(Instr.mapUpdate t (.map (some blk)) (keyV ks ns) u).run P w=.ok () { w with heap:=w.heap.setIfInBounds blk (.map (es.modify j fun e=>{ e with key:=keyV ks ns,val:=u }) ck) }:=by
    simp only[Instr.mapUpdate,Sem.run_bind,run_underlying hu,Result.andThen_ok,MapKept.run_getObj_map hh,K.check w _ ns hn,hf,hsame];exact MapKept.run_setObj_map _ hh
   refine⟨_,by simp only[execOp,hxv,keyP_eq (hg.ev hk),hu',Sem.run_bind,hrun,Result.andThen_ok,Sem.run_pure];rfl,g,?_⟩;have hown:=hg.own id _ blk n hl hgi;have hother:∀ k,k < w.heap.size → k≠blk → ({ w with heap:=w.heap.setIfInBounds blk (.map (es.modify j fun e=>{ e with key:=keyV ks ns,val:=u }) ck) }:World).heap[k]?=w.heap[k]?:=fun k _ hne=>set_other w blk k _ hne
   have hst':Stays w { w with heap:=w.heap.setIfInBounds blk (.map (es.modify j fun e=>{ e with key:=keyV ks ns,val:=u }) ck) } (Free ctx g s.objs):=⟨by simp,fun b ⟨_,h2⟩ hlt=>hother b hlt fun e=>by subst e;exact h2 id _ n hl hgi⟩
   refine hg.wrote hl hgi rfl rfl rfl (by simp) hother hown.2 (.mapP ks _ _ bs ck blk n (es.modify j fun e=>{ e with key:=keyV ks ns,val:=u }) hgi (set_same w blk _ hown.1) (by simp[hsz]) ?_ hbl hnd (fun i nn' u' hi=>?_) fun j' p' hj'=>?_)
   ·rw[hst];apply List.ext_getElem?;intro i;simp only[List.getElem?_map,Array.getElem?_toList,Array.getElem?_modify]
    by_cases hij:j=i
    ·subst hij;simp[g1]
    ·simp[hij]
   ·by_cases hij:i=j
    ·subst hij;rw[hp0] at hi
     cases hi
     exact⟨_,by rw[Array.getElem?_modify,if_pos rfl,g1];rfl,rfl,hn,row_one hvr,fun hne=>(hne _ rfl).elim⟩
    ·obtain⟨e,q1,q2,q3,q4,q5⟩:=hent i nn' u' hi;exact⟨e,by rw[Array.getElem?_modify,if_neg (Ne.symm hij)];exact q1,q2,q3,q4,fun _=>q5 fun p hp=>by cases hp;exact hij rfl⟩
   ·cases hj'
    exact⟨_,by rw[Array.getElem?_modify,if_pos rfl,g1];rfl,hvr.keep hst' (fun b hb _=>free_put hl b hb) (fun _ _=>rfl)⟩
theorem LR.mapUpdatePN{vx:Operand}{q nn:Nat}(hov:ov=none)(hv:s.ev vx=some (.row q nn))(hj:pfind ns (keysP m) 0=none):Local P ctx ⟨none,.mapUpdate t x kx vx,ty,pos,after,gd⟩ s (s.setO id (.mapP ks (m++[(ns,undef)]) (some (m.length,.row q nn)) (bs++[ck]) (ck+1))):=by
 subst hov;refine local_skip (o:=⟨none,.mapUpdate t x kx vx,ty,pos,after,gd⟩) fun a w g hg=>?_
 have h:=hg.ev hx
 generalize hxv:a.eval x=v at h
 cases h with
 | mpNil _ hgn=>
  cases hg.objs id _ hl with
  | mapP _ _ _ _ _ blk' n' es h' hh hsz hst hbl hnd hent hov=>rw[hgn] at h';cases h'
 | mp _ blk n hgi=>
  cases hg.objs id _ hl with
  | mapP _ _ _ _ _ blk' n' es h' hh hsz hst hbl hnd hent hov=>
   rw[hgi] at h';cases h';have hf:=K.find w ns (keysP m) es.toList hn (by simpa[keysP] using hsz) (mapP_keys hent);rw[hj] at hf;simp only[Option.bind_none] at hf;have hvr:=hg.ev hv
   generalize hu':a.eval vx=u at hvr
   have hrun:(Instr.mapUpdate t (.map (some blk)) (keyV ks ns) u).run P w=.ok () { w with heap:=w.heap.setIfInBounds blk (.map (es.push { key:=keyV ks ns,val:=u,born:=ck }) (ck+1)) }:=by
    simp only[Instr.mapUpdate,Sem.run_bind,run_underlying hu,Result.andThen_ok,MapKept.run_getObj_map hh,K.check w _ ns hn,hf];exact MapKept.run_setObj_map _ hh
   refine⟨_,by simp only[execOp,hxv,keyP_eq (hg.ev hk),hu',Sem.run_bind,hrun,Result.andThen_ok,Sem.run_pure];rfl,g,?_⟩;have hown:=hg.own id _ blk n hl hgi;have hother:∀ k,k < w.heap.size → k≠blk → ({ w with heap:=w.heap.setIfInBounds blk (.map (es.push { key:=keyV ks ns,val:=u,born:=ck }) (ck+1)) }:World).heap[k]?=w.heap[k]?:=fun k _ hne=>set_other w blk k _ hne
   have hst':Stays w { w with heap:=w.heap.setIfInBounds blk (.map (es.push { key:=keyV ks ns,val:=u,born:=ck }) (ck+1)) } (Free ctx g s.objs):=⟨by simp,fun b ⟨_,h2⟩ hlt=>hother b hlt fun e=>by subst e;exact h2 id _ n hl hgi⟩
   refine hg.wrote hl hgi rfl rfl rfl (by simp) hother hown.2 (.mapP ks _ _ (bs++[ck]) (ck+1) blk n (es.push { key:=keyV ks ns,val:=u,born:=ck }) hgi (set_same w blk _ hown.1) (by simp[hsz]) (by simp[hst]) ?_ ?_ (fun i nn' u' hi=>?_) fun j' p' hj'=>?_)
   ·intro b hb;rcases List.mem_append.1 hb with h | h
    ·have:=hbl b h;omega
    ·simp at h;omega
   ·rw[List.nodup_append];refine⟨hnd,by simp,fun b hb c hc=>?_⟩;simp at hc;have:=hbl b hb;omega
   ·rw[List.getElem?_append] at hi
    split at hi
    ·rename_i hlt
     obtain⟨e,q1,q2,q3,q4,q5⟩:=hent i nn' u' hi;exact⟨e,by rw[Array.getElem?_push,if_neg (by rw[hsz];omega)];exact q1,q2,q3,q4,fun _=>q5 fun p hp=>by cases hp⟩
    ·rename_i hge
     have hi0:i=m.length:=by
      have:i - m.length < 1:=by simpa using (List.getElem?_eq_some_iff.1 hi).1
      omega
     subst hi0;simp at hi;obtain⟨rfl,rfl⟩:=hi;exact⟨_,by rw[Array.getElem?_push,if_pos hsz.symm],rfl,hn,row_one hvr,fun hne=>(hne _ rfl).elim⟩
   ·cases hj'
    exact⟨_,by rw[Array.getElem?_push,if_pos hsz.symm],hvr.keep hst' (fun b hb _=>free_put hl b hb) (fun _ _=>rfl)⟩
end
end
section
variable{P:Program}{ctx:Ctx}{ops:Array Oper}{Q:PState → Prop}{s:PState}
variable{dst:Option Tmp}{ty:TypeId}{pos:String}{after:Array Edge}{gd:Option (Nat×Bool)}
theorem Local.post{o:Oper}{t u:PState}(h:Local P ctx o s t)(hs:Sub ctx t u):Local P ctx o s u:=fun a w hr K Qx hK=>h a w hr K Qx fun a' w' h'=>hK a' w' (hs a' w' h')
theorem Local.pre{o:Oper}{t u:PState}(hs:Sub ctx s t)(h:Local P ctx o t u):Local P ctx o s u:=fun a w hr K Qx hK=>h a w (hs a w hr) K Qx hK
section
variable{α:Type}{enc:α → List DV}{L R:List α}{x y:Operand}{id mid m k bs':Nat}{t t' e e':TypeId}{ks:List IntKind}{mm:List (List Int×Value)}{j:Nat}{p:PV}{bs:List Nat}{ck:Nat}
theorem LR.appP(js:List Nat)(hE:ElemOK P t e k bs')(hu':P.underlying t'=some (.slice e'))(hx:s.ev x=some (.row id m))(hm:m=L.length)(hl:look s.objs id=some (.row e k (L.map enc)))
  (hlm:look s.objs mid=some (.mapP ks mm (some (j,p)) bs ck)) (hne:Nat.beq id mid=false)
  (hy:∀ s':PState,s'.n=s.n → s'.sl=s.sl → Src ctx s' y (R.map enc) k) (hk:∀ x,(enc x).length=k) (hb:(L.length+R.length)*bs' ≤ 140737488355328) (h1:Nat.ble 1 bs'=true) (ha:(s.junks js).aloneX id [mid]=true) :
  Local P ctx ⟨dst,.call ⟨.builtin .append,#[x,y],#[t,t']⟩,ty,pos,after,gd⟩ s ((((s.junks js).setO mid (.mapP ks mm (some (j,.junk)) bs ck)).setO id (.row e k ((L++R).map enc))).putD dst (.row id (L++R).length)):=by
 have hne':id≠mid:=fun e=>by rw[e] at hne;simp at hne
 let s2:PState:={ s with objs:=putO mid (.mapP ks mm (some (j,.junk)) bs ck) (delO mid s.objs) }
 have hsub:Sub ctx s s2:=fun a w ⟨g,hg⟩=>⟨g,hg.reread hlm (look_putdel _ _ _) fun S h=>h.junkP⟩
 have hj2:∀ js,(s2.junks js).sl=(s.junks js).sl:=fun js=>by rw[junks_sl,junks_sl]
 have ha2:(s2.junks js).alone id=true:=by
  unfold PState.aloneX at ha;unfold PState.alone;rw[hj2 js];rw[Bool.and_eq_true] at ha ⊢;refine⟨ha.1,List.all_eq_true.2 fun q hq=>?_⟩;rw[junks_objs] at hq;have h2:=List.all_eq_true.1 ha.2;obtain⟨qk,qo⟩:=q;rcases putO_mem hq with h3 | h3
  ·cases h3;rfl
  ·have h4:=delO_mem h3;have h5:=h2 (qk,qo) (by rw[junks_objs];exact h4.2);have h6:inL [mid] qk=false:=by
    rw[inL_false];simpa using h4.1
   simpa[h6] using h5
 have hl2:look s2.objs id=some (.row e k (L.map enc)):=by
  show look (putO _ _ _) _=_;rw[look_putdel,if_neg hne'];exact hl
 refine Local.pre hsub ((LR.appT (enc:=enc) (L:=L) (R:=R) (s:=s2) js hE hu' (by cases x <;> exact hx) hm hl2 (hy s2 rfl rfl) hk hb h1 ha2).post ?_);refine Sub.drop ?_ (fun i q hq=>?_) (fun i o ho=>?_)
 ·simp only[putD_len];show(s2.junks js).n=(s.junks js).n;rw[junks_n,junks_n]
 ·have hsl:(((s2.junks js).setO id (.row e k ((L++R).map enc))).putD dst (.row id (L++R).length)).sl=((((s.junks js).setO mid (.mapP ks mm (some (j,.junk)) bs ck)).setO id (.row e k ((L++R).map enc))).putD dst (.row id (L++R).length)).sl:=by
   cases dst <;> simp[PState.putD,PState.put,PState.setO,hj2]
  have hn:(((s2.junks js).setO id (.row e k ((L++R).map enc))).putD dst (.row id (L++R).length)).n=((((s.junks js).setO mid (.mapP ks mm (some (j,.junk)) bs ck)).setO id (.row e k ((L++R).map enc))).putD dst (.row id (L++R).length)).n:=by
   simp only[putD_len];show(s2.junks js).n=(s.junks js).n;rw[junks_n,junks_n]
  rw[at_eq] at hq ⊢;rw[hsl,hn];exact hq
 ·rw[putD_objs] at ho ⊢;simp only[PState.setO,junks_objs] at ho ⊢;rw[look_putO] at ho ⊢
  by_cases hi:i=id
  ·rw[if_pos hi] at ho ⊢;exact ho
  ·rw[if_neg hi] at ho ⊢;rw[look_putO] at ho;show look (putO _ _ (delO _ _)) _=_;rw[look_putdel];exact ho
theorem PQe.stepX{o:Oper}{rest:List Oper}{f:Ft}{fs:List Ft}{p:PV}{id mid:Nat}{ob obm:Ob}(js:List Nat)(hl:∀ s':PState,(∀ {x q},readsX o x=true → s.ev x=some q → s'.ev x=some q) → (∀ {id ob},inL f.ro id=true → look s.objs id=some ob → look s'.objs id=some ob) → (s'.junks js).aloneX id [mid]=true → Local P ctx o s' ((((s'.junks js).setO mid obm).setO id ob).putD o.dst p))
  (ha:inAl f.al id js=true) (hao:f.ao=[mid]) (hg:Wd ops o s) (hk:okE f ⟨dstL o.dst p++(js.map fun t=>(t,PV.junk)).reverse,[(id,ob),(mid,obm)]⟩=true) (h:PQe P ctx ops Q rest fs ((((s.junks js).setO mid obm).setO id ob).putD o.dst p)):PQe P ctx ops Q (o::rest) (f::fs) s:=by
 have happ:∀ s:PState,s.app ⟨dstL o.dst p++(js.map fun t=>(t,PV.junk)).reverse,[(id,ob),(mid,obm)]⟩=(((s.junks js).setO mid obm).setO id ob).putD o.dst p:=fun s=>by
  have h1:=junks_sl js s;have h2:=junks_n js s;have h3:=junks_objs js s
  cases o.dst <;> simp[PState.app,dstL,PState.putD,PState.put,PState.setO,h1,h2,h3]
 refine .step (e:=⟨dstL o.dst p++(js.map fun t=>(t,PV.junk)).reverse,[(id,ob),(mid,obm)]⟩) (fun s' _ he ho _ hal=>?_) hg hk (by rw[happ];exact h);rw[happ];refine hl s' he (fun hi=>ho (inL_iff.1 hi)) ?_;unfold inAl at ha;obtain⟨a,h1,h2⟩:=List.any_eq_true.1 ha;simp only[Bool.and_eq_true,beq_iff_eq] at h2;have:=hal a h1
 rwa [Nat.eq_of_beq_eq_true h2.1,h2.2,hao] at this
theorem LR.appNilX(hE:ElemOK P t e k bs')(hu':P.underlying t'=some (.slice e'))(hx:s.ev x=some (.d (.v (.slice none 0 0))))(hf:s.fresh id=true)
  (hy:Src ctx { s with objs:=putO id (.row e k []) s.objs } y (R.map enc) k) (hk:∀ x,(enc x).length=k) (hb:R.length*bs' ≤ 140737488355328) (h1:Nat.ble 1 bs'=true) (ha:({ s with objs:=putO id (.row e k []) s.objs }:PState).alone id=true) :
  Local P ctx ⟨some id,.call ⟨.builtin .append,#[x,y],#[t,t']⟩,ty,pos,after,gd⟩ s (s.newO id (.row e k (R.map enc)) (.row id R.length)):=by
 rintro a w ⟨g,hg⟩ K Qx hK;have hn:=hg.new (Go.RowKit.Below.refl _ w) hf none (fun b n e=>by cases e) (.row e k []) (.rowNil e k (upd_same _ _ _));have h2:=Nat.le_of_ble_eq_true h1;have h3:R.length*1 ≤ R.length*bs':=Nat.mul_le_mul_left _ h2;have hlk:look (putO id (Ob.row e k []) s.objs) id=some (.row e k []):=by rw[look_putO,if_pos rfl]
 have hxv:=hg.ev hx;have hxe:a.eval x=.slice none 0 0:=hxv.of_v;obtain⟨v,w',hrun,hr⟩:=append_core (dst:=some id) (ty:=ty) (pos:=pos) (after:=after) (gd:=gd) (l:=[]) (n:=0) (x:=x) [] hE hu' hlk rfl hy (eachMap hk R) (by simpa using hb) (by simp;omega) ha hn (by rw[hxe];exact .rowNil id (upd_same _ _ _));unfold Oper.wp;rw[hrun];refine hK _ _ ?_;refine Sub.drop ?_ (fun i q hq=>?_) (fun i o ho=>?_) _ _ hr
 ·rfl
 ·rw[Nat.zero_add,List.length_map];exact hq
 ·simp only[PState.newO,look_putO] at ho;simp only[PState.putD,PState.put,PState.setO,PState.junks,look_putO,List.nil_append]
  by_cases hi:i=id
  ·rw[if_pos hi] at ho ⊢;exact ho
  ·rw[if_neg hi] at ho;rw[if_neg hi,if_neg hi];exact ho
end
end
end Go.Ep
namespace Go.Ep
open Go.RowKit
section
variable{ctx:Ctx}{s:PState}
variable{id:Nat}{nl:Bool}{ks:List IntKind}{ag:Bool}{m:List (List Int×List DV)}{bs:List Nat}{ck:Nat}
variable{P:Program}{Q:PQ}
theorem Sub.same{t:PState}(hn:s.n=t.n)(hs:s.sl=t.sl)(ho:∀ i,look s.objs i=look t.objs i):Sub ctx s t:=
 Sub.drop hn (fun i p hp=>by rw[at_eq] at hp ⊢;rw[hn,hs];exact hp) (fun i o h=>by rw[ho];exact h)
end
section
variable{P:Program}{ctx:Ctx}{Q:PQ}{s:PState}
variable{dst:Option Tmp}{ty:TypeId}{pos:String}{after:Array Edge}{gd:Option (Nat×Bool)}
variable{κ ν:Type}[DecidableEq κ]{eK:κ → List Int}{eV:ν → List DV}{m:List (κ×ν)}{q:κ}{zv:ν}(inj:∀ a b,eK a=eK b → a=b)
variable{x kx:Operand}{t kt et:TypeId}{ks:List IntKind}{ag:Bool}{z:Value}{p kp:PV}{id:Nat}{nl:Bool}{bs:List Nat}{ck:Nat}
section
variable(hu:P.underlying t=some (.map kt et))(K:KeyOK P kt ks)(hz:∀ w,(zeroValue et).run P w=.ok z w)(hzr:∀ (w:World) (g:Ghost) (S:Nat → Prop),Rd w g S (elP ag (eV zv)) z)(hk:s.ev kx=some kp)(hkp:kp=keyP ks (eK q))(hn:(eK q).length=ks.length)(hp:elP ag (eV (AL.getZ m q zv))=p)
include inj hu K hz hzr hk hkp hn hp
end
end
inductive JCs (nm:List Nat):List PV → List PV → Prop
 | nil:JCs nm [] []
 | keep {p:PV} {cs cs':List PV} (h:p.named nm=true) (t:JCs nm cs cs'):JCs nm (p::cs) (p::cs')
 | junk {p:PV} {cs cs':List PV} (t:JCs nm cs cs'):JCs nm (p::cs) (.junk::cs')
inductive JOb (nm:List Nat):Ob → Ob → Prop
 | same {o:Ob} (h:o.named nm=true):JOb nm o o
 | cells {T:TypeId} {cs cs':List PV} (h:JCs nm cs cs'):JOb nm (.cells T cs) (.cells T cs')
inductive JObs (nm:List Nat):List (Nat×Ob) → List (Nat×Ob) → Prop
 | nil:JObs nm [] []
 | cons {k:Nat} {o o':Ob} {F F':List (Nat×Ob)} (h:JOb nm o o') (t:JObs nm F F'):JObs nm ((k,o)::F) ((k,o')::F')
theorem JCs.len{nm:List Nat}{cs cs':List PV}(h:JCs nm cs cs'):cs'.length=cs.length:=by
 induction h with
 | nil=>rfl
 | keep _ _ ih=>simp[ih]
 | junk _ ih=>simp[ih]
theorem JCs.get{nm:List Nat}{cs cs':List PV}(h:JCs nm cs cs'):∀ (i:Nat) (p:PV),cs'[i]?=some p → p=.junk ∨ cs[i]?=some p:=by
 induction h with
 | nil=>intro i p h;simp at h
 | keep _ _ ih=>
  intro i p h
  cases i with
  | zero=>exact .inr (by simpa using h)
  | succ i=>simpa using ih i p (by simpa using h)
 | junk _ ih=>
  intro i p h
  cases i with
  | zero=>exact .inl (by simpa using h.symm)
  | succ i=>simpa using ih i p (by simpa using h)
theorem JCs.named{nm:List Nat}{cs cs':List PV}(h:JCs nm cs cs'):PV.named.namedL nm cs'=true:=by
 induction h with
 | nil=>rfl
 | keep h _ ih=>simp only[PV.named.namedL,h,ih,Bool.and_self]
 | junk _ ih=>simp only[PV.named.namedL,PV.named,ih,Bool.and_self]
theorem JOb.named{nm:List Nat}{o o':Ob}(h:JOb nm o o'):o'.named nm=true:=by
 cases h with
 | same h=>exact h
 | cells h=>exact h.named
theorem JObs.look{nm:List Nat}{F F':List (Nat×Ob)}(h:JObs nm F F'):∀ (id:Nat) (o':Ob),Go.Ep.look F' id=some o' → ∃ o,Go.Ep.look F id=some o ∧ JOb nm o o':=by
 induction h with
 | nil=>intro id o' h;simp[Go.Ep.look] at h
 | cons h _ ih=>
  intro id o' hl;simp only[Go.Ep.look] at hl ⊢
  split at hl
  ·rename_i e;cases hl;exact⟨_,by rw[if_pos e],h⟩
  ·rename_i e;rw[if_neg e];exact ih id o' hl
theorem OwnB.app{g:Ghost}{a b:List (Nat×Ob)}{k:Nat}(h:OwnB g (a++b) k):OwnB g a k ∨ OwnB g b k:=by
 obtain⟨id,o,n,h1,h2⟩:=h;rw[look_append] at h1
 cases hl:look a id with
 | none=>rw[hl,Option.none_or] at h1;exact .inr ⟨id,o,n,h1,h2⟩
 | some q=>rw[hl,Option.some_or] at h1;exact .inl ⟨id,q,n,hl,h2⟩
section
variable{ctx:Ctx}{s:PState}
inductive RSl (s:PState) (ρ:List (Nat×Nat)):List (Nat×PV) → Prop
 | nil:RSl s ρ []
 | cons {i:Nat} {p:PV} {r:List (Nat×PV)} (h:s.at i=some (p.ren ρ)) (t:RSl s ρ r):RSl s ρ ((i,p)::r)
theorem RSl.get{ρ:List (Nat×Nat)}{l:List (Nat×PV)}(h:RSl s ρ l):∀ i p,getS l i=some p → s.at i=some (p.ren ρ):=by
 induction h with
 | nil=>intro i p h;simp[getS] at h
 | cons h _ ih=>
  intro i p hl;rw[getS_cons] at hl
  split at hl
  ·rename_i e;subst e;cases hl;exact h
  ·exact ih i p hl
end
inductive LookIn (os':List (Nat×Ob)):List (Nat×Ob) → Prop
 | nil:LookIn os' []
 | cons {i:Nat} {o:Ob} {r:List (Nat×Ob)} (h:Go.Ep.look os' i=some o) (t:LookIn os' r):LookIn os' ((i,o)::r)
theorem LookIn.get{os' l:List (Nat×Ob)}(h:LookIn os' l):∀ i o,Go.Ep.look l i=some o → Go.Ep.look os' i=some o:=by
 induction h with
 | nil=>intro i o h;simp[Go.Ep.look] at h
 | cons h _ ih=>
  intro j o2 hl;simp only[Go.Ep.look] at hl
  split at hl
  ·rename_i e;subst e;cases hl;exact h
  ·exact ih j o2 hl
section
variable{P:Program}{ctx:Ctx}{Q:PState → Prop}{s:PState}{ops:Array Oper}{rest:List Oper}{fs:List Ft}{f:Ft}
variable{dst:Option Tmp}{ty:TypeId}{pos:String}{after:Array Edge}{gd:Option (Nat×Bool)}
end
section
variable{P:Program}{ctx:Ctx}{s:PState}
variable{dst:Option Tmp}{ty:TypeId}{pos:String}{after:Array Edge}{gd:Option (Nat×Bool)}
end
end Go.Ep
namespace Go.Ep
open Go.RowKit
section
variable{P:Program}{ctx:Ctx}{s:PState}
variable{dst:Option Tmp}{ty:TypeId}{pos:String}{after:Array Edge}{gd:Option (Nat×Bool)}
theorem LR.buildR{t:TypeId}{places:List (Nat×Nat)}{zs:List Value}{parts:Array (Nat×Operand)}{ps:List (Nat×PV)}{ns:List PV}(hB:BuildOK P t places zs)(hz1:(zs.all Value.oneCell')=true)(hps:s.evp parts.toList=some ps)(hns:pfill places (zs.map fun z=>PV.d (.v z)) ps=some ns) :
  Local P ctx ⟨dst,.build t parts,ty,pos,after,gd⟩ s (s.putD dst (.agg ns)):=
 local_pure (o:=⟨dst,.build t parts,ty,pos,after,gd⟩) fun a w g hg=>by
  have hz1':∀ u∈zs,u.oneCell'=true:=by simpa using hz1
  obtain⟨vs,h1,h2,h3,h4⟩:=fill_rd (w:=w) (g:=g) (S:=Free ctx g s.objs) ps (parts.toList.map fun x=>(x.1,a.eval x.2)) (zs.map fun z=>PV.d (.v z)) zs ns (by simpa using evp_len hps) (by
   intro j p r hp hr;rw[List.getElem?_map] at hr
   cases hx:parts.toList[j]? with
   | none=>simp[hx] at hr
   | some x=>
    simp[hx] at hr;subst hr;obtain⟨e1,e2⟩:=evp_get hps hp hx;exact⟨e1,hg.ev e2⟩) (by simp) (by
   intro i p u hp hu;simp[hu] at hp;subst hp;exact .d (.v u (hz1' u (List.mem_of_getElem? hu)))) hz1' hns
  refine⟨.agg vs.toArray,?_,.agg ns vs h2 h3 h4⟩;have hb:P.built t (parts.map fun(i,x)=>(i,a.eval x)).toList=some vs.toArray:=by
   rw[hB];simpa using h1
  have hrun:=run_build w t (parts.map fun(i,x)=>(i,a.eval x)) vs.toArray hb;simp only[execOp,Sem.run_bind,hrun,Result.andThen_ok,Sem.run_pure]
end
section
variable{P:Program}{ctx:Ctx}{ops:Array Oper}{Q:PState → Prop}{s:PState}
variable{dst:Option Tmp}{ty:TypeId}{pos:String}{after:Array Edge}{gd:Option (Nat×Bool)}
variable{α:Type}{enc:α → List DV}{L R:List α}{x y:Operand}{id oid m k bs' j:Nat}{t t' e e' T:TypeId}{cs:List PV}
theorem LR.appC(js:List Nat)(hE:ElemOK P t e k bs')(hu':P.underlying t'=some (.slice e'))(hx:s.ev x=some (.row id m))(hm:m=L.length)(hl:look s.objs id=some (.row e k (L.map enc)))
  (hlm:look s.objs oid=some (.cells T cs)) (hall:PV.has.hasL id (cs.set j .junk)=false) (hne:Nat.beq id oid=false)
  (hy:∀ s':PState,s'.n=s.n → s'.sl=s.sl → Src ctx s' y (R.map enc) k) (hk:∀ x,(enc x).length=k) (hb:(L.length+R.length)*bs' ≤ 140737488355328) (h1:Nat.ble 1 bs'=true) (ha:(s.junks js).aloneX id [oid]=true) :
  Local P ctx ⟨dst,.call ⟨.builtin .append,#[x,y],#[t,t']⟩,ty,pos,after,gd⟩ s ((((s.junks js).setO oid (.cells T (cs.set j .junk))).setO id (.row e k ((L++R).map enc))).putD dst (.row id (L++R).length)):=by
 have hne':id≠oid:=fun e=>by rw[e] at hne;simp at hne
 let s2:PState:={ s with objs:=putO oid (.cells T (cs.set j .junk)) (delO oid s.objs) }
 have hsub:Sub ctx s s2:=Sub.trans (Sub.junkCell (j:=j) hlm) (Sub.drop rfl (fun i q hq=>hq) (fun i o ho=>by
  rw[look_putdel] at ho;rw[look_putO];exact ho))
 have hj2:∀ js,(s2.junks js).sl=(s.junks js).sl:=fun js=>by rw[junks_sl,junks_sl]
 have ha2:(s2.junks js).alone id=true:=by
  unfold PState.aloneX at ha;unfold PState.alone;rw[hj2 js];rw[Bool.and_eq_true] at ha ⊢;refine⟨ha.1,List.all_eq_true.2 fun q hq=>?_⟩;rw[junks_objs] at hq;have h2:=List.all_eq_true.1 ha.2;obtain⟨qk,qo⟩:=q;rcases putO_mem hq with h3 | h3
  ·cases h3;simpa[Ob.has] using hall
  ·have h4:=delO_mem h3;have h5:=h2 (qk,qo) (by rw[junks_objs];exact h4.2);have h6:inL [oid] qk=false:=by
    rw[inL_false];simpa using h4.1
   simpa[h6] using h5
 have hl2:look s2.objs id=some (.row e k (L.map enc)):=by
  show look (putO _ _ _) _=_;rw[look_putdel,if_neg hne'];exact hl
 refine Local.pre hsub ((LR.appT (enc:=enc) (L:=L) (R:=R) (s:=s2) js hE hu' (by cases x <;> exact hx) hm hl2 (hy s2 rfl rfl) hk hb h1 ha2).post ?_);refine Sub.drop ?_ (fun i q hq=>?_) (fun i o ho=>?_)
 ·simp only[putD_len];show(s2.junks js).n=(s.junks js).n;rw[junks_n,junks_n]
 ·have hsl:(((s2.junks js).setO id (.row e k ((L++R).map enc))).putD dst (.row id (L++R).length)).sl=((((s.junks js).setO oid (.cells T (cs.set j .junk))).setO id (.row e k ((L++R).map enc))).putD dst (.row id (L++R).length)).sl:=by
   cases dst <;> simp[PState.putD,PState.put,PState.setO,hj2]
  have hn:(((s2.junks js).setO id (.row e k ((L++R).map enc))).putD dst (.row id (L++R).length)).n=((((s.junks js).setO oid (.cells T (cs.set j .junk))).setO id (.row e k ((L++R).map enc))).putD dst (.row id (L++R).length)).n:=by
   simp only[putD_len];show(s2.junks js).n=(s.junks js).n;rw[junks_n,junks_n]
  rw[at_eq] at hq ⊢;rw[hsl,hn];exact hq
 ·rw[putD_objs] at ho ⊢;simp only[PState.setO,junks_objs] at ho ⊢;rw[look_putO] at ho ⊢
  by_cases hi:i=id
  ·rw[if_pos hi] at ho ⊢;exact ho
  ·rw[if_neg hi] at ho ⊢;rw[look_putO] at ho;show look (putO _ _ (delO _ _)) _=_;rw[look_putdel];exact ho
end
end Go.Ep
namespace Go.Ep
end Go.Ep
namespace Go.Ep
open Go.RowKit
theorem DRd0.mono{w:World}{z:Bool}{S S':Nat → Prop}(hS:∀ b,S b → S' b){x:DV}{u:Value}(h:DRd0 w z S x u):DRd0 w z S' x u:=h.keep ⟨Nat.le_refl _,fun _ _ _=>rfl⟩ fun b hb _=>hS b hb
def Plain(x:DV):Prop:=∀ (w:World) (S:Nat → Prop) (u:Value),DRd w S x u → DRd0 w false S x u
theorem Plain.v(x:Value):Plain (.v x):=fun w S u h=>by cases h with | v _ h=>exact .v x h
theorem Plain.sl{l:List (List DV)}(h:∀ cs∈l,∀ x∈cs,Plain x):Plain (.sl l):=fun w S u hd=>by
 cases hd with
 | nil a cap hc hn=>exact .nil a cap hc hn
 | sl _ b off cap k c hl hcap hs hb hkk hc hr=>
  exact .sl l b off cap k c hl hcap hs hb (fun h=>by cases h) hkk hc fun i cs j x hi hx=>h cs (List.mem_of_getElem? hi) x (List.mem_of_getElem? hx) _ _ _ (hr i cs j x hi hx)
theorem Plain.slm{α:Type}{enc:α → List DV}(h:∀ a,∀ x∈enc a,Plain x)(l:List α):Plain (.sl (l.map enc)):=.sl fun cs hcs x hx=>by
 obtain⟨a,_,rfl⟩:=List.mem_map.1 hcs;exact h a x hx
theorem DRd0.bound{w:World}{z:Bool}{S:Nat → Prop}{x:DV}{u:Value}(h:DRd0 w z S x u):DRd0 w z (fun b=>S b ∧ b < w.heap.size) x u:=by
 induction h with
 | v x h=>exact .v x h
 | nil a cap hc hn=>exact .nil a cap hc hn
 | sl l b off cap k c hl hcap hs hb hz hkk hc hr ih=>exact .sl l b off cap k c hl hcap ⟨hs,hb⟩ hb hz hkk hc ih
def MonoD(d:(Nat → Prop) → DV):Prop:=∀ (w:World) (S N N':Nat → Prop) (u:Value),(∀ b,N b → N' b) → DRd w S (d N) u → DRd w S (d N') u
theorem MonoD.const(x:DV):MonoD fun _=>x:=fun _ _ _ _ _ _ h=>h
theorem MonoD.nw(x:DV):MonoD fun N=>.nw N x:=fun w S N N' u hN h=>by
 cases h with
 | nw _ _ _ h=>exact .nw _ _ _ (h.mono fun b hb=>⟨hb.1,hN b hb.2⟩)
def MonoP(r:(Nat → Prop) → PV):Prop:=∀ (w:World) (g:Ghost) (S N N':Nat → Prop) (u:Value),(∀ b,N b → N' b) → Rd w g S (r N) u → Rd w g S (r N') u
theorem MonoP.d{x:(Nat → Prop) → DV}(h:MonoD x):MonoP fun N=>.d (x N):=fun w g S N N' u hN hr=>by
 cases hr with
 | d hd=>exact .d (h w S N N' u hN hd)
inductive MonoL : ((Nat → Prop) → List PV) → Prop
 | nil:MonoL fun _=>[]
 | cons {p:(Nat → Prop) → PV} {l:(Nat → Prop) → List PV} (h:MonoP p) (t:MonoL l):MonoL fun N=>p N::l N
theorem MonoL.get{l:(Nat → Prop) → List PV}(h:MonoL l):(∀ N N',(l N).length=(l N').length) ∧ ∀ (i:Nat),(∀ N,(l N)[i]?=none) ∨ ∃ p,MonoP p ∧ ∀ N,(l N)[i]?=some (p N):=by
 induction h with
 | nil=>exact⟨fun _ _=>rfl,fun i=>.inl fun N=>by simp⟩
 | cons h t ih=>
  refine⟨fun N N'=>by simp[ih.1 N N'],fun i=>?_⟩
  cases i with
  | zero=>exact .inr ⟨_,h,fun N=>by simp⟩
  | succ i=>
   rcases ih.2 i with h0 | ⟨p,hp,h1⟩
   ·exact .inl fun N=>by simpa using h0 N
   ·exact .inr ⟨p,hp,fun N=>by simpa using h1 N⟩
theorem MonoP.agg{l:(Nat → Prop) → List PV}(h:MonoL l):MonoP fun N=>.agg (l N):=fun w g S N N' u hN hr=>by
 cases hr with
 | agg cs us hl hh h1=>
  refine .agg _ us ((h.get.1 N' N).trans hl) (fun i p u hp hu=>?_) h1;rcases h.get.2 i with h0 | ⟨q,hq,h2⟩
  ·rw[h0] at hp;cases hp
  ·rw[h2] at hp;cases hp;exact hq w g S N N' u hN (hh i _ u (h2 N) hu)
def PNew(P:Program)(f:FuncId)(ps:List PV)(r:(Nat → Prop) → PV):Prop:=∀ (w:World) (S:Nat → Prop),FunAt P f ps (r fun b=>w.heap.size ≤ b) w S
def newIn(ctx:Ctx):Nat → Prop:=fun b=>ctx.w0.heap.size ≤ b
theorem PNew.intro{P:Program}{f:FuncId}{fn:Func}{c:Code}{ps:List PV}{r:(Nat → Prop) → PV}{n:Nat}{sl:List (Nat×PV)}(hf:P.funcs[f]?=some fn)(hb:fn.body=some c)(hn:fn.ntmps=n)(hsl:args 0 ps=sl)(hpn:Nat.ble ps.length n=true)
  (body:∀ ctx:Ctx,(∀ b,ctx.K b → ctx.S b) → (∀ b,¬ ctx.K b) → PWc P ctx c (Ends P fn (r (newIn ctx))) ⟨n,sl,[]⟩):PNew P f ps r:=
 fun w S=>FunAt.intro hf hb hn hsl hpn (body ⟨w,S,fun _=>False⟩ (fun _ h=>h.elim) fun _ h=>h)
theorem PNew.nilD{P:Program}{f:FuncId}{ps:List PV}{r:(Nat → Prop) → PV}(h:PNew P f (ps.map PV.nilD) r):PNew P f ps r:=fun w S vs hl hv=>
 h w S vs (by simpa using hl) fun i p v hp hu=>by
  rw[List.getElem?_map] at hp
  cases hq:ps[i]? with
  | none=>simp[hq] at hp
  | some q=>simp[hq] at hp;subst hp;exact(hv i q v hq hu).nilD
def flatL(l:List (List DV)):Prop:=∀ cs∈l,∀ x∈cs,∃ v,x=.v v
theorem flatL.map{α:Type}{enc:α → List DV}(h:∀ a,∀ x∈enc a,∃ v,x=.v v)(l:List α):flatL (l.map enc):=fun cs hcs x hx=>by
 obtain⟨a,_,rfl⟩:=List.mem_map.1 hcs;exact h a x hx
theorem RowRd.new{w:World}{S:Nat → Prop}{base:Nat}{e:TypeId}{k:Nat}{l:List (List DV)}{u:Value}(h:RowRd w S base e k l u)(hf:flatL l):DRd0 w true (fun b=>(S b ∨ base ≤ b) ∧ base ≤ b) (.sl l) u:=by
 cases h with
 | nil=>exact .nil none 0 (Nat.zero_le _) (fun _=>rfl)
 | row _ blk cap cur hb hh hlc hcap hcs hk hr=>
  refine .sl l blk 0 cap k (fun i j=>cur.getD (i*k+j) undef) hlc hcap ⟨.inr hb,hb⟩ (Array.getElem?_eq_some_iff.1 hh).1 (fun _=>⟨_,_,hh⟩) hk ?_ ?_
  ·intro i j hi hj;have hlt:i*k+j < cur.length:=by rw[hcs];exact idx_lt (by omega) hj
   rw[cell_of_heap hh];simp[hlt]
  ·intro i cs j x hi hx;obtain⟨u,hu,hd⟩:=hr i cs j x hi hx;have e:cur.getD (i*k+j) undef=u:=by simp[List.getD,hu]
   show DRd0 w true _ x (cur.getD (i*k+j) undef);rw[e];obtain⟨v,rfl⟩:=hf cs (List.mem_of_getElem? hi) x (List.mem_of_getElem? hx)
   cases hd with
   | v _ h=>exact .v _ h
theorem PRow.new{P:Program}{f:FuncId}{ps:List PV}{e:TypeId}{k:Nat}{l:List (List DV)}(h:PRow P f ps e k l)(hf:flatL l):PNew P f ps fun N=>.d (.nw N (.sl l)):=
 fun w S vs hl hv=>(h w S vs hl hv).mono fun _ _ ⟨u,he,hb,hr⟩=>⟨u,he,hb,.d (.nw _ _ _ (hr.new hf))⟩
section
variable{P:Program}{ctx:Ctx}{Q:PQ}{s:PState}
variable{dst:Option Tmp}{ty:TypeId}{pos:String}{after:Array Edge}{gd:Option (Nat×Bool)}
theorem LR.callNw{x:Operand}{xs:List Operand}{ats:Array TypeId}{f:FuncId}{ps qs:List PV}{r:(Nat → Prop) → PV}(hc:PNew P f ps r)(hm:MonoP r)(hx:s.ev x=some (.d (.v (.func (.func f) #[] #[]))))(he:∀ args w,(callFunc f args).run P w=.ok (.enter f args) w)
  (hps:s.evs xs=some qs) (hq:qs.map PV.nilD=ps) (hd:PV.isData.isDataL ps=true) (hr:(r (newIn ctx)).isData=true) :
  Local P ctx ⟨dst,.call ⟨.value x,xs.toArray,ats⟩,ty,pos,after,gd⟩ s (s.putD dst (r (newIn ctx))):=by
 subst hq;exact LR.callAt (fun _ w g hg vs hl hv=>(hc.nilD w (Free ctx g s.objs) vs hl hv).mono fun e w' ⟨u,h1,h2,h3⟩=>⟨u,h1,h2,hm _ _ _ _ _ _ (fun b hb=>Nat.le_trans hg.grows hb) h3⟩) hx he hps (isDataL_nilD hd) hr
def Unm(N:Nat → Prop)(l l0:List (List DV)):Prop:=l.length=l0.length ∧ (∀ (i:Nat) (cs cs0:List DV),l[i]?=some cs → l0[i]?=some cs0 → cs.length=cs0.length) ∧
 ∀ (w:World) (S:Nat → Prop) (i j:Nat) (cs cs0:List DV) (x x0:DV) (u:Value),l[i]?=some cs → l0[i]?=some cs0 → cs[j]?=some x → cs0[j]?=some x0 → DRd w S x u → DRd0 w true (fun b=>S b ∧ N b) x0 u
theorem Unm.map{N:Nat → Prop}{α:Type}{encN enc:α → List DV}(hl:∀ a,(encN a).length=(enc a).length)(h:∀ (w:World) (S:Nat → Prop) (a:α) (j:Nat) (x x0:DV) (u:Value),(encN a)[j]?=some x → (enc a)[j]?=some x0 → DRd w S x u → DRd0 w true (fun b=>S b ∧ N b) x0 u)(l:List α):Unm N (l.map encN) (l.map enc):=by
 refine⟨by simp,fun i cs cs0 h1 h2=>?_,fun w S i j cs cs0 x x0 u h1 h2 h3 h4 h5=>?_⟩
 ·rw[List.getElem?_map] at h1 h2
  cases ha:l[i]? with
  | none=>simp[ha] at h1
  | some a=>simp[ha] at h1 h2;subst h1 h2;exact hl a
 ·rw[List.getElem?_map] at h1 h2
  cases ha:l[i]? with
  | none=>simp[ha] at h1
  | some a=>simp[ha] at h1 h2;subst h1 h2;exact h w S a j x x0 u h3 h4 h5
def PState.frzNw(s:PState)(id:Nat)(N:Nat → Prop)(l0:List (List DV))(js:List Nat):PState:={ n:=s.n,sl:=(s.sets (.d (.nw N (.sl l0))) js).sl,objs:=delO id s.objs }
theorem Sub.frzNw{id n k:Nat}{e:TypeId}{l l0:List (List DV)}(js:List Nat)(hK:∀ b,¬ ctx.K b)(hu:Unm (newIn ctx) l l0)(hl:look s.objs id=some (.row e k l))(hn:l.length=n)(hjs:∀ j∈js,s.at j=some (.row id n)):Sub ctx s (s.frzNw id (newIn ctx) l0 js):=by
 rintro a w ⟨g,h⟩;have hF:∀ b,Free ctx g s.objs b → Free ctx g (delO id s.objs) b:=fun b ⟨h1,h2⟩=>⟨h1,fun j o m hj hg=>by
  rw[look_delO] at hj
  split at hj
  ·cases hj
  ·exact h2 j o m hj hg⟩
 have hst:Stays w w (Free ctx g s.objs):=⟨Nat.le_refl _,fun _ _ _=>rfl⟩
 have hlk:∀ {j:Nat} {o:Ob},look (delO id s.objs) j=some o → j≠id ∧ look s.objs j=some o:=fun {j o} hj=>by
  rw[look_delO] at hj
  split at hj
  ·cases hj
  ·rename_i hne;exact⟨hne,hj⟩
 refine⟨g,⟨h.defers,h.size,?_,?_,?_,?_,h.os,h.tape,h.output,h.grows,h.keep⟩⟩
 ·intro i p hp;have old:s.at i=some p → Rd w g (Free ctx g (delO id s.objs)) p (a.tmps.getD i undef):=fun hq=>(h.slots i p hq).keep hst (fun b hb _=>hF b hb) (fun _ _=>rfl)
  have hp':(s.sets (.d (.nw (newIn ctx) (.sl l0))) js).at i=some p:=at_of (by rw[sets_len];exact at_lt (s:=s.frzNw id (newIn ctx) l0 js) hp) (at_get (s:=s.frzNw id (newIn ctx) l0 js) hp);rcases sets_get _ js s i p hp' with⟨h1,rfl⟩ | h2
  ·have hr:=h.slots i _ (hjs i h1);have hob:=h.objs id _ hl;show Rd w g (Free ctx g (delO id s.objs)) (.d (.nw (newIn ctx) (.sl l0))) (a.tmps.getD i undef)
   generalize hv:a.tmps.getD i undef=v at hr
   cases hob with
   | rowNil _ _ hgn=>
    cases hr with
    | row _ _ blk cap hgi=>rw[hgn] at hgi;cases hgi
    | rowNil=>
     have:l0=[]:=by have:=hu.1;simpa using this.symm
     subst this;exact .d (.nw _ _ _ (.nil none 0 (Nat.zero_le _) (fun _=>rfl)))
   | row _ _ _ blk' cap' cur hgi hh hlc hcap hcs hkk hr'=>
    cases hr with
    | rowNil _ hgn=>rw[hgn] at hgi;cases hgi
    | row _ _ blk cap hgi'=>
     rw[hgi] at hgi'
     cases hgi'
     subst hn;have hown:=h.own id _ blk' cap' hl hgi;have hnew:newIn ctx blk':=hown.2.elim (fun hh=>hh) fun hh=>(hK _ hh).elim
     have hfree:Free ctx g (delO id s.objs) blk':=⟨.inr hnew,fun j o m hj hgj=>by
      obtain⟨hne,hj'⟩:=hlk hj;exact hne (h.inj j id o _ blk' m cap' hj' hl hgj hgi)⟩
     rw[hu.1];refine .d (.nw _ _ _ (.sl l0 blk' 0 cap' k (fun i j=>cur.getD (i*k+j) undef) (hu.1▸hlc) hcap ⟨hfree,hnew⟩ hown.1 (fun _=>⟨_,_,hh⟩) ?_ ?_ ?_))
     ·intro i cs0 hi;have hi2:i < l.length:=by rw[hu.1];exact(List.getElem?_eq_some_iff.1 hi).1
      rw[← hu.2.1 i _ cs0 (List.getElem?_eq_getElem hi2) hi];exact hkk i _ (List.getElem?_eq_getElem hi2)
     ·intro i j hi hj;have hlt:i*k+j < cur.length:=by rw[hcs];exact idx_lt (by have:=hu.1;omega) hj
      rw[cell_of_heap hh];simp[hlt]
     ·intro i cs0 j x0 hi hx;have hi2:i < l.length:=by rw[hu.1];exact(List.getElem?_eq_some_iff.1 hi).1
      have hcs1:=List.getElem?_eq_getElem hi2;have hj2:j < l[i].length:=by rw[hu.2.1 i _ cs0 hcs1 hi];exact(List.getElem?_eq_some_iff.1 hx).1
      obtain⟨u,hu',hd⟩:=hr' i _ j _ hcs1 (List.getElem?_eq_getElem hj2);have e:cur.getD (i*k+j) undef=u:=by simp[List.getD,hu']
      show DRd0 w true _ x0 (cur.getD (i*k+j) undef);rw[e];exact(hu.2.2 w _ i j _ cs0 _ x0 u hcs1 hi (List.getElem?_eq_getElem hj2) hx hd).mono fun b hb=>⟨hF b hb.1,hb.2⟩
  ·exact old h2
 ·intro j o hj;obtain⟨_,hj'⟩:=hlk hj;exact(h.objs j o hj').keep hst (fun b hb _=>hF b hb) (fun _ _ _=>rfl) rfl (fun _ _=>rfl)
 ·intro i j oi oj b n m hi hj;exact h.inj i j oi oj b n m (hlk hi).2 (hlk hj).2
 ·intro j o b n hj;exact h.own j o b n (hlk hj).2
theorem Sub.frzCNw{id oid j n k:Nat}{e T:TypeId}{l l0:List (List DV)}{cs:List PV}(js:List Nat)(hK:∀ b,¬ ctx.K b)(hu:Unm (newIn ctx) l l0)(hl:look s.objs id=some (.row e k l))(hn:l.length=n)(hjs:∀ j∈js,s.at j=some (.row id n))
  (ho:look s.objs oid=some (.cells T cs)) (hj:cs[j]?=some (.row id n)) (hne:Nat.beq oid id=false) :
  Sub ctx s { n:=s.n,sl:=(s.sets (.d (.nw (newIn ctx) (.sl l0))) js).sl,objs:=putO oid (.cells T (cs.set j (.d (.nw (newIn ctx) (.sl l0))))) (delO id s.objs) }:=by
 have hne':oid≠id:=fun e=>by rw[e] at hne;simp at hne
 rintro a w ⟨g,h⟩;have hlk:∀ {q:Nat} {o:Ob},look (putO oid (.cells T (cs.set j (.d (.nw (newIn ctx) (.sl l0))))) (delO id s.objs)) q=some o → q≠id ∧ ∃ o',look s.objs q=some o' ∧ ((q=oid ∧ o'=.cells T cs ∧ o=.cells T (cs.set j (.d (.nw (newIn ctx) (.sl l0))))) ∨ (q≠oid ∧ o'=o)):=fun {q o} hq=>by
  rw[look_putO] at hq
  by_cases e:q=oid
  ·subst e;rw[if_pos rfl] at hq;cases hq;exact⟨hne',_,ho,.inl ⟨rfl,rfl,rfl⟩⟩
  ·rw[if_neg e,look_delO] at hq
   split at hq
   ·cases hq
   ·rename_i h2;exact⟨h2,_,hq,.inr ⟨e,rfl⟩⟩
 have hF:∀ b,Free ctx g s.objs b → Free ctx g (putO oid (.cells T (cs.set j (.d (.nw (newIn ctx) (.sl l0))))) (delO id s.objs)) b:=fun b ⟨h1,h2⟩=>⟨h1,fun q o m hq hg=>by
  obtain⟨_,o',h3,_⟩:=hlk hq;exact h2 q o' m h3 hg⟩
 have hst:Stays w w (Free ctx g s.objs):=⟨Nat.le_refl _,fun _ _ _=>rfl⟩
 have frozen:∀ u,Rd w g (Free ctx g s.objs) (.row id n) u → Rd w g (Free ctx g (putO oid (.cells T (cs.set j (.d (.nw (newIn ctx) (.sl l0))))) (delO id s.objs))) (.d (.nw (newIn ctx) (.sl l0))) u:=by
  intro u hr;have hob:=h.objs id _ hl
  cases hob with
  | rowNil _ _ hgn=>
   cases hr with
   | row _ _ blk cap hgi=>rw[hgn] at hgi;cases hgi
   | rowNil=>
    have:l0=[]:=by have:=hu.1;simpa using this.symm
    subst this;exact .d (.nw _ _ _ (.nil none 0 (Nat.zero_le _) (fun _=>rfl)))
  | row _ _ _ blk' cap' cur hgi hh hlc hcap hcs hkk hr'=>
   cases hr with
   | rowNil _ hgn=>rw[hgn] at hgi;cases hgi
   | row _ _ blk cap hgi'=>
    rw[hgi] at hgi'
    cases hgi'
    subst hn;have hown:=h.own id _ blk' cap' hl hgi;have hnew:newIn ctx blk':=hown.2.elim (fun hh=>hh) fun hh=>(hK _ hh).elim
    have hfree:Free ctx g (putO oid (.cells T (cs.set j (.d (.nw (newIn ctx) (.sl l0))))) (delO id s.objs)) blk':=⟨.inr hnew,fun q o m hq hgj=>by
     obtain⟨hne,o',hq',_⟩:=hlk hq;exact hne (h.inj q id _ _ blk' m cap' hq' hl hgj hgi)⟩
    rw[hu.1];refine .d (.nw _ _ _ (.sl l0 blk' 0 cap' k (fun i j=>cur.getD (i*k+j) undef) (hu.1▸hlc) hcap ⟨hfree,hnew⟩ hown.1 (fun _=>⟨_,_,hh⟩) ?_ ?_ ?_))
    ·intro i cs0 hi;have hi2:i < l.length:=by rw[hu.1];exact(List.getElem?_eq_some_iff.1 hi).1
     rw[← hu.2.1 i _ cs0 (List.getElem?_eq_getElem hi2) hi];exact hkk i _ (List.getElem?_eq_getElem hi2)
    ·intro i j hi hj;have hlt:i*k+j < cur.length:=by rw[hcs];exact idx_lt (by have:=hu.1;omega) hj
     rw[cell_of_heap hh];simp[hlt]
    ·intro i cs0 j x0 hi hx;have hi2:i < l.length:=by rw[hu.1];exact(List.getElem?_eq_some_iff.1 hi).1
     have hcs1:=List.getElem?_eq_getElem hi2;have hj2:j < l[i].length:=by rw[hu.2.1 i _ cs0 hcs1 hi];exact(List.getElem?_eq_some_iff.1 hx).1
     obtain⟨u,hu',hd⟩:=hr' i _ j _ hcs1 (List.getElem?_eq_getElem hj2);have e:cur.getD (i*k+j) undef=u:=by simp[List.getD,hu']
     show DRd0 w true _ x0 (cur.getD (i*k+j) undef);rw[e];exact(hu.2.2 w _ i j _ cs0 _ x0 u hcs1 hi (List.getElem?_eq_getElem hj2) hx hd).mono fun b hb=>⟨hF b hb.1,hb.2⟩
 refine⟨g,⟨h.defers,h.size,?_,?_,?_,?_,h.os,h.tape,h.output,h.grows,h.keep⟩⟩
 ·intro i p hp;have hp':(s.sets (.d (.nw (newIn ctx) (.sl l0))) js).at i=some p:=at_of (by rw[sets_len];exact at_lt (s:={ n:=s.n,sl:=(s.sets (.d (.nw (newIn ctx) (.sl l0))) js).sl,objs:=putO oid (.cells T (cs.set j (.d (.nw (newIn ctx) (.sl l0))))) (delO id s.objs) }) hp) (at_get (s:={ n:=s.n,sl:=(s.sets (.d (.nw (newIn ctx) (.sl l0))) js).sl,objs:=putO oid (.cells T (cs.set j (.d (.nw (newIn ctx) (.sl l0))))) (delO id s.objs) }) hp);rcases sets_get _ js s i p hp' with⟨h1,rfl⟩ | h2
  ·exact frozen _ (h.slots i _ (hjs i h1))
  ·exact(h.slots i p h2).keep hst (fun b hb _=>hF b hb) (fun _ _=>rfl)
 ·intro q o hq;obtain⟨hqi,o',hq',hcase⟩:=hlk hq;rcases hcase with⟨rfl,rfl,rfl⟩ | ⟨hqo,rfl⟩
  ·cases h.objs q _ ho with
   | cells _ _ blk n' us hgi hh hlen hr h1'=>
    refine .cells T _ blk n' us hgi hh (by simpa using hlen) (fun i p u hp hu=>?_) h1';rw[List.getElem?_set] at hp
    split at hp
    ·rename_i e
     subst e
     split at hp
     ·simp only[Option.some.injEq] at hp;subst hp;exact frozen u (hr j _ u hj hu)
     ·cases hp
    ·exact(hr i p u hp hu).keep hst (fun b hb _=>hF b hb) (fun _ _=>rfl)
  ·exact(h.objs q _ hq').keep hst (fun b hb _=>hF b hb) (fun _ _ _=>rfl) rfl (fun _ _=>rfl)
 ·intro i j oi oj b n m hi hj;obtain⟨_,_,h1,_⟩:=hlk hi;obtain⟨_,_,h2,_⟩:=hlk hj;exact h.inj i j _ _ b n m h1 h2
 ·intro q o b n hq;obtain⟨_,_,h1,_⟩:=hlk hq;exact h.own q _ b n h1
end
end Go.Ep
namespace Go.Ep
open Go.RowKit
section
variable{P:Program}{ctx:Ctx}{ops:Array Oper}
theorem any_orderX{s0 S:PState}{fs:List Ft}{es:List Ef}{Qx:Exit → Act → World → Prop}(i3:Nat)(ph:Bool)(hi3:i3 < ops.size)(hok:∀ {i:Nat} {e:Ef},es[i]?=some e → ∃ f,fs[i]?=some f ∧ okE f e=true)(F:DrawFacts ops fs)(hS0:startE s0 fs=true)(hlen:es.length=ops.size)
  (hY:∀ (i:Nat) (o:Oper) (f:Ft),i≠i3 → ops[i]?=some o → fs[i]?=some f → ∃ T e,es[i]?=some e ∧ InvE s0 es (fun j=>decide (j < i)) T ∧ Does P ctx ops o T f e) (hS:InvE s0 es (fun j=>decide (j < ops.size)) S)
  (hQ:ph=true → ∀ a w,Rel ctx S a w → Qx .normal a w)
  (h3:ph=false → ∀ (fuel:Nat) (listed:Array Bool) (s:PState) (a:Act) (w:World),listed.size=ops.size → listed.getD i3 false=false → (listed.setIfInBounds i3 true).toList.count false ≤ fuel → InvE s0 es (fun j=>listed.getD j false) s → DownC ops (fun j=>listed.getD j false) → DownC ops (fun j=>(listed.setIfInBounds i3 true).getD j false) → Rel ctx s a w → wpOp P ops Qx i3 (fun a' w'=>wpAny P .any ops Qx fuel (listed.setIfInBounds i3 true) a' w') a w):∀ (fuel:Nat) (listed:Array Bool) (s:PState) (a:Act) (w:World),listed.size=ops.size → listed.getD i3 false=ph → listed.toList.count false ≤ fuel → InvE s0 es (fun j=>listed.getD j false) s → DownC ops (fun j=>listed.getD j false) → Rel ctx s a w →
   wpAny P .any ops Qx fuel listed a w:=by
 have hfs:∀ i,i < ops.size → ∃ f,fs[i]?=some f:=fun i hi=>⟨fs[i]'(by rw[F.len];exact hi),List.getElem?_eq_getElem _⟩
 have okU:∀ {f:Ft} {e:Ef},okE f e=true → (∀ t,t∈e.U.map (·.1) → t∈f.ws) ∧ (∀ t,t∈e.V.map (·.1) → t∈f.wo) ∧ (∀ x∈e.U,x.2.named f.nm=true) ∧ (∀ x∈e.V,x.2.named f.no=true):=fun {f e} h=>by
  simp only[okE,Bool.and_eq_true,List.all_eq_true] at h;exact⟨fun t ht=>inL_iff.1 (h.1.1.1 t ht),fun t ht=>inL_iff.1 (h.1.1.2 t ht),h.1.2,h.2⟩
 have hall:∀ listed:Array Bool,listed.size=ops.size → Region.ready .any ops listed=[] → ∀ i,i < ops.size → listed.getD i false=true:=by
  intro listed hsz hr i
  induction i using Nat.strongRecOn with
  | _ i ih=>
   intro hi
   cases hb:listed.getD i false with
   | true=>rfl
   | false=>
    have hlt:i < listed.size:=by omega
    have hmem:i∈Region.ready .any ops listed:=by
     refine mem_ready.2 ⟨hi,?_,ops[i],Array.getElem?_eq_getElem hi,fun e he hbe=>?_⟩
     ·simp[Array.getD,hlt] at hb ⊢;exact hb
     ·have:=F.edge (Array.getElem?_eq_getElem hi) e he hbe;exact ih e.on this (by omega)
    rw[hr] at hmem
    cases hmem
 have hfin:∀ (listed:Array Bool) (s:PState) (a:Act) (w:World),listed.size=ops.size → listed.getD i3 false=ph → InvE s0 es (fun j=>listed.getD j false) s → Rel ctx s a w → Region.ready .any ops listed=[] → Qx .normal a w:=by
  intro listed s a w hsz hp3 hh hr hrdy;have ha:=hall listed hsz hrdy;have hph:ph=true:=by rw[← hp3];exact ha i3 hi3
  have hlt:∀ {β:Type} {g:Ef → Option β} {k:Nat} {x:β},(es.map g)[k]?=some (some x) → k < ops.size:=fun {β g k x} hk=>by
   have:=(List.getElem?_eq_some_iff.1 hk).1;rw[List.length_map] at this;omega
  refine hQ hph a w (Sub.drop (s:=s) (t:=S) (by rw[hh.n,hS.n]) (fun i p hp=>?_) (fun id o ho=>?_) a w hr)
  ·rw[at_eq] at hp ⊢;rw[hh.n,← hS.n,hh.sl];rw[hS.sl] at hp;rw[← hp]
   split
   ·exact cont_congr fun j x hj=>by have:=hlt hj;simp only[Nat.zero_add,ha j this,this,decide_true]
   ·rfl
  ·rw[hh.ob];rw[hS.ob] at ho;rw[← ho];exact cont_congr fun j x hj=>by have:=hlt hj;simp only[Nat.zero_add,ha j this,this,decide_true]
 intro fuel
 induction fuel with
 | zero=>
  intro listed s a w hsz hp3 hc hh _ hr;have hrdy:Region.ready .any ops listed=[]:=by
   apply List.eq_nil_iff_forall_not_mem.2;intro i hi;obtain⟨h1,h2,_⟩:=mem_ready.1 hi;have hlt:i < listed.size:=by omega
   have hm:false∈listed.toList:=by
    simp[Array.getD,hlt] at h2;rw[← h2];simp
   have:=List.count_pos_iff.2 hm;omega
  exact⟨hrdy,hfin listed s a w hsz hp3 hh hr hrdy⟩
 | succ fuel ih=>
  intro listed s a w hsz hp3 hc hh hdn hr;refine⟨hfin listed s a w hsz hp3 hh hr,fun i hi=>?_⟩;obtain⟨h1,h2,o,ho,he⟩:=mem_ready.1 hi;have hlt:i < listed.size:=by omega
  have hli:listed[i]=false:=by simpa[Array.getD,hlt] using h2
  have hi0:listed.getD i false=false:=by simp[Array.getD,hlt,hli]
  have hpr:=preds_ok F hdn ho he;have hgt0:∀ j,j≠i → (listed.setIfInBounds i true).getD j false=listed.getD j false:=fun j hj=>by
    simp[Array.getD_eq_getD_getElem?,Ne.symm hj]
  have hgi0:(listed.setIfInBounds i true).getD i false=true:=by simp[Array.getD,hlt]
  have hcs:(listed.setIfInBounds i true).toList.count false ≤ fuel:=by
   have:=count_set (l:=listed.toList) (i:=i) (by simp[hlt,hli]);simp only[Array.toList_setIfInBounds];omega
  have hdn0:DownC ops (fun j=>(listed.setIfInBounds i true).getD j false):=fun j hj k hk=>by
   by_cases hki:k=i
   ·subst hki;exact hgi0
   ·show(listed.setIfInBounds i true).getD k false=true;rw[hgt0 k hki]
    by_cases hji:j=i
    ·subst hji;exact hpr k hk
    ·exact hdn j (show listed.getD j false=true by rw[← hgt0 j hji];exact hj) k hk
  by_cases he3:i=i3
  ·subst he3;exact h3 (by rw[← hp3,hi0]) fuel listed s a w hsz hi0 hcs hh hdn hdn0 hr
  obtain⟨f,hf⟩:=hfs i h1;obtain⟨T,e,hee,hT,y⟩:=hY i o f he3 ho hf;have hre:readsOf ops i=o.looksAt ops:=by simp[readsOf,ho]
  -- how another operation stands to this one
  have hbef:∀ {j:Nat} {g:Ft},j < i → fs[j]?=some g → clash g f (readsOf ops j) (readsOf ops i)=true → listed.getD j false=true:=fun {j g} hji hg hcl=>hpr j ((F.pair hji hg hf).2 hcl)
  have haft:∀ {j:Nat} {g:Ft},i < j → fs[j]?=some g → clash f g (readsOf ops i) (readsOf ops j)=true → listed.getD j false=false:=fun {j g} hij hg hcl=>by
   cases hb:listed.getD j false with
   | false=>rfl
   | true=>have:=F.ahead hdn hij hf hg hcl hb;rw[hi0] at this;cases this
  have same:∀ {β:Type} (wr:Ef → Option β) (c:Option β),(∀ j e' g,j < i → es[j]?=some e' → (wr e').isSome=true → fs[j]?=some g → okE g e'=true → clash g f (readsOf ops j) (readsOf ops i)=true) →
    (∀ j e' g,i < j → es[j]?=some e' → (wr e').isSome=true → fs[j]?=some g → okE g e'=true → clash f g (readsOf ops i) (readsOf ops j)=true) →
    cont (es.map wr) (fun j=>listed.getD j false) 0 c=cont (es.map wr) (fun j=>decide (j < i)) 0 c:=fun {β} wr c hb ha=>by
   refine cont_congr fun j x hj=>?_
   rw[List.getElem?_map] at hj
   cases hej:es[j]? with
   | none=>rw[hej] at hj;cases hj
   | some e'=>
    rw[hej] at hj;simp only[Option.map_some,Option.some.injEq] at hj;obtain⟨g,hg,hk⟩:=hok hej;simp only[Nat.zero_add];rcases Nat.lt_trichotomy j i with hji | hji | hji
    ·rw[hbef hji hg (hb j e' g hji hej (by rw[hj];rfl) hg hk)];simp[hji]
    ·subst hji;rw[hi0];simp
    ·rw[haft hji hg (ha j e' g hji hej (by rw[hj];rfl) hg hk)];simp;omega
  have nm1:∀ {id j:Nat} {e':Ef} {g:Ft} {x:Nat×PV},fs[j]?=some g → okE g e'=true → x∈e'.U → x.2.has id=true → id∈g.nm:=fun {id j e' g x} _ hk hx hh=>PV.named_has ((okU hk).2.2.1 x hx) hh
  have nm2:∀ {id j:Nat} {e':Ef} {g:Ft} {x:Nat×Ob},fs[j]?=some g → okE g e'=true → x∈e'.V → x.2.has id=true → id∈g.no:=fun {id j e' g x} _ hk hx hh=>Ob.named_has ((okU hk).2.2.2 x hx) hh
  simp only[startE,List.all_eq_true,Bool.and_eq_true,Bool.or_eq_true,Bool.not_eq_true',bne_iff_ne,ne_eq,inL_iff] at hS0;have hSf:=hS0 f (List.mem_of_getElem? hf);refine y.run (hh.n.trans hT.n.symm) (fun t ht=>?_) (fun id hid=>?_) (fun id hid=>?_) (fun al hal=>?_) ho hr fun a' w' hr'=>?_
  ·rw[hh.sl,hT.sl];rw[← hre] at ht;exact same (fun e=>getS e.U t) _ (fun j e' g _ _ hw _ hk=>by
    have:=meets_iff.2 ⟨t,(okU hk).1 t (getS_keys.1 hw),ht⟩;simp[clash,this]) (fun j e' g _ _ hw _ hk=>by
    have:=meets_iff.2 ⟨t,ht,(okU hk).1 t (getS_keys.1 hw)⟩;simp[clash,this])
  ·rw[hh.ob,hT.ob];exact same (fun e=>look e.V id) _ (fun j e' g _ _ hw _ hk=>by
    have:=meets_iff.2 ⟨id,(okU hk).2.1 id (look_keys.1 hw),hid⟩;simp[clash,this]) (fun j e' g _ _ hw _ hk=>by
    have:=meets_iff.2 ⟨id,hid,(okU hk).2.1 id (look_keys.1 hw)⟩;simp[clash,this])
  ·refine fresh_of (fun x hx=>?_) (fun x hx=>?_)
   ·rcases hh.ms x hx with h3 | ⟨j,e',hEj,hej,hxe⟩
    ·exact(hSf.1 id hid).1 x h3
    ·cases hb:x.2.has id with
     | false=>rfl
     | true=>
      exfalso;obtain⟨g,hg,hk⟩:=hok hej;have hn:=nm1 hg hk hxe hb;rcases Nat.lt_trichotomy j i with hji | hji | hji
      ·have:=(F.pair hji hg hf).1;simp[never,meets_iff.2 ⟨id,hid,hn⟩] at this
      ·subst hji;rw[hi0] at hEj;cases hEj
      ·rw[haft hji hg (by simp[clash,meets_iff.2 ⟨id,hid,hn⟩])] at hEj;cases hEj
   ·rcases hh.mo x hx with h3 | ⟨j,e',hEj,hej,hxe⟩
    ·exact(hSf.1 id hid).2 x h3
    ·obtain⟨g,hg,hk⟩:=hok hej
     constructor
     ·intro hid2;have hn:id∈g.wo:=(okU hk).2.1 id (List.mem_map.2 ⟨x,hxe,hid2⟩);rcases Nat.lt_trichotomy j i with hji | hji | hji
      ·have:=(F.pair hji hg hf).1;simp[never,meets_iff.2 ⟨id,hid,hn⟩] at this
      ·subst hji;rw[hi0] at hEj;cases hEj
      ·rw[haft hji hg (by simp[clash,meets_iff.2 ⟨id,hid,hn⟩])] at hEj;cases hEj
     ·cases hb:x.2.has id with
      | false=>rfl
      | true=>
       exfalso;have hn:=nm2 hg hk hxe hb;rcases Nat.lt_trichotomy j i with hji | hji | hji
       ·have:=(F.pair hji hg hf).1;simp[never,meets_iff.2 ⟨id,hid,hn⟩] at this
       ·subst hji;rw[hi0] at hEj;cases hEj
       ·rw[haft hji hg (by simp[clash,meets_iff.2 ⟨id,hid,hn⟩])] at hEj;cases hEj
  ·refine alone_of (fun x hx hb=>?_) (fun x hx=>?_)
   ·rcases hh.ms x hx with h3 | ⟨j,e',hEj,hej,hxe⟩
    ·rcases(hSf.2 al hal).1 x h3 with h4 | h4
     ·rw[hb] at h4;cases h4
     ·exact h4
    ·obtain⟨g,hg,hk⟩:=hok hej;have hn:=nm1 hg hk hxe hb;rcases Nat.lt_trichotomy j i with hji | hji | hji
     ·have:=(F.pair hji hg hf).1;simp only[never,Bool.or_eq_false_iff,List.any_eq_false] at this;have h5:=this.2 al hal;simp only[Bool.or_eq_true,Bool.and_eq_true,inL_iff,Bool.not_eq_true',not_or,not_and,Bool.not_eq_false,List.all_eq_true] at h5;exact h5.2 hn _ ((okU hk).1 _ (List.mem_map.2 ⟨x,hxe,rfl⟩))
     ·subst hji;rw[hi0] at hEj;cases hEj
     ·have h6:(f.al.any fun a=>inL g.nm a.1)=true:=List.any_eq_true.2 ⟨al,hal,inL_iff.2 hn⟩;rw[haft hji hg (by simp only[clash,h6,Bool.or_true,Bool.true_or])] at hEj;cases hEj
   ·rcases hh.mo x hx with h3 | ⟨j,e',hEj,hej,hxe⟩
    ·rcases(hSf.2 al hal).2 x h3 with h4 | h4
     ·exact .inl (inL_iff.2 h4)
     ·exact .inr h4
    ·right
     cases hb:x.2.has al.1 with
     | false=>rfl
     | true=>
      exfalso;obtain⟨g,hg,hk⟩:=hok hej;have hn:=nm2 hg hk hxe hb;rcases Nat.lt_trichotomy j i with hji | hji | hji
      ·have:=(F.pair hji hg hf).1;simp only[never,Bool.or_eq_false_iff,List.any_eq_false] at this;have h5:=this.2 al hal;simp only[Bool.or_eq_true,inL_iff,not_or] at h5;exact h5.1 hn
      ·subst hji;rw[hi0] at hEj;cases hEj
      ·have h6:(f.al.any fun a=>inL g.no a.1)=true:=List.any_eq_true.2 ⟨al,hal,inL_iff.2 hn⟩;rw[haft hji hg (by simp only[clash,h6,Bool.or_true])] at hEj;cases hEj
  ·have hgt:∀ j,j≠i → (listed.setIfInBounds i true).getD j false=listed.getD j false:=fun j hj=>by
    simp[Array.getD_eq_getD_getElem?,Ne.symm hj]
   have hgi:(listed.setIfInBounds i true).getD i false=true:=by simp[Array.getD,hlt]
   refine ih _ _ a' w' (by simpa using hsz) (by rw[hgt i3 (Ne.symm he3)];exact hp3) ?_ (hh.step hee hi0 hgi hgt (fun j e' hij hej hEj t ht ht2=>?_) (fun j e' hij hej hEj t ht ht2=>?_)) (fun j hj k hk=>?_) hr'
   ·have:=count_set (l:=listed.toList) (i:=i) (by simp[hlt,hli]);simp only[Array.toList_setIfInBounds];omega
   ·obtain⟨g,hg,hk⟩:=hok hej;rw[haft hij hg (by simp[clash,meets_iff.2 ⟨t,(okU y.1).1 t ht,(okU hk).1 t ht2⟩])] at hEj;cases hEj
   ·obtain⟨g,hg,hk⟩:=hok hej;rw[haft hij hg (by simp[clash,meets_iff.2 ⟨t,(okU y.1).2.1 t ht,(okU hk).2.1 t ht2⟩])] at hEj;cases hEj
   ·by_cases hki:k=i
    ·subst hki;exact hgi
    ·show(listed.setIfInBounds i true).getD k false=true;rw[hgt k hki]
     by_cases hji:j=i
     ·subst hji;exact hpr k hk
     ·exact hdn j (show listed.getD j false=true by rw[← hgt j hji];exact hj) k hk
theorem cont_ext{β:Type}:∀ {l l':List (Option β)} {E:Nat → Bool} {b:Nat} {c:Option β},l.length=l'.length → (∀ j,E (b+j)=true → l[j]?=l'[j]?) → cont l E b c=cont l' E b c
 | [],[],_,_,_,_,_=>rfl
 | [],_::_,_,_,_,hl,_=>by cases hl
 | _::_,[],_,_,_,hl,_=>by cases hl
 | x::r,x'::r',E,b,c,hl,h=>by
  unfold cont;have h1:(bif E b then x.or c else c)=(bif E b then x'.or c else c):=by
   cases hb:E b with
   | false=>rfl
   | true=>have:=h 0 (by simpa using hb);simp at this;rw[this]
  rw[h1];exact cont_ext (by simpa using hl) fun j hj=>by have:=h (j+1) (by rw[← hj];congr 1;omega);simpa using this
theorem InvE.congr{s0 s:PState}{es es':List Ef}{E:Nat → Bool}(hl:es.length=es'.length)(he:∀ j,E j=true → es[j]?=es'[j]?)(h:InvE s0 es E s):InvE s0 es' E s:=by
 refine⟨h.n,fun t=>?_,fun id=>?_,fun x hx=>?_,fun x hx=>?_⟩
 ·rw[h.sl];exact cont_ext (by simp[hl]) fun j hj=>by rw[Nat.zero_add] at hj;simp[he j hj]
 ·rw[h.ob];exact cont_ext (by simp[hl]) fun j hj=>by rw[Nat.zero_add] at hj;simp[he j hj]
 ·rcases h.ms x hx with h1 | ⟨j,e,h1,h2,h3⟩
  ·exact .inl h1
  ·exact .inr ⟨j,e,h1,by rw[← he j h1];exact h2,h3⟩
 ·rcases h.mo x hx with h1 | ⟨j,e,h1,h2,h3⟩
  ·exact .inl h1
  ·exact .inr ⟨j,e,h1,by rw[← he j h1];exact h2,h3⟩
variable(P ctx ops) in
inductive RunH (i3:Nat):Nat → List Oper → List Ft → PState → List Ef → PState → Prop
 | nil {b:Nat} {s:PState}:RunH i3 b [] [] s [] s
 | cons {b:Nat} {o:Oper} {rest:List Oper} {f:Ft} {fs:List Ft} {s t:PState} {e:Ef} {es:List Ef} (y:b=i3 ∨ Does P ctx ops o s f e) (hk:okE f e=true) (h:RunH i3 (b+1) rest fs (s.app e) es t):RunH i3 b (o::rest) (f::fs) s (e::es) t
theorem RunH.lens{i3 b:Nat}{l:List Oper}{fs:List Ft}{s t:PState}{es:List Ef}(h:RunH P ctx ops i3 b l fs s es t):es.length=l.length ∧ ∀ (i:Nat) (e:Ef),es[i]?=some e → ∃ f,fs[i]?=some f ∧ okE f e=true:=by
 induction h with
 | nil=>exact⟨rfl,fun i e h=>by simp at h⟩
 | cons _ hk _ ih=>
  refine⟨by simp[ih.1],fun i e h=>?_⟩
  cases i with
  | zero=>simp at h;subst h;exact⟨_,by simp,hk⟩
  | succ i=>obtain⟨f,h1,h2⟩:=ih.2 i e (by simpa using h);exact⟨f,by simpa using h1,h2⟩
theorem RunH.at_{i3:Nat}:∀ {rest:List Oper} {fs:List Ft} {s t s0:PState} {es pre all:List Ef} {b:Nat},RunH P ctx ops i3 b rest fs s es t → all=pre++es → pre.length=b → InvE s0 all (fun j=>decide (j < b)) s →
  (∀ (i:Nat) (o:Oper) (f:Ft),b+i≠i3 → rest[i]?=some o → fs[i]?=some f → ∃ S e,all[b+i]?=some e ∧ InvE s0 all (fun j=>decide (j < b+i)) S ∧ Does P ctx ops o S f e) ∧ InvE s0 all (fun j=>decide (j < b+rest.length)) t:=by
 intro rest
 induction rest with
 | nil=>
  intro fs s t s0 es pre all b h _ _ hh
  cases h
  exact⟨by simp,by simpa using hh⟩
 | cons o rest ih=>
  intro fs s t s0 es pre all b h hall hb hh
  cases h with
  | @cons _ _ _ f fs _ _ e es y _ h=>
   have he:all[b]?=some e:=by subst hall;subst hb;simp
   have hst:InvE s0 all (fun j=>decide (j < b+1)) (s.app e):=hh.step he (by simp) (by simp) (fun j hj=>by
    have:(j < b+1)=(j < b):=by apply propext;omega
    simp only[this]) (fun j _ hj _ hE=>by simp at hE;omega) (fun j _ hj _ hE=>by simp at hE;omega)
   obtain⟨h1,h2⟩:=ih (b:=b+1) (pre:=pre++[e]) h (by simp[hall]) (by simp[hb]) hst;refine⟨fun i o' f' hne ho hf=>?_,by rw[List.length_cons,show b+(rest.length+1)=b+1+rest.length by omega];exact h2⟩
   cases i with
   | zero=>
    simp at ho hf;subst ho;subst hf;rcases y with y | y
    ·exact(hne (by simpa using y)).elim
    ·exact⟨s,e,he,hh,y⟩
   | succ i=>
    simp at ho hf;obtain⟨S,q,e1,e2,e3⟩:=h1 i o' f' (by omega) ho hf;exact⟨S,q,by rw[← e1];congr 1;omega,by rw[show b+(i+1)=b+1+i by omega];exact e2,e3⟩
section
variable{s:PState}{o:Oper}{f:Ft}
theorem Does.stepP{p:PV}(hl:∀ s':PState,(∀ {x q},readsX o x=true → s.ev x=some q → s'.ev x=some q) → (∀ {id ob},inL f.ro id=true → look s.objs id=some ob → look s'.objs id=some ob) → Local P ctx o s' (s'.putD o.dst p))
  (hg:Wd ops o s) (hk:okE f ⟨dstL o.dst p,[]⟩=true):Does P ctx ops o s f ⟨dstL o.dst p,[]⟩:=
 ⟨hk,.inl ⟨fun s' _ he ho _ _=>by rw[app_P];exact hl s' he fun hi=>ho (inL_iff.1 hi),hg⟩⟩
theorem Does.stepN{p:PV}{id:Nat}{ob:Ob}(hl:∀ s':PState,(∀ {x q},readsX o x=true → s.ev x=some q → s'.ev x=some q) → (∀ {id ob},inL f.ro id=true → look s.objs id=some ob → look s'.objs id=some ob) → s'.fresh id=true → Local P ctx o s' (s'.newO id ob p))
  (hfr:inL f.fr id=true) (hg:Wd ops o s) (hk:okE f ⟨[(id,p)],[(id,ob)]⟩=true):Does P ctx ops o s f ⟨[(id,p)],[(id,ob)]⟩:=
 ⟨hk,.inl ⟨fun s' _ he ho hf _=>hl s' he (fun hi=>ho (inL_iff.1 hi)) (hf id (inL_iff.1 hfr)),hg⟩⟩
theorem Does.stepS{id:Nat}{ob:Ob}(hl:∀ s':PState,(∀ {x q},readsX o x=true → s.ev x=some q → s'.ev x=some q) → (∀ {id ob},inL f.ro id=true → look s.objs id=some ob → look s'.objs id=some ob) → Local P ctx o s' (s'.setO id ob))
  (hg:Wd ops o s) (hk:okE f ⟨[],[(id,ob)]⟩=true):Does P ctx ops o s f ⟨[],[(id,ob)]⟩:=
 ⟨hk,.inl ⟨fun s' _ he ho _ _=>hl s' he fun hi=>ho (inL_iff.1 hi),hg⟩⟩
end
theorem PWc.regionX{Q:PQ}{s:PState}{id:Nat}{l:List Oper}(i3:Nat)(fs:List Ft)(es:Nat → List Ef)(t:Nat → PState)(e3:Nat → Ef)(hm:P.follows .mixedOrders=true)(hB:drawE l.toArray fs=true)(hS:startE s fs=true)(hi3:i3 < l.length)
  (hrun:∀ B,RunH P ctx l.toArray i3 0 l fs s (es B) (t B)) (hag:∀ j,j=i3 ∨ i3∈((predsOf l)[j]?).getD [] ∨ ∀ B B',(es B)[j]?=(es B')[j]?) (he3:∀ B,(es B)[i3]?=some (e3 B))
  (hkey:∀ B j e',i3 < j → i3∉((predsOf l)[j]?).getD [] → (es B)[j]?=some e' → (∀ t,t∈(e3 B).U.map (·.1) → t∉e'.U.map (·.1)) ∧ (∀ t,t∈(e3 B).V.map (·.1) → t∉e'.V.map (·.1)))
  (h3:∀ (E:Nat → Bool) (s':PState) (a:Act) (w:World),InvE s (es 0) E s' → E i3=false → (∀ j,i3∈((predsOf l)[j]?).getD [] → E j=false) → (∀ k∈((predsOf l)[i3]?).getD [],k=i3 ∨ E k=true) → Rel ctx s' a w → ∀ (K:Act → World → Prop) (Qx:Exit → Act → World → Prop),(∀ B a' w',Rel ctx (s'.app (e3 B)) a' w' → K a' w') → wpOp P l.toArray Qx i3 K a w)
  (hQ:∀ B,Q .normal (t B)):PWc P ctx (.region id l.toArray true) Q s:=by
 intro a w ⟨g,hr⟩;have F:=drawE_facts hB;have hat:=fun B=>(hrun B).at_ (all:=es B) (pre:=[]) (b:=0) (s0:=s) rfl rfl (InvE.zero fun j=>by simp)
 have hlen:∀ B,(es B).length=l.toArray.size:=fun B=>by simpa using (hrun B).lens.1
 have hY:∀ B (i:Nat) (o:Oper) (f:Ft),i≠i3 → l.toArray[i]?=some o → fs[i]?=some f → ∃ T e,(es B)[i]?=some e ∧ InvE s (es B) (fun j=>decide (j < i)) T ∧ Does P ctx l.toArray o T f e:=fun B i o f hne ho hf=>by
  obtain⟨S,e,e1,e2,e3⟩:=(hat B).1 i o f (by simpa using hne) (by simpa using ho) hf;exact⟨S,e,by simpa using e1,by simpa using e2,e3⟩
 refine wp_region_any hm ?_;refine any_orderX (es:=es 0) (s0:=s) (S:=t 0) i3 false (by simpa using hi3) (fun {i e} he=>(hrun 0).lens.2 i e he) F hS (hlen 0) (hY 0) (by simpa using (hat 0).2) (fun h=>by cases h) (fun _ fuel listed s' a' w' hsz hl3 hcnt hh hdn hdn' hr'=>?_) _ _ s a _ (by simp) (by simp[Array.getD]) ?_ ?_ ?_ ⟨g,hr.below (Below.refl _ w).drew⟩
 ·have hlt:i3 < listed.size:=by rw[hsz];simpa using hi3
  have hgt:∀ j,j≠i3 → (listed.setIfInBounds i3 true).getD j false=listed.getD j false:=fun j hj=>by
   simp[Array.getD_eq_getD_getElem?,Ne.symm hj]
  have hgi:(listed.setIfInBounds i3 true).getD i3 false=true:=by simp[Array.getD,hlt]
  have hno:∀ j,i3∈((predsOf l)[j]?).getD [] → listed.getD j false=false:=fun j hj=>by
   cases hb:listed.getD j false with
   | false=>rfl
   | true=>
    have h9:listed.getD i3 false=true:=hdn j hb i3 (by simpa using hj);rw[hl3] at h9;cases h9
  refine h3 (fun j=>listed.getD j false) s' a' w' hh hl3 hno (fun k hk=>?_) hr' _ _ fun B a'' w'' hr''=>?_
  ·by_cases hki:k=i3
   ·exact .inl hki
   ·right
    have:=hdn' i3 hgi k (by simpa using hk);show listed.getD k false=true;rw[← hgt k hki];exact this
  ·have hhB:InvE s (es B) (fun j=>listed.getD j false) s':=hh.congr ((hlen 0).trans (hlen B).symm) fun j hj=>by
    have hj':listed.getD j false=true:=hj;rcases hag j with h | h | h
    ·subst h;rw[hl3] at hj';cases hj'
    ·rw[hno j h] at hj';cases hj'
    ·exact h 0 B
   refine any_orderX (es:=es B) (s0:=s) (S:=t B) i3 true (by simpa using hi3) (fun {i e} he=>(hrun B).lens.2 i e he) F hS (hlen B) (hY B) (by simpa using (hat B).2) (fun _ a w hr=>⟨_,hQ B,hr⟩) (fun h=>by cases h) fuel _ _ a'' w'' (by simpa using hsz) hgi hcnt ?_ hdn' hr'';refine hhB.step (he3 B) hl3 hgi hgt (fun j e' hij hej hEj=>?_) (fun j e' hij hej hEj=>?_)
   ·exact(hkey B j e' hij (fun hc=>by have h9:listed.getD j false=true:=hEj;rw[hno j hc] at h9;cases h9) hej).1
   ·exact(hkey B j e' hij (fun hc=>by have h9:listed.getD j false=true:=hEj;rw[hno j hc] at h9;cases h9) hej).2
 ·simp
 ·exact InvE.zero fun j=>by simp[Array.getD]
 ·intro j hj;simp[Array.getD] at hj
end
end Go.Ep

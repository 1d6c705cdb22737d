/- Texts that the walks and laws lean on, side by side. -/
import Derived.Laws.BytesString
import Derived.Laws.IdiomStrings
import Derived.WalkSpells
import Derived.Test.YthmblgneimcgpaaGreatABe2
import Derived.Test.YthmblgneimcgpaaGreatABe3
import Derived.Test.YthmblgneimcgpaaGreatABe4
set_option linter.unusedVariables false
set_option linter.unusedSimpArgs false
namespace Go.Ep
open Go.RowKit

def OwnB (g:Ghost) (os:List (Nat × Ob)) (b:Nat):Prop:=∃ id o n,look os id = some o ∧ g id = some (b,n)
structure ObsRd (w:World) (g:Ghost) (S:Nat → Prop) (os:List (Nat × Ob)):Prop where
 rd:∀ id o,look os id = some o → ObRd w g S id o
 inj:∀ i j oi oj b n m,look os i = some oi → look os j = some oj → g i = some (b,n) → g j = some (b,m) → i = j
 lt:∀ id o b n,look os id = some o → g id = some (b,n) → b < w.heap.size

def After (w:World) (g:Ghost) (S:Nat → Prop) (os:List (Nat × Ob)) (g':Ghost) (os':List (Nat × Ob)) (b:Nat):Prop:=(S b ∨ OwnB g os b ∨ w.heap.size ≤ b) ∧ ¬ OwnB g' os' b
structure ObPost (w:World) (g:Ghost) (S:Nat → Prop) (os:List (Nat × Ob)) (pins:List Nat) (r:PV) (os':List (Nat × Ob)) (w':World) (g':Ghost) (u:Value):Prop where
 eos:w'.os = w.os
 tape:w'.tape = w.tape
 output:w'.output = w.output
 grows:w.heap.size ≤ w'.heap.size
 keep:∀ k,k < w.heap.size → ¬ OwnB g os k → w'.heap[k]? = w.heap[k]?
 own:∀ b,OwnB g' os' b → OwnB g os b ∨ w.heap.size ≤ b
 pin:∀ id ∈ pins,g' id = g id
 res:Rd w' g' (After w g S os g' os') r u
 obs:ObsRd w' g' (After w g S os g' os') os'
def PObj {G:Type} (P:Program) (f:FuncId) (ps:List PV) (os:List (Nat × Ob)) (pins:List Nat) (r:PV) (os':G → List (Nat × Ob)):Prop:=
 ∀ (w:World) (g:Ghost) (S:Nat → Prop) (vs:List Value),ps.length = vs.length → (∀ (i:Nat) (p:PV) (v:Value),ps[i]? = some p → vs[i]? = some v → Rd w g S p v) → ObsRd w g S os → (∀ b,S b → ¬ OwnB g os b) →
  Calls P f vs.toArray w (fun e w'=>∃ u g' gh,e = .returned u ∧ ObPost w g S os pins r (os' gh) w' g' u)

section
variable {ctx:Ctx}
inductive ResO (P:Program) (s:PState):ResultVar → PV → Prop
 | tmp {t:Nat} {p:PV} (h:s.at t = some p):ResO P s (.tmp t) p
 | agg {t T k id:Nat} {T0:TypeId} {cs:List PV} (ha:∀ w,(isAgg T).run P w = .ok true w) (hs:∀ w,(sizeOf T).run P w = .ok k w) (h:s.at t = some (.ref id 0)) (hl:look s.objs id = some (.cells T0 cs)) (hk:cs.length = k):ResO P s (.cell t T) (.agg cs)
 | cell {t T id:Nat} {T0:TypeId} {p:PV} (ha:∀ w,(isAgg T).run P w = .ok false w) (h:s.at t = some (.ref id 0)) (hl:look s.objs id = some (.cells T0 [p])):ResO P s (.cell t T) p
inductive ResLO (P:Program) (s:PState):List ResultVar → List PV → Prop
 | nil:ResLO P s [] []
 | cons {r:ResultVar} {p:PV} {rs:List ResultVar} {ps:List PV} (h:ResO P s r p) (t:ResLO P s rs ps):ResLO P s (r :: rs) (p :: ps)
def EndsO {G:Type} (P:Program) (ctx:Ctx) (fn:Func) (pl:List (Nat × Ob)) (r:PV) (os':G → List (Nat × Ob)):PQ:=fun e s=>(e = .normal ∨ e = .ret) ∧ ∃ gh ps t,Sub ctx s t ∧ ResLO P t fn.results.toList ps ∧ tupOf ps = r ∧
 (∀ id o,look (os' gh) id = some o → look t.objs id = some o) ∧ ∀ id o,look pl id = some o → look t.objs id = some o

variable {P:Program} {s:PState}
theorem resO_real {g:Ghost} {a:Act} {w:World} (hg:RelG ctx g s a w) {rv:ResultVar} {p:PV} (h:ResO P s rv p) :
  ∃ v,(resOne a.tmps rv).run P w = .ok v w ∧ Rd w g (Free ctx g s.objs) p v:=by
 cases h with
 | @tmp t _ h=>exact ⟨_,rfl,hg.slots t _ h⟩
 | @agg t T k id T0 cs ha hs h hl hk=>
  have hr:=hg.slots t _ h
  generalize hv:a.tmps.getD t undef = v at hr
  cases hr with
  | ref _ _ blk n hgi=>
   cases hg.objs id _ hl with
   | cells _ _ blk' n' us h' hh hlen hr' h1=>
    rw [hgi] at h'
    cases h'
    refine ⟨.agg us.toArray,?_,.agg cs us hlen hr' h1⟩;have:=run_loadAgg (P:=P) (us:=us) ha (by rw [← hlen,hk];exact hs) (w:=w) (b:=blk) (o:=0) (fun j u hu=>by rw [Nat.zero_add,cell_of_heap hh];exact hu);show (do loadVar T (← asAddr (a.tmps.getD t undef)):Sem Value).run P w = _;rw [hv];simp only [asAddr,Sem.run_bind,Sem.run_pure,Result.andThen_ok];exact this
 | @cell t T id T0 p ha h hl=>
  have hr:=hg.slots t _ h
  generalize hv:a.tmps.getD t undef = v at hr
  cases hr with
  | ref _ _ blk n hgi=>
   cases hg.objs id _ hl with
   | cells _ _ blk' n' us h' hh hlen hr' h1=>
    rw [hgi] at h'
    cases h'
    have hlt:0 < us.length:=by rw [← hlen];simp
    have hu:us[0]? = some us[0]:=List.getElem?_eq_getElem hlt;refine ⟨us[0],?_,hr' 0 p _ rfl hu⟩;have:=run_loadOne (P:=P) ha (w:=w) (ad:=⟨blk,0,none⟩) (u:=us[0]) (by rw [cell_of_heap hh];exact hu);show (do loadVar T (← asAddr (a.tmps.getD t undef)):Sem Value).run P w = _;rw [hv];simp only [asAddr,Sem.run_bind,Sem.run_pure,Result.andThen_ok];exact this
theorem resLO_real {g:Ghost} {a:Act} {w:World} (hg:RelG ctx g s a w) {rs:List ResultVar} {ps:List PV} (h:ResLO P s rs ps) :
  ∃ vs:List Value,(rs.mapM (resOne a.tmps)).run P w = .ok vs w ∧ ps.length = vs.length ∧
   ∀ (i:Nat) (p:PV) (v:Value),ps[i]? = some p → vs[i]? = some v → Rd w g (Free ctx g s.objs) p v:=by
 induction h with
 | nil=>exact ⟨[],by simp,rfl,by simp⟩
 | cons h _ ih=>
  obtain ⟨vs,h1,h2,h3⟩:=ih;obtain ⟨v,hv1,hv2⟩:=resO_real hg h;refine ⟨v :: vs,?_,by simp [h2],?_⟩
  ·simp only [List.mapM_cons,Sem.run_bind,hv1,h1,Result.andThen_ok,Sem.run_pure]
  ·intro i p u hp hu
   cases i with
   | zero=>simp at hp hu;subst hp;subst hu;exact hv2
   | succ i=>simp at hp hu;exact h3 i p u hp hu

def pinL (pv:Nat → Option (Nat × Nat)):List Nat → List (Nat × Ob)
 | []=>[]
 | id :: r=>(id + 1000,.pin id (pv id)) :: pinL pv r
theorem pinL_mem {pv:Nat → Option (Nat × Nat)} {pins:List Nat} {id:Nat} {o:Ob} (h:look (pinL pv pins) id = some o):∃ t ∈ pins,id = t + 1000 ∧ o = .pin t (pv t):=by
 induction pins with
 | nil=>simp [pinL,look] at h
 | cons t r ih=>
  simp only [pinL,look] at h
  split at h
  ·rename_i e;exact ⟨t,by simp,e,by simpa using h.symm⟩
  ·obtain ⟨t',h1,h2,h3⟩:=ih h;exact ⟨t',by simp [h1],h2,h3⟩
theorem pinL_look {pv:Nat → Option (Nat × Nat)} {pins:List Nat} {t:Nat} (h:t ∈ pins):look (pinL pv pins) (t + 1000) = some (.pin t (pv t)):=by
 induction pins with
 | nil=>cases h
 | cons q r ih=>
  simp only [pinL,look]
  by_cases e:t = q
  ·subst e;simp
  ·rw [if_neg (by omega)];exact ih ((List.mem_cons.1 h).resolve_left e)
theorem look_append (l l':List (Nat × Ob)) (id:Nat):look (l ++ l') id = (look l id).or (look l' id):=by
 induction l with
 | nil=>simp [look]
 | cons x r ih=>
  obtain ⟨k,o⟩:=x;simp only [List.cons_append,look]
  split
  ·rfl
  ·exact ih
def pinOK (ps:List PV) (os:List (Nat × Ob)) (pins:List Nat):Bool:=
 pins.all fun t=>ps.all (fun p=>!p.has (t + 1000)) && os.all (fun x=>x.1 != t + 1000 && !x.2.has (t + 1000)) && pins.all (fun t'=>t' + 1000 != t)

theorem PObj.intro {G:Type} {f:FuncId} {fn:Func} {c:Code} {ps:List PV} {os:List (Nat × Ob)} {pins:List Nat} {r:PV} {os':G → List (Nat × Ob)} {n:Nat} {sl:List (Nat × PV)} (hf:P.funcs[f]? = some fn) (hb:fn.body = some c) (hn:fn.ntmps = n) (hsl:args 0 ps = sl) (hpn:Nat.ble ps.length n = true) (hpin:pinOK ps os pins = true)
  (body:∀ ctx:Ctx,(∀ b,ctx.K b → ctx.S b) → ∀ pv:Nat → Option (Nat × Nat),PWc P ctx c (EndsO P ctx fn (pinL pv pins) r os') ⟨n,sl,os ++ pinL pv pins⟩):PObj P f ps os pins r os':=by
 intro w g S vs hlen hreal hobs hdis
 let ctx:Ctx:=⟨w,fun b=>S b ∨ OwnB g os b,OwnB g os⟩
 let pv:Nat → Option (Nat × Nat):=g
 let g1:Ghost:=fun j=>if pins.any (fun t=>j == t + 1000) then none else g j
 simp only [pinOK,List.all_eq_true,Bool.and_eq_true,Bool.not_eq_true',bne_iff_ne,ne_eq] at hpin;have g1pin:∀ t ∈ pins,g1 (t + 1000) = none:=fun t ht=>by
  have:(pins.any fun t'=>t + 1000 == t' + 1000) = true:=List.any_eq_true.2 ⟨t,ht,by simp⟩;simp only [g1,this,if_true]
 have g1ne:∀ j,(∀ t ∈ pins,j ≠ t + 1000) → g1 j = g j:=fun j hj=>by
  have:(pins.any fun t'=>j == t' + 1000) = false:=by
   rw [List.any_eq_false];intro t ht;simpa using hj t ht
  simp only [g1,this,Bool.false_eq_true,if_false]
 have g1p:∀ p ∈ ps,∀ j,p.has j = true → g1 j = g j:=fun p hp j hj=>g1ne j fun t ht e=>by
  have:=(hpin t ht).1.1 p hp;rw [← e,hj] at this
  cases this
 have hosk:∀ id o,look os id = some o → ∀ t ∈ pins,id ≠ t + 1000:=fun id o ho t ht=>((hpin t ht).1.2 _ (look_mem ho)).1
 have g1k:∀ id o,look os id = some o → g1 id = g id:=fun id o ho=>g1ne id (hosk id o ho)
 have g1o:∀ id o,look os id = some o → ∀ j,o.has j = true → g1 j = g j:=fun id o ho j hj=>g1ne j fun t ht e=>by
  have:=((hpin t ht).1.2 _ (look_mem ho)).2;simp only at this;rw [← e,hj] at this
  cases this
 have hgp:∀ t ∈ pins,g t = pv t:=fun t _=>rfl
 have hlook:∀ id o,look (os ++ pinL pv pins) id = some o → look os id = some o ∨ ∃ t ∈ pins,id = t + 1000 ∧ o = .pin t (pv t):=fun id o h=>by
  rw [look_append] at h
  cases hl:look os id with
  | none=>rw [hl,Option.none_or] at h;exact .inr (pinL_mem h)
  | some q=>rw [hl,Option.some_or] at h;exact .inl h
 have hfree:∀ b,S b → Free ctx g1 (os ++ pinL pv pins) b:=fun b hb=>⟨.inl (.inl hb),fun id o n ho hg=>by
  rcases hlook id o ho with h | ⟨t,ht,h,_⟩
  ·rw [g1k id o h] at hg;exact hdis b hb ⟨id,o,n,h,hg⟩
  ·rw [h,g1pin t ht] at hg;cases hg⟩
 have hst:Stays w w S:=⟨Nat.le_refl _,fun _ _ _=>rfl⟩
 have hpl:vs.length ≤ n:=by rw [← hlen];exact Nat.le_of_ble_eq_true hpn
 refine calls_of_wp hf hb ?_;subst hsl;have hrel:RelG ctx g1 ⟨n,args 0 ps,os ++ pinL pv pins⟩ { tmps:=vs.toArray ++ Array.replicate (fn.ntmps - vs.toArray.size) undef,defers:=[] } w:=by
  rw [hn];refine ⟨rfl,by simp;omega,?_,?_,?_,?_,rfl,rfl,rfl,Nat.le_refl _,fun _ _ _=>rfl⟩
  ·intro i p hp;obtain ⟨j,h1,h2⟩:=args_get (at_get hp);have e:i = j:=by omega
   subst e;have hi':i < vs.length:=by rw [← hlen];exact (List.getElem?_eq_some_iff.1 h2).1
   have hv:vs[i]? = some vs[i]:=List.getElem?_eq_getElem hi';have e:(vs.toArray ++ Array.replicate (n - vs.toArray.size) undef).getD i undef = vs[i]:=by
    simp [Array.getD_eq_getD_getElem?,Array.getElem?_append,hi']
   rw [e];exact (hreal i p _ h2 hv).keep (w':=w) (g':=g1) hst (fun b hb _=>hfree b hb) (fun j hj=>g1p p (List.mem_of_getElem? h2) j hj)
  ·intro id o ho;rcases hlook id o ho with h | ⟨t,ht,rfl,rfl⟩
   ·exact (hobs.rd id o h).keep hst (fun b hb _=>hfree b hb) (fun _ _ _=>rfl) (g1k id o h) (g1o id o h)
   ·refine .pin t _ (g1pin t ht) ?_;rw [g1ne t fun t' ht' e=>(hpin t ht).2 t' ht' e.symm]
  ·intro i j oi oj b n m hi hj hgi hgj;rcases hlook i oi hi with h | ⟨t,ht,rfl,_⟩
   ·rcases hlook j oj hj with h2 | ⟨t,ht,rfl,_⟩
    ·rw [g1k i oi h] at hgi;rw [g1k j oj h2] at hgj;exact hobs.inj i j oi oj b n m h h2 hgi hgj
    ·rw [g1pin t ht] at hgj;cases hgj
   ·rw [g1pin t ht] at hgi;cases hgi
  ·intro id o b n ho hg;rcases hlook id o ho with h | ⟨t,ht,rfl,_⟩
   ·rw [g1k id o h] at hg;exact ⟨hobs.lt id o b n h hg,.inr ⟨id,o,n,h,hg⟩⟩
   ·rw [g1pin t ht] at hg;cases hg
 refine wp_mono (body ctx (fun b h=>.inr h) pv _ w ⟨g1,hrel⟩) fun e a' w' ⟨s1,⟨he,gh,qs,t,hsub,hres,hq,hos,hpl'⟩,hr1⟩=>?_
 have main:a'.defers = [] ∧ ∃ v,(results fn a'.tmps).run P w' = .ok v w' ∧ (∃ u g' gh,Ending.returned v = .returned u ∧ ObPost w g S os pins r (os' gh) w' g' u):=by
  obtain ⟨g2,hg⟩:=hsub a' w' hr1;obtain ⟨us,h1,h2,h3⟩:=resLO_real hg hres;have hrun:(results fn a'.tmps).run P w' = .ok (if h:us.toArray.size = 1 then us.toArray[0] else .tuple us.toArray) w':=by
   rw [results_eq,Array.mapM_eq_mapM_toList];simp only [Sem.run_bind,Sem.run_map,h1,Result.andThen_ok,Sem.run_pure]
  have hFA:∀ b,Free ctx g2 t.objs b → After w g S os g2 (os' gh) b:=fun b ⟨f1,f2⟩=>⟨by
   rcases f1 with (f1 | f1) | f1
   ·exact .inl f1
   ·exact .inr (.inl f1)
   ·exact .inr (.inr f1),fun ⟨id,o,n,h4,h5⟩=>f2 id o n (hos id o h4) h5⟩
  have hst':Stays w' w' (Free ctx g2 t.objs):=⟨Nat.le_refl _,fun _ _ _=>rfl⟩
  refine ⟨hg.defers,_,hrun,_,g2,gh,rfl,hg.os,hg.tape,hg.output,hg.grows,hg.keep,fun b ⟨id,o,n,h4,h5⟩=>?_,fun id hid=>?_,?_,⟨fun id o h4=>(hg.objs id o (hos id o h4)).keep hst' (fun b hb _=>hFA b hb) (fun _ _ _=>rfl) rfl (fun _ _=>rfl),fun i j oi oj b n m hi hj=>hg.inj i j oi oj b n m (hos i oi hi) (hos j oj hj),fun id o b n h4 h5=>(hg.own id o b n (hos id o h4) h5).1⟩⟩
  ·rcases (hg.own id o b n (hos id o h4) h5).2 with h6 | h6
   ·exact .inr h6
   ·exact .inl h6
  ·have h6:=hg.objs _ _ (hpl' _ _ (pinL_look (pv:=pv) hid))
   cases h6 with
   | pin _ _ _ ht=>rw [ht,hgp id hid]
  ·have hk:∀ {p:PV} {v:Value},Rd w' g2 (Free ctx g2 t.objs) p v → Rd w' g2 (After w g S os g2 (os' gh)) p v:=fun h=>h.keep hst' (fun b hb _=>hFA b hb) (fun _ _=>rfl)
   subst hq
   match qs,us,h2,h3 with
   | [p],[u],_,h3=>exact hk (h3 0 p u rfl rfl)
   | [],[],_,h3=>exact .tup [] [] rfl (by simp)
   | p :: q :: ps,u :: v :: us,h2,h3=>
    have hne:¬ (u :: v :: us).toArray.size = 1:=by simp
    rw [dif_neg hne];exact .tup _ _ h2 fun i p u hp hu=>hk (h3 i p u hp hu)
 rcases he with rfl | rfl
 ·exact main
 ·exact main
end
end Go.Ep
namespace Go.Ep
open Go.RowKit
def rn (ρ:List (Nat × Nat)) (i:Nat):Nat:=match ρ with
 | []=>i
 | (a,b) :: r=>bif Nat.beq a i then b else rn r i
mutual
def PV.ren (ρ:List (Nat × Nat)):PV → PV
 | .ref i o=>.ref (rn ρ i) o
 | .row i n=>.row (rn ρ i) n
 | .rp i a b c=>.rp (rn ρ i) a b c
 | .pc i a b c=>.pc (rn ρ i) a b c
 | .mp i=>.mp (rn ρ i)
 | .pa i o n=>.pa (rn ρ i) o n
 | .agg cs=>.agg (PV.renL ρ cs)
 | .tup cs=>.tup (PV.renL ρ cs)
 | p=>p
def PV.renL (ρ:List (Nat × Nat)):List PV → List PV
 | []=>[]
 | c :: r=>c.ren ρ :: PV.renL ρ r
end
def Ob.ren (ρ:List (Nat × Nat)):Ob → Ob
 | .cells T cs=>.cells T (PV.renL ρ cs)
 | .iterO mid bs ck L=>.iterO (rn ρ mid) bs ck L
 | .pin t x=>.pin (rn ρ t) x
 | .mapP ks m ov bs ck=>.mapP ks m (ov.map fun x=>(x.1,x.2.ren ρ)) bs ck
 | o=>o
theorem renL_map (ρ:List (Nat × Nat)):∀ cs:List PV,PV.renL ρ cs = cs.map (PV.ren ρ)
 | []=>by simp [PV.renL]
 | c :: r=>by simp [PV.renL,renL_map ρ r]
section
variable {w:World} {g:Ghost} {S:Nat → Prop} {ρ:List (Nat × Nat)}
theorem Rd.ren {p:PV} {v:Value} (h:Rd w (fun i=>g (rn ρ i)) S p v):Rd w g S (p.ren ρ) v:=by
 induction h with
 | junk u=>exact .junk u
 | und=>exact .und
 | d h=>exact .d h
 | agg cs us hl h h1 ih=>
  rw [PV.ren,renL_map];refine .agg _ us (by simpa using hl) (fun i p u hp hu=>?_) h1;rw [List.getElem?_map] at hp
  cases hc:cs[i]? with
  | none=>rw [hc] at hp;cases hp
  | some q=>rw [hc] at hp;simp only [Option.map_some,Option.some.injEq] at hp;subst hp;exact ih i q u hc hu
 | tup cs us hl h ih=>
  rw [PV.ren,renL_map];refine .tup _ us (by simpa using hl) (fun i p u hp hu=>?_);rw [List.getElem?_map] at hp
  cases hc:cs[i]? with
  | none=>rw [hc] at hp;cases hp
  | some q=>rw [hc] at hp;simp only [Option.map_some,Option.some.injEq] at hp;subst hp;exact ih i q u hc hu
 | ref id off blk n h=>exact .ref _ off blk n h
 | row id n blk cap h=>exact .row _ n blk cap h
 | rowNil id h=>exact .rowNil _ h
 | rp id i off k blk cap h=>exact .rp _ i off k blk cap h
 | pc id i n k blk cap h hi=>exact .pc _ i n k blk cap h hi
 | pc0 id i k a c=>exact .pc0 _ i k a c
 | ep cs b off o c hS hb hc hr=>exact .ep cs b off o c hS hb hc hr
 | mp id blk n h=>exact .mp _ blk n h
 | pa id off n blk c h=>exact .pa _ off n blk c h
 | mpNil id h=>exact .mpNil _ h
 | md ks ag m bs ck b es hS hb hh hm=>exact .md ks ag m bs ck b es hS hb hh hm
 | mdNil ks ag=>exact .mdNil ks ag
 | clo f cs us hl h=>exact .clo f cs us hl h
theorem Rd.unren {q:PV} {v:Value} (h:Rd w g S q v):∀ {p:PV},q = p.ren ρ → Rd w (fun i=>g (rn ρ i)) S p v:=by
 induction h with
 | junk u=>intro p hp;cases p <;> simp only [PV.ren,reduceCtorEq] at hp;exact .junk u
 | und=>intro p hp;cases p <;> simp only [PV.ren,reduceCtorEq] at hp;exact .und
 | d h=>intro p hp;cases p <;> simp only [PV.ren,reduceCtorEq,PV.d.injEq] at hp;subst hp;exact .d h
 | agg cs us hl h h1 ih=>
  intro p hp
  cases p <;> simp only [PV.ren,reduceCtorEq,PV.agg.injEq] at hp
  rename_i cs'
  rw [renL_map] at hp;subst hp;exact .agg cs' us (by simpa using hl) (fun i p u hp hu=>ih i (p.ren ρ) u (by simp [hp]) hu rfl) h1
 | tup cs us hl h ih=>
  intro p hp
  cases p <;> simp only [PV.ren,reduceCtorEq,PV.tup.injEq] at hp
  rename_i cs'
  rw [renL_map] at hp;subst hp;exact .tup cs' us (by simpa using hl) (fun i p u hp hu=>ih i (p.ren ρ) u (by simp [hp]) hu rfl)
 | ref id off blk n h=>
  intro p hp
  cases p <;> simp only [PV.ren,reduceCtorEq,PV.ref.injEq] at hp
  obtain ⟨rfl,rfl⟩:=hp;exact .ref _ _ blk n h
 | row id n blk cap h=>
  intro p hp
  cases p <;> simp only [PV.ren,reduceCtorEq,PV.row.injEq] at hp
  obtain ⟨rfl,rfl⟩:=hp;exact .row _ _ blk cap h
 | rowNil id h=>
  intro p hp
  cases p <;> simp only [PV.ren,reduceCtorEq,PV.row.injEq] at hp
  obtain ⟨rfl,rfl⟩:=hp;exact .rowNil _ h
 | rp id i off k blk cap h=>
  intro p hp
  cases p <;> simp only [PV.ren,reduceCtorEq,PV.rp.injEq] at hp
  obtain ⟨rfl,rfl,rfl,rfl⟩:=hp;exact .rp _ _ _ _ blk cap h
 | pc id i n k blk cap h hi=>
  intro p hp
  cases p <;> simp only [PV.ren,reduceCtorEq,PV.pc.injEq] at hp
  obtain ⟨rfl,rfl,rfl,rfl⟩:=hp;exact .pc _ _ _ _ blk cap h hi
 | pc0 id i k a c=>
  intro p hp
  cases p <;> simp only [PV.ren,reduceCtorEq,PV.pc.injEq] at hp
  obtain ⟨rfl,rfl,rfl,rfl⟩:=hp;exact .pc0 _ _ _ a c
 | ep cs b off o c hS hb hc hr=>
  intro p hp
  cases p <;> simp only [PV.ren,reduceCtorEq,PV.ep.injEq] at hp
  obtain ⟨rfl,rfl⟩:=hp;exact .ep _ b off _ c hS hb hc hr
 | mp id blk n h=>
  intro p hp
  cases p <;> simp only [PV.ren,reduceCtorEq,PV.mp.injEq] at hp
  subst hp;exact .mp _ blk n h
 | pa id off n blk c h=>
  intro p hp
  cases p <;> simp only [PV.ren,reduceCtorEq,PV.pa.injEq] at hp
  obtain ⟨rfl,rfl,rfl⟩:=hp;exact .pa _ _ _ blk c h
 | mpNil id h=>
  intro p hp
  cases p <;> simp only [PV.ren,reduceCtorEq,PV.mp.injEq] at hp
  subst hp;exact .mpNil _ h
 | md ks ag m bs ck b es hS hb hh hm=>
  intro p hp
  cases p <;> simp only [PV.ren,reduceCtorEq,PV.md.injEq] at hp
  obtain ⟨rfl,rfl,rfl⟩:=hp;exact .md _ _ _ bs ck b es hS hb hh hm
 | mdNil ks ag=>
  intro p hp
  cases p <;> simp only [PV.ren,reduceCtorEq,PV.md.injEq] at hp
  obtain ⟨rfl,rfl,rfl⟩:=hp;exact .mdNil _ _
 | clo f cs us hl h=>
  intro p hp
  cases p <;> simp only [PV.ren,reduceCtorEq,PV.clo.injEq] at hp
  obtain ⟨rfl,rfl⟩:=hp;exact .clo _ _ us hl h
theorem ObRd.ren {id:Nat} {o:Ob} (h:ObRd w (fun i=>g (rn ρ i)) S id o):ObRd w g S (rn ρ id) (o.ren ρ):=by
 cases h with
 | cells T cs blk n us h hh hl hr h1=>
  rw [Ob.ren,renL_map];refine .cells T _ blk n us h hh (by simpa using hl) (fun i p u hp hu=>?_) h1;rw [List.getElem?_map] at hp
  cases hc:cs[i]? with
  | none=>rw [hc] at hp;cases hp
  | some q=>rw [hc] at hp;simp only [Option.map_some,Option.some.injEq] at hp;subst hp;exact (hr i q u hc hu).ren
 | rowNil T k h=>exact .rowNil T k h
 | row T k l blk cap cur h hh hlc hcap hcs hkk hr=>exact .row T k l blk cap cur h hh hlc hcap hcs hkk hr
 | map ks ag m bs ck blk n es h hh hm=>exact .map ks ag m bs ck blk n es h hh hm
 | mapNil ks ag ck h=>exact .mapNil ks ag ck h
 | mapN ks ag m bs ck blk n es h hh hm=>exact .mapN ks ag m bs ck blk n es h hh hm
 | mapHNil ks ag h=>exact .mapHNil ks ag h
 | mapH ks ag m bs ck blk n es h hh hm=>exact .mapH ks ag m bs ck blk n es h hh hm
 | iterO mid bs ck L blk n b n' h hh hm=>exact .iterO _ bs ck L blk n b n' h hh hm
 | iterON mid ck blk n h hh hm=>exact .iterON _ ck blk n h hh hm
 | iterD ks ag m bs ck L blk n b es h hh hs hb hb2 hm=>exact .iterD ks ag m bs ck L blk n b es h hh hs hb hb2 hm
 | iterN ks ag blk n h hh=>exact .iterN ks ag blk n h hh
 | pin tgt x h ht=>exact .pin _ x h ht
 | mapP ks m ov bs ck blk n es h hh hsz hst hbl hnd hent hov=>
  rw [Ob.ren];refine .mapP ks m _ bs ck blk n es h hh hsz hst hbl hnd (fun i ns u hi=>?_) fun j p hj=>?_
  ·obtain ⟨e,h1,h2,h3,h4,h5⟩:=hent i ns u hi;refine ⟨e,h1,h2,h3,h4,fun hne=>h5 fun p hp=>?_⟩;exact hne (p.ren ρ) (by rw [hp];rfl)
  ·cases ov with
   | none=>cases hj
   | some x=>
    obtain ⟨j',p'⟩:=x;simp only [Option.map_some,Option.some.injEq,Prod.mk.injEq] at hj;obtain ⟨rfl,rfl⟩:=hj;obtain ⟨e,h1,h2⟩:=hov _ _ rfl;exact ⟨e,h1,h2.ren⟩
theorem ObRd.unren {j:Nat} {q:Ob} (h:ObRd w g S j q):∀ {id:Nat} {o:Ob},j = rn ρ id → q = o.ren ρ → ObRd w (fun i=>g (rn ρ i)) S id o:=by
 intro id o hj hq;subst hj
 cases h with
 | cells T cs blk n us h hh hl hr h1=>
  cases o <;> simp only [Ob.ren,reduceCtorEq,Ob.cells.injEq] at hq
  obtain ⟨rfl,rfl⟩:=hq;rw [renL_map] at hl hr;exact .cells _ _ blk n us h hh (by simpa using hl) (fun i p u hp hu=>(hr i (p.ren ρ) u (by simp [hp]) hu).unren rfl) h1
 | rowNil T k h=>
  cases o <;> simp only [Ob.ren,reduceCtorEq,Ob.row.injEq] at hq
  obtain ⟨rfl,rfl,rfl⟩:=hq;exact .rowNil _ _ h
 | row T k l blk cap cur h hh hlc hcap hcs hkk hr=>
  cases o <;> simp only [Ob.ren,reduceCtorEq,Ob.row.injEq] at hq
  obtain ⟨rfl,rfl,rfl⟩:=hq;exact .row _ _ _ blk cap cur h hh hlc hcap hcs hkk hr
 | map ks ag m bs ck blk n es h hh hm=>
  cases o <;> simp only [Ob.ren,reduceCtorEq,Ob.map.injEq] at hq
  obtain ⟨rfl,rfl,rfl,rfl,rfl⟩:=hq;exact .map _ _ _ _ _ blk n es h hh hm
 | mapNil ks ag ck h=>
  cases o <;> simp only [Ob.ren,reduceCtorEq,Ob.mapN.injEq] at hq
  obtain ⟨rfl,rfl,rfl,rfl,rfl,rfl⟩:=hq;exact .mapNil _ _ _ h
 | mapN ks ag m bs ck blk n es h hh hm=>
  cases o <;> simp only [Ob.ren,reduceCtorEq,Ob.mapN.injEq] at hq
  obtain ⟨rfl,rfl,rfl,rfl,rfl,rfl⟩:=hq;exact .mapN _ _ _ _ _ blk n es h hh hm
 | mapHNil ks ag h=>
  cases o <;> simp only [Ob.ren,reduceCtorEq,Ob.mapH.injEq] at hq
  obtain ⟨rfl,rfl,rfl,rfl⟩:=hq;exact .mapHNil _ _ h
 | mapH ks ag m bs ck blk n es h hh hm=>
  cases o <;> simp only [Ob.ren,reduceCtorEq,Ob.mapH.injEq] at hq
  obtain ⟨rfl,rfl,rfl,rfl⟩:=hq;exact .mapH _ _ _ _ _ blk n es h hh hm
 | iterO mid bs ck L blk n b n' h hh hm=>
  cases o <;> simp only [Ob.ren,reduceCtorEq,Ob.iterO.injEq] at hq
  obtain ⟨rfl,rfl,rfl,rfl⟩:=hq;exact .iterO _ _ _ _ blk n b n' h hh hm
 | iterON mid ck blk n h hh hm=>
  cases o <;> simp only [Ob.ren,reduceCtorEq,Ob.iterO.injEq] at hq
  obtain ⟨rfl,rfl,rfl,rfl⟩:=hq;exact .iterON _ _ blk n h hh hm
 | iterD ks ag m bs ck L blk n b es h hh hs hb hb2 hm=>
  cases o <;> simp only [Ob.ren,reduceCtorEq,Ob.iterD.injEq] at hq
  obtain ⟨rfl,rfl,rfl,rfl,rfl,rfl⟩:=hq;exact .iterD _ _ _ _ _ _ blk n b es h hh hs hb hb2 hm
 | iterN ks ag blk n h hh=>
  cases o <;> simp only [Ob.ren,reduceCtorEq,Ob.iterD.injEq] at hq
  obtain ⟨rfl,rfl,rfl,rfl,rfl,rfl⟩:=hq;exact .iterN _ _ blk n h hh
 | pin tgt x h ht=>
  cases o <;> simp only [Ob.ren,reduceCtorEq,Ob.pin.injEq] at hq
  obtain ⟨rfl,rfl⟩:=hq;exact .pin _ _ h ht
 | mapP ks m ov bs ck blk n es h hh hsz hst hbl hnd hent hov=>
  cases o <;> simp only [Ob.ren,reduceCtorEq,Ob.mapP.injEq] at hq
  rename_i ov' _ _
  obtain ⟨rfl,rfl,rfl,rfl,rfl⟩:=hq;refine .mapP _ _ _ _ _ blk n es h hh hsz hst hbl hnd (fun i ns u hi=>?_) fun j p hj=>?_
  ·obtain ⟨e,h1,h2,h3,h4,h5⟩:=hent i ns u hi;refine ⟨e,h1,h2,h3,h4,fun hne=>h5 fun p hp=>?_⟩
   cases ov' with
   | none=>cases hp
   | some x=>
    simp only [Option.map_some,Option.some.injEq,Prod.mk.injEq] at hp;exact hne x.2 (by rw [← hp.1])
  ·subst hj;obtain ⟨e,h1,h2⟩:=hov j (p.ren ρ) rfl;exact ⟨e,h1,h2.unren rfl⟩
end
end Go.Ep
namespace Go.Ep
open Go.RowKit
def PState.callO (s:PState) (ρ:List (Nat × Nat)) (js:List Nat) (os os':List (Nat × Ob)):PState:=
 { n:=s.n,sl:=(s.junks js).sl,objs:=os'.foldr (fun x l=>putO (rn ρ x.1) (x.2.ren ρ) l) (os.foldr (fun x l=>delO (rn ρ x.1) l) s.objs) }
inductive AllOb (s:PState) (ρ:List (Nat × Nat)):List (Nat × Ob) → Prop
 | nil:AllOb s ρ []
 | cons {id:Nat} {o:Ob} {r:List (Nat × Ob)} (h:look s.objs (rn ρ id) = some (o.ren ρ)) (t:AllOb s ρ r):AllOb s ρ ((id,o) :: r)
theorem AllOb.get {s:PState} {ρ:List (Nat × Nat)} {os:List (Nat × Ob)} (h:AllOb s ρ os):∀ id o,look os id = some o → look s.objs (rn ρ id) = some (o.ren ρ):=by
 induction h with
 | nil=>intro id o h;simp [look] at h
 | cons h _ ih=>
  intro id o hl;simp only [look] at hl
  split at hl
  ·rename_i e;subst e;cases hl;exact h
  ·exact ih id o hl
def callOK (s:PState) (ρ:List (Nat × Nat)) (js okeys pins ks:List Nat):Bool:=
 ((okeys ++ ks).all fun i=>(okeys ++ ks).all fun j=>Nat.beq i j || !Nat.beq (rn ρ i) (rn ρ j)) && ks.all (fun i=>inL okeys i || s.fresh (rn ρ i)) &&
 ks.all fun i=>inL pins i || (chkS (rn ρ i) (s.junks js).sl (s.junks js).sl && s.objs.all fun x=>!x.2.has (rn ρ i) || inL (okeys.map (rn ρ)) x.1)
theorem lookR {ρ:List (Nat × Nat)} {acc:List (Nat × Ob)} {j:Nat} {o:Ob}:∀ {l:List (Nat × Ob)},look (l.foldr (fun x acc=>putO (rn ρ x.1) (x.2.ren ρ) acc) acc) j = some o → (∃ i o1,look l i = some o1 ∧ j = rn ρ i ∧ o = o1.ren ρ) ∨ ((∀ i ∈ l.map (·.1),rn ρ i ≠ j) ∧ look acc j = some o)
 | [],h=>.inr ⟨by simp,h⟩
 | (k,q) :: r,h=>by
  rw [List.foldr_cons,look_putO] at h
  by_cases e:j = rn ρ k
  ·rw [if_pos e] at h;exact .inl ⟨k,q,by simp [look],e,by simpa using h.symm⟩
  ·rw [if_neg e] at h;rcases lookR h with ⟨i,o1,h1,h2,h3⟩ | ⟨h1,h2⟩
   ·refine .inl ⟨i,o1,?_,h2,h3⟩;simp only [look];rw [if_neg (fun e2=>e (by rw [h2,e2]))];exact h1
   ·refine .inr ⟨fun i hi=>?_,h2⟩;simp only [List.map_cons,List.mem_cons] at hi;rcases hi with rfl | hi
    ·exact fun e2=>e e2.symm
    ·exact h1 i hi
theorem lookD {ρ:List (Nat × Nat)} {acc:List (Nat × Ob)} {j:Nat} {o:Ob}:∀ {l:List (Nat × Ob)},look (l.foldr (fun x acc=>delO (rn ρ x.1) acc) acc) j = some o → (∀ i ∈ l.map (·.1),rn ρ i ≠ j) ∧ look acc j = some o
 | [],h=>⟨by simp,h⟩
 | (k,q) :: r,h=>by
  rw [List.foldr_cons,look_delO] at h
  by_cases e:j = rn ρ k
  ·rw [if_pos e] at h;cases h
  ·rw [if_neg e] at h;obtain ⟨h1,h2⟩:=lookD h;refine ⟨fun i hi=>?_,h2⟩;simp only [List.map_cons,List.mem_cons] at hi;rcases hi with rfl | hi
   ·exact fun e2=>e e2.symm
   ·exact h1 i hi
theorem look_key {l:List (Nat × Ob)} {i:Nat} {o:Ob} (h:look l i = some o):i ∈ l.map (·.1):=List.mem_map.2 ⟨(i,o),look_mem h,rfl⟩
section
variable {P:Program} {ctx:Ctx} {s:PState}
theorem callObj_core {G:Type} {f:FuncId} {ps qs:List PV} {os:List (Nat × Ob)} {pins:List Nat} {r:PV} {os':G → List (Nat × Ob)} (ρ:List (Nat × Nat)) (js ks:List Nat) (hc:PObj P f ps os pins r os') (hK:∀ b,ctx.K b → ctx.S b) (hq:qs.map PV.nilD = ps.map (PV.ren ρ)) (hos:AllOb s ρ os)
  (hks:∀ gh,(os' gh).map (·.1) = ks) (hcl:∀ gh,(os' gh).all (fun x=>x.2.named ks) = true) (hr:r.named ks = true) (hok:callOK s ρ js (os.map (·.1)) pins ks = true) {g:Ghost} {a:Act} {w:World} (hg:RelG ctx g s a w) {vs:List Value} (hlen:qs.length = vs.length)
  (hreal:∀ (i:Nat) (q:PV) (v:Value),qs[i]? = some q → vs[i]? = some v → Rd w g (Free ctx g s.objs) q v) (dst:Option Nat) :
  Calls P f vs.toArray w (fun e w'=>∃ u gh,e = .returned u ∧ Rel ctx ((s.callO ρ js os (os' gh)).putD dst (r.ren ρ)) (a.put dst u) w'):=by
 let g0:Ghost:=fun i=>g (rn ρ i)
 have hlo:=hos.get;simp only [callOK,Bool.and_eq_true,List.all_eq_true,Bool.or_eq_true,Bool.not_eq_true'] at hok;obtain ⟨⟨hinj0,hfresh⟩,hnm⟩:=hok;have hinj:∀ i j,i ∈ os.map (·.1) ++ ks → j ∈ os.map (·.1) ++ ks → rn ρ i = rn ρ j → i = j:=fun i j hi hj e=>by
  rcases hinj0 i hi j hj with h | h
  ·exact Nat.eq_of_beq_eq_true h
  ·rw [e,Nat.beq_refl] at h;cases h
 have hdis:∀ b,Free ctx g s.objs b → ¬ OwnB g0 os b:=fun b hb ⟨id,o,n,h1,h2⟩=>hb.2 _ _ n (hlo id o h1) h2
 have hobs:ObsRd w g0 (Free ctx g s.objs) os:=⟨fun id o h=>(hg.objs _ _ (hlo id o h)).unren rfl rfl,
  fun i j oi oj b n m hi hj hgi hgj=>hinj i j (List.mem_append_left _ (look_key hi)) (List.mem_append_left _ (look_key hj)) (hg.inj _ _ _ _ b n m (hlo i oi hi) (hlo j oj hj) hgi hgj),
  fun id o b n h h2=>(hg.own _ _ b n (hlo id o h) h2).1⟩
 have hpl:ps.length = qs.length:=by have:=congrArg List.length hq;simpa using this.symm
 refine (hc w g0 (Free ctx g s.objs) vs (by omega) (fun i p v hp hv=>?_) hobs hdis).mono fun e w' ⟨u,g',gh,he,hpost⟩=>⟨u,gh,he,?_⟩
 ·cases hqi:qs[i]? with
  | none=>have:=List.getElem?_eq_none_iff.1 hqi;have:=(List.getElem?_eq_some_iff.1 hp).1;omega
  | some q=>
   have h1:(qs.map PV.nilD)[i]? = (ps.map (PV.ren ρ))[i]?:=by rw [hq]
   rw [List.getElem?_map,List.getElem?_map,hqi,hp] at h1;simp only [Option.map_some,Option.some.injEq] at h1;exact (hreal i q v hqi hv).nilD.unren h1
 have hks':=hks gh;have hcl':=hcl gh
 generalize os' gh = os1 at hpost hks' hcl' ⊢
 let G':Ghost:=fun j=>match ks.find? (fun i=>Nat.beq (rn ρ i) j) with | some i=>g' i | none=>g j
 have hG1:∀ i ∈ ks,G' (rn ρ i) = g' i:=fun i hi=>by
  show (match ks.find? (fun k=>Nat.beq (rn ρ k) (rn ρ i)) with | some i=>g' i | none=>g (rn ρ i)) = g' i
  cases hf:ks.find? (fun k=>Nat.beq (rn ρ k) (rn ρ i)) with
  | none=>have:=List.find?_eq_none.1 hf i hi;simp at this
  | some k=>
   have h1:=List.find?_some hf;have h2:=List.mem_of_find?_eq_some hf;rw [hinj k i (List.mem_append_right _ h2) (List.mem_append_right _ hi) (Nat.eq_of_beq_eq_true h1)]
 have hG2:∀ j,(∀ i ∈ ks,rn ρ i ≠ j) → G' j = g j:=fun j hj=>by
  show (match ks.find? (fun k=>Nat.beq (rn ρ k) j) with | some i=>g' i | none=>g j) = g j
  cases hf:ks.find? (fun k=>Nat.beq (rn ρ k) j) with
  | none=>rfl
  | some k=>exact absurd (Nat.eq_of_beq_eq_true (by simpa using List.find?_some hf)) (hj k (List.mem_of_find?_eq_some hf))
 have hlookN:∀ j o,look (s.callO ρ js os os1).objs j = some o → (∃ i o1,look os1 i = some o1 ∧ j = rn ρ i ∧ o = o1.ren ρ ∧ i ∈ ks) ∨ ((∀ i ∈ ks,rn ρ i ≠ j) ∧ (∀ i ∈ os.map (·.1),rn ρ i ≠ j) ∧ look s.objs j = some o):=fun j o h=>by
  rcases lookR h with ⟨i,o1,h1,h2,h3⟩ | ⟨h1,h2⟩
  ·exact .inl ⟨i,o1,h1,h2,h3,hks' ▸ look_key h1⟩
  ·obtain ⟨h3,h4⟩:=lookD h2;exact .inr ⟨fun i hi=>h1 i (hks' ▸ hi),h3,h4⟩
 have freeS:∀ b,Free ctx g s.objs b → b < w.heap.size → Free ctx G' (s.callO ρ js os os1).objs b:=fun b hb hlt=>⟨hb.1,fun j o n hj hgj=>by
  rcases hlookN j o hj with ⟨i,o1,h1,h2,_,hik⟩ | ⟨h1,_,h3⟩
  ·rw [h2,hG1 i hik] at hgj;rcases hpost.own b ⟨i,o1,n,h1,hgj⟩ with h | h
   ·exact hdis b hb h
   ·omega
  ·rw [hG2 j h1] at hgj;exact hb.2 j o n h3 hgj⟩
 have freeA:∀ b,After w g0 (Free ctx g s.objs) os g' os1 b → Free ctx G' (s.callO ρ js os os1).objs b:=fun b ⟨h1,h2⟩=>⟨by
  rcases h1 with h1 | ⟨id,o,n,h1,h3⟩ | h1
  ·exact h1.1
  ·rcases (hg.own _ _ b n (hlo id o h1) h3).2 with h4 | h4
   ·exact .inr h4
   ·exact .inl (hK b h4)
  ·exact .inr (Nat.le_trans hg.grows h1),fun j o n hj hgj=>by
  rcases hlookN j o hj with ⟨i,o1,h3,h4,_,hik⟩ | ⟨h3,h4,h5⟩
  ·rw [h4,hG1 i hik] at hgj;exact h2 ⟨i,o1,n,h3,hgj⟩
  ·rw [hG2 j h3] at hgj;rcases h1 with h1 | ⟨id,o',n',h1,h6⟩ | h1
   ·exact h1.2 j o n h5 hgj
   ·exact h4 id (look_key h1) (hg.inj j (rn ρ id) o _ b n n' h5 (hlo id o' h1) hgj h6).symm
   ·have:=(hg.own j o b n h5 hgj).1;omega⟩
 have hst:Stays w w' (Free ctx g s.objs):=⟨hpost.grows,fun b hb hlt=>hpost.keep b hlt (hdis b hb)⟩
 -- what is named elsewhere keeps its ghost
 have hslot:∀ i p,(s.junks js).at i = some p → ∀ j,p.has j = true → G' j = g j:=fun i p hp j hj=>by
  by_cases hex:∃ k ∈ ks,rn ρ k = j
  ·obtain ⟨k,hk,rfl⟩:=hex;rw [hG1 k hk];rcases hnm k hk with h | ⟨h,_⟩
   ·exact hpost.pin k (inL_iff.1 h)
   ·rw [chkS_at (s:=s.junks js) h hp] at hj;cases hj
  ·exact hG2 j fun k hk e=>hex ⟨k,hk,e⟩
 have hother:∀ j o,look s.objs j = some o → (∀ i ∈ os.map (·.1),rn ρ i ≠ j) → ∀ jj,o.has jj = true → G' jj = g jj:=fun j o hj hno jj hjj=>by
  by_cases hex:∃ k ∈ ks,rn ρ k = jj
  ·obtain ⟨k,hk,rfl⟩:=hex;rw [hG1 k hk];rcases hnm k hk with h | ⟨_,h⟩
   ·exact hpost.pin k (inL_iff.1 h)
   ·rcases h _ (look_mem hj) with h2 | h2
    ·rw [hjj] at h2;cases h2
    ·obtain ⟨i,hi,he⟩:=List.mem_map.1 (inL_iff.1 h2);exact absurd he (hno i hi)
  ·exact hG2 jj fun k hk e=>hex ⟨k,hk,e⟩
 have hnown:∀ j o b n,look s.objs j = some o → (∀ i ∈ os.map (·.1),rn ρ i ≠ j) → g j = some (b,n) → ¬ OwnB g0 os b:=fun j o b n hj hno hgj ⟨id,o',n',h1,h2⟩=>
  hno id (look_key h1) (hg.inj j (rn ρ id) o _ b n n' hj (hlo id o' h1) hgj h2).symm
 have main:RelG ctx G' (s.callO ρ js os os1) a w':=by
  refine ⟨hg.defers,hg.size,fun i p hp=>?_,fun j o hj=>?_,fun i j oi oj b n m hi hj hgi hgj=>?_,fun j o b n hj hgj=>?_,hpost.eos.trans hg.os,hpost.tape.trans hg.tape,hpost.output.trans hg.output,Nat.le_trans hg.grows hpost.grows,fun k hk hkK=>?_⟩
  ·have hp':(s.junks js).at i = some p:=by
    rw [at_eq,junks_n];rw [at_eq] at hp;exact hp
   have h:=(hg.junks js).slots i p hp';rw [junks_objs] at h;exact h.keep hst freeS (hslot i p hp')
  ·rcases hlookN j o hj with ⟨i,o1,h1,rfl,rfl,hik⟩ | ⟨h1,h2,h3⟩
   ·refine ObRd.ren ?_;have hst':Stays w' w' (After w g0 (Free ctx g s.objs) os g' os1):=⟨Nat.le_refl _,fun _ _ _=>rfl⟩
    have hn:=(List.all_eq_true.1 hcl') _ (look_mem h1);exact (hpost.obs.rd i o1 h1).keep hst' (fun b hb _=>freeA b hb) (fun _ _ _=>rfl) (hG1 i hik) (fun jj hjj=>hG1 jj (Ob.named_has hn hjj))
   ·exact (hg.objs j o h3).keep hst freeS (fun b n hgj=>hpost.keep b (hg.own j o b n h3 hgj).1 (hnown j o b n h3 h2 hgj)) (hG2 j h1) (hother j o h3 h2)
  ·rcases hlookN i oi hi with ⟨k,o1,h1,rfl,_,hik⟩ | ⟨h1,h2,h3⟩
   ·rw [hG1 k hik] at hgi;rcases hlookN j oj hj with ⟨k2,o2,h4,rfl,_,hik2⟩ | ⟨h4,h5,h6⟩
    ·rw [hG1 k2 hik2] at hgj;rw [hpost.obs.inj k k2 o1 o2 b n m h1 h4 hgi hgj]
    ·rw [hG2 j h4] at hgj;exfalso;rcases hpost.own b ⟨k,o1,n,h1,hgi⟩ with h | h
     ·exact hnown j oj b m h6 h5 hgj h
     ·have:=(hg.own j oj b m h6 hgj).1;omega
   ·rw [hG2 i h1] at hgi;rcases hlookN j oj hj with ⟨k2,o2,h4,rfl,_,hik2⟩ | ⟨h4,h5,h6⟩
    ·rw [hG1 k2 hik2] at hgj;exfalso;rcases hpost.own b ⟨k2,o2,m,h4,hgj⟩ with h | h
     ·exact hnown i oi b n h3 h2 hgi h
     ·have:=(hg.own i oi b n h3 hgi).1;omega
    ·rw [hG2 j h4] at hgj;exact hg.inj i j oi oj b n m h3 h6 hgi hgj
  ·rcases hlookN j o hj with ⟨k,o1,h1,rfl,_,hik⟩ | ⟨h1,h2,h3⟩
   ·rw [hG1 k hik] at hgj;refine ⟨hpost.obs.lt k o1 b n h1 hgj,?_⟩;rcases hpost.own b ⟨k,o1,n,h1,hgj⟩ with ⟨id,o',n',h4,h5⟩ | h
    ·exact (hg.own _ _ b n' (hlo id o' h4) h5).2
    ·exact .inl (Nat.le_trans hg.grows h)
   ·rw [hG2 j h1] at hgj;obtain ⟨h4,h5⟩:=hg.own j o b n h3 hgj;exact ⟨Nat.lt_of_lt_of_le h4 hpost.grows,h5⟩
  ·refine (hpost.keep k (Nat.lt_of_lt_of_le hk hg.grows) fun ⟨id,o,n,h1,h2⟩=>?_).trans (hg.keep k hk hkK);rcases (hg.own _ _ k n (hlo id o h1) h2).2 with h | h
   ·omega
   ·exact hkK h
 refine ⟨G',main.put dst ?_⟩;have hst':Stays w' w' (After w g0 (Free ctx g s.objs) os g' os1):=⟨Nat.le_refl _,fun _ _ _=>rfl⟩
 exact (hpost.res.keep (w':=w') (g':=fun i=>G' (rn ρ i)) hst' (fun b hb _=>freeA b hb) (fun jj hjj=>hG1 jj (PV.named_has hr hjj))).ren
end
end Go.Ep
namespace Go.Ep
open Go.RowKit
section
variable {P:Program} {ctx:Ctx} {Q:PQ} {s:PState}
variable {dst:Option Tmp} {ty:TypeId} {pos:String} {after:Array Edge} {gd:Option (Nat × Bool)}
theorem evs_rd {xs:List Operand} {ps:List PV} (hps:s.evs xs = some ps) {a:Act} {w:World} {g:Ghost} (hg:RelG ctx g s a w) :
  ps.length = (xs.map a.eval).length ∧ ∀ (i:Nat) (p:PV) (v:Value),ps[i]? = some p → (xs.map a.eval)[i]? = some v → Rd w g (Free ctx g s.objs) p v:=by
 refine ⟨by simpa using evs_len hps,fun i p v hp hv=>?_⟩;rw [List.getElem?_map] at hv
 cases hx:xs[i]? with
 | none=>simp [hx] at hv
 | some x=>
  simp [hx] at hv;subst hv;exact hg.ev (evs_get hps hp hx)
theorem PWl.callObj {G:Type} {ops:Array Oper} {rest:List Oper} {x:Operand} {xs:List Operand} {ats:Array TypeId} {f:FuncId} {ps qs:List PV} {os:List (Nat × Ob)} {pins:List Nat} {r:PV} {os':G → List (Nat × Ob)} (ρ:List (Nat × Nat)) (js ks:List Nat)
  (hc:PObj P f ps os pins r os') (hK:∀ b,ctx.K b → ctx.S b) (hx:s.ev x = some (.d (.v (.func (.func f) #[] #[])))) (he:∀ args w,(callFunc f args).run P w = .ok (.enter f args) w) (hps:s.evs xs = some qs) (hq:qs.map PV.nilD = ps.map (PV.ren ρ)) (hos:AllOb s ρ os)
  (hks:∀ gh,(os' gh).map (·.1) = ks) (hcl:∀ gh,(os' gh).all (fun x=>x.2.named ks) = true) (hr:r.named ks = true) (hok:callOK s ρ js (os.map (·.1)) pins ks = true) (hgd:gd = none)
  (h:∀ gh,PWl P ctx ops Q rest ((s.callO ρ js os (os' gh)).putD dst (r.ren ρ))):PWl P ctx ops Q (⟨dst,.call ⟨.value x,xs.toArray,ats⟩,ty,pos,after,gd⟩ :: rest) s:=by
 rintro a w ⟨g,hg⟩;refine wpList_plain hgd fun K hK2=>?_
 obtain ⟨hlen,hreal⟩:=evs_rd hps hg;unfold Oper.wp;rw [exec_call (o:=⟨dst,.call ⟨.value x,xs.toArray,ats⟩,ty,pos,after,gd⟩) rfl (ev_v hg hx) he w];rw [List.map_toArray];refine (callObj_core ρ js ks hc hK hq hos hks hcl hr hok hg hlen hreal dst).mono fun en w' ⟨u,gh,he,hrel⟩=>?_
 subst he;exact hK2 _ _ (h gh _ _ hrel)
theorem LR.callObj {x:Operand} {xs:List Operand} {ats:Array TypeId} {f:FuncId} {ps qs:List PV} {os os':List (Nat × Ob)} {pins:List Nat} {r:PV} (ρ:List (Nat × Nat)) (js ks:List Nat)
  (hc:PObj P f ps os pins r (fun _:Unit=>os')) (hK:∀ b,ctx.K b → ctx.S b) (hx:s.ev x = some (.d (.v (.func (.func f) #[] #[])))) (he:∀ args w,(callFunc f args).run P w = .ok (.enter f args) w) (hps:s.evs xs = some qs) (hq:qs.map PV.nilD = ps.map (PV.ren ρ)) (hos:AllOb s ρ os)
  (hks:os'.map (·.1) = ks) (hcl:os'.all (fun x=>x.2.named ks) = true) (hr:r.named ks = true) (hok:callOK s ρ js (os.map (·.1)) pins ks = true) :
  Local P ctx ⟨dst,.call ⟨.value x,xs.toArray,ats⟩,ty,pos,after,gd⟩ s ((s.callO ρ js os os').putD dst (r.ren ρ)):=
 local_enter (o:=⟨dst,.call ⟨.value x,xs.toArray,ats⟩,ty,pos,after,gd⟩) fun a w g hg=>by
  obtain ⟨hlen,hreal⟩:=evs_rd hps hg;refine ⟨f,_,exec_call (o:=⟨dst,.call ⟨.value x,xs.toArray,ats⟩,ty,pos,after,gd⟩) rfl (ev_v hg hx) he w,?_⟩;rw [List.map_toArray];exact (callObj_core ρ js ks hc hK hq hos (fun _=>hks) (fun _=>hcl) hr hok hg hlen hreal dst).mono fun en w' ⟨u,_,he,hrel⟩=>⟨u,he,hrel⟩
end
end Go.Ep
namespace Go.Ep
theorem look_left {a b:List (Nat × Ob)} {id:Nat} {o:Ob} (h:look a id = some o):look (a ++ b) id = some o:=by rw [look_append,h];rfl
theorem EndsO.mk {G:Type} {P:Program} {ctx:Ctx} {fn:Func} {pl:List (Nat × Ob)} {r:PV} {os':G → List (Nat × Ob)} {e:Exit} {s:PState} (gh:G) {n:Nat} {sl:List (Nat × PV)} {ps:List PV} (he:e = .normal ∨ e = .ret) (hsub:Sub ctx s ⟨n,sl,os' gh ++ pl⟩)
  (hres:ResLO P ⟨n,sl,os' gh ++ pl⟩ fn.results.toList ps) (hq:tupOf ps = r) (hd:(pl.all fun x=>!inL ((os' gh).map (·.1)) x.1) = true):EndsO P ctx fn pl r os' e s:=by
 refine ⟨he,gh,ps,_,hsub,hres,hq,fun id o h=>look_left h,fun id o h=>?_⟩;show look (os' gh ++ pl) id = some o;rw [look_append]
 cases hl:look (os' gh) id with
 | none=>rw [Option.none_or];exact h
 | some q=>
  have h1:=List.all_eq_true.1 hd _ (look_mem h);have h2:=inL_iff.2 (look_key hl);simp only at h1;rw [h2] at h1
  cases h1
end Go.Ep
namespace Go.Ep
open Go.RowKit
section
variable {P:Program} {ctx:Ctx} {Q:PQ} {s:PState}
variable {dst:Option Tmp} {ty:TypeId} {pos:String} {after:Array Edge} {gd:Option (Nat × Bool)}
theorem pointee_of {t e:TypeId} (hu:P.underlying t = some (.pointer e)):P.underlying t = some (.pointer (P.pointee t)):=by
 rw [hu];simp [Program.pointee,hu]
theorem eval_ref {x:Operand} {id off:Nat} (hx:s.ev x = some (.ref id off)) {a:Act} {w:World} {g:Ghost} (hg:RelG ctx g s a w):∃ b,a.eval x = .pointer (some b):=by
 have h:=hg.ev hx
 generalize a.eval x = v at h
 cases h with
 | ref _ _ blk n hgi=>exact ⟨_,rfl⟩
theorem LR.eqlPtr {x:Operand} {id off:Nat} {t t' e:TypeId} (hu:P.underlying t = some (.pointer e)) (hx:s.ev x = some (.ref id off)) :
  Local P ctx ⟨dst,.binOp .eql t x (.const (.pointer none)) t',ty,pos,after,gd⟩ s (s.putD dst (.d (.v (.bool false)))):=
 local_pure (o:=⟨dst,.binOp .eql t x (.const (.pointer none)) t',ty,pos,after,gd⟩) fun a w g hg=>by
  obtain ⟨b,hb⟩:=eval_ref hx hg;have hc:a.eval (.const (.pointer none)) = .pointer none:=rfl;exact ⟨.bool false,by simp [execOp,hb,hc,eqGuard_at_pointer,run_eql_pointer_nil (P:=P) w t _ (pointee_of hu)],.d (.v _ rfl)⟩
theorem LR.eqlPtrN {x:Operand} {t t' e:TypeId} (hu:P.underlying t = some (.pointer e)) (hx:s.ev x = some (.d (.v (.pointer none)))) :
  Local P ctx ⟨dst,.binOp .eql t x (.const (.pointer none)) t',ty,pos,after,gd⟩ s (s.putD dst (.d (.v (.bool true)))):=
 local_pure (o:=⟨dst,.binOp .eql t x (.const (.pointer none)) t',ty,pos,after,gd⟩) fun a w g hg=>by
  have hc:a.eval (.const (.pointer none)) = .pointer none:=rfl;exact ⟨.bool true,by simp [execOp,ev_v hg hx,hc,eqGuard_at_pointer,run_eql_pointer_nil (P:=P) w t _ (pointee_of hu)],.d (.v _ rfl)⟩
end
end Go.Ep
namespace Go.Ep
open Go.RowKit
section
variable {ctx:Ctx} {s:PState}
end
end Go.Ep
namespace Go.Ep
open Go.RowKit
section
variable {P:Program} {ctx:Ctx} {Q:PQ} {s:PState}
variable {dst:Option Tmp} {ty:TypeId} {pos:String} {after:Array Edge} {gd:Option (Nat × Bool)}
end
end Go.Ep
namespace Go.Ep
open Go.RowKit
section
variable {ctx:Ctx} {s:PState}
end
end Go.Ep

namespace Go.Ep
open Go.RowKit
def effO (ρ:List (Nat × Nat)) (js:List Nat) (dst:Option Nat) (r:PV) (os':List (Nat × Ob)):Ef:=⟨dstL dst (r.ren ρ) ++ (js.map fun t=>(t,PV.junk)).reverse,os'.map fun x=>(rn ρ x.1,x.2.ren ρ)⟩
def calO (ρ:List (Nat × Nat)) (js okeys pins ks:List Nat) (f:Ft):Bool:=
 ((okeys ++ ks).all fun i=>(okeys ++ ks).all fun j=>Nat.beq i j || !Nat.beq (rn ρ i) (rn ρ j)) && ks.all (fun i=>inL okeys i || inL f.fr (rn ρ i)) && okeys.all (inL ks) && f.ao.all (inL (okeys.map (rn ρ))) &&
 (ks.all fun i=>inL pins i || inL f.fr (rn ρ i) || f.al.any fun a=>Nat.beq a.1 (rn ρ i) && a.2 == js) && okeys.all fun i=>inL f.ro (rn ρ i)
section
variable {P:Program} {ctx:Ctx} {Q:PState → Prop} {s:PState} {ops:Array Oper} {rest:List Oper} {fs:List Ft} {f:Ft}
variable {dst:Option Tmp} {ty:TypeId} {pos:String} {after:Array Edge} {gd:Option (Nat × Bool)}
theorem AllOb.keep {ρ:List (Nat × Nat)} {os:List (Nat × Ob)} {s':PState} (h:AllOb s ρ os) (hk:∀ {id ob},inL f.ro id = true → look s.objs id = some ob → look s'.objs id = some ob) (hr:((os.map (·.1)).all fun i=>inL f.ro (rn ρ i)) = true):AllOb s' ρ os:=by
 induction h with
 | nil=>exact .nil
 | cons h _ ih=>
  simp only [List.map_cons,List.all_cons,Bool.and_eq_true] at hr;exact .cons (hk hr.1 h) (ih hr.2)
theorem chk_junks {s:PState} {id:Nat} (js:List Nat) (h:s.fresh id = true):chkS id (s.junks js).sl (s.junks js).sl = true:=by
 simp only [PState.fresh,Bool.and_eq_true] at h;refine chkS_of fun x hx hh q hq=>?_
 rcases junks_mem js s x hx with h2 | h2
 ·rw [h2] at hh;simp [PV.has] at hh
 ·rw [junks_sl,getS_app] at hq
  cases hg:getS (js.map fun t=>(t,PV.junk)).reverse x.1 with
  | none=>rw [hg,Option.none_or] at hq;exact chkS_mem h.1 h2 hq hh
  | some q2=>
   rw [hg,Option.some_or] at hq
   cases hq
   have:=getS_mem hg;rw [List.mem_reverse,List.mem_map] at this;obtain ⟨t,_,h3⟩:=this
   cases h3
   rfl
theorem PQe.callObj {x:Operand} {xs:List Operand} {ats:Array TypeId} {fn:FuncId} {ps qs:List PV} {os os':List (Nat × Ob)} {pins:List Nat} {r:PV} (ρ:List (Nat × Nat)) (js ks:List Nat)
  (hc:PObj P fn ps os pins r (fun _:Unit=>os')) (hK:∀ b,ctx.K b → ctx.S b)
  (hev:∀ s':PState,(∀ {y q},readsX (⟨dst,.call ⟨.value x,xs.toArray,ats⟩,ty,pos,after,gd⟩:Oper) y = true → s.ev y = some q → s'.ev y = some q) → s'.ev x = some (.d (.v (.func (.func fn) #[] #[]))) ∧ s'.evs xs = some qs)
  (he:∀ args w,(callFunc fn args).run P w = .ok (.enter fn args) w) (hq:qs.map PV.nilD = ps.map (PV.ren ρ)) (hos:AllOb s ρ os)
  (hks:os'.map (·.1) = ks) (hcl:os'.all (fun x=>x.2.named ks) = true) (hr:r.named ks = true) (hok:calO ρ js (os.map (·.1)) pins ks f = true)
  (hg:Wd ops (⟨dst,.call ⟨.value x,xs.toArray,ats⟩,ty,pos,after,gd⟩:Oper) s) (hk:okE f (effO ρ js dst r os') = true) (h:PQe P ctx ops Q rest fs (s.app (effO ρ js dst r os'))) :
  PQe P ctx ops Q (⟨dst,.call ⟨.value x,xs.toArray,ats⟩,ty,pos,after,gd⟩ :: rest) (f :: fs) s:=by
 simp only [calO,Bool.and_eq_true] at hok;obtain ⟨⟨⟨⟨⟨c1,c2⟩,c3⟩,c4⟩,c5⟩,c6⟩:=hok;refine .step (e:=effO ρ js dst r os') (fun s' hn hee ho hfr hal=>?_) hg hk h;obtain ⟨h1,h2⟩:=hev s' (fun hx hq=>hee hx hq);have hok':callOK s' ρ js (os.map (·.1)) pins ks = true:=by
  unfold callOK;rw [Bool.and_eq_true,Bool.and_eq_true];refine ⟨⟨c1,?_⟩,?_⟩
  ·rw [List.all_eq_true] at c2 ⊢;intro i hi;have:=c2 i hi;rw [Bool.or_eq_true] at this ⊢;exact this.imp (fun h=>h) fun h=>hfr _ (inL_iff.1 h)
  ·rw [List.all_eq_true] at c5 ⊢;intro i hi;have:=c5 i hi;rw [Bool.or_eq_true,Bool.or_eq_true] at this;rw [Bool.or_eq_true];rcases this with (h | h) | h
   ·exact .inl h
   ·refine .inr ?_;have hf:=hfr _ (inL_iff.1 h);rw [Bool.and_eq_true];refine ⟨chk_junks js hf,?_⟩;simp only [PState.fresh,Bool.and_eq_true,List.all_eq_true] at hf;rw [List.all_eq_true];intro y hy;rw [Bool.or_eq_true];exact .inl (hf.2 y hy).2
   ·refine .inr ?_;obtain ⟨a,ha1,ha2⟩:=List.any_eq_true.1 h;simp only [Bool.and_eq_true,beq_iff_eq] at ha2;have hx:=hal a ha1;rw [Nat.eq_of_beq_eq_true ha2.1,ha2.2] at hx;unfold PState.aloneX at hx;rw [Bool.and_eq_true,junks_objs] at hx;rw [Bool.and_eq_true];refine ⟨hx.1,?_⟩;rw [List.all_eq_true] at c4;have hx2:=hx.2;rw [List.all_eq_true] at hx2 ⊢;intro y hy;have:=hx2 y hy;rw [Bool.or_eq_true] at this ⊢;rcases this with h | h
    ·exact .inr (c4 _ (inL_iff.1 h))
    ·exact .inl h
 have hl:=LR.callObj (P:=P) (ctx:=ctx) (dst:=dst) (ty:=ty) (pos:=pos) (after:=after) (gd:=gd) (ats:=ats) ρ js ks hc hK h1 he h2 hq (hos.keep (fun hi hl=>ho (inL_iff.1 hi) hl) c6) hks hcl hr hok'
 suffices hs:Sub ctx ((s'.callO ρ js os os').putD dst (r.ren ρ)) (s'.app (effO ρ js dst r os')) from fun a w hr K Qx hK=>hl a w hr K Qx fun a' w' h'=>hK a' w' (hs a' w' h')
 refine Sub.drop ?_ ?_ ?_
 ·cases dst <;> rfl
 ·intro i p hp;have hat:=at_get hp;have hlt:i < s'.n:=at_lt (s:=s'.app (effO ρ js dst r os')) hp;refine at_of (by cases dst <;> exact hlt) ?_;simp only [PState.app,effO] at hat
  cases dst with
  | none=>simpa [dstL,PState.putD,PState.callO,junks_sl] using hat
  | some d=>simpa [dstL,PState.putD,PState.put,PState.callO,junks_sl] using hat
 ·intro id o hlo;have e1:(s'.app (effO ρ js dst r os')).objs = os'.foldr (fun x l=>putO (rn ρ x.1) (x.2.ren ρ) l) s'.objs:=by
   simp only [PState.app,effO,List.foldr_map]
  have e2:((s'.callO ρ js os os').putD dst (r.ren ρ)).objs = os'.foldr (fun x l=>putO (rn ρ x.1) (x.2.ren ρ) l) (os.foldr (fun x l=>delO (rn ρ x.1) l) s'.objs):=by cases dst <;> rfl
  rw [e1] at hlo;rw [e2];have hF:∀ (l:List (Nat × Ob)) (A B:List (Nat × Ob)),(∀ j,(∀ y ∈ l,rn ρ y.1 ≠ j) → look A j = look B j) → ∀ j,look (l.foldr (fun x l=>putO (rn ρ x.1) (x.2.ren ρ) l) A) j = look (l.foldr (fun x l=>putO (rn ρ x.1) (x.2.ren ρ) l) B) j:=by
   intro l
   induction l with
   | nil=>intro A B h j;exact h j (by simp)
   | cons y r ih=>
    intro A B h j;rw [List.foldr_cons,List.foldr_cons,look_putO,look_putO]
    by_cases hj:j = rn ρ y.1
    ·rw [if_pos hj,if_pos hj]
    ·rw [if_neg hj,if_neg hj];have gen:∀ (q:List (Nat × Ob)) (A B:List (Nat × Ob)) (j:Nat),(∀ y ∈ q,rn ρ y.1 ≠ j) → look (q.foldr (fun x l=>putO (rn ρ x.1) (x.2.ren ρ) l) A) j = look A j:=by
      intro q A B j hq
      induction q with
      | nil=>rfl
      | cons z t iht=>
       rw [List.foldr_cons,look_putO,if_neg (fun e=>hq z (by simp) e.symm)];exact iht fun y hy=>hq y (by simp [hy])
     by_cases hr:∀ z ∈ r,rn ρ z.1 ≠ j
     ·rw [gen r A B j hr,gen r B A j hr];exact h j fun z hz=>by
       rcases List.mem_cons.1 hz with rfl | hz
       ·exact fun e=>hj e.symm
       ·exact hr z hz
     ·obtain ⟨z,hz,hzj⟩:∃ z ∈ r,rn ρ z.1 = j:=by
       refine Classical.byContradiction fun hc=>hr fun z hz e=>hc ⟨z,hz,e⟩
      have hin:∀ (q:List (Nat × Ob)) (A B:List (Nat × Ob)),z ∈ q → look (q.foldr (fun x l=>putO (rn ρ x.1) (x.2.ren ρ) l) A) j = look (q.foldr (fun x l=>putO (rn ρ x.1) (x.2.ren ρ) l) B) j:=by
       intro q A B hq
       induction q with
       | nil=>cases hq
       | cons y t iht=>
        rw [List.foldr_cons,List.foldr_cons,look_putO,look_putO]
        by_cases hy:j = rn ρ y.1
        ·rw [if_pos hy,if_pos hy]
        ·rw [if_neg hy,if_neg hy];refine iht ?_;rcases List.mem_cons.1 hq with rfl | h
         ·exact absurd hzj.symm hy
         ·exact h
      exact hin r A B hz
  rw [hF os' _ s'.objs (fun j hj=>?_) id]
  ·exact hlo
  ·have hdel:∀ (q:List (Nat × Ob)),(∀ y ∈ q,rn ρ y.1 ≠ j) → look (q.foldr (fun x l=>delO (rn ρ x.1) l) s'.objs) j = look s'.objs j:=by
    intro q hq
    induction q with
    | nil=>rfl
    | cons z t iht=>
     rw [List.foldr_cons,look_delO,if_neg (fun e=>hq z (by simp) e.symm)];exact iht fun y hy=>hq y (by simp [hy])
   refine hdel os fun y hy e=>?_
   rw [List.all_eq_true] at c3;have:=inL_iff.1 (c3 y.1 (List.mem_map.2 ⟨y,hy,rfl⟩));rw [← hks] at this;obtain ⟨z,hz,hze⟩:=List.mem_map.1 this;exact hj z hz (by rw [hze];exact e)
end
section
variable {ctx:Ctx} {s:PState}
end
end Go.Ep

namespace Go.Ep
open Go.RowKit
section
variable {P:Program} {ctx:Ctx} {s:PState}
variable {dst:Option Tmp} {ty:TypeId} {pos:String} {after:Array Edge} {gd:Option (Nat × Bool)}
theorem LR.buildR {t:TypeId} {places:List (Nat × Nat)} {zs:List Value} {parts:Array (Nat × Operand)} {ps:List (Nat × PV)} {ns:List PV} (hB:BuildOK P t places zs) (hz1:(zs.all Value.oneCell') = true) (hps:s.evp parts.toList = some ps) (hns:pfill places (zs.map fun z=>PV.d (.v z)) ps = some ns) :
  Local P ctx ⟨dst,.build t parts,ty,pos,after,gd⟩ s (s.putD dst (.agg ns)):=
 local_pure (o:=⟨dst,.build t parts,ty,pos,after,gd⟩) fun a w g hg=>by
  have hz1':∀ u ∈ zs,u.oneCell' = true:=by simpa using hz1
  obtain ⟨vs,h1,h2,h3,h4⟩:=fill_rd (w:=w) (g:=g) (S:=Free ctx g s.objs) ps (parts.toList.map fun x=>(x.1,a.eval x.2)) (zs.map fun z=>PV.d (.v z)) zs ns (by simpa using evp_len hps) (by
   intro j p r hp hr;rw [List.getElem?_map] at hr
   cases hx:parts.toList[j]? with
   | none=>simp [hx] at hr
   | some x=>
    simp [hx] at hr;subst hr;obtain ⟨e1,e2⟩:=evp_get hps hp hx;exact ⟨e1,hg.ev e2⟩) (by simp) (by
   intro i p u hp hu;simp [hu] at hp;subst hp;exact .d (.v u (hz1' u (List.mem_of_getElem? hu)))) hz1' hns
  refine ⟨.agg vs.toArray,?_,.agg ns vs h2 h3 h4⟩;have hb:P.built t (parts.map fun (i,x)=>(i,a.eval x)).toList = some vs.toArray:=by
   rw [hB];simpa using h1
  have hrun:=run_build w t (parts.map fun (i,x)=>(i,a.eval x)) vs.toArray hb;simp only [execOp,Sem.run_bind,hrun,Result.andThen_ok,Sem.run_pure]
end
section
variable {P:Program} {ctx:Ctx} {ops:Array Oper} {Q:PState → Prop} {s:PState}
variable {dst:Option Tmp} {ty:TypeId} {pos:String} {after:Array Edge} {gd:Option (Nat × Bool)}
variable {α:Type} {enc:α → List DV} {L R:List α} {x y:Operand} {id oid m k bs' j:Nat} {t t' e e' T:TypeId} {cs:List PV}
end
end Go.Ep
namespace Go.Ep
end Go.Ep

namespace Go.Ep
open Go.RowKit
section
variable {P:Program} {ctx:Ctx} {Q:PQ} {s:PState}
variable {dst:Option Tmp} {ty:TypeId} {pos:String} {after:Array Edge} {gd:Option (Nat × Bool)}
theorem LR.strIdx {x i:Operand} {t:TypeId} {b:ByteArray} {k:IntKind} {n y:Int} (hu:P.underlying t = some .string) (hx:s.ev x = some (.d (.v (.string b)))) (hi:s.ev i = some (.d (.v (.int k n)))) (hy:0 ≤ n ∧ (bytesL b)[n.toNat]? = some y) :
  Local P ctx ⟨dst,.index t x i,ty,pos,after,gd⟩ s (s.putD dst (.d (.v (.int .u8 y)))):=
 local_pure (o:=⟨dst,.index t x i,ty,pos,after,gd⟩) fun a w g hg=>by
  obtain ⟨h0,h1⟩:=hy;have hlt:n.toNat < b.size:=by
   have:=(List.getElem?_eq_some_iff.1 h1).1;simpa [bytesL] using this
  have hb:0 ≤ n ∧ n < b.size:=⟨h0,by omega⟩
  have hv:((b[n.toNat]'hlt).toNat:Int) = y:=by
   have:=(List.getElem?_eq_some_iff.1 h1).2;simp only [bytesL,List.getElem_map,Array.getElem_toList] at this;exact this
  refine ⟨.int .u8 y,?_,.d (.v _ rfl)⟩;simp only [execOp,ev_v hg hx,ev_v hg hi,Sem.run_bind,run_index_string w t b k n hu,dif_pos hb,hv,Result.andThen_ok,Sem.run_pure]
end
end Go.Ep
namespace Go.Ep
open Go.RowKit
section
variable {P:Program} {ctx:Ctx} {s:PState}
variable {dst:Option Tmp} {ty:TypeId} {pos:String} {after:Array Edge} {gd:Option (Nat × Bool)}
end
end Go.Ep

namespace Go.Ep
open Go.RowKit
section
variable {ctx:Ctx} {s:PState}
theorem Sub.obj {id:Nat} {o o':Ob} (hl:look s.objs id = some o) (hob:∀ (w:World) (g:Ghost) (S:Nat → Prop),ObRd w g S id o → ObRd w g S id o'):Sub ctx s { s with objs:=putO id o' s.objs }:=by
 rintro a w ⟨g,h1⟩;refine ⟨g,?_⟩;have hF:∀ b,Free ctx g s.objs b → Free ctx g (putO id o' s.objs) b:=fun b hb=>⟨hb.1,fun i o2 n ho hgi=>by
  rw [look_putO] at ho
  by_cases ei:i = id
  ·subst ei;exact hb.2 i _ n hl hgi
  ·rw [if_neg ei] at ho;exact hb.2 i o2 n ho hgi⟩
 have hst:Stays w w (Free ctx g s.objs):=⟨Nat.le_refl _,fun _ _ _=>rfl⟩
 have hlk:∀ i o2,look (putO id o' s.objs) i = some o2 → ∃ o3,look s.objs i = some o3:=fun i o2 ho=>by
  rw [look_putO] at ho
  by_cases ei:i = id
  ·subst ei;exact ⟨_,hl⟩
  ·rw [if_neg ei] at ho;exact ⟨_,ho⟩
 refine ⟨h1.defers,h1.size,fun i p hp=>(h1.slots i p hp).keep hst (fun b hb _=>hF b hb) (fun _ _=>rfl),fun i o2 ho=>?_,fun i i2 o2 o3 b n m ho ho2 hgi hgi2=>?_,fun i o2 b n ho hgi=>?_,h1.os,h1.tape,h1.output,h1.grows,h1.keep⟩
 ·rw [look_putO] at ho
  by_cases ei:i = id
  ·subst ei;rw [if_pos rfl] at ho
   cases ho
   exact hob _ _ _ ((h1.objs i _ hl).keep hst (fun b hb _=>hF b hb) (fun _ _ _=>rfl) rfl (fun _ _=>rfl))
  ·rw [if_neg ei] at ho;exact (h1.objs i o2 ho).keep hst (fun b hb _=>hF b hb) (fun _ _ _=>rfl) rfl (fun _ _=>rfl)
 ·obtain ⟨o4,e4⟩:=hlk i o2 ho;obtain ⟨o5,e5⟩:=hlk i2 o3 ho2;exact h1.inj i i2 o4 o5 b n m e4 e5 hgi hgi2
 ·obtain ⟨o4,e4⟩:=hlk i o2 ho;exact h1.own i o4 b n e4 hgi
theorem Sub.ownMap {id j id' ck:Nat} {ks:List IntKind} {ag:Bool} {T:TypeId} {cs:List PV} (hl:look s.objs id = some (.cells T cs)) (hj:cs[j]? = some (.d (.v (.map none)))) (hf:s.fresh id' = true) (hne:Nat.beq id id' = false) :
  Sub ctx s { s with objs:=putO id (.cells T (cs.set j (.mp id'))) (putO id' (.mapN true ks ag [] [] ck) s.objs) }:=by
 rintro a w ⟨g,hg⟩;have hne':id ≠ id':=fun h=>by rw [h,Nat.beq_refl] at hne;cases hne
 have h1:=hg.new (Below.refl _ w) hf none (fun b n e=>by cases e) (.mapN true ks ag [] [] ck) (.mapNil ks ag ck (upd_same _ _ _));have hl1:look (putO id' (.mapN true ks ag [] [] ck) s.objs) id = some (.cells T cs):=by rw [look_putO,if_neg hne'];exact hl
 refine ⟨upd g id' none,?_⟩;have hF:∀ b,Free ctx (upd g id' none) (putO id' (.mapN true ks ag [] [] ck) s.objs) b → Free ctx (upd g id' none) (putO id (.cells T (cs.set j (.mp id'))) (putO id' (.mapN true ks ag [] [] ck) s.objs)) b:=fun b hb=>⟨hb.1,fun i o n ho hgi=>by
  rw [look_putO] at ho
  by_cases ei:i = id
  ·subst ei;exact hb.2 i _ n hl1 hgi
  ·rw [if_neg ei] at ho;exact hb.2 i o n ho hgi⟩
 have hst:Stays w w (Free ctx (upd g id' none) (putO id' (.mapN true ks ag [] [] ck) s.objs)):=⟨Nat.le_refl _,fun _ _ _=>rfl⟩
 refine ⟨h1.defers,h1.size,fun i p hp=>(h1.slots i p hp).keep hst (fun b hb _=>hF b hb) (fun _ _=>rfl),fun i o ho=>?_,fun i i2 o o2 b n m ho ho2 hgi hgi2=>?_,fun i o b n ho hgi=>?_,h1.os,h1.tape,h1.output,h1.grows,h1.keep⟩
 ·rw [look_putO] at ho
  by_cases ei:i = id
  ·subst ei;rw [if_pos rfl] at ho
   cases ho
   cases (h1.objs i _ hl1).keep hst (fun b hb _=>hF b hb) (fun _ _ _=>rfl) rfl (fun _ _=>rfl) with
   | cells _ _ blk n us hgi hh hlen hr h1'=>
    refine .cells T _ blk n us hgi hh (by simpa using hlen) (fun q p u hp hu=>?_) h1'
    by_cases ej:q = j
    ·subst ej;have hlt:q < cs.length:=(List.getElem?_eq_some_iff.1 hj).1;rw [List.getElem?_set_self hlt] at hp
     cases hp
     have:=(hr q _ u hj hu).of_v;subst this;exact .mpNil id' (upd_same _ _ _)
    ·rw [List.getElem?_set_ne (Ne.symm ej)] at hp;exact hr q p u hp hu
  ·rw [if_neg ei] at ho;exact (h1.objs i o ho).keep hst (fun b hb _=>hF b hb) (fun _ _ _=>rfl) rfl (fun _ _=>rfl)
 ·rw [look_putO] at ho ho2;have key:∀ q o,(if q = id then some (Ob.cells T (cs.set j (.mp id'))) else look (putO id' (.mapN true ks ag [] [] ck) s.objs) q) = some o → ∃ o',look (putO id' (.mapN true ks ag [] [] ck) s.objs) q = some o':=fun q o hq=>by
   by_cases eq:q = id
   ·subst eq;exact ⟨_,hl1⟩
   ·rw [if_neg eq] at hq;exact ⟨o,hq⟩
  obtain ⟨p1,q1⟩:=key i o ho;obtain ⟨p2,q2⟩:=key i2 o2 ho2;exact h1.inj i i2 p1 p2 b n m q1 q2 hgi hgi2
 ·rw [look_putO] at ho
  by_cases ei:i = id
  ·subst ei;exact h1.own i _ b n hl1 hgi
  ·rw [if_neg ei] at ho;exact h1.own i o b n ho hgi
theorem Sub.mapF {id:Nat} {nl:Bool} {ks:List IntKind} {ag:Bool} {m:List (List Int × List DV)} {bs:List Nat} {ck:Nat} (hl:look s.objs id = some (.mapN nl ks ag m bs ck)) (hn:nl = false):Sub ctx s { s with objs:=putO id (.map ks ag m bs ck) s.objs }:=
 Sub.obj hl fun w g S h=>by
  subst hn
  cases h with
  | mapN _ _ _ _ _ blk n es h hh hm=>exact .map _ _ _ _ _ blk n es h hh hm
theorem Sub.mapToN {id:Nat} {ks:List IntKind} {ag:Bool} {m:List (List Int × List DV)} {bs:List Nat} {ck:Nat} (hl:look s.objs id = some (.map ks ag m bs ck)):Sub ctx s { s with objs:=putO id (.mapN false ks ag m bs ck) s.objs }:=
 Sub.obj hl fun w g S h=>by
  cases h with
  | map _ _ _ _ _ blk n es h hh hm=>exact .mapN _ _ _ _ _ blk n es h hh hm
end
section
variable {P:Program} {ctx:Ctx} {Q:PQ} {s:PState}
variable {dst:Option Tmp} {ty:TypeId} {pos:String} {after:Array Edge} {gd:Option (Nat × Bool)}
variable {id:Nat} {nl:Bool} {ks:List IntKind} {ag:Bool} {m:List (List Int × List DV)} {bs:List Nat} {ck:Nat}
theorem PWc.mapNil {c:Code} (hl:look s.objs id = some (.mapN nl ks ag m bs ck)) (h:(nl = true → m = [] ∧ bs = []) → PWc P ctx c Q s):PWc P ctx c Q s:=fun a w hr=>by
 refine h ?_ a w hr;obtain ⟨g,hg⟩:=hr;intro hn;subst hn
 cases hg.objs id _ hl with
 | mapNil=>exact ⟨rfl,rfl⟩
theorem PWl.mapNil {ops:Array Oper} {l:List Oper} (hl:look s.objs id = some (.mapN nl ks ag m bs ck)) (h:(nl = true → m = [] ∧ bs = []) → PWl P ctx ops Q l s):PWl P ctx ops Q l s:=fun a w hr=>by
 refine h ?_ a w hr;obtain ⟨g,hg⟩:=hr;intro hn;subst hn
 cases hg.objs id _ hl with
 | mapNil=>exact ⟨rfl,rfl⟩
theorem eval_mapN {x:Operand} (hx:s.ev x = some (.mp id)) (hl:look s.objs id = some (.mapN nl ks ag m bs ck)) {a:Act} {w:World} {g:Ghost} (hg:RelG ctx g s a w):∃ r,a.eval x = .map r ∧ r.isNone = nl:=by
 have h:=hg.ev hx
 generalize a.eval x = v at h
 cases h with
 | mpNil _ hgn=>
  cases hg.objs id _ hl with
  | mapNil=>exact ⟨none,rfl,rfl⟩
  | mapN _ _ _ _ _ blk' n' es h' hh hm=>rw [hgn] at h';cases h'
 | mp _ blk n hgi=>
  cases hg.objs id _ hl with
  | mapNil _ _ _ h'=>rw [hgi] at h';cases h'
  | mapN _ _ _ _ _ blk' n' es h' hh hm=>exact ⟨some blk,rfl,rfl⟩
theorem LR.eqlMapN {x:Operand} {t t' kt et:TypeId} (hu:P.underlying t = some (.map kt et)) (hx:s.ev x = some (.mp id)) (hl:look s.objs id = some (.mapN nl ks ag m bs ck)) :
  Local P ctx ⟨dst,.binOp .eql t x (.const (.map none)) t',ty,pos,after,gd⟩ s (s.putD dst (.d (.v (.bool nl)))):=
 local_pure (o:=⟨dst,.binOp .eql t x (.const (.map none)) t',ty,pos,after,gd⟩) fun a w g hg=>by
  obtain ⟨r,hr,hn⟩:=eval_mapN hx hl hg;have hc:a.eval (.const (.map none)) = .map none:=rfl;exact ⟨.bool nl,by simp only [execOp,hr,hc,eqGuard_at_map,Sem.run_bind,Sem.run_pure,Result.andThen_ok,run_eql_map_nil w t kt et r hu,hn],.d (.v _ rfl)⟩
section
variable {x kx:Operand} {t kt et:TypeId} {ns:List Int} {z:Value} {zs:List DV} {p:PV}
 (hu:P.underlying t = some (.map kt et)) (K:KeyOK P kt ks) (hz:∀ w,(zeroValue et).run P w = .ok z w) (hzr:∀ (w:World) (g:Ghost) (S:Nat → Prop),Rd w g S (elP ag zs) z) (hk:s.ev kx = some (keyP ks ns)) (hn:ns.length = ks.length) (hp:elP ag ((mget m ns).getD zs) = p)
 (hx:s.ev x = some (.mp id)) (hl:look s.objs id = some (.mapN nl ks ag m bs ck))
include hu K hz hzr hk hn hp hx hl
theorem LR.lookupOkN : Local P ctx ⟨dst,.lookup t x kx true,ty,pos,after,gd⟩ s (s.putD dst (.tup [p,.d (.v (.bool (mget m ns).isSome))])):=
 local_pure (o:=⟨dst,.lookup t x kx true,ty,pos,after,gd⟩) fun a w g hg=>by
  have h:=hg.ev hx
  generalize hv:a.eval x = v at h
  have fin:∀ v,Rd w g (Free ctx g s.objs) p v → Rd w g (Free ctx g s.objs) (.tup [p,.d (.v (.bool (mget m ns).isSome))]) (.tuple [v,.bool (mget m ns).isSome].toArray):=fun v h2=>.tup _ [v,.bool (mget m ns).isSome] rfl (fun i q u hq hu=>by
   match i with
   | 0=>simp at hq hu;subst hq;subst hu;exact h2
   | 1=>simp at hq hu;subst hq;subst hu;exact .d (.v _ rfl)
   | _ + 2=>simp at hq)
  cases h with
  | mpNil _ hgn=>
   cases hg.objs id _ hl with
   | mapN _ _ _ _ _ blk' n' es h' hh hm=>rw [hgn] at h';cases h'
   | mapNil=>
    refine ⟨_,?_,fin z (hp ▸ hzr w g _)⟩;simp only [execOp,hv,keyP_eq (hg.ev hk),Sem.run_bind,run_lookup_nil (w:=w) hu K hn hz true,Result.andThen_ok,Sem.run_pure]
    rfl
  | mp _ blk n hgi=>
   cases hg.objs id _ hl with
   | mapNil _ _ _ h'=>rw [hgi] at h';cases h'
   | mapN _ _ _ _ _ blk' n' es h' hh hm=>
    rw [hgi] at h';cases h';obtain ⟨v,h1,h2⟩:=run_lookup (g:=g) hu K hn hh hm hz (hzr w g _) true;refine ⟨_,?_,fin v (hp ▸ h2)⟩;simp only [execOp,hv,keyP_eq (hg.ev hk),Sem.run_bind,h1,Result.andThen_ok,Sem.run_pure]
    rfl
end
theorem LR.deleteN {x kx:Operand} {t kt et:TypeId} {ats:Array TypeId} {ns:List Int} (hats:ats[0]? = some t) (hu:P.underlying t = some (.map kt et)) (K:KeyOK P kt ks) (hx:s.ev x = some (.mp id)) (hl:look s.objs id = some (.mapN nl ks ag m bs ck))
  (hk:s.ev kx = some (keyP ks ns)) (hn:ns.length = ks.length) :
  Local P ctx ⟨dst,.call ⟨.builtin .delete,#[x,kx],ats⟩,ty,pos,after,gd⟩ s ((s.setO id (.mapN nl ks ag (mdel m ns) (bdel m ns bs) ck)).putD dst (.tup [])):=by
 refine local_value (o:=⟨dst,.call ⟨.builtin .delete,#[x,kx],ats⟩,ty,pos,after,gd⟩) fun a w g hg=>?_
 have h:=hg.ev hx
 generalize hxv:a.eval x = v at h
 cases h with
 | mpNil _ hgn=>
  cases ho:hg.objs id _ hl with
  | mapN _ _ _ _ _ blk' n' es h' hh hm=>rw [hgn] at h';cases h'
  | mapNil=>
   have hexec:(execOp a.eval ⟨dst,.call ⟨.builtin .delete,#[x,kx],ats⟩,ty,pos,after,gd⟩).run P w = .ok (.value (.tuple #[])) w:=by
    simp only [execOp,resolve,invoke,builtin,hxv,keyP_eq (hg.ev hk),Sem.run_bind,Sem.run_pure,Result.andThen_ok,List.map_toArray,List.map_cons,List.map_nil];have a0:(#[Value.map none,keyV ks ns]:Array Value)[0]? = some (.map none):=rfl;have a1:(#[Value.map none,keyV ks ns]:Array Value)[1]? = some (keyV ks ns):=rfl;simp only [Builtin.delete_,hats,a0,a1,Sem.run_bind,run_underlying hu,Result.andThen_ok,K.check w _ ns hn,Sem.run_pure]
   obtain ⟨g',h2⟩:=Sub.obj (o':=.mapN true ks ag [] [] ck) hl (fun _ _ _ h=>h) a w ⟨g,hg⟩;exact ⟨.tuple #[],_,hexec,g',h2.put dst (.tup [] [] rfl (by simp))⟩
 | mp _ blk n hgi=>
  cases hg.objs id _ hl with
  | mapNil _ _ _ h'=>rw [hgi] at h';cases h'
  | mapN _ _ _ _ _ blk' n' es h' hh hm=>
   rw [hgi] at h';cases h';obtain ⟨es',hrun,hm'⟩:=run_delete (P:=P) (ty:=ty) hats hu K hn hh hm;have hexec:(execOp a.eval ⟨dst,.call ⟨.builtin .delete,#[x,kx],ats⟩,ty,pos,after,gd⟩).run P w = .ok (.value (.tuple #[])) { w with heap:=w.heap.setIfInBounds blk (.map es' ck) }:=by
    simp only [execOp,resolve,invoke,builtin,hxv,keyP_eq (hg.ev hk),Sem.run_bind,Sem.run_pure,Result.andThen_ok,List.map_toArray,List.map_cons,List.map_nil,hrun]
   refine ⟨.tuple #[],_,hexec,g,?_⟩;have hown:=hg.own id _ blk n hl hgi;have hother:∀ k,k < w.heap.size → k ≠ blk → ({ w with heap:=w.heap.setIfInBounds blk (.map es' ck) }:World).heap[k]? = w.heap[k]?:=fun k _ hne=>set_other w blk k _ hne
   have hst:Stays w { w with heap:=w.heap.setIfInBounds blk (.map es' ck) } (Free ctx g s.objs):=⟨by simp,fun b ⟨_,h2⟩ hlt=>hother b hlt fun e=>by subst e;exact h2 id _ n hl hgi⟩
   exact (hg.wrote hl hgi (w':={ w with heap:=w.heap.setIfInBounds blk (.map es' ck) }) rfl rfl rfl (by simp) hother hown.2 (.mapN ks ag _ _ _ blk n es' hgi (set_same w blk _ hown.1) (hm'.keep hst (fun b hb _=>free_put hl b hb)))).put dst (.tup [] [] rfl (by simp))
def PWL (P:Program) (ctx:Ctx) (c:Code) (Q:PQ) (s:PState):Prop:=∀ a w,Rel ctx s a w → LoopAt P c (lift ctx Q) a w
theorem PWL.step {c:Code} (h:PWc P ctx c (Then (PWL P ctx c Q) Q) s):PWL P ctx c Q s:=fun a w hr=>by
 refine LoopAt.step (wp_mono (h a w hr) fun e a' w' ⟨t,h1,h2⟩=>?_)
 cases e with
 | normal=>exact h1 a' w' h2
 | _=>exact ⟨t,h1,h2⟩
theorem PWL.sub {c:Code} {t:PState} (hs:Sub ctx s t) (h:PWL P ctx c Q t):PWL P ctx c Q s:=fun a w hr=>h a w (hs a w hr)
theorem LR.rangeN {id mid:Nat} {x:Operand} {t kt et:TypeId} (hu:P.underlying t = some (.map kt et)) (hx:s.ev x = some (.mp mid)) (hl:look s.objs mid = some (.mapN nl ks ag m bs ck)) (hf:s.fresh id = true) :
  Local P ctx ⟨some id,.range t x,ty,pos,after,gd⟩ s (s.newO id (.iterO mid bs ck []) (.ref id 0)):=
 local_value (o:=⟨some id,.range t x,ty,pos,after,gd⟩) fun a w g hg=>by
  have h:=hg.ev hx;have hne:mid ≠ id:=fun e=>by subst e;rw [fresh_look hf] at hl;cases hl
  generalize hv:a.eval x = v at h
  cases h with
  | mpNil _ hgn=>
   cases hg.objs mid _ hl with
   | mapN _ _ _ _ _ blk' n' es h' hh hm=>rw [hgn] at h';cases h'
   | mapNil=>
    refine ⟨_,_,?_,iter_new (o:=⟨some id,.range t x,ty,pos,after,gd⟩) rfl hf hg (it:=.mapIter none 0 #[] 0) fun w' g' S' _ _ h1 h2 h3=>.iterON mid ck w.heap.size 0 h2 h3 (by rw [h1 mid hne];exact hgn)⟩;simp [execOp,hv,Instr.range,run_underlying hu,Result.andThen]
  | mp _ blk n hgi=>
   cases hg.objs mid _ hl with
   | mapNil _ _ _ h'=>rw [hgi] at h';cases h'
   | mapN _ _ _ _ _ blk' n' es h' hh hm=>
    rw [hgi] at h';cases h';refine ⟨_,_,?_,iter_new (o:=⟨some id,.range t x,ty,pos,after,gd⟩) rfl hf hg (it:=.mapIter (some blk) ck #[] ck) fun w' g' S' _ _ h1 h2 h3=>.iterO mid bs ck [] w.heap.size 0 blk n h2 h3 (by rw [h1 mid hne];exact hgi)⟩;simp [execOp,hv,Instr.range,run_underlying hu,MapKept.run_getObj_map hh,Result.andThen]
section
variable {ops:Array Oper} {rest:List Oper} {it:Operand} {L:List Nat} {mid:Nat}
theorem PWl.nextN (hx:s.ev it = some (.ref id 0)) (hl:look s.objs id = some (.iterO mid bs ck L)) (hlm:look s.objs mid = some (.mapN nl ks ag m bs ck)) (hL:∀ i ∈ L,i < m.length) (hgd:gd = none)
  (hdone:(∀ i,i < m.length → i ∈ L) → PWl P ctx ops Q rest (s.putD dst (.tup [.d (.v (.bool false))])))
  (hstep:∀ i,i < m.length → i ∉ L → PWl P ctx ops Q rest ((s.setO id (.iterO mid bs ck (L ++ [i]))).putD dst (.tup [.d (.v (.bool true)),.junk,.junk]))) :
  PWl P ctx ops Q (⟨dst,.next it false,ty,pos,after,gd⟩ :: rest) s:=by
 have hne:mid ≠ id:=fun e=>by subst e;rw [hl] at hlm;cases hlm
 cases nl with
 | false=>
  have hb:∀ (t:PState) (t':PState),t.n = t'.n → t.sl = t'.sl → look t.objs mid = some (.map ks ag m bs ck) → look t'.objs mid = some (.mapN false ks ag m bs ck) → (∀ j,j ≠ mid → look t.objs j = look t'.objs j) → Sub ctx t t':=fun t t' h1 h2 h3 h4 h5=>by
   intro a w hr;have:=Sub.mapToN h3 a w hr;refine Sub.drop (s:={ t with objs:=putO mid (.mapN false ks ag m bs ck) t.objs }) (t:=t') h1 (fun i p hp=>?_) (fun j o ho=>?_) a w this
   ·unfold PState.at at hp ⊢;rw [h1,h2];exact hp
   ·show look (putO mid _ t.objs) j = some o;rw [look_putO]
    by_cases e:j = mid
    ·subst e;rw [if_pos rfl,← h4];exact ho
    ·rw [if_neg e,h5 j e];exact ho
  refine PWl.sub (Sub.mapF hlm rfl) (PWl.nextO (mid:=mid) hx (by show look (putO mid _ s.objs) id = _;rw [look_putO,if_neg (Ne.symm hne)];exact hl) (by show look (putO mid _ s.objs) mid = _;rw [look_putO,if_pos rfl]) hL hgd (fun hd=>PWl.sub (hb _ _ ?_ ?_ ?_ ?_ ?_) (hdone hd)) (fun i hi hn=>PWl.sub (hb _ _ ?_ ?_ ?_ ?_ ?_) (hstep i hi hn)))
  ·cases dst <;> rfl
  ·cases dst <;> rfl
  ·cases dst <;> (show look (putO mid _ s.objs) mid = _;rw [look_putO,if_pos rfl])
  ·cases dst <;> exact hlm
  ·intro j hj;cases dst <;> (show look (putO mid _ s.objs) j = _;rw [look_putO,if_neg hj];rfl)
  ·cases dst <;> rfl
  ·cases dst <;> rfl
  ·cases dst <;> (show look (putO id _ (putO mid _ s.objs)) mid = _;rw [look_putO,if_neg hne,look_putO,if_pos rfl])
  ·cases dst <;> (show look (putO id _ s.objs) mid = _;rw [look_putO,if_neg hne];exact hlm)
  ·intro j hj;cases dst <;> (show look (putO id _ (putO mid _ s.objs)) j = look (putO id _ s.objs) j;rw [look_putO,look_putO,look_putO,if_neg hj])
 | true=>
  rintro a w ⟨g,hg⟩;have hr:=hg.ev hx
  generalize hv:a.eval it = v at hr
  refine wpList_plain hgd fun K hK=>?_
  cases hr with
  | ref _ _ blk n hgi=>
   cases hg.objs mid _ hlm with
   | mapNil _ _ _ hgm=>
    cases hg.objs id _ hl with
    | iterO _ _ _ _ blk' n' b n2 h' hh hgm2=>rw [hgm] at hgm2;cases hgm2
    | iterON _ _ blk' n' h' hh _=>
     rw [hgi] at h';cases h';have hrun:(execOp a.eval ⟨dst,.next it false,ty,pos,after,gd⟩).run P w = .ok (.value (.tuple #[.bool false])) w:=by
      have hgr:(getObj blk).run P w = .ok (.mapIter none 0 #[] 0) w:=by simp [getObj,Sem.run,hh]
      simp only [execOp,hv,Instr.next,Sem.run_bind,hgr,Result.andThen_ok,Sem.run_pure]
     unfold Oper.wp;rw [hrun];exact hK _ _ (hdone (by simp) _ _ ⟨g,hg.put dst (.tup [.d (.v (.bool false))] [.bool false] rfl (fun i p u hp hu=>by
      cases i with
      | zero=>simp at hp hu;subst hp;subst hu;exact .d (.v _ rfl)
      | succ i=>simp at hp))⟩)
theorem LR.entryN {i:Nat} {ns:List Int} {cs:List DV} {kp p:PV} (hx:s.ev it = some (.ref id 0)) (hl:look s.objs id = some (.iterO mid bs ck (L ++ [i]))) (hlm:look s.objs mid = some (.mapN nl ks ag m bs ck)) (hi:m[i]? = some (ns,cs)) (hkp:keyP ks ns = kp) (hp:elP ag cs = p) :
  Local P ctx ⟨dst,.entry it,ty,pos,after,gd⟩ s (s.putD dst (.tup [kp,p])):=by
 have hne:mid ≠ id:=fun e=>by subst e;rw [hl] at hlm;cases hlm
 cases nl with
 | true=>
  refine local_pure (o:=⟨dst,.entry it,ty,pos,after,gd⟩) fun a w g hg=>?_
  cases hg.objs mid _ hlm with
  | mapNil=>simp at hi
 | false=>
  refine local_pure (o:=⟨dst,.entry it,ty,pos,after,gd⟩) fun a w g hg=>?_
  have hr:=hg.ev hx
  generalize hv:a.eval it = v at hr
  cases hr with
  | ref _ _ blk n hgi=>
   have hob:=hg.objs id _ hl
   generalize hLL:L ++ [i] = LL at hob
   cases hob with
   | iterON=>simp at hLL
   | iterO _ _ _ _ blk' n' b n2 h' hh hgm=>
    subst hLL;rw [hgi] at h';cases h'
    cases hg.objs mid _ hlm with
    | mapN _ _ _ _ _ bm nm es hgm2 hb2 hm=>
     rw [hgm] at hgm2;cases hgm2;obtain ⟨e,us,g1,g2,g3,g4,g5,g6,g7,g8⟩:=hm.ent i ns cs hi;have:=run_entry (P:=P) hh hb2 hm.stamps hm.nodup g1;refine ⟨.tuple [e.key,e.val].toArray,by simp only [execOp,hv,Sem.run_bind,this,Result.andThen_ok,Sem.run_pure],.tup _ [e.key,e.val] rfl (fun j p' u hp' hu=>?_)⟩;subst hkp;subst hp
     match j with
     | 0=>simp at hp' hu;subst hp';subst hu;rw [g2];exact keyV_rd w g _ ks ns
     | 1=>simp at hp' hu;subst hp';subst hu;rw [g3];exact elV_rd g4 g5 g6 g8
     | _ + 2=>simp at hp'
end
end
section
variable {P:Program} {ctx:Ctx} {Q:PQ} {s:PState}
variable {dst:Option Tmp} {ty:TypeId} {pos:String} {after:Array Edge} {gd:Option (Nat × Bool)}
variable {κ ν:Type} [DecidableEq κ] {eK:κ → List Int} {eV:ν → List DV} {m:List (κ × ν)} {q:κ} {zv:ν} (inj:∀ a b,eK a = eK b → a = b)
variable {x kx:Operand} {t kt et:TypeId} {ks:List IntKind} {ag:Bool} {z:Value} {p kp:PV} {id:Nat} {nl:Bool} {bs:List Nat} {ck:Nat}
section
variable (hu:P.underlying t = some (.map kt et)) (K:KeyOK P kt ks) (hz:∀ w,(zeroValue et).run P w = .ok z w) (hzr:∀ (w:World) (g:Ghost) (S:Nat → Prop),Rd w g S (elP ag (eV zv)) z) (hk:s.ev kx = some kp) (hkp:kp = keyP ks (eK q)) (hn:(eK q).length = ks.length) (hp:elP ag (eV (AL.getZ m q zv)) = p)
include inj hu K hz hzr hk hkp hn hp
theorem LR.getOkN (hx:s.ev x = some (.mp id)) (hl:look s.objs id = some (.mapN nl ks ag (encM eK eV m) bs ck)):Local P ctx ⟨dst,.lookup t x kx true,ty,pos,after,gd⟩ s (s.putD dst (.tup [p,.d (.v (.bool (AL.has m q)))])):=by
 have:=LR.lookupOkN (P:=P) (ctx:=ctx) (dst:=dst) (ty:=ty) (pos:=pos) (after:=after) (gd:=gd) (p:=p) hu K hz hzr (by rw [hk,hkp]) hn (by rw [mget_encM inj,getD_map];exact hp) hx hl;rw [mget_encM inj,Option.isSome_map] at this;exact this
end
include inj in
theorem LR.delN {ats:Array TypeId} (hu:P.underlying t = some (.map kt et)) (K:KeyOK P kt ks) (hx:s.ev x = some (.mp id)) (hl:look s.objs id = some (.mapN nl ks ag (encM eK eV m) bs ck)) (hk:s.ev kx = some kp) (hkp:kp = keyP ks (eK q)) (hn:(eK q).length = ks.length) (hats:ats[0]? = some t) :
  Local P ctx ⟨dst,.call ⟨.builtin .delete,#[x,kx],ats⟩,ty,pos,after,gd⟩ s ((s.setO id (.mapN nl ks ag (encM eK eV (AL.del m q)) (bdel (encM eK eV m) (eK q) bs) ck)).putD dst (.tup [])):=by
 have:=LR.deleteN (P:=P) (ctx:=ctx) (dst:=dst) (ty:=ty) (pos:=pos) (after:=after) (gd:=gd) hats hu K hx hl (by rw [hk,hkp]) hn
 rwa [mdel_encM inj] at this
end
section
variable {ctx:Ctx} {s:PState}
end
end Go.Ep

namespace Go.Ep
open Go.RowKit
section
variable {ctx:Ctx} {s:PState}
theorem RelG.obj {g:Ghost} {a:Act} {w:World} (h1:RelG ctx g s a w) {id:Nat} {o o':Ob} (hl:look s.objs id = some o) (hob:ObRd w g (Free ctx g s.objs) id o'):RelG ctx g { s with objs:=putO id o' s.objs } a w:=by
 have hF:∀ b,Free ctx g s.objs b → Free ctx g (putO id o' s.objs) b:=fun b hb=>⟨hb.1,fun i o2 n ho hgi=>by
  rw [look_putO] at ho
  by_cases ei:i = id
  ·subst ei;exact hb.2 i _ n hl hgi
  ·rw [if_neg ei] at ho;exact hb.2 i o2 n ho hgi⟩
 have hst:Stays w w (Free ctx g s.objs):=⟨Nat.le_refl _,fun _ _ _=>rfl⟩
 have hlk:∀ i o2,look (putO id o' s.objs) i = some o2 → ∃ o3,look s.objs i = some o3:=fun i o2 ho=>by
  rw [look_putO] at ho
  by_cases ei:i = id
  ·subst ei;exact ⟨_,hl⟩
  ·rw [if_neg ei] at ho;exact ⟨_,ho⟩
 refine ⟨h1.defers,h1.size,fun i p hp=>(h1.slots i p hp).keep hst (fun b hb _=>hF b hb) (fun _ _=>rfl),fun i o2 ho=>?_,fun i i2 o2 o3 b n m ho ho2 hgi hgi2=>?_,fun i o2 b n ho hgi=>?_,h1.os,h1.tape,h1.output,h1.grows,h1.keep⟩
 ·rw [look_putO] at ho
  by_cases ei:i = id
  ·subst ei;rw [if_pos rfl] at ho
   cases ho
   exact hob.keep hst (fun b hb _=>hF b hb) (fun _ _ _=>rfl) rfl (fun _ _=>rfl)
  ·rw [if_neg ei] at ho;exact (h1.objs i o2 ho).keep hst (fun b hb _=>hF b hb) (fun _ _ _=>rfl) rfl (fun _ _=>rfl)
 ·obtain ⟨o4,e4⟩:=hlk i o2 ho;obtain ⟨o5,e5⟩:=hlk i2 o3 ho2;exact h1.inj i i2 o4 o5 b n m e4 e5 hgi hgi2
 ·obtain ⟨o4,e4⟩:=hlk i o2 ho;exact h1.own i o4 b n e4 hgi
variable {id:Nat} {nl:Bool} {ks:List IntKind} {ag:Bool} {m:List (List Int × List DV)} {bs:List Nat} {ck:Nat}
theorem Sub.nToH (hl:look s.objs id = some (.mapN nl ks ag m bs ck)):Sub ctx s { s with objs:=putO id (.mapH nl ks ag m) s.objs }:=
 Sub.obj hl fun w g S h=>by
  cases h with
  | mapNil _ _ _ h=>exact .mapHNil _ _ h
  | mapN _ _ _ _ _ blk n es h hh hm=>exact .mapH _ _ _ _ _ blk n es h hh hm
theorem Sub.toH (hl:look s.objs id = some (.map ks ag m bs ck)):Sub ctx s { s with objs:=putO id (.mapH false ks ag m) s.objs }:=
 Sub.obj hl fun w g S h=>by
  cases h with
  | map _ _ _ _ _ blk n es h hh hm=>exact .mapH _ _ _ _ _ blk n es h hh hm
theorem Sub.hT (hl:look s.objs id = some (.mapH nl ks ag m)) (hn:nl = true):Sub ctx s { s with objs:=putO id (.mapN true ks ag m [] 0) s.objs }:=
 Sub.obj hl fun w g S h=>by
  subst hn
  cases h with
  | mapHNil _ _ h=>exact .mapNil _ _ _ h
theorem openH (hl:look s.objs id = some (.mapH nl ks ag m)) {a:Act} {w:World} (hr:Rel ctx s a w):∃ bs ck,Rel ctx { s with objs:=putO id (.mapN nl ks ag m bs ck) s.objs } a w:=by
 obtain ⟨g,hg⟩:=hr;have h:=hg.objs id _ hl
 cases h with
 | mapHNil _ _ h=>exact ⟨[],0,g,hg.obj hl (.mapNil _ _ _ h)⟩
 | mapH _ _ _ bs ck blk n es h hh hm=>exact ⟨bs,ck,g,hg.obj hl (.mapN _ _ _ _ _ blk n es h hh hm)⟩
variable {P:Program} {Q:PQ}
theorem PWc.openH {c:Code} (hl:look s.objs id = some (.mapH nl ks ag m)) (h:∀ bs ck,PWc P ctx c Q { s with objs:=putO id (.mapN nl ks ag m bs ck) s.objs }):PWc P ctx c Q s:=fun a w hr=>by
 obtain ⟨bs,ck,h2⟩:=Go.Ep.openH hl hr;exact h bs ck a w h2
theorem PWl.openH {ops:Array Oper} {l:List Oper} (hl:look s.objs id = some (.mapH nl ks ag m)) (h:∀ bs ck,PWl P ctx ops Q l { s with objs:=putO id (.mapN nl ks ag m bs ck) s.objs }):PWl P ctx ops Q l s:=fun a w hr=>by
 obtain ⟨bs,ck,h2⟩:=Go.Ep.openH hl hr;exact h bs ck a w h2
theorem look_put2 (id:Nat) (o o':Ob) (l:List (Nat × Ob)) (i:Nat):look (putO id o (putO id o' l)) i = look (putO id o l) i:=by
 rw [look_putO,look_putO,look_putO]
 by_cases h:i = id <;> simp [h]
theorem Sub.same {t:PState} (hn:s.n = t.n) (hs:s.sl = t.sl) (ho:∀ i,look s.objs i = look t.objs i):Sub ctx s t:=
 Sub.drop hn (fun i p hp=>by rw [at_eq] at hp ⊢;rw [hn,hs];exact hp) (fun i o h=>by rw [ho];exact h)
theorem PWc.hF {c:Code} (hl:look s.objs id = some (.mapH nl ks ag m)) (hn:nl = false) (h:∀ bs ck,PWc P ctx c Q { s with objs:=putO id (.map ks ag m bs ck) s.objs }):PWc P ctx c Q s:=
 PWc.openH hl fun bs ck=>PWc.sub (Sub.mapF (id:=id) (by show look (putO id _ _) id = _;rw [look_putO,if_pos rfl]) hn) (PWc.sub (Sub.same (t:={ s with objs:=putO id (.map ks ag m bs ck) s.objs }) rfl rfl fun i=>by
  show look (putO id _ (putO id _ _)) i = look (putO id _ _) i;rw [look_put2]) (h bs ck))
theorem Local.openH {o:Oper} {t:PState} (hl:look s.objs id = some (.mapH nl ks ag m)) (h:∀ bs ck,Local P ctx o { s with objs:=putO id (.mapN nl ks ag m bs ck) s.objs } t):Local P ctx o s t:=fun a w hr K Qx hK=>by
 obtain ⟨bs,ck,h2⟩:=Go.Ep.openH hl hr;exact h bs ck a w h2 K Qx hK
theorem closeP {dst:Option Nat} {p:PV} {m':List (List Int × List DV)} (hl:look s.objs id = some (.mapH nl ks ag m')):Sub ctx (({ s with objs:=putO id (.mapN nl ks ag m' bs ck) s.objs }:PState).putD dst p) (s.putD dst p):=by
 refine Sub.trans (Sub.nToH (id:=id) (nl:=nl) (ks:=ks) (ag:=ag) (m:=m') (bs:=bs) (ck:=ck) ?_) (Sub.same ?_ ?_ fun i=>?_)
 ·rw [putD_objs];show look (putO id _ _) id = _;rw [look_putO,if_pos rfl]
 ·cases dst <;> rfl
 ·cases dst <;> rfl
 ·rw [putD_objs];show look (putO id _ _) i = _;rw [putD_objs];show look (putO id _ (putO id _ _)) i = _;rw [look_put2,look_putO]
  by_cases h:i = id
  ·rw [if_pos h,h,hl]
  ·rw [if_neg h]
theorem ev_objs {x:Operand} (l:List (Nat × Ob)):({ s with objs:=l }:PState).ev x = s.ev x:=by cases x <;> rfl
end
section
variable {P:Program} {ctx:Ctx} {Q:PQ} {s:PState}
variable {dst:Option Tmp} {ty:TypeId} {pos:String} {after:Array Edge} {gd:Option (Nat × Bool)}
variable {κ ν:Type} [DecidableEq κ] {eK:κ → List Int} {eV:ν → List DV} {m:List (κ × ν)} {q:κ} {zv:ν} (inj:∀ a b,eK a = eK b → a = b)
variable {x kx:Operand} {t kt et:TypeId} {ks:List IntKind} {ag:Bool} {z:Value} {p kp:PV} {id:Nat} {nl:Bool} {bs:List Nat} {ck:Nat}
section
variable (hu:P.underlying t = some (.map kt et)) (K:KeyOK P kt ks) (hz:∀ w,(zeroValue et).run P w = .ok z w) (hzr:∀ (w:World) (g:Ghost) (S:Nat → Prop),Rd w g S (elP ag (eV zv)) z) (hk:s.ev kx = some kp) (hkp:kp = keyP ks (eK q)) (hn:(eK q).length = ks.length) (hp:elP ag (eV (AL.getZ m q zv)) = p)
include inj hu K hz hzr hk hkp hn hp
theorem LR.getOkH (hx:s.ev x = some (.mp id)) (hl:look s.objs id = some (.mapH nl ks ag (encM eK eV m))):Local P ctx ⟨dst,.lookup t x kx true,ty,pos,after,gd⟩ s (s.putD dst (.tup [p,.d (.v (.bool (AL.has m q)))])):=
 Local.openH hl fun bs ck=>(LR.getOkN inj hu K hz hzr (by rw [ev_objs];exact hk) hkp hn hp (by rw [ev_objs];exact hx) (by show look (putO id _ _) id = _;rw [look_putO,if_pos rfl])).post (closeP hl)
end
include inj in
theorem LR.delH {ats:Array TypeId} (hu:P.underlying t = some (.map kt et)) (K:KeyOK P kt ks) (hx:s.ev x = some (.mp id)) (hl:look s.objs id = some (.mapH nl ks ag (encM eK eV m))) (hk:s.ev kx = some kp) (hkp:kp = keyP ks (eK q)) (hn:(eK q).length = ks.length) (hats:ats[0]? = some t) :
  Local P ctx ⟨dst,.call ⟨.builtin .delete,#[x,kx],ats⟩,ty,pos,after,gd⟩ s ((s.setO id (.mapH nl ks ag (encM eK eV (AL.del m q)))).putD dst (.tup [])):=
 Local.openH hl fun bs ck=>(LR.delN inj hu K (by rw [ev_objs];exact hx) (by show look (putO id _ _) id = _;rw [look_putO,if_pos rfl]) (by rw [ev_objs];exact hk) hkp hn hats).post
  (Sub.trans (Sub.nToH (id:=id) (by rw [putD_objs];show look (putO id _ _) id = _;rw [look_putO,if_pos rfl]))
   (Sub.same (by cases dst <;> rfl) (by cases dst <;> rfl) fun i=>by
    cases dst <;> (show look (putO id _ (putO id _ (putO id _ _))) i = look (putO id _ _) i;rw [look_put2,look_putO,look_putO,look_putO];by_cases h:i = id <;> simp [h])))
theorem LR.eqlH {mm:List (List Int × List DV)} {t t' kt et:TypeId} (hu:P.underlying t = some (.map kt et)) (hx:s.ev x = some (.mp id)) (hl:look s.objs id = some (.mapH nl ks ag mm)) :
  Local P ctx ⟨dst,.binOp .eql t x (.const (.map none)) t',ty,pos,after,gd⟩ s (s.putD dst (.d (.v (.bool nl)))):=
 Local.openH hl fun bs ck=>(LR.eqlMapN hu (by rw [ev_objs];exact hx) (by show look (putO id _ _) id = _;rw [look_putO,if_pos rfl])).post (closeP hl)
end
inductive JCs (nm:List Nat):List PV → List PV → Prop
 | nil:JCs nm [] []
 | keep {p:PV} {cs cs':List PV} (h:p.named nm = true) (t:JCs nm cs cs'):JCs nm (p :: cs) (p :: cs')
 | junk {p:PV} {cs cs':List PV} (t:JCs nm cs cs'):JCs nm (p :: cs) (.junk :: cs')
inductive JOb (nm:List Nat):Ob → Ob → Prop
 | same {o:Ob} (h:o.named nm = true):JOb nm o o
 | cells {T:TypeId} {cs cs':List PV} (h:JCs nm cs cs'):JOb nm (.cells T cs) (.cells T cs')
inductive JObs (nm:List Nat):List (Nat × Ob) → List (Nat × Ob) → Prop
 | nil:JObs nm [] []
 | cons {k:Nat} {o o':Ob} {F F':List (Nat × Ob)} (h:JOb nm o o') (t:JObs nm F F'):JObs nm ((k,o) :: F) ((k,o') :: F')
theorem JCs.len {nm:List Nat} {cs cs':List PV} (h:JCs nm cs cs'):cs'.length = cs.length:=by
 induction h with
 | nil=>rfl
 | keep _ _ ih=>simp [ih]
 | junk _ ih=>simp [ih]
theorem JCs.get {nm:List Nat} {cs cs':List PV} (h:JCs nm cs cs'):∀ (i:Nat) (p:PV),cs'[i]? = some p → p = .junk ∨ cs[i]? = some p:=by
 induction h with
 | nil=>intro i p h;simp at h
 | keep _ _ ih=>
  intro i p h
  cases i with
  | zero=>exact .inr (by simpa using h)
  | succ i=>simpa using ih i p (by simpa using h)
 | junk _ ih=>
  intro i p h
  cases i with
  | zero=>exact .inl (by simpa using h.symm)
  | succ i=>simpa using ih i p (by simpa using h)
theorem JCs.named {nm:List Nat} {cs cs':List PV} (h:JCs nm cs cs'):PV.named.namedL nm cs' = true:=by
 induction h with
 | nil=>rfl
 | keep h _ ih=>simp only [PV.named.namedL,h,ih,Bool.and_self]
 | junk _ ih=>simp only [PV.named.namedL,PV.named,ih,Bool.and_self]
theorem JOb.named {nm:List Nat} {o o':Ob} (h:JOb nm o o'):o'.named nm = true:=by
 cases h with
 | same h=>exact h
 | cells h=>exact h.named
theorem JOb.rd {nm:List Nat} {o o':Ob} (h:JOb nm o o') {w:World} {g:Ghost} {S:Nat → Prop} {id:Nat} (hr:ObRd w g S id o):ObRd w g S id o':=by
 cases h with
 | same=>exact hr
 | cells h=>
  cases hr with
  | cells _ _ blk n us hgi hh hl hr' h1=>
   refine .cells _ _ blk n us hgi hh (h.len.trans hl) (fun i p u hp hu=>?_) h1;rcases h.get i p hp with rfl | h2
   ·exact .junk u
   ·exact hr' i p u h2 hu
theorem JObs.look {nm:List Nat} {F F':List (Nat × Ob)} (h:JObs nm F F'):∀ (id:Nat) (o':Ob),Go.Ep.look F' id = some o' → ∃ o,Go.Ep.look F id = some o ∧ JOb nm o o':=by
 induction h with
 | nil=>intro id o' h;simp [Go.Ep.look] at h
 | cons h _ ih=>
  intro id o' hl;simp only [Go.Ep.look] at hl ⊢
  split at hl
  ·rename_i e;cases hl;exact ⟨_,by rw [if_pos e],h⟩
  ·rename_i e;rw [if_neg e];exact ih id o' hl
theorem JObs.keys {nm:List Nat} {F F':List (Nat × Ob)} (h:JObs nm F F'):F'.map (·.1) = F.map (·.1):=by
 induction h with
 | nil=>rfl
 | cons _ _ ih=>simp [ih]
theorem look_nkey {l:List (Nat × Ob)} {i:Nat} (h:i ∉ l.map (·.1)):look l i = none:=by
 cases hl:look l i with
 | none=>rfl
 | some o=>exact absurd (look_key hl) h
theorem OwnB.app {g:Ghost} {a b:List (Nat × Ob)} {k:Nat} (h:OwnB g (a ++ b) k):OwnB g a k ∨ OwnB g b k:=by
 obtain ⟨id,o,n,h1,h2⟩:=h;rw [look_append] at h1
 cases hl:look a id with
 | none=>rw [hl,Option.none_or] at h1;exact .inr ⟨id,o,n,h1,h2⟩
 | some q=>rw [hl,Option.some_or] at h1;exact .inl ⟨id,q,n,hl,h2⟩
theorem PObj.frame {G:Type} {P:Program} {f:FuncId} {ps:List PV} {os:List (Nat × Ob)} {pins ks:List Nat} {r:PV} {os':G → List (Nat × Ob)} (F F':List (Nat × Ob)) (hc:PObj P f ps os pins r os')
  (hks:∀ gh,(os' gh).map (·.1) = ks) (hcl:∀ gh,(os' gh).all (fun x=>x.2.named ks) = true) (hr:r.named ks = true) (hd:((F.map (·.1)).all fun k=>!inL (os.map (·.1)) k && !inL ks k) = true) (hj:JObs (pins ++ F.map (·.1)) F F') :
  PObj P f ps (os ++ F) (pins ++ F.map (·.1)) r (fun gh=>os' gh ++ F'):=by
 intro w g S vs hlen hreal hobs hdis;have hd1:∀ k ∈ F.map (·.1),k ∉ os.map (·.1) ∧ k ∉ ks:=fun k hk=>by
  have h:=List.all_eq_true.1 hd k hk;rw [Bool.and_eq_true,Bool.not_eq_true',Bool.not_eq_true',inL_false,inL_false] at h;exact h
 have lookR:∀ {id o},look F id = some o → look (os ++ F) id = some o:=fun {id o} h=>by
  rw [look_append,look_nkey (hd1 id (look_key h)).1,Option.none_or];exact h
 have ownL:∀ {b},OwnB g os b → OwnB g (os ++ F) b:=fun ⟨id,o,n,h1,h2⟩=>⟨id,o,n,look_left h1,h2⟩
 have ownR:∀ {b},OwnB g F b → OwnB g (os ++ F) b:=fun ⟨id,o,n,h1,h2⟩=>⟨id,o,n,lookR h1,h2⟩
 have hnF:∀ {id o b n},look F id = some o → g id = some (b,n) → ¬ OwnB g os b:=fun {id o b n} h1 h2 ⟨id2,o2,n2,h3,h4⟩=>by
  have:=hobs.inj id id2 o o2 b n n2 (lookR h1) (look_left h3) h2 h4;subst this;exact (hd1 id (look_key h1)).1 (look_key h3)
 refine (hc w g S vs hlen hreal ⟨fun id o h=>hobs.rd id o (look_left h),fun i j oi oj b n m hi hj=>hobs.inj i j oi oj b n m (look_left hi) (look_left hj),fun id o b n h=>hobs.lt id o b n (look_left h)⟩ (fun b hb h=>hdis b hb (ownL h))).mono fun e w' ⟨u,g',gh,he,hpost⟩=>?_
 have hks':=hks gh;have hcl':=hcl gh
 let G':Ghost:=fun j=>if inL (F.map (·.1)) j then g j else g' j
 refine ⟨u,G',gh,he,?_⟩;show ObPost w g S (os ++ F) (pins ++ F.map (·.1)) r (os' gh ++ F') w' G' u
 generalize os' gh = os1 at hpost hks' hcl' ⊢
 have gF:∀ {j},j ∈ F.map (·.1) → G' j = g j:=fun {j} h=>by simp only [G',inL_iff.2 h,if_true]
 have gN:∀ {j},j ∉ F.map (·.1) → G' j = g' j:=fun {j} h=>by simp only [G',inL_false.2 h,Bool.false_eq_true,if_false]
 have gK:∀ {j},j ∈ ks → G' j = g' j:=fun {j} h=>gN fun h2=>(hd1 j h2).2 h
 have gP:∀ {j},j ∈ pins ++ F.map (·.1) → G' j = g j:=fun {j} h=>by
  by_cases hf:j ∈ F.map (·.1)
  ·exact gF hf
  ·rw [gN hf];exact hpost.pin j ((List.mem_append.1 h).resolve_right hf)
 have split:∀ {id o},look (os1 ++ F') id = some o → (look os1 id = some o ∧ id ∈ ks) ∨ ∃ o0,look F id = some o0 ∧ JOb (pins ++ F.map (·.1)) o0 o:=fun {id o} h=>by
  rw [look_append] at h
  cases hl:look os1 id with
  | none=>rw [hl,Option.none_or] at h;exact .inr (hj.look id o h)
  | some q=>rw [hl,Option.some_or] at h;cases h;exact .inl ⟨rfl,hks' ▸ look_key hl⟩
 have hA:∀ b,After w g S os g' os1 b → After w g S (os ++ F) G' (os1 ++ F') b:=fun b ⟨h1,h2⟩=>⟨by
  rcases h1 with h1 | h1 | h1
  ·exact .inl h1
  ·exact .inr (.inl (ownL h1))
  ·exact .inr (.inr h1),fun ⟨id,o,n,hl,hgi⟩=>by
  rcases split hl with ⟨h3,h4⟩ | ⟨o0,h3,h4⟩
  ·rw [gK h4] at hgi;exact h2 ⟨id,o,n,h3,hgi⟩
  ·rw [gF (look_key h3)] at hgi;rcases h1 with h1 | h1 | h1
   ·exact hdis b h1 ⟨id,o0,n,lookR h3,hgi⟩
   ·exact hnF h3 hgi h1
   ·have:=hobs.lt id o0 b n (lookR h3) hgi;omega⟩
 have hS:∀ b,S b → b < w.heap.size → After w g S (os ++ F) G' (os1 ++ F') b:=fun b hb hlt=>⟨.inl hb,fun ⟨id,o,n,hl,hgi⟩=>by
  rcases split hl with ⟨h3,h4⟩ | ⟨o0,h3,h4⟩
  ·rw [gK h4] at hgi;rcases hpost.own b ⟨id,o,n,h3,hgi⟩ with h5 | h5
   ·exact hdis b hb (ownL h5)
   ·omega
  ·rw [gF (look_key h3)] at hgi;exact hdis b hb ⟨id,o0,n,lookR h3,hgi⟩⟩
 have hst:Stays w w' S:=⟨hpost.grows,fun b hb hlt=>hpost.keep b hlt fun h=>hdis b hb (ownL h)⟩
 have hst':Stays w' w' (After w g S os g' os1):=⟨Nat.le_refl _,fun _ _ _=>rfl⟩
 refine ⟨hpost.eos,hpost.tape,hpost.output,hpost.grows,fun k hk h=>hpost.keep k hk fun h2=>h (ownL h2),fun b ⟨id,o,n,hl,hgi⟩=>?_,fun id h=>gP h,?_,⟨fun id o hl=>?_,fun i j oi oj b n m hi hj' hgi hgj=>?_,fun id o b n hl hgi=>?_⟩⟩
 ·rcases split hl with ⟨h3,h4⟩ | ⟨o0,h3,h4⟩
  ·rw [gK h4] at hgi;exact (hpost.own b ⟨id,o,n,h3,hgi⟩).imp ownL (fun h=>h)
  ·rw [gF (look_key h3)] at hgi;exact .inl (ownR ⟨id,o0,n,h3,hgi⟩)
 ·exact hpost.res.keep hst' (fun b hb _=>hA b hb) fun j hjj=>gK (PV.named_has hr hjj)
 ·rcases split hl with ⟨h3,h4⟩ | ⟨o0,h3,h4⟩
  ·have hn:=(List.all_eq_true.1 hcl') _ (look_mem h3);exact (hpost.obs.rd id o h3).keep hst' (fun b hb _=>hA b hb) (fun _ _ _=>rfl) (gK h4) fun j hjj=>gK (Ob.named_has hn hjj)
  ·exact (h4.rd (hobs.rd id o0 (lookR h3))).keep hst hS (fun b n hgi=>hpost.keep b (hobs.lt id o0 b n (lookR h3) hgi) (hnF h3 hgi)) (gF (look_key h3)) fun j hjj=>gP (Ob.named_has h4.named hjj)
 ·rcases split hi with ⟨h3,h4⟩ | ⟨o0,h3,h4⟩ <;> rcases split hj' with ⟨h5,h6⟩ | ⟨o2,h5,h6⟩
  ·rw [gK h4] at hgi;rw [gK h6] at hgj;exact hpost.obs.inj i j oi oj b n m h3 h5 hgi hgj
  ·rw [gK h4] at hgi;rw [gF (look_key h5)] at hgj;exfalso;rcases hpost.own b ⟨i,oi,n,h3,hgi⟩ with h7 | h7
   ·exact hnF h5 hgj h7
   ·have:=hobs.lt j o2 b m (lookR h5) hgj;omega
  ·rw [gF (look_key h3)] at hgi;rw [gK h6] at hgj;exfalso;rcases hpost.own b ⟨j,oj,m,h5,hgj⟩ with h7 | h7
   ·exact hnF h3 hgi h7
   ·have:=hobs.lt i o0 b n (lookR h3) hgi;omega
  ·rw [gF (look_key h3)] at hgi;rw [gF (look_key h5)] at hgj;exact hobs.inj i j o0 o2 b n m (lookR h3) (lookR h5) hgi hgj
 ·rcases split hl with ⟨h3,h4⟩ | ⟨o0,h3,h4⟩
  ·rw [gK h4] at hgi;exact hpost.obs.lt id o b n h3 hgi
  ·rw [gF (look_key h3)] at hgi;exact Nat.lt_of_lt_of_le (hobs.lt id o0 b n (lookR h3) hgi) hpost.grows
section
variable {ctx:Ctx} {s:PState}
inductive RSl (s:PState) (ρ:List (Nat × Nat)):List (Nat × PV) → Prop
 | nil:RSl s ρ []
 | cons {i:Nat} {p:PV} {r:List (Nat × PV)} (h:s.at i = some (p.ren ρ)) (t:RSl s ρ r):RSl s ρ ((i,p) :: r)
theorem RSl.get {ρ:List (Nat × Nat)} {l:List (Nat × PV)} (h:RSl s ρ l):∀ i p,getS l i = some p → s.at i = some (p.ren ρ):=by
 induction h with
 | nil=>intro i p h;simp [getS] at h
 | cons h _ ih=>
  intro i p hl;rw [getS_cons] at hl
  split at hl
  ·rename_i e;subst e;cases hl;exact h
  ·exact ih i p hl
def injR (ρ:List (Nat × Nat)) (ks:List Nat):Bool:=ks.all fun i=>ks.all fun j=>Nat.beq i j || !Nat.beq (rn ρ i) (rn ρ j)
theorem Sub.rnm (ρ:List (Nat × Nat)) {n:Nat} {tl:List (Nat × PV)} {to:List (Nat × Ob)} (hn:s.n = n) (hs:RSl s ρ tl) (ho:AllOb s ρ to) (hi:injR ρ (to.map (·.1)) = true):Sub ctx s ⟨n,tl,to⟩:=by
 rintro a w ⟨g,h⟩;have hlo:=ho.get;have hF:∀ b,Free ctx g s.objs b → Free ctx (fun i=>g (rn ρ i)) to b:=fun b hb=>⟨hb.1,fun id o n h1 h2=>hb.2 _ _ n (hlo id o h1) h2⟩
 have hst:Stays w w (Free ctx g s.objs):=⟨Nat.le_refl _,fun _ _ _=>rfl⟩
 have hinj:∀ i j,i ∈ to.map (·.1) → j ∈ to.map (·.1) → rn ρ i = rn ρ j → i = j:=fun i j h1 h2 e=>by
  have h3:=List.all_eq_true.1 (List.all_eq_true.1 hi i h1) j h2;rw [Bool.or_eq_true,Bool.not_eq_true'] at h3;rcases h3 with h3 | h3
  ·exact Nat.eq_of_beq_eq_true h3
  ·rw [e,Nat.beq_refl] at h3;cases h3
 refine ⟨fun i=>g (rn ρ i),h.defers,by rw [h.size,hn],fun i p hp=>?_,fun id o hl=>?_,fun i j oi oj b n m h1 h2 hgi hgj=>?_,fun id o b n h1 hgi=>?_,h.os,h.tape,h.output,h.grows,h.keep⟩
 ·have h1:=hs.get i p (at_get hp);exact ((h.slots i _ h1).unren rfl).keep hst (fun b hb _=>hF b hb) (fun _ _=>rfl)
 ·exact ((h.objs _ _ (hlo id o hl)).unren rfl rfl).keep hst (fun b hb _=>hF b hb) (fun _ _ _=>rfl) rfl (fun _ _=>rfl)
 ·exact hinj i j (look_key h1) (look_key h2) (h.inj _ _ _ _ b n m (hlo i oi h1) (hlo j oj h2) hgi hgj)
 ·exact h.own _ _ b n (hlo id o h1) hgi
end
inductive LookIn (os':List (Nat × Ob)):List (Nat × Ob) → Prop
 | nil:LookIn os' []
 | cons {i:Nat} {o:Ob} {r:List (Nat × Ob)} (h:Go.Ep.look os' i = some o) (t:LookIn os' r):LookIn os' ((i,o) :: r)
theorem LookIn.get {os' l:List (Nat × Ob)} (h:LookIn os' l):∀ i o,Go.Ep.look l i = some o → Go.Ep.look os' i = some o:=by
 induction h with
 | nil=>intro i o h;simp [Go.Ep.look] at h
 | cons h _ ih=>
  intro j o2 hl;simp only [Go.Ep.look] at hl
  split at hl
  ·rename_i e;subst e;cases hl;exact h
  ·exact ih j o2 hl
theorem lookF {ρ:List (Nat × Nat)} {acc:List (Nat × Ob)} {i:Nat} {o:Ob}:∀ {l:List (Nat × Ob)},look l i = some o → (∀ j ∈ l.map (·.1),rn ρ j = rn ρ i → j = i) → look (l.foldr (fun x l=>putO (rn ρ x.1) (x.2.ren ρ) l) acc) (rn ρ i) = some (o.ren ρ)
 | [],h,_=>by simp [look] at h
 | (k,q) :: r,h,hi=>by
  rw [List.foldr_cons,look_putO]
  by_cases e:rn ρ i = rn ρ k
  ·rw [if_pos e];have:=hi k (by simp) e.symm;subst this;simp [look] at h;rw [h]
  ·rw [if_neg e];refine lookF (l:=r) ?_ (fun j hj=>hi j (by simp only [List.map_cons,List.mem_cons];exact .inr hj));simp only [look] at h;rw [if_neg (fun e2=>e (by rw [e2]))] at h;exact h
theorem lookN {ρ:List (Nat × Nat)} {acc:List (Nat × Ob)} {j:Nat}:∀ {l:List (Nat × Ob)},(∀ i ∈ l.map (·.1),rn ρ i ≠ j) → look (l.foldr (fun x l=>putO (rn ρ x.1) (x.2.ren ρ) l) acc) j = look acc j
 | [],_=>rfl
 | (k,q) :: r,h=>by
  rw [List.foldr_cons,look_putO,if_neg (fun e=>h k (by simp) e.symm)];exact lookN fun i hi=>h i (by simp only [List.map_cons,List.mem_cons];exact .inr hi)
theorem lookDN {ρ:List (Nat × Nat)} {acc:List (Nat × Ob)} {j:Nat}:∀ {l:List (Nat × Ob)},(∀ i ∈ l.map (·.1),rn ρ i ≠ j) → look (l.foldr (fun x l=>delO (rn ρ x.1) l) acc) j = look acc j
 | [],_=>rfl
 | (k,q) :: r,h=>by
  rw [List.foldr_cons,look_delO,if_neg (fun e=>h k (by simp) e.symm)];exact lookDN fun i hi=>h i (by simp only [List.map_cons,List.mem_cons];exact .inr hi)
theorem key_look {l:List (Nat × Ob)} {i:Nat} (h:i ∈ l.map (·.1)):∃ o,look l i = some o:=by
 cases hl:look l i with
 | some o=>exact ⟨o,rfl⟩
 | none=>
  exfalso
  induction l with
  | nil=>cases h
  | cons x r ih=>
   simp only [look] at hl
   split at hl
   ·cases hl
   ·rename_i e
    simp only [List.map_cons,List.mem_cons] at h;exact ih (h.resolve_left e) hl
section
variable {P:Program} {ctx:Ctx} {Q:PState → Prop} {s:PState} {ops:Array Oper} {rest:List Oper} {fs:List Ft} {f:Ft}
variable {dst:Option Tmp} {ty:TypeId} {pos:String} {after:Array Edge} {gd:Option (Nat × Bool)}
theorem PQe.callObjS {x:Operand} {xs:List Operand} {ats:Array TypeId} {fn:FuncId} {ps qs:List PV} {os os':List (Nat × Ob)} {pins:List Nat} {r:PV} (ρ:List (Nat × Nat)) (js ks:List Nat) (osV osS:List (Nat × Ob))
  (hc:PObj P fn ps os pins r (fun _:Unit=>os')) (hK:∀ b,ctx.K b → ctx.S b)
  (hev:∀ s':PState,(∀ {y q},readsX (⟨dst,.call ⟨.value x,xs.toArray,ats⟩,ty,pos,after,gd⟩:Oper) y = true → s.ev y = some q → s'.ev y = some q) → s'.ev x = some (.d (.v (.func (.func fn) #[] #[]))) ∧ s'.evs xs = some qs)
  (he:∀ args w,(callFunc fn args).run P w = .ok (.enter fn args) w) (hq:qs.map PV.nilD = ps.map (PV.ren ρ)) (hos:AllOb s ρ os) (hV:LookIn os' osV) (hS:LookIn os' osS) (hAS:AllOb s ρ osS) (hcov:(os'.map (·.1)).all (fun i=>inL (osV.map (·.1)) i || inL (osS.map (·.1)) i) = true) (hSo:(osS.map (·.1)).all (inL (os.map (·.1))) = true)
  (hks:os'.map (·.1) = ks) (hcl:os'.all (fun x=>x.2.named ks) = true) (hr:r.named ks = true) (hok:calO ρ js (os.map (·.1)) pins ks f = true)
  (hg:Wd ops (⟨dst,.call ⟨.value x,xs.toArray,ats⟩,ty,pos,after,gd⟩:Oper) s) (hk:okE f (effO ρ js dst r osV) = true) (h:PQe P ctx ops Q rest fs (s.app (effO ρ js dst r osV))) :
  PQe P ctx ops Q (⟨dst,.call ⟨.value x,xs.toArray,ats⟩,ty,pos,after,gd⟩ :: rest) (f :: fs) s:=by
 simp only [calO,Bool.and_eq_true] at hok;obtain ⟨⟨⟨⟨⟨c1,c2⟩,c3⟩,c4⟩,c5⟩,c6⟩:=hok;refine .step (e:=effO ρ js dst r osV) (fun s' hn hee ho hfr hal=>?_) hg hk h;obtain ⟨h1,h2⟩:=hev s' (fun hx hq=>hee hx hq);have hinj:∀ i j,i ∈ os.map (·.1) ++ ks → j ∈ os.map (·.1) ++ ks → rn ρ i = rn ρ j → i = j:=fun i j hi hj e=>by
  have h3:=List.all_eq_true.1 (List.all_eq_true.1 c1 i hi) j hj;rw [Bool.or_eq_true,Bool.not_eq_true'] at h3;rcases h3 with h | h
  ·exact Nat.eq_of_beq_eq_true h
  ·rw [e,Nat.beq_refl] at h;cases h
 have hok':callOK s' ρ js (os.map (·.1)) pins ks = true:=by
  unfold callOK;rw [Bool.and_eq_true,Bool.and_eq_true];refine ⟨⟨c1,?_⟩,?_⟩
  ·rw [List.all_eq_true] at c2 ⊢;intro i hi;have:=c2 i hi;rw [Bool.or_eq_true] at this ⊢;exact this.imp (fun h=>h) fun h=>hfr _ (inL_iff.1 h)
  ·rw [List.all_eq_true] at c5 ⊢;intro i hi;have:=c5 i hi;rw [Bool.or_eq_true,Bool.or_eq_true] at this;rw [Bool.or_eq_true];rcases this with (h | h) | h
   ·exact .inl h
   ·refine .inr ?_;have hf:=hfr _ (inL_iff.1 h);rw [Bool.and_eq_true];refine ⟨chk_junks js hf,?_⟩;simp only [PState.fresh,Bool.and_eq_true,List.all_eq_true] at hf;rw [List.all_eq_true];intro y hy;rw [Bool.or_eq_true];exact .inl (hf.2 y hy).2
   ·refine .inr ?_;obtain ⟨a,ha1,ha2⟩:=List.any_eq_true.1 h;simp only [Bool.and_eq_true,beq_iff_eq] at ha2;have hx:=hal a ha1;rw [Nat.eq_of_beq_eq_true ha2.1,ha2.2] at hx;unfold PState.aloneX at hx;rw [Bool.and_eq_true,junks_objs] at hx;rw [Bool.and_eq_true];refine ⟨hx.1,?_⟩;rw [List.all_eq_true] at c4;have hx2:=hx.2;rw [List.all_eq_true] at hx2 ⊢;intro y hy;have:=hx2 y hy;rw [Bool.or_eq_true] at this ⊢;rcases this with h | h
    ·exact .inr (c4 _ (inL_iff.1 h))
    ·exact .inl h
 have hl:=LR.callObj (P:=P) (ctx:=ctx) (dst:=dst) (ty:=ty) (pos:=pos) (after:=after) (gd:=gd) (ats:=ats) ρ js ks hc hK h1 he h2 hq (hos.keep (fun hi hl=>ho (inL_iff.1 hi) hl) c6) hks hcl hr hok';have hAS':AllOb s' ρ osS:=hAS.keep (f:=f) (fun hi hl=>ho (inL_iff.1 hi) hl) (by
  rw [List.all_eq_true] at c6 hSo ⊢;exact fun i hi=>c6 i (inL_iff.1 (hSo i hi)))
 refine hl.post (Sub.drop ?_ ?_ ?_)
 ·cases dst <;> rfl
 ·intro i p hp;have hat:=at_get hp;have hlt:i < s'.n:=at_lt (s:=s'.app (effO ρ js dst r osV)) hp;refine at_of (by cases dst <;> exact hlt) ?_;simp only [PState.app,effO] at hat
  cases dst with
  | none=>simpa [dstL,PState.putD,PState.callO,junks_sl] using hat
  | some d=>simpa [dstL,PState.putD,PState.put,PState.callO,junks_sl] using hat
 ·intro id o hlo;have e1:(s'.app (effO ρ js dst r osV)).objs = osV.foldr (fun x l=>putO (rn ρ x.1) (x.2.ren ρ) l) s'.objs:=by
   simp only [PState.app,effO,List.foldr_map]
  have e2:((s'.callO ρ js os os').putD dst (r.ren ρ)).objs = os'.foldr (fun x l=>putO (rn ρ x.1) (x.2.ren ρ) l) (os.foldr (fun x l=>delO (rn ρ x.1) l) s'.objs):=by cases dst <;> rfl
  rw [e1] at hlo;rw [e2];have inj':∀ i,i ∈ os'.map (·.1) → ∀ j ∈ os'.map (·.1),rn ρ j = rn ρ i → j = i:=fun i hi j hj e=>hinj j i (List.mem_append_right _ (hks ▸ hj)) (List.mem_append_right _ (hks ▸ hi)) e
  rcases lookR hlo with ⟨i,o1,h3,h4,h5⟩ | ⟨h3,h4⟩
  ·have h6:=hV.get i o1 h3;rw [h4,h5];exact lookF h6 (inj' i (look_key h6))
  ·by_cases hex:∃ i ∈ os'.map (·.1),rn ρ i = id
   ·obtain ⟨i,hi,rfl⟩:=hex;have h5:=List.all_eq_true.1 hcov i hi;rw [Bool.or_eq_true] at h5;rcases h5 with h5 | h5
    ·exact absurd rfl (h3 i (inL_iff.1 h5))
    ·obtain ⟨o2,h6⟩:=key_look (inL_iff.1 h5);have h7:=hAS'.get i o2 h6;rw [h4] at h7
     cases h7
     exact lookF (hS.get i o2 h6) (inj' i hi)
   ·rw [lookN fun i hi e=>hex ⟨i,hi,e⟩,lookDN fun i hi e=>hex ⟨i,by rw [hks];exact inL_iff.1 (List.all_eq_true.1 c3 i hi),e⟩];exact h4
end
section
variable {P:Program} {ctx:Ctx} {s:PState}
variable {dst:Option Tmp} {ty:TypeId} {pos:String} {after:Array Edge} {gd:Option (Nat × Bool)}
theorem callO_sub {os os':List (Nat × Ob)} {pins:List Nat} {r:PV} (ρ:List (Nat × Nat)) (js ks:List Nat) (osV osS:List (Nat × Ob)) (hV:LookIn os' osV) (hS:LookIn os' osS) (hAS:AllOb s ρ osS) (hcov:(os'.map (·.1)).all (fun i=>inL (osV.map (·.1)) i || inL (osS.map (·.1)) i) = true) (c3:(os.map (·.1)).all (inL ks) = true)
  (hks:os'.map (·.1) = ks) (hok:callOK s ρ js (os.map (·.1)) pins ks = true):Sub ctx ((s.callO ρ js os os').putD dst (r.ren ρ)) (s.app (effO ρ js dst r osV)):=by
 have hinj:∀ i j,i ∈ os.map (·.1) ++ ks → j ∈ os.map (·.1) ++ ks → rn ρ i = rn ρ j → i = j:=fun i j hi hj e=>by
  simp only [callOK,Bool.and_eq_true] at hok;have h3:=List.all_eq_true.1 (List.all_eq_true.1 hok.1.1 i hi) j hj;rw [Bool.or_eq_true,Bool.not_eq_true'] at h3;rcases h3 with h | h
  ·exact Nat.eq_of_beq_eq_true h
  ·rw [e,Nat.beq_refl] at h;cases h
 refine Sub.drop ?_ ?_ ?_
 ·cases dst <;> rfl
 ·intro i p hp;have hat:=at_get hp;have hlt:i < s.n:=at_lt (s:=s.app (effO ρ js dst r osV)) hp;refine at_of (by cases dst <;> exact hlt) ?_;simp only [PState.app,effO] at hat
  cases dst with
  | none=>simpa [dstL,PState.putD,PState.callO,junks_sl] using hat
  | some d=>simpa [dstL,PState.putD,PState.put,PState.callO,junks_sl] using hat
 ·intro id o hlo;have e1:(s.app (effO ρ js dst r osV)).objs = osV.foldr (fun x l=>putO (rn ρ x.1) (x.2.ren ρ) l) s.objs:=by
   simp only [PState.app,effO,List.foldr_map]
  have e2:((s.callO ρ js os os').putD dst (r.ren ρ)).objs = os'.foldr (fun x l=>putO (rn ρ x.1) (x.2.ren ρ) l) (os.foldr (fun x l=>delO (rn ρ x.1) l) s.objs):=by cases dst <;> rfl
  rw [e1] at hlo;rw [e2];have inj':∀ i,i ∈ os'.map (·.1) → ∀ j ∈ os'.map (·.1),rn ρ j = rn ρ i → j = i:=fun i hi j hj e=>hinj j i (List.mem_append_right _ (hks ▸ hj)) (List.mem_append_right _ (hks ▸ hi)) e
  rcases lookR hlo with ⟨i,o1,h3,h4,h5⟩ | ⟨h3,h4⟩
  ·have h6:=hV.get i o1 h3;rw [h4,h5];exact lookF h6 (inj' i (look_key h6))
  ·by_cases hex:∃ i ∈ os'.map (·.1),rn ρ i = id
   ·obtain ⟨i,hi,rfl⟩:=hex;have h5:=List.all_eq_true.1 hcov i hi;rw [Bool.or_eq_true] at h5;rcases h5 with h5 | h5
    ·exact absurd rfl (h3 i (inL_iff.1 h5))
    ·obtain ⟨o2,h6⟩:=key_look (inL_iff.1 h5);have h7:=hAS.get i o2 h6;rw [h4] at h7
     cases h7
     exact lookF (hS.get i o2 h6) (inj' i hi)
   ·rw [lookN fun i hi e=>hex ⟨i,hi,e⟩,lookDN fun i hi e=>hex ⟨i,by rw [hks];exact inL_iff.1 (List.all_eq_true.1 c3 i hi),e⟩];exact h4
theorem LR.callObjS {x:Operand} {xs:List Operand} {ats:Array TypeId} {fn:FuncId} {ps qs:List PV} {os os':List (Nat × Ob)} {pins:List Nat} {r:PV} (ρ:List (Nat × Nat)) (js ks:List Nat) (osV osS:List (Nat × Ob))
  (hc:PObj P fn ps os pins r (fun _:Unit=>os')) (hK:∀ b,ctx.K b → ctx.S b) (hx:s.ev x = some (.d (.v (.func (.func fn) #[] #[])))) (he:∀ args w,(callFunc fn args).run P w = .ok (.enter fn args) w) (hps:s.evs xs = some qs)
  (hq:qs.map PV.nilD = ps.map (PV.ren ρ)) (hos:AllOb s ρ os) (hV:LookIn os' osV) (hS:LookIn os' osS) (hAS:AllOb s ρ osS) (hcov:(os'.map (·.1)).all (fun i=>inL (osV.map (·.1)) i || inL (osS.map (·.1)) i) = true) (c3:(os.map (·.1)).all (inL ks) = true)
  (hks:os'.map (·.1) = ks) (hcl:os'.all (fun x=>x.2.named ks) = true) (hr:r.named ks = true) (hok:callOK s ρ js (os.map (·.1)) pins ks = true) :
  Local P ctx ⟨dst,.call ⟨.value x,xs.toArray,ats⟩,ty,pos,after,gd⟩ s (s.app (effO ρ js dst r osV)):=
 (LR.callObj (P:=P) (ctx:=ctx) (dst:=dst) (ty:=ty) (pos:=pos) (after:=after) (gd:=gd) (ats:=ats) ρ js ks hc hK hx he hps hq hos hks hcl hr hok).post (callO_sub ρ js ks osV osS hV hS hAS hcov c3 hks hok)
theorem PWl.callObjS {G:Type} {Q:PQ} {ops:Array Oper} {rest:List Oper} {x:Operand} {xs:List Operand} {ats:Array TypeId} {fn:FuncId} {ps qs:List PV} {os:List (Nat × Ob)} {os':G → List (Nat × Ob)} {pins:List Nat} {r:PV} (ρ:List (Nat × Nat)) (js ks:List Nat) (osV:G → List (Nat × Ob)) (osS:List (Nat × Ob))
  (hc:PObj P fn ps os pins r os') (hK:∀ b,ctx.K b → ctx.S b) (hx:s.ev x = some (.d (.v (.func (.func fn) #[] #[])))) (he:∀ args w,(callFunc fn args).run P w = .ok (.enter fn args) w) (hps:s.evs xs = some qs)
  (hq:qs.map PV.nilD = ps.map (PV.ren ρ)) (hos:AllOb s ρ os) (hV:∀ gh,LookIn (os' gh) (osV gh)) (hS:∀ gh,LookIn (os' gh) osS) (hAS:AllOb s ρ osS) (hcov:∀ gh,((os' gh).map (·.1)).all (fun i=>inL ((osV gh).map (·.1)) i || inL (osS.map (·.1)) i) = true) (c3:(os.map (·.1)).all (inL ks) = true)
  (hks:∀ gh,(os' gh).map (·.1) = ks) (hcl:∀ gh,(os' gh).all (fun x=>x.2.named ks) = true) (hr:r.named ks = true) (hok:callOK s ρ js (os.map (·.1)) pins ks = true) (hgd:gd = none)
  (h:∀ gh,PWl P ctx ops Q rest (s.app (effO ρ js dst r (osV gh)))):PWl P ctx ops Q (⟨dst,.call ⟨.value x,xs.toArray,ats⟩,ty,pos,after,gd⟩ :: rest) s:=
 PWl.callObj ρ js ks hc hK hx he hps hq hos hks hcl hr hok hgd fun gh=>PWl.sub (callO_sub ρ js ks (osV gh) osS (hV gh) (hS gh) hAS (hcov gh) c3 (hks gh) hok) (h gh)
end
end Go.Ep

namespace Go.Proofs
open Go.Ep
set_option maxHeartbeats 1000000
set_option maxRecDepth 100000
set_option linter.unusedVariables false
set_option linter.unusedSimpArgs false


theorem r09_Few_ok (c1:List TPart) (r0:Bool) (h:(r09_Few c1).wp (· = r0)):PFun Tryz.prog 8 [.d (.sl (List.map TPart.e c1))] (.d (.v (.bool r0))):=by
 refine fI (sl:=[(0,_)]) Tryz.func8 rfl Tryz.ntmps8 rfl rfl ?_;intro ctx hK;refine wQ<|wR<|wa ?_;refine wN<|wQ<|wQ<|wR<|wm ?_;refine wS (lM (enc:=TPart.e) (L:=c1) Tryz.underlying24 rfl) rfl<|wS (LR.gtr rfl rfl) rfl<|wN ?_;refine wC rfl (fun hc2=>?_) (fun hc2=>?_)
 ·replace h:=iT hc2 h;refine wQ<|wR<|wa ?_;refine wN<|wX ?_;replace h:_ = r0:=h;subst h;exact ⟨.inr rfl,_,.cons (.tmp rfl rfl)<|.nil,rfl⟩
 ·replace h:=iF hc2 h;refine wK<|wQ<|wQ<|wR<|wa ?_;refine wN ?_;refine PWc.jnX (iBind h) (fun (_:Unit) (_:Unit)=>⟨20,[],[]⟩) (fun h=>?_) ?_
  ·refine wB<|wM (fun (i12:Int) (_:Unit)=>⟨20,[(0,.d (.sl (List.map TPart.e c1))),(3,.d (.v (.int .i64 i12)))],[]⟩) () h (sP) ?_;rintro N i12 _ h;refine wQ<|wQ<|wR<|wm ?_;refine wm ?_;refine wS (lM (enc:=TPart.e) (L:=c1) Tryz.underlying24 rfl) rfl<|wS (LR.lss rfl rfl) rfl<|wN ?_;refine wC rfl (fun hc13=>?_) (fun hc13=>?_)
   ·replace h:=iT hc13 h;refine wK<|wQ<|wB<|wQ<|wR<|wm ?_;refine wm ?_;replace h:=iIdx h;obtain ⟨x14,hy15,h⟩:=h;refine wS (iX (enc:=TPart.e) (L:=c1) (y:=x14) Tryz.underlying24 Tryz.sizeOf65 rfl rfl hy15 (fun _=>rfl)) rfl<|wS (fE Tryz.underlying65 rfl Tryz.sizeOf63 (by decide) rfl rfl) rfl<|wS (LR.loadEp Tryz.isAgg63 rfl rfl) rfl<|wS (lM (enc:=TRun.e) (L:=x14.runs) Tryz.underlying63 rfl) rfl<|wS (LR.gtr rfl rfl) rfl<|wN ?_;refine wC rfl (fun hc16=>?_) (fun hc16=>?_)
    ·replace h:=iT hc16 h;refine wQ<|wR<|wa ?_;refine wN<|wX ?_;replace h:_ = r0:=h;subst h;exact ⟨.inr rfl,_,.cons (.tmp rfl rfl)<|.nil,rfl⟩
    ·replace h:=iF hc16 h;refine wK<|wR<|wm ?_;refine wS (LR.addW rfl rfl) rfl<|wa ?_;refine wN ?_;exact ⟨(IntKind.i64.wrap (i12 + 1)),(),h,sP⟩
   ·replace h:=iF hc13 h;refine wZ ?_;exact ⟨(),(),h,sP⟩
  ·rintro _ _ h;refine wQ<|wR<|wa ?_;refine wN<|wX ?_;replace h:_ = r0:=h;subst h;exact ⟨.inr rfl,_,.cons (.tmp rfl rfl)<|.nil,rfl⟩

theorem l25_few_ok (l1:List L25Act) (r0:Bool) (h:(l25_few l1).wp (· = r0)):PFun Tryz.prog 7 [.d (.sl (List.map L25Act.e l1))] (.d (.v (.bool r0))):=by
 refine fI (sl:=[(0,_)]) Tryz.func7 rfl Tryz.ntmps7 rfl rfl ?_;intro ctx hK;refine wQ<|wR<|wa ?_;refine wN<|wQ<|wQ<|wR<|wm ?_;refine wS (lM (enc:=L25Act.e) (L:=l1) Tryz.underlying22 rfl) rfl<|wS (LR.gtr rfl rfl) rfl<|wN ?_;refine wC rfl (fun hc2=>?_) (fun hc2=>?_)
 ·replace h:=iT hc2 h;refine wQ<|wR<|wa ?_;refine wN<|wX ?_;replace h:_ = r0:=h;subst h;exact ⟨.inr rfl,_,.cons (.tmp rfl rfl)<|.nil,rfl⟩
 ·replace h:=iF hc2 h;refine wK<|wQ<|wQ<|wR<|wa ?_;refine wN ?_;refine PWc.jnX (iBind h) (fun (_:Unit) (_:Unit)=>⟨20,[],[]⟩) (fun h=>?_) ?_
  ·refine wB<|wM (fun (i_16:Int) (_:Unit)=>⟨20,[(0,.d (.sl (List.map L25Act.e l1))),(3,.d (.v (.int .i64 i_16)))],[]⟩) () h (sP) ?_;rintro N i_16 _ h;refine wQ<|wQ<|wR<|wm ?_;refine wm ?_;refine wS (lM (enc:=L25Act.e) (L:=l1) Tryz.underlying22 rfl) rfl<|wS (LR.lss rfl rfl) rfl<|wN ?_;refine wC rfl (fun hc17=>?_) (fun hc17=>?_)
   ·replace h:=iT hc17 h;refine wK<|wQ<|wB<|wQ<|wR<|wm ?_;refine wm ?_;replace h:=iIdx h;obtain ⟨x18,hy19,h⟩:=h;refine wS (iX (enc:=L25Act.e) (L:=l1) (y:=x18) Tryz.underlying22 Tryz.sizeOf33 rfl rfl hy19 (fun _=>rfl)) rfl<|wS (fE Tryz.underlying33 rfl Tryz.sizeOf24 (by decide) rfl rfl) rfl<|wS (LR.loadEp Tryz.isAgg24 rfl rfl) rfl ?_;replace h:=iDet h;obtain ⟨v20,hy21,h⟩:=h;refine wS (cN (r09_Few_ok x18.c v20 hy21) rfl Tryz.call8 rfl rfl rfl rfl) rfl<|wS (LR.not rfl) rfl<|wN ?_;refine wC rfl (fun hc22=>?_) (fun hc22=>?_)
    ·replace h:=iT hc22 h;refine wQ<|wR<|wa ?_;refine wN<|wX ?_;replace h:_ = r0:=h;subst h;exact ⟨.inr rfl,_,.cons (.tmp rfl rfl)<|.nil,rfl⟩
    ·replace h:=iF hc22 h;refine wK<|wR<|wm ?_;refine wS (LR.addW rfl rfl) rfl<|wa ?_;refine wN ?_;exact ⟨(IntKind.i64.wrap (i_16 + 1)),(),h,sP⟩
   ·replace h:=iF hc17 h;refine wZ ?_;exact ⟨(),(),h,sP⟩
  ·rintro _ _ h;refine wQ<|wR<|wa ?_;refine wN<|wX ?_;replace h:_ = r0:=h;subst h;exact ⟨.inr rfl,_,.cons (.tmp rfl rfl)<|.nil,rfl⟩

theorem cmp_isNaN_uint16_ok (x1:Int) (r0:Bool) (h:(cmp_isNaN_uint16 x1).wp (· = r0)):PFun Tryz.prog 91 [.d (.v (.int .u16 x1))] (.d (.v (.bool r0))):=by
 refine fI (sl:=[(0,_)]) Tryz.func91 rfl Tryz.ntmps91 rfl rfl ?_;intro ctx hK;refine wQ<|wR<|wa ?_;refine wN<|wQ<|wR<|wm ?_;refine wm ?_;refine wS (nQ rfl rfl) rfl<|wa ?_;refine wN<|wX ?_;replace h:_ = r0:=h;subst h;exact ⟨.inr rfl,_,.cons (.tmp rfl rfl)<|.nil,rfl⟩

theorem cmp_Less_uint16_ok (x1:Int) (y2:Int) (r0:Bool) (h:(cmp_Less_uint16 x1 y2).wp (· = r0)):PFun Tryz.prog 78 [.d (.v (.int .u16 x1)),.d (.v (.int .u16 y2))] (.d (.v (.bool r0))):=by
 refine fI (sl:=[(0,_),(1,_)]) Tryz.func78 rfl Tryz.ntmps78 rfl rfl ?_;intro ctx hK;refine wQ<|wR<|wa ?_;refine wN<|wQ ?_;refine wJ (iBind h) (fun (v3:Bool) (_:Unit)=>⟨17,[(4,.d (.v (.bool v3)))],[]⟩) (fun h=>?_) ?_
 ·refine wR<|wm ?_;replace h:=iDet h;obtain ⟨v4,hy5,h⟩:=h;refine wS (cN (cmp_isNaN_uint16_ok x1 v4 hy5) rfl Tryz.call91 rfl rfl rfl rfl) rfl<|wm ?_;refine wL (d:=7) rfl (fun hg6=>?_) (fun hg6=>?_)
  ·replace h:=iT hg6 h;refine wT (mV rfl) rfl rfl rfl ?_;replace h:=iDet h;obtain ⟨v7,hy8,h⟩:=h;refine wT (cN (cmp_isNaN_uint16_ok y2 v7 hy8) rfl Tryz.call91 rfl rfl rfl rfl) rfl rfl rfl<|wT (LR.not rfl) rfl rfl rfl<|wS (pT rfl rfl) rfl<|wm ?_;refine wL (d:=12) rfl (fun hg9=>?_) (fun hg9=>?_)
   ·replace h:=iT hg9 h;refine wf<|wf<|wf<|wS (pT rfl rfl) rfl<|wa ?_;refine wN ?_;exact ⟨true,(),h,sP⟩
   ·replace h:=iF hg9 h;refine wT (mV rfl) rfl rfl rfl<|wT (mV rfl) rfl rfl rfl<|wT (LR.lss rfl rfl) rfl rfl rfl<|wS (pF rfl rfl) rfl<|wa ?_;refine wN ?_;exact ⟨(decide (x1 < y2)),(),h,sP⟩
  ·replace h:=iF hg6 h;refine wf<|wf<|wf<|wS (pF rfl rfl) rfl<|wm ?_;refine wT (mV rfl) rfl rfl rfl<|wT (mV rfl) rfl rfl rfl<|wT (LR.lss rfl rfl) rfl rfl rfl<|wS (pF rfl rfl) rfl<|wa ?_;refine wN ?_;exact ⟨(decide (x1 < y2)),(),h,sP⟩
 ·rintro v3 _ h;refine wX ?_;replace h:_ = r0:=h;subst h;exact ⟨.inr rfl,_,.cons (.tmp rfl rfl)<|.nil,rfl⟩

theorem math_bits_Len64_ok (x1:Int) (r0:Int) (h:(math_bits_Len64 x1).wp (· = r0)):PFun Tryz.prog 82 [.d (.v (.int .u64 x1))] (.d (.v (.int .i64 r0))):=by
 refine fI (sl:=[(0,_)]) Tryz.func82 rfl Tryz.ntmps82 rfl rfl ?_;intro ctx hK;refine wQ<|wR<|wa ?_;refine wN<|wQ<|wQ<|wR<|wm ?_;refine wS (LR.geq rfl rfl) rfl<|wN ?_;refine wJ (iBind h) (fun (⟨x2,n3⟩:Int × Int) (_:Unit)=>⟨25,[(0,.d (.v (.int .u64 x2))),(2,.d (.v (.int .i64 n3)))],[]⟩) (fun h=>?_) ?_
 ·refine wC rfl (fun hc4=>?_) (fun hc4=>?_)
  ·replace h:=iT hc4 h;refine wQ<|wR<|wm ?_;refine wS (LR.shr rfl rfl (by decide) rfl) rfl<|wa ?_;refine wN<|wR<|wa ?_;refine wN ?_;exact ⟨((Int.fdiv x1 (2 ^ 32)),32),(),h,sP⟩
  ·replace h:=iF hc4 h;refine wK ?_;exact ⟨(x1,0),(),h,sP⟩
 ·rintro ⟨x2,n3⟩ _ h;refine wQ<|wQ<|wR<|wm ?_;refine wS (LR.geq rfl rfl) rfl<|wN ?_;refine wJ (iBind h) (fun (⟨x5,n6⟩:Int × Int) (_:Unit)=>⟨25,[(0,.d (.v (.int .u64 x5))),(2,.d (.v (.int .i64 n6)))],[]⟩) (fun h=>?_) ?_
  ·refine wC rfl (fun hc7=>?_) (fun hc7=>?_)
   ·replace h:=iT hc7 h;refine wQ<|wR<|wm ?_;refine wS (LR.shr rfl rfl (by decide) rfl) rfl<|wa ?_;refine wN<|wR<|wm ?_;refine wS (LR.addW rfl rfl) rfl<|wa ?_;refine wN ?_;exact ⟨((Int.fdiv x2 (2 ^ 16)),(IntKind.i64.wrap (n3 + 16))),(),h,sP⟩
   ·replace h:=iF hc7 h;refine wK ?_;exact ⟨(x2,n3),(),h,sP⟩
  ·rintro ⟨x5,n6⟩ _ h;refine wQ<|wQ<|wR<|wm ?_;refine wS (LR.geq rfl rfl) rfl<|wN ?_;refine wJ (iBind h) (fun (⟨x8,n9⟩:Int × Int) (_:Unit)=>⟨25,[(0,.d (.v (.int .u64 x8))),(2,.d (.v (.int .i64 n9)))],[]⟩) (fun h=>?_) ?_
   ·refine wC rfl (fun hc10=>?_) (fun hc10=>?_)
    ·replace h:=iT hc10 h;refine wQ<|wR<|wm ?_;refine wS (LR.shr rfl rfl (by decide) rfl) rfl<|wa ?_;refine wN<|wR<|wm ?_;refine wS (LR.addW rfl rfl) rfl<|wa ?_;refine wN ?_;exact ⟨((Int.fdiv x5 (2 ^ 8)),(IntKind.i64.wrap (n6 + 8))),(),h,sP⟩
    ·replace h:=iF hc10 h;refine wK ?_;exact ⟨(x5,n6),(),h,sP⟩
   ·rintro ⟨x8,n9⟩ _ h;refine wQ<|wR<|wm ?_;refine wm ?_;refine wS (LR.convInt Tryz.underlying5 (by rw [Tryz.underlying56];rfl) rfl rfl) rfl ?_;replace h:=iIdx h;obtain ⟨b11,hy12,h⟩:=h;refine wS (LR.strIdx Tryz.underlying9 rfl rfl hy12) rfl ?_;refine wS (LR.convInt Tryz.underlying3 (by rw [Tryz.underlying5];rfl) rfl rfl) rfl ?_;refine wS (LR.addW rfl rfl) rfl<|wa ?_;refine wN<|wX ?_;replace h:_ = r0:=h;subst h;exact ⟨.inr rfl,_,.cons (.tmp rfl rfl)<|.nil,rfl⟩
end Go.Proofs


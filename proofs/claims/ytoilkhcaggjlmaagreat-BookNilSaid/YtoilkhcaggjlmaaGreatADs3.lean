/- Side texts. -/
import Derived.WalkSpells
import Derived.Test.YtoilkhcaggjlmaaGreatADs2
set_option linter.unusedVariables false
set_option linter.unusedSimpArgs false
namespace Go.Ep
open Go.RowKit
def OwnB(g:zR)(os:List (Nat×Ob))(b:Nat):Prop:=∃ id o n,look os id=some o/\g id=some (b,n)
structure ObsRd(w:World)(g:zR)(S:Nat->Prop)(os:List (Nat×Ob)):Prop where
 rd:∀ id o,look os id=some o->ObRd w g S id o
 inj:∀ i j oi oj b n m,look os i=some oi->look os j=some oj->g i=some (b,n)->g j=some (b,m)->i=j
 lt:∀ id o b n,look os id=some o->g id=some (b,n)->b < w.heap.size
def uz(w:World)(g:zR)(S:Nat->Prop)(os:List (Nat×Ob))(g':zR)(os':List (Nat×Ob))(b:Nat):Prop:=(S b\/OwnB g os b\/w.heap.size<=b)/\¬ OwnB g' os' b
structure JS(w:World)(g:zR)(S:Nat->Prop)(os:List (Nat×Ob))(pins:List Nat)(r:PV)(os':List (Nat×Ob))(w':World)(g':zR)(u:Value):Prop where
 eos:w'.os=w.os
 tape:w'.tape=w.tape
 output:w'.output=w.output
 grows:w.heap.size<=w'.heap.size
 keep:∀ k,k < w.heap.size->¬ OwnB g os k->w'.heap[k]?=w.heap[k]?
 own:∀ b,OwnB g' os' b->OwnB g os b\/w.heap.size<=b
 pin:∀ id∈pins,g' id=g id
 res:Rd w' g' (uz w g S os g' os') r u
 obs:ObsRd w' g' (uz w g S os g' os') os'
def PObj{G:Type}(P:Program)(f:FuncId)(ps:List PV)(os:List (Nat×Ob))(pins:List Nat)(r:PV)(os':G->List (Nat×Ob)):Prop:=
 ∀ (w:World) (g:zR) (S:Nat->Prop) (vs:List Value),ps.length=vs.length->(∀ (i:Nat) (p:PV) (v:Value),ps[i]?=some p->vs[i]?=some v->Rd w g S p v)->ObsRd w g S os->(∀ b,S b->¬ OwnB g os b) ->
  Calls P f vs.toArray w (fun e w'=>∃ u g' gh,e=.returned u/\JS w g S os pins r (os' gh) w' g' u)
def ObjAt{G:Type}(P:Program)(f:FuncId)(ps:List PV)(os:List (Nat×Ob))(pins:List Nat)(r:PV)(os':G->List (Nat×Ob))(w:World)(S:Nat->Prop):Prop:=
 ∀ (g:zR) (vs:List Value),ps.length=vs.length->(∀ (i:Nat) (p:PV) (v:Value),ps[i]?=some p->vs[i]?=some v->Rd w g S p v)->ObsRd w g S os->(∀ b,S b->¬ OwnB g os b) ->
  Calls P f vs.toArray w (fun e w'=>∃ u g' gh,e=.returned u/\JS w g S os pins r (os' gh) w' g' u)
theorem PObj.at{G:Type}{P:Program}{f:FuncId}{ps:List PV}{os:List (Nat×Ob)}{pins:List Nat}{r:PV}{os':G->List (Nat×Ob)}(h:PObj P f ps os pins r os')(w:World)(S:Nat->Prop):ObjAt P f ps os pins r os' w S:=fun g vs=>h w g S vs
section
variable{ctx:Ctx}
inductive ResO (P:Program) (s:PState):ResultVar->PV->Prop
 | tmp {t:Nat} {p:PV} (h:s.at t=some p):ResO P s (.tmp t) p
 | agg {t T k id:Nat} {T0:TypeId} {cs:List PV} (ha:∀ w,(isAgg T).run P w=.ok true w) (hs:∀ w,(sizeOf T).run P w=.ok k w) (h:s.at t=some (.ref id 0)) (hl:look s.objs id=some (.cells T0 cs)) (hk:cs.length=k):ResO P s (.cell t T) (.agg cs)
 | cell {t T id:Nat} {T0:TypeId} {p:PV} (ha:∀ w,(isAgg T).run P w=.ok false w) (h:s.at t=some (.ref id 0)) (hl:look s.objs id=some (.cells T0 [p])):ResO P s (.cell t T) p
inductive qL (P:Program) (s:PState):List ResultVar->List PV->Prop
 | nil:qL P s [] []
 | cons {r:ResultVar} {p:PV} {rs:List ResultVar} {ps:List PV} (h:ResO P s r p) (t:qL P s rs ps):qL P s (r::rs) (p::ps)
def EndsO{G:Type}(P:Program)(ctx:Ctx)(fn:Func)(pl:List (Nat×Ob))(r:PV)(os':G->List (Nat×Ob)):PQ:=fun e s=>(e=.normal\/e=.ret)/\∃ gh ps t,Sub ctx s t/\qL P t fn.results.toList ps/\z9a ps=r /\
 (∀ id o,look (os' gh) id=some o->look t.objs id=some o)/\∀ id o,look pl id=some o->look t.objs id=some o
variable{P:Program}{s:PState}
theorem yOa{g:zR}{a:Act}{w:World}(hg:RelG ctx g s a w){rv:ResultVar}{p:PV}(h:ResO P s rv p) :
  ∃ v,(JI a.tmps rv).run P w=.ok v w/\Rd w g (zZ ctx g s.objs) p v:=by
 cases h with
 | @tmp t _ h=>exact⟨_,rfl,hg.slots t _ h⟩
 | @agg t T k id T0 cs ha hs h hl hk=>
  have hr:=hg.slots t _ h
  generalize hv:a.tmps.getD t undef=v at hr
  cases hr with
  | ref _ _ blk n hgi=>
   cases hg.objs id _ hl with
   | cells _ _ blk' n' us h' hh hlen hr' h1=>
    rw[hgi] at h'
    cases h'
    refine⟨.agg us.toArray,?_,.agg cs us hlen hr' h1⟩;have:=vk (P:=P) (us:=us) ha (by rw[<- hlen,hk];exact hs) (w:=w) (b:=blk) (o:=0) (fun j u hu=>by rw[Nat.zero_add,zP hh];exact hu);show(do loadVar T (<- asAddr (a.tmps.getD t undef)):Sem Value).run P w=_;rw[hv];simp only[asAddr,Sem.run_bind,Sem.run_pure,Result.andThen_ok];exact this
 | @cell t T id T0 p ha h hl=>
  have hr:=hg.slots t _ h
  generalize hv:a.tmps.getD t undef=v at hr
  cases hr with
  | ref _ _ blk n hgi=>
   cases hg.objs id _ hl with
   | cells _ _ blk' n' us h' hh hlen hr' h1=>
    rw[hgi] at h'
    cases h'
    have hlt:0 < us.length:=by rw[<- hlen];simp
    have hu:us[0]?=some us[0]:=List.getElem?_eq_getElem hlt;refine⟨us[0],?_,hr' 0 p _ rfl hu⟩;have:=wO (P:=P) ha (w:=w) (ad:=⟨blk,0,none⟩) (u:=us[0]) (by rw[zP hh];exact hu);show(do loadVar T (<- asAddr (a.tmps.getD t undef)):Sem Value).run P w=_;rw[hv];simp only[asAddr,Sem.run_bind,Sem.run_pure,Result.andThen_ok];exact this
theorem zUa{g:zR}{a:Act}{w:World}(hg:RelG ctx g s a w){rs:List ResultVar}{ps:List PV}(h:qL P s rs ps) :
  ∃ vs:List Value,(rs.mapM (JI a.tmps)).run P w=.ok vs w/\ps.length=vs.length /\
   ∀ (i:Nat) (p:PV) (v:Value),ps[i]?=some p->vs[i]?=some v->Rd w g (zZ ctx g s.objs) p v:=by
 induction h with
 | nil=>exact⟨[],by simp,rfl,by simp⟩
 | cons h _ ih=>
  obtain⟨vs,h1,h2,h3⟩:=ih;obtain⟨v,hv1,hv2⟩:=yOa hg h;refine⟨v::vs,?_,by simp[h2],?_⟩
  ·simp only[List.mapM_cons,Sem.run_bind,hv1,h1,Result.andThen_ok,Sem.run_pure]
  ·intro i p u hp hu
   cases i with
   | zero=>simp at hp hu;subst hp;subst hu;exact hv2
   | succ i=>simp at hp hu;exact h3 i p u hp hu
def qM(pv:Nat->Option (Nat×Nat)):List Nat->List (Nat×Ob)
 | []=>[]
 | id::r=>(id+1000,.pin id (pv id))::qM pv r
theorem pinL_mem{pv:Nat->Option (Nat×Nat)}{pins:List Nat}{id:Nat}{o:Ob}(h:look (qM pv pins) id=some o):∃ t∈pins,id=t+1000/\o=.pin t (pv t):=by
 induction pins with
 | nil=>simp[qM,look] at h
 | cons t r ih=>
  simp only[qM,look] at h
  split at h
  ·rename_i e;exact⟨t,by simp,e,by simpa using h.symm⟩
  ·obtain⟨t',h1,h2,h3⟩:=ih h;exact⟨t',by simp[h1],h2,h3⟩
theorem yPa{pv:Nat->Option (Nat×Nat)}{pins:List Nat}{t:Nat}(h:t∈pins):look (qM pv pins) (t+1000)=some (.pin t (pv t)):=by
 induction pins with
 | nil=>cases h
 | cons q r ih=>
  simp only[qM,look]
  by_cases e:t=q
  ·subst e;simp
  ·rw[if_neg (by omega)];exact ih ((List.mem_cons.1 h).resolve_left e)
theorem yk(l l':List (Nat×Ob))(id:Nat):look (l++l') id=(look l id).or (look l' id):=by
 induction l with
 | nil=>simp[look]
 | cons x r ih=>
  obtain⟨k,o⟩:=x;simp only[List.cons_append,look]
  split
  ·rfl
  ·exact ih
def pinOK(ps:List PV)(os:List (Nat×Ob))(pins:List Nat):Bool:=
 pins.all fun t=>ps.all (fun p=>!p.has (t+1000))&&os.all (fun x=>x.1 != t+1000&&!x.2.has (t+1000))&&pins.all (fun t'=>t'+1000 != t)
theorem ObjAt.intro{G:Type}{w:World}{S:Nat->Prop}{f:FuncId}{fn:Func}{c:Code}{ps:List PV}{os:List (Nat×Ob)}{pins:List Nat}{r:PV}{os':G->List (Nat×Ob)}{n:Nat}{sl:List (Nat×PV)}(hf:P.funcs[f]?=some fn)(hb:fn.body=some c)(hn:fn.ntmps=n)(hsl:args 0 ps=sl)(hpn:Nat.ble ps.length n=true)(hpin:pinOK ps os pins=true)
  (body:∀ g:zR,(∀ b,S b->¬ OwnB g os b)->PWc P ⟨w,fun b=>S b\/OwnB g os b,OwnB g os⟩ c (EndsO P ⟨w,fun b=>S b\/OwnB g os b,OwnB g os⟩ fn (qM g pins) r os') ⟨n,sl,os++qM g pins⟩):ObjAt P f ps os pins r os' w S:=by
 intro g vs hlen hreal hobs hdis
 let ctx:Ctx:=⟨w,fun b=>S b\/OwnB g os b,OwnB g os⟩
 let pv:Nat->Option (Nat×Nat):=g
 let g1:zR:=fun j=>if pins.any (fun t=>j==t+1000) then none else g j
 simp only[pinOK,List.all_eq_true,Bool.and_eq_true,Bool.not_eq_true',bne_iff_ne,ne_eq] at hpin;have g1pin:∀ t∈pins,g1 (t+1000)=none:=fun t ht=>by
  have:(pins.any fun t'=>t+1000==t'+1000)=true:=List.any_eq_true.2 ⟨t,ht,by simp⟩;simp only[g1,this,if_true]
 have g1ne:∀ j,(∀ t∈pins,j≠t+1000)->g1 j=g j:=fun j hj=>by
  have:(pins.any fun t'=>j==t'+1000)=false:=by
   rw[List.any_eq_false];intro t ht;simpa using hj t ht
  simp only[g1,this,Bool.false_eq_true,if_false]
 have g1p:∀ p∈ps,∀ j,p.has j=true->g1 j=g j:=fun p hp j hj=>g1ne j fun t ht e=>by
  have:=(hpin t ht).1.1 p hp;rw[<- e,hj] at this
  cases this
 have hosk:∀ id o,look os id=some o->∀ t∈pins,id≠t+1000:=fun id o ho t ht=>((hpin t ht).1.2 _ (yn ho)).1
 have g1k:∀ id o,look os id=some o->g1 id=g id:=fun id o ho=>g1ne id (hosk id o ho)
 have g1o:∀ id o,look os id=some o->∀ j,o.has j=true->g1 j=g j:=fun id o ho j hj=>g1ne j fun t ht e=>by
  have:=((hpin t ht).1.2 _ (yn ho)).2;simp only at this;rw[<- e,hj] at this
  cases this
 have hgp:∀ t∈pins,g t=pv t:=fun t _=>rfl
 have hlook:∀ id o,look (os++qM pv pins) id=some o->look os id=some o\/∃ t∈pins,id=t+1000/\o=.pin t (pv t):=fun id o h=>by
  rw[yk] at h
  cases hl:look os id with
  | none=>rw[hl,Option.none_or] at h;exact .inr (pinL_mem h)
  | some q=>rw[hl,Option.some_or] at h;exact .inl h
 have hfree:∀ b,S b->zZ ctx g1 (os++qM pv pins) b:=fun b hb=>⟨.inl (.inl hb),fun id o n ho hg=>by
  rcases hlook id o ho with h | ⟨t,ht,h,_⟩
  ·rw[g1k id o h] at hg;exact hdis b hb ⟨id,o,n,h,hg⟩
  ·rw[h,g1pin t ht] at hg;cases hg⟩
 have hst:zx w w S:=⟨Nat.le_refl _,fun _ _ _=>rfl⟩
 have hpl:vs.length<=n:=by rw[<- hlen];exact Nat.le_of_ble_eq_true hpn
 refine calls_of_wp hf hb ?_;subst hsl;have hrel:RelG ctx g1 ⟨n,args 0 ps,os++qM pv pins⟩ { tmps:=vs.toArray++Array.replicate (fn.ntmps - vs.toArray.size) undef,defers:=[] } w:=by
  rw[hn];refine⟨rfl,by simp;omega,?_,?_,?_,?_,rfl,rfl,rfl,Nat.le_refl _,fun _ _ _=>rfl⟩
  ·intro i p hp;obtain⟨j,h1,h2⟩:=Ut (xI hp);have e:i=j:=by omega
   subst e;have hi':i < vs.length:=by rw[<- hlen];exact(List.getElem?_eq_some_iff.1 h2).1
   have hv:vs[i]?=some vs[i]:=List.getElem?_eq_getElem hi';have e:(vs.toArray++Array.replicate (n - vs.toArray.size) undef).getD i undef=vs[i]:=by
    simp[Array.getD_eq_getD_getElem?,Array.getElem?_append,hi']
   rw[e];exact(hreal i p _ h2 hv).keep (w':=w) (g':=g1) hst (fun b hb _=>hfree b hb) (fun j hj=>g1p p (List.mem_of_getElem? h2) j hj)
  ·intro id o ho;rcases hlook id o ho with h | ⟨t,ht,rfl,rfl⟩
   ·exact(hobs.rd id o h).keep hst (fun b hb _=>hfree b hb) (fun _ _ _=>rfl) (g1k id o h) (g1o id o h)
   ·refine .pin t _ (g1pin t ht) ?_;rw[g1ne t fun t' ht' e=>(hpin t ht).2 t' ht' e.symm]
  ·intro i j oi oj b n m hi hj hgi hgj;rcases hlook i oi hi with h | ⟨t,ht,rfl,_⟩
   ·rcases hlook j oj hj with h2 | ⟨t,ht,rfl,_⟩
    ·rw[g1k i oi h] at hgi;rw[g1k j oj h2] at hgj;exact hobs.inj i j oi oj b n m h h2 hgi hgj
    ·rw[g1pin t ht] at hgj;cases hgj
   ·rw[g1pin t ht] at hgi;cases hgi
  ·intro id o b n ho hg;rcases hlook id o ho with h | ⟨t,ht,rfl,_⟩
   ·rw[g1k id o h] at hg;exact⟨hobs.lt id o b n h hg,.inr ⟨id,o,n,h,hg⟩⟩
   ·rw[g1pin t ht] at hg;cases hg
 refine wp_mono (body g hdis _ w ⟨g1,hrel⟩) fun e a' w' ⟨s1,⟨he,gh,qs,t,hsub,hres,hq,hos,hpl'⟩,hr1⟩=>?_
 have main:a'.defers=[]/\∃ v,(results fn a'.tmps).run P w'=.ok v w'/\(∃ u g' gh,Ending.returned v=.returned u/\JS w g S os pins r (os' gh) w' g' u):=by
  obtain⟨g2,hg⟩:=hsub a' w' hr1;obtain⟨us,h1,h2,h3⟩:=zUa hg hres;have hrun:(results fn a'.tmps).run P w'=.ok (if h:us.toArray.size=1 then us.toArray[0] else .tuple us.toArray) w':=by
   rw[UR,Array.mapM_eq_mapM_toList];simp only[Sem.run_bind,Sem.run_map,h1,Result.andThen_ok,Sem.run_pure]
  have hFA:∀ b,zZ ctx g2 t.objs b->uz w g S os g2 (os' gh) b:=fun b ⟨f1,f2⟩=>⟨by
   rcases f1 with(f1 | f1) | f1
   ·exact .inl f1
   ·exact .inr (.inl f1)
   ·exact .inr (.inr f1),fun⟨id,o,n,h4,h5⟩=>f2 id o n (hos id o h4) h5⟩
  have hst':zx w' w' (zZ ctx g2 t.objs):=⟨Nat.le_refl _,fun _ _ _=>rfl⟩
  refine⟨hg.defers,_,hrun,_,g2,gh,rfl,hg.os,hg.tape,hg.output,hg.grows,hg.keep,fun b ⟨id,o,n,h4,h5⟩=>?_,fun id hid=>?_,?_,⟨fun id o h4=>(hg.objs id o (hos id o h4)).keep hst' (fun b hb _=>hFA b hb) (fun _ _ _=>rfl) rfl (fun _ _=>rfl),fun i j oi oj b n m hi hj=>hg.inj i j oi oj b n m (hos i oi hi) (hos j oj hj),fun id o b n h4 h5=>(hg.own id o b n (hos id o h4) h5).1⟩⟩
  ·rcases(hg.own id o b n (hos id o h4) h5).2 with h6 | h6
   ·exact .inr h6
   ·exact .inl h6
  ·have h6:=hg.objs _ _ (hpl' _ _ (yPa (pv:=pv) hid))
   cases h6 with
   | pin _ _ _ ht=>rw[ht,hgp id hid]
  ·have hk:∀ {p:PV} {v:Value},Rd w' g2 (zZ ctx g2 t.objs) p v->Rd w' g2 (uz w g S os g2 (os' gh)) p v:=fun h=>h.keep hst' (fun b hb _=>hFA b hb) (fun _ _=>rfl)
   subst hq
   match qs,us,h2,h3 with
   | [p],[u],_,h3=>exact hk (h3 0 p u rfl rfl)
   | [],[],_,h3=>exact .tup [] [] rfl (by simp)
   | p::q::ps,u::v::us,h2,h3=>
    have hne:¬ (u::v::us).toArray.size=1:=by simp
    rw[dif_neg hne];exact .tup _ _ h2 fun i p u hp hu=>hk (h3 i p u hp hu)
 rcases he with rfl | rfl
 ·exact main
 ·exact main
theorem PObj.intro{G:Type}{f:FuncId}{fn:Func}{c:Code}{ps:List PV}{os:List (Nat×Ob)}{pins:List Nat}{r:PV}{os':G->List (Nat×Ob)}{n:Nat}{sl:List (Nat×PV)}(hf:P.funcs[f]?=some fn)(hb:fn.body=some c)(hn:fn.ntmps=n)(hsl:args 0 ps=sl)(hpn:Nat.ble ps.length n=true)(hpin:pinOK ps os pins=true)
  (body:∀ ctx:Ctx,(∀ b,ctx.K b->ctx.S b)->∀ pv:Nat->Option (Nat×Nat),PWc P ctx c (EndsO P ctx fn (qM pv pins) r os') ⟨n,sl,os++qM pv pins⟩):PObj P f ps os pins r os':=
 fun w g S vs h1 h2 h3 h4=>ObjAt.intro hf hb hn hsl hpn hpin (fun g _=>body ⟨w,fun b=>S b\/OwnB g os b,OwnB g os⟩ (fun b h=>Or.inr h) g) g vs h1 h2 h3 h4
end
end Go.Ep
namespace Go.Ep
open Go.RowKit
def rn(ρ:List (Nat×Nat))(i:Nat):Nat:=match ρ with
 | []=>i
 | (a,b)::r=>bif Nat.beq a i then b else rn r i
mutual
def PV.ren(ρ:List (Nat×Nat)):PV->PV
 | .ref i o=>.ref (rn ρ i) o
 | .row i n=>.row (rn ρ i) n
 | .rp i a b c=>.rp (rn ρ i) a b c
 | .pc i a b c=>.pc (rn ρ i) a b c
 | .mp i=>.mp (rn ρ i)
 | .pa i o n=>.pa (rn ρ i) o n
 | .agg cs=>.agg (PV.renL ρ cs)
 | .tup cs=>.tup (PV.renL ρ cs)
 | p=>p
def PV.renL(ρ:List (Nat×Nat)):List PV->List PV
 | []=>[]
 | c::r=>c.ren ρ::PV.renL ρ r
end
def Ob.ren(ρ:List (Nat×Nat)):Ob->Ob
 | .cells T cs=>.cells T (PV.renL ρ cs)
 | .iterO mid bs ck L=>.iterO (rn ρ mid) bs ck L
 | .pin t x=>.pin (rn ρ t) x
 | .mapP ks m ov bs ck=>.mapP ks m (ov.map fun x=>(x.1,x.2.ren ρ)) bs ck
 | o=>o
theorem ZA(ρ:List (Nat×Nat)):∀ cs:List PV,PV.renL ρ cs=cs.map (PV.ren ρ)
 | []=>by simp[PV.renL]
 | c::r=>by simp[PV.renL,ZA ρ r]
section
variable{w:World}{g:zR}{S:Nat->Prop}{ρ:List (Nat×Nat)}
theorem Rd.ren{p:PV}{v:Value}(h:Rd w (fun i=>g (rn ρ i)) S p v):Rd w g S (p.ren ρ) v:=by
 induction h with
 | junk u=>exact .junk u
 | und=>exact .und
 | d h=>exact .d h
 | agg cs us hl h h1 ih=>
  rw[PV.ren,ZA];refine .agg _ us (by simpa using hl) (fun i p u hp hu=>?_) h1;rw[List.getElem?_map] at hp
  cases hc:cs[i]? with
  | none=>rw[hc] at hp;cases hp
  | some q=>rw[hc] at hp;simp only[Option.map_some,Option.some.injEq] at hp;subst hp;exact ih i q u hc hu
 | tup cs us hl h ih=>
  rw[PV.ren,ZA];refine .tup _ us (by simpa using hl) (fun i p u hp hu=>?_);rw[List.getElem?_map] at hp
  cases hc:cs[i]? with
  | none=>rw[hc] at hp;cases hp
  | some q=>rw[hc] at hp;simp only[Option.map_some,Option.some.injEq] at hp;subst hp;exact ih i q u hc hu
 | ref id off blk n h=>exact .ref _ off blk n h
 | row id n blk cap h=>exact .row _ n blk cap h
 | rowNil id h=>exact .rowNil _ h
 | rp id i off k blk cap h=>exact .rp _ i off k blk cap h
 | pc id i n k blk cap h hi=>exact .pc _ i n k blk cap h hi
 | pc0 id i k a c=>exact .pc0 _ i k a c
 | ep cs b off o c hS hb hc hr=>exact .ep cs b off o c hS hb hc hr
 | sq cs b off o c hS hb hz hc hr=>exact .sq cs b off o c hS hb hz hc hr
 | mp id blk n h=>exact .mp _ blk n h
 | pa id off n blk c h=>exact .pa _ off n blk c h
 | mpNil id h=>exact .mpNil _ h
 | md ks ag m bs ck b es hS hb hh hm=>exact .md ks ag m bs ck b es hS hb hh hm
 | mdNil ks ag=>exact .mdNil ks ag
 | clo f cs us hl h=>exact .clo f cs us hl h
theorem Rd.unren{q:PV}{v:Value}(h:Rd w g S q v):∀ {p:PV},q=p.ren ρ->Rd w (fun i=>g (rn ρ i)) S p v:=by
 induction h with
 | junk u=>intro p hp;cases p <;> simp only[PV.ren,reduceCtorEq] at hp;exact .junk u
 | und=>intro p hp;cases p <;> simp only[PV.ren,reduceCtorEq] at hp;exact .und
 | d h=>intro p hp;cases p <;> simp only[PV.ren,reduceCtorEq,PV.d.injEq] at hp;subst hp;exact .d h
 | agg cs us hl h h1 ih=>
  intro p hp
  cases p <;> simp only[PV.ren,reduceCtorEq,PV.agg.injEq] at hp
  rename_i cs'
  rw[ZA] at hp;subst hp;exact .agg cs' us (by simpa using hl) (fun i p u hp hu=>ih i (p.ren ρ) u (by simp[hp]) hu rfl) h1
 | tup cs us hl h ih=>
  intro p hp
  cases p <;> simp only[PV.ren,reduceCtorEq,PV.tup.injEq] at hp
  rename_i cs'
  rw[ZA] at hp;subst hp;exact .tup cs' us (by simpa using hl) (fun i p u hp hu=>ih i (p.ren ρ) u (by simp[hp]) hu rfl)
 | ref id off blk n h=>
  intro p hp
  cases p <;> simp only[PV.ren,reduceCtorEq,PV.ref.injEq] at hp
  obtain⟨rfl,rfl⟩:=hp;exact .ref _ _ blk n h
 | row id n blk cap h=>
  intro p hp
  cases p <;> simp only[PV.ren,reduceCtorEq,PV.row.injEq] at hp
  obtain⟨rfl,rfl⟩:=hp;exact .row _ _ blk cap h
 | rowNil id h=>
  intro p hp
  cases p <;> simp only[PV.ren,reduceCtorEq,PV.row.injEq] at hp
  obtain⟨rfl,rfl⟩:=hp;exact .rowNil _ h
 | rp id i off k blk cap h=>
  intro p hp
  cases p <;> simp only[PV.ren,reduceCtorEq,PV.rp.injEq] at hp
  obtain⟨rfl,rfl,rfl,rfl⟩:=hp;exact .rp _ _ _ _ blk cap h
 | pc id i n k blk cap h hi=>
  intro p hp
  cases p <;> simp only[PV.ren,reduceCtorEq,PV.pc.injEq] at hp
  obtain⟨rfl,rfl,rfl,rfl⟩:=hp;exact .pc _ _ _ _ blk cap h hi
 | pc0 id i k a c=>
  intro p hp
  cases p <;> simp only[PV.ren,reduceCtorEq,PV.pc.injEq] at hp
  obtain⟨rfl,rfl,rfl,rfl⟩:=hp;exact .pc0 _ _ _ a c
 | ep cs b off o c hS hb hc hr=>
  intro p hp
  cases p <;> simp only[PV.ren,reduceCtorEq,PV.ep.injEq] at hp
  obtain⟨rfl,rfl⟩:=hp;exact .ep _ b off _ c hS hb hc hr
 | sq cs b off o c hS hb hz hc hr=>
  intro p hp
  cases p <;> simp only[PV.ren,reduceCtorEq,PV.sq.injEq] at hp
  obtain⟨rfl,rfl⟩:=hp;exact .sq _ b off _ c hS hb hz hc hr
 | mp id blk n h=>
  intro p hp
  cases p <;> simp only[PV.ren,reduceCtorEq,PV.mp.injEq] at hp
  subst hp;exact .mp _ blk n h
 | pa id off n blk c h=>
  intro p hp
  cases p <;> simp only[PV.ren,reduceCtorEq,PV.pa.injEq] at hp
  obtain⟨rfl,rfl,rfl⟩:=hp;exact .pa _ _ _ blk c h
 | mpNil id h=>
  intro p hp
  cases p <;> simp only[PV.ren,reduceCtorEq,PV.mp.injEq] at hp
  subst hp;exact .mpNil _ h
 | md ks ag m bs ck b es hS hb hh hm=>
  intro p hp
  cases p <;> simp only[PV.ren,reduceCtorEq,PV.md.injEq] at hp
  obtain⟨rfl,rfl,rfl⟩:=hp;exact .md _ _ _ bs ck b es hS hb hh hm
 | mdNil ks ag=>
  intro p hp
  cases p <;> simp only[PV.ren,reduceCtorEq,PV.md.injEq] at hp
  obtain⟨rfl,rfl,rfl⟩:=hp;exact .mdNil _ _
 | clo f cs us hl h=>
  intro p hp
  cases p <;> simp only[PV.ren,reduceCtorEq,PV.clo.injEq] at hp
  obtain⟨rfl,rfl⟩:=hp;exact .clo _ _ us hl h
theorem ObRd.ren{id:Nat}{o:Ob}(h:ObRd w (fun i=>g (rn ρ i)) S id o):ObRd w g S (rn ρ id) (o.ren ρ):=by
 cases h with
 | cells T cs blk n us h hh hl hr h1=>
  rw[Ob.ren,ZA];refine .cells T _ blk n us h hh (by simpa using hl) (fun i p u hp hu=>?_) h1;rw[List.getElem?_map] at hp
  cases hc:cs[i]? with
  | none=>rw[hc] at hp;cases hp
  | some q=>rw[hc] at hp;simp only[Option.map_some,Option.some.injEq] at hp;subst hp;exact(hr i q u hc hu).ren
 | rowNil T k h=>exact .rowNil T k h
 | row T k l blk cap cur h hh hlc hcap hcs hkk hr=>exact .row T k l blk cap cur h hh hlc hcap hcs hkk hr
 | map ks ag m bs ck blk n es h hh hm=>exact .map ks ag m bs ck blk n es h hh hm
 | mapNil ks ag ck h=>exact .mapNil ks ag ck h
 | mapN ks ag m bs ck blk n es h hh hm=>exact .mapN ks ag m bs ck blk n es h hh hm
 | mapHNil ks ag h=>exact .mapHNil ks ag h
 | mapH ks ag m bs ck blk n es h hh hm=>exact .mapH ks ag m bs ck blk n es h hh hm
 | iterO mid bs ck L blk n b n' h hh hm=>exact .iterO _ bs ck L blk n b n' h hh hm
 | iterON mid ck blk n h hh hm=>exact .iterON _ ck blk n h hh hm
 | iterD ks ag m bs ck L blk n b es h hh hs hb hb2 hm=>exact .iterD ks ag m bs ck L blk n b es h hh hs hb hb2 hm
 | iterN ks ag blk n h hh=>exact .iterN ks ag blk n h hh
 | pin tgt x h ht=>exact .pin _ x h ht
 | mapP ks m ov bs ck blk n es h hh hsz hst hbl hnd hent hov=>
  rw[Ob.ren];refine .mapP ks m _ bs ck blk n es h hh hsz hst hbl hnd (fun i ns u hi=>?_) fun j p hj=>?_
  ·obtain⟨e,h1,h2,h3,h4,h5⟩:=hent i ns u hi;refine⟨e,h1,h2,h3,h4,fun hne=>h5 fun p hp=>?_⟩;exact hne (p.ren ρ) (by rw[hp];rfl)
  ·cases ov with
   | none=>cases hj
   | some x=>
    obtain⟨j',p'⟩:=x;simp only[Option.map_some,Option.some.injEq,Prod.mk.injEq] at hj;obtain⟨rfl,rfl⟩:=hj;obtain⟨e,h1,h2⟩:=hov _ _ rfl;exact⟨e,h1,h2.ren⟩
theorem ObRd.unren{j:Nat}{q:Ob}(h:ObRd w g S j q):∀ {id:Nat} {o:Ob},j=rn ρ id->q=o.ren ρ->ObRd w (fun i=>g (rn ρ i)) S id o:=by
 intro id o hj hq;subst hj
 cases h with
 | cells T cs blk n us h hh hl hr h1=>
  cases o <;> simp only[Ob.ren,reduceCtorEq,Ob.cells.injEq] at hq
  obtain⟨rfl,rfl⟩:=hq;rw[ZA] at hl hr;exact .cells _ _ blk n us h hh (by simpa using hl) (fun i p u hp hu=>(hr i (p.ren ρ) u (by simp[hp]) hu).unren rfl) h1
 | rowNil T k h=>
  cases o <;> simp only[Ob.ren,reduceCtorEq,Ob.row.injEq] at hq
  obtain⟨rfl,rfl,rfl⟩:=hq;exact .rowNil _ _ h
 | row T k l blk cap cur h hh hlc hcap hcs hkk hr=>
  cases o <;> simp only[Ob.ren,reduceCtorEq,Ob.row.injEq] at hq
  obtain⟨rfl,rfl,rfl⟩:=hq;exact .row _ _ _ blk cap cur h hh hlc hcap hcs hkk hr
 | map ks ag m bs ck blk n es h hh hm=>
  cases o <;> simp only[Ob.ren,reduceCtorEq,Ob.map.injEq] at hq
  obtain⟨rfl,rfl,rfl,rfl,rfl⟩:=hq;exact .map _ _ _ _ _ blk n es h hh hm
 | mapNil ks ag ck h=>
  cases o <;> simp only[Ob.ren,reduceCtorEq,Ob.mapN.injEq] at hq
  obtain⟨rfl,rfl,rfl,rfl,rfl,rfl⟩:=hq;exact .mapNil _ _ _ h
 | mapN ks ag m bs ck blk n es h hh hm=>
  cases o <;> simp only[Ob.ren,reduceCtorEq,Ob.mapN.injEq] at hq
  obtain⟨rfl,rfl,rfl,rfl,rfl,rfl⟩:=hq;exact .mapN _ _ _ _ _ blk n es h hh hm
 | mapHNil ks ag h=>
  cases o <;> simp only[Ob.ren,reduceCtorEq,Ob.mapH.injEq] at hq
  obtain⟨rfl,rfl,rfl,rfl⟩:=hq;exact .mapHNil _ _ h
 | mapH ks ag m bs ck blk n es h hh hm=>
  cases o <;> simp only[Ob.ren,reduceCtorEq,Ob.mapH.injEq] at hq
  obtain⟨rfl,rfl,rfl,rfl⟩:=hq;exact .mapH _ _ _ _ _ blk n es h hh hm
 | iterO mid bs ck L blk n b n' h hh hm=>
  cases o <;> simp only[Ob.ren,reduceCtorEq,Ob.iterO.injEq] at hq
  obtain⟨rfl,rfl,rfl,rfl⟩:=hq;exact .iterO _ _ _ _ blk n b n' h hh hm
 | iterON mid ck blk n h hh hm=>
  cases o <;> simp only[Ob.ren,reduceCtorEq,Ob.iterO.injEq] at hq
  obtain⟨rfl,rfl,rfl,rfl⟩:=hq;exact .iterON _ _ blk n h hh hm
 | iterD ks ag m bs ck L blk n b es h hh hs hb hb2 hm=>
  cases o <;> simp only[Ob.ren,reduceCtorEq,Ob.iterD.injEq] at hq
  obtain⟨rfl,rfl,rfl,rfl,rfl,rfl⟩:=hq;exact .iterD _ _ _ _ _ _ blk n b es h hh hs hb hb2 hm
 | iterN ks ag blk n h hh=>
  cases o <;> simp only[Ob.ren,reduceCtorEq,Ob.iterD.injEq] at hq
  obtain⟨rfl,rfl,rfl,rfl,rfl,rfl⟩:=hq;exact .iterN _ _ blk n h hh
 | pin tgt x h ht=>
  cases o <;> simp only[Ob.ren,reduceCtorEq,Ob.pin.injEq] at hq
  obtain⟨rfl,rfl⟩:=hq;exact .pin _ _ h ht
 | mapP ks m ov bs ck blk n es h hh hsz hst hbl hnd hent hov=>
  cases o <;> simp only[Ob.ren,reduceCtorEq,Ob.mapP.injEq] at hq
  rename_i ov' _ _
  obtain⟨rfl,rfl,rfl,rfl,rfl⟩:=hq;refine .mapP _ _ _ _ _ blk n es h hh hsz hst hbl hnd (fun i ns u hi=>?_) fun j p hj=>?_
  ·obtain⟨e,h1,h2,h3,h4,h5⟩:=hent i ns u hi;refine⟨e,h1,h2,h3,h4,fun hne=>h5 fun p hp=>?_⟩
   cases ov' with
   | none=>cases hp
   | some x=>
    simp only[Option.map_some,Option.some.injEq,Prod.mk.injEq] at hp;exact hne x.2 (by rw[<- hp.1])
  ·subst hj;obtain⟨e,h1,h2⟩:=hov j (p.ren ρ) rfl;exact⟨e,h1,h2.unren rfl⟩
end
end Go.Ep
namespace Go.Ep
open Go.RowKit
def PState.callO(s:PState)(ρ:List (Nat×Nat))(js:List Nat)(os os':List (Nat×Ob)):PState:=
 { n:=s.n,sl:=(s.junks js).sl,objs:=os'.foldr (fun x l=>zi (rn ρ x.1) (x.2.ren ρ) l) (os.foldr (fun x l=>uL (rn ρ x.1) l) s.objs) }
inductive AllOb (s:PState) (ρ:List (Nat×Nat)):List (Nat×Ob)->Prop
 | nil:AllOb s ρ []
 | cons {id:Nat} {o:Ob} {r:List (Nat×Ob)} (h:look s.objs (rn ρ id)=some (o.ren ρ)) (t:AllOb s ρ r):AllOb s ρ ((id,o)::r)
theorem AllOb.get{s:PState}{ρ:List (Nat×Nat)}{os:List (Nat×Ob)}(h:AllOb s ρ os):∀ id o,look os id=some o->look s.objs (rn ρ id)=some (o.ren ρ):=by
 induction h with
 | nil=>intro id o h;simp[look] at h
 | cons h _ ih=>
  intro id o hl;simp only[look] at hl
  split at hl
  ·rename_i e;subst e;cases hl;exact h
  ·exact ih id o hl
def vN(s:PState)(ρ:List (Nat×Nat))(js okeys pins ks:List Nat):Bool:=
 ((okeys++ks).all fun i=>(okeys++ks).all fun j=>Nat.beq i j||!Nat.beq (rn ρ i) (rn ρ j))&&ks.all (fun i=>inL okeys i||s.fresh (rn ρ i)) &&
 ks.all fun i=>inL pins i||(z8a (rn ρ i) (s.junks js).sl (s.junks js).sl&&s.objs.all fun x=>!x.2.has (rn ρ i)||inL (okeys.map (rn ρ)) x.1)
theorem xg{ρ:List (Nat×Nat)}{acc:List (Nat×Ob)}{j:Nat}{o:Ob}:∀ {l:List (Nat×Ob)},look (l.foldr (fun x acc=>zi (rn ρ x.1) (x.2.ren ρ) acc) acc) j=some o->(∃ i o1,look l i=some o1/\j=rn ρ i/\o=o1.ren ρ)\/((∀ i∈l.map (·.1),rn ρ i≠j)/\look acc j=some o)
 | [],h=>.inr ⟨by simp,h⟩
 | (k,q)::r,h=>by
  rw[List.foldr_cons,zC] at h
  by_cases e:j=rn ρ k
  ·rw[if_pos e] at h;exact .inl ⟨k,q,by simp[look],e,by simpa using h.symm⟩
  ·rw[if_neg e] at h;rcases xg h with⟨i,o1,h1,h2,h3⟩ | ⟨h1,h2⟩
   ·refine .inl ⟨i,o1,?_,h2,h3⟩;simp only[look];rw[if_neg (fun e2=>e (by rw[h2,e2]))];exact h1
   ·refine .inr ⟨fun i hi=>?_,h2⟩;simp only[List.map_cons,List.mem_cons] at hi;rcases hi with rfl | hi
    ·exact fun e2=>e e2.symm
    ·exact h1 i hi
theorem lookD{ρ:List (Nat×Nat)}{acc:List (Nat×Ob)}{j:Nat}{o:Ob}:∀ {l:List (Nat×Ob)},look (l.foldr (fun x acc=>uL (rn ρ x.1) acc) acc) j=some o->(∀ i∈l.map (·.1),rn ρ i≠j)/\look acc j=some o
 | [],h=>⟨by simp,h⟩
 | (k,q)::r,h=>by
  rw[List.foldr_cons,yb] at h
  by_cases e:j=rn ρ k
  ·rw[if_pos e] at h;cases h
  ·rw[if_neg e] at h;obtain⟨h1,h2⟩:=lookD h;refine⟨fun i hi=>?_,h2⟩;simp only[List.map_cons,List.mem_cons] at hi;rcases hi with rfl | hi
   ·exact fun e2=>e e2.symm
   ·exact h1 i hi
theorem zY{l:List (Nat×Ob)}{i:Nat}{o:Ob}(h:look l i=some o):i∈l.map (·.1):=List.mem_map.2 ⟨(i,o),yn h,rfl⟩
section
variable{P:Program}{ctx:Ctx}{s:PState}
theorem uN{G:Type}{f:FuncId}{ps qs:List PV}{os:List (Nat×Ob)}{pins:List Nat}{r:PV}{os':G->List (Nat×Ob)}(ρ:List (Nat×Nat))(js ks:List Nat)(hK:∀ b,ctx.K b->ctx.S b)(hq:qs.map PV.nilD=ps.map (PV.ren ρ))(hos:AllOb s ρ os)
  (hks:∀ gh,(os' gh).map (·.1)=ks) (hcl:∀ gh,(os' gh).all (fun x=>x.2.named ks)=true) (hr:r.named ks=true) (hok:vN s ρ js (os.map (·.1)) pins ks=true) {g:zR} {a:Act} {w:World} (hg:RelG ctx g s a w) {vs:List Value} (hlen:qs.length=vs.length)
  (hreal:∀ (i:Nat) (q:PV) (v:Value),qs[i]?=some q->vs[i]?=some v->Rd w g (zZ ctx g s.objs) q v) (dst:Option Nat) (hc:ObjAt P f ps os pins r os' w (zZ ctx g s.objs)) :
  Calls P f vs.toArray w (fun e w'=>∃ u gh,e=.returned u/\Rel ctx ((s.callO ρ js os (os' gh)).putD dst (r.ren ρ)) (a.put dst u) w'):=by
 let g0:zR:=fun i=>g (rn ρ i)
 have hlo:=hos.get;simp only[vN,Bool.and_eq_true,List.all_eq_true,Bool.or_eq_true,Bool.not_eq_true'] at hok;obtain⟨⟨hinj0,hfresh⟩,hnm⟩:=hok;have hinj:∀ i j,i∈os.map (·.1)++ks->j∈os.map (·.1)++ks->rn ρ i=rn ρ j->i=j:=fun i j hi hj e=>by
  rcases hinj0 i hi j hj with h | h
  ·exact Nat.eq_of_beq_eq_true h
  ·rw[e,Nat.beq_refl] at h;cases h
 have hdis:∀ b,zZ ctx g s.objs b->¬ OwnB g0 os b:=fun b hb ⟨id,o,n,h1,h2⟩=>hb.2 _ _ n (hlo id o h1) h2
 have hobs:ObsRd w g0 (zZ ctx g s.objs) os:=⟨fun id o h=>(hg.objs _ _ (hlo id o h)).unren rfl rfl,
  fun i j oi oj b n m hi hj hgi hgj=>hinj i j (List.mem_append_left _ (zY hi)) (List.mem_append_left _ (zY hj)) (hg.inj _ _ _ _ b n m (hlo i oi hi) (hlo j oj hj) hgi hgj),
  fun id o b n h h2=>(hg.own _ _ b n (hlo id o h) h2).1⟩
 have hpl:ps.length=qs.length:=by have:=congrArg List.length hq;simpa using this.symm
 refine(hc g0 vs (by omega) (fun i p v hp hv=>?_) hobs hdis).mono fun e w' ⟨u,g',gh,he,hpost⟩=>⟨u,gh,he,?_⟩
 ·cases hqi:qs[i]? with
  | none=>have:=List.getElem?_eq_none_iff.1 hqi;have:=(List.getElem?_eq_some_iff.1 hp).1;omega
  | some q=>
   have h1:(qs.map PV.nilD)[i]?=(ps.map (PV.ren ρ))[i]?:=by rw[hq]
   rw[List.getElem?_map,List.getElem?_map,hqi,hp] at h1;simp only[Option.map_some,Option.some.injEq] at h1;exact(hreal i q v hqi hv).nilD.unren h1
 have hks':=hks gh;have hcl':=hcl gh
 generalize os' gh=os1 at hpost hks' hcl' ⊢
 let G':zR:=fun j=>match ks.find? (fun i=>Nat.beq (rn ρ i) j) with | some i=>g' i | none=>g j
 have hG1:∀ i∈ks,G' (rn ρ i)=g' i:=fun i hi=>by
  show(match ks.find? (fun k=>Nat.beq (rn ρ k) (rn ρ i)) with | some i=>g' i | none=>g (rn ρ i))=g' i
  cases hf:ks.find? (fun k=>Nat.beq (rn ρ k) (rn ρ i)) with
  | none=>have:=List.find?_eq_none.1 hf i hi;simp at this
  | some k=>
   have h1:=List.find?_some hf;have h2:=List.mem_of_find?_eq_some hf;rw[hinj k i (List.mem_append_right _ h2) (List.mem_append_right _ hi) (Nat.eq_of_beq_eq_true h1)]
 have hG2:∀ j,(∀ i∈ks,rn ρ i≠j)->G' j=g j:=fun j hj=>by
  show(match ks.find? (fun k=>Nat.beq (rn ρ k) j) with | some i=>g' i | none=>g j)=g j
  cases hf:ks.find? (fun k=>Nat.beq (rn ρ k) j) with
  | none=>rfl
  | some k=>exact absurd (Nat.eq_of_beq_eq_true (by simpa using List.find?_some hf)) (hj k (List.mem_of_find?_eq_some hf))
 have hlookN:∀ j o,look (s.callO ρ js os os1).objs j=some o->(∃ i o1,look os1 i=some o1/\j=rn ρ i/\o=o1.ren ρ/\i∈ks)\/((∀ i∈ks,rn ρ i≠j)/\(∀ i∈os.map (·.1),rn ρ i≠j)/\look s.objs j=some o):=fun j o h=>by
  rcases xg h with⟨i,o1,h1,h2,h3⟩ | ⟨h1,h2⟩
  ·exact .inl ⟨i,o1,h1,h2,h3,hks'▸zY h1⟩
  ·obtain⟨h3,h4⟩:=lookD h2;exact .inr ⟨fun i hi=>h1 i (hks'▸hi),h3,h4⟩
 have freeS:∀ b,zZ ctx g s.objs b->b < w.heap.size->zZ ctx G' (s.callO ρ js os os1).objs b:=fun b hb hlt=>⟨hb.1,fun j o n hj hgj=>by
  rcases hlookN j o hj with⟨i,o1,h1,h2,_,hik⟩ | ⟨h1,_,h3⟩
  ·rw[h2,hG1 i hik] at hgj;rcases hpost.own b ⟨i,o1,n,h1,hgj⟩ with h | h
   ·exact hdis b hb h
   ·omega
  ·rw[hG2 j h1] at hgj;exact hb.2 j o n h3 hgj⟩
 have freeA:∀ b,uz w g0 (zZ ctx g s.objs) os g' os1 b->zZ ctx G' (s.callO ρ js os os1).objs b:=fun b ⟨h1,h2⟩=>⟨by
  rcases h1 with h1 | ⟨id,o,n,h1,h3⟩ | h1
  ·exact h1.1
  ·rcases(hg.own _ _ b n (hlo id o h1) h3).2 with h4 | h4
   ·exact .inr h4
   ·exact .inl (hK b h4)
  ·exact .inr (Nat.le_trans hg.grows h1),fun j o n hj hgj=>by
  rcases hlookN j o hj with⟨i,o1,h3,h4,_,hik⟩ | ⟨h3,h4,h5⟩
  ·rw[h4,hG1 i hik] at hgj;exact h2 ⟨i,o1,n,h3,hgj⟩
  ·rw[hG2 j h3] at hgj;rcases h1 with h1 | ⟨id,o',n',h1,h6⟩ | h1
   ·exact h1.2 j o n h5 hgj
   ·exact h4 id (zY h1) (hg.inj j (rn ρ id) o _ b n n' h5 (hlo id o' h1) hgj h6).symm
   ·have:=(hg.own j o b n h5 hgj).1;omega⟩
 have hst:zx w w' (zZ ctx g s.objs):=⟨hpost.grows,fun b hb hlt=>hpost.keep b hlt (hdis b hb)⟩
 -- what is named elsewhere keeps its ghost
 have hslot:∀ i p,(s.junks js).at i=some p->∀ j,p.has j=true->G' j=g j:=fun i p hp j hj=>by
  by_cases hex:∃ k∈ks,rn ρ k=j
  ·obtain⟨k,hk,rfl⟩:=hex;rw[hG1 k hk];rcases hnm k hk with h | ⟨h,_⟩
   ·exact hpost.pin k (zK.1 h)
   ·rw[Jz (s:=s.junks js) h hp] at hj;cases hj
  ·exact hG2 j fun k hk e=>hex ⟨k,hk,e⟩
 have hother:∀ j o,look s.objs j=some o->(∀ i∈os.map (·.1),rn ρ i≠j)->∀ jj,o.has jj=true->G' jj=g jj:=fun j o hj hno jj hjj=>by
  by_cases hex:∃ k∈ks,rn ρ k=jj
  ·obtain⟨k,hk,rfl⟩:=hex;rw[hG1 k hk];rcases hnm k hk with h | ⟨_,h⟩
   ·exact hpost.pin k (zK.1 h)
   ·rcases h _ (yn hj) with h2 | h2
    ·rw[hjj] at h2;cases h2
    ·obtain⟨i,hi,he⟩:=List.mem_map.1 (zK.1 h2);exact absurd he (hno i hi)
  ·exact hG2 jj fun k hk e=>hex ⟨k,hk,e⟩
 have hnown:∀ j o b n,look s.objs j=some o->(∀ i∈os.map (·.1),rn ρ i≠j)->g j=some (b,n)->¬ OwnB g0 os b:=fun j o b n hj hno hgj ⟨id,o',n',h1,h2⟩=>
  hno id (zY h1) (hg.inj j (rn ρ id) o _ b n n' hj (hlo id o' h1) hgj h2).symm
 have main:RelG ctx G' (s.callO ρ js os os1) a w':=by
  refine⟨hg.defers,hg.size,fun i p hp=>?_,fun j o hj=>?_,fun i j oi oj b n m hi hj hgi hgj=>?_,fun j o b n hj hgj=>?_,hpost.eos.trans hg.os,hpost.tape.trans hg.tape,hpost.output.trans hg.output,Nat.le_trans hg.grows hpost.grows,fun k hk hkK=>?_⟩
  ·have hp':(s.junks js).at i=some p:=by
    rw[ZZ,Zc];rw[ZZ] at hp;exact hp
   have h:=(hg.junks js).slots i p hp';rw[zw] at h;exact h.keep hst freeS (hslot i p hp')
  ·rcases hlookN j o hj with⟨i,o1,h1,rfl,rfl,hik⟩ | ⟨h1,h2,h3⟩
   ·refine ObRd.ren ?_;have hst':zx w' w' (uz w g0 (zZ ctx g s.objs) os g' os1):=⟨Nat.le_refl _,fun _ _ _=>rfl⟩
    have hn:=(List.all_eq_true.1 hcl') _ (yn h1);exact(hpost.obs.rd i o1 h1).keep hst' (fun b hb _=>freeA b hb) (fun _ _ _=>rfl) (hG1 i hik) (fun jj hjj=>hG1 jj (Ob.named_has hn hjj))
   ·exact(hg.objs j o h3).keep hst freeS (fun b n hgj=>hpost.keep b (hg.own j o b n h3 hgj).1 (hnown j o b n h3 h2 hgj)) (hG2 j h1) (hother j o h3 h2)
  ·rcases hlookN i oi hi with⟨k,o1,h1,rfl,_,hik⟩ | ⟨h1,h2,h3⟩
   ·rw[hG1 k hik] at hgi;rcases hlookN j oj hj with⟨k2,o2,h4,rfl,_,hik2⟩ | ⟨h4,h5,h6⟩
    ·rw[hG1 k2 hik2] at hgj;rw[hpost.obs.inj k k2 o1 o2 b n m h1 h4 hgi hgj]
    ·rw[hG2 j h4] at hgj;exfalso;rcases hpost.own b ⟨k,o1,n,h1,hgi⟩ with h | h
     ·exact hnown j oj b m h6 h5 hgj h
     ·have:=(hg.own j oj b m h6 hgj).1;omega
   ·rw[hG2 i h1] at hgi;rcases hlookN j oj hj with⟨k2,o2,h4,rfl,_,hik2⟩ | ⟨h4,h5,h6⟩
    ·rw[hG1 k2 hik2] at hgj;exfalso;rcases hpost.own b ⟨k2,o2,m,h4,hgj⟩ with h | h
     ·exact hnown i oi b n h3 h2 hgi h
     ·have:=(hg.own i oi b n h3 hgi).1;omega
    ·rw[hG2 j h4] at hgj;exact hg.inj i j oi oj b n m h3 h6 hgi hgj
  ·rcases hlookN j o hj with⟨k,o1,h1,rfl,_,hik⟩ | ⟨h1,h2,h3⟩
   ·rw[hG1 k hik] at hgj;refine⟨hpost.obs.lt k o1 b n h1 hgj,?_⟩;rcases hpost.own b ⟨k,o1,n,h1,hgj⟩ with⟨id,o',n',h4,h5⟩ | h
    ·exact(hg.own _ _ b n' (hlo id o' h4) h5).2
    ·exact .inl (Nat.le_trans hg.grows h)
   ·rw[hG2 j h1] at hgj;obtain⟨h4,h5⟩:=hg.own j o b n h3 hgj;exact⟨Nat.lt_of_lt_of_le h4 hpost.grows,h5⟩
  ·refine(hpost.keep k (Nat.lt_of_lt_of_le hk hg.grows) fun⟨id,o,n,h1,h2⟩=>?_).trans (hg.keep k hk hkK);rcases(hg.own _ _ k n (hlo id o h1) h2).2 with h | h
   ·omega
   ·exact hkK h
 refine⟨G',main.put dst ?_⟩;have hst':zx w' w' (uz w g0 (zZ ctx g s.objs) os g' os1):=⟨Nat.le_refl _,fun _ _ _=>rfl⟩
 exact(hpost.res.keep (w':=w') (g':=fun i=>G' (rn ρ i)) hst' (fun b hb _=>freeA b hb) (fun jj hjj=>hG1 jj (PV.named_has hr hjj))).ren
end
end Go.Ep
namespace Go.Ep
open Go.RowKit
section
variable{P:Program}{ctx:Ctx}{Q:PQ}{s:PState}
variable{dst:Option Tmp}{ty:TypeId}{pos:String}{after:Array Edge}{gd:Option (Nat×Bool)}
theorem VR{xs:List Operand}{ps:List PV}(hps:s.evs xs=some ps){a:Act}{w:World}{g:zR}(hg:RelG ctx g s a w) :
  ps.length=(xs.map a.eval).length/\∀ (i:Nat) (p:PV) (v:Value),ps[i]?=some p->(xs.map a.eval)[i]?=some v->Rd w g (zZ ctx g s.objs) p v:=by
 refine⟨by simpa using qA hps,fun i p v hp hv=>?_⟩;rw[List.getElem?_map] at hv
 cases hx:xs[i]? with
 | none=>simp[hx] at hv
 | some x=>
  simp[hx] at hv;subst hv;exact hg.ev (Uo hps hp hx)
theorem LR.callObj{x:Operand}{xs:List Operand}{ats:Array TypeId}{f:FuncId}{ps qs:List PV}{os os':List (Nat×Ob)}{pins:List Nat}{r:PV}(ρ:List (Nat×Nat))(js ks:List Nat)
  (hc:PObj P f ps os pins r (fun _:Unit=>os')) (hK:∀ b,ctx.K b->ctx.S b) (hx:s.ev x=some (.d (.v (.func (.func f) #[] #[])))) (he:∀ args w,(callFunc f args).run P w=.ok (.enter f args) w) (hps:s.evs xs=some qs) (hq:qs.map PV.nilD=ps.map (PV.ren ρ)) (hos:AllOb s ρ os)
  (hks:os'.map (·.1)=ks) (hcl:os'.all (fun x=>x.2.named ks)=true) (hr:r.named ks=true) (hok:vN s ρ js (os.map (·.1)) pins ks=true) :
  Local P ctx ⟨dst,.call ⟨.value x,xs.toArray,ats⟩,ty,pos,after,gd⟩ s ((s.callO ρ js os os').putD dst (r.ren ρ)):=
 wP (o:=⟨dst,.call ⟨.value x,xs.toArray,ats⟩,ty,pos,after,gd⟩) fun a w g hg=>by
  obtain⟨hlen,hreal⟩:=VR hps hg;refine⟨f,_,xW (o:=⟨dst,.call ⟨.value x,xs.toArray,ats⟩,ty,pos,after,gd⟩) rfl (Xu hg hx) he w,?_⟩;rw[List.map_toArray];exact(uN ρ js ks hK hq hos (fun _=>hks) (fun _=>hcl) hr hok hg hlen hreal dst (hc.at _ _)).mono fun en w' ⟨u,_,he,hrel⟩=>⟨u,he,hrel⟩
end
end Go.Ep
namespace Go.Ep
theorem zn{a b:List (Nat×Ob)}{id:Nat}{o:Ob}(h:look a id=some o):look (a++b) id=some o:=by rw[yk,h];rfl
theorem EndsO.mk{G:Type}{P:Program}{ctx:Ctx}{fn:Func}{pl:List (Nat×Ob)}{r:PV}{os':G->List (Nat×Ob)}{e:Exit}{s:PState}(gh:G){n:Nat}{sl:List (Nat×PV)}{ps:List PV}(he:e=.normal\/e=.ret)(hsub:Sub ctx s ⟨n,sl,os' gh++pl⟩)
  (hres:qL P ⟨n,sl,os' gh++pl⟩ fn.results.toList ps) (hq:z9a ps=r) (hd:(pl.all fun x=>!inL ((os' gh).map (·.1)) x.1)=true):EndsO P ctx fn pl r os' e s:=by
 refine⟨he,gh,ps,_,hsub,hres,hq,fun id o h=>zn h,fun id o h=>?_⟩;show look (os' gh++pl) id=some o;rw[yk]
 cases hl:look (os' gh) id with
 | none=>rw[Option.none_or];exact h
 | some q=>
  have h1:=List.all_eq_true.1 hd _ (yn h);have h2:=zK.2 (zY hl);simp only at h1;rw[h2] at h1
  cases h1
end Go.Ep
namespace Go.Ep
open Go.RowKit
section
variable{P:Program}{ctx:Ctx}{Q:PQ}{s:PState}
variable{dst:Option Tmp}{ty:TypeId}{pos:String}{after:Array Edge}{gd:Option (Nat×Bool)}
theorem YC{t e:TypeId}(hu:P.underlying t=some (.pointer e)):P.underlying t=some (.pointer (P.pointee t)):=by
 rw[hu];simp[Program.pointee,hu]
theorem QW{x:Operand}{id off:Nat}(hx:s.ev x=some (.ref id off)){a:Act}{w:World}{g:zR}(hg:RelG ctx g s a w):∃ b,a.eval x=.pointer (some b):=by
 have h:=hg.ev hx
 generalize a.eval x=v at h
 cases h with
 | ref _ _ blk n hgi=>exact⟨_,rfl⟩
theorem LR.eqlPtr{x:Operand}{id off:Nat}{t t' e:TypeId}(hu:P.underlying t=some (.pointer e))(hx:s.ev x=some (.ref id off)) :
  Local P ctx ⟨dst,.binOp .eql t x (.const (.pointer none)) t',ty,pos,after,gd⟩ s (s.putD dst (.d (.v (.bool false)))):=
 zD (o:=⟨dst,.binOp .eql t x (.const (.pointer none)) t',ty,pos,after,gd⟩) fun a w g hg=>by
  obtain⟨b,hb⟩:=QW hx hg;have hc:a.eval (.const (.pointer none))=.pointer none:=rfl;exact⟨.bool false,by simp[execOp,hb,hc,eqGuard_at_pointer,run_eql_pointer_nil (P:=P) w t _ (YC hu)],.d (.v _ rfl)⟩
theorem LR.neqPtr{x:Operand}{id off:Nat}{t t' e:TypeId}(hu:P.underlying t=some (.pointer e))(hx:s.ev x=some (.ref id off)) :
  Local P ctx ⟨dst,.binOp .neq t x (.const (.pointer none)) t',ty,pos,after,gd⟩ s (s.putD dst (.d (.v (.bool true)))):=
 zD (o:=⟨dst,.binOp .neq t x (.const (.pointer none)) t',ty,pos,after,gd⟩) fun a w g hg=>by
  obtain⟨b,hb⟩:=QW hx hg;have hc:a.eval (.const (.pointer none))=.pointer none:=rfl;exact⟨.bool true,by simp[execOp,hb,hc,eqGuard_at_pointer,run_neq_pointer_nil (P:=P) w t _ (YC hu)],.d (.v _ rfl)⟩
theorem LR.eqlPtrN{x:Operand}{t t' e:TypeId}(hu:P.underlying t=some (.pointer e))(hx:s.ev x=some (.d (.v (.pointer none)))) :
  Local P ctx ⟨dst,.binOp .eql t x (.const (.pointer none)) t',ty,pos,after,gd⟩ s (s.putD dst (.d (.v (.bool true)))):=
 zD (o:=⟨dst,.binOp .eql t x (.const (.pointer none)) t',ty,pos,after,gd⟩) fun a w g hg=>by
  have hc:a.eval (.const (.pointer none))=.pointer none:=rfl;exact⟨.bool true,by simp[execOp,Xu hg hx,hc,eqGuard_at_pointer,run_eql_pointer_nil (P:=P) w t _ (YC hu)],.d (.v _ rfl)⟩
theorem LR.neqPtrN{x:Operand}{t t' e:TypeId}(hu:P.underlying t=some (.pointer e))(hx:s.ev x=some (.d (.v (.pointer none)))) :
  Local P ctx ⟨dst,.binOp .neq t x (.const (.pointer none)) t',ty,pos,after,gd⟩ s (s.putD dst (.d (.v (.bool false)))):=
 zD (o:=⟨dst,.binOp .neq t x (.const (.pointer none)) t',ty,pos,after,gd⟩) fun a w g hg=>by
  have hc:a.eval (.const (.pointer none))=.pointer none:=rfl;exact⟨.bool false,by simp[execOp,Xu hg hx,hc,eqGuard_at_pointer,run_neq_pointer_nil (P:=P) w t _ (YC hu)],.d (.v _ rfl)⟩
end
end Go.Ep
namespace Go.Ep
open Go.RowKit
section
variable{ctx:Ctx}{s:PState}
end
end Go.Ep
namespace Go.Ep
open Go.RowKit
section
variable{P:Program}{ctx:Ctx}{Q:PQ}{s:PState}
variable{dst:Option Tmp}{ty:TypeId}{pos:String}{after:Array Edge}{gd:Option (Nat×Bool)}
end
end Go.Ep
namespace Go.Ep
open Go.RowKit
section
variable{ctx:Ctx}{s:PState}
end
end Go.Ep
namespace Go.Ep
theorem xO{P:Program}{ctx:Ctx}{Q:PQ}{s:PState}{ops:Array Oper}{rest:List Oper}{dst:Option Tmp}{ty:TypeId}{pos:String}{after:Array Edge}{gd:Option (Nat×Bool)}{x:Operand}{xs:List Operand}{ats:Array TypeId}{f:FuncId}{ps qs:List PV}{os os':List (Nat×Ob)}{pins:List Nat}{r:PV}(ρ:List (Nat×Nat))(js ks:List Nat)(hc:PObj P f ps os pins r (fun _:Unit=>os'))(he:∀ args w,(callFunc f args).run P w=.ok (.enter f args) w)(h:PWl P ctx ops Q rest ((s.callO ρ js os os').putD dst (r.ren ρ)))(hK:∀ b,ctx.K b->ctx.S b:=by assumption)(hx:s.ev x=some (.d (.v (.func (.func f) #[] #[]))):=by exact rfl)(hps:s.evs xs=some qs:=by exact rfl)(hq:qs.map PV.nilD=ps.map (PV.ren ρ):=by first | rfl | (simp;done) | (simp[PV.nilD,PV.ren,rn] <;> omega))(hos:AllOb s ρ os:=by repeat' first | constructor | (congr 1;first | (simp;done) | (simp;omega) | omega))(hks:os'.map (·.1)=ks:=by exact rfl)(hcl:os'.all (fun x=>x.2.named ks)=true:=by exact rfl)(hr:r.named ks=true:=by exact rfl)(hok:vN s ρ js (os.map (·.1)) pins ks=true:=by exact rfl)(hg:gd=none:=by exact rfl):PWl P ctx ops Q (⟨dst,.call ⟨.value x,xs.toArray,ats⟩,ty,pos,after,gd⟩::rest) s:=PWl.step (LR.callObj ρ js ks hc hK hx he hps hq hos hks hcl hr hok) hg h
end Go.Ep
namespace Go.Ep
open Go.RowKit
def Xv(ρ:List (Nat×Nat))(js:List Nat)(dst:Option Nat)(r:PV)(os':List (Nat×Ob)):Ef:=⟨WV dst (r.ren ρ)++(js.map fun t=>(t,PV.junk)).reverse,os'.map fun x=>(rn ρ x.1,x.2.ren ρ)⟩
def calO(ρ:List (Nat×Nat))(js okeys pins ks:List Nat)(f:Ft):Bool:=
 ((okeys++ks).all fun i=>(okeys++ks).all fun j=>Nat.beq i j||!Nat.beq (rn ρ i) (rn ρ j))&&ks.all (fun i=>inL okeys i||inL f.fr (rn ρ i))&&okeys.all (inL ks)&&f.ao.all (inL (okeys.map (rn ρ))) &&
 (ks.all fun i=>inL pins i||inL f.fr (rn ρ i)||f.al.any fun a=>Nat.beq a.1 (rn ρ i)&&a.2==js)&&okeys.all fun i=>inL f.ro (rn ρ i)
section
variable{P:Program}{ctx:Ctx}{Q:PState->Prop}{s:PState}{ops:Array Oper}{rest:List Oper}{fs:List Ft}{f:Ft}
variable{dst:Option Tmp}{ty:TypeId}{pos:String}{after:Array Edge}{gd:Option (Nat×Bool)}
theorem AllOb.keep{ρ:List (Nat×Nat)}{os:List (Nat×Ob)}{s':PState}(h:AllOb s ρ os)(hk:∀ {id ob},inL f.ro id=true->look s.objs id=some ob->look s'.objs id=some ob)(hr:((os.map (·.1)).all fun i=>inL f.ro (rn ρ i))=true):AllOb s' ρ os:=by
 induction h with
 | nil=>exact .nil
 | cons h _ ih=>
  simp only[List.map_cons,List.all_cons,Bool.and_eq_true] at hr;exact .cons (hk hr.1 h) (ih hr.2)
theorem VS{s:PState}{id:Nat}(js:List Nat)(h:s.fresh id=true):z8a id (s.junks js).sl (s.junks js).sl=true:=by
 simp only[PState.fresh,Bool.and_eq_true] at h;refine Uz fun x hx hh q hq=>?_
 rcases JR js s x hx with h2 | h2
 ·rw[h2] at hh;simp[PV.has] at hh
 ·rw[xF,XO] at hq
  cases hg:xy (js.map fun t=>(t,PV.junk)).reverse x.1 with
  | none=>rw[hg,Option.none_or] at hq;exact Wc h.1 h2 hq hh
  | some q2=>
   rw[hg,Option.some_or] at hq
   cases hq
   have:=Zz hg;rw[List.mem_reverse,List.mem_map] at this;obtain⟨t,_,h3⟩:=this
   cases h3
   rfl
theorem PQe.callObj{x:Operand}{xs:List Operand}{ats:Array TypeId}{fn:FuncId}{ps qs:List PV}{os os':List (Nat×Ob)}{pins:List Nat}{r:PV}(ρ:List (Nat×Nat))(js ks:List Nat)
  (hc:PObj P fn ps os pins r (fun _:Unit=>os')) (hK:∀ b,ctx.K b->ctx.S b)
  (hev:∀ s':PState,(∀ {y q},xU (⟨dst,.call ⟨.value x,xs.toArray,ats⟩,ty,pos,after,gd⟩:Oper) y=true->s.ev y=some q->s'.ev y=some q)->s'.ev x=some (.d (.v (.func (.func fn) #[] #[])))/\s'.evs xs=some qs)
  (he:∀ args w,(callFunc fn args).run P w=.ok (.enter fn args) w) (hq:qs.map PV.nilD=ps.map (PV.ren ρ)) (hos:AllOb s ρ os)
  (hks:os'.map (·.1)=ks) (hcl:os'.all (fun x=>x.2.named ks)=true) (hr:r.named ks=true) (hok:calO ρ js (os.map (·.1)) pins ks f=true)
  (hg:Wd ops (⟨dst,.call ⟨.value x,xs.toArray,ats⟩,ty,pos,after,gd⟩:Oper) s) (hk:okE f (Xv ρ js dst r os')=true) (h:PQe P ctx ops Q rest fs (s.app (Xv ρ js dst r os'))) :
  PQe P ctx ops Q (⟨dst,.call ⟨.value x,xs.toArray,ats⟩,ty,pos,after,gd⟩::rest) (f::fs) s:=by
 simp only[calO,Bool.and_eq_true] at hok;obtain⟨⟨⟨⟨⟨c1,c2⟩,c3⟩,c4⟩,c5⟩,c6⟩:=hok;refine .step (e:=Xv ρ js dst r os') (fun s' hn hee ho hfr hal=>?_) hg hk h;obtain⟨h1,h2⟩:=hev s' (fun hx hq=>hee hx hq);have hok':vN s' ρ js (os.map (·.1)) pins ks=true:=by
  unfold vN;rw[Bool.and_eq_true,Bool.and_eq_true];refine⟨⟨c1,?_⟩,?_⟩
  ·rw[List.all_eq_true] at c2 ⊢;intro i hi;have:=c2 i hi;rw[Bool.or_eq_true] at this ⊢;exact this.imp (fun h=>h) fun h=>hfr _ (zK.1 h)
  ·rw[List.all_eq_true] at c5 ⊢;intro i hi;have:=c5 i hi;rw[Bool.or_eq_true,Bool.or_eq_true] at this;rw[Bool.or_eq_true];rcases this with(h | h) | h
   ·exact .inl h
   ·refine .inr ?_;have hf:=hfr _ (zK.1 h);rw[Bool.and_eq_true];refine⟨VS js hf,?_⟩;simp only[PState.fresh,Bool.and_eq_true,List.all_eq_true] at hf;rw[List.all_eq_true];intro y hy;rw[Bool.or_eq_true];exact .inl (hf.2 y hy).2
   ·refine .inr ?_;obtain⟨a,ha1,ha2⟩:=List.any_eq_true.1 h;simp only[Bool.and_eq_true,beq_iff_eq] at ha2;have hx:=hal a ha1;rw[Nat.eq_of_beq_eq_true ha2.1,ha2.2] at hx;unfold PState.aloneX at hx;rw[Bool.and_eq_true,zw] at hx;rw[Bool.and_eq_true];refine⟨hx.1,?_⟩;rw[List.all_eq_true] at c4;have hx2:=hx.2;rw[List.all_eq_true] at hx2 ⊢;intro y hy;have:=hx2 y hy;rw[Bool.or_eq_true] at this ⊢;rcases this with h | h
    ·exact .inr (c4 _ (zK.1 h))
    ·exact .inl h
 have hl:=LR.callObj (P:=P) (ctx:=ctx) (dst:=dst) (ty:=ty) (pos:=pos) (after:=after) (gd:=gd) (ats:=ats) ρ js ks hc hK h1 he h2 hq (hos.keep (fun hi hl=>ho (zK.1 hi) hl) c6) hks hcl hr hok'
 suffices hs:Sub ctx ((s'.callO ρ js os os').putD dst (r.ren ρ)) (s'.app (Xv ρ js dst r os')) from fun a w hr K Qx hK=>hl a w hr K Qx fun a' w' h'=>hK a' w' (hs a' w' h')
 refine Sub.drop ?_ ?_ ?_
 ·cases dst <;> rfl
 ·intro i p hp;have hat:=xI hp;have hlt:i < s'.n:=Yp (s:=s'.app (Xv ρ js dst r os')) hp;refine Xw (by cases dst <;> exact hlt) ?_;simp only[PState.app,Xv] at hat
  cases dst with
  | none=>simpa[WV,PState.putD,PState.callO,xF] using hat
  | some d=>simpa[WV,PState.putD,PState.put,PState.callO,xF] using hat
 ·intro id o hlo;have e1:(s'.app (Xv ρ js dst r os')).objs=os'.foldr (fun x l=>zi (rn ρ x.1) (x.2.ren ρ) l) s'.objs:=by
   simp only[PState.app,Xv,List.foldr_map]
  have e2:((s'.callO ρ js os os').putD dst (r.ren ρ)).objs=os'.foldr (fun x l=>zi (rn ρ x.1) (x.2.ren ρ) l) (os.foldr (fun x l=>uL (rn ρ x.1) l) s'.objs):=by cases dst <;> rfl
  rw[e1] at hlo;rw[e2];have hF:∀ (l:List (Nat×Ob)) (A B:List (Nat×Ob)),(∀ j,(∀ y∈l,rn ρ y.1≠j)->look A j=look B j)->∀ j,look (l.foldr (fun x l=>zi (rn ρ x.1) (x.2.ren ρ) l) A) j=look (l.foldr (fun x l=>zi (rn ρ x.1) (x.2.ren ρ) l) B) j:=by
   intro l
   induction l with
   | nil=>intro A B h j;exact h j (by simp)
   | cons y r ih=>
    intro A B h j;rw[List.foldr_cons,List.foldr_cons,zC,zC]
    by_cases hj:j=rn ρ y.1
    ·rw[if_pos hj,if_pos hj]
    ·rw[if_neg hj,if_neg hj];have gen:∀ (q:List (Nat×Ob)) (A B:List (Nat×Ob)) (j:Nat),(∀ y∈q,rn ρ y.1≠j)->look (q.foldr (fun x l=>zi (rn ρ x.1) (x.2.ren ρ) l) A) j=look A j:=by
      intro q A B j hq
      induction q with
      | nil=>rfl
      | cons z t iht=>
       rw[List.foldr_cons,zC,if_neg (fun e=>hq z (by simp) e.symm)];exact iht fun y hy=>hq y (by simp[hy])
     by_cases hr:∀ z∈r,rn ρ z.1≠j
     ·rw[gen r A B j hr,gen r B A j hr];exact h j fun z hz=>by
       rcases List.mem_cons.1 hz with rfl | hz
       ·exact fun e=>hj e.symm
       ·exact hr z hz
     ·obtain⟨z,hz,hzj⟩:∃ z∈r,rn ρ z.1=j:=by
       refine Classical.byContradiction fun hc=>hr fun z hz e=>hc ⟨z,hz,e⟩
      have hin:∀ (q:List (Nat×Ob)) (A B:List (Nat×Ob)),z∈q->look (q.foldr (fun x l=>zi (rn ρ x.1) (x.2.ren ρ) l) A) j=look (q.foldr (fun x l=>zi (rn ρ x.1) (x.2.ren ρ) l) B) j:=by
       intro q A B hq
       induction q with
       | nil=>cases hq
       | cons y t iht=>
        rw[List.foldr_cons,List.foldr_cons,zC,zC]
        by_cases hy:j=rn ρ y.1
        ·rw[if_pos hy,if_pos hy]
        ·rw[if_neg hy,if_neg hy];refine iht ?_;rcases List.mem_cons.1 hq with rfl | h
         ·exact absurd hzj.symm hy
         ·exact h
      exact hin r A B hz
  rw[hF os' _ s'.objs (fun j hj=>?_) id]
  ·exact hlo
  ·have hdel:∀ (q:List (Nat×Ob)),(∀ y∈q,rn ρ y.1≠j)->look (q.foldr (fun x l=>uL (rn ρ x.1) l) s'.objs) j=look s'.objs j:=by
    intro q hq
    induction q with
    | nil=>rfl
    | cons z t iht=>
     rw[List.foldr_cons,yb,if_neg (fun e=>hq z (by simp) e.symm)];exact iht fun y hy=>hq y (by simp[hy])
   refine hdel os fun y hy e=>?_
   rw[List.all_eq_true] at c3;have:=zK.1 (c3 y.1 (List.mem_map.2 ⟨y,hy,rfl⟩));rw[<- hks] at this;obtain⟨z,hz,hze⟩:=List.mem_map.1 this;exact hj z hz (by rw[hze];exact e)
end
section
variable{ctx:Ctx}{s:PState}
theorem Sub.nilCell{id j:Nat}{T:TypeId}{cs:List PV}(hl:look s.objs id=some (.cells T cs))(hj:cs[j]?=some (.d (.v (.slice none 0 0)))):Sub ctx s { s with objs:=zi id (.cells T (cs.set j (.d (.sl [])))) s.objs }:=by
 rintro a w ⟨g,h1⟩;refine⟨g,?_⟩;have hF:∀ b,zZ ctx g s.objs b->zZ ctx g (zi id (.cells T (cs.set j (.d (.sl [])))) s.objs) b:=fun b hb=>⟨hb.1,fun i o n ho hgi=>by
  rw[zC] at ho
  by_cases ei:i=id
  ·subst ei;exact hb.2 i _ n hl hgi
  ·rw[if_neg ei] at ho;exact hb.2 i o n ho hgi⟩
 have hst:zx w w (zZ ctx g s.objs):=⟨Nat.le_refl _,fun _ _ _=>rfl⟩
 refine⟨h1.defers,h1.size,fun i p hp=>(h1.slots i p hp).keep hst (fun b hb _=>hF b hb) (fun _ _=>rfl),fun i o ho=>?_,fun i i2 o o2 b n m ho ho2 hgi hgi2=>?_,fun i o b n ho hgi=>?_,h1.os,h1.tape,h1.output,h1.grows,h1.keep⟩
 ·rw[zC] at ho
  by_cases ei:i=id
  ·subst ei;rw[if_pos rfl] at ho
   cases ho
   cases h1.objs i _ hl with
   | cells _ _ blk n us hgi hh hlen hr h1'=>
    refine .cells T _ blk n us hgi hh (by simpa using hlen) (fun q p u hp hu=>?_) h1';rw[List.getElem?_set] at hp
    split at hp
    ·rename_i e
     subst e
     split at hp
     ·simp only[Option.some.injEq] at hp;subst hp;have:=(hr j _ u hj hu).of_v;subst this;exact .d (.nil none 0 (Nat.zero_le _) (fun _=>rfl))
     ·cases hp
    ·exact(hr q p u hp hu).keep hst (fun b hb _=>hF b hb) (fun _ _=>rfl)
  ·rw[if_neg ei] at ho;exact(h1.objs i o ho).keep hst (fun b hb _=>hF b hb) (fun _ _ _=>rfl) rfl (fun _ _=>rfl)
 ·have lk:∀ {i:Nat} {o:Ob},look (zi id (.cells T (cs.set j (.d (.sl [])))) s.objs) i=some o->∃ o',look s.objs i=some o':=fun {i o} h=>by
   rw[zC] at h
   by_cases ei:i=id
   ·subst ei;exact⟨_,hl⟩
   ·rw[if_neg ei] at h;exact⟨_,h⟩
  obtain⟨_,h5⟩:=lk ho;obtain⟨_,h6⟩:=lk ho2;exact h1.inj i i2 _ _ b n m h5 h6 hgi hgi2
 ·rw[zC] at ho
  by_cases ei:i=id
  ·subst ei;exact h1.own i _ b n hl hgi
  ·rw[if_neg ei] at ho;exact h1.own i o b n ho hgi
end
end Go.Ep
namespace Go.Ep
open Go.RowKit
section
variable{ctx:Ctx}{s:PState}
theorem Sub.obj{id:Nat}{o o':Ob}(hl:look s.objs id=some o)(hob:∀ (w:World) (g:zR) (S:Nat->Prop),ObRd w g S id o->ObRd w g S id o'):Sub ctx s { s with objs:=zi id o' s.objs }:=by
 rintro a w ⟨g,h1⟩;refine⟨g,?_⟩;have hF:∀ b,zZ ctx g s.objs b->zZ ctx g (zi id o' s.objs) b:=fun b hb=>⟨hb.1,fun i o2 n ho hgi=>by
  rw[zC] at ho
  by_cases ei:i=id
  ·subst ei;exact hb.2 i _ n hl hgi
  ·rw[if_neg ei] at ho;exact hb.2 i o2 n ho hgi⟩
 have hst:zx w w (zZ ctx g s.objs):=⟨Nat.le_refl _,fun _ _ _=>rfl⟩
 have hlk:∀ i o2,look (zi id o' s.objs) i=some o2->∃ o3,look s.objs i=some o3:=fun i o2 ho=>by
  rw[zC] at ho
  by_cases ei:i=id
  ·subst ei;exact⟨_,hl⟩
  ·rw[if_neg ei] at ho;exact⟨_,ho⟩
 refine⟨h1.defers,h1.size,fun i p hp=>(h1.slots i p hp).keep hst (fun b hb _=>hF b hb) (fun _ _=>rfl),fun i o2 ho=>?_,fun i i2 o2 o3 b n m ho ho2 hgi hgi2=>?_,fun i o2 b n ho hgi=>?_,h1.os,h1.tape,h1.output,h1.grows,h1.keep⟩
 ·rw[zC] at ho
  by_cases ei:i=id
  ·subst ei;rw[if_pos rfl] at ho
   cases ho
   exact hob _ _ _ ((h1.objs i _ hl).keep hst (fun b hb _=>hF b hb) (fun _ _ _=>rfl) rfl (fun _ _=>rfl))
  ·rw[if_neg ei] at ho;exact(h1.objs i o2 ho).keep hst (fun b hb _=>hF b hb) (fun _ _ _=>rfl) rfl (fun _ _=>rfl)
 ·obtain⟨o4,e4⟩:=hlk i o2 ho;obtain⟨o5,e5⟩:=hlk i2 o3 ho2;exact h1.inj i i2 o4 o5 b n m e4 e5 hgi hgi2
 ·obtain⟨o4,e4⟩:=hlk i o2 ho;exact h1.own i o4 b n e4 hgi
theorem Sub.ownMap{id j id' ck:Nat}{ks:List IntKind}{ag:Bool}{T:TypeId}{cs:List PV}(hl:look s.objs id=some (.cells T cs))(hj:cs[j]?=some (.d (.v (.map none))))(hf:s.fresh id'=true)(hne:Nat.beq id id'=false) :
  Sub ctx s { s with objs:=zi id (.cells T (cs.set j (.mp id'))) (zi id' (.mapN true ks ag [] [] ck) s.objs) }:=by
 rintro a w ⟨g,hg⟩;have hne':id≠id':=fun h=>by rw[h,Nat.beq_refl] at hne;cases hne
 have h1:=hg.new (Below.refl _ w) hf none (fun b n e=>by cases e) (.mapN true ks ag [] [] ck) (.mapNil ks ag ck (zF _ _ _));have hl1:look (zi id' (.mapN true ks ag [] [] ck) s.objs) id=some (.cells T cs):=by rw[zC,if_neg hne'];exact hl
 refine⟨upd g id' none,?_⟩;have hF:∀ b,zZ ctx (upd g id' none) (zi id' (.mapN true ks ag [] [] ck) s.objs) b->zZ ctx (upd g id' none) (zi id (.cells T (cs.set j (.mp id'))) (zi id' (.mapN true ks ag [] [] ck) s.objs)) b:=fun b hb=>⟨hb.1,fun i o n ho hgi=>by
  rw[zC] at ho
  by_cases ei:i=id
  ·subst ei;exact hb.2 i _ n hl1 hgi
  ·rw[if_neg ei] at ho;exact hb.2 i o n ho hgi⟩
 have hst:zx w w (zZ ctx (upd g id' none) (zi id' (.mapN true ks ag [] [] ck) s.objs)):=⟨Nat.le_refl _,fun _ _ _=>rfl⟩
 refine⟨h1.defers,h1.size,fun i p hp=>(h1.slots i p hp).keep hst (fun b hb _=>hF b hb) (fun _ _=>rfl),fun i o ho=>?_,fun i i2 o o2 b n m ho ho2 hgi hgi2=>?_,fun i o b n ho hgi=>?_,h1.os,h1.tape,h1.output,h1.grows,h1.keep⟩
 ·rw[zC] at ho
  by_cases ei:i=id
  ·subst ei;rw[if_pos rfl] at ho
   cases ho
   cases (h1.objs i _ hl1).keep hst (fun b hb _=>hF b hb) (fun _ _ _=>rfl) rfl (fun _ _=>rfl) with
   | cells _ _ blk n us hgi hh hlen hr h1'=>
    refine .cells T _ blk n us hgi hh (by simpa using hlen) (fun q p u hp hu=>?_) h1'
    by_cases ej:q=j
    ·subst ej;have hlt:q < cs.length:=(List.getElem?_eq_some_iff.1 hj).1;rw[List.getElem?_set_self hlt] at hp
     cases hp
     have:=(hr q _ u hj hu).of_v;subst this;exact .mpNil id' (zF _ _ _)
    ·rw[List.getElem?_set_ne (Ne.symm ej)] at hp;exact hr q p u hp hu
  ·rw[if_neg ei] at ho;exact(h1.objs i o ho).keep hst (fun b hb _=>hF b hb) (fun _ _ _=>rfl) rfl (fun _ _=>rfl)
 ·rw[zC] at ho ho2;have key:∀ q o,(if q=id then some (Ob.cells T (cs.set j (.mp id'))) else look (zi id' (.mapN true ks ag [] [] ck) s.objs) q)=some o->∃ o',look (zi id' (.mapN true ks ag [] [] ck) s.objs) q=some o':=fun q o hq=>by
   by_cases eq:q=id
   ·subst eq;exact⟨_,hl1⟩
   ·rw[if_neg eq] at hq;exact⟨o,hq⟩
  obtain⟨p1,q1⟩:=key i o ho;obtain⟨p2,q2⟩:=key i2 o2 ho2;exact h1.inj i i2 p1 p2 b n m q1 q2 hgi hgi2
 ·rw[zC] at ho
  by_cases ei:i=id
  ·subst ei;exact h1.own i _ b n hl1 hgi
  ·rw[if_neg ei] at ho;exact h1.own i o b n ho hgi
theorem Sub.mapF{id:Nat}{nl:Bool}{ks:List IntKind}{ag:Bool}{m:List (List Int×List DV)}{bs:List Nat}{ck:Nat}(hl:look s.objs id=some (.mapN nl ks ag m bs ck))(hn:nl=false):Sub ctx s { s with objs:=zi id (.map ks ag m bs ck) s.objs }:=
 Sub.obj hl fun w g S h=>by
  subst hn
  cases h with
  | mapN _ _ _ _ _ blk n es h hh hm=>exact .map _ _ _ _ _ blk n es h hh hm
theorem Sub.mapToN{id:Nat}{ks:List IntKind}{ag:Bool}{m:List (List Int×List DV)}{bs:List Nat}{ck:Nat}(hl:look s.objs id=some (.map ks ag m bs ck)):Sub ctx s { s with objs:=zi id (.mapN false ks ag m bs ck) s.objs }:=
 Sub.obj hl fun w g S h=>by
  cases h with
  | map _ _ _ _ _ blk n es h hh hm=>exact .mapN _ _ _ _ _ blk n es h hh hm
end
section
variable{P:Program}{ctx:Ctx}{Q:PQ}{s:PState}
variable{dst:Option Tmp}{ty:TypeId}{pos:String}{after:Array Edge}{gd:Option (Nat×Bool)}
variable{id:Nat}{nl:Bool}{ks:List IntKind}{ag:Bool}{m:List (List Int×List DV)}{bs:List Nat}{ck:Nat}
theorem yQa{x:Operand}(hx:s.ev x=some (.mp id))(hl:look s.objs id=some (.mapN nl ks ag m bs ck)){a:Act}{w:World}{g:zR}(hg:RelG ctx g s a w):∃ r,a.eval x=.map r/\r.isNone=nl:=by
 have h:=hg.ev hx
 generalize a.eval x=v at h
 cases h with
 | mpNil _ hgn=>
  cases hg.objs id _ hl with
  | mapNil=>exact⟨none,rfl,rfl⟩
  | mapN _ _ _ _ _ blk' n' es h' hh hm=>rw[hgn] at h';cases h'
 | mp _ blk n hgi=>
  cases hg.objs id _ hl with
  | mapNil _ _ _ h'=>rw[hgi] at h';cases h'
  | mapN _ _ _ _ _ blk' n' es h' hh hm=>exact⟨some blk,rfl,rfl⟩
theorem LR.eqlMapN{x:Operand}{t t' kt et:TypeId}(hu:P.underlying t=some (.map kt et))(hx:s.ev x=some (.mp id))(hl:look s.objs id=some (.mapN nl ks ag m bs ck)) :
  Local P ctx ⟨dst,.binOp .eql t x (.const (.map none)) t',ty,pos,after,gd⟩ s (s.putD dst (.d (.v (.bool nl)))):=
 zD (o:=⟨dst,.binOp .eql t x (.const (.map none)) t',ty,pos,after,gd⟩) fun a w g hg=>by
  obtain⟨r,hr,hn⟩:=yQa hx hl hg;have hc:a.eval (.const (.map none))=.map none:=rfl;exact⟨.bool nl,by simp only[execOp,hr,hc,eqGuard_at_map,Sem.run_bind,Sem.run_pure,Result.andThen_ok,run_eql_map_nil w t kt et r hu,hn],.d (.v _ rfl)⟩
section
variable{x kx:Operand}{t kt et:TypeId}{ns:List Int}{z:Value}{zs:List DV}{p:PV}
 (hu:P.underlying t=some (.map kt et)) (K:KeyOK P kt ks) (hz:∀ w,(zeroValue et).run P w=.ok z w) (hzr:∀ (w:World) (g:zR) (S:Nat->Prop),Rd w g S (elP ag zs) z) (hk:s.ev kx=some (Jw ks ns)) (hn:ns.length=ks.length) (hp:elP ag ((WT m ns).getD zs)=p)
 (hx:s.ev x=some (.mp id)) (hl:look s.objs id=some (.mapN nl ks ag m bs ck))
include hu K hz hzr hk hn hp hx hl
theorem LR.lookupOkN : Local P ctx ⟨dst,.lookup t x kx true,ty,pos,after,gd⟩ s (s.putD dst (.tup [p,.d (.v (.bool (WT m ns).isSome))])):=
 zD (o:=⟨dst,.lookup t x kx true,ty,pos,after,gd⟩) fun a w g hg=>by
  have h:=hg.ev hx
  generalize hv:a.eval x=v at h
  have fin:∀ v,Rd w g (zZ ctx g s.objs) p v->Rd w g (zZ ctx g s.objs) (.tup [p,.d (.v (.bool (WT m ns).isSome))]) (.tuple [v,.bool (WT m ns).isSome].toArray):=fun v h2=>.tup _ [v,.bool (WT m ns).isSome] rfl (fun i q u hq hu=>by
   match i with
   | 0=>simp at hq hu;subst hq;subst hu;exact h2
   | 1=>simp at hq hu;subst hq;subst hu;exact .d (.v _ rfl)
   | _+2=>simp at hq)
  cases h with
  | mpNil _ hgn=>
   cases hg.objs id _ hl with
   | mapN _ _ _ _ _ blk' n' es h' hh hm=>rw[hgn] at h';cases h'
   | mapNil=>
    refine⟨_,?_,fin z (hp▸hzr w g _)⟩;simp only[execOp,hv,vG (hg.ev hk),Sem.run_bind,Ym (w:=w) hu K hn hz true,Result.andThen_ok,Sem.run_pure]
    rfl
  | mp _ blk n hgi=>
   cases hg.objs id _ hl with
   | mapNil _ _ _ h'=>rw[hgi] at h';cases h'
   | mapN _ _ _ _ _ blk' n' es h' hh hm=>
    rw[hgi] at h';cases h';obtain⟨v,h1,h2⟩:=Xy (g:=g) hu K hn hh hm hz (hzr w g _) true;refine⟨_,?_,fin v (hp▸h2)⟩;simp only[execOp,hv,vG (hg.ev hk),Sem.run_bind,h1,Result.andThen_ok,Sem.run_pure]
    rfl
end
theorem LR.deleteN{x kx:Operand}{t kt et:TypeId}{ats:Array TypeId}{ns:List Int}(hats:ats[0]?=some t)(hu:P.underlying t=some (.map kt et))(K:KeyOK P kt ks)(hx:s.ev x=some (.mp id))(hl:look s.objs id=some (.mapN nl ks ag m bs ck))
  (hk:s.ev kx=some (Jw ks ns)) (hn:ns.length=ks.length) :
  Local P ctx ⟨dst,.call ⟨.builtin .delete,#[x,kx],ats⟩,ty,pos,after,gd⟩ s ((s.setO id (.mapN nl ks ag (mdel m ns) (bdel m ns bs) ck)).putD dst (.tup [])):=by
 refine yA (o:=⟨dst,.call ⟨.builtin .delete,#[x,kx],ats⟩,ty,pos,after,gd⟩) fun a w g hg=>?_
 have h:=hg.ev hx
 generalize hxv:a.eval x=v at h
 cases h with
 | mpNil _ hgn=>
  cases ho:hg.objs id _ hl with
  | mapN _ _ _ _ _ blk' n' es h' hh hm=>rw[hgn] at h';cases h'
  | mapNil=>
   have hexec:(execOp a.eval ⟨dst,.call ⟨.builtin .delete,#[x,kx],ats⟩,ty,pos,after,gd⟩).run P w=.ok (.value (.tuple #[])) w:=by
    simp only[execOp,resolve,invoke,builtin,hxv,vG (hg.ev hk),Sem.run_bind,Sem.run_pure,Result.andThen_ok,List.map_toArray,List.map_cons,List.map_nil];have a0:(#[Value.map none,ve ks ns]:Array Value)[0]?=some (.map none):=rfl;have a1:(#[Value.map none,ve ks ns]:Array Value)[1]?=some (ve ks ns):=rfl;simp only[Builtin.delete_,hats,a0,a1,Sem.run_bind,run_underlying hu,Result.andThen_ok,K.check w _ ns hn,Sem.run_pure]
   obtain⟨g',h2⟩:=Sub.obj (o':=.mapN true ks ag [] [] ck) hl (fun _ _ _ h=>h) a w ⟨g,hg⟩;exact⟨.tuple #[],_,hexec,g',h2.put dst (.tup [] [] rfl (by simp))⟩
 | mp _ blk n hgi=>
  cases hg.objs id _ hl with
  | mapNil _ _ _ h'=>rw[hgi] at h';cases h'
  | mapN _ _ _ _ _ blk' n' es h' hh hm=>
   rw[hgi] at h';cases h';obtain⟨es',hrun,hm'⟩:=zRa (P:=P) (ty:=ty) hats hu K hn hh hm;have hexec:(execOp a.eval ⟨dst,.call ⟨.builtin .delete,#[x,kx],ats⟩,ty,pos,after,gd⟩).run P w=.ok (.value (.tuple #[])) { w with heap:=w.heap.setIfInBounds blk (.map es' ck) }:=by
    simp only[execOp,resolve,invoke,builtin,hxv,vG (hg.ev hk),Sem.run_bind,Sem.run_pure,Result.andThen_ok,List.map_toArray,List.map_cons,List.map_nil,hrun]
   refine⟨.tuple #[],_,hexec,g,?_⟩;have hown:=hg.own id _ blk n hl hgi;have hother:∀ k,k < w.heap.size->k≠blk->({ w with heap:=w.heap.setIfInBounds blk (.map es' ck) }:World).heap[k]?=w.heap[k]?:=fun k _ hne=>uf w blk k _ hne
   have hst:zx w { w with heap:=w.heap.setIfInBounds blk (.map es' ck) } (zZ ctx g s.objs):=⟨by simp,fun b ⟨_,h2⟩ hlt=>hother b hlt fun e=>by subst e;exact h2 id _ n hl hgi⟩
   exact(hg.wrote hl hgi (w':={ w with heap:=w.heap.setIfInBounds blk (.map es' ck) }) rfl rfl rfl (by simp) hother hown.2 (.mapN ks ag _ _ _ blk n es' hgi (YB w blk _ hown.1) (hm'.keep hst (fun b hb _=>xL hl b hb)))).put dst (.tup [] [] rfl (by simp))
theorem LR.idxCells{x ix:Operand}{id m:Nat}{ki:IntKind}{i:Int}{n:Nat}{t e:TypeId}(hu:P.underlying t=some (.slice e))(hs:∀ w,(sizeOf e).run P w=.ok 1 w)
  (hx:s.ev x=some (.row id m)) (hix:s.ev ix=some (.d (.v (.int ki i)))) (hi:i=n) (hn:n < m) :
  Local P ctx ⟨dst,.indexAddr t x ix,ty,pos,after,gd⟩ s (s.putD dst (.ref id n)):=
 zD (o:=⟨dst,.indexAddr t x ix,ty,pos,after,gd⟩) fun a w g hg=>by
  have h:=hg.ev hx
  generalize hv:a.eval x=v at h
  cases h with
  | row _ _ blk cap h=>
   refine⟨.pointer (some ⟨blk,n,none⟩),?_,.ref id n blk cap h⟩;simp[execOp,hv,xz hg hix,vj hu hs blk 0 m cap ki i n hi hn,Result.andThen]
  | rowNil=>omega
theorem fresh_ev{id:Nat}{x:Operand}{p:PV}(hf:s.fresh id=true)(hx:s.ev x=some p):p.has id=false:=by
 unfold PState.ev at hx
 split at hx
 ·exact Xx hf hx
 ·cases hx
 ·cases hx
 ·cases hx;rfl
 ·cases hx;rfl
 ·cases hx
theorem QX : ∀ us:List Value,(us.map fun u=>[u]).flatten=us
 | []=>rfl
 | u::r=>by rw[List.map_cons,List.flatten_cons,QX r];rfl
theorem LR.buildSliceQ{q:PV}{id n bs:Nat}{t e:TypeId}{parts:Array (Nat×Operand)}(xs:List Operand){ps:List PV}(hE:ElemOK P t e 1 bs)(hparts:parts=(Uq 0 xs).toArray)(hn:n=xs.length)(hps:s.evs xs=some ps)(hc:ps.all PV.isCell=true)(hsmall:n<=16777216)(hf:s.fresh id=true)(hq:∀ (w:World) (g:zR) (S:Nat->Prop) (blk:Nat),g id=some (blk,n)->Rd w g S q (.slice (some ⟨blk,0,none⟩) n n)) :
  Local P ctx ⟨some id,.buildSlice t n parts,ty,pos,after,gd⟩ s (s.newO id (.cells e ps) q):=
 yA (o:=⟨some id,.buildSlice t n parts,ty,pos,after,gd⟩) fun a w g hg=>by
  subst hparts;subst hn;obtain⟨hl,hrd⟩:=VR hps hg;rw[List.all_eq_true] at hc;have hone:∀ u∈xs.map a.eval,u.oneCell'=true:=fun u hu=>by
   obtain⟨j,hj⟩:=List.getElem?_of_mem hu;obtain⟨p,hp⟩:∃ p,ps[j]?=some p:=⟨_,List.getElem?_eq_getElem (by rw[hl];exact(List.getElem?_eq_some_iff.1 hj).1)⟩
   exact(hrd j p u hp hj).one (hc p (List.mem_of_getElem? hp))
  obtain⟨hrun,hfl,huk⟩:=Yl (P:=P) (a:=a) (xs:=xs) (us:=(xs.map a.eval).map fun u=>[u]) hE (by simp) (fun i x u hx hu=>by
   simp[hx] at hu;subst hu;have:=hone (a.eval x) (List.mem_map.2 ⟨x,List.mem_of_getElem? hx,rfl⟩);refine⟨?_,rfl⟩
   cases hv:a.eval x <;> simp_all [Value.cells,Value.oneCell']) (by omega) w
  rw[QX] at hrun;have hb:=Below.alloc1 w (.cells (xs.map a.eval).toArray e);have hnew:=hg.new hb hf (some (w.heap.size,xs.length)) (fun b n e=>by cases e;simp) (.cells e ps) (.cells e ps w.heap.size xs.length (xs.map a.eval) (zF _ _ _) (heap_alloc_new w _) hl (fun i p u hp hu=>by
   refine(hrd i p u hp hu).keep ⟨hb.size,fun b _ hlt=>hb.block b hlt⟩ (fun b ⟨h1,h2⟩ hlt=>⟨h1,fun j o n ho hgj=>?_⟩) (fun j hj=>zh fun e2=>?_)
   ·subst e2;have hx:∃ x,s.ev x=some p:=by
     obtain⟨x,hx⟩:∃ x,xs[i]?=some x:=⟨_,List.getElem?_eq_getElem (by have:=(List.getElem?_eq_some_iff.1 hp).1;rw[hl,List.length_map] at this;exact this)⟩
     exact⟨x,Uo hps hp hx⟩
    obtain⟨x,hx⟩:=hx;rw[fresh_ev hf hx] at hj;cases hj
   ·rw[zC] at ho
    by_cases ej:j=id
    ·subst ej;rw[zF] at hgj;cases hgj;omega
    ·rw[if_neg ej] at ho;rw[zh ej] at hgj;exact h2 j o n ho hgj) hone)
  exact⟨_,_,by simp only[execOp,Sem.run_bind,hrun,Result.andThen_ok,Sem.run_pure],_,hnew.put (some id) (hq _ _ _ _ (zF _ _ _))⟩
theorem LR.buildSliceP{id n bs:Nat}{t e:TypeId}{parts:Array (Nat×Operand)}(xs:List Operand){ps:List PV}(hE:ElemOK P t e 1 bs)(hparts:parts=(Uq 0 xs).toArray)(hn:n=xs.length)(hps:s.evs xs=some ps)(hc:ps.all PV.isCell=true)(hsmall:n<=16777216)(hf:s.fresh id=true) :
  Local P ctx ⟨some id,.buildSlice t n parts,ty,pos,after,gd⟩ s (s.newO id (.cells e ps) (.row id n)):=LR.buildSliceQ xs hE hparts hn hps hc hsmall hf (fun _ _ _ blk h=>.row _ _ blk n h)
def PWL(P:Program)(ctx:Ctx)(c:Code)(Q:PQ)(s:PState):Prop:=∀ a w,Rel ctx s a w->LoopAt P c (lift ctx Q) a w
theorem PWc.loopU{c:Code}(h:PWL P ctx c Q s):PWc P ctx (.loop c) Q s:=fun a w hr=>LoopAt.loop (h a w hr)
theorem PWL.step{c:Code}(h:PWc P ctx c (Then (PWL P ctx c Q) Q) s):PWL P ctx c Q s:=fun a w hr=>by
 refine LoopAt.step (wp_mono (h a w hr) fun e a' w' ⟨t,h1,h2⟩=>?_)
 cases e with
 | normal=>exact h1 a' w' h2
 | _=>exact⟨t,h1,h2⟩
theorem PWL.sub{c:Code}{t:PState}(hs:Sub ctx s t)(h:PWL P ctx c Q t):PWL P ctx c Q s:=fun a w hr=>h a w (hs a w hr)
theorem LR.rangeN{id mid:Nat}{x:Operand}{t kt et:TypeId}(hu:P.underlying t=some (.map kt et))(hx:s.ev x=some (.mp mid))(hl:look s.objs mid=some (.mapN nl ks ag m bs ck))(hf:s.fresh id=true) :
  Local P ctx ⟨some id,.range t x,ty,pos,after,gd⟩ s (s.newO id (.iterO mid bs ck []) (.ref id 0)):=
 yA (o:=⟨some id,.range t x,ty,pos,after,gd⟩) fun a w g hg=>by
  have h:=hg.ev hx;have hne:mid≠id:=fun e=>by subst e;rw[UO hf] at hl;cases hl
  generalize hv:a.eval x=v at h
  cases h with
  | mpNil _ hgn=>
   cases hg.objs mid _ hl with
   | mapN _ _ _ _ _ blk' n' es h' hh hm=>rw[hgn] at h';cases h'
   | mapNil=>
    refine⟨_,_,?_,Wi (o:=⟨some id,.range t x,ty,pos,after,gd⟩) rfl hf hg (it:=.mapIter none 0 #[] 0) fun w' g' S' _ _ h1 h2 h3=>.iterON mid ck w.heap.size 0 h2 h3 (by rw[h1 mid hne];exact hgn)⟩;simp[execOp,hv,Instr.range,run_underlying hu,Result.andThen]
  | mp _ blk n hgi=>
   cases hg.objs mid _ hl with
   | mapNil _ _ _ h'=>rw[hgi] at h';cases h'
   | mapN _ _ _ _ _ blk' n' es h' hh hm=>
    rw[hgi] at h';cases h';refine⟨_,_,?_,Wi (o:=⟨some id,.range t x,ty,pos,after,gd⟩) rfl hf hg (it:=.mapIter (some blk) ck #[] ck) fun w' g' S' _ _ h1 h2 h3=>.iterO mid bs ck [] w.heap.size 0 blk n h2 h3 (by rw[h1 mid hne];exact hgi)⟩;simp[execOp,hv,Instr.range,run_underlying hu,MapKept.run_getObj_map hh,Result.andThen]
section
variable{ops:Array Oper}{rest:List Oper}{it:Operand}{L:List Nat}{mid:Nat}
theorem PWl.nextN(hx:s.ev it=some (.ref id 0))(hl:look s.objs id=some (.iterO mid bs ck L))(hlm:look s.objs mid=some (.mapN nl ks ag m bs ck))(hL:∀ i∈L,i < m.length)(hgd:gd=none)
  (hdone:(∀ i,i < m.length->i∈L)->PWl P ctx ops Q rest (s.putD dst (.tup [.d (.v (.bool false))])))
  (hstep:∀ i,i < m.length->i∉L->PWl P ctx ops Q rest ((s.setO id (.iterO mid bs ck (L++[i]))).putD dst (.tup [.d (.v (.bool true)),.junk,.junk]))) :
  PWl P ctx ops Q (⟨dst,.next it false,ty,pos,after,gd⟩::rest) s:=by
 have hne:mid≠id:=fun e=>by subst e;rw[hl] at hlm;cases hlm
 cases nl with
 | false=>
  have hb:∀ (t:PState) (t':PState),t.n=t'.n->t.sl=t'.sl->look t.objs mid=some (.map ks ag m bs ck)->look t'.objs mid=some (.mapN false ks ag m bs ck)->(∀ j,j≠mid->look t.objs j=look t'.objs j)->Sub ctx t t':=fun t t' h1 h2 h3 h4 h5=>by
   intro a w hr;have:=Sub.mapToN h3 a w hr;refine Sub.drop (s:={ t with objs:=zi mid (.mapN false ks ag m bs ck) t.objs }) (t:=t') h1 (fun i p hp=>?_) (fun j o ho=>?_) a w this
   ·unfold PState.at at hp ⊢;rw[h1,h2];exact hp
   ·show look (zi mid _ t.objs) j=some o;rw[zC]
    by_cases e:j=mid
    ·subst e;rw[if_pos rfl,<- h4];exact ho
    ·rw[if_neg e,h5 j e];exact ho
  refine PWl.sub (Sub.mapF hlm rfl) (PWl.nextO (mid:=mid) hx (by show look (zi mid _ s.objs) id=_;rw[zC,if_neg (Ne.symm hne)];exact hl) (by show look (zi mid _ s.objs) mid=_;rw[zC,if_pos rfl]) hL hgd (fun hd=>PWl.sub (hb _ _ ?_ ?_ ?_ ?_ ?_) (hdone hd)) (fun i hi hn=>PWl.sub (hb _ _ ?_ ?_ ?_ ?_ ?_) (hstep i hi hn)))
  ·cases dst <;> rfl
  ·cases dst <;> rfl
  ·cases dst <;> (show look (zi mid _ s.objs) mid=_;rw[zC,if_pos rfl])
  ·cases dst <;> exact hlm
  ·intro j hj;cases dst <;> (show look (zi mid _ s.objs) j=_;rw[zC,if_neg hj];rfl)
  ·cases dst <;> rfl
  ·cases dst <;> rfl
  ·cases dst <;> (show look (zi id _ (zi mid _ s.objs)) mid=_;rw[zC,if_neg hne,zC,if_pos rfl])
  ·cases dst <;> (show look (zi id _ s.objs) mid=_;rw[zC,if_neg hne];exact hlm)
  ·intro j hj;cases dst <;> (show look (zi id _ (zi mid _ s.objs)) j=look (zi id _ s.objs) j;rw[zC,zC,zC,if_neg hj])
 | true=>
  rintro a w ⟨g,hg⟩;have hr:=hg.ev hx
  generalize hv:a.eval it=v at hr
  refine wpList_plain hgd fun K hK=>?_
  cases hr with
  | ref _ _ blk n hgi=>
   cases hg.objs mid _ hlm with
   | mapNil _ _ _ hgm=>
    cases hg.objs id _ hl with
    | iterO _ _ _ _ blk' n' b n2 h' hh hgm2=>rw[hgm] at hgm2;cases hgm2
    | iterON _ _ blk' n' h' hh _=>
     rw[hgi] at h';cases h';have hrun:(execOp a.eval ⟨dst,.next it false,ty,pos,after,gd⟩).run P w=.ok (.value (.tuple #[.bool false])) w:=by
      have hgr:(getObj blk).run P w=.ok (.mapIter none 0 #[] 0) w:=by simp[getObj,Sem.run,hh]
      simp only[execOp,hv,Instr.next,Sem.run_bind,hgr,Result.andThen_ok,Sem.run_pure]
     unfold Oper.wp;rw[hrun];exact hK _ _ (hdone (by simp) _ _ ⟨g,hg.put dst (.tup [.d (.v (.bool false))] [.bool false] rfl (fun i p u hp hu=>by
      cases i with
      | zero=>simp at hp hu;subst hp;subst hu;exact .d (.v _ rfl)
      | succ i=>simp at hp))⟩)
theorem LR.entryN{i:Nat}{ns:List Int}{cs:List DV}{kp p:PV}(hx:s.ev it=some (.ref id 0))(hl:look s.objs id=some (.iterO mid bs ck (L++[i])))(hlm:look s.objs mid=some (.mapN nl ks ag m bs ck))(hi:m[i]?=some (ns,cs))(hkp:Jw ks ns=kp)(hp:elP ag cs=p) :
  Local P ctx ⟨dst,.entry it,ty,pos,after,gd⟩ s (s.putD dst (.tup [kp,p])):=by
 have hne:mid≠id:=fun e=>by subst e;rw[hl] at hlm;cases hlm
 cases nl with
 | true=>
  refine zD (o:=⟨dst,.entry it,ty,pos,after,gd⟩) fun a w g hg=>?_
  cases hg.objs mid _ hlm with
  | mapNil=>simp at hi
 | false=>
  refine zD (o:=⟨dst,.entry it,ty,pos,after,gd⟩) fun a w g hg=>?_
  have hr:=hg.ev hx
  generalize hv:a.eval it=v at hr
  cases hr with
  | ref _ _ blk n hgi=>
   have hob:=hg.objs id _ hl
   generalize hLL:L++[i]=LL at hob
   cases hob with
   | iterON=>simp at hLL
   | iterO _ _ _ _ blk' n' b n2 h' hh hgm=>
    subst hLL;rw[hgi] at h';cases h'
    cases hg.objs mid _ hlm with
    | mapN _ _ _ _ _ bm nm es hgm2 hb2 hm=>
     rw[hgm] at hgm2;cases hgm2;obtain⟨e,us,g1,g2,g3,g4,g5,g6,g7,g8⟩:=hm.ent i ns cs hi;have:=JN (P:=P) hh hb2 hm.stamps hm.nodup g1;refine⟨.tuple [e.key,e.val].toArray,by simp only[execOp,hv,Sem.run_bind,this,Result.andThen_ok,Sem.run_pure],.tup _ [e.key,e.val] rfl (fun j p' u hp' hu=>?_)⟩;subst hkp;subst hp
     match j with
     | 0=>simp at hp' hu;subst hp';subst hu;rw[g2];exact yFa w g _ ks ns
     | 1=>simp at hp' hu;subst hp';subst hu;rw[g3];exact yEa g4 g5 g6 g8
     | _+2=>simp at hp'
end
end
section
variable{P:Program}{ctx:Ctx}{Q:PQ}{s:PState}
variable{dst:Option Tmp}{ty:TypeId}{pos:String}{after:Array Edge}{gd:Option (Nat×Bool)}
variable{κ ν:Type}[DecidableEq κ]{eK:κ->List Int}{eV:ν->List DV}{m:List (κ×ν)}{q:κ}{zv:ν}(inj:∀ a b,eK a=eK b->a=b)
variable{x kx:Operand}{t kt et:TypeId}{ks:List IntKind}{ag:Bool}{z:Value}{p kp:PV}{id:Nat}{nl:Bool}{bs:List Nat}{ck:Nat}
section
variable(hu:P.underlying t=some (.map kt et))(K:KeyOK P kt ks)(hz:∀ w,(zeroValue et).run P w=.ok z w)(hzr:∀ (w:World) (g:zR) (S:Nat->Prop),Rd w g S (elP ag (eV zv)) z)(hk:s.ev kx=some kp)(hkp:kp=Jw ks (eK q))(hn:(eK q).length=ks.length)(hp:elP ag (eV (AL.getZ m q zv))=p)
include inj hu K hz hzr hk hkp hn hp
theorem LR.getOkN(hx:s.ev x=some (.mp id))(hl:look s.objs id=some (.mapN nl ks ag (zI eK eV m) bs ck)):Local P ctx ⟨dst,.lookup t x kx true,ty,pos,after,gd⟩ s (s.putD dst (.tup [p,.d (.v (.bool (AL.has m q)))])):=by
 have:=LR.lookupOkN (P:=P) (ctx:=ctx) (dst:=dst) (ty:=ty) (pos:=pos) (after:=after) (gd:=gd) (p:=p) hu K hz hzr (by rw[hk,hkp]) hn (by rw[Zb inj,Ux];exact hp) hx hl;rw[Zb inj,Option.isSome_map] at this;exact this
end
include inj in
theorem LR.delN{ats:Array TypeId}(hu:P.underlying t=some (.map kt et))(K:KeyOK P kt ks)(hx:s.ev x=some (.mp id))(hl:look s.objs id=some (.mapN nl ks ag (zI eK eV m) bs ck))(hk:s.ev kx=some kp)(hkp:kp=Jw ks (eK q))(hn:(eK q).length=ks.length)(hats:ats[0]?=some t) :
  Local P ctx ⟨dst,.call ⟨.builtin .delete,#[x,kx],ats⟩,ty,pos,after,gd⟩ s ((s.setO id (.mapN nl ks ag (zI eK eV (AL.del m q)) (bdel (zI eK eV m) (eK q) bs) ck)).putD dst (.tup [])):=by
 have:=LR.deleteN (P:=P) (ctx:=ctx) (dst:=dst) (ty:=ty) (pos:=pos) (after:=after) (gd:=gd) hats hu K hx hl (by rw[hk,hkp]) hn
 rwa [yIa inj] at this
end
section
variable{ctx:Ctx}{s:PState}
theorem Sub.moveMap{id1 id2 j:Nat}{ks:List IntKind}{ag:Bool}{m m1:List (List Int×List DV)}{bs bs1:List Nat}{ck ck1:Nat}(hj:s.at j=some (.mp id2))(h1:look s.objs id1=some (.mapN true ks ag m1 bs1 ck1))(h2:look s.objs id2=some (.map ks ag m bs ck))(ha:s.alone id1=true) :
  Sub ctx s { n:=s.n,sl:=(j,.mp id1)::s.sl,objs:=zi id1 (.map ks ag m bs ck) (uL id2 s.objs) }:=by
 rintro a w ⟨g,h⟩;have hlk:∀ {i:Nat} {o:Ob},look (zi id1 (.map ks ag m bs ck) (uL id2 s.objs)) i=some o->(i=id1/\o=.map ks ag m bs ck)\/(i≠id1/\i≠id2/\look s.objs i=some o):=fun {i o} hi=>by
  rw[zC] at hi
  by_cases e:i=id1
  ·rw[if_pos e] at hi;cases hi;exact .inl ⟨e,rfl⟩
  ·rw[if_neg e,yb] at hi
   split at hi
   ·cases hi
   ·rename_i e2;exact .inr ⟨e,e2,hi⟩
 have hg1:g id1=none:=by
  cases h.objs id1 _ h1 with
  | mapNil _ _ _ hn=>exact hn
 have hF:∀ b,zZ ctx g s.objs b->zZ ctx (upd g id1 (g id2)) (zi id1 (.map ks ag m bs ck) (uL id2 s.objs)) b:=fun b ⟨f1,f2⟩=>⟨f1,fun i o n hi hgi=>by
  rcases hlk hi with⟨e,_⟩ | ⟨e1,e2,e3⟩
  ·subst e;rw[zF] at hgi;exact f2 id2 _ n h2 hgi
  ·rw[zh e1] at hgi;exact f2 i o n e3 hgi⟩
 have hst:zx w w (zZ ctx g s.objs):=⟨Nat.le_refl _,fun _ _ _=>rfl⟩
 refine⟨upd g id1 (g id2),⟨h.defers,h.size,?_,?_,?_,?_,h.os,h.tape,h.output,h.grows,h.keep⟩⟩
 ·intro i p hp;have hlt:=Yp hp;have hp2:=xI hp;simp only[zo] at hp2
  by_cases e:j=i
  ·subst e;rw[if_pos rfl] at hp2
   cases hp2
   have hr:=h.slots j _ hj
   generalize hv:a.tmps.getD j undef=v at hr
   cases hr with
   | mpNil _ hgn=>
    cases h.objs id2 _ h2 with
    | map _ _ _ _ _ blk' n' es h' hh hm=>rw[hgn] at h';cases h'
   | mp _ blk n hgi=>exact .mp id1 blk n (by rw[zF];exact hgi)
  ·rw[if_neg e] at hp2;have hs:s.at i=some p:=Xw hlt hp2;exact(h.slots i p hs).keep hst (fun b hb _=>hF b hb) (fun k hk=>zh fun e2=>by subst e2;rw[UP ha hs] at hk;cases hk)
 ·intro i o hi;rcases hlk hi with⟨e,e2⟩ | ⟨e1,e2,e3⟩
  ·subst e;subst e2
   cases h.objs id2 _ h2 with
   | map _ _ _ _ _ blk n es hgi hh hm=>exact .map ks ag m bs ck blk n es (by rw[zF];exact hgi) hh (hm.keep hst (fun b hb _=>hF b hb))
  ·exact(h.objs i o e3).keep hst (fun b hb _=>hF b hb) (fun _ _ _=>rfl) (zh e1) (fun k hk=>zh fun e4=>by subst e4;rw[JF ha e3] at hk;cases hk)
 ·intro i i2 o o2 b n n2 hi hi2 hgi hgi2;rcases hlk hi with⟨e,_⟩ | ⟨e1,e2,e3⟩ <;> rcases hlk hi2 with⟨f,_⟩ | ⟨f1,f2,f3⟩
  ·exact e.trans f.symm
  ·subst e;rw[zF] at hgi;rw[zh f1] at hgi2;exact absurd (h.inj id2 i2 _ o2 b n n2 h2 f3 hgi hgi2).symm f2
  ·subst f;rw[zF] at hgi2;rw[zh e1] at hgi;exact absurd (h.inj i id2 o _ b n n2 e3 h2 hgi hgi2) e2
  ·rw[zh e1] at hgi;rw[zh f1] at hgi2;exact h.inj i i2 o o2 b n n2 e3 f3 hgi hgi2
 ·intro i o b n hi hgi;rcases hlk hi with⟨e,_⟩ | ⟨e1,e2,e3⟩
  ·subst e;rw[zF] at hgi;exact h.own id2 _ b n h2 hgi
  ·rw[zh e1] at hgi;exact h.own i o b n e3 hgi
end
end Go.Ep
namespace Go.Ep
open Go.RowKit
def vn(m:List (List Int×Value)):Mp:=m.map fun x=>(x.1,[])
theorem JT{m:List (List Int×Value)}{i:Nat}{ns:List Int}{c:List DV}(h:(vn m)[i]?=some (ns,c)):∃ p,m[i]?=some (ns,p):=by
 unfold vn at h;rw[List.getElem?_map] at h
 cases hm:m[i]? with
 | none=>rw[hm] at h;cases h
 | some x=>rw[hm] at h;simp only[Option.map_some,Option.some.injEq,Prod.mk.injEq] at h;exact⟨x.2,by rw[<- h.1]⟩
section
variable{P:Program}{ctx:Ctx}{Q:PQ}{s:PState}
variable{dst:Option Tmp}{ty:TypeId}{pos:String}{after:Array Edge}{gd:Option (Nat×Bool)}
theorem RelG.reread{g:zR}{a:Act}{w:World}(h1:RelG ctx g s a w){id:Nat}{o0 ob:Ob}(hl:look s.objs id=some o0){objs':List (Nat×Ob)}(ho':∀ i,look objs' i=if i=id then some ob else look s.objs i)
  (hr:∀ S,ObRd w g S id o0->ObRd w g S id ob):RelG ctx g { s with objs:=objs' } a w:=by
 have hF:∀ b,zZ ctx g s.objs b->zZ ctx g objs' b:=fun b hb=>⟨hb.1,fun i o n ho hgi=>by
  rw[ho'] at ho
  by_cases ei:i=id
  ·subst ei;exact hb.2 i _ n hl hgi
  ·rw[if_neg ei] at ho;exact hb.2 i o n ho hgi⟩
 have hst:zx w w (zZ ctx g s.objs):=⟨Nat.le_refl _,fun _ _ _=>rfl⟩
 refine⟨h1.defers,h1.size,fun i p hp=>(h1.slots i p hp).keep hst (fun b hb _=>hF b hb) (fun _ _=>rfl),fun i o ho=>?_,fun i i2 o o2 b n m ho ho2 hgi hgi2=>?_,fun i o b n ho hgi=>?_,h1.os,h1.tape,h1.output,h1.grows,h1.keep⟩
 ·simp only[ho'] at ho
  by_cases ei:i=id
  ·subst ei;rw[if_pos rfl] at ho
   cases ho
   exact hr _ ((h1.objs i _ hl).keep hst (fun b hb _=>hF b hb) (fun _ _ _=>rfl) rfl (fun _ _=>rfl))
  ·rw[if_neg ei] at ho;exact(h1.objs i o ho).keep hst (fun b hb _=>hF b hb) (fun _ _ _=>rfl) rfl (fun _ _=>rfl)
 ·simp only[ho'] at ho ho2;have key:∀ q o,(if q=id then some ob else look s.objs q)=some o->∃ o',look s.objs q=some o':=fun q o hq=>by
   by_cases eq:q=id
   ·subst eq;exact⟨_,hl⟩
   ·rw[if_neg eq] at hq;exact⟨o,hq⟩
  obtain⟨p1,q1⟩:=key i o ho;obtain⟨p2,q2⟩:=key i2 o2 ho2;exact h1.inj i i2 p1 p2 b n m q1 q2 hgi hgi2
 ·simp only[ho'] at ho
  by_cases ei:i=id
  ·subst ei;exact h1.own i _ b n hl hgi
  ·rw[if_neg ei] at ho;exact h1.own i o b n ho hgi
theorem Yt(id:Nat)(ob:Ob)(l:List (Nat×Ob))(i:Nat):look (zi id ob (uL id l)) i=if i=id then some ob else look l i:=by
 rw[zC,yb]
 by_cases h:i=id <;> simp[h]
theorem jA{id:Nat}:∀ {l:List (Nat×Ob)} {x:Nat×Ob},x∈uL id l->x.1≠id/\x∈l
 | [],x,h=>by simp[uL] at h
 | (k,p)::r,x,h=>by
  unfold uL at h
  by_cases e:id=k
  ·rw[if_pos e] at h;have:=jA h;exact⟨this.1,List.mem_cons_of_mem _ this.2⟩
  ·rw[if_neg e] at h;rcases List.mem_cons.1 h with h | h
   ·subst h;exact⟨Ne.symm e,List.mem_cons_self⟩
   ·have:=jA h;exact⟨this.1,List.mem_cons_of_mem _ this.2⟩
theorem ObRd.junkP{w:World}{g:zR}{S:Nat->Prop}{id:Nat}{ks:List IntKind}{m:List (List Int×Value)}{j:Nat}{p:PV}{bs:List Nat}{ck:Nat}(h:ObRd w g S id (.mapP ks m (some (j,p)) bs ck)):ObRd w g S id (.mapP ks m (some (j,.junk)) bs ck):=by
 cases h with
 | mapP _ _ _ _ _ blk n es h hh hsz hst hbl hnd hent hov=>
  refine .mapP ks m _ bs ck blk n es h hh hsz hst hbl hnd (fun i ns u hi=>?_) fun j' p' hj=>?_
  ·obtain⟨e,h1,h2,h3,h4,h5⟩:=hent i ns u hi;refine⟨e,h1,h2,h3,h4,fun hne=>h5 fun q hq=>?_⟩
   cases hq
   exact hne .junk rfl
  ·cases hj
   obtain⟨e,h1,h2⟩:=hov j p rfl;exact⟨e,h1,.junk _⟩
section
variable{x kx:Operand}{t kt et:TypeId}{ks:List IntKind}{m:List (List Int×Value)}{ns:List Int}{bs:List Nat}{ck id:Nat}{ov:Option (Nat×PV)}
theorem XR{es:Array MapEntry}
  (hent:∀ (i:Nat) (ns:List Int) (u:Value),m[i]?=some (ns,u)->∃ e,es[i]?=some e/\e.key=ve ks ns/\ns.length=ks.length/\e.val.oneCell'=true/\((∀ p,ov≠some (i,p))->e.val=u)) :
  ∀ (i:Nat) (e:MapEntry) (nn:List Int) (c:List DV),es.toList[i]?=some e->(vn m)[i]?=some (nn,c)->e.key=ve ks nn/\nn.length=ks.length:=fun i e nn c h1 h2=>by
 obtain⟨q,hq⟩:=JT h2;obtain⟨e',g1,g2,g3,_⟩:=hent i nn q hq;have:e'=e:=by simp at h1;rw[g1] at h1;cases h1;rfl
 subst this;exact⟨g2,g3⟩
variable(hu:P.underlying t=some (.map kt et))(K:KeyOK P kt ks)(hx:s.ev x=some (.mp id))(hl:look s.objs id=some (.mapP ks m ov bs ck))(hk:s.ev kx=some (Jw ks ns))(hn:ns.length=ks.length)
include hu K hx hl hk hn
theorem LR.lookupP{j:Nat}{p:PV}(hj:yY ns (vn m) 0=some j)(hp:ov=some (j,p)):Local P ctx ⟨dst,.lookup t x kx false,ty,pos,after,gd⟩ s (s.putD dst p):=
 zD (o:=⟨dst,.lookup t x kx false,ty,pos,after,gd⟩) fun a w g hg=>by
  have h:=hg.ev hx
  generalize hv:a.eval x=v at h
  cases h with
  | mpNil _ hgn=>
   cases hg.objs id _ hl with
   | mapP _ _ _ _ _ blk' n' es h' hh hsz hst hbl hnd hent hov=>rw[hgn] at h';cases h'
  | mp _ blk n hgi=>
   cases hg.objs id _ hl with
   | mapP _ _ _ _ _ blk' n' es h' hh hsz hst hbl hnd hent hov=>
    rw[hgi] at h';cases h';have hf:=K.find w ns (vn m) es.toList hn (by simpa[vn] using hsz) (XR hent);obtain⟨e,g1,g5⟩:=hov j p hp;have he:es.toList[j]?=some e:=by simpa using g1
    rw[hj] at hf;simp only[Option.bind_some,he,Option.map_some] at hf;refine⟨e.val,?_,g5⟩;simp only[execOp,hv,vG (hg.ev hk),Instr.lookup,Sem.run_bind,run_underlying hu,Result.andThen_ok,MapKept.run_getObj_map hh,Sem.run_pure,K.check w _ ns hn,hf]
    rfl
theorem LR.lookupPN{z:Value}(hz:∀ w,(zeroValue et).run P w=.ok z w)(h1:z.oneCell'=true)(hj:yY ns (vn m) 0=none):Local P ctx ⟨dst,.lookup t x kx false,ty,pos,after,gd⟩ s (s.putD dst (.d (.v z))):=
 zD (o:=⟨dst,.lookup t x kx false,ty,pos,after,gd⟩) fun a w g hg=>by
  have h:=hg.ev hx
  generalize hv:a.eval x=v at h
  cases h with
  | mpNil _ hgn=>
   cases hg.objs id _ hl with
   | mapP _ _ _ _ _ blk' n' es h' hh hsz hst hbl hnd hent hov=>rw[hgn] at h';cases h'
  | mp _ blk n hgi=>
   cases hg.objs id _ hl with
   | mapP _ _ _ _ _ blk' n' es h' hh hsz hst hbl hnd hent hov=>
    rw[hgi] at h';cases h';have hf:=K.find w ns (vn m) es.toList hn (by simpa[vn] using hsz) (XR hent);rw[hj] at hf;simp only[Option.bind_none] at hf;refine⟨z,?_,.d (.v z h1)⟩;simp only[execOp,hv,vG (hg.ev hk),Instr.lookup,Sem.run_bind,run_underlying hu,Result.andThen_ok,MapKept.run_getObj_map hh,Sem.run_pure,K.check w _ ns hn,hf,hz]
    rfl
omit hu K hx hl hk hn in
theorem yRa{w:World}{g:zR}{S:Nat->Prop}{q n:Nat}{u:Value}(h:Rd w g S (.row q n) u):u.oneCell'=true:=by cases h <;> rfl
theorem LR.mapUpdateP{vx:Operand}{j q nn:Nat}{p:PV}(hov:ov=some (j,p))(hv:s.ev vx=some (.row q nn))(hj:yY ns (vn m) 0=some j):Local P ctx ⟨none,.mapUpdate t x kx vx,ty,pos,after,gd⟩ s (s.setO id (.mapP ks m (some (j,.row q nn)) bs ck)):=by
 subst hov;refine ud (o:=⟨none,.mapUpdate t x kx vx,ty,pos,after,gd⟩) fun a w g hg=>?_
 have h:=hg.ev hx
 generalize hxv:a.eval x=v at h
 cases h with
 | mpNil _ hgn=>
  cases hg.objs id _ hl with
  | mapP _ _ _ _ _ blk' n' es h' hh hsz hst hbl hnd hent hov=>rw[hgn] at h';cases h'
 | mp _ blk n hgi=>
  cases hg.objs id _ hl with
  | mapP _ _ _ _ _ blk' n' es h' hh hsz hst hbl hnd hent hov=>
   rw[hgi] at h';cases h';have hf:=K.find w ns (vn m) es.toList hn (by simpa[vn] using hsz) (XR hent);obtain⟨k,hjk,cs0,h2,h3⟩:=Za ns (vn m) 0 j hj;have:j=k:=by omega
   subst this;obtain⟨p0,hp0⟩:=JT h2;obtain⟨e0,g1,g2,g3,g4,g5⟩:=hent j ns p0 hp0;have he:es.toList[j]?=some e0:=by simpa using g1
   rw[hj] at hf;simp only[Option.bind_some,he,Option.map_some] at hf;have hvr:=hg.ev hv
   generalize hu':a.eval vx=u at hvr
   have hsame:(Instr.keyThatStays (((es[j]?).map (·.key)).getD (ve ks ns)) (ve ks ns)).run P w=.ok (ve ks ns) w:=by
    simp only[g1,Option.map_some,Option.getD_some,g2,Instr.keyThatStays,WU,if_true,Sem.run_pure]
   have hrun:(Instr.mapUpdate t (.map (some blk)) (ve ks ns) u).run P w=.ok () { w with heap:=w.heap.setIfInBounds blk (.map (es.modify j fun e=>{ e with key:=ve ks ns,val:=u }) ck) }:=by
    simp only[Instr.mapUpdate,Sem.run_bind,run_underlying hu,Result.andThen_ok,MapKept.run_getObj_map hh,K.check w _ ns hn,hf,hsame];exact MapKept.run_setObj_map _ hh
   refine⟨_,by simp only[execOp,hxv,vG (hg.ev hk),hu',Sem.run_bind,hrun,Result.andThen_ok,Sem.run_pure];rfl,g,?_⟩;have hown:=hg.own id _ blk n hl hgi;have hother:∀ k,k < w.heap.size->k≠blk->({ w with heap:=w.heap.setIfInBounds blk (.map (es.modify j fun e=>{ e with key:=ve ks ns,val:=u }) ck) }:World).heap[k]?=w.heap[k]?:=fun k _ hne=>uf w blk k _ hne
   have hst':zx w { w with heap:=w.heap.setIfInBounds blk (.map (es.modify j fun e=>{ e with key:=ve ks ns,val:=u }) ck) } (zZ ctx g s.objs):=⟨by simp,fun b ⟨_,h2⟩ hlt=>hother b hlt fun e=>by subst e;exact h2 id _ n hl hgi⟩
   refine hg.wrote hl hgi rfl rfl rfl (by simp) hother hown.2 (.mapP ks _ _ bs ck blk n (es.modify j fun e=>{ e with key:=ve ks ns,val:=u }) hgi (YB w blk _ hown.1) (by simp[hsz]) ?_ hbl hnd (fun i nn' u' hi=>?_) fun j' p' hj'=>?_)
   ·rw[hst];apply List.ext_getElem?;intro i;simp only[List.getElem?_map,Array.getElem?_toList,Array.getElem?_modify]
    by_cases hij:j=i
    ·subst hij;simp[g1]
    ·simp[hij]
   ·by_cases hij:i=j
    ·subst hij;rw[hp0] at hi
     cases hi
     exact⟨_,by rw[Array.getElem?_modify,if_pos rfl,g1];rfl,rfl,hn,yRa hvr,fun hne=>(hne _ rfl).elim⟩
    ·obtain⟨e,q1,q2,q3,q4,q5⟩:=hent i nn' u' hi;exact⟨e,by rw[Array.getElem?_modify,if_neg (Ne.symm hij)];exact q1,q2,q3,q4,fun _=>q5 fun p hp=>by cases hp;exact hij rfl⟩
   ·cases hj'
    exact⟨_,by rw[Array.getElem?_modify,if_pos rfl,g1];rfl,hvr.keep hst' (fun b hb _=>xL hl b hb) (fun _ _=>rfl)⟩
theorem LR.mapUpdatePN{vx:Operand}{q nn:Nat}(hov:ov=none)(hv:s.ev vx=some (.row q nn))(hj:yY ns (vn m) 0=none):Local P ctx ⟨none,.mapUpdate t x kx vx,ty,pos,after,gd⟩ s (s.setO id (.mapP ks (m++[(ns,undef)]) (some (m.length,.row q nn)) (bs++[ck]) (ck+1))):=by
 subst hov;refine ud (o:=⟨none,.mapUpdate t x kx vx,ty,pos,after,gd⟩) fun a w g hg=>?_
 have h:=hg.ev hx
 generalize hxv:a.eval x=v at h
 cases h with
 | mpNil _ hgn=>
  cases hg.objs id _ hl with
  | mapP _ _ _ _ _ blk' n' es h' hh hsz hst hbl hnd hent hov=>rw[hgn] at h';cases h'
 | mp _ blk n hgi=>
  cases hg.objs id _ hl with
  | mapP _ _ _ _ _ blk' n' es h' hh hsz hst hbl hnd hent hov=>
   rw[hgi] at h';cases h';have hf:=K.find w ns (vn m) es.toList hn (by simpa[vn] using hsz) (XR hent);rw[hj] at hf;simp only[Option.bind_none] at hf;have hvr:=hg.ev hv
   generalize hu':a.eval vx=u at hvr
   have hrun:(Instr.mapUpdate t (.map (some blk)) (ve ks ns) u).run P w=.ok () { w with heap:=w.heap.setIfInBounds blk (.map (es.push { key:=ve ks ns,val:=u,born:=ck }) (ck+1)) }:=by
    simp only[Instr.mapUpdate,Sem.run_bind,run_underlying hu,Result.andThen_ok,MapKept.run_getObj_map hh,K.check w _ ns hn,hf];exact MapKept.run_setObj_map _ hh
   refine⟨_,by simp only[execOp,hxv,vG (hg.ev hk),hu',Sem.run_bind,hrun,Result.andThen_ok,Sem.run_pure];rfl,g,?_⟩;have hown:=hg.own id _ blk n hl hgi;have hother:∀ k,k < w.heap.size->k≠blk->({ w with heap:=w.heap.setIfInBounds blk (.map (es.push { key:=ve ks ns,val:=u,born:=ck }) (ck+1)) }:World).heap[k]?=w.heap[k]?:=fun k _ hne=>uf w blk k _ hne
   have hst':zx w { w with heap:=w.heap.setIfInBounds blk (.map (es.push { key:=ve ks ns,val:=u,born:=ck }) (ck+1)) } (zZ ctx g s.objs):=⟨by simp,fun b ⟨_,h2⟩ hlt=>hother b hlt fun e=>by subst e;exact h2 id _ n hl hgi⟩
   refine hg.wrote hl hgi rfl rfl rfl (by simp) hother hown.2 (.mapP ks _ _ (bs++[ck]) (ck+1) blk n (es.push { key:=ve ks ns,val:=u,born:=ck }) hgi (YB w blk _ hown.1) (by simp[hsz]) (by simp[hst]) ?_ ?_ (fun i nn' u' hi=>?_) fun j' p' hj'=>?_)
   ·intro b hb;rcases List.mem_append.1 hb with h | h
    ·have:=hbl b h;omega
    ·simp at h;omega
   ·rw[List.nodup_append];refine⟨hnd,by simp,fun b hb c hc=>?_⟩;simp at hc;have:=hbl b hb;omega
   ·rw[List.getElem?_append] at hi
    split at hi
    ·rename_i hlt
     obtain⟨e,q1,q2,q3,q4,q5⟩:=hent i nn' u' hi;exact⟨e,by rw[Array.getElem?_push,if_neg (by rw[hsz];omega)];exact q1,q2,q3,q4,fun _=>q5 fun p hp=>by cases hp⟩
    ·rename_i hge
     have hi0:i=m.length:=by
      have:i - m.length < 1:=by simpa using (List.getElem?_eq_some_iff.1 hi).1
      omega
     subst hi0;simp at hi;obtain⟨rfl,rfl⟩:=hi;exact⟨_,by rw[Array.getElem?_push,if_pos hsz.symm],rfl,hn,yRa hvr,fun hne=>(hne _ rfl).elim⟩
   ·cases hj'
    exact⟨_,by rw[Array.getElem?_push,if_pos hsz.symm],hvr.keep hst' (fun b hb _=>xL hl b hb) (fun _ _=>rfl)⟩
end
end
section
variable{P:Program}{ctx:Ctx}{ops:Array Oper}{Q:PState->Prop}{s:PState}
variable{dst:Option Tmp}{ty:TypeId}{pos:String}{after:Array Edge}{gd:Option (Nat×Bool)}
theorem Local.post{o:Oper}{t u:PState}(h:Local P ctx o s t)(hs:Sub ctx t u):Local P ctx o s u:=fun a w hr K Qx hK=>h a w hr K Qx fun a' w' h'=>hK a' w' (hs a' w' h')
theorem Local.pre{o:Oper}{t u:PState}(hs:Sub ctx s t)(h:Local P ctx o t u):Local P ctx o s u:=fun a w hr K Qx hK=>h a w (hs a w hr) K Qx hK
section
variable{α:Type}{enc:α->List DV}{L R:List α}{x y:Operand}{id mid m k bs':Nat}{t t' e e':TypeId}{ks:List IntKind}{mm:List (List Int×Value)}{j:Nat}{p:PV}{bs:List Nat}{ck:Nat}
theorem LR.appP(js:List Nat)(hE:ElemOK P t e k bs')(hu':P.underlying t'=some (.slice e'))(hx:s.ev x=some (.row id m))(hm:m=L.length)(hl:look s.objs id=some (.row e k (L.map enc)))
  (hlm:look s.objs mid=some (.mapP ks mm (some (j,p)) bs ck)) (hne:Nat.beq id mid=false)
  (hy:∀ s':PState,s'.n=s.n->s'.sl=s.sl->Src ctx s' y (R.map enc) k) (hk:∀ x,(enc x).length=k) (hb:(L.length+R.length)*bs'<=140737488355328) (h1:Nat.ble 1 bs'=true) (ha:(s.junks js).aloneX id [mid]=true) :
  Local P ctx ⟨dst,.call ⟨.builtin .append,#[x,y],#[t,t']⟩,ty,pos,after,gd⟩ s ((((s.junks js).setO mid (.mapP ks mm (some (j,.junk)) bs ck)).setO id (.row e k ((L++R).map enc))).putD dst (.row id (L++R).length)):=by
 have hne':id≠mid:=fun e=>by rw[e] at hne;simp at hne
 let s2:PState:={ s with objs:=zi mid (.mapP ks mm (some (j,.junk)) bs ck) (uL mid s.objs) }
 have hsub:Sub ctx s s2:=fun a w ⟨g,hg⟩=>⟨g,hg.reread hlm (Yt _ _ _) fun S h=>h.junkP⟩
 have hj2:∀ js,(s2.junks js).sl=(s.junks js).sl:=fun js=>by rw[xF,xF]
 have ha2:(s2.junks js).alone id=true:=by
  unfold PState.aloneX at ha;unfold PState.alone;rw[hj2 js];rw[Bool.and_eq_true] at ha ⊢;refine⟨ha.1,List.all_eq_true.2 fun q hq=>?_⟩;rw[zw] at hq;have h2:=List.all_eq_true.1 ha.2;obtain⟨qk,qo⟩:=q;rcases Wm hq with h3 | h3
  ·cases h3;rfl
  ·have h4:=jA h3;have h5:=h2 (qk,qo) (by rw[zw];exact h4.2);have h6:inL [mid] qk=false:=by
    rw[vl];simpa using h4.1
   simpa[h6] using h5
 have hl2:look s2.objs id=some (.row e k (L.map enc)):=by
  show look (zi _ _ _) _=_;rw[Yt,if_neg hne'];exact hl
 refine Local.pre hsub ((LR.appT (enc:=enc) (L:=L) (R:=R) (s:=s2) js hE hu' (by cases x <;> exact hx) hm hl2 (hy s2 rfl rfl) hk hb h1 ha2).post ?_);refine Sub.drop ?_ (fun i q hq=>?_) (fun i o ho=>?_)
 ·simp only[uM];show(s2.junks js).n=(s.junks js).n;rw[Zc,Zc]
 ·have hsl:(((s2.junks js).setO id (.row e k ((L++R).map enc))).putD dst (.row id (L++R).length)).sl=((((s.junks js).setO mid (.mapP ks mm (some (j,.junk)) bs ck)).setO id (.row e k ((L++R).map enc))).putD dst (.row id (L++R).length)).sl:=by
   cases dst <;> simp[PState.putD,PState.put,PState.setO,hj2]
  have hn:(((s2.junks js).setO id (.row e k ((L++R).map enc))).putD dst (.row id (L++R).length)).n=((((s.junks js).setO mid (.mapP ks mm (some (j,.junk)) bs ck)).setO id (.row e k ((L++R).map enc))).putD dst (.row id (L++R).length)).n:=by
   simp only[uM];show(s2.junks js).n=(s.junks js).n;rw[Zc,Zc]
  rw[ZZ] at hq ⊢;rw[hsl,hn];exact hq
 ·rw[yc] at ho ⊢;simp only[PState.setO,zw] at ho ⊢;rw[zC] at ho ⊢
  by_cases hi:i=id
  ·rw[if_pos hi] at ho ⊢;exact ho
  ·rw[if_neg hi] at ho ⊢;rw[zC] at ho;show look (zi _ _ (uL _ _)) _=_;rw[Yt];exact ho
theorem PQe.stepX{o:Oper}{rest:List Oper}{f:Ft}{fs:List Ft}{p:PV}{id mid:Nat}{ob obm:Ob}(js:List Nat)(hl:∀ s':PState,(∀ {x q},xU o x=true->s.ev x=some q->s'.ev x=some q)->(∀ {id ob},inL f.ro id=true->look s.objs id=some ob->look s'.objs id=some ob)->(s'.junks js).aloneX id [mid]=true->Local P ctx o s' ((((s'.junks js).setO mid obm).setO id ob).putD o.dst p))
  (ha:inAl f.al id js=true) (hao:f.ao=[mid]) (hg:Wd ops o s) (hk:okE f ⟨WV o.dst p++(js.map fun t=>(t,PV.junk)).reverse,[(id,ob),(mid,obm)]⟩=true) (h:PQe P ctx ops Q rest fs ((((s.junks js).setO mid obm).setO id ob).putD o.dst p)):PQe P ctx ops Q (o::rest) (f::fs) s:=by
 have happ:∀ s:PState,s.app ⟨WV o.dst p++(js.map fun t=>(t,PV.junk)).reverse,[(id,ob),(mid,obm)]⟩=(((s.junks js).setO mid obm).setO id ob).putD o.dst p:=fun s=>by
  have h1:=xF js s;have h2:=Zc js s;have h3:=zw js s
  cases o.dst <;> simp[PState.app,WV,PState.putD,PState.put,PState.setO,h1,h2,h3]
 refine .step (e:=⟨WV o.dst p++(js.map fun t=>(t,PV.junk)).reverse,[(id,ob),(mid,obm)]⟩) (fun s' _ he ho _ hal=>?_) hg hk (by rw[happ];exact h);rw[happ];refine hl s' he (fun hi=>ho (zK.1 hi)) ?_;unfold inAl at ha;obtain⟨a,h1,h2⟩:=List.any_eq_true.1 ha;simp only[Bool.and_eq_true,beq_iff_eq] at h2;have:=hal a h1
 rwa [Nat.eq_of_beq_eq_true h2.1,h2.2,hao] at this
theorem LR.appNilX(hE:ElemOK P t e k bs')(hu':P.underlying t'=some (.slice e'))(hx:s.ev x=some (.d (.v (.slice none 0 0))))(hf:s.fresh id=true)
  (hy:Src ctx { s with objs:=zi id (.row e k []) s.objs } y (R.map enc) k) (hk:∀ x,(enc x).length=k) (hb:R.length*bs'<=140737488355328) (h1:Nat.ble 1 bs'=true) (ha:({ s with objs:=zi id (.row e k []) s.objs }:PState).alone id=true) :
  Local P ctx ⟨some id,.call ⟨.builtin .append,#[x,y],#[t,t']⟩,ty,pos,after,gd⟩ s (s.newO id (.row e k (R.map enc)) (.row id R.length)):=by
 rintro a w ⟨g,hg⟩ K Qx hK;have hn:=hg.new (Go.RowKit.Below.refl _ w) hf none (fun b n e=>by cases e) (.row e k []) (.rowNil e k (zF _ _ _));have h2:=Nat.le_of_ble_eq_true h1;have h3:R.length*1<=R.length*bs':=Nat.mul_le_mul_left _ h2;have hlk:look (zi id (Ob.row e k []) s.objs) id=some (.row e k []):=by rw[zC,if_pos rfl]
 have hxv:=hg.ev hx;have hxe:a.eval x=.slice none 0 0:=hxv.of_v;obtain⟨v,w',hrun,hr⟩:=VN (dst:=some id) (ty:=ty) (pos:=pos) (after:=after) (gd:=gd) (l:=[]) (n:=0) (x:=x) [] hE hu' hlk rfl hy (qE hk R) (by simpa using hb) (by simp;omega) ha hn (by rw[hxe];exact .rowNil id (zF _ _ _));unfold Oper.wp;rw[hrun];refine hK _ _ ?_;refine Sub.drop ?_ (fun i q hq=>?_) (fun i o ho=>?_) _ _ hr
 ·rfl
 ·rw[Nat.zero_add,List.length_map];exact hq
 ·simp only[PState.newO,zC] at ho;simp only[PState.putD,PState.put,PState.setO,PState.junks,zC,List.nil_append]
  by_cases hi:i=id
  ·rw[if_pos hi] at ho ⊢;exact ho
  ·rw[if_neg hi] at ho;rw[if_neg hi,if_neg hi];exact ho
end
end
end Go.Ep

/- Side texts. -/
import Derived.WalkSpells
import Derived.Test.YtoilkhcaggjlmaaGreatProg
import Derived.KernelRfl
import Derived.Shelf.SlGeneric
import Derived.Shelf.SlLaysF0
import Derived.Ground.SlsfProg
import Derived.Shelf.SlSortCmp.WholeK
import Derived.Test.YtoilkhcaggjlmaaGreatADs2
import Derived.Test.YtoilkhcaggjlmaaGreatADs4
set_option linter.unusedVariables false
set_option linter.unusedSimpArgs false
namespace Go.Ep
open Go.RowKit
def PObjN{G:Type}(P:Program)(f:FuncId)(N:Nat->Prop)(ps:List PV)(os:List (Nat×Ob))(pins:List Nat)(r:PV)(os':G->List (Nat×Ob)):Prop:=
 ∀ w:World,(∀ b,w.heap.size<=b->N b)->∀ S,ObjAt P f ps os pins r os' w S
theorem PObjN.intro{G:Type}{P:Program}{f:FuncId}{fn:Func}{N:Nat->Prop}{c:Code}{ps:List PV}{os:List (Nat×Ob)}{pins:List Nat}{r:PV}{os':G->List (Nat×Ob)}{n:Nat}{sl:List (Nat×PV)}(hf:P.funcs[f]?=some fn)(hb:fn.body=some c)(hn:fn.ntmps=n)(hsl:args 0 ps=sl)(hpn:Nat.ble ps.length n=true)(hpin:pinOK ps os pins=true)
  (body:∀ ctx:Ctx,(∀ b,ctx.K b->ctx.S b)->(∀ b,jC ctx b->N b)->∀ pv:Nat->Option (Nat×Nat),PWc P ctx c (EndsO P ctx fn (qM pv pins) r os') ⟨n,sl,os++qM pv pins⟩):PObjN P f N ps os pins r os':=
 fun w hN S g vs h1 h2 h3 h4=>ObjAt.intro hf hb hn hsl hpn hpin (fun g _=>body ⟨w,fun b=>S b\/OwnB g os b,OwnB g os⟩ (fun b h=>Or.inr h) hN g) g vs h1 h2 h3 h4
def Wk(p q:PV):Prop:=∀ (w:World) (g:zR) (S:Nat->Prop) (u:Value),Rd w g S p u->Rd w g S q u
theorem Wk.refl(p:PV):Wk p p:=fun _ _ _ _ h=>h
theorem Wk.junk(p:PV):Wk p .junk:=fun _ _ _ u _=>.junk u
theorem Wk.od(N:Nat->Prop)(x:DV):Wk (.d (.od N x)) (.d x):=fun _ _ _ _ h=>by cases h with | d h=>exact .d h.unod
theorem Wk.nwOd(N:Nat->Prop)(x:DV):Wk (.d (.nw N x)) (.d (.od N x)):=fun _ _ _ _ h=>by
 cases h with
 | d h=>cases h with | nw _ _ _ h=>exact .d (.od _ _ _ h.lower)
theorem Wk.rw(M:Nat->Prop)(e:TypeId)(k:Nat)(l:List (List Value)):Wk (.d (.rw M e k l)) (.d (.sl (wV l))):=fun _ _ _ _ h=>by cases h with | d h=>exact .d h.unrw
inductive WkL : List PV->List PV->Prop
 | nil:WkL [] []
 | cons {p q:PV} {l m:List PV} (h:Wk p q) (t:WkL l m):WkL (p::l) (q::m)
theorem WkL.len{l m:List PV}(h:WkL l m):l.length=m.length:=by induction h with | nil=>rfl | cons _ _ ih=>simp[ih]
theorem WkL.get{l m:List PV}(h:WkL l m):∀ (i:Nat) (q:PV),m[i]?=some q->∃ p,l[i]?=some p/\Wk p q:=by
 induction h with
 | nil=>intro i q h;simp at h
 | cons h t ih=>
  intro i q hq
  cases i with
  | zero=>cases hq;exact⟨_,rfl,h⟩
  | succ i=>exact ih i q hq
theorem WkL.agg{l m:List PV}(h:WkL l m):Wk (.agg l) (.agg m):=fun w g S u hr=>by
 cases hr with
 | agg _ us hl hh h1=>
  refine .agg _ us (by rw[<- h.len];exact hl) (fun i q u hq hu=>?_) h1;obtain⟨p,hp,hw⟩:=h.get i q hq;exact hw w g S u (hh i p u hp hu)
section
variable{P:Program}{ctx:Ctx}{s:PState}
theorem LR.weak{o:Oper}{d:Option Tmp}{p q:PV}(hl:Local P ctx o s (s.putD d p))(hw:Wk p q):Local P ctx o s (s.putD d q):=fun a w hr K Qx hK=>hl a w hr K Qx fun a' w' ⟨g,hg⟩=>hK a' w' ⟨g,by
 cases d with
 | none=>exact hg
 | some t=>
  refine⟨hg.defers,hg.size,fun i r hi=>?_,hg.objs,hg.inj,hg.own,hg.os,hg.tape,hg.output,hg.grows,hg.keep⟩;have hlt:i < s.n:=Yp (s:=s.put t q) hi;rcases UN s t q i r hi with⟨rfl,rfl⟩ | ⟨hne,h2⟩
  ·have:(s.put t p).at t=some p:=Xw (s:=s.put t p) hlt (by show xy ((t,p)::s.sl) t=_;rw[zo,if_pos rfl]);exact hw _ _ _ _ (hg.slots t _ this)
  ·refine hg.slots i r (Xw (s:=s.put t p) hlt ?_);show xy ((t,p)::s.sl) i=_;rw[zo,if_neg hne];exact xI h2⟩
theorem Sub.weakO{id:Nat}{T:TypeId}{cs ds:List PV}(hl:look s.objs id=some (.cells T cs))(hw:WkL cs ds):Sub ctx s ⟨s.n,s.sl,zi id (.cells T ds) s.objs⟩:=by
 rintro a w ⟨g,hg⟩;have hlk:∀ {j:Nat} {o:Ob},look (zi id (.cells T ds) s.objs) j=some o->(j=id/\o=.cells T ds)\/(j≠id/\look s.objs j=some o):=fun {j o} h=>by
  rw[zC] at h
  by_cases e:j=id
  ·rw[if_pos e] at h;exact .inl ⟨e,by simpa using h.symm⟩
  ·rw[if_neg e] at h;exact .inr ⟨e,h⟩
 have hex:∀ {j:Nat} {o:Ob},look (zi id (.cells T ds) s.objs) j=some o->∃ o',look s.objs j=some o':=fun {j o} h=>by
  rcases hlk h with⟨rfl,_⟩ | ⟨_,h⟩
  ·exact⟨_,hl⟩
  ·exact⟨_,h⟩
 have hS:∀ b,zZ ctx g s.objs b->zZ ctx g (zi id (.cells T ds) s.objs) b:=fun b hb=>(JV hl).2 hb
 have hst:zx w w (zZ ctx g s.objs):=⟨Nat.le_refl _,fun _ _ _=>rfl⟩
 refine⟨g,⟨hg.defers,hg.size,fun i p hp=>(hg.slots i p hp).keep hst (fun b hb _=>hS b hb) (fun _ _=>rfl),fun j o hj=>?_,fun i j oi oj b n m hi hj hgi hgj=>?_,fun j o b n hj hgj=>?_,hg.os,hg.tape,hg.output,hg.grows,hg.keep⟩⟩
 ·rcases hlk hj with⟨rfl,rfl⟩ | ⟨_,hj⟩
  ·cases hg.objs j _ hl with
   | cells _ _ blk n us h1 h2 h3 h4 h5=>
    refine .cells T ds blk n us h1 h2 (by rw[<- hw.len];exact h3) (fun i q u hq hu=>?_) h5;obtain⟨p,hp,hpq⟩:=hw.get i q hq;exact(hpq w g _ u (h4 i p u hp hu)).keep hst (fun b hb _=>hS b hb) (fun _ _=>rfl)
  ·exact(hg.objs j o hj).keep hst (fun b hb _=>hS b hb) (fun _ _ _=>rfl) rfl (fun _ _=>rfl)
 ·obtain⟨o1,e1⟩:=hex hi;obtain⟨o2,e2⟩:=hex hj;exact hg.inj i j o1 o2 b n m e1 e2 hgi hgj
 ·obtain⟨o1,e1⟩:=hex hj;exact hg.own j o1 b n e1 hgj
variable{dst:Option Tmp}{ty:TypeId}{pos:String}{after:Array Edge}{gd:Option (Nat×Bool)}
theorem LR.callNwN{x:Operand}{xs:List Operand}{ats:Array TypeId}{f:FuncId}{ps qs:List PV}{r:(Nat->Prop)->PV}{N:Nat->Prop}(hc:PNew P f ps r)(hm:MonoP r)(hN:∀ b,jC ctx b->N b)(hx:s.ev x=some (.d (.v (.func (.func f) #[] #[]))))(he:∀ args w,(callFunc f args).run P w=.ok (.enter f args) w)
  (hps:s.evs xs=some qs) (hq:qs.map PV.nilD=ps) (hd:PV.isData.isDataL ps=true) (hr:(r (jC ctx)).isData=true) :
  Local P ctx ⟨dst,.call ⟨.value x,xs.toArray,ats⟩,ty,pos,after,gd⟩ s (s.putD dst (r N)):=
 LR.weak (LR.callNw hc hm hx he hps hq hd hr) fun w g S u h=>hm w g S (jC ctx) N u hN h
theorem PWl.callObjR{G:Type}{Q:PQ}{ops:Array Oper}{rest:List Oper}{x:Operand}{xs:List Operand}{ats:Array TypeId}{f:FuncId}{ps qs:List PV}{os:List (Nat×Ob)}{pins:List Nat}{r:PV}{os':G->List (Nat×Ob)}(ρ:List (Nat×Nat))(js ks:List Nat)
  {N:Nat->Prop} (hc:PObjN P f N ps os pins r os') (hN:∀ a w,Rel ctx s a w->∀ b,w.heap.size<=b->N b) (hK:∀ b,ctx.K b->ctx.S b) (hx:s.ev x=some (.d (.v (.func (.func f) #[] #[])))) (he:∀ args w,(callFunc f args).run P w=.ok (.enter f args) w) (hps:s.evs xs=some qs) (hq:qs.map PV.nilD=ps.map (PV.ren ρ)) (hos:AllOb s ρ os)
  (hks:∀ gh,(os' gh).map (·.1)=ks) (hcl:∀ gh,(os' gh).all (fun x=>x.2.named ks)=true) (hr:r.named ks=true) (hok:vN s ρ js (os.map (·.1)) pins ks=true) (hgd:gd=none)
  (h:∀ gh,PWl P ctx ops Q rest ((s.callO ρ js os (os' gh)).putD dst (r.ren ρ))):PWl P ctx ops Q (⟨dst,.call ⟨.value x,xs.toArray,ats⟩,ty,pos,after,gd⟩::rest) s:=by
 rintro a w ⟨g,hg⟩;refine wpList_plain hgd fun K hK2=>?_
 obtain⟨hlen,hreal⟩:=VR hps hg;unfold Oper.wp;rw[xW (o:=⟨dst,.call ⟨.value x,xs.toArray,ats⟩,ty,pos,after,gd⟩) rfl (Xu hg hx) he w];rw[List.map_toArray];refine(uN ρ js ks hK hq hos hks hcl hr hok hg hlen hreal dst (hc w (hN a w ⟨g,hg⟩) _)).mono fun en w' ⟨u,gh,he,hrel⟩=>?_
 subst he;exact hK2 _ _ (h gh _ _ hrel)
theorem LR.callObjN{x:Operand}{xs:List Operand}{ats:Array TypeId}{f:FuncId}{ps qs:List PV}{os os':List (Nat×Ob)}{pins:List Nat}{r:PV}(ρ:List (Nat×Nat))(js ks:List Nat)
  {N:Nat->Prop} (hc:PObjN P f N ps os pins r (fun _:Unit=>os')) (hN:∀ b,jC ctx b->N b) (hK:∀ b,ctx.K b->ctx.S b) (hx:s.ev x=some (.d (.v (.func (.func f) #[] #[])))) (he:∀ args w,(callFunc f args).run P w=.ok (.enter f args) w) (hps:s.evs xs=some qs) (hq:qs.map PV.nilD=ps.map (PV.ren ρ)) (hos:AllOb s ρ os)
  (hks:os'.map (·.1)=ks) (hcl:os'.all (fun x=>x.2.named ks)=true) (hr:r.named ks=true) (hok:vN s ρ js (os.map (·.1)) pins ks=true) :
  Local P ctx ⟨dst,.call ⟨.value x,xs.toArray,ats⟩,ty,pos,after,gd⟩ s ((s.callO ρ js os os').putD dst (r.ren ρ)):=
 wP (o:=⟨dst,.call ⟨.value x,xs.toArray,ats⟩,ty,pos,after,gd⟩) fun a w g hg=>by
  obtain⟨hlen,hreal⟩:=VR hps hg;refine⟨f,_,xW (o:=⟨dst,.call ⟨.value x,xs.toArray,ats⟩,ty,pos,after,gd⟩) rfl (Xu hg hx) he w,?_⟩;rw[List.map_toArray];exact(uN ρ js ks hK hq hos (fun _=>hks) (fun _=>hcl) hr hok hg hlen hreal dst (hc w (fun b hb=>hN b (Nat.le_trans hg.grows hb)) _)).mono fun en w' ⟨u,_,he,hrel⟩=>⟨u,he,hrel⟩
end
theorem PObjN.frame{G:Type}{P:Program}{f:FuncId}{ps:List PV}{os:List (Nat×Ob)}{pins ks:List Nat}{r:PV}{os':G->List (Nat×Ob)}(F F':List (Nat×Ob)){N:Nat->Prop}(hc:PObjN P f N ps os pins r os')
  (hks:∀ gh,(os' gh).map (·.1)=ks) (hcl:∀ gh,(os' gh).all (fun x=>x.2.named ks)=true) (hr:r.named ks=true) (hd:((F.map (·.1)).all fun k=>!inL (os.map (·.1)) k&&!inL ks k)=true) (hj:JObs (pins++F.map (·.1)) F F') :
  PObjN P f N ps (os++F) (pins++F.map (·.1)) r (fun gh=>os' gh++F'):=by
 intro w hN S g vs hlen hreal hobs hdis;have hd1:∀ k∈F.map (·.1),k∉os.map (·.1)/\k∉ks:=fun k hk=>by
  have h:=List.all_eq_true.1 hd k hk;rw[Bool.and_eq_true,Bool.not_eq_true',Bool.not_eq_true',vl,vl] at h;exact h
 have xg:∀ {id o},look F id=some o->look (os++F) id=some o:=fun {id o} h=>by
  rw[yk,JU (hd1 id (zY h)).1,Option.none_or];exact h
 have ownL:∀ {b},OwnB g os b->OwnB g (os++F) b:=fun⟨id,o,n,h1,h2⟩=>⟨id,o,n,zn h1,h2⟩
 have ownR:∀ {b},OwnB g F b->OwnB g (os++F) b:=fun⟨id,o,n,h1,h2⟩=>⟨id,o,n,xg h1,h2⟩
 have hnF:∀ {id o b n},look F id=some o->g id=some (b,n)->¬ OwnB g os b:=fun {id o b n} h1 h2 ⟨id2,o2,n2,h3,h4⟩=>by
  have:=hobs.inj id id2 o o2 b n n2 (xg h1) (zn h3) h2 h4;subst this;exact(hd1 id (zY h1)).1 (zY h3)
 refine(hc w hN S g vs hlen hreal ⟨fun id o h=>hobs.rd id o (zn h),fun i j oi oj b n m hi hj=>hobs.inj i j oi oj b n m (zn hi) (zn hj),fun id o b n h=>hobs.lt id o b n (zn h)⟩ (fun b hb h=>hdis b hb (ownL h))).mono fun e w' ⟨u,g',gh,he,hpost⟩=>?_
 have hks':=hks gh;have hcl':=hcl gh
 let G':zR:=fun j=>if inL (F.map (·.1)) j then g j else g' j
 refine⟨u,G',gh,he,?_⟩;show JS w g S (os++F) (pins++F.map (·.1)) r (os' gh++F') w' G' u
 generalize os' gh=os1 at hpost hks' hcl' ⊢
 have gF:∀ {j},j∈F.map (·.1)->G' j=g j:=fun {j} h=>by simp only[G',zK.2 h,if_true]
 have gN:∀ {j},j∉F.map (·.1)->G' j=g' j:=fun {j} h=>by simp only[G',vl.2 h,Bool.false_eq_true,if_false]
 have gK:∀ {j},j∈ks->G' j=g' j:=fun {j} h=>gN fun h2=>(hd1 j h2).2 h
 have gP:∀ {j},j∈pins++F.map (·.1)->G' j=g j:=fun {j} h=>by
  by_cases hf:j∈F.map (·.1)
  ·exact gF hf
  ·rw[gN hf];exact hpost.pin j ((List.mem_append.1 h).resolve_right hf)
 have split:∀ {id o},look (os1++F') id=some o->(look os1 id=some o/\id∈ks)\/∃ o0,look F id=some o0/\JOb (pins++F.map (·.1)) o0 o:=fun {id o} h=>by
  rw[yk] at h
  cases hl:look os1 id with
  | none=>rw[hl,Option.none_or] at h;exact .inr (hj.look id o h)
  | some q=>rw[hl,Option.some_or] at h;cases h;exact .inl ⟨rfl,hks'▸zY hl⟩
 have hA:∀ b,uz w g S os g' os1 b->uz w g S (os++F) G' (os1++F') b:=fun b ⟨h1,h2⟩=>⟨by
  rcases h1 with h1 | h1 | h1
  ·exact .inl h1
  ·exact .inr (.inl (ownL h1))
  ·exact .inr (.inr h1),fun⟨id,o,n,hl,hgi⟩=>by
  rcases split hl with⟨h3,h4⟩ | ⟨o0,h3,h4⟩
  ·rw[gK h4] at hgi;exact h2 ⟨id,o,n,h3,hgi⟩
  ·rw[gF (zY h3)] at hgi;rcases h1 with h1 | h1 | h1
   ·exact hdis b h1 ⟨id,o0,n,xg h3,hgi⟩
   ·exact hnF h3 hgi h1
   ·have:=hobs.lt id o0 b n (xg h3) hgi;omega⟩
 have hS:∀ b,S b->b < w.heap.size->uz w g S (os++F) G' (os1++F') b:=fun b hb hlt=>⟨.inl hb,fun⟨id,o,n,hl,hgi⟩=>by
  rcases split hl with⟨h3,h4⟩ | ⟨o0,h3,h4⟩
  ·rw[gK h4] at hgi;rcases hpost.own b ⟨id,o,n,h3,hgi⟩ with h5 | h5
   ·exact hdis b hb (ownL h5)
   ·omega
  ·rw[gF (zY h3)] at hgi;exact hdis b hb ⟨id,o0,n,xg h3,hgi⟩⟩
 have hst:zx w w' S:=⟨hpost.grows,fun b hb hlt=>hpost.keep b hlt fun h=>hdis b hb (ownL h)⟩
 have hst':zx w' w' (uz w g S os g' os1):=⟨Nat.le_refl _,fun _ _ _=>rfl⟩
 refine⟨hpost.eos,hpost.tape,hpost.output,hpost.grows,fun k hk h=>hpost.keep k hk fun h2=>h (ownL h2),fun b ⟨id,o,n,hl,hgi⟩=>?_,fun id h=>gP h,?_,⟨fun id o hl=>?_,fun i j oi oj b n m hi hj' hgi hgj=>?_,fun id o b n hl hgi=>?_⟩⟩
 ·rcases split hl with⟨h3,h4⟩ | ⟨o0,h3,h4⟩
  ·rw[gK h4] at hgi;exact(hpost.own b ⟨id,o,n,h3,hgi⟩).imp ownL (fun h=>h)
  ·rw[gF (zY h3)] at hgi;exact .inl (ownR ⟨id,o0,n,h3,hgi⟩)
 ·exact hpost.res.keep hst' (fun b hb _=>hA b hb) fun j hjj=>gK (PV.named_has hr hjj)
 ·rcases split hl with⟨h3,h4⟩ | ⟨o0,h3,h4⟩
  ·have hn:=(List.all_eq_true.1 hcl') _ (yn h3);exact(hpost.obs.rd id o h3).keep hst' (fun b hb _=>hA b hb) (fun _ _ _=>rfl) (gK h4) fun j hjj=>gK (Ob.named_has hn hjj)
  ·exact(h4.rd (hobs.rd id o0 (xg h3))).keep hst hS (fun b n hgi=>hpost.keep b (hobs.lt id o0 b n (xg h3) hgi) (hnF h3 hgi)) (gF (zY h3)) fun j hjj=>gP (Ob.named_has h4.named hjj)
 ·rcases split hi with⟨h3,h4⟩ | ⟨o0,h3,h4⟩ <;> rcases split hj' with⟨h5,h6⟩ | ⟨o2,h5,h6⟩
  ·rw[gK h4] at hgi;rw[gK h6] at hgj;exact hpost.obs.inj i j oi oj b n m h3 h5 hgi hgj
  ·rw[gK h4] at hgi;rw[gF (zY h5)] at hgj;exfalso;rcases hpost.own b ⟨i,oi,n,h3,hgi⟩ with h7 | h7
   ·exact hnF h5 hgj h7
   ·have:=hobs.lt j o2 b m (xg h5) hgj;omega
  ·rw[gF (zY h3)] at hgi;rw[gK h6] at hgj;exfalso;rcases hpost.own b ⟨j,oj,m,h5,hgj⟩ with h7 | h7
   ·exact hnF h3 hgi h7
   ·have:=hobs.lt i o0 b n (xg h3) hgi;omega
  ·rw[gF (zY h3)] at hgi;rw[gF (zY h5)] at hgj;exact hobs.inj i j o0 o2 b n m (xg h3) (xg h5) hgi hgj
 ·rcases split hl with⟨h3,h4⟩ | ⟨o0,h3,h4⟩
  ·rw[gK h4] at hgi;exact hpost.obs.lt id o b n h3 hgi
  ·rw[gF (zY h3)] at hgi;exact Nat.lt_of_lt_of_le (hobs.lt id o0 b n (xg h3) hgi) hpost.grows
section
variable{P:Program}{ctx:Ctx}{Q:PState->Prop}{s:PState}{ops:Array Oper}{rest:List Oper}{fs:List Ft}{f:Ft}
variable{dst:Option Tmp}{ty:TypeId}{pos:String}{after:Array Edge}{gd:Option (Nat×Bool)}
theorem PQe.callObjSN{x:Operand}{xs:List Operand}{ats:Array TypeId}{fn:FuncId}{ps qs:List PV}{os os':List (Nat×Ob)}{pins:List Nat}{r:PV}(ρ:List (Nat×Nat))(js ks:List Nat)(osV osS:List (Nat×Ob))
  {N:Nat->Prop} (hc:PObjN P fn N ps os pins r (fun _:Unit=>os')) (hN:∀ b,jC ctx b->N b) (hK:∀ b,ctx.K b->ctx.S b)
  (hev:∀ s':PState,(∀ {y q},xU (⟨dst,.call ⟨.value x,xs.toArray,ats⟩,ty,pos,after,gd⟩:Oper) y=true->s.ev y=some q->s'.ev y=some q)->s'.ev x=some (.d (.v (.func (.func fn) #[] #[])))/\s'.evs xs=some qs)
  (he:∀ args w,(callFunc fn args).run P w=.ok (.enter fn args) w) (hq:qs.map PV.nilD=ps.map (PV.ren ρ)) (hos:AllOb s ρ os) (hV:LookIn os' osV) (hS:LookIn os' osS) (hAS:AllOb s ρ osS) (hcov:(os'.map (·.1)).all (fun i=>inL (osV.map (·.1)) i||inL (osS.map (·.1)) i)=true) (hSo:(osS.map (·.1)).all (inL (os.map (·.1)))=true)
  (hks:os'.map (·.1)=ks) (hcl:os'.all (fun x=>x.2.named ks)=true) (hr:r.named ks=true) (hok:calO ρ js (os.map (·.1)) pins ks f=true)
  (hg:Wd ops (⟨dst,.call ⟨.value x,xs.toArray,ats⟩,ty,pos,after,gd⟩:Oper) s) (hk:okE f (Xv ρ js dst r osV)=true) (h:PQe P ctx ops Q rest fs (s.app (Xv ρ js dst r osV))) :
  PQe P ctx ops Q (⟨dst,.call ⟨.value x,xs.toArray,ats⟩,ty,pos,after,gd⟩::rest) (f::fs) s:=by
 simp only[calO,Bool.and_eq_true] at hok;obtain⟨⟨⟨⟨⟨c1,c2⟩,c3⟩,c4⟩,c5⟩,c6⟩:=hok;refine .step (e:=Xv ρ js dst r osV) (fun s' hn hee ho hfr hal=>?_) hg hk h;obtain⟨h1,h2⟩:=hev s' (fun hx hq=>hee hx hq);have hinj:∀ i j,i∈os.map (·.1)++ks->j∈os.map (·.1)++ks->rn ρ i=rn ρ j->i=j:=fun i j hi hj e=>by
  have h3:=List.all_eq_true.1 (List.all_eq_true.1 c1 i hi) j hj;rw[Bool.or_eq_true,Bool.not_eq_true'] at h3;rcases h3 with h | h
  ·exact Nat.eq_of_beq_eq_true h
  ·rw[e,Nat.beq_refl] at h;cases h
 have hok':vN s' ρ js (os.map (·.1)) pins ks=true:=by
  unfold vN;rw[Bool.and_eq_true,Bool.and_eq_true];refine⟨⟨c1,?_⟩,?_⟩
  ·rw[List.all_eq_true] at c2 ⊢;intro i hi;have:=c2 i hi;rw[Bool.or_eq_true] at this ⊢;exact this.imp (fun h=>h) fun h=>hfr _ (zK.1 h)
  ·rw[List.all_eq_true] at c5 ⊢;intro i hi;have:=c5 i hi;rw[Bool.or_eq_true,Bool.or_eq_true] at this;rw[Bool.or_eq_true];rcases this with(h | h) | h
   ·exact .inl h
   ·refine .inr ?_;have hf:=hfr _ (zK.1 h);rw[Bool.and_eq_true];refine⟨VS js hf,?_⟩;simp only[PState.fresh,Bool.and_eq_true,List.all_eq_true] at hf;rw[List.all_eq_true];intro y hy;rw[Bool.or_eq_true];exact .inl (hf.2 y hy).2
   ·refine .inr ?_;obtain⟨a,ha1,ha2⟩:=List.any_eq_true.1 h;simp only[Bool.and_eq_true,beq_iff_eq] at ha2;have hx:=hal a ha1;rw[Nat.eq_of_beq_eq_true ha2.1,ha2.2] at hx;unfold PState.aloneX at hx;rw[Bool.and_eq_true,zw] at hx;rw[Bool.and_eq_true];refine⟨hx.1,?_⟩;rw[List.all_eq_true] at c4;have hx2:=hx.2;rw[List.all_eq_true] at hx2 ⊢;intro y hy;have:=hx2 y hy;rw[Bool.or_eq_true] at this ⊢;rcases this with h | h
    ·exact .inr (c4 _ (zK.1 h))
    ·exact .inl h
 have hl:=LR.callObjN (P:=P) (ctx:=ctx) (dst:=dst) (ty:=ty) (pos:=pos) (after:=after) (gd:=gd) (ats:=ats) ρ js ks hc hN hK h1 he h2 hq (hos.keep (fun hi hl=>ho (zK.1 hi) hl) c6) hks hcl hr hok';have hAS':AllOb s' ρ osS:=hAS.keep (f:=f) (fun hi hl=>ho (zK.1 hi) hl) (by
  rw[List.all_eq_true] at c6 hSo ⊢;exact fun i hi=>c6 i (zK.1 (hSo i hi)))
 refine hl.post (Sub.drop ?_ ?_ ?_)
 ·cases dst <;> rfl
 ·intro i p hp;have hat:=xI hp;have hlt:i < s'.n:=Yp (s:=s'.app (Xv ρ js dst r osV)) hp;refine Xw (by cases dst <;> exact hlt) ?_;simp only[PState.app,Xv] at hat
  cases dst with
  | none=>simpa[WV,PState.putD,PState.callO,xF] using hat
  | some d=>simpa[WV,PState.putD,PState.put,PState.callO,xF] using hat
 ·intro id o hlo;have e1:(s'.app (Xv ρ js dst r osV)).objs=osV.foldr (fun x l=>zi (rn ρ x.1) (x.2.ren ρ) l) s'.objs:=by
   simp only[PState.app,Xv,List.foldr_map]
  have e2:((s'.callO ρ js os os').putD dst (r.ren ρ)).objs=os'.foldr (fun x l=>zi (rn ρ x.1) (x.2.ren ρ) l) (os.foldr (fun x l=>uL (rn ρ x.1) l) s'.objs):=by cases dst <;> rfl
  rw[e1] at hlo;rw[e2];have inj':∀ i,i∈os'.map (·.1)->∀ j∈os'.map (·.1),rn ρ j=rn ρ i->j=i:=fun i hi j hj e=>hinj j i (List.mem_append_right _ (hks▸hj)) (List.mem_append_right _ (hks▸hi)) e
  rcases xg hlo with⟨i,o1,h3,h4,h5⟩ | ⟨h3,h4⟩
  ·have h6:=hV.get i o1 h3;rw[h4,h5];exact qO h6 (inj' i (zY h6))
  ·by_cases hex:∃ i∈os'.map (·.1),rn ρ i=id
   ·obtain⟨i,hi,rfl⟩:=hex;have h5:=List.all_eq_true.1 hcov i hi;rw[Bool.or_eq_true] at h5;rcases h5 with h5 | h5
    ·exact absurd rfl (h3 i (zK.1 h5))
    ·obtain⟨o2,h6⟩:=jB (zK.1 h5);have h7:=hAS'.get i o2 h6;rw[h4] at h7
     cases h7
     exact qO (hS.get i o2 h6) (inj' i hi)
   ·rw[lookN fun i hi e=>hex ⟨i,hi,e⟩,QY fun i hi e=>hex ⟨i,by rw[hks];exact zK.1 (List.all_eq_true.1 c3 i hi),e⟩];exact h4
end
section
variable{P:Program}{ctx:Ctx}{s:PState}
variable{dst:Option Tmp}{ty:TypeId}{pos:String}{after:Array Edge}{gd:Option (Nat×Bool)}
end
theorem AvD.keepM{M:Nat->Prop}{w:World}{S:Nat->Prop}{x:DV}{u:Value}(h:AvD M x)(hd:DRd w S x u):DRd w (fun b=>S b/\¬ M b) x u:=by
 cases h with
 | v=>cases hd with | v _ h=>exact .v _ h
 | od N x h=>cases hd with | od _ _ _ h0=>exact .od N x u (h0.mono fun b hb=>⟨⟨hb.1,fun e=>h b e hb.2⟩,hb.2⟩)
 | rw N e k l h=>
  cases hd with
  | rwNil _ _ _ h1=>exact .rwNil _ _ _ h1
  | rw _ _ _ _ b cap cur hS hN hb hh hlc hcap hcs hk hr=>exact .rw _ _ _ _ b cap cur ⟨hS,fun e=>h b e hN⟩ hN hb hh hlc hcap hcs hk hr
theorem AvP.keepM{M:Nat->Prop}{w:World}{g:zR}{S:Nat->Prop}{x:PV}{u:Value}(h:AvP M x)(hd:Rd w g S x u):Rd w g (fun b=>S b/\¬ M b) x u:=by
 cases h with
 | junk=>exact .junk _
 | d h=>cases hd with | d hd=>exact .d (h.keepM hd)
 | ref=>cases hd with | ref _ _ b n h=>exact .ref _ _ b n h
 | row=>
  cases hd with
  | row _ _ b c h=>exact .row _ _ b c h
  | rowNil _ h=>exact .rowNil _ h
 | mp=>cases hd <;> constructor <;> assumption
theorem AvO.keepM{M:Nat->Prop}{w:World}{g:zR}{S:Nat->Prop}{id:Nat}{o:Ob}(h:AvO M o)(hd:ObRd w g S id o):ObRd w g (fun b=>S b/\¬ M b) id o:=by
 cases h with
 | cells T cs h=>cases hd with | cells _ _ b n us h1 h2 h3 h4 h5=>exact .cells T cs b n us h1 h2 h3 (fun i p u hp hu=>(h p (List.mem_of_getElem? hp)).keepM (h4 i p u hp hu)) h5
 | row T k l h=>
  cases hd with
  | rowNil _ _ hgn=>exact .rowNil _ _ hgn
  | row _ _ _ b cap cur h1 h2 h3 h4 h5 h6 h7=>exact .row T k l b cap cur h1 h2 h3 h4 h5 h6 fun i cs j x hi hx=>let ⟨u,hu,hd⟩:=h7 i cs j x hi hx;⟨u,hu,(h cs (List.mem_of_getElem? hi) x (List.mem_of_getElem? hx)).keepM hd⟩
 | mapH nl ks ag m h=>
  cases hd with
  | mapHNil _ _ hgn=>exact .mapHNil _ _ hgn
  | mapH _ _ _ bs ck b n es h1 h2 h3=>exact .mapH ks ag m bs ck b n es h1 h2 (h3.conv rfl fun i ns cs hi=>⟨cs,hi,rfl,fun j x u hx=>⟨x,hx,fun hd=>(h _ (List.mem_of_getElem? hi) x (List.mem_of_getElem? hx)).keepM hd⟩⟩)
def PV.oneP : PV->Bool
 | .d _=>true
 | .ref _ _=>true
 | _=>false
theorem PV.oneP_cell{p:PV}(h:p.oneP=true){w:World}{g:zR}{S:Nat->Prop}{u:Value}(hr:Rd w g S p u):u.oneCell'=true:=by
 cases hr with
 | d h=>exact h.one
 | ref=>rfl
 | _=>cases h
def rawS(vs:Nat->Value)(sl:List (Nat×PV)):List (Nat×PV):=sl.map fun x=>(x.1,.d (.v (vs x.1)))
theorem Qa(vs:Nat->Value)(sl:List (Nat×PV))(i:Nat):xy (rawS vs sl) i=(xy sl i).map fun _=>.d (.v (vs i)):=by
 induction sl with
 | nil=>rfl
 | cons x r ih=>
  show xy ((x.1,_)::rawS vs r) i=(xy ((x.1,x.2)::r) i).map _;rw[zo,zo,ih]
  by_cases e:x.1=i
  ·rw[if_pos e,if_pos e,<- e];rfl
  ·rw[if_neg e,if_neg e]
theorem spoilRow{α:Type}{ctx:Ctx}{s u:PState}{B rid k n' t:Nat}{T:TypeId}{F:α->(DV->DV)->List DV}{l:List α}{a:Act}{w:World}(hF:∀ x,FL (F x))(hr:Rel ctx s a w)(hl:look s.objs rid=some (.row T k (l.map fun x=>F x (.nw (Jx ctx B)))))(ht:s.at t=some (.row rid n'))(hun:u.n=s.n)
  (hsl:∀ i p,xy u.sl i=some p->s.at i=some p/\AvP (Jx ctx B) p/\p.oneP=true) (hob:∀ id o,look u.objs id=some o->look s.objs id=some o/\id≠rid/\AvO (Jx ctx B) o) :
  ∃ (ctx':Ctx) (vs:Nat->Value),(∀ b,ctx'.S b->ctx'.K b)/\(∀ b,ctx'.K b->ctx'.S b) /\
   Rel ctx' ⟨s.n,(t,.row rid n')::rawS vs u.sl,[(rid,.row T k (l.map fun x=>F x (.sp QZ)))]⟩ a w /\
   ∀ a' w',Rel ctx' ⟨s.n,rawS vs u.sl,[]⟩ a' w'->Rel ctx u a' w':=by
 obtain⟨g,hg⟩:=hr
 let S':Nat->Prop:=fun b=>(zZ ctx g s.objs b/\Jx ctx B b)\/∃ m,g rid=some (b,m)
 let ctx':Ctx:=⟨w,S',S'⟩
 let vs:Nat->Value:=fun i=>a.tmps.getD i undef
 refine⟨ctx',vs,fun _ h=>h,fun _ h=>h,⟨g,?_⟩,?_⟩
 ·refine⟨hg.defers,hg.size,fun i p hp=>?_,fun id o ho=>?_,fun i j oi oj b m k hi hj _ _=>?_,fun id o b m ho hgi=>?_,rfl,rfl,rfl,Nat.le_refl _,fun k _ _=>rfl⟩
  ·have hp':=xI hp;simp only[zo] at hp'
   split at hp'
   ·rename_i e;subst e;cases hp'
    have:=hg.slots t _ ht
    generalize a.tmps.getD t undef=v at this
    cases this with
    | row _ _ b c h=>exact .row _ _ b c h
    | rowNil _ h=>exact .rowNil _ h
   ·rw[Qa] at hp'
    cases hq:xy u.sl i with
    | none=>rw[hq] at hp';cases hp'
    | some q=>
     rw[hq] at hp'
     cases hp'
     obtain⟨h1,_,h3⟩:=hsl i q hq;exact .d (.v _ (PV.oneP_cell h3 (hg.slots i q h1)))
  ·simp only[look] at ho
   split at ho
   ·rename_i e;subst e;cases ho
    have hlen:(l.map fun x=>F x (.nw (Jx ctx B))).length=(l.map fun x=>F x (.sp QZ)).length:=by simp
    have hgetL:∀ (i:Nat) (cs:List DV),(l.map fun x=>F x (.sp QZ))[i]?=some cs->∃ x,l[i]?=some x/\cs=F x (.sp QZ):=fun i cs h=>by
     rw[List.getElem?_map] at h
     cases hx:l[i]? with
     | none=>rw[hx] at h;cases h
     | some x=>rw[hx] at h;exact⟨x,rfl,by simpa using h.symm⟩
    have hob:=hg.objs _ _ hl
    generalize hL:(l.map fun x=>F x (.nw (Jx ctx B)))=L at hob hlen
    cases hob with
    | rowNil _ _ hgn=>
     have:(l.map fun x=>F x (.sp QZ))=[]:=List.length_eq_zero_iff.1 hlen.symm;rw[this];exact .rowNil _ _ hgn
    | row _ _ _ blk cap cur hgi hh hlc hcap hcs hkk hr=>
     subst hL;refine .row T k _ blk cap cur hgi hh (by rw[<- hlen];exact hlc) hcap hcs (fun i cs hi=>?_) (fun i cs j x hi hx=>?_)
     ·obtain⟨x,h1,rfl⟩:=hgetL i cs hi;rw[((hF x).get.1 (.sp QZ) (.nw (Jx ctx B)))];exact hkk i _ (by rw[List.getElem?_map,h1];rfl)
     ·obtain⟨y,h1,rfl⟩:=hgetL i cs hi;have hi2:(l.map fun x=>F x (.nw (Jx ctx B)))[i]?=some (F y (.nw (Jx ctx B))):=by rw[List.getElem?_map,h1];rfl
      rcases(hF y).get.2 j with h | ⟨z,h⟩ | ⟨z,h⟩
      ·rw[h] at hx;cases hx
      ·rw[h] at hx;cases hx;obtain⟨u',hu,hd⟩:=hr i _ j (.v z) hi2 (h _)
       cases hd with | v _ h6=>exact⟨_,hu,.v _ h6⟩
      ·rw[h] at hx;cases hx;obtain⟨u',hu,hd⟩:=hr i _ j (.nw (Jx ctx B) z) hi2 (h _)
       cases hd with
       | nw _ _ _ h0=>
        refine⟨u',hu,.sp _ z z u' (.eq z) (h0.mono fun b hb=>⟨⟨.inl (.inl hb),fun id o m ho hgi2=>?_⟩,trivial⟩)⟩;simp only[look] at ho
        split at ho
        ·rename_i e;subst e;exact hb.1.2 _ _ m hl hgi2
        ·cases ho
   ·cases ho
  ·simp only[look] at hi hj
   split at hi
   ·rename_i e;split at hj
    ·rename_i e2;exact e.trans e2.symm
    ·cases hj
   ·cases hi
  ·simp only[look] at ho
   split at ho
   ·rename_i e;subst e;exact⟨(hg.own _ _ b m hl hgi).1,.inr (.inr ⟨m,hgi⟩)⟩
   ·cases ho
 ·rintro a' w' ⟨g2,h2⟩;have hnS:∀ b,zZ ctx g s.objs b->¬ Jx ctx B b->¬ S' b:=fun b h1 h3 h=>by
   rcases h with h | ⟨m,h⟩
   ·exact h3 h.2
   ·exact h1.2 rid _ m hl h
  have hst:zx w w' (fun b=>zZ ctx g s.objs b/\¬ Jx ctx B b):=⟨h2.grows,fun b hb hlt=>h2.keep b hlt (hnS b hb.1 hb.2)⟩
  have hfr:∀ b,zZ ctx g s.objs b->zZ ctx g u.objs b:=fun b hb=>⟨hb.1,fun id o m ho hgi=>hb.2 id o m (hob id o ho).1 hgi⟩
  refine⟨g,⟨h2.defers,h2.size.trans hun.symm,fun i p hp=>?_,fun id o ho=>?_,fun i j oi oj b m k hi hj hgi hgj=>hg.inj i j oi oj b m k (hob i oi hi).1 (hob j oj hj).1 hgi hgj,fun id o b m ho hgi=>?_,h2.os.trans hg.os,h2.tape.trans hg.tape,h2.output.trans hg.output,Nat.le_trans hg.grows h2.grows,fun k hk hnk=>?_⟩⟩
  ·have hp':=xI hp;have hlt:=Yp hp;obtain⟨h1,h3,h4⟩:=hsl i p hp';have hraw:(⟨s.n,rawS vs u.sl,[]⟩:PState).at i=some (.d (.v (vs i))):=Xw (by rw[<- hun];exact hlt) (by rw[Qa,hp'];rfl);have hv:=(h2.slots i _ hraw).of_v;rw[hv];exact(h3.keepM (hg.slots i p h1)).keep hst (fun b hb _=>hfr b hb.1) (fun _ _=>rfl)
  ·obtain⟨h1,h3,h4⟩:=hob id o ho;refine(h4.keepM (hg.objs id o h1)).keep hst (fun b hb _=>hfr b hb.1) (fun blk m hgi=>?_) rfl (fun _ _=>rfl);refine h2.keep blk (hg.own id o blk m h1 hgi).1 fun h=>?_
   rcases h with h | ⟨m2,h⟩
   ·exact h.1.2 id o m h1 hgi
   ·exact h3 (hg.inj id rid _ _ blk m m2 h1 hl hgi h)
  ·have:=hg.own id o b m (hob id o ho).1 hgi;exact⟨Nat.lt_of_lt_of_le this.1 h2.grows,this.2⟩
  ·have h3:=h2.keep k (Nat.lt_of_lt_of_le hk hg.grows) fun h=>by
    rcases h with h | ⟨m,h⟩
    ·have:ctx.w0.heap.size<=k:=h.2.2;omega
    ·rcases(hg.own rid _ k m hl h).2 with h4 | h4
     ·omega
     ·exact hnk h4
   exact h3.trans (hg.keep k hk hnk)
section
variable{P:Program}{ctx:Ctx}{Q:PQ}{s:PState}
theorem PWl.frzRwO{ops:Array Oper}{rest:List Oper}{id oid n k:Nat}{e T:TypeId}{l:List (List Value)}{F:(DV->DV)->List DV}(js:List Nat)(hF:FL F)(hp:∀ y∈F (fun x=>x),Plain y)(ho:look s.objs oid=some (.cells T ((F fun x=>x).map .d)))(hoi:oid≠id)
  (hl:look s.objs id=some (.row e k (wV l))) (hn:(wV l).length=n) (hjs:AllRow s id n js) (hK:∀ b,ctx.K b->ctx.S b) (hK0:∀ b,¬ ctx.K b)
  (h:∀ β:Option Nat,(∀ b,β=some b->ctx.w0.heap.size<=b)->PWl P ctx ops Q rest ⟨s.n,(s.frzRw id (fun b=>β=some b) e k l js).sl,zi oid (.cells T ((F (.od fun b=>β≠some b)).map .d)) (uL id s.objs)⟩):PWl P ctx ops Q rest s:=by
 rintro a w ⟨g,hg⟩;have hjs:=hjs.get
 let N:Nat->Prop:=fun b=>(g id).map (·.1)≠some b
 let new:List (Nat×Ob):=zi oid (.cells T ((F (.od N)).map .d)) (uL id s.objs)
 have hlk:∀ {j:Nat} {o:Ob},look new j=some o->(j=oid/\o=.cells T ((F (.od N)).map .d))\/(j≠oid/\j≠id/\look s.objs j=some o):=fun {j o} hj=>by
  rw[show look new j=if j=oid then some (.cells T ((F (.od N)).map .d)) else look (uL id s.objs) j from zC _ _ _ _,yb] at hj
  by_cases e1:j=oid
  ·rw[if_pos e1] at hj;exact .inl ⟨e1,by simpa using hj.symm⟩
  ·rw[if_neg e1] at hj
   by_cases e2:j=id
   ·rw[if_pos e2] at hj;cases hj
   ·rw[if_neg e2] at hj;exact .inr ⟨e1,e2,hj⟩
 have hex:∀ {j:Nat} {o:Ob},look new j=some o->j≠id/\∃ o',look s.objs j=some o':=fun {j o} hj=>by
  rcases hlk hj with⟨rfl,_⟩ | ⟨_,h1,h2⟩
  ·exact⟨hoi,_,ho⟩
  ·exact⟨h1,_,h2⟩
 have hFr:∀ b,zZ ctx g s.objs b->zZ ctx g new b:=fun b ⟨h1,h2⟩=>⟨h1,fun j o m hj hgj=>let ⟨_,o',ho'⟩:=hex hj;h2 j o' m ho' hgj⟩
 have hst:zx w w (zZ ctx g s.objs):=⟨Nat.le_refl _,fun _ _ _=>rfl⟩
 refine h ((g id).map (·.1)) (fun b hb=>?_) a w ⟨g,⟨hg.defers,hg.size,fun i p hp=>?_,fun j o hj=>?_,fun i j oi oj b n m hi hj hgi hgj=>?_,fun j o b n hj hgj=>?_,hg.os,hg.tape,hg.output,hg.grows,hg.keep⟩⟩
 ·cases hgi:g id with
  | none=>rw[hgi] at hb;cases hb
  | some q=>
   rw[hgi] at hb;obtain⟨b',m⟩:=q
   cases hb
   exact(hg.own id _ b' m hl hgi).2.resolve_right (hK0 _)
 ·have old:s.at i=some p->Rd w g (zZ ctx g new) p (a.tmps.getD i undef):=fun hq=>(hg.slots i p hq).keep hst (fun b hb _=>hFr b hb) (fun _ _=>rfl)
  have hp':(s.sets (.d (.rw (fun b=>(g id).map (·.1)=some b) e k l)) js).at i=some p:=Xw (by rw[We];exact Yp (s:=s.frzRw id _ e k l js) hp) (xI (s:=s.frzRw id _ e k l js) hp);rcases Wf _ js s i p hp' with⟨h1,rfl⟩ | h2
  ·have hr0:=hg.slots i _ (hjs i h1);have hob:=hg.objs id _ hl;show Rd w g (zZ ctx g new) _ _
   generalize hfl:wV l=fl at hob hl hn
   generalize hv:a.tmps.getD i undef=v at hr0
   cases hob with
   | rowNil _ _ hgn=>
    cases hr0 with
    | row _ _ blk cap hgi=>rw[hgn] at hgi;cases hgi
    | rowNil=>
     have:l=[]:=by cases l with | nil=>rfl | cons _ _=>simp[wV] at hfl
     subst this;exact .d (.rwNil _ e k fun b hb=>by rw[hgn] at hb;cases hb)
   | row _ _ _ blk' cap' cur hgi hh hlc hcap hcs hkk hr'=>
    cases hr0 with
    | rowNil _ hgn=>rw[hgn] at hgi;cases hgi
    | row _ _ blk cap hgi'=>
     rw[hgi] at hgi'
     cases hgi'
     have hlen:fl.length=l.length:=by rw[<- hfl];simp[wV]
     have hown:=hg.own id _ blk' cap' hl hgi;have hfree:zZ ctx g new blk':=⟨hown.2.elim .inr fun h=>.inl (hK _ h),fun j o m hj hgj=>by
      obtain⟨hne,o',hj'⟩:=hex hj;exact hne (hg.inj j id o' _ blk' m cap' hj' hl hgj hgi)⟩
     rw[<- hn,hlen];refine .d (.rw _ e k l blk' cap' cur hfree (by rw[hgi];rfl) hown.1 hh (by omega) hcap hcs (fun i cs hi=>?_) (fun i cs j x hi hx=>?_))
     ·have:=hkk i (cs.map .v) (by rw[<- hfl];unfold wV;rw[List.getElem?_map,hi];rfl);simpa using this
     ·obtain⟨u,hu,hd⟩:=hr' i (cs.map .v) j (.v x) (by rw[<- hfl];unfold wV;rw[List.getElem?_map,hi];rfl) (by rw[List.getElem?_map,hx];rfl)
      cases hd with
      | v _ h1=>exact⟨hu,h1⟩
  ·exact old h2
 ·rcases hlk hj with⟨rfl,rfl⟩ | ⟨_,_,hj'⟩
  ·obtain⟨blk,m,hgi⟩:=qQ (hg.objs j _ ho);refine hF.obj' (hg.objs j _ ho) hgi hgi rfl fun y u hy hd=>?_
   refine .od N y u ((hp y hy w _ u hd).mono fun b hb=>⟨hFr b hb,fun e=>?_⟩)
   cases hgd:g id with
   | none=>rw[hgd] at e;cases e
   | some q=>
    obtain⟨b',m'⟩:=q;rw[hgd] at e;cases e;exact hb.2 id _ m' hl hgd
  ·exact(hg.objs j o hj').keep hst (fun b hb _=>hFr b hb) (fun _ _ _=>rfl) rfl (fun _ _=>rfl)
 ·obtain⟨_,o1,e1⟩:=hex hi;obtain⟨_,o2,e2⟩:=hex hj;exact hg.inj i j o1 o2 b n m e1 e2 hgi hgj
 ·obtain⟨_,o1,e1⟩:=hex hj;exact hg.own j o1 b n e1 hgj
theorem rwLt{id j k:Nat}{T e:TypeId}{cs:List PV}{β:Option Nat}{l:List (List Value)}(hl:look s.objs id=some (.cells T cs))(hj:cs[j]?=some (.d (.rw (fun b=>β=some b) e k l))):∀ a w,Rel ctx s a w->∀ b,w.heap.size<=b->β≠some b:=by
 rintro a w ⟨g,hg⟩ b hb e
 cases hg.objs id _ hl with
 | cells _ _ blk n us h1 h2 h3 h4 h5=>
  have hjl:j < us.length:=by rw[<- h3];exact(List.getElem?_eq_some_iff.1 hj).1
  have:=h4 j _ _ hj (List.getElem?_eq_getElem hjl)
  generalize us[j]=u at this
  cases this with
  | d hd=>
   cases hd with
   | rwNil _ _ _ h=>exact h b e
   | rw _ _ _ _ blk cap cur hS hM hb2=>rw[e] at hM;cases hM;omega
theorem Rel.putOb{a:Act}{w:World}{id:Nat}{o o':Ob}(hl:look s.objs id=some o)(hc:∀ g:zR,ObRd w g (zZ ctx g s.objs) id o->ObRd w g (zZ ctx g s.objs) id o')(hr:Rel ctx s a w):Rel ctx ⟨s.n,s.sl,zi id o' s.objs⟩ a w:=by
 obtain⟨g,hg⟩:=hr;have hlk:∀ {j:Nat} {q:Ob},look (zi id o' s.objs) j=some q->(j=id/\q=o')\/(j≠id/\look s.objs j=some q):=fun {j q} h=>by
  rw[zC] at h
  by_cases e:j=id
  ·rw[if_pos e] at h;exact .inl ⟨e,by simpa using h.symm⟩
  ·rw[if_neg e] at h;exact .inr ⟨e,h⟩
 have hex:∀ {j:Nat} {q:Ob},look (zi id o' s.objs) j=some q->∃ q',look s.objs j=some q':=fun {j q} h=>by
  rcases hlk h with⟨rfl,_⟩ | ⟨_,h⟩
  ·exact⟨_,hl⟩
  ·exact⟨_,h⟩
 have hS:∀ b,zZ ctx g s.objs b->zZ ctx g (zi id o' s.objs) b:=fun b hb=>(JV hl).2 hb
 have hst:zx w w (zZ ctx g s.objs):=⟨Nat.le_refl _,fun _ _ _=>rfl⟩
 refine⟨g,⟨hg.defers,hg.size,fun i p hp=>(hg.slots i p hp).keep hst (fun b hb _=>hS b hb) (fun _ _=>rfl),fun j q hj=>?_,fun i j oi oj b n m hi hj hgi hgj=>?_,fun j q b n hj hgj=>?_,hg.os,hg.tape,hg.output,hg.grows,hg.keep⟩⟩
 ·rcases hlk hj with⟨rfl,rfl⟩ | ⟨_,hj⟩
  ·exact(hc g (hg.objs j _ hl)).keep hst (fun b hb _=>hS b hb) (fun _ _ _=>rfl) rfl (fun _ _=>rfl)
  ·exact(hg.objs j q hj).keep hst (fun b hb _=>hS b hb) (fun _ _ _=>rfl) rfl (fun _ _=>rfl)
 ·obtain⟨o1,e1⟩:=hex hi;obtain⟨o2,e2⟩:=hex hj;exact hg.inj i j o1 o2 b n m e1 e2 hgi hgj
 ·obtain⟨o1,e1⟩:=hex hj;exact hg.own j o1 b n e1 hgj
theorem od_old{w:World}{S N:Nat->Prop}{y:DV}{u:Value}(h:DRd w S (.od N y) u):DRd w S (.od (Yn w.heap.size) y) u:=by
 cases h with
 | od _ _ _ h0=>exact .od _ _ _ (h0.bound.mono fun b hb=>⟨hb.1.1,hb.2⟩)
theorem FL.oldO{F:(DV->DV)->List DV}(hF:FL F){w:World}{g:zR}{S N:Nat->Prop}{id:Nat}{T:TypeId}(h:ObRd w g S id (.cells T ((F (.od N)).map .d))):ObRd w g S id (.cells T ((F (.od (Yn w.heap.size))).map .d)):=by
 obtain⟨blk,n,hgi⟩:=qQ h;exact hF.obj h hgi hgi rfl fun y u hd=>od_old hd
theorem FL.mapOld{α κ:Type}{eK:κ->List Int}{F:α->(DV->DV)->List DV}(hF:∀ x,FL (F x)){w:World}{g:zR}{S N:Nat->Prop}{id:Nat}{nl ag:Bool}{ks:List IntKind}{m:List (κ×α)}(h:ObRd w g S id (.mapH nl ks ag (zI eK (fun x=>F x (.od N)) m))):ObRd w g S id (.mapH nl ks ag (zI eK (fun x=>F x (.od (Yn w.heap.size))) m)):=by
 have hlen:(zI eK (fun x=>F x (.od N)) m).length=(zI eK (fun x=>F x (.od (Yn w.heap.size))) m).length:=by simp[Wj]
 have hget:∀ (i:Nat) (ns:List Int) (cs:List DV),(zI eK (fun x=>F x (.od (Yn w.heap.size))) m)[i]?=some (ns,cs)->∃ x,m[i]?=some x/\ns=eK x.1/\cs=F x.2 (.od (Yn w.heap.size)):=fun i ns cs h=>by
  unfold zI at h;rw[List.getElem?_map] at h
  cases hx:m[i]? with
  | none=>rw[hx] at h;cases h
  | some x=>rw[hx] at h;simp only[Option.map_some,Option.some.injEq,Prod.mk.injEq] at h;exact⟨x,rfl,h.1.symm,h.2.symm⟩
 generalize hM:zI eK (fun x=>F x (.od N)) m=M at h hlen
 cases h with
 | mapHNil _ _ hgn=>
  have:zI eK (fun x=>F x (.od (Yn w.heap.size))) m=[]:=List.length_eq_zero_iff.1 hlen.symm;rw[this];exact .mapHNil _ _ hgn
 | mapH _ _ _ bs ck blk n es h1 h2 h3=>
  subst hM;refine .mapH ks ag _ bs ck blk n es h1 h2 (h3.conv hlen fun i ns cs hi=>?_);obtain⟨x,hx,rfl,rfl⟩:=hget i ns cs hi;refine⟨F x.2 (.od N),by unfold zI;rw[List.getElem?_map,hx];rfl,(hF x.2).get.1 _ _,fun j x' u hj=>?_⟩;rcases(hF x.2).get.2 j with h | ⟨z,h⟩ | ⟨z,h⟩
  ·rw[h] at hj;cases hj
  ·rw[h] at hj;cases hj;exact⟨_,h _,fun h=>h⟩
  ·rw[h] at hj;cases hj;exact⟨_,h _,od_old⟩
theorem PWl.callObjW{ops:Array Oper}{rest:List Oper}{dst:Option Tmp}{ty:TypeId}{pos:String}{after:Array Edge}{gd:Option (Nat×Bool)}{x:Operand}{xs:List Operand}{ats:Array TypeId}{f:FuncId}{ps qs:List PV}{os os':Nat->List (Nat×Ob)}{pins:List Nat}{r:PV}(t:Nat->PState)(ht:∀ a w,Rel ctx s a w->Rel ctx (t w.heap.size) a w)(ρ:List (Nat×Nat))(js ks:List Nat)
  (hc:∀ B,PObjN P f (Jx ctx B) ps (os B) pins r (fun _:Unit=>os' B)) (hK:∀ b,ctx.K b->ctx.S b) (hx:∀ B,(t B).ev x=some (.d (.v (.func (.func f) #[] #[])))) (he:∀ args w,(callFunc f args).run P w=.ok (.enter f args) w) (hps:∀ B,(t B).evs xs=some qs) (hq:qs.map PV.nilD=ps.map (PV.ren ρ)) (hos:∀ B,AllOb (t B) ρ (os B))
  (hks:∀ B,(os' B).map (·.1)=ks) (hcl:∀ B,(os' B).all (fun x=>x.2.named ks)=true) (hr:r.named ks=true) (hok:∀ B,vN (t B) ρ js ((os B).map (·.1)) pins ks=true) (hgd:gd=none)
  (h:∀ B,ctx.w0.heap.size<=B->PWl P ctx ops Q rest (((t B).callO ρ js (os B) (os' B)).putD dst (r.ren ρ))):PWl P ctx ops Q (⟨dst,.call ⟨.value x,xs.toArray,ats⟩,ty,pos,after,gd⟩::rest) s:=by
 intro a w hr0;obtain⟨g,hg⟩:=ht a w hr0;refine wpList_plain hgd fun K hK2=>?_
 obtain⟨hlen,hreal⟩:=VR (hps _) hg;unfold Oper.wp;rw[xW (o:=⟨dst,.call ⟨.value x,xs.toArray,ats⟩,ty,pos,after,gd⟩) rfl (Xu hg (hx _)) he w];rw[List.map_toArray];refine(uN ρ js ks hK hq (hos _) (fun _=>hks _) (fun _=>hcl _) hr (hok _) hg hlen hreal dst (hc w.heap.size w (fun b hb=>⟨hb,Nat.le_trans hg.grows hb⟩) _)).mono fun en w' ⟨u,gh,he,hrel⟩=>?_
 subst he;exact hK2 _ _ (h w.heap.size hg.grows _ _ hrel)
end
theorem PObjN.all{G:Type}{P:Program}{f:FuncId}{ps:List PV}{os:List (Nat×Ob)}{pins:List Nat}{r:PV}{os':G->List (Nat×Ob)}(h:PObjN P f (fun _=>True) ps os pins r os'):PObj P f ps os pins r os':=fun w g S vs=>h w (fun _ _=>trivial) S g vs
theorem PObj.weakR{G:Type}{P:Program}{f:FuncId}{ps:List PV}{os:List (Nat×Ob)}{pins:List Nat}{r r':PV}{os':G->List (Nat×Ob)}(h:PObj P f ps os pins r os')(hw:Wk r r'):PObj P f ps os pins r' os':=fun w g S vs h1 h2 h3 h4=>
 (h w g S vs h1 h2 h3 h4).mono fun _ _ ⟨u,g',gh,he,hp⟩=>⟨u,g',gh,he,⟨hp.eos,hp.tape,hp.output,hp.grows,hp.keep,hp.own,hp.pin,hw _ _ _ _ hp.res,hp.obs⟩⟩
theorem Wk.slm{α:Type}{F:α->(DV->DV)->List DV}(hF:∀ x,FL (F x))(N:Nat->Prop)(l:List α):Wk (.d (.sl (l.map fun x=>F x (.nw N)))) (.d (.sl (l.map fun x=>F x fun y=>y))):=fun w g S u h=>by
 have hlen:(l.map fun x=>F x (.nw N)).length=(l.map fun x=>F x fun y=>y).length:=by simp
 have hget:∀ (i:Nat) (cs:List DV),(l.map fun x=>F x fun y=>y)[i]?=some cs->∃ x,l[i]?=some x/\cs=F x fun y=>y:=fun i cs h=>by
  rw[List.getElem?_map] at h
  cases hx:l[i]? with
  | none=>rw[hx] at h;cases h
  | some x=>rw[hx] at h;exact⟨x,rfl,by simpa using h.symm⟩
 cases h with
 | d h=>
  generalize hL:(l.map fun x=>F x (.nw N))=L at h hlen
  cases h with
  | nil a cap hc hn=>
   have:(l.map fun x=>F x fun y=>y)=[]:=List.length_eq_zero_iff.1 hlen.symm;rw[this];exact .d (.nil a cap hc hn)
  | sl _ b off cap k c hl hcap hS hb hk hc hr=>
   subst hL;rw[hlen];refine .d (.sl _ b off cap k c (by rw[<- hlen];exact hl) hcap hS hb (fun i cs hi=>?_) (fun i j hi hj=>hc i j (by rw[hlen];exact hi) hj) (fun i cs j x hi hx=>?_))
   ·obtain⟨x,h1,rfl⟩:=hget i cs hi;rw[(hF x).get.1 (fun y=>y) (.nw N)];exact hk i _ (by rw[List.getElem?_map,h1];rfl)
   ·obtain⟨y,h1,rfl⟩:=hget i cs hi;have hi2:(l.map fun x=>F x (.nw N))[i]?=some (F y (.nw N)):=by rw[List.getElem?_map,h1];rfl
    rcases(hF y).get.2 j with h | ⟨z,h⟩ | ⟨z,h⟩
    ·rw[h] at hx;cases hx
    ·rw[h] at hx;cases hx;exact hr i _ j _ hi2 (h _)
    ·rw[h] at hx;cases hx;exact(hr i _ j _ hi2 (h _)).unmark
end Go.Ep
namespace Go.Ep
structure DT where
 dev:Int
 n:Int
 deriving DecidableEq
structure EV where
 dot:DT
 kind:Int
 cid:Int
 field:Int
 text:ByteArray
 kills:List DT
 deriving DecidableEq
structure RN where
 lo:Int
 hi:Int
 deriving DecidableEq
structure PT where
 dev:Int
 runs:List RN
 deriving DecidableEq
end Go.Ep
namespace Go.Ep
def DT.e(x:DT):List DV:=[.v (.int .u16 x.dev),.v (.int .u64 x.n)]
def DT.v(x:DT):List Value:=[(.int .u16 x.dev),(.int .u64 x.n)]
theorem DT.v1(x:DT):∀ u∈x.v,u.oneCell'=true:=by
 intro u hu;simp only[DT.v,List.mem_cons,List.not_mem_nil,or_false] at hu;rcases hu with rfl | rfl <;> rfl
def DT.k(x:DT):List Int:=[x.dev,x.n]
theorem DT.k_inj(a b:DT)(h:a.k=b.k):a=b:=by
 cases a;cases b;simp[DT.k] at h;simp[h]
def EV.e(x:EV):List DV:=[.v (.int .u16 x.dot.dev),.v (.int .u64 x.dot.n),.v (.int .u8 x.kind),.v (.int .u64 x.cid),.v (.int .u8 x.field),.v (.string x.text),.sl (List.map DT.e x.kills)]
def RN.e(x:RN):List DV:=[.v (.int .u64 x.lo),.v (.int .u64 x.hi)]
def RN.v(x:RN):List Value:=[(.int .u64 x.lo),(.int .u64 x.hi)]
theorem RN.v1(x:RN):∀ u∈x.v,u.oneCell'=true:=by
 intro u hu;simp only[RN.v,List.mem_cons,List.not_mem_nil,or_false] at hu;rcases hu with rfl | rfl <;> rfl
def RN.k(x:RN):List Int:=[x.lo,x.hi]
def PT.e(x:PT):List DV:=[.v (.int .u16 x.dev),.sl (List.map RN.e x.runs)]
end Go.Ep
namespace Go.Ep
open Go.RowKit
section
variable{P:Program}
theorem VT{kt:TypeId}{k1 k2:IntKind}(he:∀ {a0 a1 b0 b1:Int},zPa P kt [.int k1 a0,.int k2 a1] [.int k1 b0,.int k2 b1] (decide (a0=b0)&&decide (a1=b1)))(w:World)(x y:Int) :
  ∀ (m:Mp) (es:List MapEntry) (i:Nat),es.length=m.length->(∀ (i:Nat) (e:MapEntry) (n:List Int) (c:List DV),es[i]?=some e->m[i]?=some (n,c)->e.key=ve [k1,k2] n/\n.length=2) ->
  (Instr.findAsking kt (ve [k1,k2] [x,y]) es i).run P w=.ok ((yY [x,y] m 0).bind fun j=>(es[j]?).map fun e=>(i+j,e.val)) w
 | [],es,i,hl,_=>by
  have:es=[]:=List.eq_nil_of_length_eq_zero hl;subst this;simp[Instr.findAsking,yY]
 | (ns,c)::m,[],i,hl,_=>by simp at hl
 | (ns,c)::m,e::es,i,hl,h=>by
  obtain⟨hk,hn⟩:=h 0 e ns c rfl rfl;obtain⟨a,b,rfl⟩:∃ a b,ns=[a,b]:=by
   match ns,hn with
   | [a,b],_=>exact⟨a,b,rfl⟩
  have ih:=VT he w x y m es (i+1) (by simpa using hl) (fun j e' n' c' h1 h2=>h (j+1) e' n' c' (by simpa using h1) (by simpa using h2));have heq:(Op.equal kt (ve [k1,k2] [x,y]) e.key).run P w=.ok (decide (x=a)&&decide (y=b)) w:=by
   rw[hk];exact(he (a0:=x) (a1:=y) (b0:=a) (b1:=b)).2 w
  unfold Instr.findAsking;simp only[Sem.run_bind,heq,Result.andThen_ok,Sem.run_ite]
  by_cases e1:x=a/\y=b
  ·obtain⟨rfl,rfl⟩:=e1;simp[yY]
  ·have e2:¬ ([a,b]:List Int)=[x,y]:=fun h=>e1 (by simp at h;exact⟨h.1.symm,h.2.symm⟩)
   have e3:(decide (x=a)&&decide (y=b))=false:=by
    rw[Bool.and_eq_false_iff,decide_eq_false_iff_not,decide_eq_false_iff_not]
    by_cases h0:x=a
    ·exact .inr fun h=>e1 ⟨h0,h⟩
    ·exact .inl h0
   rw[e3,if_neg (by simp),ih];show _=Result.ok ((if [a,b]=[x,y] then some 0 else yY [x,y] m (0+1)).bind _) w;rw[if_neg e2,xf [x,y] m (0+1)]
   cases yY [x,y] m 0 with
   | none=>rfl
   | some j=>
    simp only[Option.map_some,Option.bind_some,Nat.zero_add,Nat.add_comm 1 j,List.getElem?_cons_succ]
    cases es[j]? with
    | none=>rfl
    | some z=>simp;omega
theorem KeyOK.pair{kt:TypeId}{k1 k2:IntKind}{d:TypeDesc}(hu:P.underlying kt=some d)(hd:∀ us vs,Instr.sameNow d (.agg us) (.agg vs)=none)
  (hc:∀ (w:World) (e:Bool) (a b:Int),(Instr.checkKey e 10000 kt (.agg #[.int k1 a,.int k2 b])).run P w=.ok () w)
  (he:∀ {a0 a1 b0 b1:Int},zPa P kt [.int k1 a0,.int k2 a1] [.int k1 b0,.int k2 b1] (decide (a0=b0)&&decide (a1=b1))):KeyOK P kt [k1,k2]:=by
 refine⟨fun w e ns hn=>?_,fun w ns m es hn hl h=>?_⟩
 ·obtain⟨a,b,rfl⟩:∃ a b,ns=[a,b]:=by
   match ns,hn with
   | [a,b],_=>exact⟨a,b,rfl⟩
  exact hc w e a b
 ·obtain⟨a,b,rfl⟩:∃ a b,ns=[a,b]:=by
   match ns,hn with
   | [a,b],_=>exact⟨a,b,rfl⟩
  unfold Instr.findKey;simp only[Sem.run_bind,run_underlying hu,Result.andThen_ok]
  cases es with
  | nil=>
   have:m=[]:=List.eq_nil_of_length_eq_zero (by simpa using hl.symm);subst this;simp[Instr.findNow,yY]
  | cons e r=>
   have hnow:Instr.findNow d (ve [k1,k2] [a,b]) (e::r) 0=none:=by
    unfold Instr.findNow
    cases m with
    | nil=>simp at hl
    | cons x m'=>
     obtain⟨n,c⟩:=x;obtain⟨hk,hn2⟩:=h 0 e n c rfl rfl;obtain⟨a',b',rfl⟩:∃ a b,n=[a,b]:=by
      match n,hn2 with
      | [a,b],_=>exact⟨a,b,rfl⟩
     rw[hk];have:=hd #[.int k1 a,.int k2 b] #[.int k1 a',.int k2 b'];show(match Instr.sameNow d (.agg #[.int k1 a,.int k2 b]) (.agg #[.int k1 a',.int k2 b']) with | some true=>_ | some false=>_ | none=>_)=_;rw[this]
   rw[hnow];have:=VT he w a b m (e::r) 0 hl h;simp only[Nat.zero_add] at this;exact this
end
end Go.Ep
namespace Go.Proofs
open Go.Ep
set_option linter.unusedSimpArgs false
theorem uO : ElemOK Tryz.prog 26 25 2 16:=ElemOK.mk' (z:=.agg #[.int .u16 0,.int .u64 0]) Tryz.underlying26 (by kernel_rfl) rfl
theorem VU : ElemOK Tryz.prog 30 56 2 32:=ElemOK.mk' (z:=.agg #[.int .u16 0,.slice none 0 0]) Tryz.underlying30 (by kernel_rfl) rfl
theorem xA : ElemOK Tryz.prog 32 28 7 80:=ElemOK.mk' (z:=.agg #[.int .u16 0,.int .u64 0,.int .u8 0,.int .u64 0,.int .u8 0,.string ⟨#[]⟩,.slice none 0 0]) Tryz.underlying32 (by kernel_rfl) rfl
theorem vO : ElemOK Tryz.prog 54 80 2 16:=ElemOK.mk' (z:=.agg #[.int .u64 0,.int .u64 0]) Tryz.underlying54 (by kernel_rfl) rfl
theorem Qb : ElemOK Tryz.prog 93 47 1 8:=ElemOK.mk' (z:=.map none) Tryz.underlying93 (by kernel_rfl) rfl
theorem elem110 : ElemOK Tryz.prog 110 30 1 24:=ElemOK.mk' (z:=.slice none 0 0) Tryz.underlying110 (by kernel_rfl) rfl
theorem WB : ElemOK Tryz.prog 141 23 1 8:=ElemOK.mk' (z:=.int .u64 0) Tryz.underlying141 (by kernel_rfl) rfl
theorem Zf : Yr Tryz.prog 25 [(0,1),(1,1)] [.int .u16 0,.int .u64 0]:=fun parts=>by kernel_rfl
theorem WC : Yr Tryz.prog 28 [(0,2),(2,1),(3,1),(4,1),(5,1),(6,1)] [.int .u16 0,.int .u64 0,.int .u8 0,.int .u64 0,.int .u8 0,.string ⟨#[]⟩,.slice none 0 0]:=fun parts=>by kernel_rfl
theorem build49 : Yr Tryz.prog 49 [(0,1),(1,1),(2,1)] [.slice none 0 0,.map none,.map none]:=fun parts=>by kernel_rfl
theorem qR : Yr Tryz.prog 56 [(0,1),(1,1)] [.int .u16 0,.slice none 0 0]:=fun parts=>by kernel_rfl
theorem jE : Yr Tryz.prog 80 [(0,1),(1,1)] [.int .u64 0,.int .u64 0]:=fun parts=>by kernel_rfl
theorem eq25{a0 b0:Int}{a1 b1:Int}:zPa Tryz.prog 25 [.int .u16 a0,.int .u64 a1] [.int .u16 b0,.int .u64 b1] ((decide (a0=b0)&&decide (a1=b1))):=by
 refine⟨by kernel_rfl,fun w=>?_⟩;have hu:Tryz.prog.underlying 25=some (.struct (Tryz.prog.fieldsOf 25)):=by simp only[Program.fieldsOf,Tryz.underlying25]
 rw[run_equalIn_agg w 9999 25 _ _ hu (by kernel_rfl)];simp[Program.fieldsOf,Tryz.underlying25,Op.eqFields,part,Tryz.isAgg22,Tryz.isAgg23,run_equalIn_int _ 9998 22 _ _ _ _ Tryz.underlying22,run_equalIn_int _ 9998 23 _ _ _ _ Tryz.underlying23,Result.andThen,XJ]
 all_goals (repeat' split) <;> simp_all
theorem eq80{a0 b0:Int}{a1 b1:Int}:zPa Tryz.prog 80 [.int .u64 a0,.int .u64 a1] [.int .u64 b0,.int .u64 b1] ((decide (a0=b0)&&decide (a1=b1))):=by
 refine⟨by kernel_rfl,fun w=>?_⟩;have hu:Tryz.prog.underlying 80=some (.struct (Tryz.prog.fieldsOf 80)):=by simp only[Program.fieldsOf,Tryz.underlying80]
 rw[run_equalIn_agg w 9999 80 _ _ hu (by kernel_rfl)];simp[Program.fieldsOf,Tryz.underlying80,Op.eqFields,part,Tryz.isAgg23,run_equalIn_int _ 9998 23 _ _ _ _ Tryz.underlying23,Result.andThen,XJ]
 all_goals (repeat' split) <;> simp_all
theorem chk47 : ∀ (w:World) (e:Bool) (a b:Int),(Instr.checkKey e 10000 25 (.agg #[.int .u16 a,.int .u64 b])).run Tryz.prog w=.ok () w:=by
 intro w e a b;have q1:∀ w,(Instr.checkKey e 9999 22 (.int .u16 a)).run Tryz.prog w=.ok () w:=fun w=>MapKept.run_checkKey (k:=.int .u16 a) Tryz.underlying22 rfl e 9998
 have q2:∀ w,(Instr.checkKey e 9999 23 (.int .u64 b)).run Tryz.prog w=.ok () w:=fun w=>MapKept.run_checkKey (k:=.int .u64 b) Tryz.underlying23 rfl e 9998
 unfold Instr.checkKey;simp[run_underlying Tryz.underlying25,Result.andThen,part,Tryz.isAgg22,Tryz.isAgg23,q1,q2]
theorem qV : KeyOK Tryz.prog 25 [.u16,.u64]:=KeyOK.pair Tryz.underlying25 (fun _ _=>rfl) chk47 eq25
theorem jF : KeyOK Tryz.prog 22 [.u16]:=KeyOK.int Tryz.underlying22
end Go.Proofs
namespace Go.Ep
def zQ(x y:DT):Bool:=decide (x.dev < y.dev)||(decide (x.dev=y.dev)&&decide (x.n < y.n))
def UH(x y:RN):Bool:=decide (x.lo < y.lo)
def UY(x y:PT):Bool:=decide (x.dev < y.dev)
def uX(x y:EV):Bool:=decide (x.dot.dev < y.dot.dev)||(decide (x.dot.dev=y.dot.dev)&&decide (x.dot.n < y.dot.n))
end Go.Ep
namespace Go.Ep
open Go
def YD(l1:List EV):Int->M (M.Step Int (M.Ex Unit Bool)):=fun i21=>
 cond ((decide (i21 < (l1.length:Int))))
  (M.bind (M.bind (M.idx l1 i21) fun x24=>
  cond ((decide (300 < (x24.kills.length:Int))))
   (M.pure true)
   (M.bind (M.idx l1 i21) fun x27=>
   M.pure ((decide (200 < (ByteArray.size x27.text:Int)))))) (fun v23=>
  cond v23
   (M.pure (.done (.ret false)))
   (M.pure (.next (IntKind.i64.wrap (i21+1))))))
  (M.pure (.done (.brk ())))
def VV(l1:List EV)(most2:Int):M Bool:=
 cond ((decide (most2 < (l1.length:Int))))
  (M.pure false)
  (M.bind (M.loop (YD l1) 0) (M.exk (fun _=>
  M.pure true)))
def YE(c1:List PT):Int->M (M.Step Int (M.Ex Unit Bool)):=fun i12=>
 cond ((decide (i12 < (c1.length:Int))))
  (M.bind (M.idx c1 i12) fun x14=>
  cond ((decide (30 < (x14.runs.length:Int))))
   (M.pure (.done (.ret false)))
   (M.pure (.next (IntKind.i64.wrap (i12+1)))))
  (M.pure (.done (.brk ())))
def jG(c1:List PT):M Bool:=
 cond ((decide (30 < (c1.length:Int))))
  (M.pure false)
  (M.bind (M.loop (YE c1) 0) (M.exk (fun _=>
  M.pure true)))
def zt(s1:List DT):M (List DT):=
 M.bind (M.isNil s1) fun b2=>
 cond b2
  (M.pure ([]:List DT))
  (M.yo ((List.length ([]:List DT)+s1.length)*16<=140737488355328) <|
  M.pure (([]:List DT)++s1))
def yP(e1:EV):M EV:=
 M.bind (M.det (zt e1.kills)) fun v2=>
 M.pure (⟨e1.dot,e1.kind,e1.cid,e1.field,e1.text,v2⟩:EV)
def xa(x1:Int):M Bool:=
 M.pure (!decide (x1=x1))
def yd(x1:Int)(y2:Int):M Int:=
 M.bind (M.det (xa x1)) fun v3=>
 M.bind (M.det (xa y2)) fun v5=>
 cond v3
  (cond v5
   (M.pure 0)
   (M.pure (-1)))
  (cond v5
   (M.pure 1)
   (cond (decide (x1 < y2))
    (M.pure (-1))
    (cond (decide (y2 < x1))
     (M.pure 1)
     (M.pure 0))))
def xb(x1:Int):M Bool:=
 M.pure (!decide (x1=x1))
def xH(x1:Int)(y2:Int):M Int:=
 M.bind (M.det (xb x1)) fun v3=>
 M.bind (M.det (xb y2)) fun v5=>
 cond v3
  (cond v5
   (M.pure 0)
   (M.pure (-1)))
  (cond v5
   (M.pure 1)
   (cond (decide (x1 < y2))
    (M.pure (-1))
    (cond (decide (y2 < x1))
     (M.pure 1)
     (M.pure 0))))
def jH(a1:DT)(b2:DT):M Int:=
 M.bind (M.det (xH a1.dev b2.dev)) fun v3=>
 cond (!decide (v3=0))
  (M.pure v3)
  (M.bind (M.det (yd a1.n b2.n)) fun v6=>
  M.pure v6)
def xM(d1:DT):M Bool:=
 M.bind (cond (decide (0 < d1.dev))
  (cond (decide (0 < d1.n))
   (M.pure (decide (d1.n<=281474976710655)))
   (M.pure false))
  (M.pure false)) (fun v2=>
 M.pure v2)
def ZB(v1:Int):M (Int×Int):=
 M.pure (((IntKind.u16.wrap (Int.fdiv v1 (2 ^ 48))),(bAnd .u64 v1 281474976710655)))
def YF(v1:Int):M (DT×Bool):=
 M.bind (M.det (ZB v1)) fun v2=>
 M.bind (M.det (xM (⟨v2.1,v2.2⟩:DT))) fun v4=>
 cond (!v4)
  (M.pure ((⟨0,0⟩:DT),false))
  (M.pure ((⟨v2.1,v2.2⟩:DT),true))
def YG(f1:Int):M Bool:=
 M.bind (cond (decide (1<=f1))
  (M.pure (decide (f1<=5)))
  (M.pure false)) (fun v2=>
 M.pure v2)
def xl(s1:ByteArray):Int->M (M.Step Int (M.Ex Unit Bool)):=fun v20=>
 cond ((decide (v20 < (ByteArray.size s1:Int))))
  (M.bind (M.bind (M.idx (vM s1) v20) fun b23=>
  cond (decide (b23 < 32))
   (M.pure true)
   (M.bind (M.idx (vM s1) v20) fun b26=>
   M.pure (decide (126 < b26)))) (fun v22=>
  cond v22
   (M.pure (.done (.ret false)))
   (M.pure (.next (IntKind.i64.wrap (v20+1))))))
  (M.pure (.done (.brk ())))
def YH(s1:ByteArray):M Bool:=
 cond ((decide (60 < (ByteArray.size s1:Int))))
  (M.pure false)
  (M.bind (M.loop (xl s1) 0) (M.exk (fun _=>
  M.pure true)))
def ye(l1:List DT):Int->M (M.Step Int (M.Ex Unit Bool)):=fun v23=>
 cond ((decide (v23 < (l1.length:Int))))
  (M.bind (cond (decide (0 < v23))
   (M.bind (M.idx l1 (IntKind.i64.wrap (v23 - 1))) fun x27=>
   M.bind (M.idx l1 v23) fun x29=>
   M.bind (M.det (jH x27 x29)) fun v31=>
   M.pure (decide (0<=v31)))
   (M.pure false)) (fun v25=>
  cond v25
   (M.pure (.done (.ret false)))
   (M.pure (.next (IntKind.i64.wrap (v23+1))))))
  (M.pure (.done (.brk ())))
def YI(l1:List DT):M Bool:=
 M.bind (M.loop (ye l1) 0) (M.exk (fun _=>
 M.pure true))
def xm(e1:EV):Int->M (M.Step Int (M.Ex Unit Bool)):=fun v43=>
 cond ((decide (v43 < (e1.kills.length:Int))))
  (M.bind (M.idx e1.kills v43) fun x45=>
  M.bind (M.bind (M.det (xM x45)) fun v48=>
  cond (!v48)
   (M.pure true)
   (M.pure (((decide (x45.dev=e1.dot.dev)&&decide (x45.n=e1.dot.n)))))) (fun v47=>
  cond v47
   (M.pure (.done (.ret false)))
   (M.pure (.next (IntKind.i64.wrap (v43+1))))))
  (M.pure (.done (.brk ())))
def uh(e1:EV):M Bool:=
 M.bind (M.det (YF e1.cid)) fun v2=>
 M.bind (cond (!v2.2)
  (M.pure true)
  (M.bind (M.det (xM e1.dot)) fun v6=>
  M.pure (!v6))) (fun v4=>
 cond v4
  (M.pure false)
  (M.bind (cond (decide (e1.kind=1))
   (M.bind (M.bind (M.det (YG e1.field)) fun v11=>
   cond (!v11)
    (M.pure true)
    (M.bind (M.det (YH e1.text)) fun v14=>
    M.pure (!v14))) (fun v10=>
   cond v10
    (M.pure (.ret false))
    (M.pure (.brk ()))))
   (cond (decide (e1.kind=2))
    (M.bind (cond (!decide (e1.field=0))
     (M.pure true)
     (M.pure ((!decide (e1.text=(⟨#[]⟩:ByteArray)))))) (fun v18=>
    cond v18
     (M.pure (.ret false))
     (M.pure (.brk ()))))
    (M.pure (.ret false)))) (M.exk (fun _=>
  M.bind (cond ((decide (256 < (e1.kills.length:Int))))
   (M.pure true)
   (M.bind (M.det (YI e1.kills)) fun v23=>
   M.pure (!v23))) (fun v21=>
  cond v21
   (M.pure false)
   (M.bind (M.loop (xm e1) 0) (M.exk (fun _=>
   M.pure true))))))))
def wk(l1:List RN):Int×List RN->M (M.Step (Int×List RN) (List RN)):=fun⟨v23,some24⟩=>
 cond ((decide (v23 < (l1.length:Int))))
  (M.bind (M.bind (M.idx l1 v23) fun x27=>
  M.bind (cond (decide (0 < x27.lo))
   (cond (decide (x27.lo<=x27.hi))
    (M.pure (decide (x27.hi<=281474976710655)))
    (M.pure false))
   (M.pure false)) (fun v29=>
  cond v29
   (M.yo ((some24.length+List.length ([x27]))*16<=140737488355328) <|
   M.pure (some24++[x27]))
   (M.pure some24))) (fun some26=>
  M.pure (.next (((IntKind.i64.wrap (v23+1)),some26)))))
  (M.pure (.done some24))
def wn(some2:List RN)(s34:List RN):Int×List RN->M (M.Step (Int×List RN) (List RN)):=fun⟨v69,out70⟩=>
 cond ((decide (v69 < ((some2.length):Int))))
  (M.bind (M.bind (M.idx s34 v69) fun x73=>
  M.bind (cond ((decide (0<=((IntKind.i64.wrap (((out70.length):Int) - 1))))))
   (M.bind (M.idx out70 ((IntKind.i64.wrap (((out70.length):Int) - 1)))) fun x77=>
   M.pure ((decide (x73.lo<=(IntKind.u64.wrap (x77.hi+1))))))
   (M.pure false)) (fun v75=>
  cond v75
   (M.bind (M.idx out70 ((IntKind.i64.wrap (((out70.length):Int) - 1)))) fun x80=>
   M.bind (M.idx out70 ((IntKind.i64.wrap (((out70.length):Int) - 1)))) fun x82=>
   M.pure ((List.set out70 ((Int.toNat ((IntKind.i64.wrap (((out70.length):Int) - 1))))) (⟨x82.lo,(max x80.hi x73.hi)⟩:RN))))
   (M.yo ((out70.length+List.length ([x73]))*16<=140737488355328) <|
   M.pure (out70++[x73])))) (fun out72=>
  M.pure (.next (((IntKind.i64.wrap (v69+1)),out72)))))
  (M.pure (.done out70))
def wq(l1:List RN):M (List RN):=
 M.bind (M.loop (wk l1) (0,([]:List RN))) (fun some2=>
 M.yo (some2.length < 4611686018427387904)<|M.bind (M.srt UH some2) fun s34=>
 M.bind (M.loop (wn some2 s34) (0,([]:List RN))) (fun out38=>
 M.pure out38))
def vo(x1:RN)(n2:Int):M Int:=
 M.bind (M.det (yd x1.hi n2)) fun v3=>
 M.pure v3
def zW(x1:List RN)(target2:Int):Int×Int->M (M.Step (Int×Int) Int):=fun⟨i18,j19⟩=>
 cond (decide (i18 < j19))
  (M.bind (M.idx x1 ((IntKind.i64.wrap ((Int.fdiv ((IntKind.u64.wrap (IntKind.i64.wrap (i18+j19)))) (2 ^ 1)))))) fun x21=>
  M.bind (M.det (vo x21 target2)) fun v23=>
  cond (decide (v23 < 0))
   (M.pure (.next (((IntKind.i64.wrap (((IntKind.i64.wrap ((Int.fdiv ((IntKind.u64.wrap (IntKind.i64.wrap (i18+j19)))) (2 ^ 1)))))+1)),j19))))
   (M.pure (.next ((i18,(IntKind.i64.wrap ((Int.fdiv ((IntKind.u64.wrap (IntKind.i64.wrap (i18+j19)))) (2 ^ 1)))))))))
  (M.pure (.done i18))
def zL(x1:List RN)(target2:Int):M (Int×Bool):=
 M.bind (M.loop (zW x1 target2) (0,(x1.length:Int))) (fun i3=>
 M.bind (cond ((decide (i3 < (x1.length:Int))))
  (M.bind (M.idx x1 i3) fun x28=>
  M.bind (M.det (vo x28 target2)) fun v30=>
  M.pure (decide (v30=0)))
  (M.pure false)) (fun v26=>
 M.pure (i3,v26)))
def Wn(l1:List RN)(n2:Int):M Bool:=
 M.bind (M.det (wq l1)) fun v3=>
 M.bind (M.det (zL v3 n2)) fun v5=>
 M.bind (cond ((decide (v5.1 < (v3.length:Int))))
  (M.bind (M.idx v3 v5.1) fun x9=>
  M.pure (decide (x9.lo<=n2)))
  (M.pure false)) (fun v7=>
 M.pure v7)
def ze(p:PT):Option (Int×List RN):=if 0 < p.dev then some (p.dev,p.runs) else none
def XT(c1:List PT):M (List (Int×List RN)):=
 M.yo (AL.growOK 16 (c1.length) (List.filterMap ze c1)) <|
 M.pure ((AL.grow ([]:List (Int×List RN)) (List.filterMap ze c1)))
def Wo(c1:List PT)(dev2:Int):M (List RN):=
 M.bind (M.det (XT c1)) fun v3=>
 M.bind (M.det (wq (AL.getZ v3 dev2 ([]:List RN)))) fun v6=>
 M.pure v6
def uY(c1:List PT)(d2:DT):M Bool:=
 M.bind (cond (decide (0 < d2.dev))
  (M.bind (M.det (Wo c1 d2.dev)) fun v5=>
  M.bind (M.det (Wn v5 d2.n)) fun v7=>
  M.pure v7)
  (M.pure false)) (fun v3=>
 M.pure v3)
def zf(row1:List DT)(k148:Int):Int×Int×List DT->M (M.Step (Int×Int×List DT) (Int×List DT)):=fun⟨k197,k2_198,v199⟩=>
 cond ((decide (k2_198 < ((((row1.length - Int.toNat k148):Nat):Int)))))
  (M.bind (M.yo ((0:Int)<=k2_198/\k2_198 < (((row1.length - Int.toNat k148):Nat):Int))<|M.bind (M.idx v199 ((((Int.toNat k148)+Int.toNat k2_198):Nat):Int)) fun x203=>
  M.yo ((0:Int)<=(IntKind.i64.wrap (k2_198 - 1))/\(IntKind.i64.wrap (k2_198 - 1)) < (((row1.length - Int.toNat k148):Nat):Int))<|M.bind (M.idx v199 ((((Int.toNat k148)+Int.toNat (IntKind.i64.wrap (k2_198 - 1))):Nat):Int)) fun x207=>
  cond ((!(decide (x203.dev=x207.dev)&&decide (x203.n=x207.n))))
   (M.yo ((0:Int)<=k2_198/\k2_198 < (((row1.length - Int.toNat k148):Nat):Int))<|M.bind (M.idx v199 ((((Int.toNat k148)+Int.toNat k2_198):Nat):Int)) fun x212=>
   M.bind (M.idx v199 k197) fun x216=>
   M.pure (((IntKind.i64.wrap (k197+1)),(List.set v199 (Int.toNat k197) x212))))
   (M.pure (k197,v199))) (fun⟨k201,v202⟩=>
  M.pure (.next ((k201,(IntKind.i64.wrap (k2_198+1)),v202)))))
  (M.pure (.done (k197,v199)))
def zg(row1:List DT):Int->M (M.Step Int (M.Ex Unit (List DT))):=fun k148=>
 cond ((decide (k148 < ((row1.length):Int))))
  (M.bind (M.bind (M.idx row1 k148) fun x150=>
  M.bind (M.idx row1 (IntKind.i64.wrap (k148 - 1))) fun x152=>
  cond (((decide (x150.dev=x152.dev)&&decide (x150.n=x152.n))))
   (M.yo ((0:Int)<=k148/\k148<=(row1.length:Int)) <|
   M.bind (M.loop (zf row1 k148) (k148,1,row1)) (fun⟨k156,v157⟩=>
   M.yo ((0:Int)<=k156/\k156<=(v157.length:Int)) <|
   M.yo ((Int.toNat k156)+(v157.length - Int.toNat k156)<=v157.length) <|
   M.yo ((0:Int)<=0/\(0:Int)<=k156/\k156<=(List.length ((List.take (Int.toNat k156) v157++List.replicate (v157.length - Int.toNat k156) (⟨0,0⟩:DT)++List.drop ((Int.toNat k156)+(v157.length - Int.toNat k156)) v157)):Int)) <|
   M.pure (.ret ((.done ((.ret (((List.take (Int.toNat k156) ((List.take (Int.toNat k156) v157++List.replicate (v157.length - Int.toNat k156) (⟨0,0⟩:DT)++List.drop ((Int.toNat k156)+(v157.length - Int.toNat k156)) v157))))))))))))
   (M.pure (.brk ()))) (M.exk (fun _=>
  M.pure (.next (IntKind.i64.wrap (k148+1))))))
  (M.pure (.done (.brk ())))
def zj(row1:List DT):M (List DT):=
 cond ((decide (((row1.length):Int) < 2)))
  (M.pure row1)
  (M.bind (M.loop (zg row1) 1) (M.exk (fun _=>
  M.pure row1)))
def Wp(l1:List DT):M (List DT):=
 M.bind (M.det (zt l1)) fun v2=>
 M.yo (v2.length < 4611686018427387904)<|M.bind (M.srt zQ v2) fun s4=>
 M.bind (M.det (zj s4)) fun y8=>
 M.pure y8
def vV(l1:List EV):Int×List DT->M (M.Step (Int×List DT) (List DT)):=fun⟨v15,out16⟩=>
 cond ((decide (v15 < (l1.length:Int))))
  (M.bind (M.idx l1 v15) fun x18=>
  M.yo ((out16.length+List.length ([x18.dot]))*16<=140737488355328) <|
  M.yo ((List.length (out16++[x18.dot])+x18.kills.length)*16<=140737488355328) <|
  M.pure (.next (((IntKind.i64.wrap (v15+1)),((out16++[x18.dot])++x18.kills)))))
  (M.pure (.done out16))
def vg(l1:List EV):M (List DT):=
 M.bind (M.loop (vV l1) (0,([]:List DT))) (fun out2=>
 M.bind (M.det (Wp out2)) fun v22=>
 M.pure v22)
def vH(e1:EV)(cv2:Int)(cv3:Int):M Bool:=
 M.bind (cond (decide (e1.cid=cv2))
  (M.pure (decide (e1.field=cv3)))
  (M.pure false)) (fun v4=>
 M.pure v4)
def yB(l1:List EV)(cv2:Int)(cv3:Int):Int×List EV->M (M.Step (Int×List EV) (List EV)):=fun⟨v27,some28⟩=>
 cond ((decide (v27 < (l1.length:Int))))
  (M.bind (M.bind (M.idx l1 v27) fun x31=>
  M.bind (cond (decide (x31.kind=1))
   (M.bind (M.det (vH x31 cv2 cv3)) fun v35=>
   M.pure v35)
   (M.pure false)) (fun v33=>
  cond v33
   (M.yo ((some28.length+List.length ([x31]))*80<=140737488355328) <|
   M.pure (some28++[x31]))
   (M.pure some28))) (fun some30=>
  M.pure (.next (((IntKind.i64.wrap (v27+1)),some30)))))
  (M.pure (.done some28))
def xC(l1:List EV)(cv2:Int)(cv3:Int):M (List DT):=
 M.bind (M.loop (yB l1 cv2 cv3) (0,([]:List EV))) (fun some4=>
 M.bind (M.det (vg some4)) fun v39=>
 M.pure v39)
def ui(l1:List EV)(cid2:Int)(f3:Int):M (List DT):=
 M.bind (M.det (xC l1 cid2 f3)) fun v4=>
 M.pure v4
def xn(e1:EV)(cv2:Int):M Bool:=
 M.pure (decide (e1.cid=cv2))
def zu(l1:List EV)(cv2:Int):Int×List EV->M (M.Step (Int×List EV) (List EV)):=fun⟨v26,some27⟩=>
 cond ((decide (v26 < (l1.length:Int))))
  (M.bind (M.bind (M.idx l1 v26) fun x30=>
  M.bind (cond (decide (x30.kind=1))
   (M.bind (M.det (xn x30 cv2)) fun v34=>
   M.pure v34)
   (M.pure false)) (fun v32=>
  cond v32
   (M.yo ((some27.length+List.length ([x30]))*80<=140737488355328) <|
   M.pure (some27++[x30]))
   (M.pure some27))) (fun some29=>
  M.pure (.next (((IntKind.i64.wrap (v26+1)),some29)))))
  (M.pure (.done some27))
def yp(l1:List EV)(cv2:Int):M (List DT):=
 M.bind (M.loop (zu l1 cv2) (0,([]:List EV))) (fun some3=>
 M.bind (M.det (vg some3)) fun v38=>
 M.pure v38)
def wv(l1:List EV)(cid2:Int):M (List DT):=
 M.bind (M.det (yp l1 cid2)) fun v3=>
 M.pure v3
def uP(m1:List (Int×List RN)):List Nat×List PT->M (M.Step (List Nat×List PT) (List PT)):=fun⟨seen28,c29⟩=>
 M.yo (∀ i∈seen28,i < m1.length)<|M.bind (M.nxt (m1.length) seen28) fun o=>match o with
 | none=>
  M.pure (.done c29)
 | some j30=>
  M.bind (M.idx m1 (Int.ofNat j30)) fun kv34=>
  M.bind (M.det (wq kv34.2)) fun v36=>
  cond ((decide (0 < ((v36.length):Int))))
   (M.yo ((c29.length+List.length ([(⟨kv34.1,v36⟩:PT)]))*32<=140737488355328) <|
   M.pure (.next (((seen28++[j30]),(c29++[(⟨kv34.1,v36⟩:PT)])))))
   (M.pure (.next ((seen28++[j30]),c29)))
def uj(m1:List (Int×List RN)):M (List PT):=
 M.bind (M.loop (uP m1) ([],([]:List PT))) (fun c3=>
 M.yo (c3.length < 4611686018427387904)<|M.bind (M.srt UY c3) fun s41=>
 M.pure s41)
def ZC(c1:List PT):M (List PT):=
 M.bind (M.det (XT c1)) fun v2=>
 M.bind (M.det (uj v2)) fun v5=>
 M.pure v5
def yI(n1:Int):M (List PT):=
 cond (decide (n1 < 0))
  M.fail
  (M.bind (cond ((decide (0 < ((IntKind.i64.wrap (n1 - (IntKind.i64.wrap (0 - 0))))))))
   (M.yo (0 < ((IntKind.i64.wrap (n1 - (IntKind.i64.wrap (0 - 0)))))/\((IntKind.i64.wrap (n1 - (IntKind.i64.wrap (0 - 0)))))*32<=140737488355328) <|
   M.yo ((0:Int)<=0/\(0:Int)<=0/\0<=(List.length ((List.replicate (Int.toNat ((IntKind.i64.wrap (n1 - (IntKind.i64.wrap (0 - 0)))))) (⟨0,([]:List RN)⟩:PT))):Int)) <|
   M.pure ((List.take (Int.toNat 0) ((List.replicate (Int.toNat ((IntKind.i64.wrap (n1 - (IntKind.i64.wrap (0 - 0)))))) (⟨0,([]:List RN)⟩:PT))))))
   (M.pure ([]))) (fun v3=>
  M.pure v3))
def zb(slices1:List (List PT)):Int×Int->M (M.Step (Int×Int) Int):=fun⟨size13,v14⟩=>
 cond ((decide (v14 < (slices1.length:Int))))
  (M.bind (M.idx slices1 v14) fun x16=>
  cond ((decide (((IntKind.i64.wrap (size13+(x16.length:Int)))) < 0)))
   M.fail
   (M.pure (.next (((IntKind.i64.wrap (size13+(x16.length:Int))),(IntKind.i64.wrap (v14+1)))))))
  (M.pure (.done size13))
def zc(slices1:List (List PT)):Int×List PT->M (M.Step (Int×List PT) (List PT)):=fun⟨v32,v33⟩=>
 cond ((decide (v32 < (slices1.length:Int))))
  (M.bind (M.idx slices1 v32) fun x35=>
  M.yo ((v33.length+x35.length)*32<=140737488355328) <|
  M.pure (.next (((IntKind.i64.wrap (v32+1)),(v33++x35)))))
  (M.pure (.done v33))
def yV(slices1:List (List PT)):M (List PT):=
 M.bind (M.loop (zb slices1) (0,0)) (fun size2=>
 M.bind (M.det (yI size2)) fun v19=>
 M.bind (M.loop (zc slices1) (0,v19)) (fun v21=>
 M.pure v21))
def XU(a1:List PT)(b2:List PT):M (List PT):=
 M.bind (M.det (yV ([a1,b2]))) fun v3=>
 M.bind (M.det (ZC v3)) fun v5=>
 M.pure v5
def uk(d:DT):Bool:=decide (0 < d.dev)&&(decide (0 < d.n)&&decide (d.n<=281474976710655))
theorem WW(d:DT):xM d=M.pure (uk d):=by
 unfold xM uk;rw[M.zd,M.zd];rfl
def xp(d:DT):Option (Int×List RN):=if uk d then some (d.dev,[⟨d.n,d.n⟩]) else none
def Qc(l1:List DT):M (List PT):=
 M.yo (AL.growOK 16 (l1.length) (List.filterMap xp l1)) <|
 M.bind (M.det (uj ((AL.grow ([]:List (Int×List RN)) (List.filterMap xp l1))))) fun v17=>
 M.pure v17
def VW(c1:List PT)(l2:List DT):M (List PT):=
 M.bind (M.det (Qc l2)) fun v3=>
 M.bind (M.det (XU c1 v3)) fun v5=>
 M.pure v5
def ZD(e1:EV)(c2:List PT):M EV:=
 M.bind (M.det (yP e1)) fun v3=>
 M.bind (M.det (uY c2 v3.dot)) fun v5=>
 M.bind (cond v5
  (M.pure ([]:List DT))
  (M.pure v3.kills)) (fun e7=>
 M.pure (⟨v3.dot,v3.kind,v3.cid,v3.field,v3.text,e7⟩:EV))
def uQ(d1:DT):M Bool:=
 M.bind (cond (decide (1<=d1.dev))
  (cond (decide (1<=d1.n))
   (M.pure (decide (d1.n < 281474976710656)))
   (M.pure false))
  (M.pure false)) (fun v2=>
 M.pure v2)
def VX(x1:RN):M Bool:=
 M.bind (cond (decide (1<=x1.lo))
  (cond (decide (x1.lo<=x1.hi))
   (M.pure (decide (x1.hi<=281474976710655)))
   (M.pure false))
  (M.pure false)) (fun v2=>
 M.pure v2)
def YJ(l1:List RN)(n2:Int):Int->M (M.Step Int (M.Ex Unit Bool)):=fun i30=>
 cond ((decide (i30 < (l1.length:Int))))
  (M.bind (M.bind (M.idx l1 i30) fun x33=>
  M.bind (M.det (VX x33)) fun v35=>
  cond v35
   (M.bind (M.idx l1 i30) fun x38=>
   cond (decide (x38.lo<=n2))
    (M.bind (M.idx l1 i30) fun x41=>
    M.pure (decide (n2<=x41.hi)))
    (M.pure false))
   (M.pure false)) (fun v32=>
  cond v32
   (M.pure (.done (.ret true)))
   (M.pure (.next (IntKind.i64.wrap (i30+1))))))
  (M.pure (.done (.brk ())))
def WD(l1:List RN)(n2:Int):M Bool:=
 M.bind (M.loop (YJ l1 n2) 0) (M.exk (fun _=>
 M.pure false))
def YK(l1:List Int)(n2:Int):Bool×Int×List Int->M (M.Step (Bool×Int×List Int) (Bool×List Int)):=fun⟨done43,i44,out45⟩=>
 cond ((decide (i44 < (l1.length:Int))))
  (M.bind (M.bind (cond (!done43)
   (M.bind (M.idx l1 i44) fun x51=>
   M.pure (decide (n2<=x51)))
   (M.pure false)) (fun v49=>
  M.bind (cond v49
   (M.yo ((out45.length+List.length ([n2]))*8<=140737488355328) <|
   M.pure (true,(out45++[n2])))
   (M.pure (done43,out45))) (fun⟨done53,out54⟩=>
  M.bind (M.idx l1 i44) fun x57=>
  cond (!decide (x57=n2))
   (M.bind (M.idx l1 i44) fun x60=>
   M.yo ((out54.length+List.length ([x60]))*8<=140737488355328) <|
   M.pure (done53,(out54++[x60])))
   (M.pure (done53,out54))))) (fun⟨done47,out48⟩=>
  M.pure (.next ((done47,(IntKind.i64.wrap (i44+1)),out48)))))
  (M.pure (.done (done43,out45)))
def VY(l1:List Int)(n2:Int):M (List Int):=
 M.bind (M.loop (YK l1 n2) (false,0,([]:List Int))) (fun⟨done3,out4⟩=>
 M.bind (cond (!done3)
  (M.yo ((out4.length+List.length ([n2]))*8<=140737488355328) <|
  M.pure (out4++[n2]))
  (M.pure out4)) (fun out63=>
 M.pure out63))
def vW(a1:List RN)(b2:List RN):List Int×Int->M (M.Step (List Int×Int) (List Int)):=fun⟨out38,i39⟩=>
 cond ((decide (i39 < (((List.length ((([]:List RN)++a1)++b2)):Int)))))
  (M.bind (M.bind (M.idx (((([]:List RN)++a1)++b2)) i39) fun x42=>
  M.bind (M.det (VX x42)) fun v44=>
  cond v44
   (M.bind (M.idx (((([]:List RN)++a1)++b2)) i39) fun x47=>
   M.bind (M.det (VY out38 x47.lo)) fun v49=>
   M.bind (M.idx (((([]:List RN)++a1)++b2)) i39) fun x51=>
   M.bind (M.det (VY v49 (IntKind.u64.wrap (x51.hi+1)))) fun v53=>
   M.pure v53)
   (M.pure out38)) (fun out41=>
  M.pure (.next ((out41,(IntKind.i64.wrap (i39+1)))))))
  (M.pure (.done out38))
def YL(a1:List RN)(b2:List RN):M (List Int):=
 M.yo ((List.length ([]:List RN)+a1.length)*16<=140737488355328) <|
 M.yo ((List.length (([]:List RN)++a1)+b2.length)*16<=140737488355328) <|
 M.bind (M.loop (vW a1 b2) (([]:List Int),0)) (fun out5=>
 M.pure out5)
def YM(v4:List Int)(a1:List RN)(b2:List RN)(how3:Int):Int×List RN->M (M.Step (Int×List RN) (List RN)):=fun⟨i85,out86⟩=>
 cond ((decide ((IntKind.i64.wrap (i85+1)) < (v4.length:Int))))
  (M.bind (M.bind (M.idx v4 i85) fun x89=>
  M.bind (M.det (WD a1 x89)) fun v91=>
  M.bind (M.idx v4 i85) fun x93=>
  M.bind (M.det (WD b2 x93)) fun v95=>
  M.bind (cond v91
   (M.pure true)
   (M.pure v95)) (fun in97=>
  M.bind (cond (decide (how3=1))
   (M.bind (cond v91
    (M.pure v95)
    (M.pure false)) (fun in101=>
   M.pure in101))
   (M.pure in97)) (fun in99=>
  M.bind (cond (decide (how3=2))
   (M.bind (cond v91
    (M.pure (!v95))
    (M.pure false)) (fun in105=>
   M.pure in105))
   (M.pure in99)) (fun in103=>
  M.bind (cond in103
   (cond ((decide (0<=((IntKind.i64.wrap (((out86.length):Int) - 1))))))
    (M.bind (M.idx out86 ((IntKind.i64.wrap (((out86.length):Int) - 1)))) fun x110=>
    M.bind (M.idx v4 i85) fun x112=>
    M.pure ((decide ((IntKind.u64.wrap (x110.hi+1))=x112))))
    (M.pure false))
   (M.pure false)) (fun v107=>
  cond v107
   (M.bind (M.idx v4 (IntKind.i64.wrap (i85+1))) fun x115=>
   M.bind (M.idx out86 ((IntKind.i64.wrap (((out86.length):Int) - 1)))) fun x117=>
   M.pure ((List.set out86 ((Int.toNat ((IntKind.i64.wrap (((out86.length):Int) - 1))))) ((⟨x117.lo,(IntKind.u64.wrap (x115 - 1))⟩:RN)))))
   (cond in103
    (M.bind (M.idx v4 i85) fun x120=>
    M.bind (M.idx v4 (IntKind.i64.wrap (i85+1))) fun x122=>
    M.yo ((out86.length+List.length ([(⟨x120,(IntKind.u64.wrap (x122 - 1))⟩:RN)]))*16<=140737488355328) <|
    M.pure ((out86++[(⟨x120,(IntKind.u64.wrap (x122 - 1))⟩:RN)])))
    (M.pure out86))))))) (fun out88=>
  M.pure (.next (((IntKind.i64.wrap (i85+1)),out88)))))
  (M.pure (.done out86))
def WE(a1:List RN)(b2:List RN)(how3:Int):M (List RN):=
 M.bind (M.det (YL a1 b2)) fun v4=>
 M.bind (M.loop (YM v4 a1 b2 how3) (0,([]:List RN))) (fun out6=>
 M.pure out6)
def XV(a1:List RN)(b2:List RN):M (List RN):=
 M.bind (M.det (WE a1 b2 0)) fun v3=>
 M.pure v3
def ZE(c1:List PT)(dev2:Int):List RN×Int->M (M.Step (List RN×Int) (List RN)):=fun⟨out28,i29⟩=>
 cond ((decide (i29 < (c1.length:Int))))
  (M.bind (M.bind (M.bind (M.idx c1 i29) fun x33=>
  cond (decide (x33.dev=dev2))
   (M.pure (!decide (dev2=0)))
   (M.pure false)) (fun v32=>
  cond v32
   (M.bind (M.idx c1 i29) fun x37=>
   M.bind (M.det (XV out28 x37.runs)) fun v39=>
   M.pure v39)
   (M.pure out28))) (fun out31=>
  M.pure (.next ((out31,(IntKind.i64.wrap (i29+1)))))))
  (M.pure (.done out28))
def YN(c1:List PT)(dev2:Int):M (List RN):=
 M.bind (M.loop (ZE c1 dev2) (([]:List RN),0)) (fun out3=>
 M.pure out3)
def Yu(a1:DT)(b2:DT):M Int:=
 cond (((decide (a1.dev=b2.dev)&&decide (a1.n=b2.n))))
  (M.pure 0)
  (M.bind (cond (decide (a1.dev < b2.dev))
   (M.pure true)
   (cond (decide (a1.dev=b2.dev))
    (M.pure (decide (a1.n < b2.n)))
    (M.pure false))) (fun v4=>
  cond v4
   (M.pure (-1))
   (M.pure 1)))
def YO(l1:List DT)(d2:DT):Int×List DT->M (M.Step (Int×List DT) (List DT)):=fun⟨i26,out27⟩=>
 cond ((decide (i26 < (l1.length:Int))))
  (M.bind (M.bind (M.idx l1 i26) fun x30=>
  M.bind (M.det (Yu x30 d2)) fun v32=>
  cond (decide (v32 < 0))
   (M.bind (M.idx l1 i26) fun x35=>
   M.yo ((out27.length+List.length ([x35]))*16<=140737488355328) <|
   M.pure (out27++[x35]))
   (M.pure out27)) (fun out29=>
  M.pure (.next (((IntKind.i64.wrap (i26+1)),out29)))))
  (M.pure (.done out27))
def ul(l1:List DT)(d2:DT):Int×List DT->M (M.Step (Int×List DT) (List DT)):=fun⟨i62,out63⟩=>
 cond ((decide (i62 < (l1.length:Int))))
  (M.bind (M.bind (M.idx l1 i62) fun x66=>
  M.bind (M.det (Yu x66 d2)) fun v68=>
  cond (decide (0 < v68))
   (M.bind (M.idx l1 i62) fun x71=>
   M.yo ((out63.length+List.length ([x71]))*16<=140737488355328) <|
   M.pure (out63++[x71]))
   (M.pure out63)) (fun out65=>
  M.pure (.next (((IntKind.i64.wrap (i62+1)),out65)))))
  (M.pure (.done out63))
def Zg(l1:List DT)(d2:DT):M (List DT):=
 M.bind (M.loop (YO l1 d2) (0,([]:List DT))) (fun out3=>
 M.yo ((out3.length+List.length ([d2]))*16<=140737488355328) <|
 M.bind (M.loop (ul l1 d2) (0,(out3++[d2]))) (fun out39=>
 M.pure out39))
def ZF(a1:List PT):List DT×Int->M (M.Step (List DT×Int) (List DT)):=fun⟨out16,i17⟩=>
 cond ((decide (i17 < (a1.length:Int))))
  (M.bind (M.idx a1 i17) fun x19=>
  M.bind (M.det (Zg out16 (⟨x19.dev,1⟩:DT))) fun v21=>
  M.pure (.next ((v21,(IntKind.i64.wrap (i17+1))))))
  (M.pure (.done out16))
def vp(b2:List PT):List DT×Int->M (M.Step (List DT×Int) (List DT)):=fun⟨out36,i37⟩=>
 cond ((decide (i37 < (b2.length:Int))))
  (M.bind (M.idx b2 i37) fun x39=>
  M.bind (M.det (Zg out36 (⟨x39.dev,1⟩:DT))) fun v41=>
  M.pure (.next ((v41,(IntKind.i64.wrap (i37+1))))))
  (M.pure (.done out36))
def Wq(a1:List PT)(b2:List PT):M (List DT):=
 M.bind (M.loop (ZF a1) (([]:List DT),0)) (fun out3=>
 M.bind (M.loop (vp b2) (out3,0)) (fun out23=>
 M.pure out23))
def Wr(a1:List RN)(b2:List RN):M (List RN):=
 M.bind (M.det (WE a1 b2 1)) fun v3=>
 M.pure v3
def XW(a1:List RN)(b2:List RN):M (List RN):=
 M.bind (M.det (WE a1 b2 2)) fun v3=>
 M.pure v3
def YP(v4:List DT)(a1:List PT)(b2:List PT)(how3:Int):Int×List PT->M (M.Step (Int×List PT) (List PT)):=fun⟨i57,out58⟩=>
 cond ((decide (i57 < (v4.length:Int))))
  (M.bind (M.bind (M.idx v4 i57) fun x61=>
  M.bind (M.det (YN a1 x61.dev)) fun v63=>
  M.bind (M.idx v4 i57) fun x65=>
  M.bind (M.det (YN b2 x65.dev)) fun v67=>
  M.bind (M.det (XV v63 v67)) fun v69=>
  M.bind (cond (decide (how3=1))
   (M.bind (M.det (Wr v63 v67)) fun v73=>
   M.pure v73)
   (M.pure v69)) (fun z71=>
  M.bind (cond (decide (how3=2))
   (M.bind (M.det (XW v63 v67)) fun v77=>
   M.pure v77)
   (M.pure z71)) (fun z75=>
  cond ((decide (0 < (z75.length:Int))))
   (M.bind (M.idx v4 i57) fun x80=>
   M.yo ((out58.length+List.length ([(⟨x80.dev,z75⟩:PT)]))*32<=140737488355328) <|
   M.pure (out58++[(⟨x80.dev,z75⟩:PT)]))
   (M.pure out58)))) (fun out60=>
  M.pure (.next (((IntKind.i64.wrap (i57+1)),out60)))))
  (M.pure (.done out58))
def jI(a1:List PT)(b2:List PT)(how3:Int):M (List PT):=
 M.bind (M.det (Wq a1 b2)) fun v4=>
 M.bind (M.loop (YP v4 a1 b2 how3) (0,([]:List PT))) (fun out6=>
 M.pure out6)
def ZG(a1:List PT)(b2:List PT):M (List PT):=
 M.bind (M.det (jI a1 b2 0)) fun v3=>
 M.pure v3
def XX(l1:List DT):List PT×Int->M (M.Step (List PT×Int) (List PT)):=fun⟨out35,i36⟩=>
 cond ((decide (i36 < (l1.length:Int))))
  (M.bind (M.bind (M.idx l1 i36) fun x39=>
  M.bind (M.det (uQ x39)) fun v41=>
  cond v41
   (M.bind (M.idx l1 i36) fun x44=>
   M.bind (M.idx l1 i36) fun x46=>
   M.bind (M.idx l1 i36) fun x48=>
   M.bind (M.det (ZG out35 ([(⟨x44.dev,[(⟨x46.n,x48.n⟩:RN)]⟩:PT)]))) fun v50=>
   M.pure v50)
   (M.pure out35)) (fun out38=>
  M.pure (.next ((out38,(IntKind.i64.wrap (i36+1)))))))
  (M.pure (.done out35))
def JW(l1:List DT):M (List PT):=
 M.bind (M.loop (XX l1) (([]:List PT),0)) (fun out2=>
 M.pure out2)
def wW(c1:List PT)(d2:DT):M Bool:=
 M.bind (M.bind (M.det (uQ d2)) fun v4=>
 cond v4
  (M.bind (M.det (YN c1 d2.dev)) fun v7=>
  M.bind (M.det (WD v7 d2.n)) fun v9=>
  M.pure v9)
  (M.pure false)) (fun v3=>
 M.pure v3)
def um :M (List PT×Bool×(List (DT×EV))×Bool×(List (DT×EV))):=
 M.pure ((([]:List PT),true,([]:List (DT×EV)),true,([]:List (DT×EV))))
def Zh(m2:List (DT×EV)):List Nat×List EV->M (M.Step (List Nat×List EV) (List EV)):=fun⟨seen30,out31⟩=>
 M.yo (∀ i∈seen30,i < m2.length)<|M.bind (M.nxt (m2.length) seen30) fun o=>match o with
 | none=>
  M.pure (.done out31)
 | some j32=>
  M.bind (M.idx m2 (Int.ofNat j32)) fun kv36=>
  M.bind (M.det (yP kv36.2)) fun v38=>
  M.yo ((out31.length+List.length ([v38]))*80<=140737488355328) <|
  M.pure (.next ((seen30++[j32]),(out31++[v38])))
def ww(nl1:Bool)(m2:List (DT×EV)):M (List EV):=
 M.bind (M.bind (M.loop (Zh m2) ([],([]:List EV))) (fun out6=>
 M.pure out6)) (fun out3=>
 M.yo (out3.length < 4611686018427387904)<|M.bind (M.srt uX out3) fun s42=>
 M.pure s42)
def zl(ctx_1:List PT)(nl2:Bool)(m3:List (DT×EV))(nl4:Bool)(m5:List (DT×EV)):M (List EV):=
 M.bind (M.det (ww nl2 m3)) fun y6=>
 M.pure y6
def yJ(e1:EV)(ctx_2:List PT)(nl3:Bool)(m4:List (DT×EV))(nl5:Bool)(m6:List (DT×EV)):M (EV×Int):=
 M.bind (M.bind (M.det (uh (⟨e1.dot,e1.kind,e1.cid,e1.field,e1.text,([]:List DT)⟩:EV))) fun v8=>
 cond (!v8)
  (M.pure (.ret ((((⟨(⟨0,0⟩:DT),0,0,0,(⟨#[]⟩:ByteArray),([]:List DT)⟩:EV),1)))))
  (M.bind (M.det (uY ctx_2 e1.dot)) fun v11=>
  cond v11
   (M.pure (.ret ((((⟨(⟨0,0⟩:DT),0,0,0,(⟨#[]⟩:ByteArray),([]:List DT)⟩:EV),7)))))
   (cond (decide (e1.kind=1))
    (M.bind (M.det (zl ctx_2 nl3 m4 nl5 m6)) fun y15=>
    M.bind (M.det (ui y15 e1.cid e1.field)) fun v17=>
    M.pure (.brk v17))
    (M.bind (M.det (zl ctx_2 nl3 m4 nl5 m6)) fun y19=>
    M.bind (M.det (wv y19 e1.cid)) fun v21=>
    M.pure (.brk v21))))) (M.exk (fun e7=>
 cond ((decide (256 < (e7.length:Int))))
  (M.pure (((⟨(⟨0,0⟩:DT),0,0,0,(⟨#[]⟩:ByteArray),([]:List DT)⟩:EV),3)))
  (M.pure ((⟨e1.dot,e1.kind,e1.cid,e1.field,e1.text,e7⟩:EV),0))))
def vh(e1:EV)(nl2:Bool)(m3:List (DT×EV)):M (Bool×(List (DT×EV))):=
 M.bind (cond nl2
  (M.pure ([]:List (DT×EV)))
  (M.pure m3)) (fun v4=>
 M.bind (M.det (yP e1)) fun v9=>
 M.pure (false,(AL.set v4 e1.dot v9)))
def yf(e1:EV):Int×(List (DT×EV))->M (M.Step (Int×(List (DT×EV))) (List (DT×EV))):=fun⟨v26,v27⟩=>
 cond ((decide (v26 < (e1.kills.length:Int))))
  (M.bind (M.idx e1.kills v26) fun x29=>
  M.pure (.next (((IntKind.i64.wrap (v26+1)),(AL.del v27 x29)))))
  (M.pure (.done v27))
def zk(e1:EV)(ctx_2:List PT)(nl3:Bool)(m4:List (DT×EV))(nl5:Bool)(m6:List (DT×EV)):M (Int×List PT×Bool×(List (DT×EV))×Bool×(List (DT×EV))):=
 M.bind (M.det (uh e1)) fun v7=>
 cond (!v7)
  (M.pure (1,ctx_2,nl3,m4,nl5,m6))
  (M.bind (M.det (uY ctx_2 e1.dot)) fun v10=>
  cond v10
   (M.pure (7,ctx_2,nl3,m4,nl5,m6))
   (M.bind (M.det (vg ([e1]))) fun v13=>
   M.bind (M.det (VW ctx_2 v13)) fun v15=>
   M.bind (M.loop (yf e1) (0,m4)) (fun v17=>
   M.bind (cond (decide (e1.kind=1))
    (M.bind (M.det (vh e1 nl3 v17)) fun y36=>
    M.pure (nl5,m6,y36.1,y36.2))
    (M.bind (M.det (vh e1 nl5 m6)) fun y38=>
    M.pure (y38.1,y38.2,nl3,v17))) (fun⟨nl31,v32,nl33,v34⟩=>
   M.pure (0,v15,nl33,v34,nl31,v32)))))
def yq(ctx_1:List PT)(nl2:Bool)(m3:List (DT×EV))(nl4:Bool)(m5:List (DT×EV)):M (List EV):=
 M.bind (M.det (ww nl4 m5)) fun y6=>
 M.pure y6
def xq(l1:List EV)(c2:List PT)(nl3:Bool):Int×(List (DT×EV))->M (M.Step (Int×(List (DT×EV))) (Bool×(List (DT×EV)))):=fun⟨v23,v24⟩=>
 cond ((decide (v23 < (l1.length:Int))))
  (M.bind (M.bind (M.idx l1 v23) fun x27=>
  cond (AL.has v24 x27.dot)
   (M.bind (M.det (ZD x27 c2)) fun v30=>
   M.yo (AL.has v24 x27.dot=true) <|
   M.pure (AL.set v24 x27.dot v30))
   (M.pure v24)) (fun v26=>
  M.pure (.next (((IntKind.i64.wrap (v23+1)),v26)))))
  (M.pure (.done (nl3,v24)))
def uR(l1:List EV)(c2:List PT)(nl3:Bool)(m4:List (DT×EV)):M (Bool×(List (DT×EV))):=
 M.loop (xq l1 c2 nl3) (0,m4)
def yL(y7:List EV)(c1:List PT):Int×Int×(List (DT×EV))->M (M.Step (Int×Int×(List (DT×EV))) (Int×(List (DT×EV)))):=fun⟨n30,v31,v32⟩=>
 cond ((decide (v31 < ((y7.length):Int))))
  (M.bind (M.bind (M.idx y7 v31) fun x36=>
  M.bind (M.det (uY c1 x36.dot)) fun v38=>
  cond v38
   (M.pure (((IntKind.i64.wrap (n30+1)),(AL.del v32 x36.dot))))
   (M.pure (n30,v32))) (fun⟨n34,v35⟩=>
  M.pure (.next ((n34,(IntKind.i64.wrap (v31+1)),v35)))))
  (M.pure (.done (n30,v32)))
def yr(c1:List PT)(ctx_2:List PT)(nl3:Bool)(m4:List (DT×EV))(nl5:Bool)(m6:List (DT×EV)):M (Int×Bool×(List (DT×EV))×Bool×(List (DT×EV))):=
 M.bind (M.det (yq ctx_2 nl3 m4 nl5 m6)) fun y7=>
 M.bind (M.loop (yL y7 c1) (0,0,m6)) (fun⟨n9,v10⟩=>
 M.bind (M.det (zl ctx_2 nl3 m4 nl5 v10)) fun y41=>
 M.bind (M.det (uR y41 c1 nl3 m4)) fun y43=>
 M.pure (n9,y43.1,y43.2,nl5,v10))
def Zi(m2:List (DT×EV)):List Nat×List EV->M (M.Step (List Nat×List EV) (List EV)):=fun⟨seen32,out33⟩=>
 M.yo (∀ i∈seen32,i < m2.length)<|M.bind (M.nxt (m2.length) seen32) fun o=>match o with
 | none=>
  M.pure (.done out33)
 | some j34=>
  M.bind (M.idx m2 (Int.ofNat j34)) fun kv38=>
  M.bind (M.det (yP kv38.2)) fun v40=>
  M.yo ((out33.length+List.length ([v40]))*80<=140737488355328) <|
  M.pure (.next ((seen32++[j34]),(out33++[v40])))
def Zj(m4:List (DT×EV)):List Nat×List EV->M (M.Step (List Nat×List EV) (List EV)):=fun⟨seen70,out71⟩=>
 M.yo (∀ i∈seen70,i < m4.length)<|M.bind (M.nxt (m4.length) seen70) fun o=>match o with
 | none=>
  M.pure (.done out71)
 | some j72=>
  M.bind (M.idx m4 (Int.ofNat j72)) fun kv76=>
  M.bind (M.det (yP kv76.2)) fun v78=>
  M.yo ((out71.length+List.length ([v78]))*80<=140737488355328) <|
  M.pure (.next ((seen70++[j72]),(out71++[v78])))
def wx(nl1:Bool)(m2:List (DT×EV))(nl3:Bool)(m4:List (DT×EV)):M (List EV):=
 M.bind (M.bind (M.loop (Zi m2) ([],([]:List EV))) (fun out8=>
 M.bind (M.loop (Zj m4) ([],out8)) (fun out46=>
 M.pure out46))) (fun out5=>
 M.yo (out5.length < 4611686018427387904)<|M.bind (M.srt uX out5) fun s82=>
 M.pure s82)
def yS(ctx_1:List PT)(nl2:Bool)(m3:List (DT×EV))(nl4:Bool)(m5:List (DT×EV)):M (List EV):=
 M.bind (M.det (wx nl2 m3 nl4 m5)) fun y6=>
 M.pure y6
def yt(ctx_1:List PT)(nl2:Bool)(m3:List (DT×EV))(nl4:Bool)(m5:List (DT×EV)):M (List PT):=
 M.bind (M.det (ZC ctx_1)) fun v6=>
 M.pure v6
def vq :M Bool:=
 M.bind (M.det (um)) fun y1=>
 M.bind (M.det (yJ (⟨(⟨1,1⟩:DT),1,281474976710657,1,(⟨#[97]⟩:ByteArray),([]:List DT)⟩:EV) y1.1 y1.2.1 y1.2.2.1 y1.2.2.2.1 y1.2.2.2.2)) fun y3=>
 M.bind (M.det (zk y3.1 y1.1 y1.2.1 y1.2.2.1 y1.2.2.2.1 y1.2.2.2.2)) fun y5=>
 M.bind (M.det (yJ (⟨(⟨1,2⟩:DT),2,281474976710657,0,(⟨#[]⟩:ByteArray),([]:List DT)⟩:EV) y5.2.1 y5.2.2.1 y5.2.2.2.1 y5.2.2.2.2.1 y5.2.2.2.2.2)) fun y7=>
 M.bind (M.det (zk y7.1 y5.2.1 y5.2.2.1 y5.2.2.2.1 y5.2.2.2.2.1 y5.2.2.2.2.2)) fun y9=>
 M.bind (cond (!decide (y3.2=0))
  (M.pure true)
  (cond (!decide (y5.1=0))
   (M.pure true)
   (cond (!decide (y7.2=0))
    (M.pure true)
    (cond (!decide (y9.1=0))
     (M.pure true)
     (cond ((!decide ((y7.1.kills.length:Int)=1)))
      (M.pure true)
      (M.bind (M.det (zl y9.2.1 y9.2.2.1 y9.2.2.2.1 y9.2.2.2.2.1 y9.2.2.2.2.2)) fun y17=>
      cond ((!decide (((y17.length):Int)=0)))
       (M.pure true)
       (M.bind (M.det (yq y9.2.1 y9.2.2.1 y9.2.2.2.1 y9.2.2.2.2.1 y9.2.2.2.2.2)) fun y20=>
       M.pure ((!decide (((y20.length):Int)=1)))))))))) (fun v11=>
 cond v11
  (M.pure false)
  (M.bind (M.bind (M.det (JW ([y7.1.dot]))) fun v24=>
  M.bind (M.det (yr v24 y9.2.1 y9.2.2.1 y9.2.2.2.1 y9.2.2.2.2.1 y9.2.2.2.2.2)) fun y26=>
  cond (decide (y26.1=1))
   (M.bind (M.det (yS y9.2.1 y26.2.1 y26.2.2.1 y26.2.2.2.1 y26.2.2.2.2)) fun y29=>
   cond ((decide ((y29.length:Int)=0)))
    (M.bind (M.det (yt y9.2.1 y26.2.1 y26.2.2.1 y26.2.2.2.1 y26.2.2.2.2)) fun y32=>
    M.bind (M.det (wW y32 y3.1.dot)) fun v34=>
    cond v34
     (M.bind (M.det (yt y9.2.1 y26.2.1 y26.2.2.1 y26.2.2.2.1 y26.2.2.2.2)) fun y37=>
     M.bind (M.det (wW y37 y7.1.dot)) fun v39=>
     M.pure v39)
     (M.pure false))
    (M.pure false))
   (M.pure false)) (fun v23=>
  M.pure v23)))
def uH(s1_1:List RN)(s2_2:List RN):Int->M (M.Step Int (M.Ex Unit Bool)):=fun v17=>
 cond ((decide (v17 < (s1_1.length:Int))))
  (M.bind (M.idx s1_1 v17) fun x19=>
  M.bind (M.idx s2_2 v17) fun x21=>
  cond ((!(decide (x19.lo=x21.lo)&&decide (x19.hi=x21.hi))))
   (M.pure (.done (.ret false)))
   (M.pure (.next (IntKind.i64.wrap (v17+1)))))
  (M.pure (.done (.brk ())))
def yM(s1_1:List RN)(s2_2:List RN):M Bool:=
 cond ((!decide ((s1_1.length:Int)=(s2_2.length:Int))))
  (M.pure false)
  (M.bind (M.loop (uH s1_1 s2_2) 0) (M.exk (fun _=>
  M.pure true)))
def VZ(x1:PT)(y2:PT):M Bool:=
 M.bind (cond (decide (x1.dev=y2.dev))
  (M.bind (M.det (yM x1.runs y2.runs)) fun v5=>
  M.pure v5)
  (M.pure false)) (fun v3=>
 M.pure v3)
def zT(s1_1:List PT)(s2_2:List PT):Int->M (M.Step Int (M.Ex Unit Bool)):=fun v21=>
 cond ((decide (v21 < (s1_1.length:Int))))
  (M.bind (M.idx s1_1 v21) fun x23=>
  M.bind (M.idx s2_2 v21) fun x25=>
  M.bind (M.det (VZ x23 x25)) fun v27=>
  cond (!v27)
   (M.pure (.done (.ret false)))
   (M.pure (.next (IntKind.i64.wrap (v21+1)))))
  (M.pure (.done (.brk ())))
def zX(s1_1:List PT)(s2_2:List PT):M Bool:=
 cond ((!decide ((s1_1.length:Int)=(s2_2.length:Int))))
  (M.pure false)
  (M.bind (M.loop (zT s1_1 s2_2) 0) (M.exk (fun _=>
  M.pure true)))
def Qd(a1:List PT)(b2:List PT):M Bool:=
 M.bind (M.det (zX a1 b2)) fun v3=>
 M.pure v3
def Ws(a1:List PT)(b2:List PT):M Bool:=
 M.bind (M.det (ZC a1)) fun v3=>
 M.bind (M.det (ZC b2)) fun v5=>
 M.bind (M.det (Qd v3 v5)) fun v7=>
 M.pure v7
def uI(s1_1:List DT)(s2_2:List DT):Int->M (M.Step Int (M.Ex Unit Bool)):=fun v17=>
 cond ((decide (v17 < (s1_1.length:Int))))
  (M.bind (M.idx s1_1 v17) fun x19=>
  M.bind (M.idx s2_2 v17) fun x21=>
  cond ((!(decide (x19.dev=x21.dev)&&decide (x19.n=x21.n))))
   (M.pure (.done (.ret false)))
   (M.pure (.next (IntKind.i64.wrap (v17+1)))))
  (M.pure (.done (.brk ())))
def yN(s1_1:List DT)(s2_2:List DT):M Bool:=
 cond ((!decide ((s1_1.length:Int)=(s2_2.length:Int))))
  (M.pure false)
  (M.bind (M.loop (uI s1_1 s2_2) 0) (M.exk (fun _=>
  M.pure true)))
def Wt(a1:List DT)(b2:List DT):M Bool:=
 M.bind (M.det (yN a1 b2)) fun v3=>
 M.pure v3
def YQ(a1:EV)(b2:EV):M Bool:=
 M.bind (cond (((decide (a1.dot.dev=b2.dot.dev)&&decide (a1.dot.n=b2.dot.n))))
  (cond (decide (a1.kind=b2.kind))
   (cond (decide (a1.cid=b2.cid))
    (cond (decide (a1.field=b2.field))
     (cond (decide (a1.text=b2.text))
      (M.bind (M.det (Wt a1.kills b2.kills)) fun v9=>
      M.pure v9)
      (M.pure false))
     (M.pure false))
    (M.pure false))
   (M.pure false))
  (M.pure false)) (fun v3=>
 M.pure v3)
def zG(s1_1:List EV)(s2_2:List EV):Int->M (M.Step Int (M.Ex Unit Bool)):=fun v21=>
 cond ((decide (v21 < (s1_1.length:Int))))
  (M.bind (M.idx s1_1 v21) fun x23=>
  M.bind (M.idx s2_2 v21) fun x25=>
  M.bind (M.det (YQ x23 x25)) fun v27=>
  cond (!v27)
   (M.pure (.done (.ret false)))
   (M.pure (.next (IntKind.i64.wrap (v21+1)))))
  (M.pure (.done (.brk ())))
def zV(s1_1:List EV)(s2_2:List EV):M Bool:=
 cond ((!decide ((s1_1.length:Int)=(s2_2.length:Int))))
  (M.pure false)
  (M.bind (M.loop (zG s1_1 s2_2) 0) (M.exk (fun _=>
  M.pure true)))
def XY(a1:List EV)(b2:List EV):M Bool:=
 M.bind (M.det (zV a1 b2)) fun v3=>
 M.pure v3
def un(l1:List EV)(e2:EV):Bool×Int×List EV->M (M.Step (Bool×Int×List EV) (M.Ex (Bool×List EV) (List EV))):=fun⟨done38,i39,out40⟩=>
 cond ((decide (i39 < (l1.length:Int))))
  (M.bind (M.idx l1 i39) fun x42=>
  M.bind (M.det (Yu x42.dot e2.dot)) fun v44=>
  cond (decide (v44=0))
   (M.pure (.done (.ret l1)))
   (M.bind (cond (decide (0 < v44))
    (M.pure (!done38))
    (M.pure false)) (fun v47=>
   M.bind (cond v47
    (M.yo ((out40.length+List.length ([e2]))*80<=140737488355328) <|
    M.pure (true,(out40++[e2])))
    (M.pure (done38,out40))) (fun⟨done49,out50⟩=>
   M.bind (M.idx l1 i39) fun x53=>
   M.yo ((out50.length+List.length ([x53]))*80<=140737488355328) <|
   M.pure (.next ((done49,(IntKind.i64.wrap (i39+1)),(out50++[x53]))))))))
  (M.pure (.done (.brk (done38,out40))))
def Yv(l1:List EV)(e2:EV):M (List EV):=
 M.bind (M.loop (un l1 e2) (false,0,([]:List EV))) (M.exk (fun⟨done3,out4⟩=>
 M.bind (cond (!done3)
  (M.yo ((out4.length+List.length ([e2]))*80<=140737488355328) <|
  M.pure (out4++[e2]))
  (M.pure out4)) (fun out56=>
 M.pure out56)))
def Yw(l1:List EV):List EV×Int->M (M.Step (List EV×Int) (List EV)):=fun⟨out15,i_16⟩=>
 cond ((decide (i_16 < (l1.length:Int))))
  (M.bind (M.idx l1 i_16) fun x18=>
  M.bind (M.det (Yv out15 x18)) fun v20=>
  M.pure (.next ((v20,(IntKind.i64.wrap (i_16+1))))))
  (M.pure (.done out15))
def Wu(l1:List EV):M (List EV):=
 M.bind (M.loop (Yw l1) (([]:List EV),0)) (fun out2=>
 M.pure out2)
def XZ(v1:Int):M (Int×Int):=
 M.pure (((IntKind.u16.wrap (IntKind.u64.wrap (Int.tdiv v1 281474976710656))),(Int.tmod v1 281474976710656)))
def YR(v1:Int):M (DT×Bool):=
 M.bind (M.det (XZ v1)) fun v2=>
 M.bind (M.det (uQ (⟨v2.1,v2.2⟩:DT))) fun v4=>
 cond (!v4)
  (M.pure ((⟨0,0⟩:DT),false))
  (M.pure ((⟨v2.1,v2.2⟩:DT),true))
def Wv(f1:Int):M Bool:=
 M.bind (cond (decide (1<=f1))
  (M.pure (decide (f1<=5)))
  (M.pure false)) (fun v2=>
 M.pure v2)
def vr(s1:ByteArray):Int->M (M.Step Int (M.Ex Unit Bool)):=fun i19=>
 cond ((decide (i19 < (ByteArray.size s1:Int))))
  (M.bind (M.bind (M.idx (vM s1) i19) fun b22=>
  cond (decide (b22 < 32))
   (M.pure true)
   (M.bind (M.idx (vM s1) i19) fun b25=>
   M.pure (decide (126 < b25)))) (fun v21=>
  cond v21
   (M.pure (.done (.ret false)))
   (M.pure (.next (IntKind.i64.wrap (i19+1))))))
  (M.pure (.done (.brk ())))
def Ww(s1:ByteArray):M Bool:=
 M.bind (M.loop (vr s1) 0) (M.exk (fun _=>
 M.pure ((decide ((ByteArray.size s1:Int)<=60)))))
def xP(l1:List DT):Int->M (M.Step Int (M.Ex Unit Bool)):=fun i19=>
 cond ((decide (i19 < (l1.length:Int))))
  (M.bind (M.idx l1 (IntKind.i64.wrap (i19 - 1))) fun x21=>
  M.bind (M.idx l1 i19) fun x23=>
  M.bind (M.det (Yu x21 x23)) fun v25=>
  cond (decide (0<=v25))
   (M.pure (.done (.ret false)))
   (M.pure (.next (IntKind.i64.wrap (i19+1)))))
  (M.pure (.done (.brk ())))
def YS(l1:List DT):M Bool:=
 M.bind (M.loop (xP l1) 1) (M.exk (fun _=>
 M.pure true))
def YT(l1:List DT)(d2:DT):Int->M (M.Step Int (M.Ex Unit Bool)):=fun i12=>
 cond ((decide (i12 < (l1.length:Int))))
  (M.bind (M.idx l1 i12) fun x14=>
  cond (((decide (x14.dev=d2.dev)&&decide (x14.n=d2.n))))
   (M.pure (.done (.ret true)))
   (M.pure (.next (IntKind.i64.wrap (i12+1)))))
  (M.pure (.done (.brk ())))
def WF(l1:List DT)(d2:DT):M Bool:=
 M.bind (M.loop (YT l1 d2) 0) (M.exk (fun _=>
 M.pure false))
def vt(e1:EV):Int->M (M.Step Int (M.Ex Unit Bool)):=fun i37=>
 cond ((decide (i37 < (e1.kills.length:Int))))
  (M.bind (M.idx e1.kills i37) fun x39=>
  M.bind (M.det (uQ x39)) fun v41=>
  cond (!v41)
   (M.pure (.done (.ret false)))
   (M.pure (.next (IntKind.i64.wrap (i37+1)))))
  (M.pure (.done (.brk ())))
def YU(e1:EV):M Bool:=
 M.bind (M.det (YR e1.cid)) fun v2=>
 M.bind (cond (!v2.2)
  (M.pure true)
  (M.bind (M.det (uQ e1.dot)) fun v6=>
  cond (!v6)
   (M.pure true)
   (cond (!decide (e1.kind=1))
    (M.pure (!decide (e1.kind=2)))
    (M.pure false)))) (fun v4=>
 cond v4
  (M.pure false)
  (M.bind (cond (decide (e1.kind=1))
   (M.bind (M.det (Wv e1.field)) fun v13=>
   cond (!v13)
    (M.pure true)
    (M.bind (M.det (Ww e1.text)) fun v16=>
    cond (!v16)
     (M.pure true)
     (cond (decide (e1.kind=2))
      (cond (!decide (e1.field=0))
       (M.pure true)
       (M.pure ((!decide (e1.text=(⟨#[]⟩:ByteArray))))))
      (M.pure false))))
   (cond (decide (e1.kind=2))
    (cond (!decide (e1.field=0))
     (M.pure true)
     (M.pure ((!decide (e1.text=(⟨#[]⟩:ByteArray))))))
    (M.pure false))) (fun v11=>
  cond v11
   (M.pure false)
   (M.bind (M.loop (vt e1) 0) (M.exk (fun _=>
   M.bind (cond ((decide ((e1.kills.length:Int)<=256)))
    (M.bind (M.det (YS e1.kills)) fun v46=>
    cond v46
     (M.bind (M.det (WF e1.kills e1.dot)) fun v49=>
     M.pure (!v49))
     (M.pure false))
    (M.pure false)) (fun v44=>
   M.pure v44)))))))
def ZH(a1:List DT)(b2:List DT):Int->M (M.Step Int (M.Ex Unit Bool)):=fun i17=>
 cond ((decide (i17 < (a1.length:Int))))
  (M.bind (M.idx a1 i17) fun x19=>
  M.bind (M.idx b2 i17) fun x21=>
  cond ((!(decide (x19.dev=x21.dev)&&decide (x19.n=x21.n))))
   (M.pure (.done (.ret false)))
   (M.pure (.next (IntKind.i64.wrap (i17+1)))))
  (M.pure (.done (.brk ())))
def Xa(a1:List DT)(b2:List DT):M Bool:=
 cond ((!decide ((a1.length:Int)=(b2.length:Int))))
  (M.pure false)
  (M.bind (M.loop (ZH a1 b2) 0) (M.exk (fun _=>
  M.pure true)))
def Wx(a1:EV)(b2:EV):M Bool:=
 M.bind (cond (((decide (a1.dot.dev=b2.dot.dev)&&decide (a1.dot.n=b2.dot.n))))
  (cond (decide (a1.kind=b2.kind))
   (cond (decide (a1.cid=b2.cid))
    (cond (decide (a1.field=b2.field))
     (cond (decide (a1.text=b2.text))
      (M.bind (M.det (Xa a1.kills b2.kills)) fun v9=>
      M.pure v9)
      (M.pure false))
     (M.pure false))
    (M.pure false))
   (M.pure false))
  (M.pure false)) (fun v3=>
 M.pure v3)
def YV(a1:List EV)(b2:List EV):Int->M (M.Step Int (M.Ex Unit Bool)):=fun i21=>
 cond ((decide (i21 < (a1.length:Int))))
  (M.bind (M.idx a1 i21) fun x23=>
  M.bind (M.idx b2 i21) fun x25=>
  M.bind (M.det (Wx x23 x25)) fun v27=>
  cond (!v27)
   (M.pure (.done (.ret false)))
   (M.pure (.next (IntKind.i64.wrap (i21+1)))))
  (M.pure (.done (.brk ())))
def jJ(a1:List EV)(b2:List EV):M Bool:=
 cond ((!decide ((a1.length:Int)=(b2.length:Int))))
  (M.pure false)
  (M.bind (M.loop (YV a1 b2) 0) (M.exk (fun _=>
  M.pure true)))
def xr(e1:EV):M (EV×Int):=
 M.pure (((⟨(⟨0,0⟩:DT),0,0,0,(⟨#[]⟩:ByteArray),([]:List DT)⟩:EV),1))
def wY(c1:List PT):M Unit:=
 M.pure ()
def wb(e1:EV):M Int:=
 M.pure 1
def yT :M (List EV):=
 M.pure ([]:List EV)
def wG(v2:List EV)(c1:List PT):Int->M (M.Step Int Unit):=fun v17=>
 cond ((decide (v17 < ((v2.length):Int))))
  (M.bind (M.idx v2 v17) fun x19=>
  M.bind (M.det (uY c1 x19.dot)) fun v21=>
  cond v21
   M.fail
   (M.pure (.next (IntKind.i64.wrap (v17+1)))))
  (M.pure (.done ()))
def yw(c1:List PT):M Int:=
 M.bind (M.det (yT)) fun v2=>
 M.bind (M.loop (wG v2 c1) 0) (fun _=>
 M.pure 0)
def yu :M (List PT):=
 M.pure ([]:List PT)
def yg :M (List EV):=
 M.pure ([]:List EV)
def yv :M (List EV):=
 M.pure ([]:List EV)
def yh(e1:EV)(cv2:Int):M Bool:=
 M.pure (!decide (e1.cid=cv2))
def zN(s1:List EV)(cv2:Int):Int->M (M.Step Int (M.Ex Unit Int)):=fun v16=>
 cond ((decide (v16 < (s1.length:Int))))
  (M.bind (M.idx s1 v16) fun x18=>
  M.bind (M.det (yh x18 cv2)) fun v20=>
  cond v20
   (M.pure (.done (.ret v16)))
   (M.pure (.next (IntKind.i64.wrap (v16+1)))))
  (M.pure (.done (.brk ())))
def zU(s1:List EV)(cv2:Int):M Int:=
 M.bind (M.loop (zN s1 cv2) 0) (M.exk (fun _=>
 M.pure (-1)))
def zM(cv1:Int):Int×Int×List EV->M (M.Step (Int×Int×List EV) (Int×List EV)):=fun⟨i31,j32,v33⟩=>
 cond ((decide (j32 < ((v33.length):Int))))
  (M.bind (M.bind (M.idx v33 j32) fun x37=>
  M.bind (M.det (yh x37 cv1)) fun v39=>
  cond (!v39)
   (M.bind (M.idx v33 i31) fun x42=>
   M.pure (((IntKind.i64.wrap (i31+1)),(List.set v33 (Int.toNat i31) x37))))
   (M.pure (i31,v33))) (fun⟨i35,v36⟩=>
  M.pure (.next ((i35,(IntKind.i64.wrap (j32+1)),v36)))))
  (M.pure (.done (i31,v33)))
def zO(cv1:Int)(row2:List EV):M (List EV):=
 M.bind (M.det (zU row2 cv1)) fun v3=>
 cond ((decide (v3=(-1))))
  (M.pure row2)
  (M.bind (M.loop (zM cv1) ((v3,(IntKind.i64.wrap (v3+1)),row2))) (fun⟨i6,v7⟩=>
  M.yo ((0:Int)<=i6/\i6<=(v7.length:Int)) <|
  M.yo ((Int.toNat i6)+(v7.length - Int.toNat i6)<=v7.length) <|
  M.yo ((0:Int)<=0/\(0:Int)<=i6/\i6<=(List.length ((List.take (Int.toNat i6) v7++List.replicate (v7.length - Int.toNat i6) (⟨(⟨0,0⟩:DT),0,0,0,(⟨#[]⟩:ByteArray),([]:List DT)⟩:EV)++List.drop ((Int.toNat i6)+(v7.length - Int.toNat i6)) v7)):Int)) <|
  M.pure ((List.take (Int.toNat i6) ((List.take (Int.toNat i6) v7++List.replicate (v7.length - Int.toNat i6) (⟨(⟨0,0⟩:DT),0,0,0,(⟨#[]⟩:ByteArray),([]:List DT)⟩:EV)++List.drop ((Int.toNat i6)+(v7.length - Int.toNat i6)) v7))))))
def xd(cid1:Int):M (List EV):=
 M.bind (M.det (yg)) fun v2=>
 M.bind (M.det (zO cid1 v2)) fun y4=>
 M.pure y4
def vI :M Unit:=
 M.pure ()
def ZI(ctx_1:List PT)(nl2:Bool)(m3:List (DT×EV))(nl4:Bool)(m5:List (DT×EV)):M Bool:=
 M.bind (M.bind (M.det (yu)) fun v7=>
 M.bind (M.det (yt ctx_1 nl2 m3 nl4 m5)) fun y9=>
 M.bind (M.det (Ws v7 y9)) fun v11=>
 cond v11
  (M.bind (M.det (yv)) fun v14=>
  M.bind (M.det (yS ctx_1 nl2 m3 nl4 m5)) fun y16=>
  M.bind (M.det (XY v14 y16)) fun v18=>
  M.pure v18)
  (M.pure false)) (fun v6=>
 M.pure v6)
def xt(c1:List PT)(ctx_2:List PT)(nl3:Bool)(m4:List (DT×EV))(nl5:Bool)(m6:List (DT×EV)):M (List PT):=
 M.bind (M.det (XU ctx_2 c1)) fun v7=>
 M.pure v7
end Go.Ep
namespace Go.Proofs
open Go.Shelf
def Tryz.pdq92_ren : Go.Shelf.Ren:=⟨fun | 14=>92 | 20=>108 | 21=>109 | 22=>110 | 23=>111 | 24=>112 | 25=>113 | 26=>114 | 27=>115 | 46=>138 | 47=>139 | 48=>140 | 49=>141 | 50=>142 | 15=>93 | 57=>158 | 28=>116 | 29=>117 | n=>n,fun | 24=>28 | 22=>32 | 3=>3 | 25=>96 | 4=>4 | 0=>0 | 46=>132 | 45=>131 | 50=>106 | 66=>154 | 39=>118 | 55=>23 | 70=>158 | 76=>170 | 77=>171 | 53=>138 | 5=>5 | 9=>9 | n=>n,fun | n=>n⟩
theorem Tryz.pdq92 : Go.Proofs.SlLaysF0.n14 Tryz.prog Tryz.pdq92_ren:={
 mixed:=by kernel_rfl
 f14:=⟨Tryz.f92.name,by decide,Tryz.func92.trans (congrArg some (by kernel_rfl))⟩
 f15:=Tryz.func93.trans (congrArg some (by kernel_rfl))
 f20:=⟨Tryz.f108.name,by decide,Tryz.func108.trans (congrArg some (by kernel_rfl))⟩
 f21:=⟨Tryz.f109.name,by decide,Tryz.func109.trans (congrArg some (by kernel_rfl))⟩
 f22:=⟨Tryz.f110.name,by decide,Tryz.func110.trans (congrArg some (by kernel_rfl))⟩
 f23:=⟨Tryz.f111.name,by decide,Tryz.func111.trans (congrArg some (by kernel_rfl))⟩
 f24:=⟨Tryz.f112.name,by decide,Tryz.func112.trans (congrArg some (by kernel_rfl))⟩
 f25:=⟨Tryz.f113.name,by decide,Tryz.func113.trans (congrArg some (by kernel_rfl))⟩
 f26:=⟨Tryz.f114.name,by decide,Tryz.func114.trans (congrArg some (by kernel_rfl))⟩
 f27:=⟨Tryz.f115.name,by decide,Tryz.func115.trans (congrArg some (by kernel_rfl))⟩
 f28:=Tryz.func116.trans (congrArg some (by kernel_rfl))
 f29:=Tryz.func117.trans (congrArg some (by kernel_rfl))
 f46:=⟨Tryz.f138.name,by decide,Tryz.func138.trans (congrArg some (by kernel_rfl))⟩
 f47:=Tryz.func139.trans (congrArg some (by kernel_rfl))
 f48:=Tryz.func140.trans (congrArg some (by kernel_rfl))
 f49:=⟨Tryz.f141.name,by decide,Tryz.func141.trans (congrArg some (by kernel_rfl))⟩
 f50:=⟨Tryz.f142.name,by decide,Tryz.func142.trans (congrArg some (by kernel_rfl))⟩
 f57:=⟨Tryz.f158.name,by decide,Tryz.func158.trans (congrArg some (by kernel_rfl))⟩
 t0:=Tryz.underlying0
 a0:=Tryz.isAgg0
 z0:=Tryz.sizeOf0
 v0:=Tryz.zeroValue0
 t3:=Tryz.underlying3
 a3:=Tryz.isAgg3
 z3:=Tryz.sizeOf3
 v3:=Tryz.zeroValue3
 t4:=Tryz.underlying4
 a4:=Tryz.isAgg4
 z4:=Tryz.sizeOf4
 v4:=Tryz.zeroValue4
 t5:=Tryz.underlying5
 a5:=Tryz.isAgg5
 z5:=Tryz.sizeOf5
 v5:=Tryz.zeroValue5
 t9:=Tryz.underlying9
 a9:=Tryz.isAgg9
 z9:=Tryz.sizeOf9
 v9:=Tryz.zeroValue9
 t22:=Tryz.underlying32
 a22:=Tryz.isAgg32
 z22:=Tryz.sizeOf32
 v22:=Tryz.zeroValue32
 t25:=Tryz.underlying96
 a25:=Tryz.isAgg96
 z25:=Tryz.sizeOf96
 v25:=Tryz.zeroValue96
 t39:=Tryz.underlying118
 a39:=Tryz.isAgg118
 z39:=Tryz.sizeOf118
 v39:=Tryz.zeroValue118
 t45:=Tryz.underlying131
 a45:=Tryz.isAgg131
 z45:=Tryz.sizeOf131
 v45:=Tryz.zeroValue131
 t46:=Tryz.underlying132
 a46:=Tryz.isAgg132
 z46:=Tryz.sizeOf132
 v46:=Tryz.zeroValue132
 t50:=Tryz.underlying106
 a50:=Tryz.isAgg106
 z50:=Tryz.sizeOf106
 v50:=Tryz.zeroValue106
 t53:=Tryz.underlying138
 a53:=Tryz.isAgg138
 z53:=Tryz.sizeOf138
 v53:=Tryz.zeroValue138
 t55:=Tryz.underlying23
 a55:=Tryz.isAgg23
 z55:=Tryz.sizeOf23
 v55:=Tryz.zeroValue23
 t66:=Tryz.underlying154
 a66:=Tryz.isAgg154
 z66:=Tryz.sizeOf154
 v66:=Tryz.zeroValue154
 t70:=Tryz.underlying158
 a70:=Tryz.isAgg158
 z70:=Tryz.sizeOf158
 v70:=Tryz.zeroValue158
 t76:=Tryz.underlying170
 a76:=Tryz.isAgg170
 z76:=Tryz.sizeOf170
 v76:=Tryz.zeroValue170
 t77:=Tryz.underlying171
 a77:=Tryz.isAgg171
 z77:=Tryz.sizeOf171
 v77:=Tryz.zeroValue171 }
def Tryz.pdq105_ren : Go.Shelf.Ren:=⟨fun | 14=>105 | 20=>122 | 21=>123 | 22=>124 | 23=>125 | 24=>126 | 25=>127 | 26=>128 | 27=>129 | 46=>152 | 47=>139 | 48=>140 | 49=>153 | 50=>154 | 15=>93 | 57=>162 | 28=>116 | 29=>117 | n=>n,fun | 24=>25 | 22=>26 | 3=>3 | 25=>95 | 4=>4 | 0=>0 | 46=>132 | 45=>131 | 50=>106 | 66=>154 | 39=>118 | 55=>23 | 70=>158 | 76=>170 | 77=>171 | 53=>138 | 5=>5 | 9=>9 | n=>n,fun | n=>n⟩
theorem Tryz.pdq105 : Go.Proofs.SlLaysF0.n14 Tryz.prog Tryz.pdq105_ren:={
 mixed:=by kernel_rfl
 f14:=⟨Tryz.f105.name,by decide,Tryz.func105.trans (congrArg some (by kernel_rfl))⟩
 f15:=Tryz.func93.trans (congrArg some (by kernel_rfl))
 f20:=⟨Tryz.f122.name,by decide,Tryz.func122.trans (congrArg some (by kernel_rfl))⟩
 f21:=⟨Tryz.f123.name,by decide,Tryz.func123.trans (congrArg some (by kernel_rfl))⟩
 f22:=⟨Tryz.f124.name,by decide,Tryz.func124.trans (congrArg some (by kernel_rfl))⟩
 f23:=⟨Tryz.f125.name,by decide,Tryz.func125.trans (congrArg some (by kernel_rfl))⟩
 f24:=⟨Tryz.f126.name,by decide,Tryz.func126.trans (congrArg some (by kernel_rfl))⟩
 f25:=⟨Tryz.f127.name,by decide,Tryz.func127.trans (congrArg some (by kernel_rfl))⟩
 f26:=⟨Tryz.f128.name,by decide,Tryz.func128.trans (congrArg some (by kernel_rfl))⟩
 f27:=⟨Tryz.f129.name,by decide,Tryz.func129.trans (congrArg some (by kernel_rfl))⟩
 f28:=Tryz.func116.trans (congrArg some (by kernel_rfl))
 f29:=Tryz.func117.trans (congrArg some (by kernel_rfl))
 f46:=⟨Tryz.f152.name,by decide,Tryz.func152.trans (congrArg some (by kernel_rfl))⟩
 f47:=Tryz.func139.trans (congrArg some (by kernel_rfl))
 f48:=Tryz.func140.trans (congrArg some (by kernel_rfl))
 f49:=⟨Tryz.f153.name,by decide,Tryz.func153.trans (congrArg some (by kernel_rfl))⟩
 f50:=⟨Tryz.f154.name,by decide,Tryz.func154.trans (congrArg some (by kernel_rfl))⟩
 f57:=⟨Tryz.f162.name,by decide,Tryz.func162.trans (congrArg some (by kernel_rfl))⟩
 t0:=Tryz.underlying0
 a0:=Tryz.isAgg0
 z0:=Tryz.sizeOf0
 v0:=Tryz.zeroValue0
 t3:=Tryz.underlying3
 a3:=Tryz.isAgg3
 z3:=Tryz.sizeOf3
 v3:=Tryz.zeroValue3
 t4:=Tryz.underlying4
 a4:=Tryz.isAgg4
 z4:=Tryz.sizeOf4
 v4:=Tryz.zeroValue4
 t5:=Tryz.underlying5
 a5:=Tryz.isAgg5
 z5:=Tryz.sizeOf5
 v5:=Tryz.zeroValue5
 t9:=Tryz.underlying9
 a9:=Tryz.isAgg9
 z9:=Tryz.sizeOf9
 v9:=Tryz.zeroValue9
 t22:=Tryz.underlying26
 a22:=Tryz.isAgg26
 z22:=Tryz.sizeOf26
 v22:=Tryz.zeroValue26
 t25:=Tryz.underlying95
 a25:=Tryz.isAgg95
 z25:=Tryz.sizeOf95
 v25:=Tryz.zeroValue95
 t39:=Tryz.underlying118
 a39:=Tryz.isAgg118
 z39:=Tryz.sizeOf118
 v39:=Tryz.zeroValue118
 t45:=Tryz.underlying131
 a45:=Tryz.isAgg131
 z45:=Tryz.sizeOf131
 v45:=Tryz.zeroValue131
 t46:=Tryz.underlying132
 a46:=Tryz.isAgg132
 z46:=Tryz.sizeOf132
 v46:=Tryz.zeroValue132
 t50:=Tryz.underlying106
 a50:=Tryz.isAgg106
 z50:=Tryz.sizeOf106
 v50:=Tryz.zeroValue106
 t53:=Tryz.underlying138
 a53:=Tryz.isAgg138
 z53:=Tryz.sizeOf138
 v53:=Tryz.zeroValue138
 t55:=Tryz.underlying23
 a55:=Tryz.isAgg23
 z55:=Tryz.sizeOf23
 v55:=Tryz.zeroValue23
 t66:=Tryz.underlying154
 a66:=Tryz.isAgg154
 z66:=Tryz.sizeOf154
 v66:=Tryz.zeroValue154
 t70:=Tryz.underlying158
 a70:=Tryz.isAgg158
 z70:=Tryz.sizeOf158
 v70:=Tryz.zeroValue158
 t76:=Tryz.underlying170
 a76:=Tryz.isAgg170
 z76:=Tryz.sizeOf170
 v76:=Tryz.zeroValue170
 t77:=Tryz.underlying171
 a77:=Tryz.isAgg171
 z77:=Tryz.sizeOf171
 v77:=Tryz.zeroValue171 }
def Tryz.pdq106_ren : Go.Shelf.Ren:=⟨fun | 14=>106 | 20=>130 | 21=>131 | 22=>132 | 23=>133 | 24=>134 | 25=>135 | 26=>136 | 27=>137 | 46=>155 | 47=>139 | 48=>140 | 49=>156 | 50=>157 | 15=>93 | 57=>163 | 28=>116 | 29=>117 | n=>n,fun | 24=>56 | 22=>29 | 3=>3 | 25=>115 | 4=>4 | 0=>0 | 46=>132 | 45=>131 | 50=>106 | 66=>154 | 39=>118 | 55=>23 | 70=>158 | 76=>170 | 77=>171 | 53=>138 | 5=>5 | 9=>9 | n=>n,fun | n=>n⟩
theorem Tryz.pdq106 : Go.Proofs.SlLaysF0.n14 Tryz.prog Tryz.pdq106_ren:={
 mixed:=by kernel_rfl
 f14:=⟨Tryz.f106.name,by decide,Tryz.func106.trans (congrArg some (by kernel_rfl))⟩
 f15:=Tryz.func93.trans (congrArg some (by kernel_rfl))
 f20:=⟨Tryz.f130.name,by decide,Tryz.func130.trans (congrArg some (by kernel_rfl))⟩
 f21:=⟨Tryz.f131.name,by decide,Tryz.func131.trans (congrArg some (by kernel_rfl))⟩
 f22:=⟨Tryz.f132.name,by decide,Tryz.func132.trans (congrArg some (by kernel_rfl))⟩
 f23:=⟨Tryz.f133.name,by decide,Tryz.func133.trans (congrArg some (by kernel_rfl))⟩
 f24:=⟨Tryz.f134.name,by decide,Tryz.func134.trans (congrArg some (by kernel_rfl))⟩
 f25:=⟨Tryz.f135.name,by decide,Tryz.func135.trans (congrArg some (by kernel_rfl))⟩
 f26:=⟨Tryz.f136.name,by decide,Tryz.func136.trans (congrArg some (by kernel_rfl))⟩
 f27:=⟨Tryz.f137.name,by decide,Tryz.func137.trans (congrArg some (by kernel_rfl))⟩
 f28:=Tryz.func116.trans (congrArg some (by kernel_rfl))
 f29:=Tryz.func117.trans (congrArg some (by kernel_rfl))
 f46:=⟨Tryz.f155.name,by decide,Tryz.func155.trans (congrArg some (by kernel_rfl))⟩
 f47:=Tryz.func139.trans (congrArg some (by kernel_rfl))
 f48:=Tryz.func140.trans (congrArg some (by kernel_rfl))
 f49:=⟨Tryz.f156.name,by decide,Tryz.func156.trans (congrArg some (by kernel_rfl))⟩
 f50:=⟨Tryz.f157.name,by decide,Tryz.func157.trans (congrArg some (by kernel_rfl))⟩
 f57:=⟨Tryz.f163.name,by decide,Tryz.func163.trans (congrArg some (by kernel_rfl))⟩
 t0:=Tryz.underlying0
 a0:=Tryz.isAgg0
 z0:=Tryz.sizeOf0
 v0:=Tryz.zeroValue0
 t3:=Tryz.underlying3
 a3:=Tryz.isAgg3
 z3:=Tryz.sizeOf3
 v3:=Tryz.zeroValue3
 t4:=Tryz.underlying4
 a4:=Tryz.isAgg4
 z4:=Tryz.sizeOf4
 v4:=Tryz.zeroValue4
 t5:=Tryz.underlying5
 a5:=Tryz.isAgg5
 z5:=Tryz.sizeOf5
 v5:=Tryz.zeroValue5
 t9:=Tryz.underlying9
 a9:=Tryz.isAgg9
 z9:=Tryz.sizeOf9
 v9:=Tryz.zeroValue9
 t22:=Tryz.underlying29
 a22:=Tryz.isAgg29
 z22:=Tryz.sizeOf29
 v22:=Tryz.zeroValue29
 t25:=Tryz.underlying115
 a25:=Tryz.isAgg115
 z25:=Tryz.sizeOf115
 v25:=Tryz.zeroValue115
 t39:=Tryz.underlying118
 a39:=Tryz.isAgg118
 z39:=Tryz.sizeOf118
 v39:=Tryz.zeroValue118
 t45:=Tryz.underlying131
 a45:=Tryz.isAgg131
 z45:=Tryz.sizeOf131
 v45:=Tryz.zeroValue131
 t46:=Tryz.underlying132
 a46:=Tryz.isAgg132
 z46:=Tryz.sizeOf132
 v46:=Tryz.zeroValue132
 t50:=Tryz.underlying106
 a50:=Tryz.isAgg106
 z50:=Tryz.sizeOf106
 v50:=Tryz.zeroValue106
 t53:=Tryz.underlying138
 a53:=Tryz.isAgg138
 z53:=Tryz.sizeOf138
 v53:=Tryz.zeroValue138
 t55:=Tryz.underlying23
 a55:=Tryz.isAgg23
 z55:=Tryz.sizeOf23
 v55:=Tryz.zeroValue23
 t66:=Tryz.underlying154
 a66:=Tryz.isAgg154
 z66:=Tryz.sizeOf154
 v66:=Tryz.zeroValue154
 t70:=Tryz.underlying158
 a70:=Tryz.isAgg158
 z70:=Tryz.sizeOf158
 v70:=Tryz.zeroValue158
 t76:=Tryz.underlying170
 a76:=Tryz.isAgg170
 z76:=Tryz.sizeOf170
 v76:=Tryz.zeroValue170
 t77:=Tryz.underlying171
 a77:=Tryz.isAgg171
 z77:=Tryz.sizeOf171
 v77:=Tryz.zeroValue171 }
def Tryz.pdq121_ren : Go.Shelf.Ren:=⟨fun | 14=>121 | 20=>144 | 21=>145 | 22=>146 | 23=>147 | 24=>148 | 25=>149 | 26=>150 | 27=>151 | 46=>159 | 47=>139 | 48=>140 | 49=>160 | 50=>161 | 15=>93 | 57=>164 | 28=>116 | 29=>117 | n=>n,fun | 24=>80 | 22=>54 | 3=>3 | 25=>125 | 4=>4 | 0=>0 | 46=>132 | 45=>131 | 50=>106 | 66=>154 | 39=>118 | 55=>23 | 70=>158 | 76=>170 | 77=>171 | 53=>138 | 5=>5 | 9=>9 | n=>n,fun | n=>n⟩
theorem Tryz.pdq121 : Go.Proofs.SlLaysF0.n14 Tryz.prog Tryz.pdq121_ren:={
 mixed:=by kernel_rfl
 f14:=⟨Tryz.f121.name,by decide,Tryz.func121.trans (congrArg some (by kernel_rfl))⟩
 f15:=Tryz.func93.trans (congrArg some (by kernel_rfl))
 f20:=⟨Tryz.f144.name,by decide,Tryz.func144.trans (congrArg some (by kernel_rfl))⟩
 f21:=⟨Tryz.f145.name,by decide,Tryz.func145.trans (congrArg some (by kernel_rfl))⟩
 f22:=⟨Tryz.f146.name,by decide,Tryz.func146.trans (congrArg some (by kernel_rfl))⟩
 f23:=⟨Tryz.f147.name,by decide,Tryz.func147.trans (congrArg some (by kernel_rfl))⟩
 f24:=⟨Tryz.f148.name,by decide,Tryz.func148.trans (congrArg some (by kernel_rfl))⟩
 f25:=⟨Tryz.f149.name,by decide,Tryz.func149.trans (congrArg some (by kernel_rfl))⟩
 f26:=⟨Tryz.f150.name,by decide,Tryz.func150.trans (congrArg some (by kernel_rfl))⟩
 f27:=⟨Tryz.f151.name,by decide,Tryz.func151.trans (congrArg some (by kernel_rfl))⟩
 f28:=Tryz.func116.trans (congrArg some (by kernel_rfl))
 f29:=Tryz.func117.trans (congrArg some (by kernel_rfl))
 f46:=⟨Tryz.f159.name,by decide,Tryz.func159.trans (congrArg some (by kernel_rfl))⟩
 f47:=Tryz.func139.trans (congrArg some (by kernel_rfl))
 f48:=Tryz.func140.trans (congrArg some (by kernel_rfl))
 f49:=⟨Tryz.f160.name,by decide,Tryz.func160.trans (congrArg some (by kernel_rfl))⟩
 f50:=⟨Tryz.f161.name,by decide,Tryz.func161.trans (congrArg some (by kernel_rfl))⟩
 f57:=⟨Tryz.f164.name,by decide,Tryz.func164.trans (congrArg some (by kernel_rfl))⟩
 t0:=Tryz.underlying0
 a0:=Tryz.isAgg0
 z0:=Tryz.sizeOf0
 v0:=Tryz.zeroValue0
 t3:=Tryz.underlying3
 a3:=Tryz.isAgg3
 z3:=Tryz.sizeOf3
 v3:=Tryz.zeroValue3
 t4:=Tryz.underlying4
 a4:=Tryz.isAgg4
 z4:=Tryz.sizeOf4
 v4:=Tryz.zeroValue4
 t5:=Tryz.underlying5
 a5:=Tryz.isAgg5
 z5:=Tryz.sizeOf5
 v5:=Tryz.zeroValue5
 t9:=Tryz.underlying9
 a9:=Tryz.isAgg9
 z9:=Tryz.sizeOf9
 v9:=Tryz.zeroValue9
 t22:=Tryz.underlying54
 a22:=Tryz.isAgg54
 z22:=Tryz.sizeOf54
 v22:=Tryz.zeroValue54
 t25:=Tryz.underlying125
 a25:=Tryz.isAgg125
 z25:=Tryz.sizeOf125
 v25:=Tryz.zeroValue125
 t39:=Tryz.underlying118
 a39:=Tryz.isAgg118
 z39:=Tryz.sizeOf118
 v39:=Tryz.zeroValue118
 t45:=Tryz.underlying131
 a45:=Tryz.isAgg131
 z45:=Tryz.sizeOf131
 v45:=Tryz.zeroValue131
 t46:=Tryz.underlying132
 a46:=Tryz.isAgg132
 z46:=Tryz.sizeOf132
 v46:=Tryz.zeroValue132
 t50:=Tryz.underlying106
 a50:=Tryz.isAgg106
 z50:=Tryz.sizeOf106
 v50:=Tryz.zeroValue106
 t53:=Tryz.underlying138
 a53:=Tryz.isAgg138
 z53:=Tryz.sizeOf138
 v53:=Tryz.zeroValue138
 t55:=Tryz.underlying23
 a55:=Tryz.isAgg23
 z55:=Tryz.sizeOf23
 v55:=Tryz.zeroValue23
 t66:=Tryz.underlying154
 a66:=Tryz.isAgg154
 z66:=Tryz.sizeOf154
 v66:=Tryz.zeroValue154
 t70:=Tryz.underlying158
 a70:=Tryz.isAgg158
 z70:=Tryz.sizeOf158
 v70:=Tryz.zeroValue158
 t76:=Tryz.underlying170
 a76:=Tryz.isAgg170
 z76:=Tryz.sizeOf170
 v76:=Tryz.zeroValue170
 t77:=Tryz.underlying171
 a77:=Tryz.isAgg171
 z77:=Tryz.sizeOf171
 v77:=Tryz.zeroValue171 }
def Tryz.bits93_ren : Go.Shelf.Ren:=⟨fun | 15=>93 | 28=>116 | 29=>117 | n=>n,fun | 39=>118 | 3=>3 | 53=>138 | 55=>23 | 4=>4 | 5=>5 | 9=>9 | n=>n,fun | n=>n⟩
theorem Tryz.bits93 : Go.Proofs.SlLaysF0.n15 Tryz.prog Tryz.bits93_ren:={
 mixed:=by kernel_rfl
 f15:=Tryz.func93.trans (congrArg some (by kernel_rfl))
 f28:=Tryz.func116.trans (congrArg some (by kernel_rfl))
 f29:=Tryz.func117.trans (congrArg some (by kernel_rfl))
 t3:=Tryz.underlying3
 a3:=Tryz.isAgg3
 z3:=Tryz.sizeOf3
 v3:=Tryz.zeroValue3
 t4:=Tryz.underlying4
 a4:=Tryz.isAgg4
 z4:=Tryz.sizeOf4
 v4:=Tryz.zeroValue4
 t5:=Tryz.underlying5
 a5:=Tryz.isAgg5
 z5:=Tryz.sizeOf5
 v5:=Tryz.zeroValue5
 t9:=Tryz.underlying9
 a9:=Tryz.isAgg9
 z9:=Tryz.sizeOf9
 v9:=Tryz.zeroValue9
 t39:=Tryz.underlying118
 a39:=Tryz.isAgg118
 z39:=Tryz.sizeOf118
 v39:=Tryz.zeroValue118
 t53:=Tryz.underlying138
 a53:=Tryz.isAgg138
 z53:=Tryz.sizeOf138
 v53:=Tryz.zeroValue138
 t55:=Tryz.underlying23
 a55:=Tryz.isAgg23
 z55:=Tryz.sizeOf23
 v55:=Tryz.zeroValue23 }
end Go.Proofs
namespace Go.Ep
open Go.Shelf Go.RowKit Go.Lib Go.Sort Go.Proofs
theorem SortLaw.of{α:Type}[Inhabited α]{P:Program}{f g:FuncId}{k:Nat}{enc:α->List Value}{lt:α->α->Bool}{cf:α->α->Int}(hO:SWO (ltOf cf))(hlt:∀ x y,ltOf cf x y=lt x y)(hk:∀ x,(enc x).length=k)
  (hnil:∀ w:World,Calls P f #[.slice none 0 0,.func (.func g) #[] #[]] w fun e w'=>e=.returned (.tuple #[])/\Go.RowKit.Below w.heap.size w w')
  (hrow:∀ (blk off cap:Nat) (d:Array α) (w:World),HoldsK enc k w blk off d->blk < w.heap.size->d.size < 4611686018427387904 ->
   Calls P f #[.slice (some ⟨blk,off,none⟩) d.size cap,.func (.func g) #[] #[]] w fun e w'=>e=.returned (.tuple #[])/\∃ n os,w'=sortWorldK enc k w blk off n (pdq (ltOf cf) d 0 d.size (Lib.bitLen d.size) true true) os):SortLaw P f g k enc lt:=by
 refine⟨hnil,fun w blk cap l T cur hh hlc hcs hlen hcells=>?_⟩;have hblk:blk < w.heap.size:=(Array.getElem?_eq_some_iff.1 hh).1;have hH:HoldsK enc k w blk 0 l.toArray:=by
  intro j hj;rw[size_flatK] at hj;have hj':j < l.length*k:=by simpa using hj
  obtain⟨hk0,h1,h2,h3⟩:=XG hj'
  constructor
  ·rw[Nat.zero_add,zP hh];show _=some ((flatK enc k l.toArray)[j]!);rw[get_flatK _ _ _ _ hj];have hx:l[j / k]?=some l[j / k]:=List.getElem?_eq_getElem h1;have hlk:(enc l[j / k]).length=k:=hk _;have hu:(enc l[j / k])[j % k]?=some ((enc l[j / k])[j % k]'(by omega)):=List.getElem?_eq_getElem (by omega);have:=hcells (j / k) _ (j % k) _ hx hu;rw[h3] at this;rw[this];have e1:(l.toArray)[j / k]! = l[j / k]:=by simp[h1]
   rw[e1];simp[hu]
  ·simp[World.frozen?,hh]
 have hd:l.toArray.size=l.length:=by simp
 have hcall:=hrow blk 0 cap l.toArray w hH hblk (by simpa using hlen);rw[hd] at hcall;refine hcall.mono fun e w' ⟨he,n,os,hw⟩=>⟨he,?_⟩
 have hp:=pdq_sorts (ltOf cf) hO l.toArray 0 l.toArray.size (Lib.bitLen l.toArray.size) true true (Nat.zero_le _) (Nat.le_refl _) (Or.inl rfl);rw[hd] at hp
 generalize pdq (ltOf cf) l.toArray 0 l.length (Lib.bitLen l.length) true true=d' at hp hw
 obtain⟨⟨hsz,_,hperm⟩,hsort⟩:=hp;have hsz':d'.size=l.length:=by simpa using hsz
 have hp':d'.toList.Perm l:=by
  have e1:(d'.extract 0 l.length).toList=d'.toList:=by rw[<- hsz'];simp
  have e2:(l.toArray.extract 0 l.length).toList=l:=by simp
  rw[e1,e2] at hperm;exact hperm
 have hmod:∀ b,b < w.heap.size->(sortWorldK enc k w blk 0 n d' os).heap[b]?=if blk=b then (w.heap[b]?).map (onCells (putCells id 0 (flatK enc k d'))) else w.heap[b]?:=by
  intro b hb;have hb2:b < (putRowK enc k (Sort.ahead w n) blk 0 d').heap.size:=by simpa[putRowK,Sort.ahead] using hb
  show(grow (putRowK enc k (Sort.ahead w n) blk 0 d') os).heap[b]?=_;rw[Sort.heap_grow_old _ _ hb2];show((w.heap.modify blk (onCells (putCells id 0 (flatK enc k d')))))[b]?=_;rw[Array.getElem?_modify]
 subst hw;refine⟨d'.toList,(putCells id 0 (flatK enc k d') cur.toArray).toList,hp',?_,?_,?_,?_,rfl,rfl,rfl,?_,?_⟩
 ·rw[List.pairwise_iff_getElem];intro i j hi hj hij;have:=hsort i j (Nat.zero_le _) hij (by simpa[hsz'] using hj);rw[hlt] at this;have hi':i < d'.size:=by simpa using hi
  have hj':j < d'.size:=by simpa using hj
  simpa[hi',hj'] using this
 ·rw[hmod blk hblk,if_pos rfl,hh];simp[onCells]
 ·simp[putCells]
 ·intro i x j u hi hu;have hi':i < l.length:=by rw[<- hsz'];have:=(List.getElem?_eq_some_iff.1 hi).1;simpa using this
  have hj:j < k:=by rw[<- hk x];exact(List.getElem?_eq_some_iff.1 hu).1
  have hlt2:i*k+j < l.length*k:=vL hi' hj;have hcl:l.length*k<=cur.length:=by rw[hcs];exact Nat.mul_le_mul_right k hlc
  have hin:i*k+j < d'.size*k:=by rw[hsz'];exact hlt2
  have hget:(flatK enc k d')[i*k+j]! = u:=by
   rw[get_flatK _ _ _ _ hin];have hk0:0 < k:=by omega
   have e1:(i*k+j) / k=i:=by rw[Nat.mul_comm,Nat.mul_add_div hk0,Nat.div_eq_of_lt hj];omega
   have e2:(i*k+j) % k=j:=by rw[Nat.mul_comm,Nat.mul_add_mod,Nat.mod_eq_of_lt hj]
   rw[e1,e2];have e3:d'[i]! = x:=by
    obtain⟨h1,h2⟩:=List.getElem?_eq_some_iff.1 hi;have h1':i < d'.size:=by simpa using h1
    rw[getElem!_pos d' i h1'];simpa using h2
   rw[e3];simp[hu]
  have hc2:i*k+j < cur.length:=by omega
  simp only[putCells,Array.toList_mapIdx,List.getElem?_mapIdx];rw[List.getElem?_eq_getElem hc2];simp only[Option.map_some,id];rw[if_pos ⟨Nat.zero_le _,by rw[size_flatK];omega⟩,Nat.sub_zero,hget]
 ·show w.heap.size<=(grow (putRowK enc k (Sort.ahead w n) blk 0 d') os).heap.size;simp[grow,putRowK,Sort.ahead]
 ·intro b hb hne;rw[hmod b hb,if_neg (Ne.symm hne)]
end Go.Ep

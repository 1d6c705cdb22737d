/- Side texts. -/
import Derived.Test.YtmjhkhdnbenhfaaGreatDoorABk2
import Derived.Test.YtmjhkhdnbenhfaaGreatDoorABk3
import Derived.Test.YtmjhkhdnbenhfaaGreatDoorABk4
import Derived.Test.YtmjhkhdnbenhfaaGreatDoorABk5
set_option linter.unusedVariables false
set_option linter.unusedSimpArgs false
namespace Go.Ep
open Go.RowKit
section
variable{ctx:Ctx}{s:PState}
theorem RelG.obj{g:zf}{a:Act}{w:World}(h1:RelG ctx g s a w){id:Nat}{o o':Ob}(hl:look s.objs id=some o)(hob:ObRd w g (zm ctx g s.objs) id o'):RelG ctx g { s with objs:=yJ id o' s.objs } a w:=by
 have hF:∀ b,zm ctx g s.objs b->zm ctx g (yJ id o' s.objs) b:=fun b hb=>⟨hb.1,fun i o2 n ho hgi=>by
  rw[zC] at ho
  by_cases ei:i=id
  ·subst ei;exact hb.2 i _ n hl hgi
  ·rw[if_neg ei] at ho;exact hb.2 i o2 n ho hgi⟩
 have hst:yc w w (zm ctx g s.objs):=⟨Nat.le_refl _,fun _ _ _=>rfl⟩
 have hlk:∀ i o2,look (yJ id o' s.objs) i=some o2->∃ o3,look s.objs i=some o3:=fun i o2 ho=>by
  rw[zC] at ho
  by_cases ei:i=id
  ·subst ei;exact⟨_,hl⟩
  ·rw[if_neg ei] at ho;exact⟨_,ho⟩
 refine⟨h1.defers,h1.size,fun i p hp=>(h1.slots i p hp).keep hst (fun b hb _=>hF b hb) (fun _ _=>rfl),fun i o2 ho=>?_,fun i i2 o2 o3 b n m ho ho2 hgi hgi2=>?_,fun i o2 b n ho hgi=>?_,h1.os,h1.tape,h1.output,h1.grows,h1.keep⟩
 ·rw[zC] at ho
  by_cases ei:i=id
  ·subst ei;rw[if_pos rfl] at ho
   cases ho
   exact hob.keep hst (fun b hb _=>hF b hb) (fun _ _ _=>rfl) rfl (fun _ _=>rfl)
  ·rw[if_neg ei] at ho;exact(h1.objs i o2 ho).keep hst (fun b hb _=>hF b hb) (fun _ _ _=>rfl) rfl (fun _ _=>rfl)
 ·obtain⟨o4,e4⟩:=hlk i o2 ho;obtain⟨o5,e5⟩:=hlk i2 o3 ho2;exact h1.inj i i2 o4 o5 b n m e4 e5 hgi hgi2
 ·obtain⟨o4,e4⟩:=hlk i o2 ho;exact h1.own i o4 b n e4 hgi
variable{id:Nat}{nl:Bool}{ks:List IntKind}{ag:Bool}{m:List (List Int×List DV)}{bs:List Nat}{ck:Nat}
theorem Sub.nToH(hl:look s.objs id=some (.mapN nl ks ag m bs ck)):Sub ctx s { s with objs:=yJ id (.mapH nl ks ag m) s.objs }:=
 Sub.obj hl fun w g S h=>by
  cases h with
  | mapNil _ _ _ h=>exact .mapHNil _ _ h
  | mapN _ _ _ _ _ blk n es h hh hm=>exact .mapH _ _ _ _ _ blk n es h hh hm
theorem Sub.toH(hl:look s.objs id=some (.map ks ag m bs ck)):Sub ctx s { s with objs:=yJ id (.mapH false ks ag m) s.objs }:=
 Sub.obj hl fun w g S h=>by
  cases h with
  | map _ _ _ _ _ blk n es h hh hm=>exact .mapH _ _ _ _ _ blk n es h hh hm
theorem Sub.hT(hl:look s.objs id=some (.mapH nl ks ag m))(hn:nl=true):Sub ctx s { s with objs:=yJ id (.mapN true ks ag m [] 0) s.objs }:=
 Sub.obj hl fun w g S h=>by
  subst hn
  cases h with
  | mapHNil _ _ h=>exact .mapNil _ _ _ h
theorem openH(hl:look s.objs id=some (.mapH nl ks ag m)){a:Act}{w:World}(hr:Rel ctx s a w):∃ bs ck,Rel ctx { s with objs:=yJ id (.mapN nl ks ag m bs ck) s.objs } a w:=by
 obtain⟨g,hg⟩:=hr;have h:=hg.objs id _ hl
 cases h with
 | mapHNil _ _ h=>exact⟨[],0,g,hg.obj hl (.mapNil _ _ _ h)⟩
 | mapH _ _ _ bs ck blk n es h hh hm=>exact⟨bs,ck,g,hg.obj hl (.mapN _ _ _ _ _ blk n es h hh hm)⟩
variable{P:Program}{Q:PQ}
theorem PWc.openH{c:Code}(hl:look s.objs id=some (.mapH nl ks ag m))(h:∀ bs ck,PWc P ctx c Q { s with objs:=yJ id (.mapN nl ks ag m bs ck) s.objs }):PWc P ctx c Q s:=fun a w hr=>by
 obtain⟨bs,ck,h2⟩:=Go.Ep.openH hl hr;exact h bs ck a w h2
theorem yHa(id:Nat)(o o':Ob)(l:List (Nat×Ob))(i:Nat):look (yJ id o (yJ id o' l)) i=look (yJ id o l) i:=by
 rw[zC,zC,zC]
 by_cases h:i=id <;> simp[h]
theorem Sub.same{t:PState}(hn:s.n=t.n)(hs:s.sl=t.sl)(ho:∀ i,look s.objs i=look t.objs i):Sub ctx s t:=
 Sub.drop hn (fun i p hp=>by rw[XQ] at hp ⊢;rw[hn,hs];exact hp) (fun i o h=>by rw[ho];exact h)
theorem PWc.hF{c:Code}(hl:look s.objs id=some (.mapH nl ks ag m))(hn:nl=false)(h:∀ bs ck,PWc P ctx c Q { s with objs:=yJ id (.map ks ag m bs ck) s.objs }):PWc P ctx c Q s:=
 PWc.openH hl fun bs ck=>PWc.sub (Sub.mapF (id:=id) (by show look (yJ id _ _) id=_;rw[zC,if_pos rfl]) hn) (PWc.sub (Sub.same (t:={ s with objs:=yJ id (.map ks ag m bs ck) s.objs }) rfl rfl fun i=>by
  show look (yJ id _ (yJ id _ _)) i=look (yJ id _ _) i;rw[yHa]) (h bs ck))
theorem Local.openH{o:Oper}{t:PState}(hl:look s.objs id=some (.mapH nl ks ag m))(h:∀ bs ck,Local P ctx o { s with objs:=yJ id (.mapN nl ks ag m bs ck) s.objs } t):Local P ctx o s t:=fun a w hr K Qx hK=>by
 obtain⟨bs,ck,h2⟩:=Go.Ep.openH hl hr;exact h bs ck a w h2 K Qx hK
theorem closeP{dst:Option Nat}{p:PV}{m':List (List Int×List DV)}(hl:look s.objs id=some (.mapH nl ks ag m')):Sub ctx (({ s with objs:=yJ id (.mapN nl ks ag m' bs ck) s.objs }:PState).putD dst p) (s.putD dst p):=by
 refine Sub.trans (Sub.nToH (id:=id) (nl:=nl) (ks:=ks) (ag:=ag) (m:=m') (bs:=bs) (ck:=ck) ?_) (Sub.same ?_ ?_ fun i=>?_)
 ·rw[yo];show look (yJ id _ _) id=_;rw[zC,if_pos rfl]
 ·cases dst <;> rfl
 ·cases dst <;> rfl
 ·rw[yo];show look (yJ id _ _) i=_;rw[yo];show look (yJ id _ (yJ id _ _)) i=_;rw[yHa,zC]
  by_cases h:i=id
  ·rw[if_pos h,h,hl]
  ·rw[if_neg h]
theorem ev_objs{x:Operand}(l:List (Nat×Ob)):({ s with objs:=l }:PState).ev x=s.ev x:=by cases x <;> rfl
end
section
variable{P:Program}{ctx:Ctx}{Q:PQ}{s:PState}
variable{dst:Option Tmp}{ty:TypeId}{pos:String}{after:Array Edge}{gd:Option (Nat×Bool)}
variable{κ ν:Type}[DecidableEq κ]{eK:κ->List Int}{eV:ν->List DV}{m:List (κ×ν)}{q:κ}{zv:ν}(inj:∀ a b,eK a=eK b->a=b)
variable{x kx:Operand}{t kt et:TypeId}{ks:List IntKind}{ag:Bool}{z:Value}{p kp:PV}{id:Nat}{nl:Bool}{bs:List Nat}{ck:Nat}
section
variable(hu:P.underlying t=some (.map kt et))(K:KeyOK P kt ks)(hz:∀ w,(zeroValue et).run P w=.ok z w)(hzr:∀ (w:World) (g:zf) (S:Nat->Prop),Rd w g S (elP ag (eV zv)) z)(hk:s.ev kx=some kp)(hkp:kp=vva ks (eK q))(hn:(eK q).length=ks.length)(hp:elP ag (eV (AL.getZ m q zv))=p)
include inj hu K hz hzr hk hkp hn hp
end
theorem LR.eqlH{mm:List (List Int×List DV)}{t t' kt et:TypeId}(hu:P.underlying t=some (.map kt et))(hx:s.ev x=some (.mp id))(hl:look s.objs id=some (.mapH nl ks ag mm)) :
  Local P ctx ⟨dst,.binOp .eql t x (.const (.map none)) t',ty,pos,after,gd⟩ s (s.putD dst (.d (.v (.bool nl)))):=
 Local.openH hl fun bs ck=>(LR.eqlMapN hu (by rw[ev_objs];exact hx) (by show look (yJ id _ _) id=_;rw[zC,if_pos rfl])).post (closeP hl)
end
inductive JCs (nm:List Nat):List PV->List PV->Prop
 | nil:JCs nm [] []
 | keep {p:PV} {cs cs':List PV} (h:p.named nm=true) (t:JCs nm cs cs'):JCs nm (p::cs) (p::cs')
 | junk {p:PV} {cs cs':List PV} (t:JCs nm cs cs'):JCs nm (p::cs) (.junk::cs')
inductive JOb (nm:List Nat):Ob->Ob->Prop
 | same {o:Ob} (h:o.named nm=true):JOb nm o o
 | cells {T:TypeId} {cs cs':List PV} (h:JCs nm cs cs'):JOb nm (.cells T cs) (.cells T cs')
inductive JObs (nm:List Nat):List (Nat×Ob)->List (Nat×Ob)->Prop
 | nil:JObs nm [] []
 | cons {k:Nat} {o o':Ob} {F F':List (Nat×Ob)} (h:JOb nm o o') (t:JObs nm F F'):JObs nm ((k,o)::F) ((k,o')::F')
theorem JCs.len{nm:List Nat}{cs cs':List PV}(h:JCs nm cs cs'):cs'.length=cs.length:=by
 induction h with
 | nil=>rfl
 | keep _ _ ih=>simp[ih]
 | junk _ ih=>simp[ih]
theorem JCs.get{nm:List Nat}{cs cs':List PV}(h:JCs nm cs cs'):∀ (i:Nat) (p:PV),cs'[i]?=some p->p=.junk\/cs[i]?=some p:=by
 induction h with
 | nil=>intro i p h;simp at h
 | keep _ _ ih=>
  intro i p h
  cases i with
  | zero=>exact .inr (by simpa using h)
  | succ i=>simpa using ih i p (by simpa using h)
 | junk _ ih=>
  intro i p h
  cases i with
  | zero=>exact .inl (by simpa using h.symm)
  | succ i=>simpa using ih i p (by simpa using h)
theorem JCs.named{nm:List Nat}{cs cs':List PV}(h:JCs nm cs cs'):PV.named.namedL nm cs'=true:=by
 induction h with
 | nil=>rfl
 | keep h _ ih=>simp only[PV.named.namedL,h,ih,Bool.and_self]
 | junk _ ih=>simp only[PV.named.namedL,PV.named,ih,Bool.and_self]
theorem JOb.named{nm:List Nat}{o o':Ob}(h:JOb nm o o'):o'.named nm=true:=by
 cases h with
 | same h=>exact h
 | cells h=>exact h.named
theorem JOb.rd{nm:List Nat}{o o':Ob}(h:JOb nm o o'){w:World}{g:zf}{S:Nat->Prop}{id:Nat}(hr:ObRd w g S id o):ObRd w g S id o':=by
 cases h with
 | same=>exact hr
 | cells h=>
  cases hr with
  | cells _ _ blk n us hgi hh hl hr' h1=>
   refine .cells _ _ blk n us hgi hh (h.len.trans hl) (fun i p u hp hu=>?_) h1;rcases h.get i p hp with rfl | h2
   ·exact .junk u
   ·exact hr' i p u h2 hu
theorem JObs.look{nm:List Nat}{F F':List (Nat×Ob)}(h:JObs nm F F'):∀ (id:Nat) (o':Ob),Go.Ep.look F' id=some o'->∃ o,Go.Ep.look F id=some o/\JOb nm o o':=by
 induction h with
 | nil=>intro id o' h;simp[Go.Ep.look] at h
 | cons h _ ih=>
  intro id o' hl;simp only[Go.Ep.look] at hl ⊢
  split at hl
  ·rename_i e;cases hl;exact⟨_,by rw[if_pos e],h⟩
  ·rename_i e;rw[if_neg e];exact ih id o' hl
theorem uXa{l:List (Nat×Ob)}{i:Nat}(h:i∉l.map (·.1)):look l i=none:=by
 cases hl:look l i with
 | none=>rfl
 | some o=>exact absurd (yO hl) h
theorem OwnB.app{g:zf}{a b:List (Nat×Ob)}{k:Nat}(h:OwnB g (a++b) k):OwnB g a k\/OwnB g b k:=by
 obtain⟨id,o,n,h1,h2⟩:=h;rw[vD] at h1
 cases hl:look a id with
 | none=>rw[hl,Option.none_or] at h1;exact .inr ⟨id,o,n,h1,h2⟩
 | some q=>rw[hl,Option.some_or] at h1;exact .inl ⟨id,q,n,hl,h2⟩
theorem PObj.frame{G:Type}{P:Program}{f:FuncId}{ps:List PV}{os:List (Nat×Ob)}{pins ks:List Nat}{r:PV}{os':G->List (Nat×Ob)}(F F':List (Nat×Ob))(hc:PObj P f ps os pins r os')
  (hks:∀ gh,(os' gh).map (·.1)=ks) (hcl:∀ gh,(os' gh).all (fun x=>x.2.named ks)=true) (hr:r.named ks=true) (hd:((F.map (·.1)).all fun k=>!inL (os.map (·.1)) k&&!inL ks k)=true) (hj:JObs (pins++F.map (·.1)) F F') :
  PObj P f ps (os++F) (pins++F.map (·.1)) r (fun gh=>os' gh++F'):=by
 intro w g S vs hlen hreal hobs hdis;have hd1:∀ k∈F.map (·.1),k∉os.map (·.1)/\k∉ks:=fun k hk=>by
  have h:=List.all_eq_true.1 hd k hk;rw[Bool.and_eq_true,Bool.not_eq_true',Bool.not_eq_true',XZ,XZ] at h;exact h
 have WX:∀ {id o},look F id=some o->look (os++F) id=some o:=fun {id o} h=>by
  rw[vD,uXa (hd1 id (yO h)).1,Option.none_or];exact h
 have ownL:∀ {b},OwnB g os b->OwnB g (os++F) b:=fun⟨id,o,n,h1,h2⟩=>⟨id,o,n,wc h1,h2⟩
 have ownR:∀ {b},OwnB g F b->OwnB g (os++F) b:=fun⟨id,o,n,h1,h2⟩=>⟨id,o,n,WX h1,h2⟩
 have hnF:∀ {id o b n},look F id=some o->g id=some (b,n)->¬ OwnB g os b:=fun {id o b n} h1 h2 ⟨id2,o2,n2,h3,h4⟩=>by
  have:=hobs.inj id id2 o o2 b n n2 (WX h1) (wc h3) h2 h4;subst this;exact(hd1 id (yO h1)).1 (yO h3)
 refine(hc w g S vs hlen hreal ⟨fun id o h=>hobs.rd id o (wc h),fun i j oi oj b n m hi hj=>hobs.inj i j oi oj b n m (wc hi) (wc hj),fun id o b n h=>hobs.lt id o b n (wc h)⟩ (fun b hb h=>hdis b hb (ownL h))).mono fun e w' ⟨u,g',gh,he,hpost⟩=>?_
 have hks':=hks gh;have hcl':=hcl gh
 let G':zf:=fun j=>if inL (F.map (·.1)) j then g j else g' j
 refine⟨u,G',gh,he,?_⟩;show wRa w g S (os++F) (pins++F.map (·.1)) r (os' gh++F') w' G' u
 generalize os' gh=os1 at hpost hks' hcl' ⊢
 have gF:∀ {j},j∈F.map (·.1)->G' j=g j:=fun {j} h=>by simp only[G',zc.2 h,if_true]
 have gN:∀ {j},j∉F.map (·.1)->G' j=g' j:=fun {j} h=>by simp only[G',XZ.2 h,Bool.false_eq_true,if_false]
 have gK:∀ {j},j∈ks->G' j=g' j:=fun {j} h=>gN fun h2=>(hd1 j h2).2 h
 have gP:∀ {j},j∈pins++F.map (·.1)->G' j=g j:=fun {j} h=>by
  by_cases hf:j∈F.map (·.1)
  ·exact gF hf
  ·rw[gN hf];exact hpost.pin j ((List.mem_append.1 h).resolve_right hf)
 have split:∀ {id o},look (os1++F') id=some o->(look os1 id=some o/\id∈ks)\/∃ o0,look F id=some o0/\JOb (pins++F.map (·.1)) o0 o:=fun {id o} h=>by
  rw[vD] at h
  cases hl:look os1 id with
  | none=>rw[hl,Option.none_or] at h;exact .inr (hj.look id o h)
  | some q=>rw[hl,Option.some_or] at h;cases h;exact .inl ⟨rfl,hks'▸yO hl⟩
 have hA:∀ b,JC w g S os g' os1 b->JC w g S (os++F) G' (os1++F') b:=fun b ⟨h1,h2⟩=>⟨by
  rcases h1 with h1 | h1 | h1
  ·exact .inl h1
  ·exact .inr (.inl (ownL h1))
  ·exact .inr (.inr h1),fun⟨id,o,n,hl,hgi⟩=>by
  rcases split hl with⟨h3,h4⟩ | ⟨o0,h3,h4⟩
  ·rw[gK h4] at hgi;exact h2 ⟨id,o,n,h3,hgi⟩
  ·rw[gF (yO h3)] at hgi;rcases h1 with h1 | h1 | h1
   ·exact hdis b h1 ⟨id,o0,n,WX h3,hgi⟩
   ·exact hnF h3 hgi h1
   ·have:=hobs.lt id o0 b n (WX h3) hgi;omega⟩
 have hS:∀ b,S b->b < w.heap.size->JC w g S (os++F) G' (os1++F') b:=fun b hb hlt=>⟨.inl hb,fun⟨id,o,n,hl,hgi⟩=>by
  rcases split hl with⟨h3,h4⟩ | ⟨o0,h3,h4⟩
  ·rw[gK h4] at hgi;rcases hpost.own b ⟨id,o,n,h3,hgi⟩ with h5 | h5
   ·exact hdis b hb (ownL h5)
   ·omega
  ·rw[gF (yO h3)] at hgi;exact hdis b hb ⟨id,o0,n,WX h3,hgi⟩⟩
 have hst:yc w w' S:=⟨hpost.grows,fun b hb hlt=>hpost.keep b hlt fun h=>hdis b hb (ownL h)⟩
 have hst':yc w' w' (JC w g S os g' os1):=⟨Nat.le_refl _,fun _ _ _=>rfl⟩
 refine⟨hpost.eos,hpost.tape,hpost.output,hpost.grows,fun k hk h=>hpost.keep k hk fun h2=>h (ownL h2),fun b ⟨id,o,n,hl,hgi⟩=>?_,fun id h=>gP h,?_,⟨fun id o hl=>?_,fun i j oi oj b n m hi hj' hgi hgj=>?_,fun id o b n hl hgi=>?_⟩⟩
 ·rcases split hl with⟨h3,h4⟩ | ⟨o0,h3,h4⟩
  ·rw[gK h4] at hgi;exact(hpost.own b ⟨id,o,n,h3,hgi⟩).imp ownL (fun h=>h)
  ·rw[gF (yO h3)] at hgi;exact .inl (ownR ⟨id,o0,n,h3,hgi⟩)
 ·exact hpost.res.keep hst' (fun b hb _=>hA b hb) fun j hjj=>gK (PV.named_has hr hjj)
 ·rcases split hl with⟨h3,h4⟩ | ⟨o0,h3,h4⟩
  ·have hn:=(List.all_eq_true.1 hcl') _ (wg h3);exact(hpost.obs.rd id o h3).keep hst' (fun b hb _=>hA b hb) (fun _ _ _=>rfl) (gK h4) fun j hjj=>gK (Ob.named_has hn hjj)
  ·exact(h4.rd (hobs.rd id o0 (WX h3))).keep hst hS (fun b n hgi=>hpost.keep b (hobs.lt id o0 b n (WX h3) hgi) (hnF h3 hgi)) (gF (yO h3)) fun j hjj=>gP (Ob.named_has h4.named hjj)
 ·rcases split hi with⟨h3,h4⟩ | ⟨o0,h3,h4⟩ <;> rcases split hj' with⟨h5,h6⟩ | ⟨o2,h5,h6⟩
  ·rw[gK h4] at hgi;rw[gK h6] at hgj;exact hpost.obs.inj i j oi oj b n m h3 h5 hgi hgj
  ·rw[gK h4] at hgi;rw[gF (yO h5)] at hgj;exfalso;rcases hpost.own b ⟨i,oi,n,h3,hgi⟩ with h7 | h7
   ·exact hnF h5 hgj h7
   ·have:=hobs.lt j o2 b m (WX h5) hgj;omega
  ·rw[gF (yO h3)] at hgi;rw[gK h6] at hgj;exfalso;rcases hpost.own b ⟨j,oj,m,h5,hgj⟩ with h7 | h7
   ·exact hnF h3 hgi h7
   ·have:=hobs.lt i o0 b n (WX h3) hgi;omega
  ·rw[gF (yO h3)] at hgi;rw[gF (yO h5)] at hgj;exact hobs.inj i j o0 o2 b n m (WX h3) (WX h5) hgi hgj
 ·rcases split hl with⟨h3,h4⟩ | ⟨o0,h3,h4⟩
  ·rw[gK h4] at hgi;exact hpost.obs.lt id o b n h3 hgi
  ·rw[gF (yO h3)] at hgi;exact Nat.lt_of_lt_of_le (hobs.lt id o0 b n (WX h3) hgi) hpost.grows
section
variable{ctx:Ctx}{s:PState}
inductive RSl (s:PState) (ρ:List (Nat×Nat)):List (Nat×PV)->Prop
 | nil:RSl s ρ []
 | cons {i:Nat} {p:PV} {r:List (Nat×PV)} (h:s.at i=some (p.ren ρ)) (t:RSl s ρ r):RSl s ρ ((i,p)::r)
theorem RSl.get{ρ:List (Nat×Nat)}{l:List (Nat×PV)}(h:RSl s ρ l):∀ i p,xC l i=some p->s.at i=some (p.ren ρ):=by
 induction h with
 | nil=>intro i p h;simp[xC] at h
 | cons h _ ih=>
  intro i p hl;rw[yi] at hl
  split at hl
  ·rename_i e;subst e;cases hl;exact h
  ·exact ih i p hl
end
inductive LookIn (os':List (Nat×Ob)):List (Nat×Ob)->Prop
 | nil:LookIn os' []
 | cons {i:Nat} {o:Ob} {r:List (Nat×Ob)} (h:Go.Ep.look os' i=some o) (t:LookIn os' r):LookIn os' ((i,o)::r)
theorem LookIn.get{os' l:List (Nat×Ob)}(h:LookIn os' l):∀ i o,Go.Ep.look l i=some o->Go.Ep.look os' i=some o:=by
 induction h with
 | nil=>intro i o h;simp[Go.Ep.look] at h
 | cons h _ ih=>
  intro j o2 hl;simp only[Go.Ep.look] at hl
  split at hl
  ·rename_i e;subst e;cases hl;exact h
  ·exact ih j o2 hl
theorem lookF{ρ:List (Nat×Nat)}{acc:List (Nat×Ob)}{i:Nat}{o:Ob}:∀ {l:List (Nat×Ob)},look l i=some o->(∀ j∈l.map (·.1),rn ρ j=rn ρ i->j=i)->look (l.foldr (fun x l=>yJ (rn ρ x.1) (x.2.ren ρ) l) acc) (rn ρ i)=some (o.ren ρ)
 | [],h,_=>by simp[look] at h
 | (k,q)::r,h,hi=>by
  rw[List.foldr_cons,zC]
  by_cases e:rn ρ i=rn ρ k
  ·rw[if_pos e];have:=hi k (by simp) e.symm;subst this;simp[look] at h;rw[h]
  ·rw[if_neg e];refine lookF (l:=r) ?_ (fun j hj=>hi j (by simp only[List.map_cons,List.mem_cons];exact .inr hj));simp only[look] at h;rw[if_neg (fun e2=>e (by rw[e2]))] at h;exact h
theorem lookN{ρ:List (Nat×Nat)}{acc:List (Nat×Ob)}{j:Nat}:∀ {l:List (Nat×Ob)},(∀ i∈l.map (·.1),rn ρ i≠j)->look (l.foldr (fun x l=>yJ (rn ρ x.1) (x.2.ren ρ) l) acc) j=look acc j
 | [],_=>rfl
 | (k,q)::r,h=>by
  rw[List.foldr_cons,zC,if_neg (fun e=>h k (by simp) e.symm)];exact lookN fun i hi=>h i (by simp only[List.map_cons,List.mem_cons];exact .inr hi)
theorem lookDN{ρ:List (Nat×Nat)}{acc:List (Nat×Ob)}{j:Nat}:∀ {l:List (Nat×Ob)},(∀ i∈l.map (·.1),rn ρ i≠j)->look (l.foldr (fun x l=>YD (rn ρ x.1) l) acc) j=look acc j
 | [],_=>rfl
 | (k,q)::r,h=>by
  rw[List.foldr_cons,xV,if_neg (fun e=>h k (by simp) e.symm)];exact lookDN fun i hi=>h i (by simp only[List.map_cons,List.mem_cons];exact .inr hi)
theorem key_look{l:List (Nat×Ob)}{i:Nat}(h:i∈l.map (·.1)):∃ o,look l i=some o:=by
 cases hl:look l i with
 | some o=>exact⟨o,rfl⟩
 | none=>
  exfalso
  induction l with
  | nil=>cases h
  | cons x r ih=>
   simp only[look] at hl
   split at hl
   ·cases hl
   ·rename_i e
    simp only[List.map_cons,List.mem_cons] at h;exact ih (h.resolve_left e) hl
section
variable{P:Program}{ctx:Ctx}{Q:PState->Prop}{s:PState}{ops:Array Oper}{rest:List Oper}{fs:List Ft}{f:Ft}
variable{dst:Option Tmp}{ty:TypeId}{pos:String}{after:Array Edge}{gd:Option (Nat×Bool)}
theorem PQe.callObjS{x:Operand}{xs:List Operand}{ats:Array TypeId}{fn:FuncId}{ps qs:List PV}{os os':List (Nat×Ob)}{pins:List Nat}{r:PV}(ρ:List (Nat×Nat))(js ks:List Nat)(osV osS:List (Nat×Ob))
  (hc:PObj P fn ps os pins r (fun _:Unit=>os')) (hK:∀ b,ctx.K b->ctx.S b)
  (hev:∀ s':PState,(∀ {y q},vI (⟨dst,.call ⟨.value x,xs.toArray,ats⟩,ty,pos,after,gd⟩:Oper) y=true->s.ev y=some q->s'.ev y=some q)->s'.ev x=some (.d (.v (.func (.func fn) #[] #[])))/\s'.evs xs=some qs)
  (he:∀ args w,(callFunc fn args).run P w=.ok (.enter fn args) w) (hq:qs.map PV.nilD=ps.map (PV.ren ρ)) (hos:AllOb s ρ os) (hV:LookIn os' osV) (hS:LookIn os' osS) (hAS:AllOb s ρ osS) (hcov:(os'.map (·.1)).all (fun i=>inL (osV.map (·.1)) i||inL (osS.map (·.1)) i)=true) (hSo:(osS.map (·.1)).all (inL (os.map (·.1)))=true)
  (hks:os'.map (·.1)=ks) (hcl:os'.all (fun x=>x.2.named ks)=true) (hr:r.named ks=true) (hok:calO ρ js (os.map (·.1)) pins ks f=true)
  (hg:Wd ops (⟨dst,.call ⟨.value x,xs.toArray,ats⟩,ty,pos,after,gd⟩:Oper) s) (hk:okE f (xPa ρ js dst r osV)=true) (h:PQe P ctx ops Q rest fs (s.app (xPa ρ js dst r osV))) :
  PQe P ctx ops Q (⟨dst,.call ⟨.value x,xs.toArray,ats⟩,ty,pos,after,gd⟩::rest) (f::fs) s:=by
 simp only[calO,Bool.and_eq_true] at hok;obtain⟨⟨⟨⟨⟨c1,c2⟩,c3⟩,c4⟩,c5⟩,c6⟩:=hok;refine .step (e:=xPa ρ js dst r osV) (fun s' hn hee ho hfr hal=>?_) hg hk h;obtain⟨h1,h2⟩:=hev s' (fun hx hq=>hee hx hq);have hinj:∀ i j,i∈os.map (·.1)++ks->j∈os.map (·.1)++ks->rn ρ i=rn ρ j->i=j:=fun i j hi hj e=>by
  have h3:=List.all_eq_true.1 (List.all_eq_true.1 c1 i hi) j hj;rw[Bool.or_eq_true,Bool.not_eq_true'] at h3;rcases h3 with h | h
  ·exact Nat.eq_of_beq_eq_true h
  ·rw[e,Nat.beq_refl] at h;cases h
 have hok':Va s' ρ js (os.map (·.1)) pins ks=true:=by
  unfold Va;rw[Bool.and_eq_true,Bool.and_eq_true];refine⟨⟨c1,?_⟩,?_⟩
  ·rw[List.all_eq_true] at c2 ⊢;intro i hi;have:=c2 i hi;rw[Bool.or_eq_true] at this ⊢;exact this.imp (fun h=>h) fun h=>hfr _ (zc.1 h)
  ·rw[List.all_eq_true] at c5 ⊢;intro i hi;have:=c5 i hi;rw[Bool.or_eq_true,Bool.or_eq_true] at this;rw[Bool.or_eq_true];rcases this with(h | h) | h
   ·exact .inl h
   ·refine .inr ?_;have hf:=hfr _ (zc.1 h);rw[Bool.and_eq_true];refine⟨yGa js hf,?_⟩;simp only[PState.fresh,Bool.and_eq_true,List.all_eq_true] at hf;rw[List.all_eq_true];intro y hy;rw[Bool.or_eq_true];exact .inl (hf.2 y hy).2
   ·refine .inr ?_;obtain⟨a,ha1,ha2⟩:=List.any_eq_true.1 h;simp only[Bool.and_eq_true,beq_iff_eq] at ha2;have hx:=hal a ha1;rw[Nat.eq_of_beq_eq_true ha2.1,ha2.2] at hx;unfold PState.aloneX at hx;rw[Bool.and_eq_true,yC] at hx;rw[Bool.and_eq_true];refine⟨hx.1,?_⟩;rw[List.all_eq_true] at c4;have hx2:=hx.2;rw[List.all_eq_true] at hx2 ⊢;intro y hy;have:=hx2 y hy;rw[Bool.or_eq_true] at this ⊢;rcases this with h | h
    ·exact .inr (c4 _ (zc.1 h))
    ·exact .inl h
 have hl:=LR.callObj (P:=P) (ctx:=ctx) (dst:=dst) (ty:=ty) (pos:=pos) (after:=after) (gd:=gd) (ats:=ats) ρ js ks hc hK h1 he h2 hq (hos.keep (fun hi hl=>ho (zc.1 hi) hl) c6) hks hcl hr hok';have hAS':AllOb s' ρ osS:=hAS.keep (f:=f) (fun hi hl=>ho (zc.1 hi) hl) (by
  rw[List.all_eq_true] at c6 hSo ⊢;exact fun i hi=>c6 i (zc.1 (hSo i hi)))
 refine hl.post (Sub.drop ?_ ?_ ?_)
 ·cases dst <;> rfl
 ·intro i p hp;have hat:=uz hp;have hlt:i < s'.n:=qB (s:=s'.app (xPa ρ js dst r osV)) hp;refine y3a (by cases dst <;> exact hlt) ?_;simp only[PState.app,xPa] at hat
  cases dst with
  | none=>simpa[Qb,PState.putD,PState.callO,wn] using hat
  | some d=>simpa[Qb,PState.putD,PState.put,PState.callO,wn] using hat
 ·intro id o hlo;have e1:(s'.app (xPa ρ js dst r osV)).objs=osV.foldr (fun x l=>yJ (rn ρ x.1) (x.2.ren ρ) l) s'.objs:=by
   simp only[PState.app,xPa,List.foldr_map]
  have e2:((s'.callO ρ js os os').putD dst (r.ren ρ)).objs=os'.foldr (fun x l=>yJ (rn ρ x.1) (x.2.ren ρ) l) (os.foldr (fun x l=>YD (rn ρ x.1) l) s'.objs):=by cases dst <;> rfl
  rw[e1] at hlo;rw[e2];have inj':∀ i,i∈os'.map (·.1)->∀ j∈os'.map (·.1),rn ρ j=rn ρ i->j=i:=fun i hi j hj e=>hinj j i (List.mem_append_right _ (hks▸hj)) (List.mem_append_right _ (hks▸hi)) e
  rcases WX hlo with⟨i,o1,h3,h4,h5⟩ | ⟨h3,h4⟩
  ·have h6:=hV.get i o1 h3;rw[h4,h5];exact lookF h6 (inj' i (yO h6))
  ·by_cases hex:∃ i∈os'.map (·.1),rn ρ i=id
   ·obtain⟨i,hi,rfl⟩:=hex;have h5:=List.all_eq_true.1 hcov i hi;rw[Bool.or_eq_true] at h5;rcases h5 with h5 | h5
    ·exact absurd rfl (h3 i (zc.1 h5))
    ·obtain⟨o2,h6⟩:=key_look (zc.1 h5);have h7:=hAS'.get i o2 h6;rw[h4] at h7
     cases h7
     exact lookF (hS.get i o2 h6) (inj' i hi)
   ·rw[lookN fun i hi e=>hex ⟨i,hi,e⟩,lookDN fun i hi e=>hex ⟨i,by rw[hks];exact zc.1 (List.all_eq_true.1 c3 i hi),e⟩];exact h4
end
section
variable{P:Program}{ctx:Ctx}{s:PState}
variable{dst:Option Tmp}{ty:TypeId}{pos:String}{after:Array Edge}{gd:Option (Nat×Bool)}
end
end Go.Ep
namespace Go.Ep
open Go.RowKit
section
variable{P:Program}{ctx:Ctx}{Q:PQ}{s:PState}
variable{dst:Option Tmp}{ty:TypeId}{pos:String}{after:Array Edge}{gd:Option (Nat×Bool)}
theorem EpRd.of{w:World}{g:zf}{S:Nat->Prop}{ds:List DV}{u:Value}(h:Rd w g S (.ep ds 0) u):EpRd w S ds u:=by
 cases h with
 | ep _ b off _ c hS hb hc hr=>exact⟨b,off,c,rfl,hS,hb,hc,hr⟩
end
section
variable{ctx:Ctx}{s:PState}
inductive AllRef (s:PState) (id:Nat):List Nat->Prop
 | nil:AllRef s id []
 | cons {j:Nat} {js:List Nat} (h:s.at j=some (.ref id 0)) (r:AllRef s id js):AllRef s id (j::js)
theorem AllRef.get{id:Nat}{js:List Nat}(h:AllRef s id js):∀ j∈js,s.at j=some (.ref id 0):=by
 induction h with
 | nil=>intro j hj;cases hj
 | cons h _ ih=>
  intro j hj;rcases List.mem_cons.1 hj with rfl | hj
  ·exact h
  ·exact ih j hj
end
inductive xQa (s:PState):List PV->List PV->Prop
 | nil:xQa s [] []
 | data {q p:PV} {qs ps:List PV} (h:q.nilD=p) (hd:p.isData=true) (t:xQa s qs ps):xQa s (q::qs) (p::ps)
 | row {id n k:Nat} {e:TypeId} {l:List (List DV)} {qs ps:List PV} (hl:look s.objs id=some (.row e k l)) (hn:l.length=n) (t:xQa s qs ps):xQa s (.row id n::qs) (.d (.sl l)::ps)
 | nest {id id2 n k:Nat} {e T:TypeId} {l:List (List DV)} {qs ps:List PV} (h2:look s.objs id2=some (.cells T [.row id n])) (hl:look s.objs id=some (.row e k l)) (hn:l.length=n) (t:xQa s qs ps):xQa s (.pa id2 0 1::qs) (.d (.sl [[.sl l]])::ps)
section
variable{P:Program}{ctx:Ctx}{Q:PQ}{s:PState}
variable{dst:Option Tmp}{ty:TypeId}{pos:String}{after:Array Edge}{gd:Option (Nat×Bool)}
end
end Go.Ep
/- Arrays of sixteen numbers. No program in sight. -/
namespace Go.Ep
abbrev A16:=Int×Int×Int×Int×Int×Int×Int×Int×Int×Int×Int×Int×Int×Int×Int×Int
namespace AR
def l(A:A16):List Int:=[A.1,A.2.1,A.2.2.1,A.2.2.2.1,A.2.2.2.2.1,A.2.2.2.2.2.1,A.2.2.2.2.2.2.1,A.2.2.2.2.2.2.2.1,A.2.2.2.2.2.2.2.2.1,A.2.2.2.2.2.2.2.2.2.1,A.2.2.2.2.2.2.2.2.2.2.1,A.2.2.2.2.2.2.2.2.2.2.2.1,A.2.2.2.2.2.2.2.2.2.2.2.2.1,A.2.2.2.2.2.2.2.2.2.2.2.2.2.1,A.2.2.2.2.2.2.2.2.2.2.2.2.2.2.1,A.2.2.2.2.2.2.2.2.2.2.2.2.2.2.2]
def ofL(x:List Int):A16:=(x.getD 0 0,x.getD 1 0,x.getD 2 0,x.getD 3 0,x.getD 4 0,x.getD 5 0,x.getD 6 0,x.getD 7 0,x.getD 8 0,x.getD 9 0,x.getD 10 0,x.getD 11 0,x.getD 12 0,x.getD 13 0,x.getD 14 0,x.getD 15 0)
def get(A:A16)(i:Nat):Int:=(l A).getD i 0
def set(A:A16)(i:Nat)(v:Int):A16:=ofL ((l A).set i v)
theorem l_len(A:A16):(l A).length=16:=rfl
theorem l_ofL{x:List Int}(h:x.length=16):l (ofL x)=x:=by
 match x,h with
 | [_,_,_,_,_,_,_,_,_,_,_,_,_,_,_,_],_=>rfl
theorem ofL_l(A:A16):ofL (l A)=A:=rfl
theorem l_inj{A B:A16}(h:l A=l B):A=B:=by rw[<- ofL_l A,h,ofL_l]
theorem qg{A:A16}{i:Nat}(h:i < 16):(l A)[i]?=some (get A i):=by
 have:i < (l A).length:=by rw[l_len];exact h
 unfold get;rw[List.getD_eq_getElem?_getD,List.getElem?_eq_getElem this];rfl
theorem l_set(A:A16)(i:Nat)(v:Int):l (set A i v)=(l A).set i v:=l_ofL (by rw[List.length_set,l_len])
theorem uYa{A:A16}{i j:Nat}{v:Int}(h:j < 16):get (set A i v) j=if i=j then v else get A j:=by
 have e:=qg (A:=set A i v) h;rw[l_set,List.getElem?_set] at e
 by_cases hij:i=j
 ·rw[if_pos hij,l_len,if_pos (by omega)] at e;rw[if_pos hij];simpa using e.symm
 ·rw[if_neg hij,qg h] at e;rw[if_neg hij];simpa using e.symm
end AR
instance decA16 : DecidableEq A16:=fun a b=>decidable_of_iff (AR.l a=AR.l b) ⟨AR.l_inj,fun h=>by rw[h]⟩
end Go.Ep
namespace Go.Ep
open Go Go.RowKit
namespace AR
def pl(k:IntKind)(A:A16):List PV:=(l A).map fun n=>.d (.v (.int k n))
theorem pl_get{k:IntKind}{A:A16}{i:Nat}(h:i < 16):(pl k A)[i]?=some (.d (.v (.int k (get A i)))):=by
 unfold pl;rw[List.getElem?_map,qg h];rfl
theorem at_{cs:List PV}{o i:Nat}{k:IntKind}{A:A16}(h:(cs.drop o).take 16=pl k A)(hi:i < 16):cs[o+i]?=some (.d (.v (.int k (get A i)))):=by
 rw[<- pl_get hi,<- h,List.getElem?_take,if_pos hi,List.getElem?_drop]
theorem room{cs:List PV}{o:Nat}{k:IntKind}{A:A16}(h:(cs.drop o).take 16=pl k A):o+16<=cs.length:=by
 have e:=congrArg List.length h;rw[List.length_take,List.length_drop] at e;have:(pl k A).length=16:=rfl;omega
theorem parts{cs:List PV}{o:Nat}{k:IntKind}{A:A16}(h:(cs.drop o).take 16=pl k A):cs=cs.take o++(pl k A++cs.drop (o+16)):=by
 have e:cs.drop o=pl k A++cs.drop (o+16):=by
  rw[<- h,<- List.drop_drop,List.take_append_drop]
 rw[<- e,List.take_append_drop]
theorem put{cs:List PV}{o i:Nat}{k:IntKind}{A:A16}{v:Int}(h:(cs.drop o).take 16=pl k A)(hi:i < 16) :
  cs.take (o+i)++[.d (.v (.int k v))]++cs.drop (o+i+1)=cs.take o++pl k (set A i v)++cs.drop (o+16):=by
 have hr:=room h;have e1:cs.take (o+i)++[.d (.v (.int k v))]++cs.drop (o+i+1)=cs.set (o+i) (.d (.v (.int k v))):=by
  rw[List.set_eq_take_append_cons_drop,if_pos (by omega),List.append_assoc];rfl
 have hl:(cs.take o).length=o:=by rw[List.length_take];omega
 have hp:(pl k A).length=16:=rfl;have e2:cs.set (o+i) (.d (.v (.int k v)))=cs.take o++((pl k A).set i (.d (.v (.int k v)))++cs.drop (o+16)):=by
  conv=>lhs;rw[parts h]
  rw[List.set_append_right _ _ (by omega),hl,show o+i - o=i by omega,List.set_append_left _ _ (by omega)]
 rw[e1,e2,<- List.append_assoc]
 congr 2
 unfold pl;rw[l_set,List.map_set]
end AR
section
variable{P:Program}{ctx:Ctx}{Q:PQ}{s:PState}
variable{dst:Option Tmp}{ty:TypeId}{pos:String}{after:Array Edge}{gd:Option (Nat×Bool)}
theorem yIa{t e:TypeId}{n k:Nat}(hu:P.underlying t=some (.array n e))(h2:1 < n)(hs:∀ w,(sizeOf e).run P w=.ok k w)(b off:Nat)(ki:IntKind)(i:Int)(hi:0<=i/\i < (n:Int))(w:World) :
  (Instr.indexAt t (.pointer (some ⟨b,off,none⟩)) (.int ki i)).run P w=.ok (.pointer (some ⟨b,off+i.toNat*k,none⟩)) w:=by
 simp[Instr.indexAt,asIntOf,run_underlying hu,hi.1,hi.2,hs,Addr.add_lit,Result.andThen,Instr.sureAddr]
end
section
variable{P:Program}{ctx:Ctx}{Q:PQ}{s:PState}
variable{dst:Option Tmp}{ty:TypeId}{pos:String}{after:Array Edge}{gd:Option (Nat×Bool)}
variable{κ ν:Type}[DecidableEq κ]{eK:κ->List Int}{eV:ν->List DV}{m:List (κ×ν)}{q:κ}(inj:∀ a b,eK a=eK b->a=b)
variable{x kx:Operand}{t kt et:TypeId}{ks:List IntKind}{ag:Bool}{kp:PV}{id:Nat}{nl:Bool}
end
end Go.Ep
namespace Go.Ep
open Go Go.RowKit
structure Tab(b:Nat)(k:IntKind)(zs:List Int)(w:World)(S:Nat->Prop):Prop where
 lt:b < w.heap.size
 S:S b
 cell:∀ i,i < zs.length->w.cell? ⟨b,i,none⟩=some (.int k (zs.getD i 0))
theorem Tab.of{b:Nat}{k:IntKind}{zs:List Int}{w:World}{S:Nat->Prop}(hS:S b)(h0:0 < zs.length)(h:∀ i,i < zs.length->w.cell? ⟨b,i,none⟩=some (.int k (zs.getD i 0))):Tab b k zs w S:=
 ⟨Decidable.byContradiction fun hb=>by
  have:=h 0 h0;simp[World.cell?,Array.getElem?_eq_none (Nat.le_of_not_lt hb)] at this,hS,h⟩
def PFunL(L:World->(Nat->Prop)->Prop)(P:Program)(f:FuncId)(ps:List PV)(r:PV):Prop:=∀ w S,L w S->FunAt P f ps r w S
def PRowL(L:World->(Nat->Prop)->Prop)(P:Program)(f:FuncId)(ps:List PV)(e:TypeId)(k:Nat)(l:List (List DV)):Prop:=∀ w S,L w S->RwAt P f ps e k l w S
theorem RwAt.fun{P:Program}{f:FuncId}{ps:List PV}{e:TypeId}{k:Nat}{l:List (List DV)}{w:World}{S:Nat->Prop}(h:RwAt P f ps e k l w S):FunAt P f ps (.d (.sl l)) w S:=
 fun vs hl hv=>(h vs hl hv).mono fun _ _ ⟨u,he,hb,hr⟩=>⟨u,he,hb,.d hr.data⟩
theorem PRowL.fun{L:World->(Nat->Prop)->Prop}{P:Program}{f:FuncId}{ps:List PV}{e:TypeId}{k:Nat}{l:List (List DV)}(h:PRowL L P f ps e k l):PFunL L P f ps (.d (.sl l)):=fun w S hL=>(h w S hL).fun
theorem FunAt.nilD{P:Program}{f:FuncId}{ps:List PV}{r:PV}{w:World}{S:Nat->Prop}(h:FunAt P f (ps.map PV.nilD) r w S):FunAt P f ps r w S:=fun vs hl hv=>
 h vs (by simpa using hl) fun i p v hp hu=>by
  rw[List.getElem?_map] at hp
  cases hq:ps[i]? with
  | none=>simp[hq] at hp
  | some q=>simp[hq] at hp;subst hp;exact(hv i q v hq hu).nilD
theorem RwAt.nilD{P:Program}{f:FuncId}{ps:List PV}{e:TypeId}{k:Nat}{l:List (List DV)}{w:World}{S:Nat->Prop}(h:RwAt P f (ps.map PV.nilD) e k l w S):RwAt P f ps e k l w S:=fun vs hl hv=>
 h vs (by simpa using hl) fun i p v hp hu=>by
  rw[List.getElem?_map] at hp
  cases hq:ps[i]? with
  | none=>simp[hq] at hp
  | some q=>simp[hq] at hp;subst hp;exact(hv i q v hq hu).nilD
structure LOK(ctx:Ctx)(b:Nat)(k:IntKind)(zs:List Int):Prop where
 tab:Tab b k zs ctx.w0 ctx.S
 K:¬ ctx.K b
section
variable{P:Program}{ctx:Ctx}{Q:PQ}{s:PState}
variable{dst:Option Tmp}{ty:TypeId}{pos:String}{after:Array Edge}{gd:Option (Nat×Bool)}
variable{b:Nat}{kk:IntKind}{zs:List Int}
theorem LOK.rel(hT:LOK ctx b kk zs){g:zf}{a:Act}{w:World}(hg:RelG ctx g s a w):Tab b kk zs w (zm ctx g s.objs):=by
 have hh:=hg.keep b hT.tab.lt hT.K;refine⟨Nat.lt_of_lt_of_le hT.tab.lt hg.grows,⟨.inl hT.tab.S,fun id o n ho hgi=>?_⟩,fun i hi=>?_⟩
 ·have:=(hg.own id o b n ho hgi).2;rcases this with h | h
  ·have:=hT.tab.lt;omega
  ·exact hT.K h
 ·rw[World.cell?_of_block (w:=ctx.w0) hh];exact hT.tab.cell i hi
theorem PFunL.intro{f:FuncId}{fn:Func}{c:Code}{ps:List PV}{r:PV}{n:Nat}{sl:List (Nat×PV)}(hf:P.funcs[f]?=some fn)(hb:fn.body=some c)(hn:fn.ntmps=n)(hsl:args 0 ps=sl)(hpn:Nat.ble ps.length n=true)
  (body:∀ ctx:Ctx,(∀ b,ctx.K b->ctx.S b)->LOK ctx b kk zs->PWc P ctx c (Ends P fn r) ⟨n,sl,[]⟩):PFunL (Tab b kk zs) P f ps r:=fun w S hL=>FunAt.intro hf hb hn hsl hpn (body ⟨w,S,fun _=>False⟩ (fun _ h=>h.elim) ⟨hL,fun h=>h⟩)
theorem PRowL.intro{f:FuncId}{fn:Func}{c:Code}{ps:List PV}{e:TypeId}{k:Nat}{l:List (List DV)}{n:Nat}{sl:List (Nat×PV)}(hf:P.funcs[f]?=some fn)(hb:fn.body=some c)(hn:fn.ntmps=n)(hsl:args 0 ps=sl)(hpn:Nat.ble ps.length n=true)
  (body:∀ ctx:Ctx,(∀ b,ctx.K b->ctx.S b)->LOK ctx b kk zs->PWc P ctx c (xCa fn e k l) ⟨n,sl,[]⟩):PRowL (Tab b kk zs) P f ps e k l:=fun w S hL=>RwAt.intro hf hb hn hsl hpn (body ⟨w,S,fun _=>False⟩ (fun _ h=>h.elim) ⟨hL,fun h=>h⟩)
def PObjL{G:Type}(L:World->(Nat->Prop)->Prop)(P:Program)(f:FuncId)(ps:List PV)(os:List (Nat×Ob))(pins:List Nat)(r:PV)(os':G->List (Nat×Ob)):Prop:=∀ w S,L w S->ObjAt P f ps os pins r os' w S
theorem PObjL.intro{G:Type}{f:FuncId}{fn:Func}{c:Code}{ps:List PV}{os:List (Nat×Ob)}{pins:List Nat}{r:PV}{os':G->List (Nat×Ob)}{n:Nat}{sl:List (Nat×PV)}(hf:P.funcs[f]?=some fn)(hb:fn.body=some c)(hn:fn.ntmps=n)(hsl:args 0 ps=sl)(hpn:Nat.ble ps.length n=true)(hpin:pinOK ps os pins=true)
  (body:∀ ctx:Ctx,(∀ b,ctx.K b->ctx.S b)->LOK ctx b kk zs->∀ pv:Nat->Option (Nat×Nat),PWc P ctx c (EndsO P ctx fn (xOa pv pins) r os') ⟨n,sl,os++xOa pv pins⟩):PObjL (Tab b kk zs) P f ps os pins r os':=
 fun w S hL=>ObjAt.intro hf hb hn hsl hpn hpin (fun g hd=>body ⟨w,fun b=>S b\/OwnB g os b,OwnB g os⟩ (fun b h=>Or.inr h) ⟨⟨hL.lt,Or.inl hL.S,hL.cell⟩,hd _ hL.S⟩ g)
theorem LR.callObjL{x:Operand}{xs:List Operand}{ats:Array TypeId}{f:FuncId}{ps qs:List PV}{os os':List (Nat×Ob)}{pins:List Nat}{r:PV}(ρ:List (Nat×Nat))(js ks:List Nat)
  (hT:LOK ctx b kk zs) (hc:PObjL (Tab b kk zs) P f ps os pins r (fun _:Unit=>os')) (hK:∀ b,ctx.K b->ctx.S b) (hx:s.ev x=some (.d (.v (.func (.func f) #[] #[])))) (he:∀ args w,(callFunc f args).run P w=.ok (.enter f args) w) (hps:s.evs xs=some qs) (hq:qs.map PV.nilD=ps.map (PV.ren ρ)) (hos:AllOb s ρ os)
  (hks:os'.map (·.1)=ks) (hcl:os'.all (fun x=>x.2.named ks)=true) (hr:r.named ks=true) (hok:Va s ρ js (os.map (·.1)) pins ks=true) :
  Local P ctx ⟨dst,.call ⟨.value x,xs.toArray,ats⟩,ty,pos,after,gd⟩ s ((s.callO ρ js os os').putD dst (r.ren ρ)):=
 YX (o:=⟨dst,.call ⟨.value x,xs.toArray,ats⟩,ty,pos,after,gd⟩) fun a w g hg=>by
  obtain⟨hlen,hreal⟩:=evs_rd hps hg;refine⟨f,_,ZB (o:=⟨dst,.call ⟨.value x,xs.toArray,ats⟩,ty,pos,after,gd⟩) rfl (qC hg hx) he w,?_⟩;rw[List.map_toArray];exact(Ul ρ js ks hK hq hos (fun _=>hks) (fun _=>hcl) hr hok hg hlen hreal dst (hc _ _ (hT.rel hg))).mono fun en w' ⟨u,_,he,hrel⟩=>⟨u,he,hrel⟩
theorem LR.callL{x:Operand}{xs:List Operand}{ats:Array TypeId}{f:FuncId}{ps qs:List PV}{r:PV}(hT:LOK ctx b kk zs)(hc:PFunL (Tab b kk zs) P f ps r)(hx:s.ev x=some (.d (.v (.func (.func f) #[] #[]))))(he:∀ args w,(callFunc f args).run P w=.ok (.enter f args) w)
  (hps:s.evs xs=some qs) (hq:qs.map PV.nilD=ps) (hd:PV.isData.isDataL ps=true) (hr:r.isData=true) :
  Local P ctx ⟨dst,.call ⟨.value x,xs.toArray,ats⟩,ty,pos,after,gd⟩ s (s.putD dst r):=by
 subst hq;exact LR.callAt (fun _ w g hg=>(hc w _ (hT.rel hg)).nilD) hx he hps (uA hd) hr
theorem LR.idxG{ix:Operand}{n:Nat}{ki:IntKind}{i:Int}{t e:TypeId}(hT:LOK ctx b kk zs)(hu:P.underlying t=some (.array n e))(h2:Nat.blt 1 n=true)(hs:∀ w,(sizeOf e).run P w=.ok 1 w)
  (hix:s.ev ix=some (.d (.v (.int ki i)))) (hz:zs.length=n) (hi:0<=i/\i < (n:Int)) :
  Local P ctx ⟨dst,.indexAddr t (.global b) ix,ty,pos,after,gd⟩ s (s.putD dst (.ep (eK kk (zs.getD i.toNat 0)) 0)):=
 zG (o:=⟨dst,.indexAddr t (.global b) ix,ty,pos,after,gd⟩) fun a w g hg=>by
  obtain⟨h1,h3,h4⟩:=hT.rel hg;have:=yIa (P:=P) hu (by simpa[Nat.blt_eq] using h2) hs b 0 ki i hi w;rw[Nat.mul_one,Nat.zero_add] at this;refine⟨.pointer (some ⟨b,i.toNat,none⟩),?_,?_⟩
  ·have e:a.eval (.global b)=.pointer (some ⟨b,0,none⟩):=rfl;simp[execOp,e,xK hg hix,this,Result.andThen]
  ·refine .ep (eK kk (zs.getD i.toNat 0)) b i.toNat 0 (fun _=>.int kk (zs.getD i.toNat 0)) h3 h1 (fun j hj=>?_) (fun j x hx=>?_)
   ·obtain rfl:j=0:=by simp[eK] at hj;omega
    exact h4 _ (by omega)
   ·cases j with
    | zero=>simp[eK] at hx;subst hx;exact .v _ rfl
    | succ j=>simp[eK] at hx
theorem Src.pa{y:Operand}{id o:Nat}{T0:TypeId}{cs:List PV}{k:IntKind}{R:List Int}(hy:s.ev y=some (.pa id o R.length))(hl:look s.objs id=some (.cells T0 cs))(hA:(cs.drop o).take R.length=R.map fun z=>PV.d (.v (.int k z))):Src ctx s y (R.map (eK k)) 1:=by
 intro a w g hg;have h:=hg.ev hy;have hob:=hg.objs id _ hl
 generalize hv:a.eval y=v at h
 cases hob with
 | cells _ _ blk' n' us hgi hh hlen hr h1=>
  cases h with
  | pa _ _ _ blk c hgi'=>
   rw[hgi] at hgi'
   cases hgi'
   have hroom:R.length<=cs.length - o:=by
    have e:=congrArg List.length hA;rw[List.length_take,List.length_drop,List.length_map] at e;omega
   have hget:∀ j,j < R.length->∃ z,R[j]?=some z/\us[o+j]?=some (.int k z):=fun j hj=>by
    have e:=congrArg (·[j]?) hA;simp only[List.getElem?_take,if_pos hj,List.getElem?_drop,List.getElem?_map,List.getElem?_eq_getElem hj,Option.map_some] at e;have hu:us[o+j]?=some (us[o+j]'(by rw[<- hlen];exact(List.getElem?_eq_some_iff.1 e).1)):=List.getElem?_eq_getElem _;have:=hr _ _ _ e hu;exact⟨_,List.getElem?_eq_getElem hj,by rw[hu,this.of_v]⟩
   have e:(us.drop o).take R.length=R.map (Value.int k):=List.ext_getElem? fun j=>by
    rw[List.getElem?_take]
    split
    ·rename_i hj
     obtain⟨z,h1,h2⟩:=hget j hj;rw[List.getElem?_drop,h2,List.getElem?_map,h1];rfl
    ·rename_i hj
     rw[List.getElem?_eq_none (by rw[List.length_map];omega)]
   refine⟨some ⟨blk',o,none⟩,R.length,R.map (Value.int k),by rw[List.length_map],by simp,by simp,?_,?_,?_⟩
   ·intro ad ea j u hu
    cases ea
    rw[<- e,List.getElem?_take] at hu
    split at hu
    ·rw[Addr.add_lit,zi hh,<- List.getElem?_drop];simpa using hu
    ·cases hu
   ·intro u hu;simp only[List.mem_map] at hu;obtain⟨z,_,rfl⟩:=hu
    rfl
   ·intro i ds j x hi hx;rw[List.getElem?_map] at hi
    cases hz:R[i]? with
    | none=>simp[hz] at hi
    | some z=>
     simp[hz] at hi;subst hi
     cases j with
     | zero=>simp[eK] at hx;subst hx;exact⟨.int k z,by simp[List.getElem?_map,hz],.v _ rfl⟩
     | succ j=>simp[eK] at hx
end
end Go.Ep
namespace Go.Proofs
open Go.Ep Tryz
set_option maxHeartbeats 1000000
set_option maxRecDepth 100000
set_option linter.unusedVariables false
set_option linter.unusedSimpArgs false
theorem ut(c1:List PT)(r0:Bool)(h:(Yb c1).wp (·=r0)):PFun prog 17 [.d (.sl (List.map PT.e c1))] (.d (.v (.bool r0))):=by
 refine fI (sl:=[(0,_)]) func17 rfl ntmps17 rfl rfl ?_;intro ctx hK;(iterate 11 refine g5 ?_);refine xD h rfl (fun _ h=>?_) (fun _ h=>?_)
 ·(iterate 4 refine g5 ?_);refine wX ?_;cases h;exact xT
 ·(iterate 6 refine g5 ?_);refine PWc.jnX (zF h) (fun(_:Unit) (_:Unit)=>⟨20,[],[]⟩) (fun h=>?_) ?_
  ·refine g5 ?_;refine wM (fun(i12:Int) (_:Unit)=>⟨20,[(0,.d (.sl (List.map PT.e c1))),(3,.d (.v (.int .i64 i12)))],[]⟩) () h (sP) ?_;rintro N i12 _ h;(iterate 8 refine g5 ?_);refine xD h rfl (fun _ h=>?_) (fun _ h=>?_)
   ·(iterate 7 refine g5 ?_);obtain⟨x14,hy15,h⟩:=yE h;refine ws (iX (enc:=PT.e) (L:=c1) (y:=x14) underlying30 sizeOf94 rfl rfl hy15 (fun _=>rfl)) ?_;(iterate 5 refine g5 ?_);refine xD h rfl (fun _ h=>?_) (fun _ h=>?_)
    ·(iterate 4 refine g5 ?_);refine wX ?_;cases h;exact xT
    ·(iterate 6 refine g5 ?_);exact⟨(IntKind.i64.wrap (i12+1)),(),h,sP⟩
   ·refine wZ ?_;exact⟨(),(),h,sP⟩
  ·rintro _ _ h;(iterate 4 refine g5 ?_);refine wX ?_;cases h;exact xT
theorem UO(l1:List EV)(most2:Int)(r0:Bool)(h:(UG l1 most2).wp (·=r0)):PFun prog 19 [.d (.sl (List.map EV.e l1)),.d (.v (.int .i64 most2))] (.d (.v (.bool r0))):=by
 refine fI (sl:=[(0,_),(1,_)]) func19 rfl ntmps19 rfl rfl ?_;intro ctx hK;(iterate 12 refine g5 ?_);refine xD h rfl (fun _ h=>?_) (fun _ h=>?_)
 ·(iterate 4 refine g5 ?_);refine wX ?_;cases h;exact xT
 ·(iterate 6 refine g5 ?_);refine PWc.jnX (zF h) (fun(_:Unit) (_:Unit)=>⟨32,[],[]⟩) (fun h=>?_) ?_
  ·refine g5 ?_;refine wM (fun(i21:Int) (_:Unit)=>⟨32,[(0,.d (.sl (List.map EV.e l1))),(5,.d (.v (.int .i64 i21)))],[]⟩) () h (sP) ?_;rintro N i21 _ h;(iterate 8 refine g5 ?_);refine xD h rfl (fun _ h=>?_) (fun _ h=>?_)
   ·(iterate 4 refine g5 ?_);refine wJ (zF h) (fun(v23:Bool) (_:Unit)=>⟨32,[(0,.d (.sl (List.map EV.e l1))),(5,.d (.v (.int .i64 i21))),(31,.d (.v (.bool v23)))],[]⟩) (fun h=>?_) ?_
    ·(iterate 3 refine g5 ?_);obtain⟨x24,hy25,h⟩:=yE h;refine ws (iX (enc:=EV.e) (L:=l1) (y:=x24) underlying31 sizeOf28 rfl rfl hy25 (fun _=>rfl)) ?_;(iterate 5 refine g5 ?_);refine xG (d:=23) h rfl (fun _ h=>?_) (fun _ h=>?_)
     ·(iterate 6 refine g5 ?_);refine wy (tl:=[(0,_),(5,_),(23,_),(24,_),(25,_),(26,_),(27,_),(28,_),(29,_)]) (to:=[]) ?_;(iterate 3 refine g5 ?_);exact⟨true,(),h,sP⟩
     ·(iterate 2 refine g5 ?_);obtain⟨x27,hy28,h⟩:=yE h;refine wt (iX (enc:=EV.e) (L:=l1) (y:=x27) underlying31 sizeOf28 rfl rfl hy28 (fun _=>rfl)) ?_;(iterate 3 refine g5 ?_);refine wy (tl:=[(0,_),(5,_),(23,_),(24,_),(25,_),(26,_),(27,_),(28,_),(29,_)]) (to:=[]) ?_;(iterate 3 refine g5 ?_);exact⟨(decide (200 < (ByteArray.size x27.text:Int))),(),h,sP⟩
    ·rintro v23 _ h;refine xD h rfl (fun _ h=>?_) (fun _ h=>?_)
     ·(iterate 4 refine g5 ?_);refine wX ?_;cases h;exact xT
     ·(iterate 6 refine g5 ?_);exact⟨(IntKind.i64.wrap (i21+1)),(),h,sP⟩
   ·refine wZ ?_;exact⟨(),(),h,sP⟩
  ·rintro _ _ h;(iterate 4 refine g5 ?_);refine wX ?_;cases h;exact xT
theorem vPa(d1:DL)(r0:Bool)(h:(QT d1).wp (·=r0)):PFun prog 18 [.agg (List.map .d (DL.e d1))] (.d (.v (.bool r0))):=by
 refine fI (sl:=[(0,_)]) func18 rfl ntmps18 rfl rfl ?_;intro ctx hK;(iterate 6 refine g5 ?_);refine wJ (zF h) (fun(v2:Bool) (_:Unit)=>⟨16,[(2,.d (.v (.bool v2)))],[]⟩) (fun h=>?_) ?_
 ·(iterate 3 refine g5 ?_);obtain⟨v3,hy4,h⟩:=zD h;refine xN (ut d1.from_ v3 hy4) call17 ?_;refine g5 ?_;refine xG (d:=6) h rfl (fun _ h=>?_) (fun _ h=>?_)
  ·(iterate 2 refine g5 ?_);obtain⟨v6,hy7,h⟩:=zD h;refine wt (cN (ut d1.to_ v6 hy7) rfl call17 rfl rfl rfl rfl) ?_;(iterate 2 refine g5 ?_);refine xG (d:=11) h rfl (fun _ h=>?_) (fun _ h=>?_)
   ·(iterate 2 refine g5 ?_);obtain⟨v9,hy10,h⟩:=zD h;refine wt (cN (UO d1.events 30 v9 hy10) rfl call19 rfl rfl rfl rfl) ?_;(iterate 3 refine g5 ?_);exact⟨v9,(),h,sP⟩
   ·(iterate 6 refine g5 ?_);exact⟨false,(),h,sP⟩
  ·(iterate 11 refine g5 ?_);exact⟨false,(),h,sP⟩
 ·rintro v2 _ h;refine wX ?_;cases h;exact xT
theorem JD(e1:TEntry)(r0:Bool)(h:(Zm e1).wp (·=r0)):PFun prog 5 [.agg (List.map .d (TEntry.e e1))] (.d (.v (.bool r0))):=by
 refine fI (sl:=[(0,_)]) func5 rfl ntmps5 rfl rfl ?_;intro ctx hK;(iterate 6 refine g5 ?_);refine wJ (zF h) (fun(v2:Bool) (_:Unit)=>⟨22,[(2,.d (.v (.bool v2)))],[]⟩) (fun h=>?_) ?_
 ·(iterate 3 refine g5 ?_);obtain⟨v3,hy4,h⟩:=zD h;refine xN (ut e1.have_ v3 hy4) call17 ?_;refine g5 ?_;refine xG (d:=6) h rfl (fun _ h=>?_) (fun _ h=>?_)
  ·(iterate 2 refine g5 ?_);obtain⟨v6,hy7,h⟩:=zD h;refine wt (cN (ut e1.front v6 hy7) rfl call17 rfl rfl rfl rfl) ?_;(iterate 2 refine g5 ?_);refine xG (d:=11) h rfl (fun _ h=>?_) (fun _ h=>?_)
   ·(iterate 2 refine g5 ?_);obtain⟨v9,hy10,h⟩:=zD h;refine wt (cN (vPa e1.delta v9 hy10) rfl call18 rfl rfl rfl rfl) ?_;(iterate 2 refine g5 ?_);refine xG (d:=16) h rfl (fun _ h=>?_) (fun _ h=>?_)
    ·refine g5 ?_;refine wy (tl:=[(2,_),(16,_),(17,_)]) (to:=[(1,_)]) ?_;refine g5 ?_;refine wt (LR.buildSliceD [.tmp 18] v9a rfl rfl (.cons rfl rfl rfl<|.nil) (by decide) (by decide)) ?_;obtain⟨v12,hy13,h⟩:=zD h;refine wt (cN (UO ([e1.event]) 1 v12 hy13) rfl call19 rfl rfl rfl rfl) ?_;(iterate 3 refine g5 ?_);exact⟨v12,(),h,sP⟩
    ·refine g5 ?_;refine wy (tl:=[(2,_),(16,_),(17,_)]) (to:=[]) ?_;(iterate 6 refine g5 ?_);exact⟨false,(),h,sP⟩
   ·(iterate 7 refine g5 ?_);refine wy (tl:=[(2,_),(16,_),(18,_)]) (to:=[]) ?_;(iterate 5 refine g5 ?_);exact⟨false,(),h,sP⟩
  ·(iterate 13 refine g5 ?_);refine wy (tl:=[(2,_),(16,_),(19,_)]) (to:=[]) ?_;(iterate 4 refine g5 ?_);exact⟨false,(),h,sP⟩
 ·rintro v2 _ h;refine wX ?_;cases h;exact xT
theorem vQa(s1:TState)(r0:Bool)(h:(QU s1).wp (·=r0)):PFun prog 6 [.agg (List.map .d (TState.e s1))] (.d (.v (.bool r0))):=by
 refine fI (sl:=[(0,_)]) func6 rfl ntmps6 rfl rfl ?_;intro ctx hK;(iterate 6 refine g5 ?_);refine wJ (zF h) (fun(v2:Bool) (_:Unit)=>⟨16,[(2,.d (.v (.bool v2)))],[]⟩) (fun h=>?_) ?_
 ·(iterate 3 refine g5 ?_);obtain⟨v3,hy4,h⟩:=zD h;refine xN (ut s1.had v3 hy4) call17 ?_;refine g5 ?_;refine xG (d:=6) h rfl (fun _ h=>?_) (fun _ h=>?_)
  ·(iterate 2 refine g5 ?_);obtain⟨v6,hy7,h⟩:=zD h;refine wt (cN (ut s1.ctx v6 hy7) rfl call17 rfl rfl rfl rfl) ?_;(iterate 2 refine g5 ?_);refine xG (d:=11) h rfl (fun _ h=>?_) (fun _ h=>?_)
   ·(iterate 2 refine g5 ?_);obtain⟨v9,hy10,h⟩:=zD h;refine wt (cN (UO s1.all 30 v9 hy10) rfl call19 rfl rfl rfl rfl) ?_;(iterate 3 refine g5 ?_);exact⟨v9,(),h,sP⟩
   ·(iterate 6 refine g5 ?_);exact⟨false,(),h,sP⟩
  ·(iterate 11 refine g5 ?_);exact⟨false,(),h,sP⟩
 ·rintro v2 _ h;refine wX ?_;cases h;exact xT
theorem zO(kind1:Int)(f2:Int)(r0:Bool)(h:(zb kind1 f2).wp (·=r0)):PFunL (Tab 0 .i64 tabG) prog 29 [.d (.v (.int .u8 kind1)),.d (.v (.int .i64 f2))] (.d (.v (.bool r0))):=by
 refine PFunL.intro (sl:=[(0,_),(1,_)]) func29 rfl ntmps29 rfl rfl ?_;intro ctx hK hT;(iterate 5 refine g5 ?_);refine wJ (zF h) (fun(v3:Bool) (_:Unit)=>⟨15,[(4,.d (.v (.bool v3)))],[]⟩) (fun h=>?_) ?_
 ·(iterate 4 refine g5 ?_);refine xG (d:=7) h rfl (fun _ h=>?_) (fun _ h=>?_)
  ·refine g5 ?_;obtain⟨hy5,h⟩:=yM h;refine wt (LR.idxG hT underlying111 rfl sizeOf3 rfl rfl hy5) ?_;(iterate 7 refine g5 ?_);exact⟨(!decide (((bAnd .i64 (tabG.getD (Int.toNat kind1) 0) f2))=0)),(),h,sP⟩
  ·(iterate 9 refine g5 ?_);exact⟨false,(),h,sP⟩
 ·rintro v3 _ h;refine wX ?_;cases h;exact xT
theorem ZP(is1:Bool)(n2:Int)(r0:Bool)(h:(vJ is1 n2).wp (·=r0)):PFun prog 64 [.d (.v (.bool is1)),.d (.v (.int .u64 n2))] (.d (.v (.bool r0))):=by
 refine fI (sl:=[(0,_),(1,_)]) func64 rfl ntmps64 rfl rfl ?_;intro ctx hK;(iterate 10 refine g5 ?_);refine xD h rfl (fun _ h=>?_) (fun _ h=>?_)
 ·(iterate 6 refine g5 ?_);refine wX ?_;cases h;exact xT
 ·(iterate 2 refine g5 ?_);refine wJ (zF h) (fun(v4:Bool) (_:Unit)=>⟨15,[(4,.d (.v (.bool v4)))],[]⟩) (fun h=>?_) ?_
  ·(iterate 4 refine g5 ?_);refine xG (d:=11) h rfl (fun _ h=>?_) (fun _ h=>?_)
   ·(iterate 5 refine g5 ?_);exact⟨(decide (n2<=281474976710655)),(),h,sP⟩
   ·(iterate 5 refine g5 ?_);exact⟨false,(),h,sP⟩
  ·rintro v4 _ h;refine wX ?_;cases h;exact xT
theorem ZQ(d1:DT)(r0:Bool)(h:(Zn d1).wp (·=r0)):PFun prog 93 [.agg (List.map .d (DT.e d1))] (.d (.v (.bool r0))):=by
 refine fI (sl:=[(0,_)]) func93 rfl ntmps93 rfl rfl ?_;intro ctx hK;(iterate 6 refine g5 ?_);refine wJ (zF h) (fun(v2:Bool) (_:Unit)=>⟨16,[(2,.d (.v (.bool v2)))],[]⟩) (fun h=>?_) ?_
 ·(iterate 5 refine g5 ?_);refine xG (d:=6) h rfl (fun _ h=>?_) (fun _ h=>?_)
  ·(iterate 5 refine g5 ?_);refine xG (d:=11) h rfl (fun _ h=>?_) (fun _ h=>?_)
   ·(iterate 6 refine g5 ?_);exact⟨(decide (d1.n<=281474976710655)),(),h,sP⟩
   ·(iterate 6 refine g5 ?_);exact⟨false,(),h,sP⟩
  ·(iterate 11 refine g5 ?_);exact⟨false,(),h,sP⟩
 ·rintro v2 _ h;refine wX ?_;cases h;exact xT
theorem qK(v1:Int)(r0:Int×Int)(h:(Yc v1).wp (·=r0)):PFun prog 120 [.d (.v (.int .u64 v1))] (.tup [.d (.v (.int .u16 r0.1)),.d (.v (.int .u64 r0.2))]):=by
 refine fI (sl:=[(0,_)]) func120 rfl ntmps120 rfl rfl ?_;intro ctx hK;(iterate 9 refine g5 ?_);refine ws (LR.convInt underlying22 (by rw[underlying23];rfl) rfl rfl) ?_;(iterate 5 refine g5 ?_);refine wX ?_;cases h;exact⟨.inr rfl,_,.cons (.tmp rfl rfl)<|.cons (.tmp rfl rfl)<|.nil,rfl⟩
theorem Qd(v1:Int)(r0:DT×Bool)(h:(Xo v1).wp (·=r0)):PFun prog 92 [.d (.v (.int .u64 v1))] (.tup [.agg (List.map .d (DT.e r0.1)),.d (.v (.bool r0.2))]):=by
 refine fI (sl:=[(0,_)]) func92 rfl ntmps92 rfl rfl ?_;intro ctx hK;(iterate 8 refine g5 ?_);obtain⟨v2,hy3,h⟩:=zD h;refine xN (qK v1 v2 hy3) call120 ?_;(iterate 10 refine g5 ?_);refine ws (LR.build (ns:=[_,_]) XW rfl rfl rfl) ?_;(iterate 7 refine g5 ?_);obtain⟨v4,hy5,h⟩:=zD h;refine xN (ZQ (⟨v2.1,v2.2⟩:DT) v4 hy5) call93 ?_;(iterate 2 refine g5 ?_);refine xD h rfl (fun _ h=>?_) (fun _ h=>?_)
 ·(iterate 2 refine g5 ?_);refine ws (LR.build (ns:=[_,_]) XW rfl rfl rfl) ?_;(iterate 3 refine g5 ?_);refine wX ?_;cases h;exact⟨.inr rfl,_,.cons (.agg isAgg25 sizeOf25 rfl rfl rfl rfl)<|.cons (.tmp rfl rfl)<|.nil,rfl⟩
 ·(iterate 7 refine g5 ?_);refine wX ?_;cases h;exact⟨.inr rfl,_,.cons (.agg isAgg25 sizeOf25 rfl rfl rfl rfl)<|.cons (.tmp rfl rfl)<|.nil,rfl⟩
theorem Qe(f1:Int)(r0:Bool)(h:(Xp f1).wp (·=r0)):PFun prog 94 [.d (.v (.int .u8 f1))] (.d (.v (.bool r0))):=by
 refine fI (sl:=[(0,_)]) func94 rfl ntmps94 rfl rfl ?_;intro ctx hK;(iterate 5 refine g5 ?_);refine wJ (zF h) (fun(v2:Bool) (_:Unit)=>⟨9,[(2,.d (.v (.bool v2)))],[]⟩) (fun h=>?_) ?_
 ·(iterate 4 refine g5 ?_);refine xG (d:=5) h rfl (fun _ h=>?_) (fun _ h=>?_)
  ·(iterate 5 refine g5 ?_);exact⟨(decide (f1<=5)),(),h,sP⟩
  ·(iterate 5 refine g5 ?_);exact⟨false,(),h,sP⟩
 ·rintro v2 _ h;refine wX ?_;cases h;exact xT
theorem Qf(s1:ByteArray)(r0:Bool)(h:(Xq s1).wp (·=r0)):PFun prog 95 [.d (.v (.string s1))] (.d (.v (.bool r0))):=by
 refine fI (sl:=[(0,_)]) func95 rfl ntmps95 rfl rfl ?_;intro ctx hK;(iterate 11 refine g5 ?_);refine xD h rfl (fun _ h=>?_) (fun _ h=>?_)
 ·(iterate 4 refine g5 ?_);refine wX ?_;cases h;exact xT
 ·(iterate 8 refine g5 ?_);refine PWc.jnX (zF h) (fun(_:Unit) (_:Unit)=>⟨23,[],[]⟩) (fun h=>?_) ?_
  ·refine g5 ?_;refine wM (fun(v20:Int) (_:Unit)=>⟨23,[(0,.d (.v (.string s1))),(8,.d (.v (.int .i64 (ByteArray.size s1:Int)))),(9,.d (.v (.int .i64 v20)))],[]⟩) () h (sP) ?_;rintro N v20 _ h;(iterate 5 refine g5 ?_);refine xD h rfl (fun _ h=>?_) (fun _ h=>?_)
   ·(iterate 9 refine g5 ?_);refine wJ (zF h) (fun(v22:Bool) (_:Unit)=>⟨23,[(0,.d (.v (.string s1))),(8,.d (.v (.int .i64 (ByteArray.size s1:Int)))),(9,.d (.v (.int .i64 v20))),(21,.d (.v (.bool v22)))],[]⟩) (fun h=>?_) ?_
    ·(iterate 3 refine g5 ?_);obtain⟨b23,hy24,h⟩:=yE h;refine ws (LR.strIdx underlying9 rfl rfl hy24) ?_;(iterate 2 refine g5 ?_);refine xG (d:=16) h rfl (fun _ h=>?_) (fun _ h=>?_)
     ·(iterate 6 refine g5 ?_);exact⟨true,(),h,sP⟩
     ·(iterate 2 refine g5 ?_);obtain⟨b26,hy27,h⟩:=yE h;refine wt (LR.strIdx underlying9 rfl rfl hy27) ?_;(iterate 3 refine g5 ?_);exact⟨(decide (126 < b26)),(),h,sP⟩
    ·rintro v22 _ h;refine xD h rfl (fun _ h=>?_) (fun _ h=>?_)
     ·(iterate 4 refine g5 ?_);refine wX ?_;cases h;exact xT
     ·(iterate 5 refine g5 ?_);exact⟨(IntKind.i64.wrap (v20+1)),(),h,sP⟩
   ·refine wZ ?_;exact⟨(),(),h,sP⟩
  ·rintro _ _ h;(iterate 4 refine g5 ?_);refine wX ?_;cases h;exact xT
theorem ZR(x1:Int)(r0:Bool)(h:(wi x1).wp (·=r0)):PFun prog 139 [.d (.v (.int .u16 x1))] (.d (.v (.bool r0))):=by
 refine fI (sl:=[(0,_)]) func139 rfl ntmps139 rfl rfl ?_;intro ctx hK;(iterate 11 refine g5 ?_);refine wX ?_;cases h;exact xT
theorem Xa(x1:Int)(y2:Int)(r0:Int)(h:(xj x1 y2).wp (·=r0)):PFun prog 113 [.d (.v (.int .u16 x1)),.d (.v (.int .u16 y2))] (.d (.v (.int .i64 r0))):=by
 refine fI (sl:=[(0,_),(1,_)]) func113 rfl ntmps113 rfl rfl ?_;intro ctx hK;(iterate 7 refine g5 ?_);obtain⟨v3,hy4,h⟩:=zD h;refine xN (ZR x1 v3 hy4) call139 ?_;(iterate 5 refine g5 ?_);obtain⟨v5,hy6,h⟩:=zD h;refine xN (ZR y2 v5 hy6) call139 ?_;(iterate 7 refine g5 ?_);refine xD h rfl (fun _ h=>?_) (fun _ h=>?_)
 ·(iterate 5 refine g5 ?_);refine xD h rfl (fun _ h=>?_) (fun _ h=>?_)
  ·(iterate 4 refine g5 ?_);refine wX ?_;cases h;exact xT
  ·(iterate 5 refine g5 ?_);refine wX ?_;cases h;exact xT
 ·(iterate 6 refine g5 ?_);refine xD h rfl (fun _ h=>?_) (fun _ h=>?_)
  ·(iterate 4 refine g5 ?_);refine wX ?_;cases h;exact xT
  ·(iterate 8 refine g5 ?_);refine xD h rfl (fun _ h=>?_) (fun _ h=>?_)
   ·(iterate 4 refine g5 ?_);refine wX ?_;cases h;exact xT
   ·(iterate 8 refine g5 ?_);refine xD h rfl (fun _ h=>?_) (fun _ h=>?_)
    ·(iterate 4 refine g5 ?_);refine wX ?_;cases h;exact xT
    ·(iterate 5 refine g5 ?_);refine wX ?_;cases h;exact xT
theorem ZS(x1:Int)(r0:Bool)(h:(wj x1).wp (·=r0)):PFun prog 140 [.d (.v (.int .u64 x1))] (.d (.v (.bool r0))):=by
 refine fI (sl:=[(0,_)]) func140 rfl ntmps140 rfl rfl ?_;intro ctx hK;(iterate 11 refine g5 ?_);refine wX ?_;cases h;exact xT
theorem uH(x1:Int)(y2:Int)(r0:Int)(h:(yp x1 y2).wp (·=r0)):PFun prog 114 [.d (.v (.int .u64 x1)),.d (.v (.int .u64 y2))] (.d (.v (.int .i64 r0))):=by
 refine fI (sl:=[(0,_),(1,_)]) func114 rfl ntmps114 rfl rfl ?_;intro ctx hK;(iterate 7 refine g5 ?_);obtain⟨v3,hy4,h⟩:=zD h;refine xN (ZS x1 v3 hy4) call140 ?_;(iterate 5 refine g5 ?_);obtain⟨v5,hy6,h⟩:=zD h;refine xN (ZS y2 v5 hy6) call140 ?_;(iterate 7 refine g5 ?_);refine xD h rfl (fun _ h=>?_) (fun _ h=>?_)
 ·(iterate 5 refine g5 ?_);refine xD h rfl (fun _ h=>?_) (fun _ h=>?_)
  ·(iterate 4 refine g5 ?_);refine wX ?_;cases h;exact xT
  ·(iterate 5 refine g5 ?_);refine wX ?_;cases h;exact xT
 ·(iterate 6 refine g5 ?_);refine xD h rfl (fun _ h=>?_) (fun _ h=>?_)
  ·(iterate 4 refine g5 ?_);refine wX ?_;cases h;exact xT
  ·(iterate 8 refine g5 ?_);refine xD h rfl (fun _ h=>?_) (fun _ h=>?_)
   ·(iterate 4 refine g5 ?_);refine wX ?_;cases h;exact xT
   ·(iterate 8 refine g5 ?_);refine xD h rfl (fun _ h=>?_) (fun _ h=>?_)
    ·(iterate 4 refine g5 ?_);refine wX ?_;cases h;exact xT
    ·(iterate 5 refine g5 ?_);refine wX ?_;cases h;exact xT
theorem vi(a1:DT)(b2:DT)(r0:Int)(h:(wP a1 b2).wp (·=r0)):PFun prog 85 [.agg (List.map .d (DT.e a1)),.agg (List.map .d (DT.e b2))] (.d (.v (.int .i64 r0))):=by
 refine fI (sl:=[(0,_),(1,_)]) func85 rfl ntmps85 rfl rfl ?_;intro ctx hK;(iterate 13 refine g5 ?_);obtain⟨v3,hy4,h⟩:=zD h;refine xN (Xa a1.dev b2.dev v3 hy4) call113 ?_;(iterate 7 refine g5 ?_);refine xD h rfl (fun _ h=>?_) (fun _ h=>?_)
 ·(iterate 5 refine g5 ?_);refine wX ?_;cases h;exact xT
 ·(iterate 7 refine g5 ?_);obtain⟨v6,hy7,h⟩:=zD h;refine xN (uH a1.n b2.n v6 hy7) call114 ?_;(iterate 2 refine g5 ?_);refine wX ?_;cases h;exact xT
theorem Qg(l1:List DT)(r0:Bool)(h:(Xr l1).wp (·=r0)):PFun prog 96 [.d (.sl (List.map DT.e l1))] (.d (.v (.bool r0))):=by
 refine fI (sl:=[(0,_)]) func96 rfl ntmps96 rfl rfl ?_;intro ctx hK;(iterate 11 refine g5 ?_);refine PWc.jnX (zF h) (fun(_:Unit) (_:Unit)=>⟨25,[],[]⟩) (fun h=>?_) ?_
 ·refine g5 ?_;refine wM (fun(v23:Int) (_:Unit)=>⟨25,[(0,.d (.sl (List.map DT.e l1))),(5,.d (.v (.int .i64 (l1.length:Int)))),(6,.d (.v (.int .i64 v23)))],[]⟩) () h (sP) ?_;rintro N v23 _ h;(iterate 5 refine g5 ?_);refine xD h rfl (fun _ h=>?_) (fun _ h=>?_)
  ·(iterate 9 refine g5 ?_);refine wJ (zF h) (fun(v25:Bool) (_:Unit)=>⟨25,[(0,.d (.sl (List.map DT.e l1))),(5,.d (.v (.int .i64 (l1.length:Int)))),(6,.d (.v (.int .i64 v23))),(23,.d (.v (.bool v25)))],[]⟩) (fun h=>?_) ?_
   ·refine g5 ?_;(iterate 3 refine h5 ?_);refine xQ (d:=11) h rfl (fun _ h=>?_) (fun _ h=>?_)
    ·(iterate 3 refine h5 ?_);obtain⟨x27,hy28,h⟩:=yE h;refine qt (fun _ U W=>iX (enc:=DT.e) (L:=l1) (y:=x27) underlying26 sizeOf25 U U hy28 (fun _=>rfl)) ?_;(iterate 3 refine h5 ?_);obtain⟨x29,hy30,h⟩:=yE h;refine qt (fun _ U W=>iX (enc:=DT.e) (L:=l1) (y:=x29) underlying26 sizeOf25 U U hy30 (fun _=>rfl)) ?_;refine h5 ?_;obtain⟨v31,hy32,h⟩:=zD h;refine qt (fun _ U W=>cN (vi x27 x29 v31 hy32) U call85 (xS (fun a b=>U a b) rfl rfl) rfl rfl rfl) ?_;(iterate 3 refine h5 ?_);exact⟨(decide (0<=v31)),(),h,sP⟩
    ·(iterate 13 refine h5 ?_);exact⟨false,(),h,sP⟩
   ·rintro v25 _ h;refine xD h rfl (fun _ h=>?_) (fun _ h=>?_)
    ·(iterate 4 refine g5 ?_);refine wX ?_;cases h;exact xT
    ·(iterate 5 refine g5 ?_);exact⟨(IntKind.i64.wrap (v23+1)),(),h,sP⟩
  ·refine wZ ?_;exact⟨(),(),h,sP⟩
 ·rintro _ _ h;(iterate 4 refine g5 ?_);refine wX ?_;cases h;exact xT
theorem wH(e1:EV)(r0:Bool)(h:(xx e1).wp (·=r0)):PFun prog 65 [.agg (List.map .d (EV.e e1))] (.d (.v (.bool r0))):=by
 refine fI (sl:=[(0,_)]) func65 rfl ntmps65 rfl rfl ?_;intro ctx hK;(iterate 10 refine g5 ?_);obtain⟨v2,hy3,h⟩:=zD h;refine xN (Qd e1.cid v2 hy3) call92 ?_;(iterate 8 refine g5 ?_);refine wJ (zF h) (fun(v4:Bool) (_:Unit)=>⟨72,[(1,.ref 1 0),(20,.d (.v (.bool v4)))],[(1,.cells 28 [.d (.v (.int .u16 e1.dot.dev)),.d (.v (.int .u64 e1.dot.n)),.d (.v (.int .u8 e1.kind)),.d (.v (.int .u64 e1.cid)),.d (.v (.int .u8 e1.field)),.d (.v (.string e1.text)),.d (.sl (List.map DT.e e1.kills))])]⟩) (fun h=>?_) ?_
 ·(iterate 4 refine g5 ?_);refine xG (d:=15) h rfl (fun _ h=>?_) (fun _ h=>?_)
  ·(iterate 6 refine g5 ?_);exact⟨true,(),h,sP⟩
  ·(iterate 2 refine g5 ?_);obtain⟨v6,hy7,h⟩:=zD h;refine wt (cN (ZQ e1.dot v6 hy7) rfl call93 rfl rfl rfl rfl) ?_;(iterate 3 refine g5 ?_);exact⟨(!v6),(),h,sP⟩
 ·rintro v4 _ h;refine xD h rfl (fun _ h=>?_) (fun _ h=>?_)
  ·(iterate 4 refine g5 ?_);refine wX ?_;cases h;exact xT
  ·(iterate 7 refine g5 ?_);refine PWc.jnX (zF h) (fun(_:Unit) (_:Unit)=>⟨72,[(1,.ref 1 0)],[(1,.cells 28 [.d (.v (.int .u16 e1.dot.dev)),.d (.v (.int .u64 e1.dot.n)),.d (.v (.int .u8 e1.kind)),.d (.v (.int .u64 e1.cid)),.d (.v (.int .u8 e1.field)),.d (.v (.string e1.text)),.d (.sl (List.map DT.e e1.kills))])]⟩) (fun h=>?_) ?_
   ·(iterate 6 refine g5 ?_);refine xD h rfl (fun _ h=>?_) (fun _ h=>?_)
    ·refine g5 ?_;refine wJ (zF h) (fun(v10:Bool) (_:Unit)=>⟨72,[(1,.ref 1 0),(34,.d (.v (.bool v10)))],[(1,.cells 28 [.d (.v (.int .u16 e1.dot.dev)),.d (.v (.int .u64 e1.dot.n)),.d (.v (.int .u8 e1.kind)),.d (.v (.int .u64 e1.cid)),.d (.v (.int .u8 e1.field)),.d (.v (.string e1.text)),.d (.sl (List.map DT.e e1.kills))])]⟩) (fun h=>?_) ?_
     ·(iterate 3 refine g5 ?_);obtain⟨v11,hy12,h⟩:=zD h;refine xN (Qe e1.field v11 hy12) call94 ?_;(iterate 2 refine g5 ?_);refine xG (d:=29) h rfl (fun _ h=>?_) (fun _ h=>?_)
      ·(iterate 6 refine g5 ?_);exact⟨true,(),h,sP⟩
      ·(iterate 2 refine g5 ?_);obtain⟨v14,hy15,h⟩:=zD h;refine wt (cN (Qf e1.text v14 hy15) rfl call95 rfl rfl rfl rfl) ?_;(iterate 3 refine g5 ?_);exact⟨(!v14),(),h,sP⟩
     ·rintro v10 _ h;refine xD h rfl (fun _ h=>?_) (fun _ h=>?_)
      ·(iterate 4 refine g5 ?_);refine wX ?_;cases h;exact xT
      ·refine g5 ?_;exact⟨(),(),h,sP⟩
    ·(iterate 5 refine g5 ?_);refine xD h rfl (fun _ h=>?_) (fun _ h=>?_)
     ·refine g5 ?_;refine wJ (zF h) (fun(v18:Bool) (_:Unit)=>⟨72,[(1,.ref 1 0),(44,.d (.v (.bool v18)))],[(1,.cells 28 [.d (.v (.int .u16 e1.dot.dev)),.d (.v (.int .u64 e1.dot.n)),.d (.v (.int .u8 e1.kind)),.d (.v (.int .u64 e1.cid)),.d (.v (.int .u8 e1.field)),.d (.v (.string e1.text)),.d (.sl (List.map DT.e e1.kills))])]⟩) (fun h=>?_) ?_
      ·(iterate 5 refine g5 ?_);refine xG (d:=40) h rfl (fun _ h=>?_) (fun _ h=>?_)
       ·(iterate 5 refine g5 ?_);exact⟨true,(),h,sP⟩
       ·(iterate 5 refine g5 ?_);exact⟨(!decide (e1.text=(⟨#[]⟩:ByteArray))),(),h,sP⟩
      ·rintro v18 _ h;refine xD h rfl (fun _ h=>?_) (fun _ h=>?_)
       ·(iterate 4 refine g5 ?_);refine wX ?_;cases h;exact xT
       ·refine g5 ?_;exact⟨(),(),h,sP⟩
     ·(iterate 4 refine g5 ?_);refine wX ?_;cases h;exact xT
   ·rintro _ _ h;(iterate 2 refine g5 ?_);refine wJ (zF h) (fun(v21:Bool) (_:Unit)=>⟨72,[(1,.ref 1 0),(54,.d (.v (.bool v21)))],[(1,.cells 28 [.d (.v (.int .u16 e1.dot.dev)),.d (.v (.int .u64 e1.dot.n)),.d (.v (.int .u8 e1.kind)),.d (.v (.int .u64 e1.cid)),.d (.v (.int .u8 e1.field)),.d (.v (.string e1.text)),.d (.sl (List.map DT.e e1.kills))])]⟩) (fun h=>?_) ?_
    ·(iterate 6 refine g5 ?_);refine xG (d:=49) h rfl (fun _ h=>?_) (fun _ h=>?_)
     ·(iterate 6 refine g5 ?_);exact⟨true,(),h,sP⟩
     ·(iterate 2 refine g5 ?_);obtain⟨v23,hy24,h⟩:=zD h;refine wt (cN (Qg e1.kills v23 hy24) rfl call96 rfl rfl rfl rfl) ?_;(iterate 3 refine g5 ?_);exact⟨(!v23),(),h,sP⟩
    ·rintro v21 _ h;refine xD h rfl (fun _ h=>?_) (fun _ h=>?_)
     ·(iterate 4 refine g5 ?_);refine wX ?_;cases h;exact xT
     ·(iterate 9 refine g5 ?_);refine PWc.jnX (zF h) (fun(_:Unit) (_:Unit)=>⟨72,[],[]⟩) (fun h=>?_) ?_
      ·refine g5 ?_;refine wM (fun(v43:Int) (_:Unit)=>⟨72,[(1,.ref 1 0),(56,.d (.sl (List.map DT.e e1.kills))),(57,.d (.v (.int .i64 (e1.kills.length:Int)))),(58,.d (.v (.int .i64 v43)))],[(1,.cells 28 [.d (.v (.int .u16 e1.dot.dev)),.d (.v (.int .u64 e1.dot.n)),.d (.v (.int .u8 e1.kind)),.d (.v (.int .u64 e1.cid)),.d (.v (.int .u8 e1.field)),.d (.v (.string e1.text)),.d (.sl (List.map DT.e e1.kills))])]⟩) () h (sP) ?_;rintro N v43 _ h;(iterate 5 refine g5 ?_);refine xD h rfl (fun _ h=>?_) (fun _ h=>?_)
       ·(iterate 5 refine g5 ?_);obtain⟨x45,hy46,h⟩:=yE h;refine ws (iX (enc:=DT.e) (L:=e1.kills) (y:=x45) underlying26 sizeOf25 rfl rfl hy46 (fun _=>rfl)) ?_;(iterate 5 refine g5 ?_);refine wJ (zF h) (fun(v47:Bool) (_:Unit)=>⟨72,[(1,.ref 1 0),(56,.d (.sl (List.map DT.e e1.kills))),(57,.d (.v (.int .i64 (e1.kills.length:Int)))),(58,.d (.v (.int .i64 v43))),(70,.d (.v (.bool v47)))],[(1,.cells 28 [.d (.v (.int .u16 e1.dot.dev)),.d (.v (.int .u64 e1.dot.n)),.d (.v (.int .u8 e1.kind)),.d (.v (.int .u64 e1.cid)),.d (.v (.int .u8 e1.field)),.d (.v (.string e1.text)),.d (.sl (List.map DT.e e1.kills))])]⟩) (fun h=>?_) ?_
        ·(iterate 2 refine g5 ?_);obtain⟨v48,hy49,h⟩:=zD h;refine xN (ZQ x45 v48 hy49) call93 ?_;(iterate 2 refine g5 ?_);refine xG (d:=65) h rfl (fun _ h=>?_) (fun _ h=>?_)
         ·(iterate 6 refine g5 ?_);exact⟨true,(),h,sP⟩
         ·(iterate 3 refine g5 ?_);refine wt (LR.eqlAgg rfl rfl rfl rfl uBa) ?_;(iterate 2 refine g5 ?_);exact⟨((decide (x45.dev=e1.dot.dev)&&decide (x45.n=e1.dot.n))),(),h,sP⟩
        ·rintro v47 _ h;refine xD h rfl (fun _ h=>?_) (fun _ h=>?_)
         ·(iterate 4 refine g5 ?_);refine wX ?_;cases h;exact xT
         ·(iterate 5 refine g5 ?_);exact⟨(IntKind.i64.wrap (v43+1)),(),h,sP⟩
       ·refine wZ ?_;exact⟨(),(),h,sP⟩
      ·rintro _ _ h;(iterate 4 refine g5 ?_);refine wX ?_;cases h;exact xT
theorem Zh(s1_1:List DT)(s2_2:List DT)(r0:Bool)(h:(yZ s1_1 s2_2).wp (·=r0)):PFun prog 121 [.d (.sl (List.map DT.e s1_1)),.d (.sl (List.map DT.e s2_2))] (.d (.v (.bool r0))):=by
 refine fI (sl:=[(0,_),(1,_)]) func121 rfl ntmps121 rfl rfl ?_;intro ctx hK;(iterate 13 refine g5 ?_);refine xD h rfl (fun _ h=>?_) (fun _ h=>?_)
 ·(iterate 4 refine g5 ?_);refine wX ?_;cases h;exact xT
 ·(iterate 8 refine g5 ?_);refine PWc.jnX (zF h) (fun(_:Unit) (_:Unit)=>⟨26,[],[]⟩) (fun h=>?_) ?_
  ·refine g5 ?_;refine wM (fun(v17:Int) (_:Unit)=>⟨26,[(0,.d (.sl (List.map DT.e s1_1))),(1,.d (.sl (List.map DT.e s2_2))),(12,.d (.v (.int .i64 (s1_1.length:Int)))),(13,.d (.v (.int .i64 v17)))],[]⟩) () h (sP) ?_;rintro N v17 _ h;(iterate 5 refine g5 ?_);refine xD h rfl (fun _ h=>?_) (fun _ h=>?_)
   ·(iterate 10 refine g5 ?_);(iterate 2 refine h5 ?_);obtain⟨x19,hy20,h⟩:=yE h;refine qs (fun _ U W=>iX (enc:=DT.e) (L:=s1_1) (y:=x19) underlying26 sizeOf25 U U hy20 (fun _=>rfl)) ?_;(iterate 3 refine h5 ?_);obtain⟨x21,hy22,h⟩:=yE h;refine qs (fun _ U W=>iX (enc:=DT.e) (L:=s2_2) (y:=x21) underlying26 sizeOf25 U U hy22 (fun _=>rfl)) ?_;refine h5 ?_;refine qs (fun _ U W=>LR.neqAgg U U rfl rfl uBa) ?_;refine h5 ?_;refine xD h rfl (fun _ h=>?_) (fun _ h=>?_)
    ·(iterate 4 refine g5 ?_);refine wX ?_;cases h;exact xT
    ·(iterate 5 refine g5 ?_);exact⟨(IntKind.i64.wrap (v17+1)),(),h,sP⟩
   ·refine wZ ?_;exact⟨(),(),h,sP⟩
  ·rintro _ _ h;(iterate 4 refine g5 ?_);refine wX ?_;cases h;exact xT
theorem xRa(a1:List DT)(b2:List DT)(r0:Bool)(h:(jB a1 b2).wp (·=r0)):PFun prog 97 [.d (.sl (List.map DT.e a1)),.d (.sl (List.map DT.e b2))] (.d (.v (.bool r0))):=by
 refine fI (sl:=[(0,_),(1,_)]) func97 rfl ntmps97 rfl rfl ?_;intro ctx hK;(iterate 8 refine g5 ?_);obtain⟨v3,hy4,h⟩:=zD h;refine xN (Zh a1 b2 v3 hy4) call121 ?_;(iterate 2 refine g5 ?_);refine wX ?_;cases h;exact xT
theorem Vb(a1:EV)(b2:EV)(r0:Bool)(h:(YH a1 b2).wp (·=r0)):PFun prog 66 [.agg (List.map .d (EV.e a1)),.agg (List.map .d (EV.e b2))] (.d (.v (.bool r0))):=by
 refine fI (sl:=[(0,_),(1,_)]) func66 rfl ntmps66 rfl rfl ?_;intro ctx hK;(iterate 7 refine g5 ?_);refine wJ (zF h) (fun(v3:Bool) (_:Unit)=>⟨45,[(4,.d (.v (.bool v3)))],[]⟩) (fun h=>?_) ?_
 ·(iterate 5 refine g5 ?_);refine ws (LR.eqlAgg rfl rfl rfl rfl uBa) ?_;refine g5 ?_;refine xG (d:=10) h rfl (fun _ h=>?_) (fun _ h=>?_)
  ·(iterate 7 refine g5 ?_);refine xG (d:=17) h rfl (fun _ h=>?_) (fun _ h=>?_)
   ·refine g5 ?_;refine wy (tl:=[(2,_),(3,_),(4,_),(17,_),(18,_)]) (to:=[(2,_),(3,_)]) ?_;(iterate 6 refine g5 ?_);refine xG (d:=24) h rfl (fun _ h=>?_) (fun _ h=>?_)
    ·(iterate 7 refine g5 ?_);refine xG (d:=31) h rfl (fun _ h=>?_) (fun _ h=>?_)
     ·refine g5 ?_;refine wy (tl:=[(2,_),(3,_),(4,_),(31,_),(32,_)]) (to:=[(2,_),(3,_)]) ?_;(iterate 6 refine g5 ?_);refine xG (d:=38) h rfl (fun _ h=>?_) (fun _ h=>?_)
      ·(iterate 4 refine g5 ?_);obtain⟨v9,hy10,h⟩:=zD h;refine wt (cN (xRa a1.kills b2.kills v9 hy10) rfl call97 rfl rfl rfl rfl) ?_;(iterate 3 refine g5 ?_);exact⟨v9,(),h,sP⟩
      ·(iterate 8 refine g5 ?_);exact⟨false,(),h,sP⟩
     ·refine g5 ?_;refine wy (tl:=[(2,_),(3,_),(4,_),(31,_),(32,_)]) (to:=[(2,_),(3,_)]) ?_;(iterate 14 refine g5 ?_);exact⟨false,(),h,sP⟩
    ·(iterate 9 refine g5 ?_);refine wy (tl:=[(2,_),(3,_),(4,_),(31,_),(33,_)]) (to:=[(2,_),(3,_)]) ?_;(iterate 13 refine g5 ?_);exact⟨false,(),h,sP⟩
   ·refine g5 ?_;refine wy (tl:=[(2,_),(3,_),(4,_),(17,_),(18,_)]) (to:=[(2,_),(3,_)]) ?_;(iterate 16 refine g5 ?_);refine wy (tl:=[(2,_),(3,_),(4,_),(31,_),(33,_),(34,_)]) (to:=[(2,_),(3,_)]) ?_;(iterate 12 refine g5 ?_);exact⟨false,(),h,sP⟩
  ·(iterate 9 refine g5 ?_);refine wy (tl:=[(2,_),(3,_),(4,_),(17,_),(19,_)]) (to:=[(2,_),(3,_)]) ?_;(iterate 16 refine g5 ?_);refine wy (tl:=[(2,_),(3,_),(4,_),(31,_),(33,_),(35,_)]) (to:=[(2,_),(3,_)]) ?_;(iterate 11 refine g5 ?_);exact⟨false,(),h,sP⟩
 ·rintro v3 _ h;refine wX ?_;cases h;exact xT
theorem vM(l1:List RN)(r0:List RN)(h:(xr l1).wp (·=r0)):PRow prog 133 [.d (.sl (List.map RN.e l1))] 117 2 (List.map RN.e r0):=by
 refine PRow.intro (sl:=[(0,_)]) func133 rfl ntmps133 rfl rfl ?_;intro ctx hK;(iterate 2 refine g5 ?_);refine ws (aR 117 2 rfl) ?_;(iterate 3 refine g5 ?_);refine ws (aR 117 2 rfl) ?_;(iterate 8 refine g5 ?_);refine wJ (zF h) (fun(some2:List RN) (_:Unit)=>⟨78,[(3,.row 3 (some2.length))],[(3,.row 117 2 (List.map RN.e some2))]⟩) (fun h=>?_) ?_
 ·refine g5 ?_;refine wM (fun(⟨v23,some24⟩:Int×List RN) (_:Unit)=>⟨78,[(3,.row 3 (some24.length)),(10,.d (.sl (List.map RN.e l1))),(11,.d (.v (.int .i64 (l1.length:Int)))),(12,.d (.v (.int .i64 v23)))],[(3,.row 117 2 (List.map RN.e some24))]⟩) () h (sP) ?_;rintro N ⟨v23,some24⟩ _ h;(iterate 5 refine g5 ?_);refine xD h rfl (fun _ h=>?_) (fun _ h=>?_)
  ·(iterate 2 refine g5 ?_);refine wJ (zF h) (fun(some26:List RN) (_:Unit)=>⟨78,[(3,.row 3 (some26.length)),(10,.d (.sl (List.map RN.e l1))),(11,.d (.v (.int .i64 (l1.length:Int)))),(12,.d (.v (.int .i64 v23)))],[(3,.row 117 2 (List.map RN.e some26))]⟩) (fun h=>?_) ?_
   ·(iterate 3 refine g5 ?_);obtain⟨x27,hy28,h⟩:=yE h;refine ws (iX (enc:=RN.e) (L:=l1) (y:=x27) underlying92 sizeOf117 rfl rfl hy28 (fun _=>rfl)) ?_;(iterate 5 refine g5 ?_);refine wJ (zF h) (fun(v29:Bool) (_:Unit)=>⟨78,[(3,.row 3 (some24.length)),(5,.ref 5 0),(10,.d (.sl (List.map RN.e l1))),(11,.d (.v (.int .i64 (l1.length:Int)))),(12,.d (.v (.int .i64 v23))),(30,.d (.v (.bool v29)))],[(3,.row 117 2 (List.map RN.e some24)),(5,.cells 117 [.d (.v (.int .u64 x27.lo)),.d (.v (.int .u64 x27.hi))])]⟩) (fun h=>?_) ?_
    ·(iterate 5 refine g5 ?_);refine xG (d:=19) h rfl (fun _ h=>?_) (fun _ h=>?_)
     ·(iterate 7 refine g5 ?_);refine xG (d:=26) h rfl (fun _ h=>?_) (fun _ h=>?_)
      ·refine wy (tl:=[(3,_),(5,_),(10,_),(11,_),(12,_),(20,_),(21,_),(22,_),(23,_),(24,_),(26,_)]) (to:=[(3,_),(5,_)]) ?_;(iterate 5 refine g5 ?_);exact⟨(decide (x27.hi<=281474976710655)),(),h,sP⟩
      ·refine wy (tl:=[(3,_),(5,_),(10,_),(11,_),(12,_),(20,_),(21,_),(22,_),(23,_),(24,_),(26,_)]) (to:=[(3,_),(5,_)]) ?_;(iterate 5 refine g5 ?_);exact⟨false,(),h,sP⟩
     ·(iterate 8 refine g5 ?_);refine wy (tl:=[(3,_),(5,_),(10,_),(11,_),(12,_),(20,_),(21,_),(22,_),(23,_),(24,_),(26,_),(27,_)]) (to:=[(3,_),(5,_)]) ?_;(iterate 4 refine g5 ?_);exact⟨false,(),h,sP⟩
    ·rintro v29 _ h;refine xD h rfl (fun _ h=>?_) (fun _ h=>?_)
     ·(iterate 3 refine g5 ?_);refine ws (LR.buildSliceD [.tmp 32] vO rfl rfl (.cons rfl rfl rfl<|.nil) (by decide) (by decide)) ?_;obtain⟨hy33,h⟩:=yM h;refine ws (LR.appT (enc:=RN.e) (L:=some24) (R:=[x27]) [3,31] vO underlying92 rfl rfl rfl (Src.slT (enc:=RN.e) (R:=[x27]) rfl (fun _=>rfl)) (fun _=>rfl) hy33 rfl rfl) ?_;(iterate 2 refine g5 ?_);exact⟨(some24++[x27]),(),h,sP⟩
     ·refine g5 ?_;exact⟨some24,(),h,sP⟩
   ·rintro some26 _ h;(iterate 4 refine g5 ?_);exact⟨((IntKind.i64.wrap (v23+1)),some26),(),h,sP⟩
  ·refine wZ ?_;exact⟨some24,(),h,sP⟩
 ·rintro some2 _ h;(iterate 3 refine g5 ?_);obtain⟨hy35,h⟩:=yM h;refine PWl.sortFn (encD:=RN.e) (enc:=RN.v) (l:=some2) vLa (fun _=>rfl) RN.v1 (fun _=>rfl) rfl call149 rfl rfl rfl (by simp) hy35 rfl (fun s34 hy36 hy37=>?_);replace h:=iSrt h s34 hy36 hy37;have hy36l:=hy36.length_eq;(iterate 3 refine g5 ?_);refine ws (aR 117 2 rfl) ?_;(iterate 8 refine g5 ?_);refine wJ (zF h) (fun(out38:List RN) (_:Unit)=>⟨78,[(6,.row 6 (out38.length))],[(6,.row 117 2 (List.map RN.e out38))]⟩) (fun h=>?_) ?_
  ·refine g5 ?_;refine wM (fun(⟨v69,out70⟩:Int×List RN) (_:Unit)=>⟨78,[(6,.row 6 (out70.length)),(38,.row 3 (some2.length)),(39,.d (.v (.int .i64 (some2.length:Int)))),(40,.d (.v (.int .i64 v69)))],[(3,.row 117 2 (List.map RN.e s34)),(6,.row 117 2 (List.map RN.e out70))]⟩) () h (sO rfl (.cons rfl rfl<|.cons rfl (by first | rfl | (simp;done) | (congr 1;first | (simp;done) | (simp;omega) | omega))<|.c2 rfl rfl rfl rfl<|.nil) (.c2 rfl rfl rfl rfl<|.nil)) ?_;rintro N ⟨v69,out70⟩ _ h;(iterate 5 refine g5 ?_);refine xD h rfl (fun _ h=>?_) (fun _ h=>?_)
   ·(iterate 2 refine g5 ?_);refine wJ (zF h) (fun(out72:List RN) (_:Unit)=>⟨78,[(6,.row 6 (out72.length)),(38,.row 3 (some2.length)),(39,.d (.v (.int .i64 (some2.length:Int)))),(40,.d (.v (.int .i64 v69)))],[(3,.row 117 2 (List.map RN.e s34)),(6,.row 117 2 (List.map RN.e out72))]⟩) (fun h=>?_) ?_
    ·(iterate 3 refine g5 ?_);obtain⟨x73,hy74,h⟩:=yE h;refine ws (LR.idxRowT (L:=s34) (y:=x73) underlying92 sizeOf117 rfl (by first | (simp;done) | (simp;omega) | omega) rfl hy74) ?_;refine ws (LR.loadRpT (enc:=RN.e) (L:=s34) (y:=x73) isAgg117 sizeOf117 rfl rfl hy74.2) ?_;(iterate 12 refine g5 ?_);refine wJ (zF h) (fun(v75:Bool) (_:Unit)=>⟨78,[(6,.row 6 (out70.length)),(8,.ref 8 0),(9,.d (.v (.int .i64 ((IntKind.i64.wrap ((out70.length:Int) - 1)))))),(38,.row 3 (some2.length)),(39,.d (.v (.int .i64 (some2.length:Int)))),(40,.d (.v (.int .i64 v69))),(59,.d (.v (.bool v75)))],[(3,.row 117 2 (List.map RN.e s34)),(6,.row 117 2 (List.map RN.e out70)),(8,.cells 117 [.d (.v (.int .u64 x73.lo)),.d (.v (.int .u64 x73.hi))])]⟩) (fun h=>?_) ?_
     ·refine g5 ?_;(iterate 3 refine h5 ?_);refine xQ (d:=49) h rfl (fun _ h=>?_) (fun _ h=>?_)
      ·(iterate 4 refine h5 ?_);obtain⟨x77,hy78,h⟩:=yE h;refine qt (fun _ U W=>LR.idxRowT (L:=out70) (y:=x77) underlying92 sizeOf117 U rfl U hy78) ?_;refine h5 ?_;refine qt (fun _ U W=>LR.loadRpF (enc:=RN.e) (L:=out70) (y:=x77) isAgg23 U (W rfl) hy78.2 rfl) ?_;(iterate 4 refine h5 ?_);exact⟨(decide (x73.lo<=(IntKind.u64.wrap (x77.hi+1)))),(),h,sO rfl (.c2 rfl rfl rfl rfl<|.cons rfl rfl<|.cons rfl (by first | rfl | (simp;done) | (congr 1;first | (simp;done) | (simp;omega) | omega))<|.c2 rfl rfl rfl rfl<|.cons rfl rfl<|.nil) (.c2 rfl rfl rfl rfl<|.cons rfl rfl<|.nil)⟩
      ·(iterate 11 refine h5 ?_);exact⟨false,(),h,sO rfl (.c2 rfl rfl rfl rfl<|.cons rfl rfl<|.cons rfl (by first | rfl | (simp;done) | (congr 1;first | (simp;done) | (simp;omega) | omega))<|.c2 rfl rfl rfl rfl<|.cons rfl rfl<|.nil) (.c2 rfl rfl rfl rfl<|.cons rfl rfl<|.nil)⟩
     ·rintro v75 _ h;refine xD h rfl (fun _ h=>?_) (fun _ h=>?_)
      ·refine g5 ?_;refine wz (tl:=[(6,_),(8,_),(9,_),(38,_),(39,_),(40,_)]) (to:=[(3,_),(6,_),(8,_)]) ?_;refine PWc.regionE [⟨[60],[],[],[],[],[6],[],[]⟩,{ws:=[61]},⟨[62],[],[],[],[],[6],[],[]⟩,{ws:=[63]},⟨[64],[],[],[],[],[6],[],[]⟩,⟨[65],[],[],[],[],[6],[],[]⟩,⟨[66],[],[6],[],[],[],[],[]⟩,⟨[67],[],[],[],[],[8],[],[]⟩,⟨[68],[],[8],[],[],[],[],[]⟩,{ws:=[69]},⟨[70],[],[],[],[],[6],[],[]⟩,⟨[71],[],[],[],[],[6],[],[]⟩,⟨[],[6],[6],[],[],[],[],[]⟩] (by kernel_rfl) (by kernel_rfl) rfl ?_;(iterate 4 refine h5 ?_);obtain⟨x80,hy81,h⟩:=yE h;refine kp (fun _ U W=>LR.idxRowT (L:=out70) (y:=x80) underlying92 sizeOf117 U rfl U hy81) ?_;refine h5 ?_;refine kp (fun _ U W=>LR.loadRpF (enc:=RN.e) (L:=out70) (y:=x80) isAgg23 U (W rfl rfl) hy81.2 rfl) ?_;(iterate 3 refine h5 ?_);obtain⟨x82,hy83,h⟩:=yE h;refine kp (fun _ U W=>LR.idxRowT (L:=out70) (y:=x82) underlying92 sizeOf117 U rfl U hy83) ?_;refine h5 ?_;refine ks (fun _ U W=>LR.storeRpT (enc:=RN.e) (L:=out70) (a:=x82) (b:=(⟨x82.lo,(max x80.hi x73.hi)⟩:RN)) sizeOf23 U U rfl rfl (W rfl rfl) hy83.2 rfl rfl)<|PQe.nil<|wZ ?_;exact⟨(List.set out70 ((Int.toNat ((IntKind.i64.wrap ((out70.length:Int) - 1))))) (⟨x82.lo,(max x80.hi x73.hi)⟩:RN)),(),h,sO rfl (.cons rfl (by first | rfl | (simp;done) | (congr 1;first | (simp;done) | (simp;omega) | omega))<|.cons rfl (by first | rfl | (simp;done) | (congr 1;first | (simp;done) | (simp;omega) | omega))<|.c2 rfl rfl rfl rfl<|.nil) (.c2 rfl rfl rfl rfl<|.nil)⟩
      ·(iterate 4 refine g5 ?_);refine ws (LR.buildSliceD [.tmp 73] vO rfl rfl (.cons rfl rfl rfl<|.nil) (by decide) (by decide)) ?_;obtain⟨hy84,h⟩:=yM h;refine ws (LR.appT (enc:=RN.e) (L:=out70) (R:=[x73]) [6,72] vO underlying92 rfl rfl rfl (Src.slT (enc:=RN.e) (R:=[x73]) rfl (fun _=>rfl)) (fun _=>rfl) hy84 rfl rfl) ?_;(iterate 2 refine g5 ?_);exact⟨(out70++[x73]),(),h,sO rfl (.cons rfl rfl<|.cons rfl (by first | rfl | (simp;done) | (congr 1;first | (simp;done) | (simp;omega) | omega))<|.c2 rfl rfl rfl rfl<|.nil) (.c2 rfl rfl rfl rfl<|.nil)⟩
    ·rintro out72 _ h;(iterate 4 refine g5 ?_);exact⟨((IntKind.i64.wrap (v69+1)),out72),(),h,sO rfl (.cons rfl rfl<|.cons rfl (by first | rfl | (simp;done) | (congr 1;first | (simp;done) | (simp;omega) | omega))<|.c2 rfl rfl rfl rfl<|.nil) (.c2 rfl rfl rfl rfl<|.nil)⟩
   ·refine wZ ?_;exact⟨out70,(),h,sP⟩
  ·rintro out38 _ h;(iterate 5 refine g5 ?_);refine wX ?_;cases h;exact⟨.inr rfl,2,rfl,.inr ⟨6,_,rfl,(by simp),rfl⟩⟩
theorem Um(m1:List (Int×List RN))(r0:List PT)(h:(ZD m1).wp (·=r0)):PRow prog 104 [.md [.u16] false (xX kI (eL RN.e) m1)] 94 2 (List.map PT.e r0):=by
 refine PRow.intro (sl:=[(0,_)]) func104 rfl ntmps104 rfl rfl ?_;intro ctx hK;(iterate 2 refine g5 ?_);refine ws (aR 94 2 rfl) ?_;(iterate 3 refine g5 ?_);refine ws (aR 94 2 rfl) ?_;(iterate 5 refine g5 ?_);refine PWl.rangeD underlying143 rfl rfl rfl (fun bs2 ck2 hbl2 hbn2=>?_);refine g5 ?_;refine wJ (zF h) (fun(c3:List PT) (_:Unit)=>⟨27,[(3,.row 3 (c3.length))],[(3,.row 94 2 (List.map PT.e c3))]⟩) (fun h=>?_) ?_
 ·refine g5 ?_;refine wM (fun(⟨seen28,c29⟩:List Nat×List PT) (_:Unit)=>⟨27,[(3,.row 3 (c29.length)),(7,.ref 7 0)],[(3,.row 94 2 (List.map PT.e c29)),(7,.iterD [.u16] false (xX kI (eL RN.e) m1) bs2 ck2 seen28)]⟩) () h (sP) ?_;rintro N ⟨seen28,c29⟩ _ h;(iterate 2 refine g5 ?_);obtain⟨hy40,h⟩:=yM h;replace h:=iNxt h;refine PWl.nextD rfl rfl (nxtD hy40) rfl (fun hy31=>?_) (fun j30 hy32 hy33=>?_)
  ·replace h:=h.1 (nxtA hy31);(iterate 3 refine g5 ?_);refine PWc.condF rfl<|wZ ?_;exact⟨c29,(),h,sP⟩
  ·replace h:=h.2 j30 (nxtB hy32) hy33;(iterate 3 refine g5 ?_);refine PWc.condT rfl ?_;(iterate 4 refine g5 ?_);obtain⟨kv34,hy35,h⟩:=yE h;refine ws (LR.entryD rfl rfl (entGet hy35) rfl rfl) ?_;(iterate 8 refine g5 ?_);obtain⟨v36,hy37,h⟩:=zD h;refine ws (LR.rowN (vM kv34.2 v36 hy37) rfl call133 rfl rfl rfl rfl) ?_;(iterate 8 refine g5 ?_);refine xD h rfl (fun _ h=>?_) (fun _ h=>?_)
   ·(iterate 4 refine g5 ?_);refine PWl.frz [5,14,15,20] hK (.cons rfl<|.cons rfl<|.cons rfl<|.cons rfl<|.nil) rfl (by simp) ?_;refine ws (LR.build (ns:=[_,_]) xGa rfl rfl rfl)<|ws (LR.buildSliceD [.tmp 21] qb rfl rfl (.cons rfl rfl rfl<|.nil) (by decide) (by decide)) ?_;obtain⟨hy39,h⟩:=yM h;refine ws (LR.appT (enc:=PT.e) (L:=c29) (R:=[(⟨kv34.1,v36⟩:PT)]) [3,18] qb underlying30 rfl rfl rfl (Src.slT (enc:=PT.e) (R:=[(⟨kv34.1,v36⟩:PT)]) rfl (fun _=>rfl)) (fun _=>rfl) hy39 rfl rfl)<|wy (tl:=[(7,_),(23,_)]) (to:=[(3,_),(7,_)]) ?_;(iterate 2 refine g5 ?_);exact⟨((seen28++[j30]),(c29++[(⟨kv34.1,v36⟩:PT)])),(),h,sP⟩
   ·refine g5 ?_;exact⟨((seen28++[j30]),c29),(),h,sP⟩
 ·rintro c3 _ h;(iterate 3 refine g5 ?_);obtain⟨hy42,h⟩:=yM h;refine PWl.sortFnR (encD:=PT.e) (enc:=RawTPart.v) (lt:=qc) (R:=RawTPart.R) (l:=c3) vJa RawTPart.raw rlt134 (fun _=>rfl) (fun _=>rfl) rfl call134 rfl rfl rfl (by simp) hy42 rfl (fun s41 hy43 hy44=>?_);replace h:=iSrt h s41 hy43 hy44;have hy43l:=hy43.length_eq;(iterate 6 refine g5 ?_);refine wX ?_;cases h;exact⟨.inr rfl,2,rfl,.inr ⟨3,_,rfl,(by first | (simp;done) | (simp;omega) | omega),rfl⟩⟩
theorem Yu(c1:List PT)(r0:List (Int×List RN))(h:(Yd c1).wp (·=r0)):PMap prog 105 [.d (.sl (List.map PT.e c1))] [.u16] false (xX kI (eL RN.e) r0):=by
 refine PMap.intro (sl:=[(0,_)]) func105 rfl ntmps105 rfl rfl ?_;intro ctx hK;(iterate 6 refine g5 ?_);refine ws (LR.makeMap [.u16] false rfl) ?_;(iterate 10 refine g5 ?_);obtain⟨hy10,h⟩:=yM h;have hN:=hy10.1;refine PWc.loopRows (bid:=0) (N:=c1.length) (mid:=6) (n:=28) (ks:=[.u16]) (e:=117) (k:=2) (fun i=>[(3,.mp 6),(7,.d (.sl (List.map PT.e c1))),(8,.d (.v (.int .i64 (c1.length:Int)))),(9,.d (.v (.int .i64 (i:Int))))]) (fun i=>uG kI RN.e (AL.grow [] ((List.take i c1).filterMap zr))) [(3,.mp 6)] [] 0 hK (by decide) (fun i x hx id h=>by simp only[List.mem_cons,List.not_mem_nil,or_false] at hx;rcases hx with rfl | rfl | rfl | rfl <;> first | (simp[PV.has] at h;done) | (simp[PV.has] at h;exact h.symm) | (simp[PV.has] at h;omega)) rfl (fun i=>yEa (fun x d hd=>by simp only[RN.e,List.mem_cons,List.not_mem_nil,or_false] at hd;rcases hd with rfl | rfl <;> exact⟨_,rfl⟩) _) (sP) (fun i hi=>?_) (xX kI (eL RN.e) (AL.grow ([]:List (Int×List RN)) (List.filterMap zr c1))) (by simp only[List.take_length];exact rowsM_of _) (fun ctx vm bs ck=>?_) (fun bs ck=>?_)
 ·obtain⟨p,hp⟩:∃ p,c1[i]?=some p:=⟨_,List.getElem?_eq_getElem hi⟩
  have hidx:(0:Int)<=(i:Int)/\c1[(i:Int).toNat]?=some p:=⟨by omega,by simpa using hp⟩
  have htk:=AL.grow_take hp zr;have hwi:=wrapNat (i:=i) (by omega)
  by_cases hd:0 < p.dev
  ·have hf:zr p=some (p.dev,p.runs):=by simp[zr,hd]
   have hbd:=AL.grow_bound hy10 hp hf;rw[hf] at htk;rcases qe (eK:=kI) (enc:=RN.e) wJa (p.dev) (AL.grow [] ((List.take i c1).filterMap zr)) with⟨j,l,h1,h2,h3,h4⟩ | ⟨h1,h2,h3⟩
   ·simp only[h3] at hbd;refine .found (nl:=l.length) (nl':=(List.length (l++p.runs))) (l:=(List.map RN.e l)) (l':=(List.map RN.e (l++p.runs))) (by simp) (by simp) h2 (by rw[htk];simp only[AL.grow,Option.toList,List.foldl] at h3 h4 ⊢;rw[h3];exact h4 _) fun ctx vm bs ck hvm=>?_
    have hpf:xW (kI (p.dev)) (Zy vm) 0=some j:=by rw[yFa hvm];exact h1
    have h:(M.bind (M.idx c1 (i:Int)) fun x2=>M.xg ((l.length+x2.runs.length)*16<=140737488355328)<|M.pure ()).wp (fun _=>True):=⟨p,hidx,hbd,trivial⟩
    (iterate 5 refine g5 ?_);refine PWc.condT (congrArg (fun b=>some (PV.d (.v (.bool b)))) (decide_eq_true (Int.ofNat_lt.2 hi))) ?_;(iterate 5 refine g5 ?_);obtain⟨x2,hy3,h⟩:=yE h;have hE:=idxU hy3 hidx;subst hE;refine ws (iX (enc:=PT.e) (L:=c1) (y:=x2) underlying30 sizeOf94 rfl rfl hy3 (fun _=>rfl)) ?_;(iterate 10 refine g5 ?_);refine PWc.condT (congrArg (fun b=>some (PV.d (.v (.bool b)))) (decide_eq_true hd))<|wz (tl:=[(3,_),(5,_),(7,_),(8,_),(9,_)]) (to:=[(5,_),(6,_),(50,_)]) ?_;refine PWc.regionE [⟨[16],[],[],[],[],[6],[],[]⟩,⟨[17],[],[],[],[],[5],[],[]⟩,⟨[18],[],[5],[],[],[],[],[]⟩,⟨[19],[],[],[],[],[6],[],[]⟩,⟨[20],[],[],[],[],[5],[],[]⟩,⟨[21],[],[5],[],[],[],[],[]⟩,⟨[22],[],[6],[],[],[50],[],[]⟩,⟨[23],[],[],[],[],[5],[],[]⟩,⟨[24],[],[5],[],[],[],[],[]⟩,⟨[22,25],[6,50],[6,50],[],[(50,[22])],[50],[],[6]⟩,⟨[],[6],[6,50],[],[],[],[50],[]⟩] (by kernel_rfl) (by kernel_rfl) rfl ?_;(iterate 6 refine h5 ?_);refine kp (fun _ U W=>LR.lookupP underlying143 jv U (W rfl rfl) U rfl hpf rfl) ?_;(iterate 2 refine h5 ?_);obtain⟨hy4,h⟩:=yM h;refine PQe.stepX [22] (fun _ U W ha=>LR.appP (enc:=RN.e) (L:=l) (R:=x2.runs) [22] vO underlying92 (U rfl rfl) rfl (W rfl rfl) (W rfl rfl) rfl (fun _ h1 h2=>Src.slT (enc:=RN.e) (R:=x2.runs) (uSa h1 h2 (U rfl rfl)) (fun _=>rfl)) (fun _=>rfl) hy4 rfl ha) rfl rfl (.inl rfl) rfl ?_;refine ks (fun _ U W=>LR.mapUpdateP underlying143 jv U (W rfl rfl) U rfl rfl U hpf)<|PQe.nil ?_;(iterate 4 refine g5 ?_);exact⟨rfl,sO rfl (.c2 rfl rfl rfl rfl<|.cons rfl rfl<|.cons rfl (congrArg (fun z=>PV.d (.v (.int .i64 z))) hwi)<|.nil) (.c2 rfl rfl rfl rfl<|.nil)⟩
   ·simp only[h2,List.length_nil,Nat.zero_add] at hbd;refine .fresh (q:=25) (nl':=p.runs.length) (l':=(List.map RN.e p.runs)) (by simp) (by decide) (by rw[htk];simp only[AL.grow,Option.toList,List.foldl] at h2 h3 ⊢;rw[h2];exact h3 _) fun ctx vm bs ck hvm=>?_
    have hpf:xW (kI (p.dev)) (Zy vm) 0=none:=by rw[yFa hvm];exact h1
    have h:(M.bind (M.idx c1 (i:Int)) fun x5=>M.xg (x5.runs.length*16<=140737488355328)<|M.pure ()).wp (fun _=>True):=⟨p,hidx,hbd,trivial⟩
    (iterate 5 refine g5 ?_);refine PWc.condT (congrArg (fun b=>some (PV.d (.v (.bool b)))) (decide_eq_true (Int.ofNat_lt.2 hi))) ?_;(iterate 5 refine g5 ?_);obtain⟨x5,hy6,h⟩:=yE h;have hE:=idxU hy6 hidx;subst hE;refine ws (iX (enc:=PT.e) (L:=c1) (y:=x5) underlying30 sizeOf94 rfl rfl hy6 (fun _=>rfl)) ?_;(iterate 10 refine g5 ?_);refine PWc.condT (congrArg (fun b=>some (PV.d (.v (.bool b)))) (decide_eq_true hd))<|wz (tl:=[(3,_),(5,_),(7,_),(8,_),(9,_)]) (to:=[(5,_),(6,_)]) ?_;refine PWc.regionE [⟨[16],[],[],[],[],[6],[],[]⟩,⟨[17],[],[],[],[],[5],[],[]⟩,⟨[18],[],[5],[],[],[],[],[]⟩,⟨[19],[],[],[],[],[6],[],[]⟩,⟨[20],[],[],[],[],[5],[],[]⟩,⟨[21],[],[5],[],[],[],[],[]⟩,⟨[22],[],[6],[],[],[],[],[]⟩,⟨[23],[],[],[],[],[5],[],[]⟩,⟨[24],[],[5],[],[],[],[],[]⟩,⟨[25],[25],[],[25],[],[25],[],[]⟩,⟨[],[6],[6,25],[],[],[],[25],[]⟩] (by kernel_rfl) (by kernel_rfl) rfl ?_;(iterate 6 refine h5 ?_);refine kp (fun _ U W=>LR.lookupPN underlying143 jv U (W rfl rfl) U rfl zeroValue92 rfl hpf) ?_;(iterate 2 refine h5 ?_);obtain⟨hy7,h⟩:=yM h;refine PQe.stepN (fun _ U W hf=>LR.appNilX (enc:=RN.e) (R:=x5.runs) vO underlying92 (U rfl rfl) hf (Src.slT (enc:=RN.e) (R:=x5.runs) (evObjs (U rfl rfl)) (fun _=>rfl)) (fun _=>rfl) hy7 rfl (xMa hf)) rfl (.inl rfl) rfl ?_;refine ks (fun _ U W=>LR.mapUpdatePN underlying143 jv U (W rfl rfl) U rfl rfl U hpf)<|PQe.nil ?_;(iterate 4 refine g5 ?_);exact⟨rfl,sO rfl (.c2 rfl rfl rfl rfl<|.cons rfl rfl<|.cons rfl (congrArg (fun z=>PV.d (.v (.int .i64 z))) hwi)<|.nil) (.c2 rfl rfl rfl rfl<|.nil)⟩
  ·have hf:zr p=none:=by simp[zr,hd]
   rw[hf] at htk;refine .skip (by rw[htk];rfl) fun ctx vm bs ck=>?_
   have h:(M.bind (M.idx c1 (i:Int)) fun x8=>M.pure ()).wp (fun _=>True):=⟨p,hidx,trivial⟩
   (iterate 5 refine g5 ?_);refine PWc.condT (congrArg (fun b=>some (PV.d (.v (.bool b)))) (decide_eq_true (Int.ofNat_lt.2 hi))) ?_;(iterate 5 refine g5 ?_);obtain⟨x8,hy9,h⟩:=yE h;have hE:=idxU hy9 hidx;subst hE;refine ws (iX (enc:=PT.e) (L:=c1) (y:=x8) underlying30 sizeOf94 rfl rfl hy9 (fun _=>rfl)) ?_;(iterate 10 refine g5 ?_);refine PWc.condF (congrArg (fun b=>some (PV.d (.v (.bool b)))) (decide_eq_false hd)) ?_;(iterate 5 refine g5 ?_);exact⟨rfl,sO rfl (.c2 rfl rfl rfl rfl<|.cons rfl rfl<|.cons rfl (congrArg (fun z=>PV.d (.v (.int .i64 z))) hwi)<|.nil) (.cons rfl rfl<|.nil)⟩
 ·have h:(M.pure ()).wp (fun _=>True):=trivial;(iterate 5 refine g5 ?_);refine PWc.condF (congrArg (fun b=>some (PV.d (.v (.bool b)))) (decide_eq_false (by omega))) ?_;refine wZ ?_;exact⟨rfl,sP⟩
 ·(iterate 5 refine g5 ?_);refine wX ?_;cases h;exact⟨.inr rfl,2,6,_,_,rfl,rfl,rfl⟩
theorem vj(c1:List PT)(r0:List PT)(h:(Ye c1).wp (·=r0)):PRow prog 74 [.d (.sl (List.map PT.e c1))] 94 2 (List.map PT.e r0):=by
 refine PRow.intro (sl:=[(0,_)]) func74 rfl ntmps74 rfl rfl ?_;intro ctx hK;(iterate 2 refine g5 ?_);refine ws (aR 94 2 rfl) ?_;(iterate 4 refine g5 ?_);obtain⟨v2,hy3,h⟩:=zD h;refine PWl.mapN (Yu c1 v2 hy3) rfl call105 rfl rfl rfl rfl rfl (fun bs4 ck4 _=>?_);obtain⟨v5,hy6,h⟩:=zD h;refine PWl.frzM [4] hK (.cons rfl<|.nil) rfl<|ws (LR.rowN (Um v2 v5 hy6) rfl call104 rfl rfl rfl rfl)<|wy (tl:=[(0,_),(3,_),(4,_),(5,_)]) (to:=[(5,_)]) ?_;(iterate 2 refine g5 ?_);refine wX ?_;cases h;exact⟨.inr rfl,2,rfl,.inr ⟨5,_,rfl,(by simp),rfl⟩⟩
theorem Zi(s1_1:List RN)(s2_2:List RN)(r0:Bool)(h:(ya s1_1 s2_2).wp (·=r0)):PFun prog 124 [.d (.sl (List.map RN.e s1_1)),.d (.sl (List.map RN.e s2_2))] (.d (.v (.bool r0))):=by
 refine fI (sl:=[(0,_),(1,_)]) func124 rfl ntmps124 rfl rfl ?_;intro ctx hK;(iterate 13 refine g5 ?_);refine xD h rfl (fun _ h=>?_) (fun _ h=>?_)
 ·(iterate 4 refine g5 ?_);refine wX ?_;cases h;exact xT
 ·(iterate 8 refine g5 ?_);refine PWc.jnX (zF h) (fun(_:Unit) (_:Unit)=>⟨26,[],[]⟩) (fun h=>?_) ?_
  ·refine g5 ?_;refine wM (fun(v17:Int) (_:Unit)=>⟨26,[(0,.d (.sl (List.map RN.e s1_1))),(1,.d (.sl (List.map RN.e s2_2))),(12,.d (.v (.int .i64 (s1_1.length:Int)))),(13,.d (.v (.int .i64 v17)))],[]⟩) () h (sP) ?_;rintro N v17 _ h;(iterate 5 refine g5 ?_);refine xD h rfl (fun _ h=>?_) (fun _ h=>?_)
   ·(iterate 10 refine g5 ?_);(iterate 2 refine h5 ?_);obtain⟨x19,hy20,h⟩:=yE h;refine qs (fun _ U W=>iX (enc:=RN.e) (L:=s1_1) (y:=x19) underlying92 sizeOf117 U U hy20 (fun _=>rfl)) ?_;(iterate 3 refine h5 ?_);obtain⟨x21,hy22,h⟩:=yE h;refine qs (fun _ U W=>iX (enc:=RN.e) (L:=s2_2) (y:=x21) underlying92 sizeOf117 U U hy22 (fun _=>rfl)) ?_;refine h5 ?_;refine qs (fun _ U W=>LR.neqAgg U U rfl rfl eq117) ?_;refine h5 ?_;refine xD h rfl (fun _ h=>?_) (fun _ h=>?_)
    ·(iterate 4 refine g5 ?_);refine wX ?_;cases h;exact xT
    ·(iterate 5 refine g5 ?_);exact⟨(IntKind.i64.wrap (v17+1)),(),h,sP⟩
   ·refine wZ ?_;exact⟨(),(),h,sP⟩
  ·rintro _ _ h;(iterate 4 refine g5 ?_);refine wX ?_;cases h;exact xT
theorem yJa(x1:PT)(y2:PT)(r0:Bool)(h:(jw x1 y2).wp (·=r0)):PFun prog 123 [.agg (List.map .d (PT.e x1)),.agg (List.map .d (PT.e y2))] (.d (.v (.bool r0))):=by
 refine fI (sl:=[(0,_),(1,_)]) func123 rfl ntmps123 rfl rfl ?_;intro ctx hK;(iterate 7 refine g5 ?_);refine wJ (zF h) (fun(v3:Bool) (_:Unit)=>⟨17,[(4,.d (.v (.bool v3)))],[]⟩) (fun h=>?_) ?_
 ·(iterate 7 refine g5 ?_);refine xG (d:=10) h rfl (fun _ h=>?_) (fun _ h=>?_)
  ·(iterate 4 refine g5 ?_);obtain⟨v5,hy6,h⟩:=zD h;refine wt (cN (Zi x1.runs y2.runs v5 hy6) rfl call124 rfl rfl rfl rfl) ?_;(iterate 3 refine g5 ?_);exact⟨v5,(),h,sP⟩
  ·(iterate 8 refine g5 ?_);exact⟨false,(),h,sP⟩
 ·rintro v3 _ h;refine wX ?_;cases h;exact xT
theorem yy(s1_1:List PT)(s2_2:List PT)(r0:Bool)(h:(zZ s1_1 s2_2).wp (·=r0)):PFun prog 122 [.d (.sl (List.map PT.e s1_1)),.d (.sl (List.map PT.e s2_2)),.d (.v (.func (.func 123) #[] #[]))] (.d (.v (.bool r0))):=by
 refine fI (sl:=[(0,_),(1,_),(2,_)]) func122 rfl ntmps122 rfl rfl ?_;intro ctx hK;(iterate 13 refine g5 ?_);refine xD h rfl (fun _ h=>?_) (fun _ h=>?_)
 ·(iterate 4 refine g5 ?_);refine wX ?_;cases h;exact xT
 ·(iterate 8 refine g5 ?_);refine PWc.jnX (zF h) (fun(_:Unit) (_:Unit)=>⟨32,[],[]⟩) (fun h=>?_) ?_
  ·refine g5 ?_;refine wM (fun(v21:Int) (_:Unit)=>⟨32,[(1,.d (.sl (List.map PT.e s2_2))),(2,.d (.v (.func (.func 123) #[] #[]))),(15,.d (.sl (List.map PT.e s1_1))),(16,.d (.v (.int .i64 (s1_1.length:Int)))),(17,.d (.v (.int .i64 v21)))],[]⟩) () h (sP) ?_;rintro N v21 _ h;(iterate 5 refine g5 ?_);refine xD h rfl (fun _ h=>?_) (fun _ h=>?_)
   ·(iterate 6 refine g5 ?_);obtain⟨x23,hy24,h⟩:=yE h;refine ws (iX (enc:=PT.e) (L:=s1_1) (y:=x23) underlying30 sizeOf94 rfl rfl hy24 (fun _=>rfl)) ?_;(iterate 9 refine g5 ?_);obtain⟨x25,hy26,h⟩:=yE h;refine ws (iX (enc:=PT.e) (L:=s2_2) (y:=x25) underlying30 sizeOf94 rfl rfl hy26 (fun _=>rfl)) ?_;(iterate 9 refine g5 ?_);obtain⟨v27,hy28,h⟩:=zD h;refine xN (yJa x23 x25 v27 hy28) call123 ?_;(iterate 2 refine g5 ?_);refine xD h rfl (fun _ h=>?_) (fun _ h=>?_)
    ·(iterate 2 refine g5 ?_);refine wy (tl:=[]) (to:=[]) ?_;(iterate 2 refine g5 ?_);refine wX ?_;cases h;exact xT
    ·(iterate 2 refine g5 ?_);refine wy (tl:=[(1,_),(2,_),(15,_),(16,_),(17,_)]) (to:=[]) ?_;(iterate 3 refine g5 ?_);exact⟨(IntKind.i64.wrap (v21+1)),(),h,sP⟩
   ·refine wZ ?_;exact⟨(),(),h,sP⟩
  ·rintro _ _ h;(iterate 4 refine g5 ?_);refine wX ?_;cases h;exact xT
theorem uZa(a1:List PT)(b2:List PT)(r0:Bool)(h:(wKa a1 b2).wp (·=r0)):PFun prog 98 [.d (.sl (List.map PT.e a1)),.d (.sl (List.map PT.e b2))] (.d (.v (.bool r0))):=by
 refine fI (sl:=[(0,_),(1,_)]) func98 rfl ntmps98 rfl rfl ?_;intro ctx hK;(iterate 8 refine g5 ?_);obtain⟨v3,hy4,h⟩:=zD h;refine xN (yy a1 b2 v3 hy4) call122 ?_;(iterate 2 refine g5 ?_);refine wX ?_;cases h;exact xT
theorem xR(c1:List PT)(r0:Bool)(h:(xl c1).wp (·=r0)):PFun prog 67 [.d (.sl (List.map PT.e c1))] (.d (.v (.bool r0))):=by
 refine fI (sl:=[(0,_)]) func67 rfl ntmps67 rfl rfl ?_;intro ctx hK;(iterate 8 refine g5 ?_);obtain⟨v2,hy3,h⟩:=zD h;refine ws (LR.rowN (vj c1 v2 hy3) rfl call74 rfl rfl rfl rfl) ?_;obtain⟨v4,hy5,h⟩:=zD h;refine PWl.frz [5] hK (.cons rfl<|.nil) rfl (by simp) ?_;refine xN (uZa c1 v2 v4 hy5) call98 ?_;(iterate 2 refine g5 ?_);refine wX ?_;cases h;exact xT
theorem yKa(a1:List RN)(b2:List RN)(r0:List RN)(h:(VH a1 b2).wp (·=r0)):PRow prog 179 [.d (.sl (List.map RN.e a1)),.d (.sl (List.map RN.e b2))] 117 2 (List.map RN.e r0):=by
 refine PRow.intro (sl:=[(0,_),(1,_)]) func179 rfl ntmps179 rfl rfl ?_;intro ctx hK;(iterate 2 refine g5 ?_);refine ws (aR 117 2 rfl) ?_;(iterate 4 refine g5 ?_);obtain⟨v3,hy4,h⟩:=zD h;refine ws (LR.rowN (vM a1 v3 hy4) rfl call133 rfl rfl rfl rfl) ?_;refine g5 ?_;obtain⟨v5,hy6,h⟩:=zD h;refine ws (LR.rowN (vM b2 v5 hy6) rfl call133 rfl rfl rfl rfl) ?_;(iterate 5 refine g5 ?_);refine ws (aR 117 2 rfl) ?_;(iterate 2 refine g5 ?_);refine wJ (zF h) (fun(out7:List RN) (_:Unit)=>⟨61,[(5,.row 5 (out7.length))],[(5,.row 117 2 (List.map RN.e out7))]⟩) (fun h=>?_) ?_
 ·refine g5 ?_;refine wM (fun(⟨a53,b54,out55⟩:List RN×List RN×List RN) (_:Unit)=>⟨61,[(0,.d (.sl (List.map RN.e a53))),(1,.d (.sl (List.map RN.e b54))),(5,.row 5 (out55.length))],[(5,.row 117 2 (List.map RN.e out55))]⟩) () h (Sub.trans (Sub.frz [0,8] hK rfl (by simp) (AllRow.get (.cons rfl<|.cons rfl<|.nil)))<|Sub.trans (Sub.frz [1,10] hK rfl (by simp) (AllRow.get (.cons rfl<|.cons rfl<|.nil)))<|sP) ?_;rintro N ⟨a53,b54,out55⟩ _ h;(iterate 2 refine g5 ?_);refine wJ (zF h) (fun(v56:Bool) (_:Unit)=>⟨61,[(0,.d (.sl (List.map RN.e a53))),(1,.d (.sl (List.map RN.e b54))),(5,.row 5 (out55.length)),(18,.d (.v (.bool v56)))],[(5,.row 117 2 (List.map RN.e out55))]⟩) (fun h=>?_) ?_
  ·(iterate 5 refine g5 ?_);refine xG (d:=14) h rfl (fun _ h=>?_) (fun _ h=>?_)
   ·(iterate 5 refine g5 ?_);exact⟨(decide (0 < (b54.length:Int))),(),h,sP⟩
   ·(iterate 5 refine g5 ?_);exact⟨false,(),h,sP⟩
  ·rintro v56 _ h;refine xD h rfl (fun _ h=>?_) (fun _ h=>?_)
   ·(iterate 4 refine g5 ?_);refine wz (tl:=[(0,_),(1,_),(5,_)]) (to:=[(5,_)]) ?_;refine PWc.regionE [{ws:=[19]},{ws:=[20]},{ws:=[21]},{ws:=[22]},{ws:=[23]},{ws:=[24]},{ws:=[25]},{ws:=[26]},{ws:=[27]},{ws:=[28]},{ws:=[29]},{ws:=[30]},{ws:=[31]},{ws:=[32]},{ws:=[33]},{ws:=[34]},{ws:=[35]},{ws:=[36]},{ws:=[37]},⟨[6],[6],[],[6],[],[6],[],[]⟩,⟨[],[6],[6],[],[],[],[],[]⟩] (by kernel_rfl) (by kernel_rfl) rfl ?_;refine h5 ?_;obtain⟨x59,hy60,h⟩:=yE h;refine kp (fun _ U W=>iX (enc:=RN.e) (L:=a53) (y:=x59) underlying92 sizeOf117 U U hy60 (fun _=>rfl)) ?_;(iterate 3 refine h5 ?_);obtain⟨x61,hy62,h⟩:=yE h;refine kp (fun _ U W=>iX (enc:=RN.e) (L:=b54) (y:=x61) underlying92 sizeOf117 U U hy62 (fun _=>rfl)) ?_;(iterate 4 refine h5 ?_);obtain⟨x63,hy64,h⟩:=yE h;refine kp (fun _ U W=>iX (enc:=RN.e) (L:=a53) (y:=x63) underlying92 sizeOf117 U U hy64 (fun _=>rfl)) ?_;(iterate 3 refine h5 ?_);obtain⟨x65,hy66,h⟩:=yE h;refine kp (fun _ U W=>iX (enc:=RN.e) (L:=b54) (y:=x65) underlying92 sizeOf117 U U hy66 (fun _=>rfl)) ?_;(iterate 3 refine h5 ?_);refine kp (fun _ U W=>LR.build (ns:=[_,_]) VG rfl (evpE (fun a b=>U a b) rfl rfl) rfl) ?_;refine PQe.stepN (fun _ U W hf=>LR.allocZ (cs:=[_,_]) zeroValue117 rfl rfl rfl hf) rfl (.inl rfl) rfl ?_;refine ks (fun _ U W=>sB (ns:=[_,_]) sizeOf117 U U rfl rfl (W rfl rfl) rfl rfl)<|PQe.nil ?_;(iterate 2 refine g5 ?_);refine wy (tl:=[(0,_),(1,_),(5,_),(6,_)]) (to:=[(5,_),(6,_)]) ?_;(iterate 6 refine g5 ?_);refine wJ (zF h) (fun(out67:List RN) (_:Unit)=>⟨61,[(0,.d (.sl (List.map RN.e a53))),(1,.d (.sl (List.map RN.e b54))),(5,.row 5 (out67.length))],[(5,.row 117 2 (List.map RN.e out67))]⟩) (fun h=>?_) ?_
    ·refine xD h rfl (fun _ h=>?_) (fun _ h=>?_)
     ·(iterate 3 refine g5 ?_);refine ws (LR.buildSliceD [.tmp 44] vO rfl rfl (.cons rfl rfl rfl<|.nil) (by decide) (by decide)) ?_;obtain⟨hy69,h⟩:=yM h;refine ws (LR.appT (enc:=RN.e) (L:=out55) (R:=[(⟨(max x59.lo x61.lo),(min x63.hi x65.hi)⟩:RN)]) [5,43] vO underlying92 rfl rfl rfl (Src.slT (enc:=RN.e) (R:=[(⟨(max x59.lo x61.lo),(min x63.hi x65.hi)⟩:RN)]) rfl (fun _=>rfl)) (fun _=>rfl) hy69 rfl rfl) ?_;(iterate 2 refine g5 ?_);exact⟨(out55++[(⟨(max x59.lo x61.lo),(min x63.hi x65.hi)⟩:RN)]),(),h,sO rfl (.c2 rfl rfl rfl rfl<|.cons rfl (by first | rfl | (simp;done) | (congr 1;first | (simp;done) | (simp;omega) | omega))<|.nil) (.cons rfl rfl<|.nil)⟩
     ·refine g5 ?_;exact⟨out55,(),h,sP⟩
    ·rintro out67 _ h;(iterate 2 refine g5 ?_);refine h5 ?_;obtain⟨x70,hy71,h⟩:=yE h;refine qs (fun _ U W=>iX (enc:=RN.e) (L:=a53) (y:=x70) underlying92 sizeOf117 U U hy71 (fun _=>rfl)) ?_;(iterate 3 refine h5 ?_);obtain⟨x72,hy73,h⟩:=yE h;refine qs (fun _ U W=>iX (enc:=RN.e) (L:=b54) (y:=x72) underlying92 sizeOf117 U U hy73 (fun _=>rfl)) ?_;(iterate 4 refine h5 ?_);refine xD h rfl (fun _ h=>?_) (fun _ h=>?_)
     ·(iterate 2 refine g5 ?_);obtain⟨hy75,h⟩:=yM h;refine ws (LR.cutLT (enc:=RN.e) (L:=a53) underlying92 sizeOf117 rfl (fun _=>rfl) rfl hy75) ?_;(iterate 2 refine g5 ?_);exact⟨((List.drop (Int.toNat 1) (List.take (Int.toNat (a53.length:Int)) a53)),b54,out67),(),h,sP⟩
     ·(iterate 2 refine g5 ?_);obtain⟨hy76,h⟩:=yM h;refine ws (LR.cutLT (enc:=RN.e) (L:=b54) underlying92 sizeOf117 rfl (fun _=>rfl) rfl hy76) ?_;(iterate 2 refine g5 ?_);exact⟨(a53,(List.drop (Int.toNat 1) (List.take (Int.toNat (b54.length:Int)) b54)),out67),(),h,sP⟩
   ·refine wZ ?_;exact⟨out55,(),h,sP⟩
 ·rintro out7 _ h;(iterate 5 refine g5 ?_);refine wX ?_;cases h;exact⟨.inr rfl,4,rfl,.inr ⟨5,_,rfl,(by simp),rfl⟩⟩
theorem yLa(l1:List RN)(r0:List RN)(h:(VI l1).wp (·=r0)):PRow prog 180 [.d (.sl (List.map RN.e l1))] 117 2 (List.map RN.e r0):=by
 refine PRow.intro (sl:=[(0,_)]) func180 rfl ntmps180 rfl rfl ?_;intro ctx hK;(iterate 2 refine g5 ?_);refine ws (aR 117 2 rfl) ?_;(iterate 3 refine g5 ?_);refine ws (aR 117 2 rfl) ?_;(iterate 9 refine g5 ?_);obtain⟨v2,hy3,h⟩:=zD h;refine ws (LR.rowN (vM l1 v2 hy3) rfl call133 rfl rfl rfl rfl) ?_;(iterate 3 refine g5 ?_);refine wJ (zF h) (fun(⟨at4,out5⟩:Int×List RN) (_:Unit)=>⟨31,[(3,.row 3 (out5.length)),(4,.d (.v (.int .u64 at4)))],[(3,.row 117 2 (List.map RN.e out5))]⟩) (fun h=>?_) ?_
 ·refine g5 ?_;refine wM (fun(⟨at17,v18,out19⟩:Int×Int×List RN) (_:Unit)=>⟨31,[(3,.row 3 (out19.length)),(4,.d (.v (.int .u64 at17))),(8,.row 8 (v2.length)),(9,.d (.v (.int .i64 (v2.length:Int)))),(10,.d (.v (.int .i64 v18)))],[(3,.row 117 2 (List.map RN.e out19)),(8,.row 117 2 (List.map RN.e v2))]⟩) () h (sP) ?_;rintro N ⟨at17,v18,out19⟩ _ h;(iterate 5 refine g5 ?_);refine xD h rfl (fun _ h=>?_) (fun _ h=>?_)
  ·(iterate 5 refine g5 ?_);obtain⟨x21,hy22,h⟩:=yE h;refine ws (LR.idxRowT (L:=v2) (y:=x21) underlying92 sizeOf117 rfl rfl rfl hy22)<|ws (LR.loadRpT (enc:=RN.e) (L:=v2) (y:=x21) isAgg117 sizeOf117 rfl rfl hy22.2) ?_;(iterate 10 refine g5 ?_);refine ws (LR.build (ns:=[_,_]) VG rfl rfl rfl)<|ws (LR.buildSliceD [.tmp 19] vO rfl rfl (.cons rfl rfl rfl<|.nil) (by decide) (by decide)) ?_;obtain⟨hy23,h⟩:=yM h;refine ws (LR.appT (enc:=RN.e) (L:=out19) (R:=[(⟨at17,(IntKind.u64.wrap (x21.lo - 1))⟩:RN)]) [3,14] vO underlying92 rfl rfl rfl (Src.slT (enc:=RN.e) (R:=[(⟨at17,(IntKind.u64.wrap (x21.lo - 1))⟩:RN)]) rfl (fun _=>rfl)) (fun _=>rfl) hy23 rfl rfl) ?_;(iterate 6 refine g5 ?_);refine wy (tl:=[(3,_),(4,_),(8,_),(9,_),(10,_),(24,_)]) (to:=[(3,_),(8,_)]) ?_;(iterate 6 refine g5 ?_);exact⟨((IntKind.u64.wrap (x21.hi+1)),(IntKind.i64.wrap (v18+1)),(out19++[(⟨at17,(IntKind.u64.wrap (x21.lo - 1))⟩:RN)])),(),h,sO rfl (.cons rfl (by first | rfl | (simp;done) | (congr 1;first | (simp;done) | (simp;omega) | omega))<|.c4 rfl rfl rfl rfl rfl rfl rfl rfl<|.nil) (.c2 rfl rfl rfl rfl<|.nil)⟩
  ·refine wZ ?_;exact⟨(at17,out19),(),h,sP⟩
 ·rintro⟨at4,out5⟩ _ h;(iterate 4 refine g5 ?_);refine ws (LR.build (ns:=[_,_]) VG rfl rfl rfl)<|ws (LR.buildSliceD [.tmp 28] vO rfl rfl (.cons rfl rfl rfl<|.nil) (by decide) (by decide)) ?_;obtain⟨hy24,h⟩:=yM h;refine ws (LR.appT (enc:=RN.e) (L:=out5) (R:=[(⟨at4,281474976710655⟩:RN)]) [3,26] vO underlying92 rfl rfl rfl (Src.slT (enc:=RN.e) (R:=[(⟨at4,281474976710655⟩:RN)]) rfl (fun _=>rfl)) (fun _=>rfl) hy24 rfl rfl) ?_;(iterate 2 refine g5 ?_);refine wX ?_;cases h;exact⟨.inr rfl,2,rfl,.inr ⟨3,_,rfl,(by simp),rfl⟩⟩
theorem Qh(a1:List RN)(b2:List RN)(r0:List RN)(h:(YI a1 b2).wp (·=r0)):PRow prog 155 [.d (.sl (List.map RN.e a1)),.d (.sl (List.map RN.e b2))] 117 2 (List.map RN.e r0):=by
 refine PRow.intro (sl:=[(0,_),(1,_)]) func155 rfl ntmps155 rfl rfl ?_;intro ctx hK;(iterate 2 refine g5 ?_);refine ws (aR 117 2 rfl) ?_;(iterate 5 refine g5 ?_);obtain⟨v3,hy4,h⟩:=zD h;refine ws (LR.rowN (yLa b2 v3 hy4) rfl call180 rfl rfl rfl rfl) ?_;obtain⟨v5,hy6,h⟩:=zD h;refine PWl.frz [7] hK (.cons rfl<|.nil) rfl (by simp) ?_;refine ws (LR.rowN (yKa a1 v3 v5 hy6) rfl call179 rfl rfl rfl rfl)<|wy (tl:=[(0,_),(1,_),(5,_),(6,_),(7,_),(8,_)]) (to:=[(8,_)]) ?_;(iterate 2 refine g5 ?_);refine wX ?_;cases h;exact⟨.inr rfl,4,rfl,.inr ⟨8,_,rfl,(by simp),rfl⟩⟩
theorem XR(a1:List PT)(b2:List PT)(r0:List PT)(h:(vC a1 b2).wp (·=r0)):PRow prog 154 [.d (.sl (List.map PT.e a1)),.d (.sl (List.map PT.e b2)),.d (.v (.func (.func 155) #[] #[]))] 94 2 (List.map PT.e r0):=by
 refine PRow.intro (sl:=[(0,_),(1,_),(2,_)]) func154 rfl ntmps154 rfl rfl ?_;intro ctx hK;(iterate 2 refine g5 ?_);refine ws (aR 94 2 rfl) ?_;(iterate 4 refine g5 ?_);obtain⟨v3,hy4,h⟩:=zD h;refine PWl.mapN (Yu a1 v3 hy4) rfl call105 rfl rfl rfl rfl rfl (fun bs5 ck5 _=>?_);refine g5 ?_;obtain⟨v6,hy7,h⟩:=zD h;refine PWl.mapN (Yu b2 v6 hy7) rfl call105 rfl rfl rfl rfl rfl (fun bs8 ck8 _=>?_);(iterate 9 refine g5 ?_);refine wJ (zF h) (fun(v9:List (Int×List RN)) (_:Unit)=>⟨32,[(7,.mp 12)],[(12,.map [.u16] false (xX kI (eL RN.e) v9) bs5 ck5)]⟩) (fun h=>?_) ?_
 ·refine g5 ?_;refine wM (fun(⟨seen32,v33⟩:List Nat×(List (Int×List RN))) (_:Unit)=>⟨32,[(2,.d (.v (.func (.func 155) #[] #[]))),(7,.mp 12),(8,.mp 14),(16,.ref 16 0)],[(12,.map [.u16] false (xX kI (eL RN.e) v33) bs5 ck5),(14,.map [.u16] false (xX kI (eL RN.e) v6) bs8 ck8),(16,.iterO 12 bs5 ck5 seen32)]⟩) () h (sP) ?_;rintro N ⟨seen32,v33⟩ _ h;(iterate 2 refine g5 ?_);obtain⟨hy43,h⟩:=yM h;replace h:=iNxt h;refine PWl.nextO rfl rfl rfl (nxtD hy43) rfl (fun hy35=>?_) (fun j34 hy36 hy37=>?_)
  ·replace h:=h.1 (nxtA hy35);(iterate 3 refine g5 ?_);refine PWc.condF rfl<|wZ ?_;exact⟨v33,(),h,sP⟩
  ·replace h:=h.2 j34 (nxtB hy36) hy37;(iterate 3 refine g5 ?_);refine PWc.condT rfl ?_;(iterate 4 refine g5 ?_);obtain⟨kv38,hy39,h⟩:=yE h;refine ws (LR.entryO rfl rfl rfl (entGet hy39) rfl rfl) ?_;(iterate 12 refine g5 ?_);refine ws (LR.getO (eV:=(eL RN.e)) (zv:=([]:List RN)) (q:=kv38.1) (m:=v6) wJa underlying143 jv zeroValue92 (zRd1 (.slice none 0 0) rfl) rfl rfl rfl rfl rfl rfl) ?_;obtain⟨v40,hy41,h⟩:=zD h;refine ws (LR.rowN (Qh kv38.2 (AL.getZ v6 kv38.1 ([]:List RN)) v40 hy41) rfl call155 rfl rfl rfl rfl) ?_;obtain⟨hy42,h⟩:=yM h;refine PWl.frz [29] hK (.cons rfl<|.nil) rfl (by simp) ?_;refine ws (LR.setIn (eV:=(eL RN.e)) (q:=kv38.1) (v:=v40) (m:=v33) wJa underlying143 jv rfl rfl rfl rfl rfl rfl rfl (fun _=>rfl) hy42) ?_;refine g5 ?_;exact⟨((seen32++[j34]),(AL.set v33 kv38.1 v40)),(),h,sP⟩
 ·rintro v9 _ h;(iterate 3 refine g5 ?_);obtain⟨v44,hy45,h⟩:=zD h;refine PWl.frzM [7,30] hK (.cons rfl<|.cons rfl<|.nil) rfl<|ws (LR.rowN (Um v9 v44 hy45) rfl call104 rfl rfl rfl rfl) ?_;(iterate 2 refine g5 ?_);refine wX ?_;cases h;exact⟨.inr rfl,6,rfl,.inr ⟨31,_,rfl,(by simp),rfl⟩⟩
theorem yMa(a1:List PT)(b2:List PT)(r0:List PT)(h:(VJ a1 b2).wp (·=r0)):PRow prog 142 [.d (.sl (List.map PT.e a1)),.d (.sl (List.map PT.e b2))] 94 2 (List.map PT.e r0):=by
 refine PRow.intro (sl:=[(0,_),(1,_)]) func142 rfl ntmps142 rfl rfl ?_;intro ctx hK;(iterate 2 refine g5 ?_);refine ws (aR 94 2 rfl) ?_;(iterate 5 refine g5 ?_);obtain⟨v3,hy4,h⟩:=zD h;refine ws (LR.rowN (XR a1 b2 v3 hy4) rfl call154 rfl rfl rfl rfl)<|wy (tl:=[(0,_),(1,_),(5,_),(6,_),(7,_)]) (to:=[(7,_)]) ?_;(iterate 2 refine g5 ?_);refine wX ?_;cases h;exact⟨.inr rfl,4,rfl,.inr ⟨7,_,rfl,(by simp),rfl⟩⟩
theorem Qi(a1:List PT)(b2:List PT)(r0:Bool)(h:(Xs a1 b2).wp (·=r0)):PFun prog 125 [.d (.sl (List.map PT.e a1)),.d (.sl (List.map PT.e b2))] (.d (.v (.bool r0))):=by
 refine fI (sl:=[(0,_),(1,_)]) func125 rfl ntmps125 rfl rfl ?_;intro ctx hK;(iterate 8 refine g5 ?_);obtain⟨v3,hy4,h⟩:=zD h;refine ws (LR.rowN (yMa a1 b2 v3 hy4) rfl call142 rfl rfl rfl rfl) ?_;(iterate 4 refine g5 ?_);refine wX ?_;cases h;exact xT
theorem Wc(x1:RN)(n2:Int)(r0:Int)(h:(ZE x1 n2).wp (·=r0)):PFun prog 157 [.agg (List.map .d (RN.e x1)),.d (.v (.int .u64 n2))] (.d (.v (.int .i64 r0))):=by
 refine fI (sl:=[(0,_),(1,_)]) func157 rfl ntmps157 rfl rfl ?_;intro ctx hK;(iterate 10 refine g5 ?_);obtain⟨v3,hy4,h⟩:=zD h;refine xN (uH x1.hi n2 v3 hy4) call114 ?_;(iterate 2 refine g5 ?_);refine wX ?_;cases h;exact xT
theorem yV(x1:List RN)(target2:Int)(r0:Int×Bool)(h:(zS x1 target2).wp (·=r0)):PFun prog 156 [.d (.sl (List.map RN.e x1)),.d (.v (.int .u64 target2)),.d (.v (.func (.func 157) #[] #[]))] (.tup [.d (.v (.int .i64 r0.1)),.d (.v (.bool r0.2))]):=by
 refine fI (sl:=[(0,_),(1,_),(2,_)]) func156 rfl ntmps156 rfl rfl ?_;intro ctx hK;(iterate 18 refine g5 ?_);refine wJ (zF h) (fun(i3:Int) (_:Unit)=>⟨49,[(0,.d (.sl (List.map RN.e x1))),(1,.d (.v (.int .u64 target2))),(2,.d (.v (.func (.func 157) #[] #[]))),(8,.d (.v (.int .i64 (x1.length:Int)))),(9,.d (.v (.int .i64 i3)))],[]⟩) (fun h=>?_) ?_
 ·refine g5 ?_;refine wM (fun(⟨i18,j19⟩:Int×Int) (_:Unit)=>⟨49,[(0,.d (.sl (List.map RN.e x1))),(1,.d (.v (.int .u64 target2))),(2,.d (.v (.func (.func 157) #[] #[]))),(8,.d (.v (.int .i64 (x1.length:Int)))),(9,.d (.v (.int .i64 i18))),(10,.d (.v (.int .i64 j19)))],[]⟩) () h (sP) ?_;rintro N ⟨i18,j19⟩ _ h;(iterate 7 refine g5 ?_);refine xD h rfl (fun _ h=>?_) (fun _ h=>?_)
  ·(iterate 7 refine g5 ?_);refine ws (LR.convInt underlying156 (by rw[underlying3];rfl) rfl rfl) ?_;refine g5 ?_;refine ws (LR.convInt underlying3 (by rw[underlying156];rfl) rfl rfl) ?_;(iterate 7 refine g5 ?_);obtain⟨x21,hy22,h⟩:=yE h;refine ws (iX (enc:=RN.e) (L:=x1) (y:=x21) underlying92 sizeOf117 rfl rfl hy22 (fun _=>rfl)) ?_;refine g5 ?_;refine wy (tl:=[(0,_),(1,_),(2,_),(8,_),(9,_),(10,_),(11,_),(24,_),(28,_)]) (to:=[]) ?_;refine g5 ?_;obtain⟨v23,hy24,h⟩:=zD h;refine xN (Wc x21 target2 v23 hy24) call157 ?_;(iterate 2 refine g5 ?_);refine xD h rfl (fun _ h=>?_) (fun _ h=>?_)
   ·(iterate 5 refine g5 ?_);exact⟨((IntKind.i64.wrap (((IntKind.i64.wrap ((Int.fdiv ((IntKind.u64.wrap (IntKind.i64.wrap (i18+j19)))) (2 ^ 1)))))+1)),j19),(),h,sP⟩
   ·(iterate 4 refine g5 ?_);exact⟨(i18,(IntKind.i64.wrap ((Int.fdiv ((IntKind.u64.wrap (IntKind.i64.wrap (i18+j19)))) (2 ^ 1))))),(),h,sP⟩
  ·refine wZ ?_;exact⟨i18,(),h,sP⟩
 ·rintro i3 _ h;refine g5 ?_;refine wJ (zF h) (fun(v26:Bool) (_:Unit)=>⟨49,[(6,.d (.v (.int .i64 i3))),(7,.d (.v (.bool v26)))],[]⟩) (fun h=>?_) ?_
  ·(iterate 6 refine g5 ?_);refine xG (d:=39) h rfl (fun _ h=>?_) (fun _ h=>?_)
   ·(iterate 3 refine g5 ?_);obtain⟨x28,hy29,h⟩:=yE h;refine wt (iX (enc:=RN.e) (L:=x1) (y:=x28) underlying92 sizeOf117 rfl rfl hy29 (fun _=>rfl)) ?_;(iterate 2 refine g5 ?_);obtain⟨v30,hy31,h⟩:=zD h;refine wt (cN (Wc x28 target2 v30 hy31) rfl call157 rfl rfl rfl rfl) ?_;(iterate 3 refine g5 ?_);refine wy (tl:=[(6,_),(48,_)]) (to:=[]) ?_;(iterate 2 refine g5 ?_);exact⟨(decide (v30=0)),(),h,sP⟩
   ·(iterate 10 refine g5 ?_);refine wy (tl:=[(6,_),(48,_)]) (to:=[]) ?_;(iterate 2 refine g5 ?_);exact⟨false,(),h,sP⟩
  ·rintro v26 _ h;refine wX ?_;cases h;exact⟨.inr rfl,_,.cons (.tmp rfl rfl)<|.cons (.tmp rfl rfl)<|.nil,rfl⟩
theorem xSa(l1:List RN)(n2:Int)(r0:Bool)(h:(jC l1 n2).wp (·=r0)):PFun prog 143 [.d (.sl (List.map RN.e l1)),.d (.v (.int .u64 n2))] (.d (.v (.bool r0))):=by
 refine fI (sl:=[(0,_),(1,_)]) func143 rfl ntmps143 rfl rfl ?_;intro ctx hK;(iterate 7 refine g5 ?_);obtain⟨v3,hy4,h⟩:=zD h;refine ws (LR.rowN (vM l1 v3 hy4) rfl call133 rfl rfl rfl rfl) ?_;(iterate 6 refine g5 ?_);obtain⟨v5,hy6,h⟩:=zD h;refine PWl.frz [0,8,10] hK (.cons rfl<|.cons rfl<|.cons rfl<|.nil) rfl (by simp) ?_;refine xN (yV v3 n2 v5 hy6) call156 ?_;(iterate 7 refine g5 ?_);refine wJ (zF h) (fun(v7:Bool) (_:Unit)=>⟨28,[(4,.d (.v (.bool v7)))],[]⟩) (fun h=>?_) ?_
 ·(iterate 6 refine g5 ?_);refine xG (d:=19) h rfl (fun _ h=>?_) (fun _ h=>?_)
  ·refine g5 ?_;refine wy (tl:=[(1,_),(4,_),(5,_),(19,_),(20,_)]) (to:=[]) ?_;refine g5 ?_;obtain⟨x9,hy10,h⟩:=yE h;refine wt (iX (enc:=RN.e) (L:=v3) (y:=x9) underlying92 sizeOf117 rfl rfl hy10 (fun _=>rfl)) ?_;(iterate 7 refine g5 ?_);exact⟨(decide (x9.lo<=n2)),(),h,sP⟩
  ·refine g5 ?_;refine wy (tl:=[(1,_),(4,_),(5,_),(19,_),(20,_)]) (to:=[]) ?_;(iterate 9 refine g5 ?_);exact⟨false,(),h,sP⟩
 ·rintro v7 _ h;refine wX ?_;cases h;exact xT
theorem xTa(c1:List PT)(dev2:Int)(r0:List RN)(h:(jD c1 dev2).wp (·=r0)):PRow prog 144 [.d (.sl (List.map PT.e c1)),.d (.v (.int .u16 dev2))] 117 2 (List.map RN.e r0):=by
 refine PRow.intro (sl:=[(0,_),(1,_)]) func144 rfl ntmps144 rfl rfl ?_;intro ctx hK;(iterate 2 refine g5 ?_);refine ws (aR 117 2 rfl) ?_;(iterate 4 refine g5 ?_);obtain⟨v3,hy4,h⟩:=zD h;refine PWl.mapN (Yu c1 v3 hy4) rfl call105 rfl rfl rfl rfl rfl (fun bs5 ck5 _=>?_);refine g5 ?_;refine ws (LR.getO (eV:=(eL RN.e)) (zv:=([]:List RN)) (q:=dev2) (m:=v3) wJa underlying143 jv zeroValue92 (zRd1 (.slice none 0 0) rfl) rfl rfl rfl rfl rfl rfl) ?_;obtain⟨v6,hy7,h⟩:=zD h;refine ws (LR.rowN (vM (AL.getZ v3 dev2 ([]:List RN)) v6 hy7) rfl call133 rfl rfl rfl rfl)<|wy (tl:=[(0,_),(1,_),(5,_),(6,_),(7,_),(8,_),(9,_)]) (to:=[(6,_),(9,_)]) ?_;(iterate 2 refine g5 ?_);refine wX ?_;cases h;exact⟨.inr rfl,4,rfl,.inr ⟨9,_,rfl,(by simp),rfl⟩⟩
theorem qh(c1:List PT)(d2:DT)(r0:Bool)(h:(UH c1 d2).wp (·=r0)):PFun prog 126 [.d (.sl (List.map PT.e c1)),.agg (List.map .d (DT.e d2))] (.d (.v (.bool r0))):=by
 refine fI (sl:=[(0,_),(1,_)]) func126 rfl ntmps126 rfl rfl ?_;intro ctx hK;(iterate 6 refine g5 ?_);refine wJ (zF h) (fun(v3:Bool) (_:Unit)=>⟨17,[(4,.d (.v (.bool v3)))],[]⟩) (fun h=>?_) ?_
 ·refine g5 ?_;(iterate 4 refine h5 ?_);refine xQ (d:=8) h rfl (fun _ h=>?_) (fun _ h=>?_)
  ·(iterate 3 refine h5 ?_);obtain⟨v5,hy6,h⟩:=zD h;refine qt (fun _ U W=>cN (PRow.fun (xTa c1 d2.dev v5 hy6)) U call144 (xS (fun a b=>U a b) rfl rfl) rfl rfl rfl) ?_;(iterate 2 refine h5 ?_);obtain⟨v7,hy8,h⟩:=zD h;refine qt (fun _ U W=>cN (xSa v5 d2.n v7 hy8) U call143 (xS (fun a b=>U a b) rfl rfl) rfl rfl rfl) ?_;(iterate 3 refine h5 ?_);exact⟨v7,(),h,sP⟩
  ·(iterate 10 refine h5 ?_);exact⟨false,(),h,sP⟩
 ·rintro v3 _ h;refine wX ?_;cases h;exact xT
theorem Zj(s1:List DT)(v2:DT)(r0:Int)(h:(xM s1 v2).wp (·=r0)):PFun prog 198 [.d (.sl (List.map DT.e s1)),.agg (List.map .d (DT.e v2))] (.d (.v (.int .i64 r0))):=by
 refine fI (sl:=[(0,_),(1,_)]) func198 rfl ntmps198 rfl rfl ?_;intro ctx hK;(iterate 12 refine g5 ?_);refine PWc.jnX (zF h) (fun(_:Unit) (_:Unit)=>⟨19,[],[]⟩) (fun h=>?_) ?_
 ·refine g5 ?_;refine wM (fun(v12:Int) (_:Unit)=>⟨19,[(0,.d (.sl (List.map DT.e s1))),(3,.ref 3 0),(7,.d (.v (.int .i64 (s1.length:Int)))),(8,.d (.v (.int .i64 v12)))],[(3,.cells 25 [.d (.v (.int .u16 v2.dev)),.d (.v (.int .u64 v2.n))])]⟩) () h (sP) ?_;rintro N v12 _ h;(iterate 5 refine g5 ?_);refine xD h rfl (fun _ h=>?_) (fun _ h=>?_)
  ·(iterate 10 refine g5 ?_);(iterate 3 refine h5 ?_);obtain⟨x14,hy15,h⟩:=yE h;refine qs (fun _ U W=>iX (enc:=DT.e) (L:=s1) (y:=x14) underlying26 sizeOf25 U U hy15 (fun _=>rfl)) ?_;refine h5 ?_;refine qs (fun _ U W=>LR.eqlAgg U U rfl rfl uBa) ?_;refine h5 ?_;refine xD h rfl (fun _ h=>?_) (fun _ h=>?_)
   ·(iterate 5 refine g5 ?_);refine wX ?_;cases h;exact xT
   ·(iterate 5 refine g5 ?_);exact⟨(IntKind.i64.wrap (v12+1)),(),h,sP⟩
  ·refine wZ ?_;exact⟨(),(),h,sP⟩
 ·rintro _ _ h;(iterate 4 refine g5 ?_);refine wX ?_;cases h;exact xT
theorem uR(s1:List DT)(v2:DT)(r0:Bool)(h:(yl s1 v2).wp (·=r0)):PFun prog 181 [.d (.sl (List.map DT.e s1)),.agg (List.map .d (DT.e v2))] (.d (.v (.bool r0))):=by
 refine fI (sl:=[(0,_),(1,_)]) func181 rfl ntmps181 rfl rfl ?_;intro ctx hK;(iterate 9 refine g5 ?_);obtain⟨v3,hy4,h⟩:=zD h;refine xN (Zj s1 v2 v3 hy4) call198 ?_;(iterate 3 refine g5 ?_);refine wX ?_;cases h;exact xT
theorem vRa(l1:List DT)(d2:DT)(r0:Bool)(h:(QV l1 d2).wp (·=r0)):PFun prog 158 [.d (.sl (List.map DT.e l1)),.agg (List.map .d (DT.e d2))] (.d (.v (.bool r0))):=by
 refine fI (sl:=[(0,_),(1,_)]) func158 rfl ntmps158 rfl rfl ?_;intro ctx hK;(iterate 9 refine g5 ?_);obtain⟨v3,hy4,h⟩:=zD h;refine xN (uR l1 d2 v3 hy4) call181 ?_;(iterate 2 refine g5 ?_);refine wX ?_;cases h;exact xT
end Go.Proofs

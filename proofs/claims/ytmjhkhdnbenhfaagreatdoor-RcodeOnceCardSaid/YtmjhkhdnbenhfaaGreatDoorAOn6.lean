/- Side texts. -/
import Derived.Test.YtmjhkhdnbenhfaaGreatDoorAOn2
import Derived.Test.YtmjhkhdnbenhfaaGreatDoorAOn3
import Derived.Test.YtmjhkhdnbenhfaaGreatDoorAOn4
import Derived.Test.YtmjhkhdnbenhfaaGreatDoorAOn5
set_option linter.unusedVariables false
set_option linter.unusedSimpArgs false
namespace Go.Ep
open Go.RowKit
section
variable{ctx:Ctx}{s:PState}
theorem RelG.obj{g:zb}{a:Act}{w:World}(h1:RelG ctx g s a w){id:Nat}{o o':Ob}(hl:look s.objs id=some o)(hob:ObRd w g (zk ctx g s.objs) id o'):RelG ctx g { s with objs:=yD id o' s.objs } a w:=by
 have hF:∀ b,zk ctx g s.objs b->zk ctx g (yD id o' s.objs) b:=fun b hb=>⟨hb.1,fun i o2 n ho hgi=>by
  rw[zC] at ho
  by_cases ei:i=id
  ·subst ei;exact hb.2 i _ n hl hgi
  ·rw[if_neg ei] at ho;exact hb.2 i o2 n ho hgi⟩
 have hst:yR w w (zk ctx g s.objs):=⟨Nat.le_refl _,fun _ _ _=>rfl⟩
 have hlk:∀ i o2,look (yD id o' s.objs) i=some o2->∃ o3,look s.objs i=some o3:=fun i o2 ho=>by
  rw[zC] at ho
  by_cases ei:i=id
  ·subst ei;exact⟨_,hl⟩
  ·rw[if_neg ei] at ho;exact⟨_,ho⟩
 refine⟨h1.defers,h1.size,fun i p hp=>(h1.slots i p hp).keep hst (fun b hb _=>hF b hb) (fun _ _=>rfl),fun i o2 ho=>?_,fun i i2 o2 o3 b n m ho ho2 hgi hgi2=>?_,fun i o2 b n ho hgi=>?_,h1.os,h1.tape,h1.output,h1.grows,h1.keep⟩
 ·rw[zC] at ho
  by_cases ei:i=id
  ·subst ei;rw[if_pos rfl] at ho
   cases ho
   exact hob.keep hst (fun b hb _=>hF b hb) (fun _ _ _=>rfl) rfl (fun _ _=>rfl)
  ·rw[if_neg ei] at ho;exact(h1.objs i o2 ho).keep hst (fun b hb _=>hF b hb) (fun _ _ _=>rfl) rfl (fun _ _=>rfl)
 ·obtain⟨o4,e4⟩:=hlk i o2 ho;obtain⟨o5,e5⟩:=hlk i2 o3 ho2;exact h1.inj i i2 o4 o5 b n m e4 e5 hgi hgi2
 ·obtain⟨o4,e4⟩:=hlk i o2 ho;exact h1.own i o4 b n e4 hgi
variable{id:Nat}{nl:Bool}{ks:List IntKind}{ag:Bool}{m:List (List Int×List DV)}{bs:List Nat}{ck:Nat}
theorem Sub.nToH(hl:look s.objs id=some (.mapN nl ks ag m bs ck)):Sub ctx s { s with objs:=yD id (.mapH nl ks ag m) s.objs }:=
 Sub.obj hl fun w g S h=>by
  cases h with
  | mapNil _ _ _ h=>exact .mapHNil _ _ h
  | mapN _ _ _ _ _ blk n es h hh hm=>exact .mapH _ _ _ _ _ blk n es h hh hm
theorem Sub.toH(hl:look s.objs id=some (.map ks ag m bs ck)):Sub ctx s { s with objs:=yD id (.mapH false ks ag m) s.objs }:=
 Sub.obj hl fun w g S h=>by
  cases h with
  | map _ _ _ _ _ blk n es h hh hm=>exact .mapH _ _ _ _ _ blk n es h hh hm
theorem Sub.hT(hl:look s.objs id=some (.mapH nl ks ag m))(hn:nl=true):Sub ctx s { s with objs:=yD id (.mapN true ks ag m [] 0) s.objs }:=
 Sub.obj hl fun w g S h=>by
  subst hn
  cases h with
  | mapHNil _ _ h=>exact .mapNil _ _ _ h
theorem openH(hl:look s.objs id=some (.mapH nl ks ag m)){a:Act}{w:World}(hr:Rel ctx s a w):∃ bs ck,Rel ctx { s with objs:=yD id (.mapN nl ks ag m bs ck) s.objs } a w:=by
 obtain⟨g,hg⟩:=hr;have h:=hg.objs id _ hl
 cases h with
 | mapHNil _ _ h=>exact⟨[],0,g,hg.obj hl (.mapNil _ _ _ h)⟩
 | mapH _ _ _ bs ck blk n es h hh hm=>exact⟨bs,ck,g,hg.obj hl (.mapN _ _ _ _ _ blk n es h hh hm)⟩
variable{P:Program}{Q:PQ}
theorem PWc.openH{c:Code}(hl:look s.objs id=some (.mapH nl ks ag m))(h:∀ bs ck,PWc P ctx c Q { s with objs:=yD id (.mapN nl ks ag m bs ck) s.objs }):PWc P ctx c Q s:=fun a w hr=>by
 obtain⟨bs,ck,h2⟩:=Go.Ep.openH hl hr;exact h bs ck a w h2
theorem Jk(id:Nat)(o o':Ob)(l:List (Nat×Ob))(i:Nat):look (yD id o (yD id o' l)) i=look (yD id o l) i:=by
 rw[zC,zC,zC]
 by_cases h:i=id <;> simp[h]
theorem Sub.same{t:PState}(hn:s.n=t.n)(hs:s.sl=t.sl)(ho:∀ i,look s.objs i=look t.objs i):Sub ctx s t:=
 Sub.drop hn (fun i p hp=>by rw[YI] at hp ⊢;rw[hn,hs];exact hp) (fun i o h=>by rw[ho];exact h)
theorem PWc.hF{c:Code}(hl:look s.objs id=some (.mapH nl ks ag m))(hn:nl=false)(h:∀ bs ck,PWc P ctx c Q { s with objs:=yD id (.map ks ag m bs ck) s.objs }):PWc P ctx c Q s:=
 PWc.openH hl fun bs ck=>PWc.sub (Sub.mapF (id:=id) (by show look (yD id _ _) id=_;rw[zC,if_pos rfl]) hn) (PWc.sub (Sub.same (t:={ s with objs:=yD id (.map ks ag m bs ck) s.objs }) rfl rfl fun i=>by
  show look (yD id _ (yD id _ _)) i=look (yD id _ _) i;rw[Jk]) (h bs ck))
theorem Local.openH{o:Oper}{t:PState}(hl:look s.objs id=some (.mapH nl ks ag m))(h:∀ bs ck,Local P ctx o { s with objs:=yD id (.mapN nl ks ag m bs ck) s.objs } t):Local P ctx o s t:=fun a w hr K Qx hK=>by
 obtain⟨bs,ck,h2⟩:=Go.Ep.openH hl hr;exact h bs ck a w h2 K Qx hK
theorem closeP{dst:Option Nat}{p:PV}{m':List (List Int×List DV)}(hl:look s.objs id=some (.mapH nl ks ag m')):Sub ctx (({ s with objs:=yD id (.mapN nl ks ag m' bs ck) s.objs }:PState).putD dst p) (s.putD dst p):=by
 refine Sub.trans (Sub.nToH (id:=id) (nl:=nl) (ks:=ks) (ag:=ag) (m:=m') (bs:=bs) (ck:=ck) ?_) (Sub.same ?_ ?_ fun i=>?_)
 ·rw[yb];show look (yD id _ _) id=_;rw[zC,if_pos rfl]
 ·cases dst <;> rfl
 ·cases dst <;> rfl
 ·rw[yb];show look (yD id _ _) i=_;rw[yb];show look (yD id _ (yD id _ _)) i=_;rw[Jk,zC]
  by_cases h:i=id
  ·rw[if_pos h,h,hl]
  ·rw[if_neg h]
theorem ev_objs{x:Operand}(l:List (Nat×Ob)):({ s with objs:=l }:PState).ev x=s.ev x:=by cases x <;> rfl
end
section
variable{P:Program}{ctx:Ctx}{Q:PQ}{s:PState}
variable{dst:Option Tmp}{ty:TypeId}{pos:String}{after:Array Edge}{gd:Option (Nat×Bool)}
variable{κ ν:Type}[DecidableEq κ]{eK:κ->List Int}{eV:ν->List DV}{m:List (κ×ν)}{q:κ}{zv:ν}(inj:∀ a b,eK a=eK b->a=b)
variable{x kx:Operand}{t kt et:TypeId}{ks:List IntKind}{ag:Bool}{z:Value}{p kp:PV}{id:Nat}{nl:Bool}{bs:List Nat}{ck:Nat}
section
variable(hu:P.underlying t=some (.map kt et))(K:KeyOK P kt ks)(hz:∀ w,(zeroValue et).run P w=.ok z w)(hzr:∀ (w:World) (g:zb) (S:Nat->Prop),Rd w g S (elP ag (eV zv)) z)(hk:s.ev kx=some kp)(hkp:kp=yoa ks (eK q))(hn:(eK q).length=ks.length)(hp:elP ag (eV (AL.getZ m q zv))=p)
include inj hu K hz hzr hk hkp hn hp
end
theorem LR.eqlH{mm:List (List Int×List DV)}{t t' kt et:TypeId}(hu:P.underlying t=some (.map kt et))(hx:s.ev x=some (.mp id))(hl:look s.objs id=some (.mapH nl ks ag mm)) :
  Local P ctx ⟨dst,.binOp .eql t x (.const (.map none)) t',ty,pos,after,gd⟩ s (s.putD dst (.d (.v (.bool nl)))):=
 Local.openH hl fun bs ck=>(LR.eqlMapN hu (by rw[ev_objs];exact hx) (by show look (yD id _ _) id=_;rw[zC,if_pos rfl])).post (closeP hl)
end
inductive JCs (nm:List Nat):List PV->List PV->Prop
 | nil:JCs nm [] []
 | keep {p:PV} {cs cs':List PV} (h:p.named nm=true) (t:JCs nm cs cs'):JCs nm (p::cs) (p::cs')
 | junk {p:PV} {cs cs':List PV} (t:JCs nm cs cs'):JCs nm (p::cs) (.junk::cs')
inductive JOb (nm:List Nat):Ob->Ob->Prop
 | same {o:Ob} (h:o.named nm=true):JOb nm o o
 | cells {T:TypeId} {cs cs':List PV} (h:JCs nm cs cs'):JOb nm (.cells T cs) (.cells T cs')
inductive JObs (nm:List Nat):List (Nat×Ob)->List (Nat×Ob)->Prop
 | nil:JObs nm [] []
 | cons {k:Nat} {o o':Ob} {F F':List (Nat×Ob)} (h:JOb nm o o') (t:JObs nm F F'):JObs nm ((k,o)::F) ((k,o')::F')
theorem JCs.len{nm:List Nat}{cs cs':List PV}(h:JCs nm cs cs'):cs'.length=cs.length:=by
 induction h with
 | nil=>rfl
 | keep _ _ ih=>simp[ih]
 | junk _ ih=>simp[ih]
theorem JCs.get{nm:List Nat}{cs cs':List PV}(h:JCs nm cs cs'):∀ (i:Nat) (p:PV),cs'[i]?=some p->p=.junk\/cs[i]?=some p:=by
 induction h with
 | nil=>intro i p h;simp at h
 | keep _ _ ih=>
  intro i p h
  cases i with
  | zero=>exact .inr (by simpa using h)
  | succ i=>simpa using ih i p (by simpa using h)
 | junk _ ih=>
  intro i p h
  cases i with
  | zero=>exact .inl (by simpa using h.symm)
  | succ i=>simpa using ih i p (by simpa using h)
theorem JCs.named{nm:List Nat}{cs cs':List PV}(h:JCs nm cs cs'):PV.named.namedL nm cs'=true:=by
 induction h with
 | nil=>rfl
 | keep h _ ih=>simp only[PV.named.namedL,h,ih,Bool.and_self]
 | junk _ ih=>simp only[PV.named.namedL,PV.named,ih,Bool.and_self]
theorem JOb.named{nm:List Nat}{o o':Ob}(h:JOb nm o o'):o'.named nm=true:=by
 cases h with
 | same h=>exact h
 | cells h=>exact h.named
theorem JOb.rd{nm:List Nat}{o o':Ob}(h:JOb nm o o'){w:World}{g:zb}{S:Nat->Prop}{id:Nat}(hr:ObRd w g S id o):ObRd w g S id o':=by
 cases h with
 | same=>exact hr
 | cells h=>
  cases hr with
  | cells _ _ blk n us hgi hh hl hr' h1=>
   refine .cells _ _ blk n us hgi hh (h.len.trans hl) (fun i p u hp hu=>?_) h1;rcases h.get i p hp with rfl | h2
   ·exact .junk u
   ·exact hr' i p u h2 hu
theorem JObs.look{nm:List Nat}{F F':List (Nat×Ob)}(h:JObs nm F F'):∀ (id:Nat) (o':Ob),Go.Ep.look F' id=some o'->∃ o,Go.Ep.look F id=some o/\JOb nm o o':=by
 induction h with
 | nil=>intro id o' h;simp[Go.Ep.look] at h
 | cons h _ ih=>
  intro id o' hl;simp only[Go.Ep.look] at hl ⊢
  split at hl
  ·rename_i e;cases hl;exact⟨_,by rw[if_pos e],h⟩
  ·rename_i e;rw[if_neg e];exact ih id o' hl
theorem xNa{l:List (Nat×Ob)}{i:Nat}(h:i∉l.map (·.1)):look l i=none:=by
 cases hl:look l i with
 | none=>rfl
 | some o=>exact absurd (yI hl) h
theorem OwnB.app{g:zb}{a b:List (Nat×Ob)}{k:Nat}(h:OwnB g (a++b) k):OwnB g a k\/OwnB g b k:=by
 obtain⟨id,o,n,h1,h2⟩:=h;rw[wW] at h1
 cases hl:look a id with
 | none=>rw[hl,Option.none_or] at h1;exact .inr ⟨id,o,n,h1,h2⟩
 | some q=>rw[hl,Option.some_or] at h1;exact .inl ⟨id,q,n,hl,h2⟩
theorem PObj.frame{G:Type}{P:Program}{f:FuncId}{ps:List PV}{os:List (Nat×Ob)}{pins ks:List Nat}{r:PV}{os':G->List (Nat×Ob)}(F F':List (Nat×Ob))(hc:PObj P f ps os pins r os')
  (hks:∀ gh,(os' gh).map (·.1)=ks) (hcl:∀ gh,(os' gh).all (fun x=>x.2.named ks)=true) (hr:r.named ks=true) (hd:((F.map (·.1)).all fun k=>!inL (os.map (·.1)) k&&!inL ks k)=true) (hj:JObs (pins++F.map (·.1)) F F') :
  PObj P f ps (os++F) (pins++F.map (·.1)) r (fun gh=>os' gh++F'):=by
 intro w g S vs hlen hreal hobs hdis;have hd1:∀ k∈F.map (·.1),k∉os.map (·.1)/\k∉ks:=fun k hk=>by
  have h:=List.all_eq_true.1 hd k hk;rw[Bool.and_eq_true,Bool.not_eq_true',Bool.not_eq_true',YR,YR] at h;exact h
 have Yw:∀ {id o},look F id=some o->look (os++F) id=some o:=fun {id o} h=>by
  rw[wW,xNa (hd1 id (yI h)).1,Option.none_or];exact h
 have ownL:∀ {b},OwnB g os b->OwnB g (os++F) b:=fun⟨id,o,n,h1,h2⟩=>⟨id,o,n,xu h1,h2⟩
 have ownR:∀ {b},OwnB g F b->OwnB g (os++F) b:=fun⟨id,o,n,h1,h2⟩=>⟨id,o,n,Yw h1,h2⟩
 have hnF:∀ {id o b n},look F id=some o->g id=some (b,n)->¬ OwnB g os b:=fun {id o b n} h1 h2 ⟨id2,o2,n2,h3,h4⟩=>by
  have:=hobs.inj id id2 o o2 b n n2 (Yw h1) (xu h3) h2 h4;subst this;exact(hd1 id (yI h1)).1 (yI h3)
 refine(hc w g S vs hlen hreal ⟨fun id o h=>hobs.rd id o (xu h),fun i j oi oj b n m hi hj=>hobs.inj i j oi oj b n m (xu hi) (xu hj),fun id o b n h=>hobs.lt id o b n (xu h)⟩ (fun b hb h=>hdis b hb (ownL h))).mono fun e w' ⟨u,g',gh,he,hpost⟩=>?_
 have hks':=hks gh;have hcl':=hcl gh
 let G':zb:=fun j=>if inL (F.map (·.1)) j then g j else g' j
 refine⟨u,G',gh,he,?_⟩;show zIa w g S (os++F) (pins++F.map (·.1)) r (os' gh++F') w' G' u
 generalize os' gh=os1 at hpost hks' hcl' ⊢
 have gF:∀ {j},j∈F.map (·.1)->G' j=g j:=fun {j} h=>by simp only[G',za.2 h,if_true]
 have gN:∀ {j},j∉F.map (·.1)->G' j=g' j:=fun {j} h=>by simp only[G',YR.2 h,Bool.false_eq_true,if_false]
 have gK:∀ {j},j∈ks->G' j=g' j:=fun {j} h=>gN fun h2=>(hd1 j h2).2 h
 have gP:∀ {j},j∈pins++F.map (·.1)->G' j=g j:=fun {j} h=>by
  by_cases hf:j∈F.map (·.1)
  ·exact gF hf
  ·rw[gN hf];exact hpost.pin j ((List.mem_append.1 h).resolve_right hf)
 have split:∀ {id o},look (os1++F') id=some o->(look os1 id=some o/\id∈ks)\/∃ o0,look F id=some o0/\JOb (pins++F.map (·.1)) o0 o:=fun {id o} h=>by
  rw[wW] at h
  cases hl:look os1 id with
  | none=>rw[hl,Option.none_or] at h;exact .inr (hj.look id o h)
  | some q=>rw[hl,Option.some_or] at h;cases h;exact .inl ⟨rfl,hks'▸yI hl⟩
 have hA:∀ b,VV w g S os g' os1 b->VV w g S (os++F) G' (os1++F') b:=fun b ⟨h1,h2⟩=>⟨by
  rcases h1 with h1 | h1 | h1
  ·exact .inl h1
  ·exact .inr (.inl (ownL h1))
  ·exact .inr (.inr h1),fun⟨id,o,n,hl,hgi⟩=>by
  rcases split hl with⟨h3,h4⟩ | ⟨o0,h3,h4⟩
  ·rw[gK h4] at hgi;exact h2 ⟨id,o,n,h3,hgi⟩
  ·rw[gF (yI h3)] at hgi;rcases h1 with h1 | h1 | h1
   ·exact hdis b h1 ⟨id,o0,n,Yw h3,hgi⟩
   ·exact hnF h3 hgi h1
   ·have:=hobs.lt id o0 b n (Yw h3) hgi;omega⟩
 have hS:∀ b,S b->b < w.heap.size->VV w g S (os++F) G' (os1++F') b:=fun b hb hlt=>⟨.inl hb,fun⟨id,o,n,hl,hgi⟩=>by
  rcases split hl with⟨h3,h4⟩ | ⟨o0,h3,h4⟩
  ·rw[gK h4] at hgi;rcases hpost.own b ⟨id,o,n,h3,hgi⟩ with h5 | h5
   ·exact hdis b hb (ownL h5)
   ·omega
  ·rw[gF (yI h3)] at hgi;exact hdis b hb ⟨id,o0,n,Yw h3,hgi⟩⟩
 have hst:yR w w' S:=⟨hpost.grows,fun b hb hlt=>hpost.keep b hlt fun h=>hdis b hb (ownL h)⟩
 have hst':yR w' w' (VV w g S os g' os1):=⟨Nat.le_refl _,fun _ _ _=>rfl⟩
 refine⟨hpost.eos,hpost.tape,hpost.output,hpost.grows,fun k hk h=>hpost.keep k hk fun h2=>h (ownL h2),fun b ⟨id,o,n,hl,hgi⟩=>?_,fun id h=>gP h,?_,⟨fun id o hl=>?_,fun i j oi oj b n m hi hj' hgi hgj=>?_,fun id o b n hl hgi=>?_⟩⟩
 ·rcases split hl with⟨h3,h4⟩ | ⟨o0,h3,h4⟩
  ·rw[gK h4] at hgi;exact(hpost.own b ⟨id,o,n,h3,hgi⟩).imp ownL (fun h=>h)
  ·rw[gF (yI h3)] at hgi;exact .inl (ownR ⟨id,o0,n,h3,hgi⟩)
 ·exact hpost.res.keep hst' (fun b hb _=>hA b hb) fun j hjj=>gK (PV.named_has hr hjj)
 ·rcases split hl with⟨h3,h4⟩ | ⟨o0,h3,h4⟩
  ·have hn:=(List.all_eq_true.1 hcl') _ (xw h3);exact(hpost.obs.rd id o h3).keep hst' (fun b hb _=>hA b hb) (fun _ _ _=>rfl) (gK h4) fun j hjj=>gK (Ob.named_has hn hjj)
  ·exact(h4.rd (hobs.rd id o0 (Yw h3))).keep hst hS (fun b n hgi=>hpost.keep b (hobs.lt id o0 b n (Yw h3) hgi) (hnF h3 hgi)) (gF (yI h3)) fun j hjj=>gP (Ob.named_has h4.named hjj)
 ·rcases split hi with⟨h3,h4⟩ | ⟨o0,h3,h4⟩ <;> rcases split hj' with⟨h5,h6⟩ | ⟨o2,h5,h6⟩
  ·rw[gK h4] at hgi;rw[gK h6] at hgj;exact hpost.obs.inj i j oi oj b n m h3 h5 hgi hgj
  ·rw[gK h4] at hgi;rw[gF (yI h5)] at hgj;exfalso;rcases hpost.own b ⟨i,oi,n,h3,hgi⟩ with h7 | h7
   ·exact hnF h5 hgj h7
   ·have:=hobs.lt j o2 b m (Yw h5) hgj;omega
  ·rw[gF (yI h3)] at hgi;rw[gK h6] at hgj;exfalso;rcases hpost.own b ⟨j,oj,m,h5,hgj⟩ with h7 | h7
   ·exact hnF h3 hgi h7
   ·have:=hobs.lt i o0 b n (Yw h3) hgi;omega
  ·rw[gF (yI h3)] at hgi;rw[gF (yI h5)] at hgj;exact hobs.inj i j o0 o2 b n m (Yw h3) (Yw h5) hgi hgj
 ·rcases split hl with⟨h3,h4⟩ | ⟨o0,h3,h4⟩
  ·rw[gK h4] at hgi;exact hpost.obs.lt id o b n h3 hgi
  ·rw[gF (yI h3)] at hgi;exact Nat.lt_of_lt_of_le (hobs.lt id o0 b n (Yw h3) hgi) hpost.grows
section
variable{ctx:Ctx}{s:PState}
inductive RSl (s:PState) (ρ:List (Nat×Nat)):List (Nat×PV)->Prop
 | nil:RSl s ρ []
 | cons {i:Nat} {p:PV} {r:List (Nat×PV)} (h:s.at i=some (p.ren ρ)) (t:RSl s ρ r):RSl s ρ ((i,p)::r)
theorem RSl.get{ρ:List (Nat×Nat)}{l:List (Nat×PV)}(h:RSl s ρ l):∀ i p,yn l i=some p->s.at i=some (p.ren ρ):=by
 induction h with
 | nil=>intro i p h;simp[yn] at h
 | cons h _ ih=>
  intro i p hl;rw[yW] at hl
  split at hl
  ·rename_i e;subst e;cases hl;exact h
  ·exact ih i p hl
end
inductive LookIn (os':List (Nat×Ob)):List (Nat×Ob)->Prop
 | nil:LookIn os' []
 | cons {i:Nat} {o:Ob} {r:List (Nat×Ob)} (h:Go.Ep.look os' i=some o) (t:LookIn os' r):LookIn os' ((i,o)::r)
theorem LookIn.get{os' l:List (Nat×Ob)}(h:LookIn os' l):∀ i o,Go.Ep.look l i=some o->Go.Ep.look os' i=some o:=by
 induction h with
 | nil=>intro i o h;simp[Go.Ep.look] at h
 | cons h _ ih=>
  intro j o2 hl;simp only[Go.Ep.look] at hl
  split at hl
  ·rename_i e;subst e;cases hl;exact h
  ·exact ih j o2 hl
theorem lookF{ρ:List (Nat×Nat)}{acc:List (Nat×Ob)}{i:Nat}{o:Ob}:∀ {l:List (Nat×Ob)},look l i=some o->(∀ j∈l.map (·.1),rn ρ j=rn ρ i->j=i)->look (l.foldr (fun x l=>yD (rn ρ x.1) (x.2.ren ρ) l) acc) (rn ρ i)=some (o.ren ρ)
 | [],h,_=>by simp[look] at h
 | (k,q)::r,h,hi=>by
  rw[List.foldr_cons,zC]
  by_cases e:rn ρ i=rn ρ k
  ·rw[if_pos e];have:=hi k (by simp) e.symm;subst this;simp[look] at h;rw[h]
  ·rw[if_neg e];refine lookF (l:=r) ?_ (fun j hj=>hi j (by simp only[List.map_cons,List.mem_cons];exact .inr hj));simp only[look] at h;rw[if_neg (fun e2=>e (by rw[e2]))] at h;exact h
theorem lookN{ρ:List (Nat×Nat)}{acc:List (Nat×Ob)}{j:Nat}:∀ {l:List (Nat×Ob)},(∀ i∈l.map (·.1),rn ρ i≠j)->look (l.foldr (fun x l=>yD (rn ρ x.1) (x.2.ren ρ) l) acc) j=look acc j
 | [],_=>rfl
 | (k,q)::r,h=>by
  rw[List.foldr_cons,zC,if_neg (fun e=>h k (by simp) e.symm)];exact lookN fun i hi=>h i (by simp only[List.map_cons,List.mem_cons];exact .inr hi)
theorem lookDN{ρ:List (Nat×Nat)}{acc:List (Nat×Ob)}{j:Nat}:∀ {l:List (Nat×Ob)},(∀ i∈l.map (·.1),rn ρ i≠j)->look (l.foldr (fun x l=>ZK (rn ρ x.1) l) acc) j=look acc j
 | [],_=>rfl
 | (k,q)::r,h=>by
  rw[List.foldr_cons,xC,if_neg (fun e=>h k (by simp) e.symm)];exact lookDN fun i hi=>h i (by simp only[List.map_cons,List.mem_cons];exact .inr hi)
theorem key_look{l:List (Nat×Ob)}{i:Nat}(h:i∈l.map (·.1)):∃ o,look l i=some o:=by
 cases hl:look l i with
 | some o=>exact⟨o,rfl⟩
 | none=>
  exfalso
  induction l with
  | nil=>cases h
  | cons x r ih=>
   simp only[look] at hl
   split at hl
   ·cases hl
   ·rename_i e
    simp only[List.map_cons,List.mem_cons] at h;exact ih (h.resolve_left e) hl
section
variable{P:Program}{ctx:Ctx}{Q:PState->Prop}{s:PState}{ops:Array Oper}{rest:List Oper}{fs:List Ft}{f:Ft}
variable{dst:Option Tmp}{ty:TypeId}{pos:String}{after:Array Edge}{gd:Option (Nat×Bool)}
theorem PQe.callObjS{x:Operand}{xs:List Operand}{ats:Array TypeId}{fn:FuncId}{ps qs:List PV}{os os':List (Nat×Ob)}{pins:List Nat}{r:PV}(ρ:List (Nat×Nat))(js ks:List Nat)(osV osS:List (Nat×Ob))
  (hc:PObj P fn ps os pins r (fun _:Unit=>os')) (hK:∀ b,ctx.K b->ctx.S b)
  (hev:∀ s':PState,(∀ {y q},we (⟨dst,.call ⟨.value x,xs.toArray,ats⟩,ty,pos,after,gd⟩:Oper) y=true->s.ev y=some q->s'.ev y=some q)->s'.ev x=some (.d (.v (.func (.func fn) #[] #[])))/\s'.evs xs=some qs)
  (he:∀ args w,(callFunc fn args).run P w=.ok (.enter fn args) w) (hq:qs.map PV.nilD=ps.map (PV.ren ρ)) (hos:AllOb s ρ os) (hV:LookIn os' osV) (hS:LookIn os' osS) (hAS:AllOb s ρ osS) (hcov:(os'.map (·.1)).all (fun i=>inL (osV.map (·.1)) i||inL (osS.map (·.1)) i)=true) (hSo:(osS.map (·.1)).all (inL (os.map (·.1)))=true)
  (hks:os'.map (·.1)=ks) (hcl:os'.all (fun x=>x.2.named ks)=true) (hr:r.named ks=true) (hok:calO ρ js (os.map (·.1)) pins ks f=true)
  (hg:Wd ops (⟨dst,.call ⟨.value x,xs.toArray,ats⟩,ty,pos,after,gd⟩:Oper) s) (hk:okE f (QK ρ js dst r osV)=true) (h:PQe P ctx ops Q rest fs (s.app (QK ρ js dst r osV))) :
  PQe P ctx ops Q (⟨dst,.call ⟨.value x,xs.toArray,ats⟩,ty,pos,after,gd⟩::rest) (f::fs) s:=by
 simp only[calO,Bool.and_eq_true] at hok;obtain⟨⟨⟨⟨⟨c1,c2⟩,c3⟩,c4⟩,c5⟩,c6⟩:=hok;refine .step (e:=QK ρ js dst r osV) (fun s' hn hee ho hfr hal=>?_) hg hk h;obtain⟨h1,h2⟩:=hev s' (fun hx hq=>hee hx hq);have hinj:∀ i j,i∈os.map (·.1)++ks->j∈os.map (·.1)++ks->rn ρ i=rn ρ j->i=j:=fun i j hi hj e=>by
  have h3:=List.all_eq_true.1 (List.all_eq_true.1 c1 i hi) j hj;rw[Bool.or_eq_true,Bool.not_eq_true'] at h3;rcases h3 with h | h
  ·exact Nat.eq_of_beq_eq_true h
  ·rw[e,Nat.beq_refl] at h;cases h
 have hok':Xk s' ρ js (os.map (·.1)) pins ks=true:=by
  unfold Xk;rw[Bool.and_eq_true,Bool.and_eq_true];refine⟨⟨c1,?_⟩,?_⟩
  ·rw[List.all_eq_true] at c2 ⊢;intro i hi;have:=c2 i hi;rw[Bool.or_eq_true] at this ⊢;exact this.imp (fun h=>h) fun h=>hfr _ (za.1 h)
  ·rw[List.all_eq_true] at c5 ⊢;intro i hi;have:=c5 i hi;rw[Bool.or_eq_true,Bool.or_eq_true] at this;rw[Bool.or_eq_true];rcases this with(h | h) | h
   ·exact .inl h
   ·refine .inr ?_;have hf:=hfr _ (za.1 h);rw[Bool.and_eq_true];refine⟨Jj js hf,?_⟩;simp only[PState.fresh,Bool.and_eq_true,List.all_eq_true] at hf;rw[List.all_eq_true];intro y hy;rw[Bool.or_eq_true];exact .inl (hf.2 y hy).2
   ·refine .inr ?_;obtain⟨a,ha1,ha2⟩:=List.any_eq_true.1 h;simp only[Bool.and_eq_true,beq_iff_eq] at ha2;have hx:=hal a ha1;rw[Nat.eq_of_beq_eq_true ha2.1,ha2.2] at hx;unfold PState.aloneX at hx;rw[Bool.and_eq_true,zr] at hx;rw[Bool.and_eq_true];refine⟨hx.1,?_⟩;rw[List.all_eq_true] at c4;have hx2:=hx.2;rw[List.all_eq_true] at hx2 ⊢;intro y hy;have:=hx2 y hy;rw[Bool.or_eq_true] at this ⊢;rcases this with h | h
    ·exact .inr (c4 _ (za.1 h))
    ·exact .inl h
 have hl:=LR.callObj (P:=P) (ctx:=ctx) (dst:=dst) (ty:=ty) (pos:=pos) (after:=after) (gd:=gd) (ats:=ats) ρ js ks hc hK h1 he h2 hq (hos.keep (fun hi hl=>ho (za.1 hi) hl) c6) hks hcl hr hok';have hAS':AllOb s' ρ osS:=hAS.keep (f:=f) (fun hi hl=>ho (za.1 hi) hl) (by
  rw[List.all_eq_true] at c6 hSo ⊢;exact fun i hi=>c6 i (za.1 (hSo i hi)))
 refine hl.post (Sub.drop ?_ ?_ ?_)
 ·cases dst <;> rfl
 ·intro i p hp;have hat:=uR hp;have hlt:i < s'.n:=Vz (s:=s'.app (QK ρ js dst r osV)) hp;refine qi (by cases dst <;> exact hlt) ?_;simp only[PState.app,QK] at hat
  cases dst with
  | none=>simpa[jH,PState.putD,PState.callO,wG] using hat
  | some d=>simpa[jH,PState.putD,PState.put,PState.callO,wG] using hat
 ·intro id o hlo;have e1:(s'.app (QK ρ js dst r osV)).objs=osV.foldr (fun x l=>yD (rn ρ x.1) (x.2.ren ρ) l) s'.objs:=by
   simp only[PState.app,QK,List.foldr_map]
  have e2:((s'.callO ρ js os os').putD dst (r.ren ρ)).objs=os'.foldr (fun x l=>yD (rn ρ x.1) (x.2.ren ρ) l) (os.foldr (fun x l=>ZK (rn ρ x.1) l) s'.objs):=by cases dst <;> rfl
  rw[e1] at hlo;rw[e2];have inj':∀ i,i∈os'.map (·.1)->∀ j∈os'.map (·.1),rn ρ j=rn ρ i->j=i:=fun i hi j hj e=>hinj j i (List.mem_append_right _ (hks▸hj)) (List.mem_append_right _ (hks▸hi)) e
  rcases Yw hlo with⟨i,o1,h3,h4,h5⟩ | ⟨h3,h4⟩
  ·have h6:=hV.get i o1 h3;rw[h4,h5];exact lookF h6 (inj' i (yI h6))
  ·by_cases hex:∃ i∈os'.map (·.1),rn ρ i=id
   ·obtain⟨i,hi,rfl⟩:=hex;have h5:=List.all_eq_true.1 hcov i hi;rw[Bool.or_eq_true] at h5;rcases h5 with h5 | h5
    ·exact absurd rfl (h3 i (za.1 h5))
    ·obtain⟨o2,h6⟩:=key_look (za.1 h5);have h7:=hAS'.get i o2 h6;rw[h4] at h7
     cases h7
     exact lookF (hS.get i o2 h6) (inj' i hi)
   ·rw[lookN fun i hi e=>hex ⟨i,hi,e⟩,lookDN fun i hi e=>hex ⟨i,by rw[hks];exact za.1 (List.all_eq_true.1 c3 i hi),e⟩];exact h4
end
section
variable{P:Program}{ctx:Ctx}{s:PState}
variable{dst:Option Tmp}{ty:TypeId}{pos:String}{after:Array Edge}{gd:Option (Nat×Bool)}
end
end Go.Ep
namespace Go.Ep
open Go.RowKit
section
variable{P:Program}{ctx:Ctx}{Q:PQ}{s:PState}
variable{dst:Option Tmp}{ty:TypeId}{pos:String}{after:Array Edge}{gd:Option (Nat×Bool)}
theorem EpRd.of{w:World}{g:zb}{S:Nat->Prop}{ds:List DV}{u:Value}(h:Rd w g S (.ep ds 0) u):EpRd w S ds u:=by
 cases h with
 | ep _ b off _ c hS hb hc hr=>exact⟨b,off,c,rfl,hS,hb,hc,hr⟩
end
section
variable{ctx:Ctx}{s:PState}
inductive AllRef (s:PState) (id:Nat):List Nat->Prop
 | nil:AllRef s id []
 | cons {j:Nat} {js:List Nat} (h:s.at j=some (.ref id 0)) (r:AllRef s id js):AllRef s id (j::js)
theorem AllRef.get{id:Nat}{js:List Nat}(h:AllRef s id js):∀ j∈js,s.at j=some (.ref id 0):=by
 induction h with
 | nil=>intro j hj;cases hj
 | cons h _ ih=>
  intro j hj;rcases List.mem_cons.1 hj with rfl | hj
  ·exact h
  ·exact ih j hj
end
inductive QL (s:PState):List PV->List PV->Prop
 | nil:QL s [] []
 | data {q p:PV} {qs ps:List PV} (h:q.nilD=p) (hd:p.isData=true) (t:QL s qs ps):QL s (q::qs) (p::ps)
 | row {id n k:Nat} {e:TypeId} {l:List (List DV)} {qs ps:List PV} (hl:look s.objs id=some (.row e k l)) (hn:l.length=n) (t:QL s qs ps):QL s (.row id n::qs) (.d (.sl l)::ps)
 | nest {id id2 n k:Nat} {e T:TypeId} {l:List (List DV)} {qs ps:List PV} (h2:look s.objs id2=some (.cells T [.row id n])) (hl:look s.objs id=some (.row e k l)) (hn:l.length=n) (t:QL s qs ps):QL s (.pa id2 0 1::qs) (.d (.sl [[.sl l]])::ps)
section
variable{P:Program}{ctx:Ctx}{Q:PQ}{s:PState}
variable{dst:Option Tmp}{ty:TypeId}{pos:String}{after:Array Edge}{gd:Option (Nat×Bool)}
end
end Go.Ep
/- Arrays of sixteen numbers. No program in sight. -/
namespace Go.Ep
abbrev A16:=Int×Int×Int×Int×Int×Int×Int×Int×Int×Int×Int×Int×Int×Int×Int×Int
namespace AR
def l(A:A16):List Int:=[A.1,A.2.1,A.2.2.1,A.2.2.2.1,A.2.2.2.2.1,A.2.2.2.2.2.1,A.2.2.2.2.2.2.1,A.2.2.2.2.2.2.2.1,A.2.2.2.2.2.2.2.2.1,A.2.2.2.2.2.2.2.2.2.1,A.2.2.2.2.2.2.2.2.2.2.1,A.2.2.2.2.2.2.2.2.2.2.2.1,A.2.2.2.2.2.2.2.2.2.2.2.2.1,A.2.2.2.2.2.2.2.2.2.2.2.2.2.1,A.2.2.2.2.2.2.2.2.2.2.2.2.2.2.1,A.2.2.2.2.2.2.2.2.2.2.2.2.2.2.2]
def ofL(x:List Int):A16:=(x.getD 0 0,x.getD 1 0,x.getD 2 0,x.getD 3 0,x.getD 4 0,x.getD 5 0,x.getD 6 0,x.getD 7 0,x.getD 8 0,x.getD 9 0,x.getD 10 0,x.getD 11 0,x.getD 12 0,x.getD 13 0,x.getD 14 0,x.getD 15 0)
def get(A:A16)(i:Nat):Int:=(l A).getD i 0
def set(A:A16)(i:Nat)(v:Int):A16:=ofL ((l A).set i v)
theorem l_len(A:A16):(l A).length=16:=rfl
theorem l_ofL{x:List Int}(h:x.length=16):l (ofL x)=x:=by
 match x,h with
 | [_,_,_,_,_,_,_,_,_,_,_,_,_,_,_,_],_=>rfl
theorem ofL_l(A:A16):ofL (l A)=A:=rfl
theorem l_inj{A B:A16}(h:l A=l B):A=B:=by rw[<- ofL_l A,h,ofL_l]
theorem UY{A:A16}{i:Nat}(h:i < 16):(l A)[i]?=some (get A i):=by
 have:i < (l A).length:=by rw[l_len];exact h
 unfold get;rw[List.getD_eq_getElem?_getD,List.getElem?_eq_getElem this];rfl
theorem l_set(A:A16)(i:Nat)(v:Int):l (set A i v)=(l A).set i v:=l_ofL (by rw[List.length_set,l_len])
theorem xOa{A:A16}{i j:Nat}{v:Int}(h:j < 16):get (set A i v) j=if i=j then v else get A j:=by
 have e:=UY (A:=set A i v) h;rw[l_set,List.getElem?_set] at e
 by_cases hij:i=j
 ·rw[if_pos hij,l_len,if_pos (by omega)] at e;rw[if_pos hij];simpa using e.symm
 ·rw[if_neg hij,UY h] at e;rw[if_neg hij];simpa using e.symm
end AR
instance decA16 : DecidableEq A16:=fun a b=>decidable_of_iff (AR.l a=AR.l b) ⟨AR.l_inj,fun h=>by rw[h]⟩
end Go.Ep
namespace Go.Ep
open Go Go.RowKit
namespace AR
def pl(k:IntKind)(A:A16):List PV:=(l A).map fun n=>.d (.v (.int k n))
theorem pl_get{k:IntKind}{A:A16}{i:Nat}(h:i < 16):(pl k A)[i]?=some (.d (.v (.int k (get A i)))):=by
 unfold pl;rw[List.getElem?_map,UY h];rfl
theorem at_{cs:List PV}{o i:Nat}{k:IntKind}{A:A16}(h:(cs.drop o).take 16=pl k A)(hi:i < 16):cs[o+i]?=some (.d (.v (.int k (get A i)))):=by
 rw[<- pl_get hi,<- h,List.getElem?_take,if_pos hi,List.getElem?_drop]
theorem room{cs:List PV}{o:Nat}{k:IntKind}{A:A16}(h:(cs.drop o).take 16=pl k A):o+16<=cs.length:=by
 have e:=congrArg List.length h;rw[List.length_take,List.length_drop] at e;have:(pl k A).length=16:=rfl;omega
theorem parts{cs:List PV}{o:Nat}{k:IntKind}{A:A16}(h:(cs.drop o).take 16=pl k A):cs=cs.take o++(pl k A++cs.drop (o+16)):=by
 have e:cs.drop o=pl k A++cs.drop (o+16):=by
  rw[<- h,<- List.drop_drop,List.take_append_drop]
 rw[<- e,List.take_append_drop]
theorem put{cs:List PV}{o i:Nat}{k:IntKind}{A:A16}{v:Int}(h:(cs.drop o).take 16=pl k A)(hi:i < 16) :
  cs.take (o+i)++[.d (.v (.int k v))]++cs.drop (o+i+1)=cs.take o++pl k (set A i v)++cs.drop (o+16):=by
 have hr:=room h;have e1:cs.take (o+i)++[.d (.v (.int k v))]++cs.drop (o+i+1)=cs.set (o+i) (.d (.v (.int k v))):=by
  rw[List.set_eq_take_append_cons_drop,if_pos (by omega),List.append_assoc];rfl
 have hl:(cs.take o).length=o:=by rw[List.length_take];omega
 have hp:(pl k A).length=16:=rfl;have e2:cs.set (o+i) (.d (.v (.int k v)))=cs.take o++((pl k A).set i (.d (.v (.int k v)))++cs.drop (o+16)):=by
  conv=>lhs;rw[parts h]
  rw[List.set_append_right _ _ (by omega),hl,show o+i - o=i by omega,List.set_append_left _ _ (by omega)]
 rw[e1,e2,<- List.append_assoc]
 congr 2
 unfold pl;rw[l_set,List.map_set]
end AR
section
variable{P:Program}{ctx:Ctx}{Q:PQ}{s:PState}
variable{dst:Option Tmp}{ty:TypeId}{pos:String}{after:Array Edge}{gd:Option (Nat×Bool)}
theorem Jl{t e:TypeId}{n k:Nat}(hu:P.underlying t=some (.array n e))(h2:1 < n)(hs:∀ w,(sizeOf e).run P w=.ok k w)(b off:Nat)(ki:IntKind)(i:Int)(hi:0<=i/\i < (n:Int))(w:World) :
  (Instr.indexAt t (.pointer (some ⟨b,off,none⟩)) (.int ki i)).run P w=.ok (.pointer (some ⟨b,off+i.toNat*k,none⟩)) w:=by
 simp[Instr.indexAt,asIntOf,run_underlying hu,hi.1,hi.2,hs,Addr.add_lit,Result.andThen,Instr.sureAddr]
end
section
variable{P:Program}{ctx:Ctx}{Q:PQ}{s:PState}
variable{dst:Option Tmp}{ty:TypeId}{pos:String}{after:Array Edge}{gd:Option (Nat×Bool)}
variable{κ ν:Type}[DecidableEq κ]{eK:κ->List Int}{eV:ν->List DV}{m:List (κ×ν)}{q:κ}(inj:∀ a b,eK a=eK b->a=b)
variable{x kx:Operand}{t kt et:TypeId}{ks:List IntKind}{ag:Bool}{kp:PV}{id:Nat}{nl:Bool}
end
end Go.Ep
namespace Go.Ep
open Go Go.RowKit
structure Tab(b:Nat)(k:IntKind)(zs:List Int)(w:World)(S:Nat->Prop):Prop where
 lt:b < w.heap.size
 S:S b
 cell:∀ i,i < zs.length->w.cell? ⟨b,i,none⟩=some (.int k (zs.getD i 0))
theorem Tab.of{b:Nat}{k:IntKind}{zs:List Int}{w:World}{S:Nat->Prop}(hS:S b)(h0:0 < zs.length)(h:∀ i,i < zs.length->w.cell? ⟨b,i,none⟩=some (.int k (zs.getD i 0))):Tab b k zs w S:=
 ⟨Decidable.byContradiction fun hb=>by
  have:=h 0 h0;simp[World.cell?,Array.getElem?_eq_none (Nat.le_of_not_lt hb)] at this,hS,h⟩
def PFunL(L:World->(Nat->Prop)->Prop)(P:Program)(f:FuncId)(ps:List PV)(r:PV):Prop:=∀ w S,L w S->FunAt P f ps r w S
def PRowL(L:World->(Nat->Prop)->Prop)(P:Program)(f:FuncId)(ps:List PV)(e:TypeId)(k:Nat)(l:List (List DV)):Prop:=∀ w S,L w S->RwAt P f ps e k l w S
theorem RwAt.fun{P:Program}{f:FuncId}{ps:List PV}{e:TypeId}{k:Nat}{l:List (List DV)}{w:World}{S:Nat->Prop}(h:RwAt P f ps e k l w S):FunAt P f ps (.d (.sl l)) w S:=
 fun vs hl hv=>(h vs hl hv).mono fun _ _ ⟨u,he,hb,hr⟩=>⟨u,he,hb,.d hr.data⟩
theorem PRowL.fun{L:World->(Nat->Prop)->Prop}{P:Program}{f:FuncId}{ps:List PV}{e:TypeId}{k:Nat}{l:List (List DV)}(h:PRowL L P f ps e k l):PFunL L P f ps (.d (.sl l)):=fun w S hL=>(h w S hL).fun
theorem FunAt.nilD{P:Program}{f:FuncId}{ps:List PV}{r:PV}{w:World}{S:Nat->Prop}(h:FunAt P f (ps.map PV.nilD) r w S):FunAt P f ps r w S:=fun vs hl hv=>
 h vs (by simpa using hl) fun i p v hp hu=>by
  rw[List.getElem?_map] at hp
  cases hq:ps[i]? with
  | none=>simp[hq] at hp
  | some q=>simp[hq] at hp;subst hp;exact(hv i q v hq hu).nilD
theorem RwAt.nilD{P:Program}{f:FuncId}{ps:List PV}{e:TypeId}{k:Nat}{l:List (List DV)}{w:World}{S:Nat->Prop}(h:RwAt P f (ps.map PV.nilD) e k l w S):RwAt P f ps e k l w S:=fun vs hl hv=>
 h vs (by simpa using hl) fun i p v hp hu=>by
  rw[List.getElem?_map] at hp
  cases hq:ps[i]? with
  | none=>simp[hq] at hp
  | some q=>simp[hq] at hp;subst hp;exact(hv i q v hq hu).nilD
structure LOK(ctx:Ctx)(b:Nat)(k:IntKind)(zs:List Int):Prop where
 tab:Tab b k zs ctx.w0 ctx.S
 K:¬ ctx.K b
section
variable{P:Program}{ctx:Ctx}{Q:PQ}{s:PState}
variable{dst:Option Tmp}{ty:TypeId}{pos:String}{after:Array Edge}{gd:Option (Nat×Bool)}
variable{b:Nat}{kk:IntKind}{zs:List Int}
theorem LOK.rel(hT:LOK ctx b kk zs){g:zb}{a:Act}{w:World}(hg:RelG ctx g s a w):Tab b kk zs w (zk ctx g s.objs):=by
 have hh:=hg.keep b hT.tab.lt hT.K;refine⟨Nat.lt_of_lt_of_le hT.tab.lt hg.grows,⟨.inl hT.tab.S,fun id o n ho hgi=>?_⟩,fun i hi=>?_⟩
 ·have:=(hg.own id o b n ho hgi).2;rcases this with h | h
  ·have:=hT.tab.lt;omega
  ·exact hT.K h
 ·rw[World.cell?_of_block (w:=ctx.w0) hh];exact hT.tab.cell i hi
theorem PFunL.intro{f:FuncId}{fn:Func}{c:Code}{ps:List PV}{r:PV}{n:Nat}{sl:List (Nat×PV)}(hf:P.funcs[f]?=some fn)(hb:fn.body=some c)(hn:fn.ntmps=n)(hsl:args 0 ps=sl)(hpn:Nat.ble ps.length n=true)
  (body:∀ ctx:Ctx,(∀ b,ctx.K b->ctx.S b)->LOK ctx b kk zs->PWc P ctx c (Ends P fn r) ⟨n,sl,[]⟩):PFunL (Tab b kk zs) P f ps r:=fun w S hL=>FunAt.intro hf hb hn hsl hpn (body ⟨w,S,fun _=>False⟩ (fun _ h=>h.elim) ⟨hL,fun h=>h⟩)
theorem PRowL.intro{f:FuncId}{fn:Func}{c:Code}{ps:List PV}{e:TypeId}{k:Nat}{l:List (List DV)}{n:Nat}{sl:List (Nat×PV)}(hf:P.funcs[f]?=some fn)(hb:fn.body=some c)(hn:fn.ntmps=n)(hsl:args 0 ps=sl)(hpn:Nat.ble ps.length n=true)
  (body:∀ ctx:Ctx,(∀ b,ctx.K b->ctx.S b)->LOK ctx b kk zs->PWc P ctx c (qx fn e k l) ⟨n,sl,[]⟩):PRowL (Tab b kk zs) P f ps e k l:=fun w S hL=>RwAt.intro hf hb hn hsl hpn (body ⟨w,S,fun _=>False⟩ (fun _ h=>h.elim) ⟨hL,fun h=>h⟩)
def PObjL{G:Type}(L:World->(Nat->Prop)->Prop)(P:Program)(f:FuncId)(ps:List PV)(os:List (Nat×Ob))(pins:List Nat)(r:PV)(os':G->List (Nat×Ob)):Prop:=∀ w S,L w S->ObjAt P f ps os pins r os' w S
theorem PObjL.intro{G:Type}{f:FuncId}{fn:Func}{c:Code}{ps:List PV}{os:List (Nat×Ob)}{pins:List Nat}{r:PV}{os':G->List (Nat×Ob)}{n:Nat}{sl:List (Nat×PV)}(hf:P.funcs[f]?=some fn)(hb:fn.body=some c)(hn:fn.ntmps=n)(hsl:args 0 ps=sl)(hpn:Nat.ble ps.length n=true)(hpin:pinOK ps os pins=true)
  (body:∀ ctx:Ctx,(∀ b,ctx.K b->ctx.S b)->LOK ctx b kk zs->∀ pv:Nat->Option (Nat×Nat),PWc P ctx c (EndsO P ctx fn (QJ pv pins) r os') ⟨n,sl,os++QJ pv pins⟩):PObjL (Tab b kk zs) P f ps os pins r os':=
 fun w S hL=>ObjAt.intro hf hb hn hsl hpn hpin (fun g hd=>body ⟨w,fun b=>S b\/OwnB g os b,OwnB g os⟩ (fun b h=>Or.inr h) ⟨⟨hL.lt,Or.inl hL.S,hL.cell⟩,hd _ hL.S⟩ g)
theorem LR.callObjL{x:Operand}{xs:List Operand}{ats:Array TypeId}{f:FuncId}{ps qs:List PV}{os os':List (Nat×Ob)}{pins:List Nat}{r:PV}(ρ:List (Nat×Nat))(js ks:List Nat)
  (hT:LOK ctx b kk zs) (hc:PObjL (Tab b kk zs) P f ps os pins r (fun _:Unit=>os')) (hK:∀ b,ctx.K b->ctx.S b) (hx:s.ev x=some (.d (.v (.func (.func f) #[] #[])))) (he:∀ args w,(callFunc f args).run P w=.ok (.enter f args) w) (hps:s.evs xs=some qs) (hq:qs.map PV.nilD=ps.map (PV.ren ρ)) (hos:AllOb s ρ os)
  (hks:os'.map (·.1)=ks) (hcl:os'.all (fun x=>x.2.named ks)=true) (hr:r.named ks=true) (hok:Xk s ρ js (os.map (·.1)) pins ks=true) :
  Local P ctx ⟨dst,.call ⟨.value x,xs.toArray,ats⟩,ty,pos,after,gd⟩ s ((s.callO ρ js os os').putD dst (r.ren ρ)):=
 Za (o:=⟨dst,.call ⟨.value x,xs.toArray,ats⟩,ty,pos,after,gd⟩) fun a w g hg=>by
  obtain⟨hlen,hreal⟩:=evs_rd hps hg;refine⟨f,_,uT (o:=⟨dst,.call ⟨.value x,xs.toArray,ats⟩,ty,pos,after,gd⟩) rfl (Uj hg hx) he w,?_⟩;rw[List.map_toArray];exact(Wi ρ js ks hK hq hos (fun _=>hks) (fun _=>hcl) hr hok hg hlen hreal dst (hc _ _ (hT.rel hg))).mono fun en w' ⟨u,_,he,hrel⟩=>⟨u,he,hrel⟩
theorem LR.callL{x:Operand}{xs:List Operand}{ats:Array TypeId}{f:FuncId}{ps qs:List PV}{r:PV}(hT:LOK ctx b kk zs)(hc:PFunL (Tab b kk zs) P f ps r)(hx:s.ev x=some (.d (.v (.func (.func f) #[] #[]))))(he:∀ args w,(callFunc f args).run P w=.ok (.enter f args) w)
  (hps:s.evs xs=some qs) (hq:qs.map PV.nilD=ps) (hd:PV.isData.isDataL ps=true) (hr:r.isData=true) :
  Local P ctx ⟨dst,.call ⟨.value x,xs.toArray,ats⟩,ty,pos,after,gd⟩ s (s.putD dst r):=by
 subst hq;exact LR.callAt (fun _ w g hg=>(hc w _ (hT.rel hg)).nilD) hx he hps (vb hd) hr
theorem LR.idxG{ix:Operand}{n:Nat}{ki:IntKind}{i:Int}{t e:TypeId}(hT:LOK ctx b kk zs)(hu:P.underlying t=some (.array n e))(h2:Nat.blt 1 n=true)(hs:∀ w,(sizeOf e).run P w=.ok 1 w)
  (hix:s.ev ix=some (.d (.v (.int ki i)))) (hz:zs.length=n) (hi:0<=i/\i < (n:Int)) :
  Local P ctx ⟨dst,.indexAddr t (.global b) ix,ty,pos,after,gd⟩ s (s.putD dst (.ep (eK kk (zs.getD i.toNat 0)) 0)):=
 zD (o:=⟨dst,.indexAddr t (.global b) ix,ty,pos,after,gd⟩) fun a w g hg=>by
  obtain⟨h1,h3,h4⟩:=hT.rel hg;have:=Jl (P:=P) hu (by simpa[Nat.blt_eq] using h2) hs b 0 ki i hi w;rw[Nat.mul_one,Nat.zero_add] at this;refine⟨.pointer (some ⟨b,i.toNat,none⟩),?_,?_⟩
  ·have e:a.eval (.global b)=.pointer (some ⟨b,0,none⟩):=rfl;simp[execOp,e,yw hg hix,this,Result.andThen]
  ·refine .ep (eK kk (zs.getD i.toNat 0)) b i.toNat 0 (fun _=>.int kk (zs.getD i.toNat 0)) h3 h1 (fun j hj=>?_) (fun j x hx=>?_)
   ·obtain rfl:j=0:=by simp[eK] at hj;omega
    exact h4 _ (by omega)
   ·cases j with
    | zero=>simp[eK] at hx;subst hx;exact .v _ rfl
    | succ j=>simp[eK] at hx
theorem Src.pa{y:Operand}{id o:Nat}{T0:TypeId}{cs:List PV}{k:IntKind}{R:List Int}(hy:s.ev y=some (.pa id o R.length))(hl:look s.objs id=some (.cells T0 cs))(hA:(cs.drop o).take R.length=R.map fun z=>PV.d (.v (.int k z))):Src ctx s y (R.map (eK k)) 1:=by
 intro a w g hg;have h:=hg.ev hy;have hob:=hg.objs id _ hl
 generalize hv:a.eval y=v at h
 cases hob with
 | cells _ _ blk' n' us hgi hh hlen hr h1=>
  cases h with
  | pa _ _ _ blk c hgi'=>
   rw[hgi] at hgi'
   cases hgi'
   have hroom:R.length<=cs.length - o:=by
    have e:=congrArg List.length hA;rw[List.length_take,List.length_drop,List.length_map] at e;omega
   have hget:∀ j,j < R.length->∃ z,R[j]?=some z/\us[o+j]?=some (.int k z):=fun j hj=>by
    have e:=congrArg (·[j]?) hA;simp only[List.getElem?_take,if_pos hj,List.getElem?_drop,List.getElem?_map,List.getElem?_eq_getElem hj,Option.map_some] at e;have hu:us[o+j]?=some (us[o+j]'(by rw[<- hlen];exact(List.getElem?_eq_some_iff.1 e).1)):=List.getElem?_eq_getElem _;have:=hr _ _ _ e hu;exact⟨_,List.getElem?_eq_getElem hj,by rw[hu,this.of_v]⟩
   have e:(us.drop o).take R.length=R.map (Value.int k):=List.ext_getElem? fun j=>by
    rw[List.getElem?_take]
    split
    ·rename_i hj
     obtain⟨z,h1,h2⟩:=hget j hj;rw[List.getElem?_drop,h2,List.getElem?_map,h1];rfl
    ·rename_i hj
     rw[List.getElem?_eq_none (by rw[List.length_map];omega)]
   refine⟨some ⟨blk',o,none⟩,R.length,R.map (Value.int k),by rw[List.length_map],by simp,by simp,?_,?_,?_⟩
   ·intro ad ea j u hu
    cases ea
    rw[<- e,List.getElem?_take] at hu
    split at hu
    ·rw[Addr.add_lit,zf hh,<- List.getElem?_drop];simpa using hu
    ·cases hu
   ·intro u hu;simp only[List.mem_map] at hu;obtain⟨z,_,rfl⟩:=hu
    rfl
   ·intro i ds j x hi hx;rw[List.getElem?_map] at hi
    cases hz:R[i]? with
    | none=>simp[hz] at hi
    | some z=>
     simp[hz] at hi;subst hi
     cases j with
     | zero=>simp[eK] at hx;subst hx;exact⟨.int k z,by simp[List.getElem?_map,hz],.v _ rfl⟩
     | succ j=>simp[eK] at hx
end
end Go.Ep
namespace Go.Proofs
open Go.Ep Tryz
set_option maxHeartbeats 1000000
set_option maxRecDepth 100000
set_option linter.unusedVariables false
set_option linter.unusedSimpArgs false
theorem zL(kind1:Int)(f2:Int)(r0:Bool)(h:(zZ kind1 f2).wp (·=r0)):PFunL (Tab 0 .i64 tabG) prog 29 [.d (.v (.int .u8 kind1)),.d (.v (.int .i64 f2))] (.d (.v (.bool r0))):=by
 refine PFunL.intro (sl:=[(0,_),(1,_)]) func29 rfl ntmps29 rfl rfl ?_;intro ctx hK hT;refine wQ<|wR<|wa ?_;refine wN<|wQ ?_;refine wJ (zT h) (fun(v3:Bool) (_:Unit)=>⟨15,[(4,.d (.v (.bool v3)))],[]⟩) (fun h=>?_) ?_
 ·refine wR<|wm ?_;refine ws (LR.leq rfl rfl)<|wm ?_;refine xG (d:=7) h rfl (fun _ h=>?_) (fun _ h=>?_)
  ·refine wt (mV rfl) ?_;obtain⟨hy5,h⟩:=yX h;refine wt (LR.idxG hT underlying111 rfl sizeOf3 rfl rfl hy5)<|wt (LR.loadEp isAgg3 rfl rfl)<|wt (mV rfl)<|wt (LR.and rfl rfl)<|wt (nQ rfl rfl)<|ws (pT rfl rfl)<|wa ?_;refine wN ?_;exact⟨(!decide (((bAnd .i64 (tabG.getD (Int.toNat kind1) 0) f2))=0)),(),h,sP⟩
  ·refine wf<|wf<|wf<|wf<|wf<|wf<|ws (pF rfl rfl)<|wa ?_;refine wN ?_;exact⟨false,(),h,sP⟩
 ·rintro v3 _ h;refine wX ?_;cases h;exact xT
theorem ub(is1:Bool)(n2:Int)(r0:Bool)(h:(wh is1 n2).wp (·=r0)):PFun prog 64 [.d (.v (.bool is1)),.d (.v (.int .u64 n2))] (.d (.v (.bool r0))):=by
 refine fI (sl:=[(0,_),(1,_)]) func64 rfl ntmps64 rfl rfl ?_;intro ctx hK;refine wQ<|wR<|wa ?_;refine wN<|wQ<|wQ<|wR<|wm ?_;refine ws (LR.not rfl)<|wN ?_;refine xD h rfl (fun _ h=>?_) (fun _ h=>?_)
 ·refine wQ<|wR<|wm ?_;refine ws (eQ rfl rfl)<|wa ?_;refine wN<|wX ?_;cases h;exact xT
 ·refine wK<|wQ ?_;refine wJ (zT h) (fun(v4:Bool) (_:Unit)=>⟨15,[(4,.d (.v (.bool v4)))],[]⟩) (fun h=>?_) ?_
  ·refine wR<|wm ?_;refine ws (LR.gtr rfl rfl)<|wm ?_;refine xG (d:=11) h rfl (fun _ h=>?_) (fun _ h=>?_)
   ·refine wt (mV rfl)<|wt (LR.leq rfl rfl)<|ws (pT rfl rfl)<|wa ?_;refine wN ?_;exact⟨(decide (n2<=281474976710655)),(),h,sP⟩
   ·refine wf<|wf<|ws (pF rfl rfl)<|wa ?_;refine wN ?_;exact⟨false,(),h,sP⟩
  ·rintro v4 _ h;refine wX ?_;cases h;exact xT
theorem uc(d1:DT)(r0:Bool)(h:(uw d1).wp (·=r0)):PFun prog 93 [.agg (List.map .d (DT.e d1))] (.d (.v (.bool r0))):=by
 refine fI (sl:=[(0,_)]) func93 rfl ntmps93 rfl rfl ?_;intro ctx hK;refine wQ<|wR<|ws (LR.box rfl rfl rfl rfl)<|wa ?_;refine wN<|wQ ?_;refine wJ (zT h) (fun(v2:Bool) (_:Unit)=>⟨16,[(2,.d (.v (.bool v2)))],[]⟩) (fun h=>?_) ?_
 ·refine wR<|ws (fR underlying25 rfl sizeOf22 (by decide) rfl rfl)<|ws (lD isAgg22 rfl rfl rfl)<|ws (LR.gtr rfl rfl)<|wm ?_;refine xG (d:=6) h rfl (fun _ h=>?_) (fun _ h=>?_)
  ·refine wt (fR underlying25 rfl sizeOf23 (by decide) rfl rfl)<|wt (lD isAgg23 rfl rfl rfl)<|wt (LR.gtr rfl rfl)<|ws (pT rfl rfl)<|wm ?_;refine xG (d:=11) h rfl (fun _ h=>?_) (fun _ h=>?_)
   ·refine wt (fR underlying25 rfl sizeOf23 (by decide) rfl rfl)<|wt (lD isAgg23 rfl rfl rfl)<|wt (LR.leq rfl rfl)<|ws (pT rfl rfl)<|wa ?_;refine wN ?_;exact⟨(decide (d1.n<=281474976710655)),(),h,sP⟩
   ·refine wf<|wf<|wf<|ws (pF rfl rfl)<|wa ?_;refine wN ?_;exact⟨false,(),h,sP⟩
  ·refine wf<|wf<|wf<|ws (pF rfl rfl)<|wm ?_;refine wf<|wf<|wf<|ws (pF rfl rfl)<|wa ?_;refine wN ?_;exact⟨false,(),h,sP⟩
 ·rintro v2 _ h;refine wX ?_;cases h;exact xT
theorem UF(v1:Int)(r0:Int×Int)(h:(Zf v1).wp (·=r0)):PFun prog 120 [.d (.v (.int .u64 v1))] (.tup [.d (.v (.int .u16 r0.1)),.d (.v (.int .u64 r0.2))]):=by
 refine fI (sl:=[(0,_)]) func120 rfl ntmps120 rfl rfl ?_;intro ctx hK;refine wQ<|wR<|wa ?_;refine wa ?_;refine wN<|wQ<|wR<|wm ?_;refine ws (LR.shr rfl rfl (by decide) rfl) ?_;refine ws (LR.convInt underlying22 (by rw[underlying23];rfl) rfl rfl) ?_;refine wm ?_;refine ws (LR.and rfl rfl)<|wa ?_;refine wa ?_;refine wN<|wX ?_;cases h;exact⟨.inr rfl,_,.cons (.tmp rfl rfl)<|.cons (.tmp rfl rfl)<|.nil,rfl⟩
theorem jJ(v1:Int)(r0:DT×Bool)(h:(Ye v1).wp (·=r0)):PFun prog 92 [.d (.v (.int .u64 v1))] (.tup [.agg (List.map .d (DT.e r0.1)),.d (.v (.bool r0.2))]):=by
 refine fI (sl:=[(0,_)]) func92 rfl ntmps92 rfl rfl ?_;intro ctx hK;refine wQ<|wR<|ws (LR.allocZ (cs:=[_,_]) zeroValue25 rfl rfl rfl rfl)<|wa ?_;refine wN<|wQ<|wR<|wm ?_;obtain⟨v2,hy3,h⟩:=zH h;refine xN (UF v1 v2 hy3) call120<|wm ?_;refine ws (LR.extract rfl rfl)<|ws (LR.extract rfl rfl)<|wa ?_;refine wa ?_;refine wN<|wQ<|wR<|wm ?_;refine wm ?_;refine ws (LR.build (ns:=[_,_]) Ux rfl rfl rfl)<|ws (LR.allocZ (cs:=[_,_]) zeroValue25 rfl rfl rfl rfl)<|ws (sB (ns:=[_,_]) sizeOf25 rfl rfl rfl rfl rfl rfl rfl)<|wN<|wQ<|wQ<|wR<|ws (lA (ps:=[_,_]) isAgg25 sizeOf25 rfl rfl rfl rfl) ?_;obtain⟨v4,hy5,h⟩:=zH h;refine xN (uc (⟨v2.1,v2.2⟩:DT) v4 hy5) call93<|ws (LR.not rfl)<|wN ?_;refine xD h rfl (fun _ h=>?_) (fun _ h=>?_)
 ·refine wQ<|wR<|ws (LR.build (ns:=[_,_]) Ux rfl rfl rfl)<|ws (sB (ns:=[_,_]) sizeOf25 rfl rfl rfl rfl rfl rfl rfl)<|wa ?_;refine wN<|wX ?_;cases h;exact⟨.inr rfl,_,.cons (.agg isAgg25 sizeOf25 rfl rfl rfl rfl)<|.cons (.tmp rfl rfl)<|.nil,rfl⟩
 ·refine wK<|wQ<|wR<|ws (lA (ps:=[_,_]) isAgg25 sizeOf25 rfl rfl rfl rfl)<|ws (sB (ns:=[_,_]) sizeOf25 rfl rfl rfl rfl rfl rfl rfl)<|wa ?_;refine wN<|wX ?_;cases h;exact⟨.inr rfl,_,.cons (.agg isAgg25 sizeOf25 rfl rfl rfl rfl)<|.cons (.tmp rfl rfl)<|.nil,rfl⟩
theorem jK(f1:Int)(r0:Bool)(h:(Yf f1).wp (·=r0)):PFun prog 94 [.d (.v (.int .u8 f1))] (.d (.v (.bool r0))):=by
 refine fI (sl:=[(0,_)]) func94 rfl ntmps94 rfl rfl ?_;intro ctx hK;refine wQ<|wR<|wa ?_;refine wN<|wQ ?_;refine wJ (zT h) (fun(v2:Bool) (_:Unit)=>⟨9,[(2,.d (.v (.bool v2)))],[]⟩) (fun h=>?_) ?_
 ·refine wR<|wm ?_;refine ws (LR.geq rfl rfl)<|wm ?_;refine xG (d:=5) h rfl (fun _ h=>?_) (fun _ h=>?_)
  ·refine wt (mV rfl)<|wt (LR.leq rfl rfl)<|ws (pT rfl rfl)<|wa ?_;refine wN ?_;exact⟨(decide (f1<=5)),(),h,sP⟩
  ·refine wf<|wf<|ws (pF rfl rfl)<|wa ?_;refine wN ?_;exact⟨false,(),h,sP⟩
 ·rintro v2 _ h;refine wX ?_;cases h;exact xT
theorem jL(s1:ByteArray)(r0:Bool)(h:(Yg s1).wp (·=r0)):PFun prog 95 [.d (.v (.string s1))] (.d (.v (.bool r0))):=by
 refine fI (sl:=[(0,_)]) func95 rfl ntmps95 rfl rfl ?_;intro ctx hK;refine wQ<|wR<|wa ?_;refine wN<|wQ<|wQ<|wR<|wm ?_;refine ws (LR.lenStr underlying9 rfl)<|ws (LR.gtr rfl rfl)<|wN ?_;refine xD h rfl (fun _ h=>?_) (fun _ h=>?_)
 ·refine wQ<|wR<|wa ?_;refine wN<|wX ?_;cases h;exact xT
 ·refine wK<|wQ<|wQ<|wR<|wm ?_;refine ws (LR.lenStr underlying9 rfl)<|wm ?_;refine wN ?_;refine PWc.jnX (zT h) (fun(_:Unit) (_:Unit)=>⟨23,[],[]⟩) (fun h=>?_) ?_
  ·refine wB<|wM (fun(v20:Int) (_:Unit)=>⟨23,[(0,.d (.v (.string s1))),(8,.d (.v (.int .i64 (ByteArray.size s1:Int)))),(9,.d (.v (.int .i64 v20)))],[]⟩) () h (sP) ?_;rintro N v20 _ h;refine wQ<|wR<|ws (LR.lss rfl rfl)<|wN<|wQ ?_;refine xD h rfl (fun _ h=>?_) (fun _ h=>?_)
   ·refine wK<|wQ<|wB<|wQ<|wR<|wm ?_;refine wa ?_;refine wN<|wQ ?_;refine wJ (zT h) (fun(v22:Bool) (_:Unit)=>⟨23,[(0,.d (.v (.string s1))),(8,.d (.v (.int .i64 (ByteArray.size s1:Int)))),(9,.d (.v (.int .i64 v20))),(21,.d (.v (.bool v22)))],[]⟩) (fun h=>?_) ?_
    ·refine wR<|wm ?_;refine wm ?_;obtain⟨b23,hy24,h⟩:=wg h;refine ws (LR.strIdx underlying9 rfl rfl hy24)<|ws (LR.lss rfl rfl)<|wm ?_;refine xG (d:=16) h rfl (fun _ h=>?_) (fun _ h=>?_)
     ·refine wf<|wf<|wf<|wf<|ws (pT rfl rfl)<|wN ?_;exact⟨true,(),h,sP⟩
     ·refine wt (mV rfl)<|wt (mV rfl) ?_;obtain⟨b26,hy27,h⟩:=wg h;refine wt (LR.strIdx underlying9 rfl rfl hy27)<|wt (LR.gtr rfl rfl)<|ws (pF rfl rfl)<|wN ?_;exact⟨(decide (126 < b26)),(),h,sP⟩
    ·rintro v22 _ h;refine xD h rfl (fun _ h=>?_) (fun _ h=>?_)
     ·refine wQ<|wR<|wa ?_;refine wN<|wX ?_;cases h;exact xT
     ·refine wK<|wR<|ws (LR.addW rfl rfl)<|wm ?_;refine wN ?_;exact⟨(IntKind.i64.wrap (v20+1)),(),h,sP⟩
   ·refine wZ ?_;exact⟨(),(),h,sP⟩
  ·rintro _ _ h;refine wQ<|wR<|wa ?_;refine wN<|wX ?_;cases h;exact xT
theorem ud(x1:Int)(r0:Bool)(h:(xy x1).wp (·=r0)):PFun prog 139 [.d (.v (.int .u16 x1))] (.d (.v (.bool r0))):=by
 refine fI (sl:=[(0,_)]) func139 rfl ntmps139 rfl rfl ?_;intro ctx hK;refine wQ<|wR<|wa ?_;refine wN<|wQ<|wR<|wm ?_;refine wm ?_;refine ws (nQ rfl rfl)<|wa ?_;refine wN<|wX ?_;cases h;exact xT
theorem YS(x1:Int)(y2:Int)(r0:Int)(h:(xS x1 y2).wp (·=r0)):PFun prog 113 [.d (.v (.int .u16 x1)),.d (.v (.int .u16 y2))] (.d (.v (.int .i64 r0))):=by
 refine fI (sl:=[(0,_),(1,_)]) func113 rfl ntmps113 rfl rfl ?_;intro ctx hK;refine wQ<|wR<|wa ?_;refine wN<|wQ<|wR<|wm ?_;obtain⟨v3,hy4,h⟩:=zH h;refine xN (ud x1 v3 hy4) call139<|wa ?_;refine wN<|wQ<|wR<|wm ?_;obtain⟨v5,hy6,h⟩:=zH h;refine xN (ud y2 v5 hy6) call139<|wa ?_;refine wN<|wQ<|wQ<|wR<|wm ?_;refine wN ?_;refine xD h rfl (fun _ h=>?_) (fun _ h=>?_)
 ·refine wQ<|wQ<|wR<|wm ?_;refine wN ?_;refine xD h rfl (fun _ h=>?_) (fun _ h=>?_)
  ·refine wQ<|wR<|wa ?_;refine wN<|wX ?_;cases h;exact xT
  ·refine wK<|wQ<|wR<|wa ?_;refine wN<|wX ?_;cases h;exact xT
 ·refine wK<|wQ<|wQ<|wR<|wm ?_;refine wN ?_;refine xD h rfl (fun _ h=>?_) (fun _ h=>?_)
  ·refine wQ<|wR<|wa ?_;refine wN<|wX ?_;cases h;exact xT
  ·refine wK<|wQ<|wQ<|wR<|wm ?_;refine wm ?_;refine ws (LR.lss rfl rfl)<|wN ?_;refine xD h rfl (fun _ h=>?_) (fun _ h=>?_)
   ·refine wQ<|wR<|wa ?_;refine wN<|wX ?_;cases h;exact xT
   ·refine wK<|wQ<|wQ<|wR<|wm ?_;refine wm ?_;refine ws (LR.gtr rfl rfl)<|wN ?_;refine xD h rfl (fun _ h=>?_) (fun _ h=>?_)
    ·refine wQ<|wR<|wa ?_;refine wN<|wX ?_;cases h;exact xT
    ·refine wK<|wQ<|wR<|wa ?_;refine wN<|wX ?_;cases h;exact xT
theorem ue(x1:Int)(r0:Bool)(h:(xz x1).wp (·=r0)):PFun prog 140 [.d (.v (.int .u64 x1))] (.d (.v (.bool r0))):=by
 refine fI (sl:=[(0,_)]) func140 rfl ntmps140 rfl rfl ?_;intro ctx hK;refine wQ<|wR<|wa ?_;refine wN<|wQ<|wR<|wm ?_;refine wm ?_;refine ws (nQ rfl rfl)<|wa ?_;refine wN<|wX ?_;cases h;exact xT
theorem vg(x1:Int)(y2:Int)(r0:Int)(h:(yc x1 y2).wp (·=r0)):PFun prog 114 [.d (.v (.int .u64 x1)),.d (.v (.int .u64 y2))] (.d (.v (.int .i64 r0))):=by
 refine fI (sl:=[(0,_),(1,_)]) func114 rfl ntmps114 rfl rfl ?_;intro ctx hK;refine wQ<|wR<|wa ?_;refine wN<|wQ<|wR<|wm ?_;obtain⟨v3,hy4,h⟩:=zH h;refine xN (ue x1 v3 hy4) call140<|wa ?_;refine wN<|wQ<|wR<|wm ?_;obtain⟨v5,hy6,h⟩:=zH h;refine xN (ue y2 v5 hy6) call140<|wa ?_;refine wN<|wQ<|wQ<|wR<|wm ?_;refine wN ?_;refine xD h rfl (fun _ h=>?_) (fun _ h=>?_)
 ·refine wQ<|wQ<|wR<|wm ?_;refine wN ?_;refine xD h rfl (fun _ h=>?_) (fun _ h=>?_)
  ·refine wQ<|wR<|wa ?_;refine wN<|wX ?_;cases h;exact xT
  ·refine wK<|wQ<|wR<|wa ?_;refine wN<|wX ?_;cases h;exact xT
 ·refine wK<|wQ<|wQ<|wR<|wm ?_;refine wN ?_;refine xD h rfl (fun _ h=>?_) (fun _ h=>?_)
  ·refine wQ<|wR<|wa ?_;refine wN<|wX ?_;cases h;exact xT
  ·refine wK<|wQ<|wQ<|wR<|wm ?_;refine wm ?_;refine ws (LR.lss rfl rfl)<|wN ?_;refine xD h rfl (fun _ h=>?_) (fun _ h=>?_)
   ·refine wQ<|wR<|wa ?_;refine wN<|wX ?_;cases h;exact xT
   ·refine wK<|wQ<|wQ<|wR<|wm ?_;refine wm ?_;refine ws (LR.gtr rfl rfl)<|wN ?_;refine xD h rfl (fun _ h=>?_) (fun _ h=>?_)
    ·refine wQ<|wR<|wa ?_;refine wN<|wX ?_;cases h;exact xT
    ·refine wK<|wQ<|wR<|wa ?_;refine wN<|wX ?_;cases h;exact xT
theorem vO(a1:DT)(b2:DT)(r0:Int)(h:(xn a1 b2).wp (·=r0)):PFun prog 85 [.agg (List.map .d (DT.e a1)),.agg (List.map .d (DT.e b2))] (.d (.v (.int .i64 r0))):=by
 refine fI (sl:=[(0,_),(1,_)]) func85 rfl ntmps85 rfl rfl ?_;intro ctx hK;refine wQ<|wR<|ws (LR.box rfl rfl rfl rfl)<|ws (LR.box rfl rfl rfl rfl)<|wa ?_;refine wN<|wQ<|wQ<|wR<|ws (fR underlying25 rfl sizeOf22 (by decide) rfl rfl)<|ws (lD isAgg22 rfl rfl rfl)<|ws (fR underlying25 rfl sizeOf22 (by decide) rfl rfl)<|ws (lD isAgg22 rfl rfl rfl) ?_;obtain⟨v3,hy4,h⟩:=zH h;refine xN (YS a1.dev b2.dev v3 hy4) call113<|wa ?_;refine wN<|wQ<|wR<|wm ?_;refine ws (nQ rfl rfl)<|wN ?_;refine xD h rfl (fun _ h=>?_) (fun _ h=>?_)
 ·refine wQ<|wR<|wm ?_;refine wa ?_;refine wN<|wX ?_;cases h;exact xT
 ·refine wK<|wQ<|wR<|ws (fR underlying25 rfl sizeOf23 (by decide) rfl rfl)<|ws (lD isAgg23 rfl rfl rfl)<|ws (fR underlying25 rfl sizeOf23 (by decide) rfl rfl)<|ws (lD isAgg23 rfl rfl rfl) ?_;obtain⟨v6,hy7,h⟩:=zH h;refine xN (vg a1.n b2.n v6 hy7) call114<|wa ?_;refine wN<|wX ?_;cases h;exact xT
theorem jM(l1:List DT)(r0:Bool)(h:(Yh l1).wp (·=r0)):PFun prog 96 [.d (.sl (List.map DT.e l1))] (.d (.v (.bool r0))):=by
 refine fI (sl:=[(0,_)]) func96 rfl ntmps96 rfl rfl ?_;intro ctx hK;refine wQ<|wR<|wa ?_;refine wN<|wQ<|wQ<|wR<|wm ?_;refine ws (lM (enc:=DT.e) (L:=l1) underlying26 rfl)<|wm ?_;refine wN ?_;refine PWc.jnX (zT h) (fun(_:Unit) (_:Unit)=>⟨25,[],[]⟩) (fun h=>?_) ?_
 ·refine wB<|wM (fun(v23:Int) (_:Unit)=>⟨25,[(0,.d (.sl (List.map DT.e l1))),(5,.d (.v (.int .i64 (l1.length:Int)))),(6,.d (.v (.int .i64 v23)))],[]⟩) () h (sP) ?_;rintro N v23 _ h;refine wQ<|wR<|ws (LR.lss rfl rfl)<|wN<|wQ ?_;refine xD h rfl (fun _ h=>?_) (fun _ h=>?_)
  ·refine wK<|wQ<|wB<|wQ<|wR<|wm ?_;refine wa ?_;refine wN<|wQ ?_;refine wJ (zT h) (fun(v25:Bool) (_:Unit)=>⟨25,[(0,.d (.sl (List.map DT.e l1))),(5,.d (.v (.int .i64 (l1.length:Int)))),(6,.d (.v (.int .i64 v23))),(23,.d (.v (.bool v25)))],[]⟩) (fun h=>?_) ?_
   ·refine wD (by kernel_rfl) (by kernel_rfl)<|qm ?_;refine qs (fun _ U W=>LR.gtr U U)<|qm ?_;refine xQ (d:=11) h rfl (fun _ h=>?_) (fun _ h=>?_)
    ·refine qt (fun _ U W=>mV U) ?_;refine qt (fun _ U W=>mV U) ?_;refine qt (fun _ U W=>LR.subW U U) ?_;obtain⟨x27,hy28,h⟩:=wg h;refine qt (fun _ U W=>iX (enc:=DT.e) (L:=l1) (y:=x27) underlying26 sizeOf25 U U hy28 (fun _=>rfl)) ?_;refine qt (fun _ U W=>lE (ys:=[_,_]) isAgg25 sizeOf25 U rfl rfl) ?_;refine qt (fun _ U W=>mV U) ?_;refine qt (fun _ U W=>mV U) ?_;obtain⟨x29,hy30,h⟩:=wg h;refine qt (fun _ U W=>iX (enc:=DT.e) (L:=l1) (y:=x29) underlying26 sizeOf25 U U hy30 (fun _=>rfl)) ?_;refine qt (fun _ U W=>lE (ys:=[_,_]) isAgg25 sizeOf25 U rfl rfl) ?_;obtain⟨v31,hy32,h⟩:=zH h;refine qt (fun _ U W=>cN (vO x27 x29 v31 hy32) U call85 (YM (fun a b=>U a b) rfl rfl) rfl rfl rfl) ?_;refine qt (fun _ U W=>LR.geq U U) ?_;refine qs (fun _ U W=>pT U U)<|qN ?_;exact⟨(decide (0<=v31)),(),h,sP⟩
    ·refine kF<|kF<|kF<|kF<|kF<|kF<|kF<|kF<|kF ?_;refine kF<|kF ?_;refine qs (fun _ U W=>pF U U)<|qN ?_;exact⟨false,(),h,sP⟩
   ·rintro v25 _ h;refine xD h rfl (fun _ h=>?_) (fun _ h=>?_)
    ·refine wQ<|wR<|wa ?_;refine wN<|wX ?_;cases h;exact xT
    ·refine wK<|wR<|ws (LR.addW rfl rfl)<|wm ?_;refine wN ?_;exact⟨(IntKind.i64.wrap (v23+1)),(),h,sP⟩
  ·refine wZ ?_;exact⟨(),(),h,sP⟩
 ·rintro _ _ h;refine wQ<|wR<|wa ?_;refine wN<|wX ?_;cases h;exact xT
theorem xl(e1:EV)(r0:Bool)(h:(xg e1).wp (·=r0)):PFun prog 65 [.agg (List.map .d (EV.e e1))] (.d (.v (.bool r0))):=by
 refine fI (sl:=[(0,_)]) func65 rfl ntmps65 rfl rfl ?_;intro ctx hK;refine wQ<|wR<|ws (LR.box rfl rfl rfl rfl)<|wa ?_;refine wN<|wQ<|wQ<|wR<|ws (fR underlying28 rfl sizeOf23 (by decide) rfl rfl)<|ws (lD isAgg23 rfl rfl rfl) ?_;obtain⟨v2,hy3,h⟩:=zH h;refine xN (jJ e1.cid v2 hy3) call92<|wm ?_;refine ws (LR.extract rfl rfl)<|ws (LR.extract rfl rfl)<|ws (LR.allocZ (cs:=[_,_]) zeroValue25 rfl rfl rfl rfl)<|ws (sB (ns:=[_,_]) sizeOf25 rfl rfl rfl rfl rfl rfl rfl)<|wa ?_;refine wN<|wQ ?_;refine wJ (zT h) (fun(v4:Bool) (_:Unit)=>⟨72,[(1,.ref 1 0),(20,.d (.v (.bool v4)))],[(1,.cells 28 [.d (.v (.int .u16 e1.dot.dev)),.d (.v (.int .u64 e1.dot.n)),.d (.v (.int .u8 e1.kind)),.d (.v (.int .u64 e1.cid)),.d (.v (.int .u8 e1.field)),.d (.v (.string e1.text)),.d (.sl (List.map DT.e e1.kills))])]⟩) (fun h=>?_) ?_
 ·refine wR<|wm ?_;refine ws (LR.not rfl)<|wm ?_;refine xG (d:=15) h rfl (fun _ h=>?_) (fun _ h=>?_)
  ·refine wf<|wf<|wf<|wf<|ws (pT rfl rfl)<|wN ?_;exact⟨true,(),h,sP⟩
  ·refine wt (fR underlying28 rfl sizeOf25 (by decide) rfl rfl)<|wt (lA (ps:=[_,_]) isAgg25 sizeOf25 rfl rfl rfl rfl) ?_;obtain⟨v6,hy7,h⟩:=zH h;refine wt (cN (uc e1.dot v6 hy7) rfl call93 rfl rfl rfl rfl)<|wt (LR.not rfl)<|ws (pF rfl rfl)<|wN ?_;exact⟨(!v6),(),h,sP⟩
 ·rintro v4 _ h;refine xD h rfl (fun _ h=>?_) (fun _ h=>?_)
  ·refine wQ<|wR<|wa ?_;refine wN<|wX ?_;cases h;exact xT
  ·refine wK<|wQ<|wQ<|wR<|ws (fR underlying28 rfl sizeOf5 (by decide) rfl rfl)<|ws (lD isAgg5 rfl rfl rfl)<|wN ?_;refine PWc.jnX (zT h) (fun(_:Unit) (_:Unit)=>⟨72,[(1,.ref 1 0)],[(1,.cells 28 [.d (.v (.int .u16 e1.dot.dev)),.d (.v (.int .u64 e1.dot.n)),.d (.v (.int .u8 e1.kind)),.d (.v (.int .u64 e1.cid)),.d (.v (.int .u8 e1.field)),.d (.v (.string e1.text)),.d (.sl (List.map DT.e e1.kills))])]⟩) (fun h=>?_) ?_
   ·refine wB<|wQ<|wR<|ws (eQ rfl rfl)<|wa ?_;refine wN ?_;refine xD h rfl (fun _ h=>?_) (fun _ h=>?_)
    ·refine wQ ?_;refine wJ (zT h) (fun(v10:Bool) (_:Unit)=>⟨72,[(1,.ref 1 0),(34,.d (.v (.bool v10)))],[(1,.cells 28 [.d (.v (.int .u16 e1.dot.dev)),.d (.v (.int .u64 e1.dot.n)),.d (.v (.int .u8 e1.kind)),.d (.v (.int .u64 e1.cid)),.d (.v (.int .u8 e1.field)),.d (.v (.string e1.text)),.d (.sl (List.map DT.e e1.kills))])]⟩) (fun h=>?_) ?_
     ·refine wR<|ws (fR underlying28 rfl sizeOf5 (by decide) rfl rfl)<|ws (lD isAgg5 rfl rfl rfl) ?_;obtain⟨v11,hy12,h⟩:=zH h;refine xN (jK e1.field v11 hy12) call94<|ws (LR.not rfl)<|wm ?_;refine xG (d:=29) h rfl (fun _ h=>?_) (fun _ h=>?_)
      ·refine wf<|wf<|wf<|wf<|ws (pT rfl rfl)<|wN ?_;exact⟨true,(),h,sP⟩
      ·refine wt (fR underlying28 rfl sizeOf9 (by decide) rfl rfl)<|wt (lD isAgg9 rfl rfl rfl) ?_;obtain⟨v14,hy15,h⟩:=zH h;refine wt (cN (jL e1.text v14 hy15) rfl call95 rfl rfl rfl rfl)<|wt (LR.not rfl)<|ws (pF rfl rfl)<|wN ?_;exact⟨(!v14),(),h,sP⟩
     ·rintro v10 _ h;refine xD h rfl (fun _ h=>?_) (fun _ h=>?_)
      ·refine wQ<|wR<|wa ?_;refine wN<|wX ?_;cases h;exact xT
      ·refine wK ?_;exact⟨(),(),h,sP⟩
    ·refine wQ<|wR<|ws (eQ rfl rfl)<|wa ?_;refine wN ?_;refine xD h rfl (fun _ h=>?_) (fun _ h=>?_)
     ·refine wQ ?_;refine wJ (zT h) (fun(v18:Bool) (_:Unit)=>⟨72,[(1,.ref 1 0),(44,.d (.v (.bool v18)))],[(1,.cells 28 [.d (.v (.int .u16 e1.dot.dev)),.d (.v (.int .u64 e1.dot.n)),.d (.v (.int .u8 e1.kind)),.d (.v (.int .u64 e1.cid)),.d (.v (.int .u8 e1.field)),.d (.v (.string e1.text)),.d (.sl (List.map DT.e e1.kills))])]⟩) (fun h=>?_) ?_
      ·refine wR<|ws (fR underlying28 rfl sizeOf5 (by decide) rfl rfl)<|ws (lD isAgg5 rfl rfl rfl)<|ws (nQ rfl rfl)<|wm ?_;refine xG (d:=40) h rfl (fun _ h=>?_) (fun _ h=>?_)
       ·refine wf<|wf<|wf<|ws (pT rfl rfl)<|wN ?_;exact⟨true,(),h,sP⟩
       ·refine wt (fR underlying28 rfl sizeOf9 (by decide) rfl rfl)<|wt (lD isAgg9 rfl rfl rfl)<|wt (LR.neqStr rfl rfl)<|ws (pF rfl rfl)<|wN ?_;exact⟨(!decide (e1.text=(⟨#[]⟩:ByteArray))),(),h,sP⟩
      ·rintro v18 _ h;refine xD h rfl (fun _ h=>?_) (fun _ h=>?_)
       ·refine wQ<|wR<|wa ?_;refine wN<|wX ?_;cases h;exact xT
       ·refine wK ?_;exact⟨(),(),h,sP⟩
     ·refine wQ<|wR<|wa ?_;refine wN<|wX ?_;cases h;exact xT
   ·rintro _ _ h;refine wQ<|wQ ?_;refine wJ (zT h) (fun(v21:Bool) (_:Unit)=>⟨72,[(1,.ref 1 0),(54,.d (.v (.bool v21)))],[(1,.cells 28 [.d (.v (.int .u16 e1.dot.dev)),.d (.v (.int .u64 e1.dot.n)),.d (.v (.int .u8 e1.kind)),.d (.v (.int .u64 e1.cid)),.d (.v (.int .u8 e1.field)),.d (.v (.string e1.text)),.d (.sl (List.map DT.e e1.kills))])]⟩) (fun h=>?_) ?_
    ·refine wR<|ws (fR underlying28 rfl sizeOf26 (by decide) rfl rfl)<|ws (lD isAgg26 rfl rfl rfl)<|ws (lM (enc:=DT.e) (L:=e1.kills) underlying26 rfl)<|ws (LR.gtr rfl rfl)<|wm ?_;refine xG (d:=49) h rfl (fun _ h=>?_) (fun _ h=>?_)
     ·refine wf<|wf<|wf<|wf<|ws (pT rfl rfl)<|wN ?_;exact⟨true,(),h,sP⟩
     ·refine wt (fR underlying28 rfl sizeOf26 (by decide) rfl rfl)<|wt (lD isAgg26 rfl rfl rfl) ?_;obtain⟨v23,hy24,h⟩:=zH h;refine wt (cN (jM e1.kills v23 hy24) rfl call96 rfl rfl rfl rfl)<|wt (LR.not rfl)<|ws (pF rfl rfl)<|wN ?_;exact⟨(!v23),(),h,sP⟩
    ·rintro v21 _ h;refine xD h rfl (fun _ h=>?_) (fun _ h=>?_)
     ·refine wQ<|wR<|wa ?_;refine wN<|wX ?_;cases h;exact xT
     ·refine wK<|wQ<|wQ<|wR<|ws (fR underlying28 rfl sizeOf26 (by decide) rfl rfl)<|ws (lD isAgg26 rfl rfl rfl)<|ws (lM (enc:=DT.e) (L:=e1.kills) underlying26 rfl)<|wm ?_;refine wN ?_;refine PWc.jnX (zT h) (fun(_:Unit) (_:Unit)=>⟨72,[],[]⟩) (fun h=>?_) ?_
      ·refine wB<|wM (fun(v43:Int) (_:Unit)=>⟨72,[(1,.ref 1 0),(56,.d (.sl (List.map DT.e e1.kills))),(57,.d (.v (.int .i64 (e1.kills.length:Int)))),(58,.d (.v (.int .i64 v43)))],[(1,.cells 28 [.d (.v (.int .u16 e1.dot.dev)),.d (.v (.int .u64 e1.dot.n)),.d (.v (.int .u8 e1.kind)),.d (.v (.int .u64 e1.cid)),.d (.v (.int .u8 e1.field)),.d (.v (.string e1.text)),.d (.sl (List.map DT.e e1.kills))])]⟩) () h (sP) ?_;rintro N v43 _ h;refine wQ<|wR<|ws (LR.lss rfl rfl)<|wN<|wQ ?_;refine xD h rfl (fun _ h=>?_) (fun _ h=>?_)
       ·refine wK<|wQ<|wB<|wQ<|wR ?_;obtain⟨x45,hy46,h⟩:=wg h;refine ws (iX (enc:=DT.e) (L:=e1.kills) (y:=x45) underlying26 sizeOf25 rfl rfl hy46 (fun _=>rfl))<|ws (lE (ys:=[_,_]) isAgg25 sizeOf25 rfl rfl rfl)<|ws (LR.allocZ (cs:=[_,_]) zeroValue25 rfl rfl rfl rfl)<|ws (sB (ns:=[_,_]) sizeOf25 rfl rfl rfl rfl rfl rfl rfl)<|wN<|wQ ?_;refine wJ (zT h) (fun(v47:Bool) (_:Unit)=>⟨72,[(1,.ref 1 0),(56,.d (.sl (List.map DT.e e1.kills))),(57,.d (.v (.int .i64 (e1.kills.length:Int)))),(58,.d (.v (.int .i64 v43))),(70,.d (.v (.bool v47)))],[(1,.cells 28 [.d (.v (.int .u16 e1.dot.dev)),.d (.v (.int .u64 e1.dot.n)),.d (.v (.int .u8 e1.kind)),.d (.v (.int .u64 e1.cid)),.d (.v (.int .u8 e1.field)),.d (.v (.string e1.text)),.d (.sl (List.map DT.e e1.kills))])]⟩) (fun h=>?_) ?_
        ·refine wR<|ws (lA (ps:=[_,_]) isAgg25 sizeOf25 rfl rfl rfl rfl) ?_;obtain⟨v48,hy49,h⟩:=zH h;refine xN (uc x45 v48 hy49) call93<|ws (LR.not rfl)<|wm ?_;refine xG (d:=65) h rfl (fun _ h=>?_) (fun _ h=>?_)
         ·refine wf<|wf<|wf<|wf<|ws (pT rfl rfl)<|wN ?_;exact⟨true,(),h,sP⟩
         ·refine wt (lA (ps:=[_,_]) isAgg25 sizeOf25 rfl rfl rfl rfl)<|wt (fR underlying28 rfl sizeOf25 (by decide) rfl rfl)<|wt (lA (ps:=[_,_]) isAgg25 sizeOf25 rfl rfl rfl rfl)<|wt (LR.eqlAgg rfl rfl rfl rfl eq25)<|ws (pF rfl rfl)<|wN ?_;exact⟨((decide (x45.dev=e1.dot.dev)&&decide (x45.n=e1.dot.n))),(),h,sP⟩
        ·rintro v47 _ h;refine xD h rfl (fun _ h=>?_) (fun _ h=>?_)
         ·refine wQ<|wR<|wa ?_;refine wN<|wX ?_;cases h;exact xT
         ·refine wK<|wR<|ws (LR.addW rfl rfl)<|wm ?_;refine wN ?_;exact⟨(IntKind.i64.wrap (v43+1)),(),h,sP⟩
       ·refine wZ ?_;exact⟨(),(),h,sP⟩
      ·rintro _ _ h;refine wQ<|wR<|wa ?_;refine wN<|wX ?_;cases h;exact xT
theorem um(s1_1:List DT)(s2_2:List DT)(r0:Bool)(h:(yP s1_1 s2_2).wp (·=r0)):PFun prog 121 [.d (.sl (List.map DT.e s1_1)),.d (.sl (List.map DT.e s2_2))] (.d (.v (.bool r0))):=by
 refine fI (sl:=[(0,_),(1,_)]) func121 rfl ntmps121 rfl rfl ?_;intro ctx hK;refine wQ<|wR<|wa ?_;refine wN<|wQ<|wQ<|wR<|wm ?_;refine ws (lM (enc:=DT.e) (L:=s1_1) underlying26 rfl)<|wm ?_;refine ws (lM (enc:=DT.e) (L:=s2_2) underlying26 rfl)<|ws (nQ rfl rfl)<|wN ?_;refine xD h rfl (fun _ h=>?_) (fun _ h=>?_)
 ·refine wQ<|wR<|wa ?_;refine wN<|wX ?_;cases h;exact xT
 ·refine wK<|wQ<|wQ<|wR<|wm ?_;refine ws (lM (enc:=DT.e) (L:=s1_1) underlying26 rfl)<|wm ?_;refine wN ?_;refine PWc.jnX (zT h) (fun(_:Unit) (_:Unit)=>⟨26,[],[]⟩) (fun h=>?_) ?_
  ·refine wB<|wM (fun(v17:Int) (_:Unit)=>⟨26,[(0,.d (.sl (List.map DT.e s1_1))),(1,.d (.sl (List.map DT.e s2_2))),(12,.d (.v (.int .i64 (s1_1.length:Int)))),(13,.d (.v (.int .i64 v17)))],[]⟩) () h (sP) ?_;rintro N v17 _ h;refine wQ<|wR<|ws (LR.lss rfl rfl)<|wN<|wQ ?_;refine xD h rfl (fun _ h=>?_) (fun _ h=>?_)
   ·refine wK<|wQ<|wB<|wQ<|wR<|wm ?_;refine wa ?_;refine wN<|wQ<|wD (by kernel_rfl) (by kernel_rfl)<|qm ?_;refine qm ?_;obtain⟨x19,hy20,h⟩:=wg h;refine qs (fun _ U W=>iX (enc:=DT.e) (L:=s1_1) (y:=x19) underlying26 sizeOf25 U U hy20 (fun _=>rfl)) ?_;refine qs (fun _ U W=>lE (ys:=[_,_]) isAgg25 sizeOf25 U rfl rfl)<|qm ?_;refine qm ?_;obtain⟨x21,hy22,h⟩:=wg h;refine qs (fun _ U W=>iX (enc:=DT.e) (L:=s2_2) (y:=x21) underlying26 sizeOf25 U U hy22 (fun _=>rfl)) ?_;refine qs (fun _ U W=>lE (ys:=[_,_]) isAgg25 sizeOf25 U rfl rfl) ?_;refine qs (fun _ U W=>LR.neqAgg U U rfl rfl eq25)<|qN ?_;refine xD h rfl (fun _ h=>?_) (fun _ h=>?_)
    ·refine wQ<|wR<|wa ?_;refine wN<|wX ?_;cases h;exact xT
    ·refine wK<|wR<|ws (LR.addW rfl rfl)<|wm ?_;refine wN ?_;exact⟨(IntKind.i64.wrap (v17+1)),(),h,sP⟩
   ·refine wZ ?_;exact⟨(),(),h,sP⟩
  ·rintro _ _ h;refine wQ<|wR<|wa ?_;refine wN<|wX ?_;cases h;exact xT
theorem QM(a1:List DT)(b2:List DT)(r0:Bool)(h:(Ww a1 b2).wp (·=r0)):PFun prog 97 [.d (.sl (List.map DT.e a1)),.d (.sl (List.map DT.e b2))] (.d (.v (.bool r0))):=by
 refine fI (sl:=[(0,_),(1,_)]) func97 rfl ntmps97 rfl rfl ?_;intro ctx hK;refine wQ<|wR<|wa ?_;refine wN<|wQ<|wR<|wm ?_;refine wm ?_;obtain⟨v3,hy4,h⟩:=zH h;refine xN (um a1 b2 v3 hy4) call121<|wa ?_;refine wN<|wX ?_;cases h;exact xT
theorem Xl(a1:EV)(b2:EV)(r0:Bool)(h:(ZN a1 b2).wp (·=r0)):PFun prog 66 [.agg (List.map .d (EV.e a1)),.agg (List.map .d (EV.e b2))] (.d (.v (.bool r0))):=by
 refine fI (sl:=[(0,_),(1,_)]) func66 rfl ntmps66 rfl rfl ?_;intro ctx hK;refine wQ<|wR<|ws (LR.box rfl rfl rfl rfl)<|ws (LR.box rfl rfl rfl rfl)<|wa ?_;refine wN<|wQ ?_;refine wJ (zT h) (fun(v3:Bool) (_:Unit)=>⟨45,[(4,.d (.v (.bool v3)))],[]⟩) (fun h=>?_) ?_
 ·refine wR<|ws (fR underlying28 rfl sizeOf25 (by decide) rfl rfl)<|ws (lA (ps:=[_,_]) isAgg25 sizeOf25 rfl rfl rfl rfl)<|ws (fR underlying28 rfl sizeOf25 (by decide) rfl rfl)<|ws (lA (ps:=[_,_]) isAgg25 sizeOf25 rfl rfl rfl rfl)<|ws (LR.eqlAgg rfl rfl rfl rfl eq25)<|wm ?_;refine xG (d:=10) h rfl (fun _ h=>?_) (fun _ h=>?_)
  ·refine wt (fR underlying28 rfl sizeOf5 (by decide) rfl rfl)<|wt (lD isAgg5 rfl rfl rfl)<|wt (fR underlying28 rfl sizeOf5 (by decide) rfl rfl)<|wt (lD isAgg5 rfl rfl rfl)<|wt (eQ rfl rfl)<|ws (pT rfl rfl)<|wm ?_;refine xG (d:=17) h rfl (fun _ h=>?_) (fun _ h=>?_)
   ·refine wt (fR underlying28 rfl sizeOf23 (by decide) rfl rfl)<|wy (tl:=[(2,_),(3,_),(4,_),(17,_),(18,_)]) (to:=[(2,_),(3,_)]) ?_;refine wt (lD isAgg23 rfl rfl rfl)<|wt (fR underlying28 rfl sizeOf23 (by decide) rfl rfl)<|wt (lD isAgg23 rfl rfl rfl)<|wt (eQ rfl rfl)<|ws (pT rfl rfl)<|wm ?_;refine xG (d:=24) h rfl (fun _ h=>?_) (fun _ h=>?_)
    ·refine wt (fR underlying28 rfl sizeOf5 (by decide) rfl rfl)<|wt (lD isAgg5 rfl rfl rfl)<|wt (fR underlying28 rfl sizeOf5 (by decide) rfl rfl)<|wt (lD isAgg5 rfl rfl rfl)<|wt (eQ rfl rfl)<|ws (pT rfl rfl)<|wm ?_;refine xG (d:=31) h rfl (fun _ h=>?_) (fun _ h=>?_)
     ·refine wt (fR underlying28 rfl sizeOf9 (by decide) rfl rfl)<|wy (tl:=[(2,_),(3,_),(4,_),(31,_),(32,_)]) (to:=[(2,_),(3,_)]) ?_;refine wt (lD isAgg9 rfl rfl rfl)<|wt (fR underlying28 rfl sizeOf9 (by decide) rfl rfl)<|wt (lD isAgg9 rfl rfl rfl)<|wt (LR.eqlStr rfl rfl)<|ws (pT rfl rfl)<|wm ?_;refine xG (d:=38) h rfl (fun _ h=>?_) (fun _ h=>?_)
      ·refine wt (fR underlying28 rfl sizeOf26 (by decide) rfl rfl)<|wt (lD isAgg26 rfl rfl rfl)<|wt (fR underlying28 rfl sizeOf26 (by decide) rfl rfl)<|wt (lD isAgg26 rfl rfl rfl) ?_;obtain⟨v9,hy10,h⟩:=zH h;refine wt (cN (QM a1.kills b2.kills v9 hy10) rfl call97 rfl rfl rfl rfl)<|ws (pT rfl rfl)<|wa ?_;refine wN ?_;exact⟨v9,(),h,sP⟩
      ·refine wf<|wf<|wf<|wf<|wf<|ws (pF rfl rfl)<|wa ?_;refine wN ?_;exact⟨false,(),h,sP⟩
     ·refine wf<|wy (tl:=[(2,_),(3,_),(4,_),(31,_),(32,_)]) (to:=[(2,_),(3,_)]) ?_;refine wf<|wf<|wf<|wf<|ws (pF rfl rfl)<|wm ?_;refine wf<|wf<|wf<|wf<|wf<|ws (pF rfl rfl)<|wa ?_;refine wN ?_;exact⟨false,(),h,sP⟩
    ·refine wf<|wf<|wf<|wf<|wf<|ws (pF rfl rfl)<|wm ?_;refine wf<|wf<|wy (tl:=[(2,_),(3,_),(4,_),(31,_),(33,_)]) (to:=[(2,_),(3,_)]) ?_;refine wf<|wf<|wf<|ws (pF rfl rfl)<|wm ?_;refine wf<|wf<|wf<|wf<|wf<|ws (pF rfl rfl)<|wa ?_;refine wN ?_;exact⟨false,(),h,sP⟩
   ·refine wf<|wy (tl:=[(2,_),(3,_),(4,_),(17,_),(18,_)]) (to:=[(2,_),(3,_)]) ?_;refine wf<|wf<|wf<|wf<|ws (pF rfl rfl)<|wm ?_;refine wf<|wf<|wf<|wf<|wf<|ws (pF rfl rfl)<|wm ?_;refine wf<|wf<|wf<|wy (tl:=[(2,_),(3,_),(4,_),(31,_),(33,_),(34,_)]) (to:=[(2,_),(3,_)]) ?_;refine wf<|wf<|ws (pF rfl rfl)<|wm ?_;refine wf<|wf<|wf<|wf<|wf<|ws (pF rfl rfl)<|wa ?_;refine wN ?_;exact⟨false,(),h,sP⟩
  ·refine wf<|wf<|wf<|wf<|wf<|ws (pF rfl rfl)<|wm ?_;refine wf<|wf<|wy (tl:=[(2,_),(3,_),(4,_),(17,_),(19,_)]) (to:=[(2,_),(3,_)]) ?_;refine wf<|wf<|wf<|ws (pF rfl rfl)<|wm ?_;refine wf<|wf<|wf<|wf<|wf<|ws (pF rfl rfl)<|wm ?_;refine wf<|wf<|wf<|wf<|wy (tl:=[(2,_),(3,_),(4,_),(31,_),(33,_),(35,_)]) (to:=[(2,_),(3,_)]) ?_;refine wf<|ws (pF rfl rfl)<|wm ?_;refine wf<|wf<|wf<|wf<|wf<|ws (pF rfl rfl)<|wa ?_;refine wN ?_;exact⟨false,(),h,sP⟩
 ·rintro v3 _ h;refine wX ?_;cases h;exact xT
theorem wj(l1:List RN)(r0:List RN)(h:(xZ l1).wp (·=r0)):PRow prog 133 [.d (.sl (List.map RN.e l1))] 117 2 (List.map RN.e r0):=by
 refine PRow.intro (sl:=[(0,_)]) func133 rfl ntmps133 rfl rfl ?_;intro ctx hK;refine wQ<|wR<|ws (aR 117 2 rfl)<|wN<|wQ<|wR<|ws (aR 117 2 rfl)<|wN<|wQ ?_;refine wQ<|wR<|wm ?_;refine ws (lM (enc:=RN.e) (L:=l1) underlying92 rfl)<|wm ?_;refine wN ?_;refine wJ (zT h) (fun(some2:List RN) (_:Unit)=>⟨78,[(3,.row 3 (some2.length))],[(3,.row 117 2 (List.map RN.e some2))]⟩) (fun h=>?_) ?_
 ·refine wB<|wM (fun(⟨v23,some24⟩:Int×List RN) (_:Unit)=>⟨78,[(3,.row 3 (some24.length)),(10,.d (.sl (List.map RN.e l1))),(11,.d (.v (.int .i64 (l1.length:Int)))),(12,.d (.v (.int .i64 v23)))],[(3,.row 117 2 (List.map RN.e some24))]⟩) () h (sP) ?_;rintro N ⟨v23,some24⟩ _ h;refine wQ<|wR<|ws (LR.lss rfl rfl)<|wN<|wQ ?_;refine xD h rfl (fun _ h=>?_) (fun _ h=>?_)
  ·refine wK<|wQ ?_;refine wJ (zT h) (fun(some26:List RN) (_:Unit)=>⟨78,[(3,.row 3 (some26.length)),(10,.d (.sl (List.map RN.e l1))),(11,.d (.v (.int .i64 (l1.length:Int)))),(12,.d (.v (.int .i64 v23)))],[(3,.row 117 2 (List.map RN.e some26))]⟩) (fun h=>?_) ?_
   ·refine wB<|wQ<|wR ?_;obtain⟨x27,hy28,h⟩:=wg h;refine ws (iX (enc:=RN.e) (L:=l1) (y:=x27) underlying92 sizeOf117 rfl rfl hy28 (fun _=>rfl))<|ws (lE (ys:=[_,_]) isAgg117 sizeOf117 rfl rfl rfl)<|ws (LR.allocZ (cs:=[_,_]) zeroValue117 rfl rfl rfl rfl)<|ws (sB (ns:=[_,_]) sizeOf117 rfl rfl rfl rfl rfl rfl rfl)<|wN<|wQ ?_;refine wJ (zT h) (fun(v29:Bool) (_:Unit)=>⟨78,[(3,.row 3 (some24.length)),(5,.ref 5 0),(10,.d (.sl (List.map RN.e l1))),(11,.d (.v (.int .i64 (l1.length:Int)))),(12,.d (.v (.int .i64 v23))),(30,.d (.v (.bool v29)))],[(3,.row 117 2 (List.map RN.e some24)),(5,.cells 117 [.d (.v (.int .u64 x27.lo)),.d (.v (.int .u64 x27.hi))])]⟩) (fun h=>?_) ?_
    ·refine wR<|ws (fR underlying117 rfl sizeOf23 (by decide) rfl rfl)<|ws (lD isAgg23 rfl rfl rfl)<|ws (LR.gtr rfl rfl)<|wm ?_;refine xG (d:=19) h rfl (fun _ h=>?_) (fun _ h=>?_)
     ·refine wt (fR underlying117 rfl sizeOf23 (by decide) rfl rfl)<|wt (lD isAgg23 rfl rfl rfl)<|wt (fR underlying117 rfl sizeOf23 (by decide) rfl rfl)<|wt (lD isAgg23 rfl rfl rfl)<|wt (LR.leq rfl rfl)<|ws (pT rfl rfl)<|wm ?_;refine xG (d:=26) h rfl (fun _ h=>?_) (fun _ h=>?_)
      ·refine wy (tl:=[(3,_),(5,_),(10,_),(11,_),(12,_),(20,_),(21,_),(22,_),(23,_),(24,_),(26,_)]) (to:=[(3,_),(5,_)]) ?_;refine wt (fR underlying117 rfl sizeOf23 (by decide) rfl rfl)<|wt (lD isAgg23 rfl rfl rfl)<|wt (LR.leq rfl rfl)<|ws (pT rfl rfl)<|wN ?_;exact⟨(decide (x27.hi<=281474976710655)),(),h,sP⟩
      ·refine wy (tl:=[(3,_),(5,_),(10,_),(11,_),(12,_),(20,_),(21,_),(22,_),(23,_),(24,_),(26,_)]) (to:=[(3,_),(5,_)]) ?_;refine wf<|wf<|wf<|ws (pF rfl rfl)<|wN ?_;exact⟨false,(),h,sP⟩
     ·refine wf<|wf<|wf<|wf<|wf<|ws (pF rfl rfl)<|wm ?_;refine wf<|wy (tl:=[(3,_),(5,_),(10,_),(11,_),(12,_),(20,_),(21,_),(22,_),(23,_),(24,_),(26,_),(27,_)]) (to:=[(3,_),(5,_)]) ?_;refine wf<|wf<|ws (pF rfl rfl)<|wN ?_;exact⟨false,(),h,sP⟩
    ·rintro v29 _ h;refine xD h rfl (fun _ h=>?_) (fun _ h=>?_)
     ·refine wR<|wm ?_;refine ws (lA (ps:=[_,_]) isAgg117 sizeOf117 rfl rfl rfl rfl)<|ws (LR.buildSliceD [.tmp 32] uv rfl rfl (.cons rfl rfl rfl<|.nil) (by decide) (by decide)) ?_;obtain⟨hy33,h⟩:=yX h;refine ws (LR.appT (enc:=RN.e) (L:=some24) (R:=[x27]) [3,31] uv underlying92 rfl rfl rfl (Src.slT (enc:=RN.e) (R:=[x27]) rfl (fun _=>rfl)) (fun _=>rfl) hy33 rfl rfl)<|wa ?_;refine wN ?_;exact⟨(some24++[x27]),(),h,sP⟩
     ·refine wK ?_;exact⟨some24,(),h,sP⟩
   ·rintro some26 _ h;refine wR<|ws (LR.addW rfl rfl)<|wm ?_;refine wN ?_;exact⟨((IntKind.i64.wrap (v23+1)),some26),(),h,sP⟩
  ·refine wZ ?_;exact⟨some24,(),h,sP⟩
 ·rintro some2 _ h;refine wQ<|wR<|wm ?_;obtain⟨hy35,h⟩:=yX h;refine PWl.sortFn (encD:=RN.e) (enc:=RN.v) (l:=some2) yDa (fun _=>rfl) RN.v1 (fun _=>rfl) rfl call149 rfl rfl rfl (by simp) hy35 rfl (fun s34 hy36 hy37=>?_);replace h:=iSrt h s34 hy36 hy37;have hy36l:=hy36.length_eq;refine wN<|wQ<|wR<|ws (aR 117 2 rfl)<|wN<|wQ<|wQ<|wR<|wm ?_;refine ws (LR.lenRow underlying92 rfl)<|wm ?_;refine wN ?_;refine wJ (zT h) (fun(out38:List RN) (_:Unit)=>⟨78,[(6,.row 6 (out38.length))],[(6,.row 117 2 (List.map RN.e out38))]⟩) (fun h=>?_) ?_
  ·refine wB ?_;refine wM (fun(⟨v69,out70⟩:Int×List RN) (_:Unit)=>⟨78,[(6,.row 6 (out70.length)),(38,.row 3 (some2.length)),(39,.d (.v (.int .i64 (some2.length:Int)))),(40,.d (.v (.int .i64 v69)))],[(3,.row 117 2 (List.map RN.e s34)),(6,.row 117 2 (List.map RN.e out70))]⟩) () h (sO rfl (.cons rfl rfl<|.cons rfl (by first | rfl | (simp;done) | (congr 1;first | (simp;done) | (simp;omega) | omega))<|.c2 rfl rfl rfl rfl<|.nil) (.c2 rfl rfl rfl rfl<|.nil)) ?_;rintro N ⟨v69,out70⟩ _ h;refine wQ<|wR<|ws (LR.lss rfl rfl)<|wN<|wQ ?_;refine xD h rfl (fun _ h=>?_) (fun _ h=>?_)
   ·refine wK<|wQ ?_;refine wJ (zT h) (fun(out72:List RN) (_:Unit)=>⟨78,[(6,.row 6 (out72.length)),(38,.row 3 (some2.length)),(39,.d (.v (.int .i64 (some2.length:Int)))),(40,.d (.v (.int .i64 v69)))],[(3,.row 117 2 (List.map RN.e s34)),(6,.row 117 2 (List.map RN.e out72))]⟩) (fun h=>?_) ?_
    ·refine wB<|wQ<|wR ?_;obtain⟨x73,hy74,h⟩:=wg h;refine ws (LR.idxRowT (L:=s34) (y:=x73) underlying92 sizeOf117 rfl (by first | (simp;done) | (simp;omega) | omega) rfl hy74) ?_;refine ws (LR.loadRpT (enc:=RN.e) (L:=s34) (y:=x73) isAgg117 sizeOf117 rfl rfl hy74.2)<|ws (LR.allocZ (cs:=[_,_]) zeroValue117 rfl rfl rfl rfl)<|ws (sB (ns:=[_,_]) sizeOf117 rfl rfl rfl rfl rfl rfl rfl)<|wN<|wQ<|wQ<|wR<|wm ?_;refine ws (LR.lenRow underlying92 rfl)<|ws (LR.subW rfl rfl)<|wa ?_;refine wN<|wQ ?_;refine wJ (zT h) (fun(v75:Bool) (_:Unit)=>⟨78,[(6,.row 6 (out70.length)),(8,.ref 8 0),(9,.d (.v (.int .i64 ((IntKind.i64.wrap ((out70.length:Int) - 1)))))),(38,.row 3 (some2.length)),(39,.d (.v (.int .i64 (some2.length:Int)))),(40,.d (.v (.int .i64 v69))),(59,.d (.v (.bool v75)))],[(3,.row 117 2 (List.map RN.e s34)),(6,.row 117 2 (List.map RN.e out70)),(8,.cells 117 [.d (.v (.int .u64 x73.lo)),.d (.v (.int .u64 x73.hi))])]⟩) (fun h=>?_) ?_
     ·refine wD (by kernel_rfl) (by kernel_rfl)<|qm ?_;refine qs (fun _ U W=>LR.geq U U)<|qm ?_;refine xQ (d:=49) h rfl (fun _ h=>?_) (fun _ h=>?_)
      ·refine qt (fun _ U W=>fR underlying117 rfl sizeOf23 (by decide) rfl U) ?_;refine qt (fun _ U W=>lD isAgg23 U (W rfl) rfl) ?_;refine qt (fun _ U W=>mV U) ?_;refine qt (fun _ U W=>mV U) ?_;obtain⟨x77,hy78,h⟩:=wg h;refine qt (fun _ U W=>LR.idxRowT (L:=out70) (y:=x77) underlying92 sizeOf117 U rfl U hy78) ?_;refine qt (fun _ U W=>LR.fieldRp underlying117 rfl sizeOf23 (by decide) rfl U) ?_;refine qt (fun _ U W=>LR.loadRpF (enc:=RN.e) (L:=out70) (y:=x77) isAgg23 U (W rfl) hy78.2 rfl) ?_;refine qt (fun _ U W=>LR.addW U U) ?_;refine qt (fun _ U W=>LR.leq U U) ?_;refine qs (fun _ U W=>pT U U)<|qN ?_;exact⟨(decide (x73.lo<=(IntKind.u64.wrap (x77.hi+1)))),(),h,sO rfl (.c2 rfl rfl rfl rfl<|.cons rfl rfl<|.cons rfl (by first | rfl | (simp;done) | (congr 1;first | (simp;done) | (simp;omega) | omega))<|.c2 rfl rfl rfl rfl<|.cons rfl rfl<|.nil) (.c2 rfl rfl rfl rfl<|.cons rfl rfl<|.nil)⟩
      ·refine kF<|kF<|kF<|kF<|kF<|kF<|kF<|kF<|kF ?_;refine qs (fun _ U W=>pF U U)<|qN ?_;exact⟨false,(),h,sO rfl (.c2 rfl rfl rfl rfl<|.cons rfl rfl<|.cons rfl (by first | rfl | (simp;done) | (congr 1;first | (simp;done) | (simp;omega) | omega))<|.c2 rfl rfl rfl rfl<|.cons rfl rfl<|.nil) (.c2 rfl rfl rfl rfl<|.cons rfl rfl<|.nil)⟩
     ·rintro v75 _ h;refine xD h rfl (fun _ h=>?_) (fun _ h=>?_)
      ·refine wQ<|wz (tl:=[(6,_),(8,_),(9,_),(38,_),(39,_),(40,_)]) (to:=[(3,_),(6,_),(8,_)]) ?_;refine PWc.regionE [⟨[60],[],[],[],[],[6],[],[]⟩,{ws:=[61]},⟨[62],[],[],[],[],[6],[],[]⟩,{ws:=[63]},⟨[64],[],[],[],[],[6],[],[]⟩,⟨[65],[],[],[],[],[6],[],[]⟩,⟨[66],[],[6],[],[],[],[],[]⟩,⟨[67],[],[],[],[],[8],[],[]⟩,⟨[68],[],[8],[],[],[],[],[]⟩,{ws:=[69]},⟨[70],[],[],[],[],[6],[],[]⟩,⟨[71],[],[],[],[],[6],[],[]⟩,⟨[],[6],[6],[],[],[],[],[]⟩] (by kernel_rfl) (by kernel_rfl) rfl<|km ?_;refine km ?_;refine km ?_;refine km ?_;obtain⟨x80,hy81,h⟩:=wg h;refine kp (fun _ U W=>LR.idxRowT (L:=out70) (y:=x80) underlying92 sizeOf117 U rfl U hy81) ?_;refine kp (fun _ U W=>LR.fieldRp underlying117 rfl sizeOf23 (by decide) rfl U) ?_;refine kp (fun _ U W=>LR.loadRpF (enc:=RN.e) (L:=out70) (y:=x80) isAgg23 U (W rfl rfl) hy81.2 rfl) ?_;refine kp (fun _ U W=>fR underlying117 rfl sizeOf23 (by decide) rfl U) ?_;refine kp (fun _ U W=>lD isAgg23 U (W rfl rfl) rfl) ?_;refine kp (fun _ U W=>LR.maxI U U) ?_;obtain⟨x82,hy83,h⟩:=wg h;refine kp (fun _ U W=>LR.idxRowT (L:=out70) (y:=x82) underlying92 sizeOf117 U rfl U hy83) ?_;refine kp (fun _ U W=>LR.fieldRp underlying117 rfl sizeOf23 (by decide) rfl U) ?_;refine ks (fun _ U W=>LR.storeRpT (enc:=RN.e) (L:=out70) (a:=x82) (b:=(⟨x82.lo,(max x80.hi x73.hi)⟩:RN)) sizeOf23 U U rfl rfl (W rfl rfl) hy83.2 rfl rfl)<|PQe.nil<|wZ ?_;exact⟨(List.set out70 ((Int.toNat ((IntKind.i64.wrap ((out70.length:Int) - 1))))) (⟨x82.lo,(max x80.hi x73.hi)⟩:RN)),(),h,sO rfl (.cons rfl (by first | rfl | (simp;done) | (congr 1;first | (simp;done) | (simp;omega) | omega))<|.cons rfl (by first | rfl | (simp;done) | (congr 1;first | (simp;done) | (simp;omega) | omega))<|.c2 rfl rfl rfl rfl<|.nil) (.c2 rfl rfl rfl rfl<|.nil)⟩
      ·refine wK<|wR<|wm ?_;refine ws (lA (ps:=[_,_]) isAgg117 sizeOf117 rfl rfl rfl rfl)<|ws (LR.buildSliceD [.tmp 73] uv rfl rfl (.cons rfl rfl rfl<|.nil) (by decide) (by decide)) ?_;obtain⟨hy84,h⟩:=yX h;refine ws (LR.appT (enc:=RN.e) (L:=out70) (R:=[x73]) [6,72] uv underlying92 rfl rfl rfl (Src.slT (enc:=RN.e) (R:=[x73]) rfl (fun _=>rfl)) (fun _=>rfl) hy84 rfl rfl)<|wa ?_;refine wN ?_;exact⟨(out70++[x73]),(),h,sO rfl (.cons rfl rfl<|.cons rfl (by first | rfl | (simp;done) | (congr 1;first | (simp;done) | (simp;omega) | omega))<|.c2 rfl rfl rfl rfl<|.nil) (.c2 rfl rfl rfl rfl<|.nil)⟩
    ·rintro out72 _ h;refine wR<|ws (LR.addW rfl rfl)<|wm ?_;refine wN ?_;exact⟨((IntKind.i64.wrap (v69+1)),out72),(),h,sO rfl (.cons rfl rfl<|.cons rfl (by first | rfl | (simp;done) | (congr 1;first | (simp;done) | (simp;omega) | omega))<|.c2 rfl rfl rfl rfl<|.nil) (.c2 rfl rfl rfl rfl<|.nil)⟩
   ·refine wZ ?_;exact⟨out70,(),h,sP⟩
  ·rintro out38 _ h;refine wQ<|wR<|wm ?_;refine wa ?_;refine wN<|wX ?_;cases h;exact⟨.inr rfl,2,rfl,.inr ⟨6,_,rfl,(by simp),rfl⟩⟩
theorem Wj(m1:List (Int×List RN))(r0:List PT)(h:(uU m1).wp (·=r0)):PRow prog 104 [.md [.u16] false (xF kI (eL RN.e) m1)] 94 2 (List.map PT.e r0):=by
 refine PRow.intro (sl:=[(0,_)]) func104 rfl ntmps104 rfl rfl ?_;intro ctx hK;refine wQ<|wR<|ws (aR 94 2 rfl)<|wN<|wQ<|wR<|ws (aR 94 2 rfl)<|wN<|wQ ?_;refine wQ<|wR<|wm ?_;refine PWl.rangeD underlying143 rfl rfl rfl (fun bs2 ck2 hbl2 hbn2=>?_);refine wN ?_;refine wJ (zT h) (fun(c3:List PT) (_:Unit)=>⟨27,[(3,.row 3 (c3.length))],[(3,.row 94 2 (List.map PT.e c3))]⟩) (fun h=>?_) ?_
 ·refine wB<|wM (fun(⟨seen28,c29⟩:List Nat×List PT) (_:Unit)=>⟨27,[(3,.row 3 (c29.length)),(7,.ref 7 0)],[(3,.row 94 2 (List.map PT.e c29)),(7,.iterD [.u16] false (xF kI (eL RN.e) m1) bs2 ck2 seen28)]⟩) () h (sP) ?_;rintro N ⟨seen28,c29⟩ _ h;refine wQ<|wR ?_;obtain⟨hy40,h⟩:=yX h;replace h:=iNxt h;refine PWl.nextD rfl rfl (nxtD hy40) rfl (fun hy31=>?_) (fun j30 hy32 hy33=>?_)
  ·replace h:=h.1 (nxtA hy31);refine ws (LR.extract rfl rfl)<|wN<|wQ<|PWc.condF rfl<|wZ ?_;exact⟨c29,(),h,sP⟩
  ·replace h:=h.2 j30 (nxtB hy32) hy33;refine ws (LR.extract rfl rfl)<|wN<|wQ<|PWc.condT rfl<|wK<|wB<|wQ<|wR ?_;obtain⟨kv34,hy35,h⟩:=wg h;refine ws (LR.entryD rfl rfl (entGet hy35) rfl rfl)<|ws (LR.extract rfl rfl)<|ws (LR.extract rfl rfl)<|wa ?_;refine wa ?_;refine wN<|wQ<|wR<|wm ?_;obtain⟨v36,hy37,h⟩:=zH h;refine ws (LR.rowN (wj kv34.2 v36 hy37) rfl call133 rfl rfl rfl rfl)<|wa ?_;refine wN<|wQ<|wR<|wm ?_;refine ws (LR.lenRow underlying92 rfl)<|ws (LR.gtr rfl rfl)<|wN ?_;refine xD h rfl (fun _ h=>?_) (fun _ h=>?_)
   ·refine wR<|wm ?_;refine wm ?_;refine wm ?_;refine PWl.frz [5,14,15,20] hK (.cons rfl<|.cons rfl<|.cons rfl<|.cons rfl<|.nil) rfl (by simp) ?_;refine ws (LR.build (ns:=[_,_]) y2a rfl rfl rfl)<|ws (LR.buildSliceD [.tmp 21] zBa rfl rfl (.cons rfl rfl rfl<|.nil) (by decide) (by decide)) ?_;obtain⟨hy39,h⟩:=yX h;refine ws (LR.appT (enc:=PT.e) (L:=c29) (R:=[(⟨kv34.1,v36⟩:PT)]) [3,18] zBa underlying30 rfl rfl rfl (Src.slT (enc:=PT.e) (R:=[(⟨kv34.1,v36⟩:PT)]) rfl (fun _=>rfl)) (fun _=>rfl) hy39 rfl rfl)<|wy (tl:=[(7,_),(23,_)]) (to:=[(3,_),(7,_)]) ?_;refine wa ?_;refine wN ?_;exact⟨((seen28++[j30]),(c29++[(⟨kv34.1,v36⟩:PT)])),(),h,sP⟩
   ·refine wK ?_;exact⟨((seen28++[j30]),c29),(),h,sP⟩
 ·rintro c3 _ h;refine wQ<|wR<|wm ?_;obtain⟨hy42,h⟩:=yX h;refine PWl.sortFnR (encD:=PT.e) (enc:=RawTPart.v) (lt:=UU) (R:=RawTPart.R) (l:=c3) yBa RawTPart.raw rlt134 (fun _=>rfl) (fun _=>rfl) rfl call134 rfl rfl rfl (by simp) hy42 rfl (fun s41 hy43 hy44=>?_);replace h:=iSrt h s41 hy43 hy44;have hy43l:=hy43.length_eq;refine wN<|wQ<|wR<|wm ?_;refine wa ?_;refine wN<|wX ?_;cases h;exact⟨.inr rfl,2,rfl,.inr ⟨3,_,rfl,(by first | (simp;done) | (simp;omega) | omega),rfl⟩⟩
theorem Zn(c1:List PT)(r0:List (Int×List RN))(h:(Zg c1).wp (·=r0)):PMap prog 105 [.d (.sl (List.map PT.e c1))] [.u16] false (xF kI (eL RN.e) r0):=by
 refine PMap.intro (sl:=[(0,_)]) func105 rfl ntmps105 rfl rfl ?_;intro ctx hK;refine wQ<|wR<|wa ?_;refine wN<|wQ<|wR<|ws (LR.makeMap [.u16] false rfl)<|wa ?_;refine wN<|wQ<|wQ<|wR<|wm ?_;refine ws (lM (enc:=PT.e) (L:=c1) underlying30 rfl)<|wm ?_;refine wN<|wB ?_;obtain⟨hy10,h⟩:=yX h;have hN:=hy10.1;refine PWc.loopRows (bid:=0) (N:=c1.length) (mid:=6) (n:=28) (ks:=[.u16]) (e:=117) (k:=2) (fun i=>[(3,.mp 6),(7,.d (.sl (List.map PT.e c1))),(8,.d (.v (.int .i64 (c1.length:Int)))),(9,.d (.v (.int .i64 (i:Int))))]) (fun i=>vf kI RN.e (AL.grow [] ((List.take i c1).filterMap zn))) [(3,.mp 6)] [] 0 hK (by decide) (fun i x hx id h=>by simp only[List.mem_cons,List.not_mem_nil,or_false] at hx;rcases hx with rfl | rfl | rfl | rfl <;> first | (simp[PV.has] at h;done) | (simp[PV.has] at h;exact h.symm) | (simp[PV.has] at h;omega)) rfl (fun i=>Jh (fun x d hd=>by simp only[RN.e,List.mem_cons,List.not_mem_nil,or_false] at hd;rcases hd with rfl | rfl <;> exact⟨_,rfl⟩) _) (sP) (fun i hi=>?_) (xF kI (eL RN.e) (AL.grow ([]:List (Int×List RN)) (List.filterMap zn c1))) (by simp only[List.take_length];exact rowsM_of _) (fun ctx vm bs ck=>?_) (fun bs ck=>?_)
 ·obtain⟨p,hp⟩:∃ p,c1[i]?=some p:=⟨_,List.getElem?_eq_getElem hi⟩
  have hidx:(0:Int)<=(i:Int)/\c1[(i:Int).toNat]?=some p:=⟨by omega,by simpa using hp⟩
  have htk:=AL.grow_take hp zn;have hwi:=wrapNat (i:=i) (by omega)
  by_cases hd:0 < p.dev
  ·have hf:zn p=some (p.dev,p.runs):=by simp[zn,hd]
   have hbd:=AL.grow_bound hy10 hp hf;rw[hf] at htk;rcases UW (eK:=kI) (enc:=RN.e) zAa (p.dev) (AL.grow [] ((List.take i c1).filterMap zn)) with⟨j,l,h1,h2,h3,h4⟩ | ⟨h1,h2,h3⟩
   ·simp only[h3] at hbd;refine .found (nl:=l.length) (nl':=(List.length (l++p.runs))) (l:=(List.map RN.e l)) (l':=(List.map RN.e (l++p.runs))) (by simp) (by simp) h2 (by rw[htk];simp only[AL.grow,Option.toList,List.foldl] at h3 h4 ⊢;rw[h3];exact h4 _) fun ctx vm bs ck hvm=>?_
    have hpf:xE (kI (p.dev)) (ZH vm) 0=some j:=by rw[Ji hvm];exact h1
    have h:(M.bind (M.idx c1 (i:Int)) fun x2=>M.xr ((l.length+x2.runs.length)*16<=140737488355328)<|M.pure ()).wp (fun _=>True):=⟨p,hidx,hbd,trivial⟩
    refine wQ<|wR<|ws (LR.lss rfl rfl)<|wN<|wQ<|PWc.condT (congrArg (fun b=>some (PV.d (.v (.bool b)))) (decide_eq_true (Int.ofNat_lt.2 hi)))<|wK<|wQ<|wB ?_;refine wQ<|wR ?_;obtain⟨x2,hy3,h⟩:=wg h;have hE:=idxU hy3 hidx;subst hE;refine ws (iX (enc:=PT.e) (L:=c1) (y:=x2) underlying30 sizeOf94 rfl rfl hy3 (fun _=>rfl))<|ws (lE (ys:=[_,_]) isAgg94 sizeOf94 rfl rfl rfl)<|ws (LR.allocZ (cs:=[_,_]) zeroValue94 rfl rfl rfl rfl)<|ws (sB (ns:=[_,_]) sizeOf94 rfl rfl rfl rfl rfl rfl rfl)<|wN<|wQ<|wR<|ws (fR underlying94 rfl sizeOf22 (by decide) rfl rfl)<|ws (lD isAgg22 rfl rfl rfl) ?_;refine ws (LR.gtr rfl rfl)<|wN<|PWc.condT (congrArg (fun b=>some (PV.d (.v (.bool b)))) (decide_eq_true hd))<|wz (tl:=[(3,_),(5,_),(7,_),(8,_),(9,_)]) (to:=[(5,_),(6,_),(50,_)]) ?_;refine PWc.regionE [⟨[16],[],[],[],[],[6],[],[]⟩,⟨[17],[],[],[],[],[5],[],[]⟩,⟨[18],[],[5],[],[],[],[],[]⟩,⟨[19],[],[],[],[],[6],[],[]⟩,⟨[20],[],[],[],[],[5],[],[]⟩,⟨[21],[],[5],[],[],[],[],[]⟩,⟨[22],[],[6],[],[],[50],[],[]⟩,⟨[23],[],[],[],[],[5],[],[]⟩,⟨[24],[],[5],[],[],[],[],[]⟩,⟨[22,25],[6,50],[6,50],[],[(50,[22])],[50],[],[6]⟩,⟨[],[6],[6,50],[],[],[],[50],[]⟩] (by kernel_rfl) (by kernel_rfl) rfl<|km ?_;refine kp (fun _ U W=>fR underlying94 rfl sizeOf22 (by decide) rfl U) ?_;refine kp (fun _ U W=>lD isAgg22 U (W rfl rfl) rfl)<|km ?_;refine kp (fun _ U W=>fR underlying94 rfl sizeOf22 (by decide) rfl U) ?_;refine kp (fun _ U W=>lD isAgg22 U (W rfl rfl) rfl) ?_;refine kp (fun _ U W=>LR.lookupP underlying143 VT U (W rfl rfl) U rfl hpf rfl) ?_;refine kp (fun _ U W=>fR underlying94 rfl sizeOf92 (by decide) rfl U) ?_;refine kp (fun _ U W=>lD isAgg92 U (W rfl rfl) rfl) ?_;obtain⟨hy4,h⟩:=yX h;refine PQe.stepX [22] (fun _ U W ha=>LR.appP (enc:=RN.e) (L:=l) (R:=x2.runs) [22] uv underlying92 (U rfl rfl) rfl (W rfl rfl) (W rfl rfl) rfl (fun _ h1 h2=>Src.slT (enc:=RN.e) (R:=x2.runs) (xIa h1 h2 (U rfl rfl)) (fun _=>rfl)) (fun _=>rfl) hy4 rfl ha) rfl rfl (.inl rfl) rfl ?_;refine ks (fun _ U W=>LR.mapUpdateP underlying143 VT U (W rfl rfl) U rfl rfl U hpf)<|PQe.nil<|wR<|ws (LR.addW rfl rfl)<|wm ?_;refine wN ?_;exact⟨rfl,sO rfl (.c2 rfl rfl rfl rfl<|.cons rfl rfl<|.cons rfl (congrArg (fun z=>PV.d (.v (.int .i64 z))) hwi)<|.nil) (.c2 rfl rfl rfl rfl<|.nil)⟩
   ·simp only[h2,List.length_nil,Nat.zero_add] at hbd;refine .fresh (q:=25) (nl':=p.runs.length) (l':=(List.map RN.e p.runs)) (by simp) (by decide) (by rw[htk];simp only[AL.grow,Option.toList,List.foldl] at h2 h3 ⊢;rw[h2];exact h3 _) fun ctx vm bs ck hvm=>?_
    have hpf:xE (kI (p.dev)) (ZH vm) 0=none:=by rw[Ji hvm];exact h1
    have h:(M.bind (M.idx c1 (i:Int)) fun x5=>M.xr (x5.runs.length*16<=140737488355328)<|M.pure ()).wp (fun _=>True):=⟨p,hidx,hbd,trivial⟩
    refine wQ<|wR<|ws (LR.lss rfl rfl)<|wN<|wQ<|PWc.condT (congrArg (fun b=>some (PV.d (.v (.bool b)))) (decide_eq_true (Int.ofNat_lt.2 hi)))<|wK<|wQ<|wB ?_;refine wQ<|wR ?_;obtain⟨x5,hy6,h⟩:=wg h;have hE:=idxU hy6 hidx;subst hE;refine ws (iX (enc:=PT.e) (L:=c1) (y:=x5) underlying30 sizeOf94 rfl rfl hy6 (fun _=>rfl))<|ws (lE (ys:=[_,_]) isAgg94 sizeOf94 rfl rfl rfl)<|ws (LR.allocZ (cs:=[_,_]) zeroValue94 rfl rfl rfl rfl)<|ws (sB (ns:=[_,_]) sizeOf94 rfl rfl rfl rfl rfl rfl rfl)<|wN<|wQ<|wR<|ws (fR underlying94 rfl sizeOf22 (by decide) rfl rfl)<|ws (lD isAgg22 rfl rfl rfl) ?_;refine ws (LR.gtr rfl rfl)<|wN<|PWc.condT (congrArg (fun b=>some (PV.d (.v (.bool b)))) (decide_eq_true hd))<|wz (tl:=[(3,_),(5,_),(7,_),(8,_),(9,_)]) (to:=[(5,_),(6,_)]) ?_;refine PWc.regionE [⟨[16],[],[],[],[],[6],[],[]⟩,⟨[17],[],[],[],[],[5],[],[]⟩,⟨[18],[],[5],[],[],[],[],[]⟩,⟨[19],[],[],[],[],[6],[],[]⟩,⟨[20],[],[],[],[],[5],[],[]⟩,⟨[21],[],[5],[],[],[],[],[]⟩,⟨[22],[],[6],[],[],[],[],[]⟩,⟨[23],[],[],[],[],[5],[],[]⟩,⟨[24],[],[5],[],[],[],[],[]⟩,⟨[25],[25],[],[25],[],[25],[],[]⟩,⟨[],[6],[6,25],[],[],[],[25],[]⟩] (by kernel_rfl) (by kernel_rfl) rfl<|km ?_;refine kp (fun _ U W=>fR underlying94 rfl sizeOf22 (by decide) rfl U) ?_;refine kp (fun _ U W=>lD isAgg22 U (W rfl rfl) rfl)<|km ?_;refine kp (fun _ U W=>fR underlying94 rfl sizeOf22 (by decide) rfl U) ?_;refine kp (fun _ U W=>lD isAgg22 U (W rfl rfl) rfl) ?_;refine kp (fun _ U W=>LR.lookupPN underlying143 VT U (W rfl rfl) U rfl zeroValue92 rfl hpf) ?_;refine kp (fun _ U W=>fR underlying94 rfl sizeOf92 (by decide) rfl U) ?_;refine kp (fun _ U W=>lD isAgg92 U (W rfl rfl) rfl) ?_;obtain⟨hy7,h⟩:=yX h;refine PQe.stepN (fun _ U W hf=>LR.appNilX (enc:=RN.e) (R:=x5.runs) uv underlying92 (U rfl rfl) hf (Src.slT (enc:=RN.e) (R:=x5.runs) (evObjs (U rfl rfl)) (fun _=>rfl)) (fun _=>rfl) hy7 rfl (QH hf)) rfl (.inl rfl) rfl ?_;refine ks (fun _ U W=>LR.mapUpdatePN underlying143 VT U (W rfl rfl) U rfl rfl U hpf)<|PQe.nil<|wR<|ws (LR.addW rfl rfl)<|wm ?_;refine wN ?_;exact⟨rfl,sO rfl (.c2 rfl rfl rfl rfl<|.cons rfl rfl<|.cons rfl (congrArg (fun z=>PV.d (.v (.int .i64 z))) hwi)<|.nil) (.c2 rfl rfl rfl rfl<|.nil)⟩
  ·have hf:zn p=none:=by simp[zn,hd]
   rw[hf] at htk;refine .skip (by rw[htk];rfl) fun ctx vm bs ck=>?_
   have h:(M.bind (M.idx c1 (i:Int)) fun x8=>M.pure ()).wp (fun _=>True):=⟨p,hidx,trivial⟩
   refine wQ<|wR<|ws (LR.lss rfl rfl)<|wN<|wQ<|PWc.condT (congrArg (fun b=>some (PV.d (.v (.bool b)))) (decide_eq_true (Int.ofNat_lt.2 hi)))<|wK<|wQ<|wB ?_;refine wQ<|wR ?_;obtain⟨x8,hy9,h⟩:=wg h;have hE:=idxU hy9 hidx;subst hE;refine ws (iX (enc:=PT.e) (L:=c1) (y:=x8) underlying30 sizeOf94 rfl rfl hy9 (fun _=>rfl))<|ws (lE (ys:=[_,_]) isAgg94 sizeOf94 rfl rfl rfl)<|ws (LR.allocZ (cs:=[_,_]) zeroValue94 rfl rfl rfl rfl)<|ws (sB (ns:=[_,_]) sizeOf94 rfl rfl rfl rfl rfl rfl rfl)<|wN<|wQ<|wR<|ws (fR underlying94 rfl sizeOf22 (by decide) rfl rfl)<|ws (lD isAgg22 rfl rfl rfl) ?_;refine ws (LR.gtr rfl rfl)<|wN<|PWc.condF (congrArg (fun b=>some (PV.d (.v (.bool b)))) (decide_eq_false hd))<|wK<|wR<|ws (LR.addW rfl rfl)<|wm ?_;refine wN ?_;exact⟨rfl,sO rfl (.c2 rfl rfl rfl rfl<|.cons rfl rfl<|.cons rfl (congrArg (fun z=>PV.d (.v (.int .i64 z))) hwi)<|.nil) (.cons rfl rfl<|.nil)⟩
 ·have h:(M.pure ()).wp (fun _=>True):=trivial;refine wQ<|wR<|ws (LR.lss rfl rfl)<|wN<|wQ<|PWc.condF (congrArg (fun b=>some (PV.d (.v (.bool b)))) (decide_eq_false (by omega))) ?_;refine wZ ?_;exact⟨rfl,sP⟩
 ·refine wQ<|wR<|wm ?_;refine wa ?_;refine wN<|wX ?_;cases h;exact⟨.inr rfl,2,6,_,_,rfl,rfl,rfl⟩
theorem vP(c1:List PT)(r0:List PT)(h:(Zh c1).wp (·=r0)):PRow prog 74 [.d (.sl (List.map PT.e c1))] 94 2 (List.map PT.e r0):=by
 refine PRow.intro (sl:=[(0,_)]) func74 rfl ntmps74 rfl rfl ?_;intro ctx hK;refine wQ<|wR<|ws (aR 94 2 rfl)<|wN<|wQ<|wR<|wm ?_;obtain⟨v2,hy3,h⟩:=zH h;refine PWl.mapN (Zn c1 v2 hy3) rfl call105 rfl rfl rfl rfl rfl (fun bs4 ck4 _=>?_);obtain⟨v5,hy6,h⟩:=zH h;refine PWl.frzM [4] hK (.cons rfl<|.nil) rfl<|ws (LR.rowN (Wj v2 v5 hy6) rfl call104 rfl rfl rfl rfl)<|wy (tl:=[(0,_),(3,_),(4,_),(5,_)]) (to:=[(5,_)]) ?_;refine wa ?_;refine wN<|wX ?_;cases h;exact⟨.inr rfl,2,rfl,.inr ⟨5,_,rfl,(by simp),rfl⟩⟩
theorem un(s1_1:List RN)(s2_2:List RN)(r0:Bool)(h:(yQ s1_1 s2_2).wp (·=r0)):PFun prog 124 [.d (.sl (List.map RN.e s1_1)),.d (.sl (List.map RN.e s2_2))] (.d (.v (.bool r0))):=by
 refine fI (sl:=[(0,_),(1,_)]) func124 rfl ntmps124 rfl rfl ?_;intro ctx hK;refine wQ<|wR<|wa ?_;refine wN<|wQ<|wQ<|wR<|wm ?_;refine ws (lM (enc:=RN.e) (L:=s1_1) underlying92 rfl)<|wm ?_;refine ws (lM (enc:=RN.e) (L:=s2_2) underlying92 rfl)<|ws (nQ rfl rfl)<|wN ?_;refine xD h rfl (fun _ h=>?_) (fun _ h=>?_)
 ·refine wQ<|wR<|wa ?_;refine wN<|wX ?_;cases h;exact xT
 ·refine wK<|wQ<|wQ<|wR<|wm ?_;refine ws (lM (enc:=RN.e) (L:=s1_1) underlying92 rfl)<|wm ?_;refine wN ?_;refine PWc.jnX (zT h) (fun(_:Unit) (_:Unit)=>⟨26,[],[]⟩) (fun h=>?_) ?_
  ·refine wB<|wM (fun(v17:Int) (_:Unit)=>⟨26,[(0,.d (.sl (List.map RN.e s1_1))),(1,.d (.sl (List.map RN.e s2_2))),(12,.d (.v (.int .i64 (s1_1.length:Int)))),(13,.d (.v (.int .i64 v17)))],[]⟩) () h (sP) ?_;rintro N v17 _ h;refine wQ<|wR<|ws (LR.lss rfl rfl)<|wN<|wQ ?_;refine xD h rfl (fun _ h=>?_) (fun _ h=>?_)
   ·refine wK<|wQ<|wB<|wQ<|wR<|wm ?_;refine wa ?_;refine wN<|wQ<|wD (by kernel_rfl) (by kernel_rfl)<|qm ?_;refine qm ?_;obtain⟨x19,hy20,h⟩:=wg h;refine qs (fun _ U W=>iX (enc:=RN.e) (L:=s1_1) (y:=x19) underlying92 sizeOf117 U U hy20 (fun _=>rfl)) ?_;refine qs (fun _ U W=>lE (ys:=[_,_]) isAgg117 sizeOf117 U rfl rfl)<|qm ?_;refine qm ?_;obtain⟨x21,hy22,h⟩:=wg h;refine qs (fun _ U W=>iX (enc:=RN.e) (L:=s2_2) (y:=x21) underlying92 sizeOf117 U U hy22 (fun _=>rfl)) ?_;refine qs (fun _ U W=>lE (ys:=[_,_]) isAgg117 sizeOf117 U rfl rfl) ?_;refine qs (fun _ U W=>LR.neqAgg U U rfl rfl eq117)<|qN ?_;refine xD h rfl (fun _ h=>?_) (fun _ h=>?_)
    ·refine wQ<|wR<|wa ?_;refine wN<|wX ?_;cases h;exact xT
    ·refine wK<|wR<|ws (LR.addW rfl rfl)<|wm ?_;refine wN ?_;exact⟨(IntKind.i64.wrap (v17+1)),(),h,sP⟩
   ·refine wZ ?_;exact⟨(),(),h,sP⟩
  ·rintro _ _ h;refine wQ<|wR<|wa ?_;refine wN<|wX ?_;cases h;exact xT
theorem Jm(x1:PT)(y2:PT)(r0:Bool)(h:(VU x1 y2).wp (·=r0)):PFun prog 123 [.agg (List.map .d (PT.e x1)),.agg (List.map .d (PT.e y2))] (.d (.v (.bool r0))):=by
 refine fI (sl:=[(0,_),(1,_)]) func123 rfl ntmps123 rfl rfl ?_;intro ctx hK;refine wQ<|wR<|ws (LR.box rfl rfl rfl rfl)<|ws (LR.box rfl rfl rfl rfl)<|wa ?_;refine wN<|wQ ?_;refine wJ (zT h) (fun(v3:Bool) (_:Unit)=>⟨17,[(4,.d (.v (.bool v3)))],[]⟩) (fun h=>?_) ?_
 ·refine wR<|ws (fR underlying94 rfl sizeOf22 (by decide) rfl rfl)<|ws (lD isAgg22 rfl rfl rfl)<|ws (fR underlying94 rfl sizeOf22 (by decide) rfl rfl)<|ws (lD isAgg22 rfl rfl rfl)<|ws (eQ rfl rfl)<|wm ?_;refine xG (d:=10) h rfl (fun _ h=>?_) (fun _ h=>?_)
  ·refine wt (fR underlying94 rfl sizeOf92 (by decide) rfl rfl)<|wt (lD isAgg92 rfl rfl rfl)<|wt (fR underlying94 rfl sizeOf92 (by decide) rfl rfl)<|wt (lD isAgg92 rfl rfl rfl) ?_;obtain⟨v5,hy6,h⟩:=zH h;refine wt (cN (un x1.runs y2.runs v5 hy6) rfl call124 rfl rfl rfl rfl)<|ws (pT rfl rfl)<|wa ?_;refine wN ?_;exact⟨v5,(),h,sP⟩
  ·refine wf<|wf<|wf<|wf<|wf<|ws (pF rfl rfl)<|wa ?_;refine wN ?_;exact⟨false,(),h,sP⟩
 ·rintro v3 _ h;refine wX ?_;cases h;exact xT
theorem yl(s1_1:List PT)(s2_2:List PT)(r0:Bool)(h:(zX s1_1 s2_2).wp (·=r0)):PFun prog 122 [.d (.sl (List.map PT.e s1_1)),.d (.sl (List.map PT.e s2_2)),.d (.v (.func (.func 123) #[] #[]))] (.d (.v (.bool r0))):=by
 refine fI (sl:=[(0,_),(1,_),(2,_)]) func122 rfl ntmps122 rfl rfl ?_;intro ctx hK;refine wQ<|wR<|wa ?_;refine wN<|wQ<|wQ<|wR<|wm ?_;refine ws (lM (enc:=PT.e) (L:=s1_1) underlying30 rfl)<|wm ?_;refine ws (lM (enc:=PT.e) (L:=s2_2) underlying30 rfl)<|ws (nQ rfl rfl)<|wN ?_;refine xD h rfl (fun _ h=>?_) (fun _ h=>?_)
 ·refine wQ<|wR<|wa ?_;refine wN<|wX ?_;cases h;exact xT
 ·refine wK<|wQ<|wQ<|wR<|wm ?_;refine ws (lM (enc:=PT.e) (L:=s1_1) underlying30 rfl)<|wm ?_;refine wN ?_;refine PWc.jnX (zT h) (fun(_:Unit) (_:Unit)=>⟨32,[],[]⟩) (fun h=>?_) ?_
  ·refine wB<|wM (fun(v21:Int) (_:Unit)=>⟨32,[(1,.d (.sl (List.map PT.e s2_2))),(2,.d (.v (.func (.func 123) #[] #[]))),(15,.d (.sl (List.map PT.e s1_1))),(16,.d (.v (.int .i64 (s1_1.length:Int)))),(17,.d (.v (.int .i64 v21)))],[]⟩) () h (sP) ?_;rintro N v21 _ h;refine wQ<|wR<|ws (LR.lss rfl rfl)<|wN<|wQ ?_;refine xD h rfl (fun _ h=>?_) (fun _ h=>?_)
   ·refine wK<|wQ<|wB<|wQ<|wR<|wm ?_;obtain⟨x23,hy24,h⟩:=wg h;refine ws (iX (enc:=PT.e) (L:=s1_1) (y:=x23) underlying30 sizeOf94 rfl rfl hy24 (fun _=>rfl))<|ws (lE (ys:=[_,_]) isAgg94 sizeOf94 rfl rfl rfl)<|ws (LR.allocZ (cs:=[_,_]) zeroValue94 rfl rfl rfl rfl)<|wa ?_;refine ws (sB (ns:=[_,_]) sizeOf94 rfl rfl rfl rfl rfl rfl rfl)<|wN<|wQ<|wR<|wm ?_;refine wm ?_;obtain⟨x25,hy26,h⟩:=wg h;refine ws (iX (enc:=PT.e) (L:=s2_2) (y:=x25) underlying30 sizeOf94 rfl rfl hy26 (fun _=>rfl))<|ws (lE (ys:=[_,_]) isAgg94 sizeOf94 rfl rfl rfl)<|ws (LR.allocZ (cs:=[_,_]) zeroValue94 rfl rfl rfl rfl)<|ws (sB (ns:=[_,_]) sizeOf94 rfl rfl rfl rfl rfl rfl rfl)<|wN<|wQ<|wR<|wm ?_;refine ws (lA (ps:=[_,_]) isAgg94 sizeOf94 rfl rfl rfl rfl)<|ws (lA (ps:=[_,_]) isAgg94 sizeOf94 rfl rfl rfl rfl) ?_;obtain⟨v27,hy28,h⟩:=zH h;refine xN (Jm x23 x25 v27 hy28) call123<|ws (LR.not rfl)<|wN ?_;refine xD h rfl (fun _ h=>?_) (fun _ h=>?_)
    ·refine wQ<|wR<|wy (tl:=[]) (to:=[]) ?_;refine wa ?_;refine wN<|wX ?_;cases h;exact xT
    ·refine wK<|wR<|wy (tl:=[(1,_),(2,_),(15,_),(16,_),(17,_)]) (to:=[]) ?_;refine ws (LR.addW rfl rfl)<|wm ?_;refine wN ?_;exact⟨(IntKind.i64.wrap (v21+1)),(),h,sP⟩
   ·refine wZ ?_;exact⟨(),(),h,sP⟩
  ·rintro _ _ h;refine wQ<|wR<|wa ?_;refine wN<|wX ?_;cases h;exact xT
theorem xPa(a1:List PT)(b2:List PT)(r0:Bool)(h:(zCa a1 b2).wp (·=r0)):PFun prog 98 [.d (.sl (List.map PT.e a1)),.d (.sl (List.map PT.e b2))] (.d (.v (.bool r0))):=by
 refine fI (sl:=[(0,_),(1,_)]) func98 rfl ntmps98 rfl rfl ?_;intro ctx hK;refine wQ<|wR<|wa ?_;refine wN<|wQ<|wR<|wm ?_;refine wm ?_;obtain⟨v3,hy4,h⟩:=zH h;refine xN (yl a1 b2 v3 hy4) call122<|wa ?_;refine wN<|wX ?_;cases h;exact xT
theorem xA(c1:List PT)(r0:Bool)(h:(xU c1).wp (·=r0)):PFun prog 67 [.d (.sl (List.map PT.e c1))] (.d (.v (.bool r0))):=by
 refine fI (sl:=[(0,_)]) func67 rfl ntmps67 rfl rfl ?_;intro ctx hK;refine wQ<|wR<|wa ?_;refine wN<|wQ<|wR<|wm ?_;refine wm ?_;obtain⟨v2,hy3,h⟩:=zH h;refine ws (LR.rowN (vP c1 v2 hy3) rfl call74 rfl rfl rfl rfl) ?_;obtain⟨v4,hy5,h⟩:=zH h;refine PWl.frz [5] hK (.cons rfl<|.nil) rfl (by simp) ?_;refine xN (xPa c1 v2 v4 hy5) call98<|wa ?_;refine wN<|wX ?_;cases h;exact xT
theorem Jo(a1:List RN)(b2:List RN)(r0:List RN)(h:(Xa a1 b2).wp (·=r0)):PRow prog 179 [.d (.sl (List.map RN.e a1)),.d (.sl (List.map RN.e b2))] 117 2 (List.map RN.e r0):=by
 refine PRow.intro (sl:=[(0,_),(1,_)]) func179 rfl ntmps179 rfl rfl ?_;intro ctx hK;refine wQ<|wR<|ws (aR 117 2 rfl)<|wN<|wQ<|wR<|wm ?_;obtain⟨v3,hy4,h⟩:=zH h;refine ws (LR.rowN (wj a1 v3 hy4) rfl call133 rfl rfl rfl rfl)<|wm ?_;obtain⟨v5,hy6,h⟩:=zH h;refine ws (LR.rowN (wj b2 v5 hy6) rfl call133 rfl rfl rfl rfl)<|wa ?_;refine wa ?_;refine wN<|wQ<|wR<|ws (aR 117 2 rfl)<|wN<|wQ ?_;refine wJ (zT h) (fun(out7:List RN) (_:Unit)=>⟨61,[(5,.row 5 (out7.length))],[(5,.row 117 2 (List.map RN.e out7))]⟩) (fun h=>?_) ?_
 ·refine wB<|wM (fun(⟨a53,b54,out55⟩:List RN×List RN×List RN) (_:Unit)=>⟨61,[(0,.d (.sl (List.map RN.e a53))),(1,.d (.sl (List.map RN.e b54))),(5,.row 5 (out55.length))],[(5,.row 117 2 (List.map RN.e out55))]⟩) () h (Sub.trans (Sub.frz [0,8] hK rfl (by simp) (AllRow.get (.cons rfl<|.cons rfl<|.nil)))<|Sub.trans (Sub.frz [1,10] hK rfl (by simp) (AllRow.get (.cons rfl<|.cons rfl<|.nil)))<|sP) ?_;rintro N ⟨a53,b54,out55⟩ _ h;refine wQ<|wQ ?_;refine wJ (zT h) (fun(v56:Bool) (_:Unit)=>⟨61,[(0,.d (.sl (List.map RN.e a53))),(1,.d (.sl (List.map RN.e b54))),(5,.row 5 (out55.length)),(18,.d (.v (.bool v56)))],[(5,.row 117 2 (List.map RN.e out55))]⟩) (fun h=>?_) ?_
  ·refine wR<|wm ?_;refine ws (lM (enc:=RN.e) (L:=a53) underlying92 rfl)<|ws (LR.gtr rfl rfl)<|wm ?_;refine xG (d:=14) h rfl (fun _ h=>?_) (fun _ h=>?_)
   ·refine wt (mV rfl)<|wt (lM (enc:=RN.e) (L:=b54) underlying92 rfl)<|wt (LR.gtr rfl rfl)<|ws (pT rfl rfl)<|wN ?_;exact⟨(decide (0 < (b54.length:Int))),(),h,sP⟩
   ·refine wf<|wf<|wf<|ws (pF rfl rfl)<|wN ?_;exact⟨false,(),h,sP⟩
  ·rintro v56 _ h;refine xD h rfl (fun _ h=>?_) (fun _ h=>?_)
   ·refine wK<|wB<|wQ<|wQ<|wz (tl:=[(0,_),(1,_),(5,_)]) (to:=[(5,_)]) ?_;refine PWc.regionE [{ws:=[19]},{ws:=[20]},{ws:=[21]},{ws:=[22]},{ws:=[23]},{ws:=[24]},{ws:=[25]},{ws:=[26]},{ws:=[27]},{ws:=[28]},{ws:=[29]},{ws:=[30]},{ws:=[31]},{ws:=[32]},{ws:=[33]},{ws:=[34]},{ws:=[35]},{ws:=[36]},{ws:=[37]},⟨[6],[6],[],[6],[],[6],[],[]⟩,⟨[],[6],[6],[],[],[],[],[]⟩] (by kernel_rfl) (by kernel_rfl) rfl<|km ?_;obtain⟨x59,hy60,h⟩:=wg h;refine kp (fun _ U W=>iX (enc:=RN.e) (L:=a53) (y:=x59) underlying92 sizeOf117 U U hy60 (fun _=>rfl)) ?_;refine kp (fun _ U W=>fE underlying117 rfl sizeOf23 (by decide) rfl U) ?_;refine kp (fun _ U W=>LR.loadEp isAgg23 U rfl)<|km ?_;obtain⟨x61,hy62,h⟩:=wg h;refine kp (fun _ U W=>iX (enc:=RN.e) (L:=b54) (y:=x61) underlying92 sizeOf117 U U hy62 (fun _=>rfl)) ?_;refine kp (fun _ U W=>fE underlying117 rfl sizeOf23 (by decide) rfl U) ?_;refine kp (fun _ U W=>LR.loadEp isAgg23 U rfl) ?_;refine kp (fun _ U W=>LR.maxI U U)<|km ?_;obtain⟨x63,hy64,h⟩:=wg h;refine kp (fun _ U W=>iX (enc:=RN.e) (L:=a53) (y:=x63) underlying92 sizeOf117 U U hy64 (fun _=>rfl)) ?_;refine kp (fun _ U W=>fE underlying117 rfl sizeOf23 (by decide) rfl U) ?_;refine kp (fun _ U W=>LR.loadEp isAgg23 U rfl)<|km ?_;obtain⟨x65,hy66,h⟩:=wg h;refine kp (fun _ U W=>iX (enc:=RN.e) (L:=b54) (y:=x65) underlying92 sizeOf117 U U hy66 (fun _=>rfl)) ?_;refine kp (fun _ U W=>fE underlying117 rfl sizeOf23 (by decide) rfl U) ?_;refine kp (fun _ U W=>LR.loadEp isAgg23 U rfl) ?_;refine kp (fun _ U W=>LR.minI U U) ?_;refine kp (fun _ U W=>LR.build (ns:=[_,_]) Wv rfl (evpE (fun a b=>U a b) rfl rfl) rfl) ?_;refine PQe.stepN (fun _ U W hf=>LR.allocZ (cs:=[_,_]) zeroValue117 rfl rfl rfl hf) rfl (.inl rfl) rfl ?_;refine ks (fun _ U W=>sB (ns:=[_,_]) sizeOf117 U U rfl rfl (W rfl rfl) rfl rfl)<|PQe.nil<|wQ<|wR<|wy (tl:=[(0,_),(1,_),(5,_),(6,_)]) (to:=[(5,_),(6,_)]) ?_;refine ws (fR underlying117 rfl sizeOf23 (by decide) rfl rfl)<|ws (lD isAgg23 rfl rfl rfl)<|ws (fR underlying117 rfl sizeOf23 (by decide) rfl rfl)<|ws (lD isAgg23 rfl rfl rfl)<|ws (LR.leq rfl rfl)<|wN ?_;refine wJ (zT h) (fun(out67:List RN) (_:Unit)=>⟨61,[(0,.d (.sl (List.map RN.e a53))),(1,.d (.sl (List.map RN.e b54))),(5,.row 5 (out67.length))],[(5,.row 117 2 (List.map RN.e out67))]⟩) (fun h=>?_) ?_
    ·refine xD h rfl (fun _ h=>?_) (fun _ h=>?_)
     ·refine wR<|wm ?_;refine ws (lA (ps:=[_,_]) isAgg117 sizeOf117 rfl rfl rfl rfl)<|ws (LR.buildSliceD [.tmp 44] uv rfl rfl (.cons rfl rfl rfl<|.nil) (by decide) (by decide)) ?_;obtain⟨hy69,h⟩:=yX h;refine ws (LR.appT (enc:=RN.e) (L:=out55) (R:=[(⟨(max x59.lo x61.lo),(min x63.hi x65.hi)⟩:RN)]) [5,43] uv underlying92 rfl rfl rfl (Src.slT (enc:=RN.e) (R:=[(⟨(max x59.lo x61.lo),(min x63.hi x65.hi)⟩:RN)]) rfl (fun _=>rfl)) (fun _=>rfl) hy69 rfl rfl)<|wa ?_;refine wN ?_;exact⟨(out55++[(⟨(max x59.lo x61.lo),(min x63.hi x65.hi)⟩:RN)]),(),h,sO rfl (.c2 rfl rfl rfl rfl<|.cons rfl (by first | rfl | (simp;done) | (congr 1;first | (simp;done) | (simp;omega) | omega))<|.nil) (.cons rfl rfl<|.nil)⟩
     ·refine wK ?_;exact⟨out55,(),h,sP⟩
    ·rintro out67 _ h;refine wQ<|wD (by kernel_rfl) (by kernel_rfl)<|qm ?_;obtain⟨x70,hy71,h⟩:=wg h;refine qs (fun _ U W=>iX (enc:=RN.e) (L:=a53) (y:=x70) underlying92 sizeOf117 U U hy71 (fun _=>rfl)) ?_;refine qs (fun _ U W=>fE underlying117 rfl sizeOf23 (by decide) rfl U) ?_;refine qs (fun _ U W=>LR.loadEp isAgg23 U rfl)<|qm ?_;obtain⟨x72,hy73,h⟩:=wg h;refine qs (fun _ U W=>iX (enc:=RN.e) (L:=b54) (y:=x72) underlying92 sizeOf117 U U hy73 (fun _=>rfl)) ?_;refine qs (fun _ U W=>fE underlying117 rfl sizeOf23 (by decide) rfl U) ?_;refine qs (fun _ U W=>LR.loadEp isAgg23 U rfl) ?_;refine qs (fun _ U W=>LR.lss U U)<|qN ?_;refine xD h rfl (fun _ h=>?_) (fun _ h=>?_)
     ·refine wR<|wm ?_;obtain⟨hy75,h⟩:=yX h;refine ws (LR.cutLT (enc:=RN.e) (L:=a53) underlying92 sizeOf117 rfl (fun _=>rfl) rfl hy75)<|wa ?_;refine wN ?_;exact⟨((List.drop (Int.toNat 1) (List.take (Int.toNat (a53.length:Int)) a53)),b54,out67),(),h,sP⟩
     ·refine wR<|wm ?_;obtain⟨hy76,h⟩:=yX h;refine ws (LR.cutLT (enc:=RN.e) (L:=b54) underlying92 sizeOf117 rfl (fun _=>rfl) rfl hy76)<|wa ?_;refine wN ?_;exact⟨(a53,(List.drop (Int.toNat 1) (List.take (Int.toNat (b54.length:Int)) b54)),out67),(),h,sP⟩
   ·refine wZ ?_;exact⟨out55,(),h,sP⟩
 ·rintro out7 _ h;refine wQ<|wR<|wm ?_;refine wa ?_;refine wN<|wX ?_;cases h;exact⟨.inr rfl,4,rfl,.inr ⟨5,_,rfl,(by simp),rfl⟩⟩
theorem Jp(l1:List RN)(r0:List RN)(h:(Xb l1).wp (·=r0)):PRow prog 180 [.d (.sl (List.map RN.e l1))] 117 2 (List.map RN.e r0):=by
 refine PRow.intro (sl:=[(0,_)]) func180 rfl ntmps180 rfl rfl ?_;intro ctx hK;refine wQ<|wR<|ws (aR 117 2 rfl)<|wN<|wQ<|wR<|ws (aR 117 2 rfl)<|wN<|wQ ?_;refine wR<|wa ?_;refine wN<|wQ<|wQ<|wR<|wm ?_;obtain⟨v2,hy3,h⟩:=zH h;refine ws (LR.rowN (wj l1 v2 hy3) rfl call133 rfl rfl rfl rfl)<|ws (LR.lenRow underlying92 rfl)<|wm ?_;refine wN ?_;refine wJ (zT h) (fun(⟨at4,out5⟩:Int×List RN) (_:Unit)=>⟨31,[(3,.row 3 (out5.length)),(4,.d (.v (.int .u64 at4)))],[(3,.row 117 2 (List.map RN.e out5))]⟩) (fun h=>?_) ?_
 ·refine wB<|wM (fun(⟨at17,v18,out19⟩:Int×Int×List RN) (_:Unit)=>⟨31,[(3,.row 3 (out19.length)),(4,.d (.v (.int .u64 at17))),(8,.row 8 (v2.length)),(9,.d (.v (.int .i64 (v2.length:Int)))),(10,.d (.v (.int .i64 v18)))],[(3,.row 117 2 (List.map RN.e out19)),(8,.row 117 2 (List.map RN.e v2))]⟩) () h (sP) ?_;rintro N ⟨at17,v18,out19⟩ _ h;refine wQ<|wR<|ws (LR.lss rfl rfl)<|wN<|wQ ?_;refine xD h rfl (fun _ h=>?_) (fun _ h=>?_)
  ·refine wK<|wQ<|wB<|wQ<|wR ?_;obtain⟨x21,hy22,h⟩:=wg h;refine ws (LR.idxRowT (L:=v2) (y:=x21) underlying92 sizeOf117 rfl rfl rfl hy22)<|ws (LR.loadRpT (enc:=RN.e) (L:=v2) (y:=x21) isAgg117 sizeOf117 rfl rfl hy22.2)<|ws (LR.allocZ (cs:=[_,_]) zeroValue117 rfl rfl rfl rfl)<|ws (sB (ns:=[_,_]) sizeOf117 rfl rfl rfl rfl rfl rfl rfl)<|wN<|wQ<|wR<|wm ?_;refine wm ?_;refine ws (fR underlying117 rfl sizeOf23 (by decide) rfl rfl)<|ws (lD isAgg23 rfl rfl rfl)<|ws (LR.subW rfl rfl)<|ws (LR.build (ns:=[_,_]) Wv rfl rfl rfl)<|ws (LR.buildSliceD [.tmp 19] uv rfl rfl (.cons rfl rfl rfl<|.nil) (by decide) (by decide)) ?_;obtain⟨hy23,h⟩:=yX h;refine ws (LR.appT (enc:=RN.e) (L:=out19) (R:=[(⟨at17,(IntKind.u64.wrap (x21.lo - 1))⟩:RN)]) [3,14] uv underlying92 rfl rfl rfl (Src.slT (enc:=RN.e) (R:=[(⟨at17,(IntKind.u64.wrap (x21.lo - 1))⟩:RN)]) rfl (fun _=>rfl)) (fun _=>rfl) hy23 rfl rfl)<|wa ?_;refine wN<|wR<|ws (fR underlying117 rfl sizeOf23 (by decide) rfl rfl)<|ws (lD isAgg23 rfl rfl rfl)<|ws (LR.addW rfl rfl)<|wy (tl:=[(3,_),(4,_),(8,_),(9,_),(10,_),(24,_)]) (to:=[(3,_),(8,_)]) ?_;refine wa ?_;refine wN<|wR<|ws (LR.addW rfl rfl)<|wm ?_;refine wN ?_;exact⟨((IntKind.u64.wrap (x21.hi+1)),(IntKind.i64.wrap (v18+1)),(out19++[(⟨at17,(IntKind.u64.wrap (x21.lo - 1))⟩:RN)])),(),h,sO rfl (.cons rfl (by first | rfl | (simp;done) | (congr 1;first | (simp;done) | (simp;omega) | omega))<|.c4 rfl rfl rfl rfl rfl rfl rfl rfl<|.nil) (.c2 rfl rfl rfl rfl<|.nil)⟩
  ·refine wZ ?_;exact⟨(at17,out19),(),h,sP⟩
 ·rintro⟨at4,out5⟩ _ h;refine wQ<|wR<|wm ?_;refine wm ?_;refine ws (LR.build (ns:=[_,_]) Wv rfl rfl rfl)<|ws (LR.buildSliceD [.tmp 28] uv rfl rfl (.cons rfl rfl rfl<|.nil) (by decide) (by decide)) ?_;obtain⟨hy24,h⟩:=yX h;refine ws (LR.appT (enc:=RN.e) (L:=out5) (R:=[(⟨at4,281474976710655⟩:RN)]) [3,26] uv underlying92 rfl rfl rfl (Src.slT (enc:=RN.e) (R:=[(⟨at4,281474976710655⟩:RN)]) rfl (fun _=>rfl)) (fun _=>rfl) hy24 rfl rfl)<|wa ?_;refine wN<|wX ?_;cases h;exact⟨.inr rfl,2,rfl,.inr ⟨3,_,rfl,(by simp),rfl⟩⟩
theorem jN(a1:List RN)(b2:List RN)(r0:List RN)(h:(ZO a1 b2).wp (·=r0)):PRow prog 155 [.d (.sl (List.map RN.e a1)),.d (.sl (List.map RN.e b2))] 117 2 (List.map RN.e r0):=by
 refine PRow.intro (sl:=[(0,_),(1,_)]) func155 rfl ntmps155 rfl rfl ?_;intro ctx hK;refine wQ<|wR<|ws (aR 117 2 rfl)<|wN<|wQ<|wR<|wm ?_;refine wm ?_;obtain⟨v3,hy4,h⟩:=zH h;refine ws (LR.rowN (Jp b2 v3 hy4) rfl call180 rfl rfl rfl rfl) ?_;obtain⟨v5,hy6,h⟩:=zH h;refine PWl.frz [7] hK (.cons rfl<|.nil) rfl (by simp) ?_;refine ws (LR.rowN (Jo a1 v3 v5 hy6) rfl call179 rfl rfl rfl rfl)<|wy (tl:=[(0,_),(1,_),(5,_),(6,_),(7,_),(8,_)]) (to:=[(8,_)]) ?_;refine wa ?_;refine wN<|wX ?_;cases h;exact⟨.inr rfl,4,rfl,.inr ⟨8,_,rfl,(by simp),rfl⟩⟩
theorem YJ(a1:List PT)(b2:List PT)(r0:List PT)(h:(wV a1 b2).wp (·=r0)):PRow prog 154 [.d (.sl (List.map PT.e a1)),.d (.sl (List.map PT.e b2)),.d (.v (.func (.func 155) #[] #[]))] 94 2 (List.map PT.e r0):=by
 refine PRow.intro (sl:=[(0,_),(1,_),(2,_)]) func154 rfl ntmps154 rfl rfl ?_;intro ctx hK;refine wQ<|wR<|ws (aR 94 2 rfl)<|wN<|wQ<|wR<|wm ?_;obtain⟨v3,hy4,h⟩:=zH h;refine PWl.mapN (Zn a1 v3 hy4) rfl call105 rfl rfl rfl rfl rfl (fun bs5 ck5 _=>?_);refine wm ?_;obtain⟨v6,hy7,h⟩:=zH h;refine PWl.mapN (Zn b2 v6 hy7) rfl call105 rfl rfl rfl rfl rfl (fun bs8 ck8 _=>?_);refine wa ?_;refine wa ?_;refine wN<|wQ<|wQ<|wR<|wm ?_;refine ws (LR.rangeO underlying143 rfl rfl rfl)<|wN ?_;refine wJ (zT h) (fun(v9:List (Int×List RN)) (_:Unit)=>⟨32,[(7,.mp 12)],[(12,.map [.u16] false (xF kI (eL RN.e) v9) bs5 ck5)]⟩) (fun h=>?_) ?_
 ·refine wB<|wM (fun(⟨seen32,v33⟩:List Nat×(List (Int×List RN))) (_:Unit)=>⟨32,[(2,.d (.v (.func (.func 155) #[] #[]))),(7,.mp 12),(8,.mp 14),(16,.ref 16 0)],[(12,.map [.u16] false (xF kI (eL RN.e) v33) bs5 ck5),(14,.map [.u16] false (xF kI (eL RN.e) v6) bs8 ck8),(16,.iterO 12 bs5 ck5 seen32)]⟩) () h (sP) ?_;rintro N ⟨seen32,v33⟩ _ h;refine wQ<|wR ?_;obtain⟨hy43,h⟩:=yX h;replace h:=iNxt h;refine PWl.nextO rfl rfl rfl (nxtD hy43) rfl (fun hy35=>?_) (fun j34 hy36 hy37=>?_)
  ·replace h:=h.1 (nxtA hy35);refine ws (LR.extract rfl rfl)<|wN<|wQ<|PWc.condF rfl<|wZ ?_;exact⟨v33,(),h,sP⟩
  ·replace h:=h.2 j34 (nxtB hy36) hy37;refine ws (LR.extract rfl rfl)<|wN<|wQ<|PWc.condT rfl<|wK<|wB<|wQ<|wR ?_;obtain⟨kv38,hy39,h⟩:=wg h;refine ws (LR.entryO rfl rfl rfl (entGet hy39) rfl rfl)<|ws (LR.extract rfl rfl)<|ws (LR.extract rfl rfl)<|wa ?_;refine wa ?_;refine wN<|wR<|wm ?_;refine wm ?_;refine wm ?_;refine wm ?_;refine wm ?_;refine wm ?_;refine ws (LR.getO (eV:=(eL RN.e)) (zv:=([]:List RN)) (q:=kv38.1) (m:=v6) zAa underlying143 VT zeroValue92 (zRd1 (.slice none 0 0) rfl) rfl rfl rfl rfl rfl rfl) ?_;obtain⟨v40,hy41,h⟩:=zH h;refine ws (LR.rowN (jN kv38.2 (AL.getZ v6 kv38.1 ([]:List RN)) v40 hy41) rfl call155 rfl rfl rfl rfl) ?_;obtain⟨hy42,h⟩:=yX h;refine PWl.frz [29] hK (.cons rfl<|.nil) rfl (by simp) ?_;refine ws (LR.setIn (eV:=(eL RN.e)) (q:=kv38.1) (v:=v40) (m:=v33) zAa underlying143 VT rfl rfl rfl rfl rfl rfl rfl (fun _=>rfl) hy42)<|wN ?_;exact⟨((seen32++[j34]),(AL.set v33 kv38.1 v40)),(),h,sP⟩
 ·rintro v9 _ h;refine wQ<|wR<|wm ?_;obtain⟨v44,hy45,h⟩:=zH h;refine PWl.frzM [7,30] hK (.cons rfl<|.cons rfl<|.nil) rfl<|ws (LR.rowN (Wj v9 v44 hy45) rfl call104 rfl rfl rfl rfl)<|wa ?_;refine wN<|wX ?_;cases h;exact⟨.inr rfl,6,rfl,.inr ⟨31,_,rfl,(by simp),rfl⟩⟩
theorem Jq(a1:List PT)(b2:List PT)(r0:List PT)(h:(Xc a1 b2).wp (·=r0)):PRow prog 142 [.d (.sl (List.map PT.e a1)),.d (.sl (List.map PT.e b2))] 94 2 (List.map PT.e r0):=by
 refine PRow.intro (sl:=[(0,_),(1,_)]) func142 rfl ntmps142 rfl rfl ?_;intro ctx hK;refine wQ<|wR<|ws (aR 94 2 rfl)<|wN<|wQ<|wR<|wm ?_;refine wm ?_;obtain⟨v3,hy4,h⟩:=zH h;refine ws (LR.rowN (YJ a1 b2 v3 hy4) rfl call154 rfl rfl rfl rfl)<|wy (tl:=[(0,_),(1,_),(5,_),(6,_),(7,_)]) (to:=[(7,_)]) ?_;refine wa ?_;refine wN<|wX ?_;cases h;exact⟨.inr rfl,4,rfl,.inr ⟨7,_,rfl,(by simp),rfl⟩⟩
theorem jO(a1:List PT)(b2:List PT)(r0:Bool)(h:(Yi a1 b2).wp (·=r0)):PFun prog 125 [.d (.sl (List.map PT.e a1)),.d (.sl (List.map PT.e b2))] (.d (.v (.bool r0))):=by
 refine fI (sl:=[(0,_),(1,_)]) func125 rfl ntmps125 rfl rfl ?_;intro ctx hK;refine wQ<|wR<|wa ?_;refine wN<|wQ<|wR<|wm ?_;refine wm ?_;obtain⟨v3,hy4,h⟩:=zH h;refine ws (LR.rowN (Jq a1 b2 v3 hy4) rfl call142 rfl rfl rfl rfl)<|ws (LR.lenRow underlying30 rfl)<|ws (eQ rfl rfl)<|wa ?_;refine wN<|wX ?_;cases h;exact xT
theorem Yy(x1:RN)(n2:Int)(r0:Int)(h:(uV x1 n2).wp (·=r0)):PFun prog 157 [.agg (List.map .d (RN.e x1)),.d (.v (.int .u64 n2))] (.d (.v (.int .i64 r0))):=by
 refine fI (sl:=[(0,_),(1,_)]) func157 rfl ntmps157 rfl rfl ?_;intro ctx hK;refine wQ<|wR<|ws (LR.box rfl rfl rfl rfl)<|wa ?_;refine wN<|wQ<|wR<|ws (fR underlying117 rfl sizeOf23 (by decide) rfl rfl)<|ws (lD isAgg23 rfl rfl rfl)<|wm ?_;obtain⟨v3,hy4,h⟩:=zH h;refine xN (vg x1.hi n2 v3 hy4) call114<|wa ?_;refine wN<|wX ?_;cases h;exact xT
theorem yM(x1:List RN)(target2:Int)(r0:Int×Bool)(h:(zP x1 target2).wp (·=r0)):PFun prog 156 [.d (.sl (List.map RN.e x1)),.d (.v (.int .u64 target2)),.d (.v (.func (.func 157) #[] #[]))] (.tup [.d (.v (.int .i64 r0.1)),.d (.v (.bool r0.2))]):=by
 refine fI (sl:=[(0,_),(1,_),(2,_)]) func156 rfl ntmps156 rfl rfl ?_;intro ctx hK;refine wQ<|wR<|wa ?_;refine wa ?_;refine wN<|wQ<|wR<|wm ?_;refine ws (lM (enc:=RN.e) (L:=x1) underlying92 rfl)<|wa ?_;refine wN<|wQ<|wR<|wm ?_;refine wa ?_;refine wa ?_;refine wN<|wQ ?_;refine wJ (zT h) (fun(i3:Int) (_:Unit)=>⟨49,[(0,.d (.sl (List.map RN.e x1))),(1,.d (.v (.int .u64 target2))),(2,.d (.v (.func (.func 157) #[] #[]))),(8,.d (.v (.int .i64 (x1.length:Int)))),(9,.d (.v (.int .i64 i3)))],[]⟩) (fun h=>?_) ?_
 ·refine wB<|wM (fun(⟨i18,j19⟩:Int×Int) (_:Unit)=>⟨49,[(0,.d (.sl (List.map RN.e x1))),(1,.d (.v (.int .u64 target2))),(2,.d (.v (.func (.func 157) #[] #[]))),(8,.d (.v (.int .i64 (x1.length:Int)))),(9,.d (.v (.int .i64 i18))),(10,.d (.v (.int .i64 j19)))],[]⟩) () h (sP) ?_;rintro N ⟨i18,j19⟩ _ h;refine wQ<|wQ<|wR<|wm ?_;refine wm ?_;refine ws (LR.lss rfl rfl)<|wN ?_;refine xD h rfl (fun _ h=>?_) (fun _ h=>?_)
  ·refine wK<|wB<|wQ<|wR<|wm ?_;refine wm ?_;refine ws (LR.addW rfl rfl) ?_;refine ws (LR.convInt underlying156 (by rw[underlying3];rfl) rfl rfl) ?_;refine ws (LR.shr rfl rfl (by decide) rfl) ?_;refine ws (LR.convInt underlying3 (by rw[underlying156];rfl) rfl rfl) ?_;refine wa ?_;refine wN<|wQ<|wR<|wm ?_;refine wm ?_;refine wm ?_;obtain⟨x21,hy22,h⟩:=wg h;refine ws (iX (enc:=RN.e) (L:=x1) (y:=x21) underlying92 sizeOf117 rfl rfl hy22 (fun _=>rfl))<|ws (lE (ys:=[_,_]) isAgg117 sizeOf117 rfl rfl rfl)<|wy (tl:=[(0,_),(1,_),(2,_),(8,_),(9,_),(10,_),(11,_),(24,_),(28,_)]) (to:=[]) ?_;refine wm ?_;obtain⟨v23,hy24,h⟩:=zH h;refine xN (Yy x21 target2 v23 hy24) call157<|ws (LR.lss rfl rfl)<|wN ?_;refine xD h rfl (fun _ h=>?_) (fun _ h=>?_)
   ·refine wR<|wm ?_;refine ws (LR.addW rfl rfl)<|wa ?_;refine wN ?_;exact⟨((IntKind.i64.wrap (((IntKind.i64.wrap ((Int.fdiv ((IntKind.u64.wrap (IntKind.i64.wrap (i18+j19)))) (2 ^ 1)))))+1)),j19),(),h,sP⟩
   ·refine wR<|wm ?_;refine wa ?_;refine wN ?_;exact⟨(i18,(IntKind.i64.wrap ((Int.fdiv ((IntKind.u64.wrap (IntKind.i64.wrap (i18+j19)))) (2 ^ 1))))),(),h,sP⟩
  ·refine wZ ?_;exact⟨i18,(),h,sP⟩
 ·rintro i3 _ h;refine wQ ?_;refine wJ (zT h) (fun(v26:Bool) (_:Unit)=>⟨49,[(6,.d (.v (.int .i64 i3))),(7,.d (.v (.bool v26)))],[]⟩) (fun h=>?_) ?_
  ·refine wR<|wm ?_;refine wm ?_;refine wm ?_;refine ws (LR.lss rfl rfl)<|wm ?_;refine xG (d:=39) h rfl (fun _ h=>?_) (fun _ h=>?_)
   ·refine wt (mV rfl)<|wt (mV rfl)<|wt (mV rfl) ?_;obtain⟨x28,hy29,h⟩:=wg h;refine wt (iX (enc:=RN.e) (L:=x1) (y:=x28) underlying92 sizeOf117 rfl rfl hy29 (fun _=>rfl))<|wt (lE (ys:=[_,_]) isAgg117 sizeOf117 rfl rfl rfl)<|wt (mV rfl) ?_;obtain⟨v30,hy31,h⟩:=zH h;refine wt (cN (Yy x28 target2 v30 hy31) rfl call157 rfl rfl rfl rfl)<|wt (eQ rfl rfl)<|ws (pT rfl rfl)<|wa ?_;refine wy (tl:=[(6,_),(48,_)]) (to:=[]) ?_;refine wa ?_;refine wN ?_;exact⟨(decide (v30=0)),(),h,sP⟩
   ·refine wf<|wf<|wf<|wf<|wf<|wf<|wf<|wf<|ws (pF rfl rfl) ?_;refine wa ?_;refine wy (tl:=[(6,_),(48,_)]) (to:=[]) ?_;refine wa ?_;refine wN ?_;exact⟨false,(),h,sP⟩
  ·rintro v26 _ h;refine wX ?_;cases h;exact⟨.inr rfl,_,.cons (.tmp rfl rfl)<|.cons (.tmp rfl rfl)<|.nil,rfl⟩
theorem QN(l1:List RN)(n2:Int)(r0:Bool)(h:(Wx l1 n2).wp (·=r0)):PFun prog 143 [.d (.sl (List.map RN.e l1)),.d (.v (.int .u64 n2))] (.d (.v (.bool r0))):=by
 refine fI (sl:=[(0,_),(1,_)]) func143 rfl ntmps143 rfl rfl ?_;intro ctx hK;refine wQ<|wR<|wa ?_;refine wN<|wQ<|wR<|wm ?_;obtain⟨v3,hy4,h⟩:=zH h;refine ws (LR.rowN (wj l1 v3 hy4) rfl call133 rfl rfl rfl rfl)<|wa ?_;refine wN<|wQ<|wR<|wm ?_;refine wm ?_;obtain⟨v5,hy6,h⟩:=zH h;refine PWl.frz [0,8,10] hK (.cons rfl<|.cons rfl<|.cons rfl<|.nil) rfl (by simp) ?_;refine xN (yM v3 n2 v5 hy6) call156<|wm ?_;refine ws (LR.extract rfl rfl)<|ws (LR.extract rfl rfl)<|wa ?_;refine wa ?_;refine wN<|wQ ?_;refine wJ (zT h) (fun(v7:Bool) (_:Unit)=>⟨28,[(4,.d (.v (.bool v7)))],[]⟩) (fun h=>?_) ?_
 ·refine wR<|wm ?_;refine wm ?_;refine ws (lM (enc:=RN.e) (L:=v3) underlying92 rfl)<|ws (LR.lss rfl rfl)<|wm ?_;refine xG (d:=19) h rfl (fun _ h=>?_) (fun _ h=>?_)
  ·refine wt (mV rfl)<|wy (tl:=[(1,_),(4,_),(5,_),(19,_),(20,_)]) (to:=[]) ?_;refine wt (mV rfl) ?_;obtain⟨x9,hy10,h⟩:=wg h;refine wt (iX (enc:=RN.e) (L:=v3) (y:=x9) underlying92 sizeOf117 rfl rfl hy10 (fun _=>rfl))<|wt (fE underlying117 rfl sizeOf23 (by decide) rfl rfl)<|wt (LR.loadEp isAgg23 rfl rfl)<|wt (mV rfl)<|wt (LR.leq rfl rfl)<|ws (pT rfl rfl)<|wa ?_;refine wN ?_;exact⟨(decide (x9.lo<=n2)),(),h,sP⟩
  ·refine wf<|wy (tl:=[(1,_),(4,_),(5,_),(19,_),(20,_)]) (to:=[]) ?_;refine wf<|wf<|wf<|wf<|wf<|wf<|ws (pF rfl rfl)<|wa ?_;refine wN ?_;exact⟨false,(),h,sP⟩
 ·rintro v7 _ h;refine wX ?_;cases h;exact xT
end Go.Proofs

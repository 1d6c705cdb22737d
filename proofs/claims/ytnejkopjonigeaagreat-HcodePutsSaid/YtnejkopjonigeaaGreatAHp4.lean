/- Side texts. -/
import Derived.WalkSpells
import Derived.Test.YtnejkopjonigeaaGreatProg
import Derived.KernelRfl
import Derived.Test.YtnejkopjonigeaaGreatAHp2
import Derived.Test.YtnejkopjonigeaaGreatAHp3
set_option linter.unusedVariables false
set_option linter.unusedSimpArgs false
namespace Go.Ep
open Go.RowKit
section
variable{ctx:Ctx}{s:PState}
theorem RelG.obj{g:zV}{a:Act}{w:World}(h1:RelG ctx g s a w){id:Nat}{o o':Ob}(hl:look s.objs id=some o)(hob:ObRd w g (zd ctx g s.objs) id o'):RelG ctx g { s with objs:=zi id o' s.objs } a w:=by
 have hF:∀ b,zd ctx g s.objs b->zd ctx g (zi id o' s.objs) b:=fun b hb=>⟨hb.1,fun i o2 n ho hgi=>by
  rw[zC] at ho
  by_cases ei:i=id
  ·subst ei;exact hb.2 i _ n hl hgi
  ·rw[if_neg ei] at ho;exact hb.2 i o2 n ho hgi⟩
 have hst:yR w w (zd ctx g s.objs):=⟨Nat.le_refl _,fun _ _ _=>rfl⟩
 have hlk:∀ i o2,look (zi id o' s.objs) i=some o2->∃ o3,look s.objs i=some o3:=fun i o2 ho=>by
  rw[zC] at ho
  by_cases ei:i=id
  ·subst ei;exact⟨_,hl⟩
  ·rw[if_neg ei] at ho;exact⟨_,ho⟩
 refine⟨h1.defers,h1.size,fun i p hp=>(h1.slots i p hp).keep hst (fun b hb _=>hF b hb) (fun _ _=>rfl),fun i o2 ho=>?_,fun i i2 o2 o3 b n m ho ho2 hgi hgi2=>?_,fun i o2 b n ho hgi=>?_,h1.os,h1.tape,h1.output,h1.grows,h1.keep⟩
 ·rw[zC] at ho
  by_cases ei:i=id
  ·subst ei;rw[if_pos rfl] at ho
   cases ho
   exact hob.keep hst (fun b hb _=>hF b hb) (fun _ _ _=>rfl) rfl (fun _ _=>rfl)
  ·rw[if_neg ei] at ho;exact(h1.objs i o2 ho).keep hst (fun b hb _=>hF b hb) (fun _ _ _=>rfl) rfl (fun _ _=>rfl)
 ·obtain⟨o4,e4⟩:=hlk i o2 ho;obtain⟨o5,e5⟩:=hlk i2 o3 ho2;exact h1.inj i i2 o4 o5 b n m e4 e5 hgi hgi2
 ·obtain⟨o4,e4⟩:=hlk i o2 ho;exact h1.own i o4 b n e4 hgi
variable{id:Nat}{nl:Bool}{ks:List IntKind}{ag:Bool}{m:List (List Int×List DV)}{bs:List Nat}{ck:Nat}
theorem Sub.nToH(hl:look s.objs id=some (.mapN nl ks ag m bs ck)):Sub ctx s { s with objs:=zi id (.mapH nl ks ag m) s.objs }:=
 Sub.obj hl fun w g S h=>by
  cases h with
  | mapNil _ _ _ h=>exact .mapHNil _ _ h
  | mapN _ _ _ _ _ blk n es h hh hm=>exact .mapH _ _ _ _ _ blk n es h hh hm
theorem Sub.toH(hl:look s.objs id=some (.map ks ag m bs ck)):Sub ctx s { s with objs:=zi id (.mapH false ks ag m) s.objs }:=
 Sub.obj hl fun w g S h=>by
  cases h with
  | map _ _ _ _ _ blk n es h hh hm=>exact .mapH _ _ _ _ _ blk n es h hh hm
theorem Sub.hT(hl:look s.objs id=some (.mapH nl ks ag m))(hn:nl=true):Sub ctx s { s with objs:=zi id (.mapN true ks ag m [] 0) s.objs }:=
 Sub.obj hl fun w g S h=>by
  subst hn
  cases h with
  | mapHNil _ _ h=>exact .mapNil _ _ _ h
theorem openH(hl:look s.objs id=some (.mapH nl ks ag m)){a:Act}{w:World}(hr:Rel ctx s a w):∃ bs ck,Rel ctx { s with objs:=zi id (.mapN nl ks ag m bs ck) s.objs } a w:=by
 obtain⟨g,hg⟩:=hr;have h:=hg.objs id _ hl
 cases h with
 | mapHNil _ _ h=>exact⟨[],0,g,hg.obj hl (.mapNil _ _ _ h)⟩
 | mapH _ _ _ bs ck blk n es h hh hm=>exact⟨bs,ck,g,hg.obj hl (.mapN _ _ _ _ _ blk n es h hh hm)⟩
variable{P:Program}{Q:PQ}
theorem PWc.openH{c:Code}(hl:look s.objs id=some (.mapH nl ks ag m))(h:∀ bs ck,PWc P ctx c Q { s with objs:=zi id (.mapN nl ks ag m bs ck) s.objs }):PWc P ctx c Q s:=fun a w hr=>by
 obtain⟨bs,ck,h2⟩:=Go.Ep.openH hl hr;exact h bs ck a w h2
theorem PWl.openH{ops:Array Oper}{l:List Oper}(hl:look s.objs id=some (.mapH nl ks ag m))(h:∀ bs ck,PWl P ctx ops Q l { s with objs:=zi id (.mapN nl ks ag m bs ck) s.objs }):PWl P ctx ops Q l s:=fun a w hr=>by
 obtain⟨bs,ck,h2⟩:=Go.Ep.openH hl hr;exact h bs ck a w h2
theorem WQ(id:Nat)(o o':Ob)(l:List (Nat×Ob))(i:Nat):look (zi id o (zi id o' l)) i=look (zi id o l) i:=by
 rw[zC,zC,zC]
 by_cases h:i=id <;> simp[h]
theorem Sub.same{t:PState}(hn:s.n=t.n)(hs:s.sl=t.sl)(ho:∀ i,look s.objs i=look t.objs i):Sub ctx s t:=
 Sub.drop hn (fun i p hp=>by rw[YG] at hp ⊢;rw[hn,hs];exact hp) (fun i o h=>by rw[ho];exact h)
theorem PWc.hF{c:Code}(hl:look s.objs id=some (.mapH nl ks ag m))(hn:nl=false)(h:∀ bs ck,PWc P ctx c Q { s with objs:=zi id (.map ks ag m bs ck) s.objs }):PWc P ctx c Q s:=
 PWc.openH hl fun bs ck=>PWc.sub (Sub.mapF (id:=id) (by show look (zi id _ _) id=_;rw[zC,if_pos rfl]) hn) (PWc.sub (Sub.same (t:={ s with objs:=zi id (.map ks ag m bs ck) s.objs }) rfl rfl fun i=>by
  show look (zi id _ (zi id _ _)) i=look (zi id _ _) i;rw[WQ]) (h bs ck))
theorem Local.openH{o:Oper}{t:PState}(hl:look s.objs id=some (.mapH nl ks ag m))(h:∀ bs ck,Local P ctx o { s with objs:=zi id (.mapN nl ks ag m bs ck) s.objs } t):Local P ctx o s t:=fun a w hr K Qx hK=>by
 obtain⟨bs,ck,h2⟩:=Go.Ep.openH hl hr;exact h bs ck a w h2 K Qx hK
theorem closeP{dst:Option Nat}{p:PV}{m':List (List Int×List DV)}(hl:look s.objs id=some (.mapH nl ks ag m')):Sub ctx (({ s with objs:=zi id (.mapN nl ks ag m' bs ck) s.objs }:PState).putD dst p) (s.putD dst p):=by
 refine Sub.trans (Sub.nToH (id:=id) (nl:=nl) (ks:=ks) (ag:=ag) (m:=m') (bs:=bs) (ck:=ck) ?_) (Sub.same ?_ ?_ fun i=>?_)
 ·rw[yU];show look (zi id _ _) id=_;rw[zC,if_pos rfl]
 ·cases dst <;> rfl
 ·cases dst <;> rfl
 ·rw[yU];show look (zi id _ _) i=_;rw[yU];show look (zi id _ (zi id _ _)) i=_;rw[WQ,zC]
  by_cases h:i=id
  ·rw[if_pos h,h,hl]
  ·rw[if_neg h]
theorem VC{x:Operand}(l:List (Nat×Ob)):({ s with objs:=l }:PState).ev x=s.ev x:=by cases x <;> rfl
end
section
variable{P:Program}{ctx:Ctx}{Q:PQ}{s:PState}
variable{dst:Option Tmp}{ty:TypeId}{pos:String}{after:Array Edge}{gd:Option (Nat×Bool)}
variable{κ ν:Type}[DecidableEq κ]{eK:κ->List Int}{eV:ν->List DV}{m:List (κ×ν)}{q:κ}{zv:ν}(inj:∀ a b,eK a=eK b->a=b)
variable{x kx:Operand}{t kt et:TypeId}{ks:List IntKind}{ag:Bool}{z:Value}{p kp:PV}{id:Nat}{nl:Bool}{bs:List Nat}{ck:Nat}
section
variable(hu:P.underlying t=some (.map kt et))(K:KeyOK P kt ks)(hz:∀ w,(zeroValue et).run P w=.ok z w)(hzr:∀ (w:World) (g:zV) (S:Nat->Prop),Rd w g S (elP ag (eV zv)) z)(hk:s.ev kx=some kp)(hkp:kp=xca ks (eK q))(hn:(eK q).length=ks.length)(hp:elP ag (eV (AL.getZ m q zv))=p)
include inj hu K hz hzr hk hkp hn hp
theorem LR.getOkH(hx:s.ev x=some (.mp id))(hl:look s.objs id=some (.mapH nl ks ag (zN eK eV m))):Local P ctx ⟨dst,.lookup t x kx true,ty,pos,after,gd⟩ s (s.putD dst (.tup [p,.d (.v (.bool (AL.has m q)))])):=
 Local.openH hl fun bs ck=>(LR.getOkN inj hu K hz hzr (by rw[VC];exact hk) hkp hn hp (by rw[VC];exact hx) (by show look (zi id _ _) id=_;rw[zC,if_pos rfl])).post (closeP hl)
end
theorem LR.eqlH{mm:List (List Int×List DV)}{t t' kt et:TypeId}(hu:P.underlying t=some (.map kt et))(hx:s.ev x=some (.mp id))(hl:look s.objs id=some (.mapH nl ks ag mm)) :
  Local P ctx ⟨dst,.binOp .eql t x (.const (.map none)) t',ty,pos,after,gd⟩ s (s.putD dst (.d (.v (.bool nl)))):=
 Local.openH hl fun bs ck=>(LR.eqlMapN hu (by rw[VC];exact hx) (by show look (zi id _ _) id=_;rw[zC,if_pos rfl])).post (closeP hl)
end
inductive JCs (nm:List Nat):List PV->List PV->Prop
 | nil:JCs nm [] []
 | keep {p:PV} {cs cs':List PV} (h:p.named nm=true) (t:JCs nm cs cs'):JCs nm (p::cs) (p::cs')
 | junk {p:PV} {cs cs':List PV} (t:JCs nm cs cs'):JCs nm (p::cs) (.junk::cs')
inductive JOb (nm:List Nat):Ob->Ob->Prop
 | same {o:Ob} (h:o.named nm=true):JOb nm o o
 | cells {T:TypeId} {cs cs':List PV} (h:JCs nm cs cs'):JOb nm (.cells T cs) (.cells T cs')
inductive JObs (nm:List Nat):List (Nat×Ob)->List (Nat×Ob)->Prop
 | nil:JObs nm [] []
 | cons {k:Nat} {o o':Ob} {F F':List (Nat×Ob)} (h:JOb nm o o') (t:JObs nm F F'):JObs nm ((k,o)::F) ((k,o')::F')
theorem JCs.len{nm:List Nat}{cs cs':List PV}(h:JCs nm cs cs'):cs'.length=cs.length:=by
 induction h with
 | nil=>rfl
 | keep _ _ ih=>simp[ih]
 | junk _ ih=>simp[ih]
theorem JCs.get{nm:List Nat}{cs cs':List PV}(h:JCs nm cs cs'):∀ (i:Nat) (p:PV),cs'[i]?=some p->p=.junk\/cs[i]?=some p:=by
 induction h with
 | nil=>intro i p h;simp at h
 | keep _ _ ih=>
  intro i p h
  cases i with
  | zero=>exact .inr (by simpa using h)
  | succ i=>simpa using ih i p (by simpa using h)
 | junk _ ih=>
  intro i p h
  cases i with
  | zero=>exact .inl (by simpa using h.symm)
  | succ i=>simpa using ih i p (by simpa using h)
theorem JCs.named{nm:List Nat}{cs cs':List PV}(h:JCs nm cs cs'):PV.named.namedL nm cs'=true:=by
 induction h with
 | nil=>rfl
 | keep h _ ih=>simp only[PV.named.namedL,h,ih,Bool.and_self]
 | junk _ ih=>simp only[PV.named.namedL,PV.named,ih,Bool.and_self]
theorem JOb.named{nm:List Nat}{o o':Ob}(h:JOb nm o o'):o'.named nm=true:=by
 cases h with
 | same h=>exact h
 | cells h=>exact h.named
theorem JOb.rd{nm:List Nat}{o o':Ob}(h:JOb nm o o'){w:World}{g:zV}{S:Nat->Prop}{id:Nat}(hr:ObRd w g S id o):ObRd w g S id o':=by
 cases h with
 | same=>exact hr
 | cells h=>
  cases hr with
  | cells _ _ blk n us hgi hh hl hr' h1=>
   refine .cells _ _ blk n us hgi hh (h.len.trans hl) (fun i p u hp hu=>?_) h1;rcases h.get i p hp with rfl | h2
   ·exact .junk u
   ·exact hr' i p u h2 hu
theorem JObs.look{nm:List Nat}{F F':List (Nat×Ob)}(h:JObs nm F F'):∀ (id:Nat) (o':Ob),Go.Ep.look F' id=some o'->∃ o,Go.Ep.look F id=some o/\JOb nm o o':=by
 induction h with
 | nil=>intro id o' h;simp[Go.Ep.look] at h
 | cons h _ ih=>
  intro id o' hl;simp only[Go.Ep.look] at hl ⊢
  split at hl
  ·rename_i e;cases hl;exact⟨_,by rw[if_pos e],h⟩
  ·rename_i e;rw[if_neg e];exact ih id o' hl
theorem JObs.keys{nm:List Nat}{F F':List (Nat×Ob)}(h:JObs nm F F'):F'.map (·.1)=F.map (·.1):=by
 induction h with
 | nil=>rfl
 | cons _ _ ih=>simp[ih]
theorem woa{l:List (Nat×Ob)}{i:Nat}(h:i∉l.map (·.1)):look l i=none:=by
 cases hl:look l i with
 | none=>rfl
 | some o=>exact absurd (zx hl) h
theorem OwnB.app{g:zV}{a b:List (Nat×Ob)}{k:Nat}(h:OwnB g (a++b) k):OwnB g a k\/OwnB g b k:=by
 obtain⟨id,o,n,h1,h2⟩:=h;rw[xZ] at h1
 cases hl:look a id with
 | none=>rw[hl,Option.none_or] at h1;exact .inr ⟨id,o,n,h1,h2⟩
 | some q=>rw[hl,Option.some_or] at h1;exact .inl ⟨id,q,n,hl,h2⟩
theorem PObj.frame{G:Type}{P:Program}{f:FuncId}{ps:List PV}{os:List (Nat×Ob)}{pins ks:List Nat}{r:PV}{os':G->List (Nat×Ob)}(F F':List (Nat×Ob))(hc:PObj P f ps os pins r os')
  (hks:∀ gh,(os' gh).map (·.1)=ks) (hcl:∀ gh,(os' gh).all (fun x=>x.2.named ks)=true) (hr:r.named ks=true) (hd:((F.map (·.1)).all fun k=>!inL (os.map (·.1)) k&&!inL ks k)=true) (hj:JObs (pins++F.map (·.1)) F F') :
  PObj P f ps (os++F) (pins++F.map (·.1)) r (fun gh=>os' gh++F'):=by
 intro w g S vs hlen hreal hobs hdis;have hd1:∀ k∈F.map (·.1),k∉os.map (·.1)/\k∉ks:=fun k hk=>by
  have h:=List.all_eq_true.1 hd k hk;rw[Bool.and_eq_true,Bool.not_eq_true',Bool.not_eq_true',YP,YP] at h;exact h
 have YQ:∀ {id o},look F id=some o->look (os++F) id=some o:=fun {id o} h=>by
  rw[xZ,woa (hd1 id (zx h)).1,Option.none_or];exact h
 have ownL:∀ {b},OwnB g os b->OwnB g (os++F) b:=fun⟨id,o,n,h1,h2⟩=>⟨id,o,n,yW h1,h2⟩
 have ownR:∀ {b},OwnB g F b->OwnB g (os++F) b:=fun⟨id,o,n,h1,h2⟩=>⟨id,o,n,YQ h1,h2⟩
 have hnF:∀ {id o b n},look F id=some o->g id=some (b,n)->¬ OwnB g os b:=fun {id o b n} h1 h2 ⟨id2,o2,n2,h3,h4⟩=>by
  have:=hobs.inj id id2 o o2 b n n2 (YQ h1) (yW h3) h2 h4;subst this;exact(hd1 id (zx h1)).1 (zx h3)
 refine(hc w g S vs hlen hreal ⟨fun id o h=>hobs.rd id o (yW h),fun i j oi oj b n m hi hj=>hobs.inj i j oi oj b n m (yW hi) (yW hj),fun id o b n h=>hobs.lt id o b n (yW h)⟩ (fun b hb h=>hdis b hb (ownL h))).mono fun e w' ⟨u,g',gh,he,hpost⟩=>?_
 have hks':=hks gh;have hcl':=hcl gh
 let G':zV:=fun j=>if inL (F.map (·.1)) j then g j else g' j
 refine⟨u,G',gh,he,?_⟩;show wha w g S (os++F) (pins++F.map (·.1)) r (os' gh++F') w' G' u
 generalize os' gh=os1 at hpost hks' hcl' ⊢
 have gF:∀ {j},j∈F.map (·.1)->G' j=g j:=fun {j} h=>by simp only[G',zW.2 h,if_true]
 have gN:∀ {j},j∉F.map (·.1)->G' j=g' j:=fun {j} h=>by simp only[G',YP.2 h,Bool.false_eq_true,if_false]
 have gK:∀ {j},j∈ks->G' j=g' j:=fun {j} h=>gN fun h2=>(hd1 j h2).2 h
 have gP:∀ {j},j∈pins++F.map (·.1)->G' j=g j:=fun {j} h=>by
  by_cases hf:j∈F.map (·.1)
  ·exact gF hf
  ·rw[gN hf];exact hpost.pin j ((List.mem_append.1 h).resolve_right hf)
 have split:∀ {id o},look (os1++F') id=some o->(look os1 id=some o/\id∈ks)\/∃ o0,look F id=some o0/\JOb (pins++F.map (·.1)) o0 o:=fun {id o} h=>by
  rw[xZ] at h
  cases hl:look os1 id with
  | none=>rw[hl,Option.none_or] at h;exact .inr (hj.look id o h)
  | some q=>rw[hl,Option.some_or] at h;cases h;exact .inl ⟨rfl,hks'▸zx hl⟩
 have hA:∀ b,Xp w g S os g' os1 b->Xp w g S (os++F) G' (os1++F') b:=fun b ⟨h1,h2⟩=>⟨by
  rcases h1 with h1 | h1 | h1
  ·exact .inl h1
  ·exact .inr (.inl (ownL h1))
  ·exact .inr (.inr h1),fun⟨id,o,n,hl,hgi⟩=>by
  rcases split hl with⟨h3,h4⟩ | ⟨o0,h3,h4⟩
  ·rw[gK h4] at hgi;exact h2 ⟨id,o,n,h3,hgi⟩
  ·rw[gF (zx h3)] at hgi;rcases h1 with h1 | h1 | h1
   ·exact hdis b h1 ⟨id,o0,n,YQ h3,hgi⟩
   ·exact hnF h3 hgi h1
   ·have:=hobs.lt id o0 b n (YQ h3) hgi;omega⟩
 have hS:∀ b,S b->b < w.heap.size->Xp w g S (os++F) G' (os1++F') b:=fun b hb hlt=>⟨.inl hb,fun⟨id,o,n,hl,hgi⟩=>by
  rcases split hl with⟨h3,h4⟩ | ⟨o0,h3,h4⟩
  ·rw[gK h4] at hgi;rcases hpost.own b ⟨id,o,n,h3,hgi⟩ with h5 | h5
   ·exact hdis b hb (ownL h5)
   ·omega
  ·rw[gF (zx h3)] at hgi;exact hdis b hb ⟨id,o0,n,YQ h3,hgi⟩⟩
 have hst:yR w w' S:=⟨hpost.grows,fun b hb hlt=>hpost.keep b hlt fun h=>hdis b hb (ownL h)⟩
 have hst':yR w' w' (Xp w g S os g' os1):=⟨Nat.le_refl _,fun _ _ _=>rfl⟩
 refine⟨hpost.eos,hpost.tape,hpost.output,hpost.grows,fun k hk h=>hpost.keep k hk fun h2=>h (ownL h2),fun b ⟨id,o,n,hl,hgi⟩=>?_,fun id h=>gP h,?_,⟨fun id o hl=>?_,fun i j oi oj b n m hi hj' hgi hgj=>?_,fun id o b n hl hgi=>?_⟩⟩
 ·rcases split hl with⟨h3,h4⟩ | ⟨o0,h3,h4⟩
  ·rw[gK h4] at hgi;exact(hpost.own b ⟨id,o,n,h3,hgi⟩).imp ownL (fun h=>h)
  ·rw[gF (zx h3)] at hgi;exact .inl (ownR ⟨id,o0,n,h3,hgi⟩)
 ·exact hpost.res.keep hst' (fun b hb _=>hA b hb) fun j hjj=>gK (PV.named_has hr hjj)
 ·rcases split hl with⟨h3,h4⟩ | ⟨o0,h3,h4⟩
  ·have hn:=(List.all_eq_true.1 hcl') _ (xf h3);exact(hpost.obs.rd id o h3).keep hst' (fun b hb _=>hA b hb) (fun _ _ _=>rfl) (gK h4) fun j hjj=>gK (Ob.named_has hn hjj)
  ·exact(h4.rd (hobs.rd id o0 (YQ h3))).keep hst hS (fun b n hgi=>hpost.keep b (hobs.lt id o0 b n (YQ h3) hgi) (hnF h3 hgi)) (gF (zx h3)) fun j hjj=>gP (Ob.named_has h4.named hjj)
 ·rcases split hi with⟨h3,h4⟩ | ⟨o0,h3,h4⟩ <;> rcases split hj' with⟨h5,h6⟩ | ⟨o2,h5,h6⟩
  ·rw[gK h4] at hgi;rw[gK h6] at hgj;exact hpost.obs.inj i j oi oj b n m h3 h5 hgi hgj
  ·rw[gK h4] at hgi;rw[gF (zx h5)] at hgj;exfalso;rcases hpost.own b ⟨i,oi,n,h3,hgi⟩ with h7 | h7
   ·exact hnF h5 hgj h7
   ·have:=hobs.lt j o2 b m (YQ h5) hgj;omega
  ·rw[gF (zx h3)] at hgi;rw[gK h6] at hgj;exfalso;rcases hpost.own b ⟨j,oj,m,h5,hgj⟩ with h7 | h7
   ·exact hnF h3 hgi h7
   ·have:=hobs.lt i o0 b n (YQ h3) hgi;omega
  ·rw[gF (zx h3)] at hgi;rw[gF (zx h5)] at hgj;exact hobs.inj i j o0 o2 b n m (YQ h3) (YQ h5) hgi hgj
 ·rcases split hl with⟨h3,h4⟩ | ⟨o0,h3,h4⟩
  ·rw[gK h4] at hgi;exact hpost.obs.lt id o b n h3 hgi
  ·rw[gF (zx h3)] at hgi;exact Nat.lt_of_lt_of_le (hobs.lt id o0 b n (YQ h3) hgi) hpost.grows
section
variable{ctx:Ctx}{s:PState}
inductive RSl (s:PState) (ρ:List (Nat×Nat)):List (Nat×PV)->Prop
 | nil:RSl s ρ []
 | cons {i:Nat} {p:PV} {r:List (Nat×PV)} (h:s.at i=some (p.ren ρ)) (t:RSl s ρ r):RSl s ρ ((i,p)::r)
theorem RSl.get{ρ:List (Nat×Nat)}{l:List (Nat×PV)}(h:RSl s ρ l):∀ i p,xn l i=some p->s.at i=some (p.ren ρ):=by
 induction h with
 | nil=>intro i p h;simp[xn] at h
 | cons h _ ih=>
  intro i p hl;rw[yC] at hl
  split at hl
  ·rename_i e;subst e;cases hl;exact h
  ·exact ih i p hl
def injR(ρ:List (Nat×Nat))(ks:List Nat):Bool:=ks.all fun i=>ks.all fun j=>Nat.beq i j||!Nat.beq (rn ρ i) (rn ρ j)
theorem Sub.rnm(ρ:List (Nat×Nat)){n:Nat}{tl:List (Nat×PV)}{to:List (Nat×Ob)}(hn:s.n=n)(hs:RSl s ρ tl)(ho:AllOb s ρ to)(hi:injR ρ (to.map (·.1))=true):Sub ctx s ⟨n,tl,to⟩:=by
 rintro a w ⟨g,h⟩;have hlo:=ho.get;have hF:∀ b,zd ctx g s.objs b->zd ctx (fun i=>g (rn ρ i)) to b:=fun b hb=>⟨hb.1,fun id o n h1 h2=>hb.2 _ _ n (hlo id o h1) h2⟩
 have hst:yR w w (zd ctx g s.objs):=⟨Nat.le_refl _,fun _ _ _=>rfl⟩
 have hinj:∀ i j,i∈to.map (·.1)->j∈to.map (·.1)->rn ρ i=rn ρ j->i=j:=fun i j h1 h2 e=>by
  have h3:=List.all_eq_true.1 (List.all_eq_true.1 hi i h1) j h2;rw[Bool.or_eq_true,Bool.not_eq_true'] at h3;rcases h3 with h3 | h3
  ·exact Nat.eq_of_beq_eq_true h3
  ·rw[e,Nat.beq_refl] at h3;cases h3
 refine⟨fun i=>g (rn ρ i),h.defers,by rw[h.size,hn],fun i p hp=>?_,fun id o hl=>?_,fun i j oi oj b n m h1 h2 hgi hgj=>?_,fun id o b n h1 hgi=>?_,h.os,h.tape,h.output,h.grows,h.keep⟩
 ·have h1:=hs.get i p (wd hp);exact((h.slots i _ h1).unren rfl).keep hst (fun b hb _=>hF b hb) (fun _ _=>rfl)
 ·exact((h.objs _ _ (hlo id o hl)).unren rfl rfl).keep hst (fun b hb _=>hF b hb) (fun _ _ _=>rfl) rfl (fun _ _=>rfl)
 ·exact hinj i j (zx h1) (zx h2) (h.inj _ _ _ _ b n m (hlo i oi h1) (hlo j oj h2) hgi hgj)
 ·exact h.own _ _ b n (hlo id o h1) hgi
end
theorem PObj.dropRow{G:Type}{P:Program}{f:FuncId}{ps:List PV}{os:List (Nat×Ob)}{pins:List Nat}{id n k:Nat}{e:TypeId}{l:List (List DV)}{os' os1:G->List (Nat×Ob)}(hc:PObj P f ps os pins (.row id n) os')(hos:∀ gh,os' gh=os1 gh++[(id,.row e k l)])(hn:n=l.length)(hk:∀ gh,(os1 gh).all (fun x=>!Nat.beq x.1 id)=true) :
  PObj P f ps os pins (.d (.sl l)) os1:=by
 intro w g S vs hlen hreal hobs hdis;refine(hc w g S vs hlen hreal hobs hdis).mono fun en w' ⟨u,g',gh,he,hpost⟩=>?_
 refine⟨u,g',gh,he,?_⟩;rw[hos gh] at hpost;have hk':=hk gh
 generalize os1 gh=o1 at hpost hk' ⊢
 have hne:∀ {i o},look o1 i=some o->i≠id:=fun {i o} h e=>by
  have:=List.all_eq_true.1 hk' _ (xf h);subst e;simp at this
 have hid:look (o1++[(id,.row e k l)]) id=some (.row e k l):=by
  rw[xZ]
  cases h:look o1 id with
  | none=>simp[look]
  | some o=>exact absurd rfl (hne h)
 have ownL:∀ {b},OwnB g' o1 b->OwnB g' (o1++[(id,.row e k l)]) b:=fun⟨i,o,m,h1,h2⟩=>⟨i,o,m,yW h1,h2⟩
 have hA:∀ b,Xp w g S os g' (o1++[(id,.row e k l)]) b->Xp w g S os g' o1 b:=fun b ⟨h1,h2⟩=>⟨h1,fun h=>h2 (ownL h)⟩
 have hst:yR w' w' (Xp w g S os g' (o1++[(id,.row e k l)])):=⟨Nat.le_refl _,fun _ _ _=>rfl⟩
 refine⟨hpost.eos,hpost.tape,hpost.output,hpost.grows,hpost.keep,fun b h=>hpost.own b (ownL h),hpost.pin,?_,⟨fun i o h=>(hpost.obs.rd i o (yW h)).keep hst (fun b hb _=>hA b hb) (fun _ _ _=>rfl) rfl (fun _ _=>rfl),fun i j oi oj b n m hi hj=>hpost.obs.inj i j oi oj b n m (yW hi) (yW hj),fun i o b n h=>hpost.obs.lt i o b n (yW h)⟩⟩;have hr:=hpost.res;have ho:=hpost.obs.rd id _ hid
 generalize u=v at hr
 cases ho with
 | rowNil _ _ hgn=>
  cases hr with
  | row _ _ blk cap hgi=>rw[hgn] at hgi;cases hgi
  | rowNil=>exact .d (.nil none 0 (Nat.zero_le _) (fun _=>rfl))
 | row _ _ _ blk' cap' cur hgi hh hlc hcap hcs hkk hr'=>
  cases hr with
  | rowNil _ hgn=>rw[hgn] at hgi;cases hgi
  | row _ _ blk cap hgi'=>
   rw[hgi] at hgi'
   cases hgi'
   subst hn;have hlt:=hpost.obs.lt id _ blk' cap' hid hgi;have hfree:Xp w g S os g' o1 blk':=⟨.inr (hpost.own blk' ⟨id,_,cap',hid,hgi⟩),fun⟨i,o,m,h1,h2⟩=>hne h1 (hpost.obs.inj i id o _ blk' m cap' (yW h1) hid h2 hgi)⟩
   refine .d (.sl l blk' 0 cap' k (fun i j=>cur.getD (i*k+j) undef) hlc hcap hfree hlt hkk ?_ ?_)
   ·intro i j hi hj;have hlt:i*k+j < cur.length:=by rw[hcs];exact uL (by omega) hj
    rw[zc hh];simp[hlt]
   ·intro i cs j x hi hx;obtain⟨u,hu,hd⟩:=hr' i cs j x hi hx;have e:cur.getD (i*k+j) undef=u:=by simp[List.getD,hu]
    show DRd w' _ x (cur.getD (i*k+j) undef);rw[e];exact hd.keep hst (fun b hb _=>hA b hb)
inductive LookIn (os':List (Nat×Ob)):List (Nat×Ob)->Prop
 | nil:LookIn os' []
 | cons {i:Nat} {o:Ob} {r:List (Nat×Ob)} (h:Go.Ep.look os' i=some o) (t:LookIn os' r):LookIn os' ((i,o)::r)
theorem LookIn.get{os' l:List (Nat×Ob)}(h:LookIn os' l):∀ i o,Go.Ep.look l i=some o->Go.Ep.look os' i=some o:=by
 induction h with
 | nil=>intro i o h;simp[Go.Ep.look] at h
 | cons h _ ih=>
  intro j o2 hl;simp only[Go.Ep.look] at hl
  split at hl
  ·rename_i e;subst e;cases hl;exact h
  ·exact ih j o2 hl
theorem wpa{ρ:List (Nat×Nat)}{acc:List (Nat×Ob)}{i:Nat}{o:Ob}:∀ {l:List (Nat×Ob)},look l i=some o->(∀ j∈l.map (·.1),rn ρ j=rn ρ i->j=i)->look (l.foldr (fun x l=>zi (rn ρ x.1) (x.2.ren ρ) l) acc) (rn ρ i)=some (o.ren ρ)
 | [],h,_=>by simp[look] at h
 | (k,q)::r,h,hi=>by
  rw[List.foldr_cons,zC]
  by_cases e:rn ρ i=rn ρ k
  ·rw[if_pos e];have:=hi k (by simp) e.symm;subst this;simp[look] at h;rw[h]
  ·rw[if_neg e];refine wpa (l:=r) ?_ (fun j hj=>hi j (by simp only[List.map_cons,List.mem_cons];exact .inr hj));simp only[look] at h;rw[if_neg (fun e2=>e (by rw[e2]))] at h;exact h
theorem lookN{ρ:List (Nat×Nat)}{acc:List (Nat×Ob)}{j:Nat}:∀ {l:List (Nat×Ob)},(∀ i∈l.map (·.1),rn ρ i≠j)->look (l.foldr (fun x l=>zi (rn ρ x.1) (x.2.ren ρ) l) acc) j=look acc j
 | [],_=>rfl
 | (k,q)::r,h=>by
  rw[List.foldr_cons,zC,if_neg (fun e=>h k (by simp) e.symm)];exact lookN fun i hi=>h i (by simp only[List.map_cons,List.mem_cons];exact .inr hi)
theorem wqa{ρ:List (Nat×Nat)}{acc:List (Nat×Ob)}{j:Nat}:∀ {l:List (Nat×Ob)},(∀ i∈l.map (·.1),rn ρ i≠j)->look (l.foldr (fun x l=>vc (rn ρ x.1) l) acc) j=look acc j
 | [],_=>rfl
 | (k,q)::r,h=>by
  rw[List.foldr_cons,yH,if_neg (fun e=>h k (by simp) e.symm)];exact wqa fun i hi=>h i (by simp only[List.map_cons,List.mem_cons];exact .inr hi)
theorem yga{l:List (Nat×Ob)}{i:Nat}(h:i∈l.map (·.1)):∃ o,look l i=some o:=by
 cases hl:look l i with
 | some o=>exact⟨o,rfl⟩
 | none=>
  exfalso
  induction l with
  | nil=>cases h
  | cons x r ih=>
   simp only[look] at hl
   split at hl
   ·cases hl
   ·rename_i e
    simp only[List.map_cons,List.mem_cons] at h;exact ih (h.resolve_left e) hl
section
variable{P:Program}{ctx:Ctx}{Q:PState->Prop}{s:PState}{ops:Array Oper}{rest:List Oper}{fs:List Ft}{f:Ft}
variable{dst:Option Tmp}{ty:TypeId}{pos:String}{after:Array Edge}{gd:Option (Nat×Bool)}
theorem PQe.callObjS{x:Operand}{xs:List Operand}{ats:Array TypeId}{fn:FuncId}{ps qs:List PV}{os os':List (Nat×Ob)}{pins:List Nat}{r:PV}(ρ:List (Nat×Nat))(js ks:List Nat)(osV osS:List (Nat×Ob))
  (hc:PObj P fn ps os pins r (fun _:Unit=>os')) (hK:∀ b,ctx.K b->ctx.S b)
  (hev:∀ s':PState,(∀ {y q},we (⟨dst,.call ⟨.value x,xs.toArray,ats⟩,ty,pos,after,gd⟩:Oper) y=true->s.ev y=some q->s'.ev y=some q)->s'.ev x=some (.d (.v (.func (.func fn) #[] #[])))/\s'.evs xs=some qs)
  (he:∀ args w,(callFunc fn args).run P w=.ok (.enter fn args) w) (hq:qs.map PV.nilD=ps.map (PV.ren ρ)) (hos:AllOb s ρ os) (hV:LookIn os' osV) (hS:LookIn os' osS) (hAS:AllOb s ρ osS) (hcov:(os'.map (·.1)).all (fun i=>inL (osV.map (·.1)) i||inL (osS.map (·.1)) i)=true) (hSo:(osS.map (·.1)).all (inL (os.map (·.1)))=true)
  (hks:os'.map (·.1)=ks) (hcl:os'.all (fun x=>x.2.named ks)=true) (hr:r.named ks=true) (hok:calO ρ js (os.map (·.1)) pins ks f=true)
  (hg:Wd ops (⟨dst,.call ⟨.value x,xs.toArray,ats⟩,ty,pos,after,gd⟩:Oper) s) (hk:okE f (xga ρ js dst r osV)=true) (h:PQe P ctx ops Q rest fs (s.app (xga ρ js dst r osV))) :
  PQe P ctx ops Q (⟨dst,.call ⟨.value x,xs.toArray,ats⟩,ty,pos,after,gd⟩::rest) (f::fs) s:=by
 simp only[calO,Bool.and_eq_true] at hok;obtain⟨⟨⟨⟨⟨c1,c2⟩,c3⟩,c4⟩,c5⟩,c6⟩:=hok;refine .step (e:=xga ρ js dst r osV) (fun s' hn hee ho hfr hal=>?_) hg hk h;obtain⟨h1,h2⟩:=hev s' (fun hx hq=>hee hx hq);have hinj:∀ i j,i∈os.map (·.1)++ks->j∈os.map (·.1)++ks->rn ρ i=rn ρ j->i=j:=fun i j hi hj e=>by
  have h3:=List.all_eq_true.1 (List.all_eq_true.1 c1 i hi) j hj;rw[Bool.or_eq_true,Bool.not_eq_true'] at h3;rcases h3 with h | h
  ·exact Nat.eq_of_beq_eq_true h
  ·rw[e,Nat.beq_refl] at h;cases h
 have hok':WN s' ρ js (os.map (·.1)) pins ks=true:=by
  unfold WN;rw[Bool.and_eq_true,Bool.and_eq_true];refine⟨⟨c1,?_⟩,?_⟩
  ·rw[List.all_eq_true] at c2 ⊢;intro i hi;have:=c2 i hi;rw[Bool.or_eq_true] at this ⊢;exact this.imp (fun h=>h) fun h=>hfr _ (zW.1 h)
  ·rw[List.all_eq_true] at c5 ⊢;intro i hi;have:=c5 i hi;rw[Bool.or_eq_true,Bool.or_eq_true] at this;rw[Bool.or_eq_true];rcases this with(h | h) | h
   ·exact .inl h
   ·refine .inr ?_;have hf:=hfr _ (zW.1 h);rw[Bool.and_eq_true];refine⟨wla js hf,?_⟩;simp only[PState.fresh,Bool.and_eq_true,List.all_eq_true] at hf;rw[List.all_eq_true];intro y hy;rw[Bool.or_eq_true];exact .inl (hf.2 y hy).2
   ·refine .inr ?_;obtain⟨a,ha1,ha2⟩:=List.any_eq_true.1 h;simp only[Bool.and_eq_true,beq_iff_eq] at ha2;have hx:=hal a ha1;rw[Nat.eq_of_beq_eq_true ha2.1,ha2.2] at hx;unfold PState.aloneX at hx;rw[Bool.and_eq_true,yA] at hx;rw[Bool.and_eq_true];refine⟨hx.1,?_⟩;rw[List.all_eq_true] at c4;have hx2:=hx.2;rw[List.all_eq_true] at hx2 ⊢;intro y hy;have:=hx2 y hy;rw[Bool.or_eq_true] at this ⊢;rcases this with h | h
    ·exact .inr (c4 _ (zW.1 h))
    ·exact .inl h
 have hl:=LR.callObj (P:=P) (ctx:=ctx) (dst:=dst) (ty:=ty) (pos:=pos) (after:=after) (gd:=gd) (ats:=ats) ρ js ks hc hK h1 he h2 hq (hos.keep (fun hi hl=>ho (zW.1 hi) hl) c6) hks hcl hr hok';have hAS':AllOb s' ρ osS:=hAS.keep (f:=f) (fun hi hl=>ho (zW.1 hi) hl) (by
  rw[List.all_eq_true] at c6 hSo ⊢;exact fun i hi=>c6 i (zW.1 (hSo i hi)))
 refine hl.post (Sub.drop ?_ ?_ ?_)
 ·cases dst <;> rfl
 ·intro i p hp;have hat:=wd hp;have hlt:i < s'.n:=Wz (s:=s'.app (xga ρ js dst r osV)) hp;refine Vl (by cases dst <;> exact hlt) ?_;simp only[PState.app,xga] at hat
  cases dst with
  | none=>simpa[je,PState.putD,PState.callO,wA] using hat
  | some d=>simpa[je,PState.putD,PState.put,PState.callO,wA] using hat
 ·intro id o hlo;have e1:(s'.app (xga ρ js dst r osV)).objs=osV.foldr (fun x l=>zi (rn ρ x.1) (x.2.ren ρ) l) s'.objs:=by
   simp only[PState.app,xga,List.foldr_map]
  have e2:((s'.callO ρ js os os').putD dst (r.ren ρ)).objs=os'.foldr (fun x l=>zi (rn ρ x.1) (x.2.ren ρ) l) (os.foldr (fun x l=>vc (rn ρ x.1) l) s'.objs):=by cases dst <;> rfl
  rw[e1] at hlo;rw[e2];have inj':∀ i,i∈os'.map (·.1)->∀ j∈os'.map (·.1),rn ρ j=rn ρ i->j=i:=fun i hi j hj e=>hinj j i (List.mem_append_right _ (hks▸hj)) (List.mem_append_right _ (hks▸hi)) e
  rcases YQ hlo with⟨i,o1,h3,h4,h5⟩ | ⟨h3,h4⟩
  ·have h6:=hV.get i o1 h3;rw[h4,h5];exact wpa h6 (inj' i (zx h6))
  ·by_cases hex:∃ i∈os'.map (·.1),rn ρ i=id
   ·obtain⟨i,hi,rfl⟩:=hex;have h5:=List.all_eq_true.1 hcov i hi;rw[Bool.or_eq_true] at h5;rcases h5 with h5 | h5
    ·exact absurd rfl (h3 i (zW.1 h5))
    ·obtain⟨o2,h6⟩:=yga (zW.1 h5);have h7:=hAS'.get i o2 h6;rw[h4] at h7
     cases h7
     exact wpa (hS.get i o2 h6) (inj' i hi)
   ·rw[lookN fun i hi e=>hex ⟨i,hi,e⟩,wqa fun i hi e=>hex ⟨i,by rw[hks];exact zW.1 (List.all_eq_true.1 c3 i hi),e⟩];exact h4
end
section
variable{P:Program}{ctx:Ctx}{s:PState}
variable{dst:Option Tmp}{ty:TypeId}{pos:String}{after:Array Edge}{gd:Option (Nat×Bool)}
theorem wra{os os':List (Nat×Ob)}{pins:List Nat}{r:PV}(ρ:List (Nat×Nat))(js ks:List Nat)(osV osS:List (Nat×Ob))(hV:LookIn os' osV)(hS:LookIn os' osS)(hAS:AllOb s ρ osS)(hcov:(os'.map (·.1)).all (fun i=>inL (osV.map (·.1)) i||inL (osS.map (·.1)) i)=true)(c3:(os.map (·.1)).all (inL ks)=true)
  (hks:os'.map (·.1)=ks) (hok:WN s ρ js (os.map (·.1)) pins ks=true):Sub ctx ((s.callO ρ js os os').putD dst (r.ren ρ)) (s.app (xga ρ js dst r osV)):=by
 have hinj:∀ i j,i∈os.map (·.1)++ks->j∈os.map (·.1)++ks->rn ρ i=rn ρ j->i=j:=fun i j hi hj e=>by
  simp only[WN,Bool.and_eq_true] at hok;have h3:=List.all_eq_true.1 (List.all_eq_true.1 hok.1.1 i hi) j hj;rw[Bool.or_eq_true,Bool.not_eq_true'] at h3;rcases h3 with h | h
  ·exact Nat.eq_of_beq_eq_true h
  ·rw[e,Nat.beq_refl] at h;cases h
 refine Sub.drop ?_ ?_ ?_
 ·cases dst <;> rfl
 ·intro i p hp;have hat:=wd hp;have hlt:i < s.n:=Wz (s:=s.app (xga ρ js dst r osV)) hp;refine Vl (by cases dst <;> exact hlt) ?_;simp only[PState.app,xga] at hat
  cases dst with
  | none=>simpa[je,PState.putD,PState.callO,wA] using hat
  | some d=>simpa[je,PState.putD,PState.put,PState.callO,wA] using hat
 ·intro id o hlo;have e1:(s.app (xga ρ js dst r osV)).objs=osV.foldr (fun x l=>zi (rn ρ x.1) (x.2.ren ρ) l) s.objs:=by
   simp only[PState.app,xga,List.foldr_map]
  have e2:((s.callO ρ js os os').putD dst (r.ren ρ)).objs=os'.foldr (fun x l=>zi (rn ρ x.1) (x.2.ren ρ) l) (os.foldr (fun x l=>vc (rn ρ x.1) l) s.objs):=by cases dst <;> rfl
  rw[e1] at hlo;rw[e2];have inj':∀ i,i∈os'.map (·.1)->∀ j∈os'.map (·.1),rn ρ j=rn ρ i->j=i:=fun i hi j hj e=>hinj j i (List.mem_append_right _ (hks▸hj)) (List.mem_append_right _ (hks▸hi)) e
  rcases YQ hlo with⟨i,o1,h3,h4,h5⟩ | ⟨h3,h4⟩
  ·have h6:=hV.get i o1 h3;rw[h4,h5];exact wpa h6 (inj' i (zx h6))
  ·by_cases hex:∃ i∈os'.map (·.1),rn ρ i=id
   ·obtain⟨i,hi,rfl⟩:=hex;have h5:=List.all_eq_true.1 hcov i hi;rw[Bool.or_eq_true] at h5;rcases h5 with h5 | h5
    ·exact absurd rfl (h3 i (zW.1 h5))
    ·obtain⟨o2,h6⟩:=yga (zW.1 h5);have h7:=hAS.get i o2 h6;rw[h4] at h7
     cases h7
     exact wpa (hS.get i o2 h6) (inj' i hi)
   ·rw[lookN fun i hi e=>hex ⟨i,hi,e⟩,wqa fun i hi e=>hex ⟨i,by rw[hks];exact zW.1 (List.all_eq_true.1 c3 i hi),e⟩];exact h4
theorem LR.callObjS{x:Operand}{xs:List Operand}{ats:Array TypeId}{fn:FuncId}{ps qs:List PV}{os os':List (Nat×Ob)}{pins:List Nat}{r:PV}(ρ:List (Nat×Nat))(js ks:List Nat)(osV osS:List (Nat×Ob))
  (hc:PObj P fn ps os pins r (fun _:Unit=>os')) (hK:∀ b,ctx.K b->ctx.S b) (hx:s.ev x=some (.d (.v (.func (.func fn) #[] #[])))) (he:∀ args w,(callFunc fn args).run P w=.ok (.enter fn args) w) (hps:s.evs xs=some qs)
  (hq:qs.map PV.nilD=ps.map (PV.ren ρ)) (hos:AllOb s ρ os) (hV:LookIn os' osV) (hS:LookIn os' osS) (hAS:AllOb s ρ osS) (hcov:(os'.map (·.1)).all (fun i=>inL (osV.map (·.1)) i||inL (osS.map (·.1)) i)=true) (c3:(os.map (·.1)).all (inL ks)=true)
  (hks:os'.map (·.1)=ks) (hcl:os'.all (fun x=>x.2.named ks)=true) (hr:r.named ks=true) (hok:WN s ρ js (os.map (·.1)) pins ks=true) :
  Local P ctx ⟨dst,.call ⟨.value x,xs.toArray,ats⟩,ty,pos,after,gd⟩ s (s.app (xga ρ js dst r osV)):=
 (LR.callObj (P:=P) (ctx:=ctx) (dst:=dst) (ty:=ty) (pos:=pos) (after:=after) (gd:=gd) (ats:=ats) ρ js ks hc hK hx he hps hq hos hks hcl hr hok).post (wra ρ js ks osV osS hV hS hAS hcov c3 hks hok)
theorem LR.appTD{α:Type}{enc:α->List DV}{L R:List α}{x y:Operand}{id m k bs':Nat}{t t' e e':TypeId}(js:List Nat)(hK:∀ b,ctx.K b->ctx.S b)(hE:ElemOK P t e k bs')(hu':P.underlying t'=some (.slice e'))(hx:s.ev x=some (.row id m))(hm:m=L.length)
  (hl:look s.objs id=some (.row e k (L.map enc))) (hy:Src ctx s y (R.map enc) k) (hk:∀ x,(enc x).length=k) (hb:(L.length+R.length)*bs'<=140737488355328) (h1:Nat.ble 1 bs'=true) (ha:(s.junks js).alone id=true) :
  Local P ctx ⟨dst,.call ⟨.builtin .append,#[x,y],#[t,t']⟩,ty,pos,after,gd⟩ s (((s.junks js).setO id (.row e k [])).putD dst (.d (.sl ((L++R).map enc)))):=by
 refine(LR.appT (enc:=enc) (L:=L) (R:=R) (dst:=dst) js hE hu' hx hm hl hy hk hb h1 ha).post ?_;rintro a w ⟨g,hg⟩;have hl1:look (((s.junks js).setO id (.row e k ((L++R).map enc))).putD dst (.row id (L++R).length)).objs id=some (.row e k ((L++R).map enc)):=by
  rw[yU];show look (zi id _ _) id=_;rw[zC,if_pos rfl]
 have hha:∀ i p,i < s.n->xn (s.junks js).sl i=some p->p.has id=false:=fun i p hi hp=>by
  have:(s.junks js).at i=some p:=Vl (by rw[yq];exact hi) hp;exact VA ha this
 -- the row becomes data
 have hs2:∃ g',RelG ctx g' { n:=s.n,sl:=je dst (PV.d (.sl ((L++R).map enc)))++(s.junks js).sl,objs:=vc id (s.junks js).objs } a w:=by
  cases dst with
  | none=>
   have:=Sub.frz (s:=((s.junks js).setO id (.row e k ((L++R).map enc))).putD none (.row id (L++R).length)) (ctx:=ctx) (n:=(L++R).length) [] hK hl1 (by simp) (by simp) a w ⟨g,hg⟩;refine Sub.same ?_ ?_ (fun i=>?_) a w this
   ·simp[PState.frz,PState.putD,PState.setO,yq]
   ·rfl
   ·show look (vc id (zi id _ _)) i=look (vc id _) i;rw[yH,yH,zC]
    by_cases h:i=id <;> simp[h]
  | some d=>
   by_cases hd:d < s.n
   ·have:=Sub.frz (s:=((s.junks js).setO id (.row e k ((L++R).map enc))).putD (some d) (.row id (L++R).length)) (ctx:=ctx) (n:=(L++R).length) [d] hK hl1 (by simp) (by
     intro j hj;rw[List.mem_singleton] at hj;subst hj;refine Vl (by show j < (s.junks js).n;rw[yq];exact hd) ?_;show xn ((j,_)::_) j=_;rw[yC,if_pos rfl]) a w ⟨g,hg⟩
    refine Sub.drop ?_ (fun i p hp=>?_) (fun i o ho=>?_) a w this
    ·simp[PState.frz,PState.putD,PState.put,PState.setO,yq]
    ·have h1:xn ((d,PV.d (.sl ((L++R).map enc)))::(s.junks js).sl) i=some p:=wd hp;have h2:=Wz hp;refine Vl (by show i < (s.junks js).n;rw[yq];exact h2) ?_;show xn ((d,_)::(d,_)::_) i=some p;simp only[yC] at h1 ⊢
     split
     ·rename_i e;rw[if_pos e] at h1;exact h1
     ·rename_i e;rw[if_neg e] at h1;exact h1
    ·show look (vc id (zi id _ _)) i=some o;have ho':look (vc id (s.junks js).objs) i=some o:=ho;rw[yH,zC];rw[yH] at ho'
     by_cases h:i=id <;> simp_all
   ·have:=Sub.frz (s:=((s.junks js).setO id (.row e k ((L++R).map enc))).putD (some d) (.row id (L++R).length)) (ctx:=ctx) (n:=(L++R).length) [] hK hl1 (by simp) (by simp) a w ⟨g,hg⟩;refine Sub.drop ?_ (fun i p hp=>?_) (fun i o ho=>?_) a w this
    ·simp[PState.frz,PState.putD,PState.put,PState.setO,yq]
    ·have h1:xn ((d,PV.d (.sl ((L++R).map enc)))::(s.junks js).sl) i=some p:=wd hp;have h2:i < s.n:=Wz (s:={ n:=s.n,sl:=je (some d) (PV.d (.sl ((L++R).map enc)))++(s.junks js).sl,objs:=vc id (s.junks js).objs }) hp;refine Vl (by show i < (s.junks js).n;rw[yq];exact h2) ?_;show xn ((d,_)::_) i=some p;simp only[yC] at h1 ⊢;have hne:¬ d=i:=fun e=>hd (by rw[e];exact h2)
     rw[if_neg hne] at h1 ⊢;exact h1
    ·show look (vc id (zi id _ _)) i=some o;have ho':look (vc id (s.junks js).objs) i=some o:=ho;rw[yH,zC];rw[yH] at ho'
     by_cases h:i=id <;> simp_all
 obtain⟨g',hg'⟩:=hs2;have hfr:PState.fresh { n:=s.n,sl:=je dst (PV.d (.sl ((L++R).map enc)))++(s.junks js).sl,objs:=vc id (s.junks js).objs } id=true:=by
  unfold PState.fresh;rw[Bool.and_eq_true];unfold PState.alone at ha;rw[Bool.and_eq_true] at ha;refine⟨Uh fun x hx hh q hq=>?_,List.all_eq_true.2 fun x hx=>?_⟩
  ·cases dst with
   | none=>exact Yv ha.1 hx hq hh
   | some d=>
    have hq:xn ((d,PV.d (.sl ((L++R).map enc)))::(s.junks js).sl) x.1=some q:=hq;rcases List.mem_cons.1 hx with h | h
    ·rw[h] at hh;simp[PV.has] at hh
    ·simp only[yC] at hq
     split at hq
     ·cases hq;rfl
     ·exact Yv ha.1 h hq hh
  ·have h2:=WO hx;have h3:=List.all_eq_true.1 ha.2 x h2.2;simp[h2.1,h3]
 have h3:=hg'.new (Below.refl _ w) hfr none (fun b n e=>by cases e) (.row e k []) (.rowNil e k (zH _ _ _));refine Sub.drop ?_ (fun i p hp=>?_) (fun i o ho=>?_) a w ⟨_,h3⟩
 ·cases dst <;> simp[PState.putD,PState.put,PState.setO,yq]
 ·have h1:=wd hp;have h2:i < s.n:=by have:=Wz hp;cases dst <;> simpa[PState.putD,PState.put,PState.setO,yq] using this
  refine Vl h2 ?_
  cases dst <;> exact h1
 ·show look (zi id _ (vc id _)) i=some o;rw[yU] at ho;have ho':look (zi id (.row e k []) (s.junks js).objs) i=some o:=ho;rw[zC,yH];rw[zC] at ho'
  by_cases h:i=id <;> simp_all
end
end Go.Ep
namespace Go.Ep
open Go.RowKit
section
variable{P:Program}{ctx:Ctx}{Q:PQ}{s:PState}
variable{dst:Option Tmp}{ty:TypeId}{pos:String}{after:Array Edge}{gd:Option (Nat×Bool)}
theorem EpRd.of{w:World}{g:zV}{S:Nat->Prop}{ds:List DV}{u:Value}(h:Rd w g S (.ep ds 0) u):EpRd w S ds u:=by
 cases h with
 | ep _ b off _ c hS hb hc hr=>exact⟨b,off,c,rfl,hS,hb,hc,hr⟩
end
section
variable{ctx:Ctx}{s:PState}
inductive AllRef (s:PState) (id:Nat):List Nat->Prop
 | nil:AllRef s id []
 | cons {j:Nat} {js:List Nat} (h:s.at j=some (.ref id 0)) (r:AllRef s id js):AllRef s id (j::js)
theorem AllRef.get{id:Nat}{js:List Nat}(h:AllRef s id js):∀ j∈js,s.at j=some (.ref id 0):=by
 induction h with
 | nil=>intro j hj;cases hj
 | cons h _ ih=>
  intro j hj;rcases List.mem_cons.1 hj with rfl | hj
  ·exact h
  ·exact ih j hj
end
inductive zda (s:PState):List PV->List PV->Prop
 | nil:zda s [] []
 | data {q p:PV} {qs ps:List PV} (h:q.nilD=p) (hd:p.isData=true) (t:zda s qs ps):zda s (q::qs) (p::ps)
 | row {id n k:Nat} {e:TypeId} {l:List (List DV)} {qs ps:List PV} (hl:look s.objs id=some (.row e k l)) (hn:l.length=n) (t:zda s qs ps):zda s (.row id n::qs) (.d (.sl l)::ps)
 | nest {id id2 n k:Nat} {e T:TypeId} {l:List (List DV)} {qs ps:List PV} (h2:look s.objs id2=some (.cells T [.row id n])) (hl:look s.objs id=some (.row e k l)) (hn:l.length=n) (t:zda s qs ps):zda s (.pa id2 0 1::qs) (.d (.sl [[.sl l]])::ps)
section
variable{P:Program}{ctx:Ctx}{Q:PQ}{s:PState}
variable{dst:Option Tmp}{ty:TypeId}{pos:String}{after:Array Edge}{gd:Option (Nat×Bool)}
def LentS(ctx:Ctx)(g:zV)(s:PState)(b:Nat):Prop:=zd ctx g s.objs b\/∃ id o n,look s.objs id=some o/\g id=some (b,n)
end
end Go.Ep
namespace Go.Ep
open Go Go.RowKit
def aIx(o:Nat)(i:Int):Nat:=o+i.toNat
namespace AR
def pl(k:IntKind)(A:A16):List PV:=(l A).map fun n=>.d (.v (.int k n))
theorem pl_get{k:IntKind}{A:A16}{i:Nat}(h:i < 16):(pl k A)[i]?=some (.d (.v (.int k (get A i)))):=by
 unfold pl;rw[List.getElem?_map,get_lt h];rfl
theorem at_{cs:List PV}{o i:Nat}{k:IntKind}{A:A16}(h:(cs.drop o).take 16=pl k A)(hi:i < 16):cs[o+i]?=some (.d (.v (.int k (get A i)))):=by
 rw[<- pl_get hi,<- h,List.getElem?_take,if_pos hi,List.getElem?_drop]
theorem room{cs:List PV}{o:Nat}{k:IntKind}{A:A16}(h:(cs.drop o).take 16=pl k A):o+16<=cs.length:=by
 have e:=congrArg List.length h;rw[List.length_take,List.length_drop] at e;have:(pl k A).length=16:=rfl;omega
theorem parts{cs:List PV}{o:Nat}{k:IntKind}{A:A16}(h:(cs.drop o).take 16=pl k A):cs=cs.take o++(pl k A++cs.drop (o+16)):=by
 have e:cs.drop o=pl k A++cs.drop (o+16):=by
  rw[<- h,<- List.drop_drop,List.take_append_drop]
 rw[<- e,List.take_append_drop]
theorem put{cs:List PV}{o i:Nat}{k:IntKind}{A:A16}{v:Int}(h:(cs.drop o).take 16=pl k A)(hi:i < 16) :
  cs.take (o+i)++[.d (.v (.int k v))]++cs.drop (o+i+1)=cs.take o++pl k (set A i v)++cs.drop (o+16):=by
 have hr:=room h;have e1:cs.take (o+i)++[.d (.v (.int k v))]++cs.drop (o+i+1)=cs.set (o+i) (.d (.v (.int k v))):=by
  rw[List.set_eq_take_append_cons_drop,if_pos (by omega),List.append_assoc];rfl
 have hl:(cs.take o).length=o:=by rw[List.length_take];omega
 have hp:(pl k A).length=16:=rfl;have e2:cs.set (o+i) (.d (.v (.int k v)))=cs.take o++((pl k A).set i (.d (.v (.int k v)))++cs.drop (o+16)):=by
  conv=>lhs;rw[parts h]
  rw[List.set_append_right _ _ (by omega),hl,show o+i - o=i by omega,List.set_append_left _ _ (by omega)]
 rw[e1,e2,<- List.append_assoc]
 congr 2
 unfold pl;rw[l_set,List.map_set]
end AR
section
variable{P:Program}{ctx:Ctx}{Q:PQ}{s:PState}
variable{dst:Option Tmp}{ty:TypeId}{pos:String}{after:Array Edge}{gd:Option (Nat×Bool)}
theorem Vc{t e:TypeId}{n k:Nat}(hu:P.underlying t=some (.array n e))(h2:1 < n)(hs:∀ w,(sizeOf e).run P w=.ok k w)(b off:Nat)(ki:IntKind)(i:Int)(hi:0<=i/\i < (n:Int))(w:World) :
  (Instr.indexAt t (.pointer (some ⟨b,off,none⟩)) (.int ki i)).run P w=.ok (.pointer (some ⟨b,off+i.toNat*k,none⟩)) w:=by
 simp[Instr.indexAt,asIntOf,run_underlying hu,hi.1,hi.2,hs,Addr.add_lit,Result.andThen,Instr.sureAddr]
theorem LR.idxArr{x ix:Operand}{id o n:Nat}{ki:IntKind}{i:Int}{t e:TypeId}(hu:P.underlying t=some (.array n e))(h2:Nat.blt 1 n=true)(hs:∀ w,(sizeOf e).run P w=.ok 1 w)
  (hx:s.ev x=some (.ref id o)) (hix:s.ev ix=some (.d (.v (.int ki i)))) (hi:0<=i/\i < (n:Int)) :
  Local P ctx ⟨dst,.indexAddr t x ix,ty,pos,after,gd⟩ s (s.putD dst (.ref id (aIx o i))):=
 zE (o:=⟨dst,.indexAddr t x ix,ty,pos,after,gd⟩) fun a w g hg=>by
  have h:=hg.ev hx
  generalize hv:a.eval x=v at h
  cases h with
  | ref _ _ blk m hgi=>
   refine⟨.pointer (some ⟨blk,aIx o i,none⟩),?_,.ref id _ blk m hgi⟩;have:=Vc (P:=P) hu (by simpa[Nat.blt_eq] using h2) hs blk o ki i hi w;rw[Nat.mul_one] at this;simp[execOp,hv,xX hg hix,this,Result.andThen,aIx]
theorem LR.idxArrK{x ix:Operand}{id o n k j:Nat}{ki:IntKind}{i:Int}{t e:TypeId}(hu:P.underlying t=some (.array n e))(h2:Nat.blt 1 n=true)(hs:∀ w,(sizeOf e).run P w=.ok k w)
  (hx:s.ev x=some (.ref id o)) (hix:s.ev ix=some (.d (.v (.int ki i)))) (hi:i=(j:Int)) (hj:Nat.blt j n=true) :
  Local P ctx ⟨dst,.indexAddr t x ix,ty,pos,after,gd⟩ s (s.putD dst (.ref id (o+j*k))):=
 zE (o:=⟨dst,.indexAddr t x ix,ty,pos,after,gd⟩) fun a w g hg=>by
  have h:=hg.ev hx;rw[Nat.blt_eq] at h2 hj
  generalize hv:a.eval x=v at h
  cases h with
  | ref _ _ blk m hgi=>
   refine⟨.pointer (some ⟨blk,o+j*k,none⟩),?_,.ref id _ blk m hgi⟩;have:=Vc (P:=P) hu h2 hs blk o ki i (by omega) w;rw[hi,Int.toNat_natCast] at this;simp[execOp,hv,xX hg hix,hi,this,Result.andThen]
theorem LR.loadArr{x:Operand}{id o:Nat}{i:Int}{T T0:TypeId}{cs:List PV}(k:IntKind)(A:A16)(ha:∀ w,(isAgg T).run P w=.ok false w)(hx:s.ev x=some (.ref id (aIx o i)))(hl:look s.objs id=some (.cells T0 cs))
  (hi:0<=i/\i < ((16:Nat):Int)) (hA:(cs.drop o).take 16=AR.pl k A) :
  Local P ctx ⟨dst,.load T x,ty,pos,after,gd⟩ s (s.putD dst (.d (.v (.int k (AR.get A i.toNat))))):=LR.loadRef ha hx hl (AR.at_ hA (AR.lt hi))
theorem LR.storeArr{x y:Operand}{id o:Nat}{i v:Int}{T T0:TypeId}{cs ns:List PV}(k:IntKind)(A:A16)(hs:∀ w,(sizeOf T).run P w=.ok 1 w)(hx:s.ev x=some (.ref id (aIx o i)))(hy:s.ev y=some (.d (.v (.int k v))))(hl:look s.objs id=some (.cells T0 cs))
  (hi:0<=i/\i < ((16:Nat):Int)) (hA:(cs.drop o).take 16=AR.pl k A) (hns:cs.take o++AR.pl k (AR.set A i.toNat v)++cs.drop (o+16)=ns) :
  Local P ctx ⟨none,.store T x y,ty,pos,after,gd⟩ s (s.setO id (.cells T0 ns)):=by
 have h16:=AR.lt hi;have hr:=AR.room hA;exact LR.store (ps:=[.d (.v (.int k v))]) hs hx hy rfl rfl hl (by unfold aIx;omega) (by rw[<- hns,<- AR.put hA h16];rfl)
theorem LR.sliceArr{x:Operand}{id o n k:Nat}{t e:TypeId}(hu:P.underlying t=some (.array n e))(hs:∀ w,(sizeOf e).run P w=.ok k w)(hx:s.ev x=some (.ref id o)) :
  Local P ctx ⟨dst,.slice t x none none none,ty,pos,after,gd⟩ s (s.putD dst (.pa id o n)):=
 zE (o:=⟨dst,.slice t x none none none,ty,pos,after,gd⟩) fun a w g hg=>by
  have h:=hg.ev hx
  generalize hv:a.eval x=v at h
  cases h with
  | ref _ _ blk m hgi=>
   refine⟨.slice (some ⟨blk,o,none⟩) n n,?_,.pa id o n blk m hgi⟩;simp[execOp,hv,Instr.sliceAt,Instr.sureAddr,Instr.sliceBounds,run_underlying hu,hs,Addr.add_lit,Result.andThen]
theorem Jc{w:World}{S:Nat->Prop}{k:IntKind}{L:List Int}{u:Value}(h:DRd w S (.sl (L.map (eK k))) u){m:Nat}(hm:m<=L.length) :
  (Builtin.firstCells 1 m u).run P w=.ok ((L.take m).map (Value.int k)).toArray w/\∃ ao cap,u=.slice ao L.length cap:=by
 generalize hl:L.map (eK k)=l at h
 cases h with
 | nil a cap hc hn=>
  have hL:L=[]:=by simpa using hl
  subst hL;have h0:m=0:=by simpa using hm
  subst h0;refine⟨?_,a,cap,rfl⟩
  cases a with
  | none=>simp[Builtin.firstCells]
  | some a=>simpa[Builtin.firstCells] using run_loadCells_list (P:=P) w a [] (fun j v hj=>by simp at hj)
 | sl _ b off cap k' c hll hcap hS hb hkk hc hr=>
  subst hl;refine⟨?_,_,cap,by rw[List.length_map]⟩;have key:=run_loadCells_list (P:=P) w ⟨b,off,none⟩ ((L.take m).map (Value.int k)) fun j v hj=>by
   rw[List.getElem?_map,List.getElem?_take] at hj
   split at hj
   ·rename_i hjm
    have hjl:j < L.length:=by omega
    rw[List.getElem?_eq_getElem hjl] at hj;simp only[Option.map_some,Option.some.injEq] at hj;have hel:(L.map (eK k))[j]?=some (eK k L[j]):=by rw[List.getElem?_map,List.getElem?_eq_getElem hjl];rfl
    have hk1:k'=1:=(hkk j _ hel).symm;have h1:=hc j 0 (by rw[List.length_map];exact hjl) (by omega);have h2:=hr j _ 0 (.v (.int k L[j])) hel rfl;rw[hk1,Nat.mul_one,Nat.add_zero] at h1;have h3:c j 0=.int k L[j]:=by
     generalize c j 0=z at h2
     cases h2 with
     | v=>rfl
    rw[Addr.add_lit,h1,<- hj,h3]
   ·cases hj
  rw[List.length_map,List.length_take,Nat.min_eq_left hm] at key;simpa[Builtin.firstCells] using key
theorem LR.copyArr{x y:Operand}{id o:Nat}{T0 t1 t2 e:TypeId}{cs ns:List PV}(k:IntKind)(A:A16){L:List Int}(hu:P.underlying t1=some (.slice e))(hs:∀ w,(sizeOf e).run P w=.ok 1 w)
  (hx:s.ev x=some (.pa id o 16)) (hy:s.ev y=some (.d (.sl (L.map (eK k))))) (hl:look s.objs id=some (.cells T0 cs)) (hA:(cs.drop o).take 16=AR.pl k A) (hns:cs.take o++AR.pl k (AR.over A L)++cs.drop (o+16)=ns) :
  Local P ctx ⟨dst,.call ⟨.builtin .copy,#[x,y],#[t1,t2]⟩,ty,pos,after,gd⟩ s ((s.setO id (.cells T0 ns)).putD dst (.d (.v (.int .i64 (min L.length 16:Nat))))):=by
 refine zn (o:=⟨dst,.call ⟨.builtin .copy,#[x,y],#[t1,t2]⟩,ty,pos,after,gd⟩) fun a w g hg=>?_
 have hxv:=hg.ev hx;have hyv:=hg.ev hy
 generalize hv:a.eval x=v at hxv
 generalize hv2:a.eval y=v2 at hyv
 cases hyv with
 | d hyd=>
 obtain⟨hf,ao,cap,rfl⟩:=Jc (P:=P) hyd (m:=min L.length 16) (Nat.min_le_left _ _)
 cases hxv with
 | pa _ _ _ blk n hgi=>
  cases hg.objs id _ hl with
  | cells _ _ blk' n' us h' hh hulen hr h1=>
   rw[hgi] at h'
   cases h'
   have hroom:=AR.room hA
   let vs:List Value:=(L.take (min L.length 16)).map (Value.int k)
   have hvl:vs.length=min L.length 16:=by simp only[vs,List.length_map,List.length_take];omega
   have hv1:∀ u∈vs,u.oneCell'=true:=fun u hu=>by
    obtain⟨i,_,rfl⟩:=List.mem_map.1 hu;rfl
   have hrun:=run_storeCells_at P blk o T0 vs 0 us.toArray w hh (by simp;omega) hv1
   let new:List Value:=us.take o++vs++us.drop (o+vs.length)
   have hrun':(storeCells ⟨blk,o,none⟩ vs).run P w=.ok () (w.setRow blk new.toArray):=by
    simpa[new] using hrun
   refine⟨.int .i64 (min L.length 16:Nat),w.setRow blk new.toArray,?_,g,?_⟩
   ·have hmin:Nat.min L.length 16=min L.length 16:=rfl;have hrun2:(storeCells ⟨blk,o,none⟩ (List.take (min L.length 16) (List.map (Value.int k) L))).run P w=.ok () (w.setRow blk new.toArray):=by
     rw[<- List.map_take];exact hrun'
    simp[execOp,resolve,invoke,builtin,hv,hv2,Builtin.copy_,run_underlying hu,hs,Builtin.lenOf,hmin,hf,hrun2,Result.andThen,goInt]
   ·have hown:=hg.own id _ blk n hl hgi;have hother:∀ k,k < w.heap.size->k≠blk->(w.setRow blk new.toArray).heap[k]?=w.heap[k]?:=fun k _ hne=>setRow_other w blk k _ hne
    have hst:yR w (w.setRow blk new.toArray) (zd ctx g s.objs):=⟨by simp,fun b ⟨_,h2⟩ hlt=>hother b hlt fun e=>by subst e;exact h2 id _ n hl hgi⟩
    suffices hob:ObRd (w.setRow blk new.toArray) g (zd ctx g (zi id (.cells T0 ns) s.objs)) id (.cells T0 ns) from (hg.wrote (w':=w.setRow blk new.toArray) hl hgi rfl rfl rfl (by simp) hother hown.2 hob).put dst (.d (.v (.int .i64 (min L.length 16:Nat)) rfl))
    have hF:=xg (ctx:=ctx) (g:=g) (ob':=.cells T0 ns) hl;have hlt:(L.take 16)=L.take (min L.length 16):=by
     rcases Nat.le_total L.length 16 with h | h
     ·rw[Nat.min_eq_left h,List.take_of_length_le h,List.take_of_length_le (Nat.le_refl _)]
     ·rw[Nat.min_eq_right h]
    have hl16:(L.take 16).length=min L.length 16:=by rw[List.length_take];omega
    have hnl:ns=cs.take o++(vs.map fun u=>PV.d (.v u))++cs.drop (o+vs.length):=by
     rw[<- hns];have e1:AR.pl k (AR.over A L)=(vs.map fun u=>PV.d (.v u))++(AR.pl k A).drop (min L.length 16):=by
      unfold AR.pl;rw[AR.l_over,List.map_append,List.map_drop,hl16,hlt];simp[vs,Function.comp_def]
     have e2:cs.drop (o+vs.length)=(AR.pl k A).drop (min L.length 16)++cs.drop (o+16):=by
      have hlo:(cs.take o).length=o:=by rw[List.length_take];omega
      have hp:(AR.pl k A).length=16:=rfl
      conv=>lhs;rw[AR.parts hA]
      rw[List.drop_append,List.drop_eq_nil_of_le (by omega),List.nil_append,hlo,show o+vs.length - o=min L.length 16 by omega,List.drop_append,show min L.length 16 - (AR.pl k A).length=0 by omega,List.drop_zero]
     rw[e1,e2];simp only[List.append_assoc]
    refine .cells T0 _ blk n new hgi (xz hh) (by rw[hnl];simp[new,hulen]) ?_ ?_
    ·intro i q u hq hu;rw[hnl] at hq;have key:Rd w g (zd ctx g s.objs) q u:=by
      simp only[new] at hu;rw[List.append_assoc,List.getElem?_append] at hq hu;have l1:(cs.take o).length=o:=by rw[List.length_take];omega
      have l2:(us.take o).length=o:=by rw[List.length_take];omega
      rw[l1] at hq;rw[l2] at hu
      by_cases h3:i < o
      ·rw[if_pos h3] at hq hu;simp only[List.getElem?_take,h3,if_true] at hq hu;exact hr i q u hq hu
      ·rw[if_neg h3] at hq hu;rw[List.getElem?_append] at hq hu;rw[List.length_map] at hq
       by_cases h4:i - o < vs.length
       ·rw[if_pos h4] at hq hu;rw[List.getElem?_map,hu] at hq;simp only[Option.map_some,Option.some.injEq] at hq;subst hq;exact .d (.v _ (hv1 _ (List.mem_of_getElem? hu)))
       ·rw[if_neg h4] at hq hu;rw[List.getElem?_drop] at hq hu;exact hr _ q u hq hu
     exact key.keep hst (fun b hb _=>hF b hb) (fun _ _=>rfl)
    ·intro u hu;simp only[new,List.append_assoc,List.mem_append] at hu;rcases hu with hu | hu | hu
     ·exact h1 u (List.mem_of_mem_take hu)
     ·exact hv1 u hu
     ·exact h1 u (List.mem_of_mem_drop hu)
theorem LR.rowLendPa{id id2 o:Nat}{x y:Operand}{ats:Array TypeId}{f:FuncId}{e T0:TypeId}{cs:List PV}{L:List Int}(k:IntKind)(A:A16)(hc:PRow P f [.d (.sl ((AR.l A).map (eK k)))] e 1 (L.map (eK k)))(hx:s.ev x=some (.d (.v (.func (.func f) #[] #[]))))(he:∀ args w,(callFunc f args).run P w=.ok (.enter f args) w)
  (hy:s.ev y=some (.pa id2 o 16)) (hl:look s.objs id2=some (.cells T0 cs)) (hA:(cs.drop o).take 16=AR.pl k A) (hf:s.fresh id=true) :
  Local P ctx ⟨some id,.call ⟨.value x,#[y],ats⟩,ty,pos,after,gd⟩ s (s.newO id (.row e 1 (L.map (eK k))) (.row id L.length)):=
 Zc (o:=⟨some id,.call ⟨.value x,#[y],ats⟩,ty,pos,after,gd⟩) fun a w g hg=>by
  refine⟨f,_,uM (o:=⟨some id,.call ⟨.value x,#[y],ats⟩,ty,pos,after,gd⟩) rfl (Vt hg hx) he w,?_⟩;have hyv:=hg.ev hy;have hob:=hg.objs id2 _ hl;rw[show(#[y].map a.eval:Array Value)=[a.eval y].toArray by simp]
  generalize hv:a.eval y=v at hyv
  cases hyv with
  | pa _ _ _ blk n hgi=>
  cases hob with
  | cells _ _ blk' n' us h' hh hulen hr h1=>
  rw[hgi] at h'
  cases h'
  have hown:=hg.own id2 _ blk n hl hgi;have hroom:=AR.room hA;have hlen16:((AR.l A).map (eK k)).length=16:=rfl;have hd:DRd w (LentS ctx g s) (.sl ((AR.l A).map (eK k))) (.slice (some ⟨blk,o,none⟩) 16 16):=by
   have:=DRd.sl (w:=w) (S:=LentS ctx g s) ((AR.l A).map (eK k)) blk o 16 1 (fun i _=>.int k (AR.get A i)) (by rw[hlen16];omega) (by decide) (.inr ⟨id2,_,n,hl,hgi⟩) hown.1 (fun i cs' hi=>?_) (fun i j hi hj=>?_) (fun i cs' j x hi hx=>?_)
   ·rwa [hlen16] at this
   ·rw[List.getElem?_map] at hi
    cases hq:(AR.l A)[i]? with
    | none=>rw[hq] at hi;cases hi
    | some q=>rw[hq] at hi;simp only[Option.map_some,Option.some.injEq] at hi;subst hi;rfl
   ·have hj0:j=0:=by omega
    subst hj0;rw[hlen16] at hi;rw[zc hh,Nat.mul_one,Nat.add_zero];have h5:=AR.at_ hA hi;have h6:o+i < us.length:=by rw[<- hulen];exact(List.getElem?_eq_some_iff.1 h5).1
    have h7:us[o+i]?=some us[o+i]:=List.getElem?_eq_getElem h6;have h8:=hr _ _ _ h5 h7;rw[h7]
    generalize us[o+i]=z at h8
    cases h8 with
    | d h=>cases h with
     | v=>rfl
   ·have hi16:i < 16:=by have:=(List.getElem?_eq_some_iff.1 hi).1;rwa [hlen16] at this
    rw[List.getElem?_map,AR.get_lt hi16] at hi;simp only[Option.map_some,Option.some.injEq] at hi;subst hi
    cases j with
    | zero=>simp[eK] at hx;subst hx;exact .v _ rfl
    | succ j=>simp[eK] at hx
  refine(hc w (LentS ctx g s) [.slice (some ⟨blk,o,none⟩) 16 16] rfl (fun i p u hp hu=>?_)).mono fun en w' ⟨u,he,hb,hru⟩=>⟨u,he,?_⟩
  ·cases i with
   | zero=>simp at hp hu;subst hp;subst hu;exact .d hd
   | succ i=>simp at hp
  generalize hLe:L.map (eK k)=l at hru
  have hll:l.length=L.length:=by rw[<- hLe,List.length_map]
  rw[<- hll]
  cases hru with
  | nil=>
   exact⟨upd g id none,(hg.new hb hf none (fun b n e=>by cases e) (.row e 1 []) (.rowNil e 1 (zH _ _ _))).put (some id) (.rowNil id (zH _ _ _))⟩
  | row _ blk2 cap cur hbase hh2 hlc hcap hcs hk hr2=>
   have hlt:blk2 < w'.heap.size:=(Array.getElem?_eq_some_iff.1 hh2).1;refine⟨upd g id (some (blk2,cap)),(hg.new hb hf (some (blk2,cap)) (fun b n e=>by cases e;exact⟨hbase,hlt⟩) (.row e 1 l) ?_).put (some id) (.row id _ blk2 cap (zH _ _ _))⟩;refine .row e 1 l blk2 cap cur (zH _ _ _) hh2 hlc hcap hcs hk fun i cs' j x hi hx=>?_
   obtain⟨u2,hu2,hd2⟩:=hr2 i cs' j x hi hx;refine⟨u2,hu2,?_⟩;subst hLe;rw[List.getElem?_map] at hi
   cases hq:L[i]? with
   | none=>rw[hq] at hi;cases hi
   | some q=>
    rw[hq] at hi;simp only[Option.map_some,Option.some.injEq] at hi;subst hi
    cases j with
    | zero=>
     simp[eK] at hx;subst hx
     cases hd2 with
     | v _ h=>exact .v _ h
    | succ j=>simp[eK] at hx
end
section
variable{P:Program}{ctx:Ctx}{Q:PQ}{s:PState}
variable{dst:Option Tmp}{ty:TypeId}{pos:String}{after:Array Edge}{gd:Option (Nat×Bool)}
variable{κ ν:Type}[DecidableEq κ]{eK:κ->List Int}{eV:ν->List DV}{m:List (κ×ν)}{q:κ}(inj:∀ a b,eK a=eK b->a=b)
variable{x kx:Operand}{t kt et:TypeId}{ks:List IntKind}{ag:Bool}{kp:PV}{id:Nat}{nl:Bool}
include inj in
theorem LR.setH{vx:Operand}{v:ν}{pv:PV}(hu:P.underlying t=some (.map kt et))(K:KeyOK P kt ks)(hx:s.ev x=some (.mp id))(hl:look s.objs id=some (.mapH nl ks ag (zN eK eV m)))
  (hk:s.ev kx=some kp) (hkp:kp=xca ks (eK q)) (hn:(eK q).length=ks.length) (hv:s.ev vx=some pv) (hq:elP ag (eV v)=pv) (h1:ag=false->(eV v).length=1) (hnl:nl=false) :
  Local P ctx ⟨none,.mapUpdate t x kx vx,ty,pos,after,gd⟩ s (s.setO id (.mapH nl ks ag (zN eK eV (AL.set m q v)))):=by
 subst hnl;refine Local.openH hl fun bs ck=>Local.pre (Sub.trans (Sub.mapF (id:=id) (by show look (zi id _ _) id=_;rw[zC,if_pos rfl]) rfl) (Sub.same (t:={ s with objs:=zi id (.map ks ag (zN eK eV m) bs ck) s.objs }) rfl rfl fun i=>by
  show look (zi id _ (zi id _ _)) i=look (zi id _ _) i;rw[WQ])) ((LR.setM (m:=m) (bs:=bs) (ck:=ck) (id:=id) inj hu K (by rw[VC];exact hx) (by show look (zi id _ _) id=_;rw[zC,if_pos rfl]) (by rw[VC];exact hk) hkp hn (by rw[VC];exact hv) hq h1).post
  (Sub.trans (Sub.toH (id:=id) (by show look (zi id _ _) id=_;rw[zC,if_pos rfl])) (Sub.same rfl rfl fun i=>by
   show look (zi id _ (zi id _ (zi id _ _))) i=look (zi id _ _) i;rw[WQ,zC,zC,zC]
   by_cases h:i=id <;> simp[h])))
end
end Go.Ep
namespace Go.Ep
def TMember.e(x:TMember):List DV:=[.v (.int .u16 x.dev),.v (.int .u8 x.slot),.v (.int .u64 x.try_)]
def TMember.v(x:TMember):List Value:=[(.int .u16 x.dev),(.int .u8 x.slot),(.int .u64 x.try_)]
theorem TMember.v1(x:TMember):∀ u∈x.v,u.oneCell'=true:=by
 intro u hu;simp only[TMember.v,List.mem_cons,List.not_mem_nil,or_false] at hu;rcases hu with rfl | rfl | rfl <;> rfl
def TMember.k(x:TMember):List Int:=[x.dev,x.slot,x.try_]
def RN.e(x:RN):List DV:=[.v (.int .u64 x.lo),.v (.int .u64 x.hi)]
def RN.v(x:RN):List Value:=[(.int .u64 x.lo),(.int .u64 x.hi)]
theorem RN.v1(x:RN):∀ u∈x.v,u.oneCell'=true:=by
 intro u hu;simp only[RN.v,List.mem_cons,List.not_mem_nil,or_false] at hu;rcases hu with rfl | rfl <;> rfl
def RN.k(x:RN):List Int:=[x.lo,x.hi]
def PT.e(x:PT):List DV:=[.v (.int .u16 x.dev),.sl (List.map RN.e x.runs)]
def TRow.e(x:TRow):List DV:=[.v (.int .u16 x.who),.sl (List.map PT.e x.have_)]
def DT.e(x:DT):List DV:=[.v (.int .u16 x.dev),.v (.int .u64 x.n)]
def DT.v(x:DT):List Value:=[(.int .u16 x.dev),(.int .u64 x.n)]
theorem DT.v1(x:DT):∀ u∈x.v,u.oneCell'=true:=by
 intro u hu;simp only[DT.v,List.mem_cons,List.not_mem_nil,or_false] at hu;rcases hu with rfl | rfl <;> rfl
def DT.k(x:DT):List Int:=[x.dev,x.n]
theorem DT.k_inj(a b:DT)(h:a.k=b.k):a=b:=by
 cases a;cases b;simp[DT.k] at h;simp[h]
def EV.e(x:EV):List DV:=[.v (.int .u16 x.dot.dev),.v (.int .u64 x.dot.n),.v (.int .u8 x.kind),.v (.int .u64 x.cid),.v (.int .u8 x.field),.v (.string x.text),.sl (List.map DT.e x.kills)]
def THubState.e(x:THubState):List DV:=[.v (.int .u64 x.epoch),.v (.int .u16 x.last),.sl (List.map TMember.e x.members),.sl (List.map (eK .u64) x.tries),.sl (List.map TRow.e x.rows),.sl (List.map PT.e x.ctx),.sl (List.map EV.e x.all)]
def PpackWriter.e(x:PpackWriter):List DV:=[.sl (List.map (eK .u8) x.b)]
def R26Roster.e(x:R26Roster):List DV:=[.v (.int .u64 x.epoch),.v (.int .u16 x.last),.sl (List.map TMember.e x.l),.v (.int .u64 x.tries.1),.v (.int .u64 x.tries.2.1),.v (.int .u64 x.tries.2.2.1),.v (.int .u64 x.tries.2.2.2.1),.v (.int .u64 x.tries.2.2.2.2.1),.v (.int .u64 x.tries.2.2.2.2.2.1),.v (.int .u64 x.tries.2.2.2.2.2.2.1),.v (.int .u64 x.tries.2.2.2.2.2.2.2.1),.v (.int .u64 x.tries.2.2.2.2.2.2.2.2.1),.v (.int .u64 x.tries.2.2.2.2.2.2.2.2.2.1),.v (.int .u64 x.tries.2.2.2.2.2.2.2.2.2.2.1),.v (.int .u64 x.tries.2.2.2.2.2.2.2.2.2.2.2.1),.v (.int .u64 x.tries.2.2.2.2.2.2.2.2.2.2.2.2.1),.v (.int .u64 x.tries.2.2.2.2.2.2.2.2.2.2.2.2.2.1),.v (.int .u64 x.tries.2.2.2.2.2.2.2.2.2.2.2.2.2.2.1),.v (.int .u64 x.tries.2.2.2.2.2.2.2.2.2.2.2.2.2.2.2)]
def RB.e(x:RB):List DV:=[.sl (List.map PT.e x.ctx),.sl (List.map EV.e x.l)]
def R25Row.e(x:R25Row):List DV:=[.v (.int .u16 x.who),.sl (List.map PT.e x.c)]
def R33Center.e(x:R33Center):List DV:=[.v (.int .u64 x.r.epoch),.v (.int .u16 x.r.last),.sl (List.map TMember.e x.r.l),.v (.int .u64 x.r.tries.1),.v (.int .u64 x.r.tries.2.1),.v (.int .u64 x.r.tries.2.2.1),.v (.int .u64 x.r.tries.2.2.2.1),.v (.int .u64 x.r.tries.2.2.2.2.1),.v (.int .u64 x.r.tries.2.2.2.2.2.1),.v (.int .u64 x.r.tries.2.2.2.2.2.2.1),.v (.int .u64 x.r.tries.2.2.2.2.2.2.2.1),.v (.int .u64 x.r.tries.2.2.2.2.2.2.2.2.1),.v (.int .u64 x.r.tries.2.2.2.2.2.2.2.2.2.1),.v (.int .u64 x.r.tries.2.2.2.2.2.2.2.2.2.2.1),.v (.int .u64 x.r.tries.2.2.2.2.2.2.2.2.2.2.2.1),.v (.int .u64 x.r.tries.2.2.2.2.2.2.2.2.2.2.2.2.1),.v (.int .u64 x.r.tries.2.2.2.2.2.2.2.2.2.2.2.2.2.1),.v (.int .u64 x.r.tries.2.2.2.2.2.2.2.2.2.2.2.2.2.2.1),.v (.int .u64 x.r.tries.2.2.2.2.2.2.2.2.2.2.2.2.2.2.2),.sl (List.map R25Row.e x.m),.sl (List.map PT.e x.b.ctx),.sl (List.map EV.e x.b.l)]
def R04Reader.e(x:R04Reader):List DV:=[.sl (List.map (eK .u8) x.b),.v (.int .i64 x.at_),.v (.int .i64 x.bad)]
def Ppackrest.e(x:Ppackrest):List DV:=[.sl (List.map (eK .u8) x.b)]
def PpackReader.e(x:PpackReader):List DV:=[.sl (List.map (eK .u8) x.rest.b),.v (.int .i64 x.bad)]
end Go.Ep
namespace Go.Ep
open Go.RowKit
section
variable{P:Program}
theorem Ui{kt:TypeId}{k1 k2:IntKind}(he:∀ {a0 a1 b0 b1:Int},zZa P kt [.int k1 a0,.int k2 a1] [.int k1 b0,.int k2 b1] (decide (a0=b0)&&decide (a1=b1)))(w:World)(x y:Int) :
  ∀ (m:Mp) (es:List MapEntry) (i:Nat),es.length=m.length->(∀ (i:Nat) (e:MapEntry) (n:List Int) (c:List DV),es[i]?=some e->m[i]?=some (n,c)->e.key=ZI [k1,k2] n/\n.length=2) ->
  (Instr.findAsking kt (ZI [k1,k2] [x,y]) es i).run P w=.ok ((xF [x,y] m 0).bind fun j=>(es[j]?).map fun e=>(i+j,e.val)) w
 | [],es,i,hl,_=>by
  have:es=[]:=List.eq_nil_of_length_eq_zero hl;subst this;simp[Instr.findAsking,xF]
 | (ns,c)::m,[],i,hl,_=>by simp at hl
 | (ns,c)::m,e::es,i,hl,h=>by
  obtain⟨hk,hn⟩:=h 0 e ns c rfl rfl;obtain⟨a,b,rfl⟩:∃ a b,ns=[a,b]:=by
   match ns,hn with
   | [a,b],_=>exact⟨a,b,rfl⟩
  have ih:=Ui he w x y m es (i+1) (by simpa using hl) (fun j e' n' c' h1 h2=>h (j+1) e' n' c' (by simpa using h1) (by simpa using h2));have heq:(Op.equal kt (ZI [k1,k2] [x,y]) e.key).run P w=.ok (decide (x=a)&&decide (y=b)) w:=by
   rw[hk];exact(he (a0:=x) (a1:=y) (b0:=a) (b1:=b)).2 w
  unfold Instr.findAsking;simp only[Sem.run_bind,heq,Result.andThen_ok,Sem.run_ite]
  by_cases e1:x=a/\y=b
  ·obtain⟨rfl,rfl⟩:=e1;simp[xF]
  ·have e2:¬ ([a,b]:List Int)=[x,y]:=fun h=>e1 (by simp at h;exact⟨h.1.symm,h.2.symm⟩)
   have e3:(decide (x=a)&&decide (y=b))=false:=by
    rw[Bool.and_eq_false_iff,decide_eq_false_iff_not,decide_eq_false_iff_not]
    by_cases h0:x=a
    ·exact .inr fun h=>e1 ⟨h0,h⟩
    ·exact .inl h0
   rw[e3,if_neg (by simp),ih];show _=Result.ok ((if [a,b]=[x,y] then some 0 else xF [x,y] m (0+1)).bind _) w;rw[if_neg e2,vC [x,y] m (0+1)]
   cases xF [x,y] m 0 with
   | none=>rfl
   | some j=>
    simp only[Option.map_some,Option.bind_some,Nat.zero_add,Nat.add_comm 1 j,List.getElem?_cons_succ]
    cases es[j]? with
    | none=>rfl
    | some z=>simp;omega
theorem KeyOK.pair{kt:TypeId}{k1 k2:IntKind}{d:TypeDesc}(hu:P.underlying kt=some d)(hd:∀ us vs,Instr.sameNow d (.agg us) (.agg vs)=none)
  (hc:∀ (w:World) (e:Bool) (a b:Int),(Instr.checkKey e 10000 kt (.agg #[.int k1 a,.int k2 b])).run P w=.ok () w)
  (he:∀ {a0 a1 b0 b1:Int},zZa P kt [.int k1 a0,.int k2 a1] [.int k1 b0,.int k2 b1] (decide (a0=b0)&&decide (a1=b1))):KeyOK P kt [k1,k2]:=by
 refine⟨fun w e ns hn=>?_,fun w ns m es hn hl h=>?_⟩
 ·obtain⟨a,b,rfl⟩:∃ a b,ns=[a,b]:=by
   match ns,hn with
   | [a,b],_=>exact⟨a,b,rfl⟩
  exact hc w e a b
 ·obtain⟨a,b,rfl⟩:∃ a b,ns=[a,b]:=by
   match ns,hn with
   | [a,b],_=>exact⟨a,b,rfl⟩
  unfold Instr.findKey;simp only[Sem.run_bind,run_underlying hu,Result.andThen_ok]
  cases es with
  | nil=>
   have:m=[]:=List.eq_nil_of_length_eq_zero (by simpa using hl.symm);subst this;simp[Instr.findNow,xF]
  | cons e r=>
   have hnow:Instr.findNow d (ZI [k1,k2] [a,b]) (e::r) 0=none:=by
    unfold Instr.findNow
    cases m with
    | nil=>simp at hl
    | cons x m'=>
     obtain⟨n,c⟩:=x;obtain⟨hk,hn2⟩:=h 0 e n c rfl rfl;obtain⟨a',b',rfl⟩:∃ a b,n=[a,b]:=by
      match n,hn2 with
      | [a,b],_=>exact⟨a,b,rfl⟩
     rw[hk];have:=hd #[.int k1 a,.int k2 b] #[.int k1 a',.int k2 b'];show(match Instr.sameNow d (.agg #[.int k1 a,.int k2 b]) (.agg #[.int k1 a',.int k2 b']) with | some true=>_ | some false=>_ | none=>_)=_;rw[this]
   rw[hnow];have:=Ui he w a b m (e::r) 0 hl h;simp only[Nat.zero_add] at this;exact this
end
end Go.Ep
namespace Go.Proofs
open Go.Ep
set_option linter.unusedSimpArgs false
theorem WC(l:List (Value×Nat))(off:Nat):∀ cells:Array Value,(l.foldl (fun cs (p:Value×Nat)=>cs.setIfInBounds (off+p.2) p.1) cells).size=cells.size:=by
 induction l with
 | nil=>intro _;rfl
 | cons x r ih=>intro cells;rw[List.foldl_cons,ih];simp
theorem yha{size n:Nat}{places:List (Nat×Nat)}(hs:0 < size)(hp:places=(List.range n).map fun i=>(i*size,size)):∀ (parts:List (Nat×Value)) (cells:Array Value),cells.size=n*size->Instr.fill (fun i=>some (i*size,size)) cells parts=Instr.fill (fun i=>places.toArray[i]?) cells parts
 | [],_,_=>rfl
 | (i,v)::r,cells,hc=>by
  have hi:places.toArray[i]?=if i < n then some (i*size,size) else none:=by
   subst hp
   by_cases h:i < n
   ·simp[h]
   ·simp[h]
  unfold Instr.fill;rw[hi]
  by_cases h:i < n
  ·rw[if_pos h];dsimp only
   split
   ·rfl
   ·exact yha hs hp r _ (by rw[<- hc,<- Array.foldl_toList];exact WC _ _ _)
  ·rw[if_neg h];dsimp only;have:n*size<=i*size:=Nat.mul_le_mul_right _ (by omega);rw[if_pos];rw[hc]
   by_cases h2:v.cells.size=size
   ·simp[h2];omega
   ·simp[h2]
theorem elem24 : ElemOK Tryz.prog 24 59 3 16:=ElemOK.mk' (z:=.agg #[.int .u16 0,.int .u8 0,.int .u64 0]) Tryz.underlying24 (by kernel_rfl) rfl
theorem Vd : ElemOK Tryz.prog 25 22 1 8:=ElemOK.mk' (z:=.int .u64 0) Tryz.underlying25 (by kernel_rfl) rfl
theorem elem26 : ElemOK Tryz.prog 26 51 2 32:=ElemOK.mk' (z:=.agg #[.int .u16 0,.slice none 0 0]) Tryz.underlying26 (by kernel_rfl) rfl
theorem Ve : ElemOK Tryz.prog 28 99 2 32:=ElemOK.mk' (z:=.agg #[.int .u16 0,.slice none 0 0]) Tryz.underlying28 (by kernel_rfl) rfl
theorem yia : ElemOK Tryz.prog 29 104 7 80:=ElemOK.mk' (z:=.agg #[.int .u16 0,.int .u64 0,.int .u8 0,.int .u64 0,.int .u8 0,.string ⟨#[]⟩,.slice none 0 0]) Tryz.underlying29 (by kernel_rfl) rfl
theorem xM : ElemOK Tryz.prog 34 5 1 1:=ElemOK.mk' (z:=.int .u8 0) Tryz.underlying34 (by kernel_rfl) rfl
theorem yja : ElemOK Tryz.prog 68 129 2 32:=ElemOK.mk' (z:=.agg #[.int .u16 0,.slice none 0 0]) Tryz.underlying68 (by kernel_rfl) rfl
theorem YR : ElemOK Tryz.prog 97 124 2 16:=ElemOK.mk' (z:=.agg #[.int .u64 0,.int .u64 0]) Tryz.underlying97 (by kernel_rfl) rfl
theorem wP : ElemOK Tryz.prog 102 101 2 16:=ElemOK.mk' (z:=.agg #[.int .u16 0,.int .u64 0]) Tryz.underlying102 (by kernel_rfl) rfl
theorem elem194 : ElemOK Tryz.prog 194 154 1 8:=ElemOK.mk' (z:=.map none) Tryz.underlying194 (by kernel_rfl) rfl
theorem elem256 : ElemOK Tryz.prog 256 28 1 24:=ElemOK.mk' (z:=.slice none 0 0) Tryz.underlying256 (by kernel_rfl) rfl
theorem wsa : xY Tryz.prog 31 [(0,1),(1,1),(2,1),(3,1),(4,1),(5,1),(6,1)] [.int .u64 0,.int .u16 0,.slice none 0 0,.slice none 0 0,.slice none 0 0,.slice none 0 0,.slice none 0 0]:=fun parts=>by kernel_rfl
theorem build51 : xY Tryz.prog 51 [(0,1),(1,1)] [.int .u16 0,.slice none 0 0]:=fun parts=>by kernel_rfl
theorem build59 : xY Tryz.prog 59 [(0,1),(1,1),(2,1)] [.int .u16 0,.int .u8 0,.int .u64 0]:=fun parts=>by kernel_rfl
theorem build67 : xY Tryz.prog 67 [(0,1),(1,1),(2,1),(3,16)] [.int .u64 0,.int .u16 0,.slice none 0 0,.int .u64 0,.int .u64 0,.int .u64 0,.int .u64 0,.int .u64 0,.int .u64 0,.int .u64 0,.int .u64 0,.int .u64 0,.int .u64 0,.int .u64 0,.int .u64 0,.int .u64 0,.int .u64 0,.int .u64 0,.int .u64 0]:=fun parts=>by kernel_rfl
theorem build70 : xY Tryz.prog 70 [(0,1),(1,1)] [.slice none 0 0,.slice none 0 0]:=fun parts=>by kernel_rfl
theorem zea : xY Tryz.prog 72 [(0,19),(19,1),(20,2)] [.int .u64 0,.int .u16 0,.slice none 0 0,.int .u64 0,.int .u64 0,.int .u64 0,.int .u64 0,.int .u64 0,.int .u64 0,.int .u64 0,.int .u64 0,.int .u64 0,.int .u64 0,.int .u64 0,.int .u64 0,.int .u64 0,.int .u64 0,.int .u64 0,.int .u64 0,.slice none 0 0,.slice none 0 0,.slice none 0 0]:=fun parts=>by kernel_rfl
theorem zfa : xY Tryz.prog 99 [(0,1),(1,1)] [.int .u16 0,.slice none 0 0]:=fun parts=>by kernel_rfl
theorem Yw : xY Tryz.prog 101 [(0,1),(1,1)] [.int .u16 0,.int .u64 0]:=fun parts=>by kernel_rfl
theorem Jd : xY Tryz.prog 112 [(0,1),(1,1),(2,1)] [.pointer none,.pointer none,.pointer none]:=fun parts=>by kernel_rfl
theorem build124 : xY Tryz.prog 124 [(0,1),(1,1)] [.int .u64 0,.int .u64 0]:=fun parts=>by kernel_rfl
theorem build129 : xY Tryz.prog 129 [(0,1),(1,1)] [.int .u16 0,.slice none 0 0]:=fun parts=>by kernel_rfl
theorem build150 : xY Tryz.prog 150 [(0,1),(1,1),(2,1),(3,16)] [.int .u64 0,.int .u16 0,.map none,.int .u64 0,.int .u64 0,.int .u64 0,.int .u64 0,.int .u64 0,.int .u64 0,.int .u64 0,.int .u64 0,.int .u64 0,.int .u64 0,.int .u64 0,.int .u64 0,.int .u64 0,.int .u64 0,.int .u64 0,.int .u64 0]:=fun parts=>by kernel_rfl
theorem build153 : xY Tryz.prog 153 [(0,1)] [.map none]:=fun parts=>by kernel_rfl
theorem Je : xY Tryz.prog 156 [(0,1),(1,1),(2,1)] [.slice none 0 0,.map none,.map none]:=fun parts=>by kernel_rfl
theorem yka : xY Tryz.prog 162 [(0,1),(1,1)] [.int .u16 0,.int .u16 0]:=fun parts=>(by kernel_rfl:Tryz.prog.built 162 parts=Instr.fill (fun i=>some (i*1,1)) ([.int .u16 0,.int .u16 0]:List Value).toArray parts).trans (yha (n:=2) (by decide) (by decide) parts _ (by decide))
theorem zga{a0 b0:Int}{a1 b1:Int}:zZa Tryz.prog 101 [.int .u16 a0,.int .u64 a1] [.int .u16 b0,.int .u64 b1] ((decide (a0=b0)&&decide (a1=b1))):=by
 refine⟨by kernel_rfl,fun w=>?_⟩;have hu:Tryz.prog.underlying 101=some (.struct (Tryz.prog.fieldsOf 101)):=by simp only[Program.fieldsOf,Tryz.underlying101]
 rw[run_equalIn_agg w 9999 101 _ _ hu (by kernel_rfl)];simp[Program.fieldsOf,Tryz.underlying101,Op.eqFields,part,Tryz.isAgg22,Tryz.isAgg23,run_equalIn_int _ 9998 22 _ _ _ _ Tryz.underlying22,run_equalIn_int _ 9998 23 _ _ _ _ Tryz.underlying23,Result.andThen,YK]
 all_goals (repeat' split) <;> simp_all
theorem eq124{a0 b0:Int}{a1 b1:Int}:zZa Tryz.prog 124 [.int .u64 a0,.int .u64 a1] [.int .u64 b0,.int .u64 b1] ((decide (a0=b0)&&decide (a1=b1))):=by
 refine⟨by kernel_rfl,fun w=>?_⟩;have hu:Tryz.prog.underlying 124=some (.struct (Tryz.prog.fieldsOf 124)):=by simp only[Program.fieldsOf,Tryz.underlying124]
 rw[run_equalIn_agg w 9999 124 _ _ hu (by kernel_rfl)];simp[Program.fieldsOf,Tryz.underlying124,Op.eqFields,part,Tryz.isAgg22,run_equalIn_int _ 9998 22 _ _ _ _ Tryz.underlying22,Result.andThen,YK]
 all_goals (repeat' split) <;> simp_all
theorem eq162{a0 b0:Int}{a1 b1:Int}:zZa Tryz.prog 162 [.int .u16 a0,.int .u16 a1] [.int .u16 b0,.int .u16 b1] ((decide (a0=b0)&&decide (a1=b1))):=by
 refine⟨by kernel_rfl,fun w=>?_⟩;obtain⟨i,hi⟩:=Option.isSome_iff_exists.1 (by kernel_rfl:(Tryz.prog.info? 23).isSome=true);have hc:Tryz.prog.cellsOf 23=1:=by kernel_rfl
 rw[run_equalIn_array w 9999 _ _ Tryz.underlying162 hi,hc,show List.range 2=[0,1] from rfl];simp[Op.eqItems,part,Tryz.isAgg23,run_equalIn_int _ 9998 23 _ _ _ _ Tryz.underlying23,Result.andThen,YK]
 all_goals (repeat' split) <;> simp_all
theorem key148 : KeyOK Tryz.prog 23 [.u16]:=KeyOK.int Tryz.underlying23
theorem chk151 : ∀ (w:World) (e:Bool) (a b:Int),(Instr.checkKey e 10000 162 (.agg #[.int .u16 a,.int .u16 b])).run Tryz.prog w=.ok () w:=by
 intro w e a b;have q1:∀ w,(Instr.checkKey e 9999 23 (.int .u16 a)).run Tryz.prog w=.ok () w:=fun w=>MapKept.run_checkKey (k:=.int .u16 a) Tryz.underlying23 rfl e 9998
 have q2:∀ w,(Instr.checkKey e 9999 23 (.int .u16 b)).run Tryz.prog w=.ok () w:=fun w=>MapKept.run_checkKey (k:=.int .u16 b) Tryz.underlying23 rfl e 9998
 unfold Instr.checkKey;have hr:∀ n:Nat,List.range' 0 2 n=[0,0+n]:=fun n=>rfl
 simp only[run_underlying Tryz.underlying162,Result.andThen,Sem.run_bind,Std.Legacy.Range.forIn_eq_forIn_range',Std.Legacy.Range.size];simp[hr,part,Tryz.isAgg23,Tryz.sizeOf23,q1,q2,Result.andThen]
theorem key151 : KeyOK Tryz.prog 162 [.u16,.u16]:=KeyOK.pair Tryz.underlying162 (fun _ _=>rfl) chk151 eq162
theorem chk154 : ∀ (w:World) (e:Bool) (a b:Int),(Instr.checkKey e 10000 101 (.agg #[.int .u16 a,.int .u64 b])).run Tryz.prog w=.ok () w:=by
 intro w e a b;have q1:∀ w,(Instr.checkKey e 9999 23 (.int .u16 a)).run Tryz.prog w=.ok () w:=fun w=>MapKept.run_checkKey (k:=.int .u16 a) Tryz.underlying23 rfl e 9998
 have q2:∀ w,(Instr.checkKey e 9999 22 (.int .u64 b)).run Tryz.prog w=.ok () w:=fun w=>MapKept.run_checkKey (k:=.int .u64 b) Tryz.underlying22 rfl e 9998
 unfold Instr.checkKey;simp[run_underlying Tryz.underlying101,Result.andThen,part,Tryz.isAgg23,Tryz.isAgg22,q1,q2]
theorem key154 : KeyOK Tryz.prog 101 [.u16,.u64]:=KeyOK.pair Tryz.underlying101 (fun _ _=>rfl) chk154 zga
theorem QN : KeyOK Tryz.prog 23 [.u16]:=KeyOK.int Tryz.underlying23
theorem U5{t : TypeId}{u : _}(h : Tryz.prog.underlying t=some u := by with_reducible first | exact Tryz.underlying4 | exact Tryz.underlying5 | exact Tryz.underlying9 | exact Tryz.underlying24 | exact Tryz.underlying25 | exact Tryz.underlying26 | exact Tryz.underlying28 | exact Tryz.underlying29 | exact Tryz.underlying31 | exact Tryz.underlying34 | exact Tryz.underlying51 | exact Tryz.underlying52 | exact Tryz.underlying56 | exact Tryz.underlying59 | exact Tryz.underlying62 | exact Tryz.underlying65 | exact Tryz.underlying67 | exact Tryz.underlying72 | exact Tryz.underlying97 | exact Tryz.underlying99 | exact Tryz.underlying101 | exact Tryz.underlying102 | exact Tryz.underlying104 | exact Tryz.underlying105 | exact Tryz.underlying107 | exact Tryz.underlying109 | exact Tryz.underlying112 | exact Tryz.underlying124 | exact Tryz.underlying148 | exact Tryz.underlying150 | exact Tryz.underlying151 | exact Tryz.underlying153 | exact Tryz.underlying154 | exact Tryz.underlying156 | exact Tryz.underlying194 | exact Tryz.underlying256) : Tryz.prog.underlying t=some u := h
theorem I5{t : TypeId}{b : Bool}(h : ∀ w, (isAgg t).run Tryz.prog w=.ok b w := by with_reducible first | exact Tryz.isAgg5 | exact Tryz.isAgg9 | exact Tryz.isAgg22 | exact Tryz.isAgg23 | exact Tryz.isAgg24 | exact Tryz.isAgg25 | exact Tryz.isAgg26 | exact Tryz.isAgg28 | exact Tryz.isAgg29 | exact Tryz.isAgg31 | exact Tryz.isAgg34 | exact Tryz.isAgg51 | exact Tryz.isAgg59 | exact Tryz.isAgg68 | exact Tryz.isAgg72 | exact Tryz.isAgg97 | exact Tryz.isAgg99 | exact Tryz.isAgg101 | exact Tryz.isAgg102 | exact Tryz.isAgg104 | exact Tryz.isAgg105 | exact Tryz.isAgg107 | exact Tryz.isAgg109 | exact Tryz.isAgg124 | exact Tryz.isAgg148 | exact Tryz.isAgg151 | exact Tryz.isAgg154) : ∀ w, (isAgg t).run Tryz.prog w=.ok b w := h
theorem Z5{t : TypeId}{k : Nat}{k' : _}(h : ∀ w, (sizeOf t).run Tryz.prog w=.ok k' w := by first | (with_reducible first | exact Tryz.sizeOf5 | exact Tryz.sizeOf9 | exact Tryz.sizeOf22 | exact Tryz.sizeOf23 | exact Tryz.sizeOf24 | exact Tryz.sizeOf25 | exact Tryz.sizeOf26 | exact Tryz.sizeOf28 | exact Tryz.sizeOf29 | exact Tryz.sizeOf31 | exact Tryz.sizeOf34 | exact Tryz.sizeOf51 | exact Tryz.sizeOf59 | exact Tryz.sizeOf65 | exact Tryz.sizeOf67 | exact Tryz.sizeOf68 | exact Tryz.sizeOf72 | exact Tryz.sizeOf97 | exact Tryz.sizeOf99 | exact Tryz.sizeOf101 | exact Tryz.sizeOf102 | exact Tryz.sizeOf104 | exact Tryz.sizeOf105 | exact Tryz.sizeOf107 | exact Tryz.sizeOf109 | exact Tryz.sizeOf124 | exact Tryz.sizeOf148 | exact Tryz.sizeOf151 | exact Tryz.sizeOf154 | exact Tryz.sizeOf162) | (simp only[List.getElem_toArray, List.getElem_cons_zero, List.getElem_cons_succ]; with_reducible first | exact Tryz.sizeOf5 | exact Tryz.sizeOf9 | exact Tryz.sizeOf22 | exact Tryz.sizeOf23 | exact Tryz.sizeOf24 | exact Tryz.sizeOf25 | exact Tryz.sizeOf26 | exact Tryz.sizeOf28 | exact Tryz.sizeOf29 | exact Tryz.sizeOf31 | exact Tryz.sizeOf34 | exact Tryz.sizeOf51 | exact Tryz.sizeOf59 | exact Tryz.sizeOf65 | exact Tryz.sizeOf67 | exact Tryz.sizeOf68 | exact Tryz.sizeOf72 | exact Tryz.sizeOf97 | exact Tryz.sizeOf99 | exact Tryz.sizeOf101 | exact Tryz.sizeOf102 | exact Tryz.sizeOf104 | exact Tryz.sizeOf105 | exact Tryz.sizeOf107 | exact Tryz.sizeOf109 | exact Tryz.sizeOf124 | exact Tryz.sizeOf148 | exact Tryz.sizeOf151 | exact Tryz.sizeOf154 | exact Tryz.sizeOf162))(e : k'=k := by rfl) : ∀ w, (sizeOf t).run Tryz.prog w=.ok k w := e▸h
theorem V5{t : TypeId}{v : Value}{v' : _}(h : ∀ w, (zeroValue t).run Tryz.prog w=.ok v' w := by with_reducible first | exact Tryz.zeroValue31 | exact Tryz.zeroValue51 | exact Tryz.zeroValue56 | exact Tryz.zeroValue59 | exact Tryz.zeroValue72 | exact Tryz.zeroValue99 | exact Tryz.zeroValue101 | exact Tryz.zeroValue104 | exact Tryz.zeroValue124 | exact Tryz.zeroValue162)(e : v'=v := by rfl) : ∀ w, (zeroValue t).run Tryz.prog w=.ok v w := e▸h
theorem E5{t e : TypeId}{k bs : Nat}(h : ElemOK Tryz.prog t e k bs := by with_reducible first | exact Vd | exact xM | exact YR | exact wP) : ElemOK Tryz.prog t e k bs := h
theorem g5{p q : Prop}(k : q)(h : q → p := by first
  | ((with_reducible show(_ → PWl _ _ _ _ [] _)); exact fun k => wN k)
  | ((with_reducible show(_ → PWl _ _ _ _ (⟨_, _, _, _, _, none⟩::_) _)); first | ((with_reducible show(_ → PWl _ _ _ _ (⟨_, .move _, _, _, _, _⟩::_) _)); first | exact fun k => wm k) | ((with_reducible show(_ → PWl _ _ _ _ (⟨_, .assign _, _, _, _, _⟩::_) _)); first | exact fun k => wa k) | ((with_reducible show(_ → PWl _ _ _ _ (⟨_, .load _ _, _, _, _, _⟩::_) _)); first | exact fun k => ws (lD I5 rfl rfl rfl) k | exact fun k => ws (lE (ys := [_, _]) I5 Z5 rfl rfl rfl) k | exact fun k => ws (lA (ps := [_, _]) I5 Z5 rfl rfl rfl rfl) k | exact fun k => ws (LR.loadEp I5 rfl rfl) k | exact fun k => ws (lA (ps := [_, _, _, _, _, _, _]) I5 Z5 rfl rfl rfl rfl) k | exact fun k => ws (lE (ys := [_, _, _, _, _, _, _]) I5 Z5 rfl rfl rfl) k | exact fun k => ws (lE (ys := [_, _, _]) I5 Z5 rfl rfl rfl) k | exact fun k => ws (lA (ps := [_, _, _]) I5 Z5 rfl rfl rfl rfl) k | exact fun k => ws (lA (ps := [_, _, _, _, _, _, _, _, _, _, _, _, _, _, _, _, _, _, _, _, _, _]) I5 Z5 rfl rfl rfl rfl) k) | ((with_reducible show(_ → PWl _ _ _ _ (⟨_, .pick _ _ _, _, _, _, _⟩::_) _)); first | exact fun k => ws (pF rfl rfl) k | exact fun k => ws (pT rfl rfl) k) | ((with_reducible show(_ → PWl _ _ _ _ (⟨_, .fieldAddr _ _ _, _, _, _, _⟩::_) _)); first | exact fun k => ws (fR U5 rfl Z5 (by decide) rfl rfl) k | exact fun k => ws (fE U5 rfl Z5 (by decide) rfl rfl) k | exact fun k => ws (LR.fieldRp U5 rfl Z5 (by decide) rfl rfl) k) | ((with_reducible show(_ → PWl _ _ _ _ (⟨_, .call ⟨.builtin .len, _, _⟩, _, _, _, _⟩::_) _)); first | exact fun k => ws (lM U5 rfl) k | exact fun k => ws (LR.lenRow U5 rfl) k | exact fun k => ws (LR.lenStr U5 rfl) k | exact fun k => ws (LR.lenNil U5 rfl) k | exact fun k => ws (LR.lenPc U5 rfl) k) | ((with_reducible show(_ → PWl _ _ _ _ (⟨_, .binOp .lss _ _ _ _, _, _, _, _⟩::_) _)); first | exact fun k => ws (LR.lss rfl rfl) k) | ((with_reducible show(_ → PWl _ _ _ _ (⟨_, .binOp .add _ _ _ _, _, _, _, _⟩::_) _)); first | exact fun k => ws (LR.addW rfl rfl) k) | ((with_reducible show(_ → PWl _ _ _ _ (⟨_, .extract _ _, _, _, _, _⟩::_) _)); first | exact fun k => ws (LR.extract rfl rfl) k) | ((with_reducible show(_ → PWl _ _ _ _ (⟨_, .store _ _ _, _, _, _, _⟩::_) _)); first | exact fun k => ws (sB (ns := [_, _]) Z5 rfl rfl rfl rfl rfl rfl rfl) k | exact fun k => ws (sB (ns := [_, _, _, _, _, _, _]) Z5 rfl rfl rfl rfl rfl rfl rfl) k | exact fun k => ws (sB (ns := [_, _, _]) Z5 rfl rfl rfl rfl rfl rfl rfl) k | exact fun k => ws (sB (ns := [_, _, _, _, _, _, _, _, _, _, _, _, _, _, _, _, _, _, _, _, _, _]) Z5 rfl rfl rfl rfl rfl rfl rfl) k | exact fun k => ws (sB (ns := [_, _, _, _, _, _, _, _, _, _, _, _, _, _, _, _, _, _, _]) Z5 rfl rfl rfl rfl rfl rfl rfl) k | exact fun k => ws (sB (ns := [_]) Z5 rfl rfl rfl rfl rfl rfl rfl) k) | ((with_reducible show(_ → PWl _ _ _ _ (⟨_, .alloc _, _, _, _, _⟩::_) _)); first | exact fun k => ws (LR.allocZ (cs := [_, _]) V5 rfl rfl rfl rfl) k | exact fun k => ws (LR.allocZ (cs := [_, _, _]) V5 rfl rfl rfl rfl) k | exact fun k => ws (LR.allocZ (cs := [_, _, _, _, _, _, _]) V5 rfl rfl rfl rfl) k | exact fun k => ws (LR.allocZ (cs := [_, _, _, _, _, _, _, _, _, _, _, _, _, _, _, _, _, _, _, _, _, _]) V5 rfl rfl rfl rfl) k | exact fun k => ws (LR.allocR (cs := [_]) V5 rfl rfl rfl rfl) k) | ((with_reducible show(_ → PWl _ _ _ _ (⟨_, .box _ _, _, _, _, _⟩::_) _)); first | exact fun k => ws (LR.box rfl rfl rfl rfl) k) | ((with_reducible show(_ → PWl _ _ _ _ (⟨_, .binOp .eql _ _ _ _, _, _, _, _⟩::_) _)); first | exact fun k => ws (eQ rfl rfl) k | exact fun k => ws (LR.eqlPtr U5 rfl) k | exact fun k => ws (LR.eqlH U5 rfl rfl) k | exact fun k => ws (LR.eqlBool U5 rfl rfl) k | exact fun k => ws (LR.eqlStr rfl rfl) k) | ((with_reducible show(_ → PWl _ _ _ _ (⟨_, .binOp .gtr _ _ _ _, _, _, _, _⟩::_) _)); first | exact fun k => ws (LR.gtr rfl rfl) k) | ((with_reducible show(_ → PWl _ _ _ _ (⟨_, .unOp .not _ _, _, _, _, _⟩::_) _)); first | exact fun k => ws (LR.not rfl) k) | ((with_reducible show(_ → PWl _ _ _ _ (⟨_, .nilCheck _, _, _, _, _⟩::_) _)); first | exact fun k => ws (LR.nilCheckRef rfl) k) | ((with_reducible show(_ → PWl _ _ _ _ (⟨_, .binOp .neq _ _ _ _, _, _, _, _⟩::_) _)); first | exact fun k => ws (nQ rfl rfl) k | exact fun k => ws (LR.neqPtr U5 rfl) k) | ((with_reducible show(_ → PWl _ _ _ _ (⟨_, .binOp .sub _ _ _ _, _, _, _, _⟩::_) _)); first | exact fun k => ws (LR.subW rfl rfl) k) | ((with_reducible show(_ → PWl _ _ _ _ (⟨_, .binOp .geq _ _ _ _, _, _, _, _⟩::_) _)); first | exact fun k => ws (LR.geq rfl rfl) k) | ((with_reducible show(_ → PWl _ _ _ _ (⟨_, .buildSlice _ _ _, _, _, _, _⟩::_) _)); first | exact fun k => ws (LR.buildSlice [] E5 rfl rfl (.nil) (by decide) (by decide) rfl) k) | ((with_reducible show(_ → PWl _ _ _ _ (⟨_, .binOp .shr _ _ _ _, _, _, _, _⟩::_) _)); first | exact fun k => ws (LR.shr rfl rfl (by decide) rfl) k) | ((with_reducible show(_ → PWl _ _ _ _ (⟨_, .slice _ _ _ _ _, _, _, _, _⟩::_) _)); first | exact fun k => ws (LR.sliceArr U5 Z5 rfl) k) | ((with_reducible show(_ → PWl _ _ _ _ (⟨_, .binOp .quo _ _ _ _, _, _, _, _⟩::_) _)); first | exact fun k => ws (LR.quoW rfl rfl (by decide)) k) | ((with_reducible show(_ → PWl _ _ _ _ (⟨_, .convert _ _ _, _, _, _, _⟩::_) _)); first | exact fun k => ws (LR.bytesStr U5 U5 U5 rfl) k) | ((with_reducible show(_ → PWl _ _ _ _ (⟨_, .binOp .rem _ _ _ _, _, _, _, _⟩::_) _)); first | exact fun k => ws (LR.rem rfl rfl (by decide)) k) | ((with_reducible show(_ → PWl _ _ _ _ (⟨_, .binOp .leq _ _ _ _, _, _, _, _⟩::_) _)); first | exact fun k => ws (LR.leq rfl rfl) k) | ((with_reducible show(_ → PWl _ _ _ _ (⟨_, .binOp .and _ _ _ _, _, _, _, _⟩::_) _)); first | exact fun k => ws (LR.and rfl rfl) k) | ((with_reducible show(_ → PWl _ _ _ _ (⟨_, .binOp .mul _ _ _ _, _, _, _, _⟩::_) _)); first | exact fun k => ws (LR.mulW rfl rfl) k))
  | ((with_reducible show(_ → PWl _ _ _ _ (⟨_, _, _, _, _, some _⟩::_) _)); first | exact fun k => wf k | exact fun k => wu k | ((with_reducible show(_ → PWl _ _ _ _ (⟨_, .load _ _, _, _, _, _⟩::_) _)); first | exact fun k => wt (lD I5 rfl rfl rfl) k | exact fun k => wt (LR.loadEp I5 rfl rfl) k | exact fun k => wt (lA (ps := [_, _]) I5 Z5 rfl rfl rfl rfl) k | exact fun k => wt (lE (ys := [_, _]) I5 Z5 rfl rfl rfl) k) | ((with_reducible show(_ → PWl _ _ _ _ (⟨_, .move _, _, _, _, _⟩::_) _)); first | exact fun k => wt (mV rfl) k) | ((with_reducible show(_ → PWl _ _ _ _ (⟨_, .fieldAddr _ _ _, _, _, _, _⟩::_) _)); first | exact fun k => wt (fR U5 rfl Z5 (by decide) rfl rfl) k | exact fun k => wt (fE U5 rfl Z5 (by decide) rfl rfl) k) | ((with_reducible show(_ → PWl _ _ _ _ (⟨_, .call ⟨.builtin .len, _, _⟩, _, _, _, _⟩::_) _)); first | exact fun k => wt (lM U5 rfl) k | exact fun k => wt (LR.lenRow U5 rfl) k | exact fun k => wt (LR.lenStr U5 rfl) k) | ((with_reducible show(_ → PWl _ _ _ _ (⟨_, .pick _ _ _, _, _, _, _⟩::_) _)); first | exact fun k => wt (pT rfl rfl) k | exact fun k => wt (pF rfl rfl) k) | ((with_reducible show(_ → PWl _ _ _ _ (⟨_, .binOp .neq _ _ _ _, _, _, _, _⟩::_) _)); first | exact fun k => wt (nQ rfl rfl) k | exact fun k => wt (LR.neqStr rfl rfl) k) | ((with_reducible show(_ → PWl _ _ _ _ (⟨_, .binOp .gtr _ _ _ _, _, _, _, _⟩::_) _)); first | exact fun k => wt (LR.gtr rfl rfl) k) | ((with_reducible show(_ → PWl _ _ _ _ (⟨_, .unOp .not _ _, _, _, _, _⟩::_) _)); first | exact fun k => wt (LR.not rfl) k) | ((with_reducible show(_ → PWl _ _ _ _ (⟨_, .binOp .leq _ _ _ _, _, _, _, _⟩::_) _)); first | exact fun k => wt (LR.leq rfl rfl) k) | ((with_reducible show(_ → PWl _ _ _ _ (⟨_, .binOp .eql _ _ _ _, _, _, _, _⟩::_) _)); first | exact fun k => wt (eQ rfl rfl) k | exact fun k => wt (LR.eqlPtr U5 rfl) k) | ((with_reducible show(_ → PWl _ _ _ _ (⟨_, .nilCheck _, _, _, _, _⟩::_) _)); first | exact fun k => wt (LR.nilCheckRef rfl) k) | ((with_reducible show(_ → PWl _ _ _ _ (⟨_, .binOp .lss _ _ _ _, _, _, _, _⟩::_) _)); first | exact fun k => wt (LR.lss rfl rfl) k) | ((with_reducible show(_ → PWl _ _ _ _ (⟨_, .binOp .geq _ _ _ _, _, _, _, _⟩::_) _)); first | exact fun k => wt (LR.geq rfl rfl) k))
  | (show(_ → PWc _ _ _ _ _)); first | ((with_reducible show(_ → PWc _ _ (.seq _ _) _ _)); first | exact fun k => wQ k) | ((with_reducible show(_ → PWc _ _ (.region _ _ _) _ _)); first | exact fun k => wR k | exact fun k => wD (by kernel_rfl) (by kernel_rfl) k) | ((with_reducible show(_ → PWc _ _ .skip _ _)); first | exact fun k => wK k) | ((with_reducible show(_ → PWc _ _ (.block _ _) _ _)); first | exact fun k => wB k)
  | exact fun k => ws (LR.rangeN U5 rfl rfl rfl) k
  | exact fun k => ws (LR.capNil U5 rfl) k
  | exact fun k => ws (LR.sliceNil U5 Z5 rfl rfl) k) : p := h k
theorem h5{p q : Prop}(k : q)(h : q → p := by first
  | ((with_reducible show(_ → PQl _ _ _ _ [] _)); exact fun k => qN k)
  | ((with_reducible show(_ → PQl _ _ _ _ (⟨_, _, _, _, _, none⟩::_) _)); first | ((with_reducible show(_ → PQl _ _ _ _ (⟨_, .move _, _, _, _, _⟩::_) _)); first | exact fun k => qm k) | ((with_reducible show(_ → PQl _ _ _ _ (⟨_, .pick _ _ _, _, _, _, _⟩::_) _)); first | exact fun k => qs (fun _ U W => pF U U) k | exact fun k => qs (fun _ U W => pT U U) k) | ((with_reducible show(_ → PQl _ _ _ _ (⟨_, .load _ _, _, _, _, _⟩::_) _)); first | exact fun k => qs (fun _ U W => lD I5 U (W rfl) rfl) k | exact fun k => qs (fun _ U W => LR.loadEp I5 U rfl) k | exact fun k => qs (fun _ U W => lE (ys := [_, _]) I5 Z5 U rfl rfl) k | exact fun k => qs (fun _ U W => lA (ps := [_, _]) I5 Z5 U (W rfl) rfl rfl) k | exact fun k => qs (fun _ U W => lA (ps := [_, _, _, _, _, _, _]) I5 Z5 U (W rfl) rfl rfl) k | exact fun k => qs (fun _ U W => lE (ys := [_, _, _, _, _, _, _]) I5 Z5 U rfl rfl) k) | ((with_reducible show(_ → PQl _ _ _ _ (⟨_, .assign _, _, _, _, _⟩::_) _)); first | exact fun k => qs (fun _ U W => aS U) k) | ((with_reducible show(_ → PQl _ _ _ _ (⟨_, .fieldAddr _ _ _, _, _, _, _⟩::_) _)); first | exact fun k => qs (fun _ U W => fR U5 rfl Z5 (by decide) rfl U) k | exact fun k => qs (fun _ U W => fE U5 rfl Z5 (by decide) rfl U) k) | ((with_reducible show(_ → PQl _ _ _ _ (⟨_, .binOp .eql _ _ _ _, _, _, _, _⟩::_) _)); first | exact fun k => qs (fun _ U W => eQ U U) k) | ((with_reducible show(_ → PQl _ _ _ _ (⟨_, .binOp .geq _ _ _ _, _, _, _, _⟩::_) _)); first | exact fun k => qs (fun _ U W => LR.geq U U) k) | ((with_reducible show(_ → PQl _ _ _ _ (⟨_, .binOp .neq _ _ _ _, _, _, _, _⟩::_) _)); first | exact fun k => qs (fun _ U W => nQ U U) k) | ((with_reducible show(_ → PQl _ _ _ _ (⟨_, .binOp .sub _ _ _ _, _, _, _, _⟩::_) _)); first | exact fun k => qs (fun _ U W => LR.subW U U) k) | ((with_reducible show(_ → PQl _ _ _ _ (⟨_, .binOp .gtr _ _ _ _, _, _, _, _⟩::_) _)); first | exact fun k => qs (fun _ U W => LR.gtr U U) k) | ((with_reducible show(_ → PQl _ _ _ _ (⟨_, .unOp .not _ _, _, _, _, _⟩::_) _)); first | exact fun k => qs (fun _ U W => LR.not U) k) | ((with_reducible show(_ → PQl _ _ _ _ (⟨_, .binOp .lss _ _ _ _, _, _, _, _⟩::_) _)); first | exact fun k => qs (fun _ U W => LR.lss U U) k))
  | ((with_reducible show(_ → PQl _ _ _ _ (⟨_, _, _, _, _, some _⟩::_) _)); first | exact fun k => kF k | exact fun k => kU k | ((with_reducible show(_ → PQl _ _ _ _ (⟨_, .move _, _, _, _, _⟩::_) _)); first | exact fun k => qt (fun _ U W => mV U) k) | ((with_reducible show(_ → PQl _ _ _ _ (⟨_, .load _ _, _, _, _, _⟩::_) _)); first | exact fun k => qt (fun _ U W => lD I5 U (W rfl) rfl) k | exact fun k => qt (fun _ U W => LR.loadEp I5 U rfl) k | exact fun k => qt (fun _ U W => lE (ys := [_, _]) I5 Z5 U rfl rfl) k | exact fun k => qt (fun _ U W => lA (ps := [_, _]) I5 Z5 U (W rfl) rfl rfl) k) | ((with_reducible show(_ → PQl _ _ _ _ (⟨_, .fieldAddr _ _ _, _, _, _, _⟩::_) _)); first | exact fun k => qt (fun _ U W => fR U5 rfl Z5 (by decide) rfl U) k | exact fun k => qt (fun _ U W => fE U5 rfl Z5 (by decide) rfl U) k | exact fun k => qt (fun _ U W => LR.fieldRp U5 rfl Z5 (by decide) rfl U) k) | ((with_reducible show(_ → PQl _ _ _ _ (⟨_, .pick _ _ _, _, _, _, _⟩::_) _)); first | exact fun k => qt (fun _ U W => pT U U) k | exact fun k => qt (fun _ U W => pF U U) k) | ((with_reducible show(_ → PQl _ _ _ _ (⟨_, .binOp .eql _ _ _ _, _, _, _, _⟩::_) _)); first | exact fun k => qt (fun _ U W => eQ U U) k) | ((with_reducible show(_ → PQl _ _ _ _ (⟨_, .binOp .geq _ _ _ _, _, _, _, _⟩::_) _)); first | exact fun k => qt (fun _ U W => LR.geq U U) k) | ((with_reducible show(_ → PQl _ _ _ _ (⟨_, .binOp .gtr _ _ _ _, _, _, _, _⟩::_) _)); first | exact fun k => qt (fun _ U W => LR.gtr U U) k) | ((with_reducible show(_ → PQl _ _ _ _ (⟨_, .binOp .sub _ _ _ _, _, _, _, _⟩::_) _)); first | exact fun k => qt (fun _ U W => LR.subW U U) k) | ((with_reducible show(_ → PQl _ _ _ _ (⟨_, .binOp .neq _ _ _ _, _, _, _, _⟩::_) _)); first | exact fun k => qt (fun _ U W => nQ U U) k) | ((with_reducible show(_ → PQl _ _ _ _ (⟨_, .unOp .not _ _, _, _, _, _⟩::_) _)); first | exact fun k => qt (fun _ U W => LR.not U) k) | ((with_reducible show(_ → PQl _ _ _ _ (⟨_, .binOp .add _ _ _ _, _, _, _, _⟩::_) _)); first | exact fun k => qt (fun _ U W => LR.addW U U) k) | ((with_reducible show(_ → PQl _ _ _ _ (⟨_, .nilCheck _, _, _, _, _⟩::_) _)); first | exact fun k => qt (fun _ U W => LR.nilCheckRef U) k) | ((with_reducible show(_ → PQl _ _ _ _ (⟨_, .binOp .leq _ _ _ _, _, _, _, _⟩::_) _)); first | exact fun k => qt (fun _ U W => LR.leq U U) k))
  | ((with_reducible show(_ → PQe _ _ _ _ (⟨_, _, _, _, _, none⟩::_) _ _)); first | ((with_reducible show(_ → PQe _ _ _ _ (⟨_, .fieldAddr _ _ _, _, _, _, _⟩::_) _ _)); first | exact fun k => kp (fun _ U W => fR U5 rfl Z5 (by decide) rfl U) k | exact fun k => kp (fun _ U W => fE U5 rfl Z5 (by decide) rfl U) k | exact fun k => kp (fun _ U W => LR.fieldRp U5 rfl Z5 (by decide) rfl U) k) | ((with_reducible show(_ → PQe _ _ _ _ (⟨_, .load _ _, _, _, _, _⟩::_) _ _)); first | exact fun k => kp (fun _ U W => lD I5 U (W rfl rfl) rfl) k | exact fun k => kp (fun _ U W => LR.loadEp I5 U rfl) k | exact fun k => kp (fun _ U W => lA (ps := [_, _, _, _, _, _, _]) I5 Z5 U (W rfl rfl) rfl rfl) k | exact fun k => kp (fun _ U W => lA (ps := [_, _]) I5 Z5 U (W rfl rfl) rfl rfl) k | exact fun k => kp (fun _ U W => lA (ps := [_, _, _]) I5 Z5 U (W rfl rfl) rfl rfl) k) | ((with_reducible show(_ → PQe _ _ _ _ (⟨_, .move _, _, _, _, _⟩::_) _ _)); first | exact fun k => km k) | ((with_reducible show(_ → PQe _ _ _ _ (⟨_, .nilCheck _, _, _, _, _⟩::_) _ _)); first | exact fun k => kp (fun _ U W => LR.nilCheckRef U) k) | ((with_reducible show(_ → PQe _ _ _ _ (⟨_, .assign _, _, _, _, _⟩::_) _ _)); first | exact fun k => kp (fun _ U W => aS U) k) | ((with_reducible show(_ → PQe _ _ _ _ (⟨_, .store _ _ _, _, _, _, _⟩::_) _ _)); first | exact fun k => ks (fun _ U W => sB (ns := [_, _, _]) Z5 U U rfl rfl (W rfl rfl) rfl rfl) k | exact fun k => ks (fun _ U W => sB (ns := [_, _, _, _, _, _, _]) Z5 U U rfl rfl (W rfl rfl) rfl rfl) k | exact fun k => ks (fun _ U W => sB (ns := [_, _, _, _, _, _, _, _, _, _, _, _, _, _, _, _, _, _, _, _, _, _]) Z5 U U rfl rfl (W rfl rfl) rfl rfl) k) | ((with_reducible show(_ → PQe _ _ _ _ (⟨_, .call ⟨.builtin .max, _, _⟩, _, _, _, _⟩::_) _ _)); first | exact fun k => kp (fun _ U W => LR.maxI U U) k) | ((with_reducible show(_ → PQe _ _ _ _ (⟨_, .binOp .add _ _ _ _, _, _, _, _⟩::_) _ _)); first | exact fun k => kp (fun _ U W => LR.addW U U) k) | ((with_reducible show(_ → PQe _ _ _ _ (⟨_, .binOp .sub _ _ _ _, _, _, _, _⟩::_) _ _)); first | exact fun k => kp (fun _ U W => LR.subW U U) k))) : p := h k
end Go.Proofs
namespace Go.Ep
def zU(x y:DT):Bool:=decide (x.dev < y.dev)||(decide (x.dev=y.dev)&&decide (x.n < y.n))
def jh(x y:RN):Bool:=decide (x.lo < y.lo)
def JA(x y:PT):Bool:=decide (x.dev < y.dev)
def Xq(x y:EV):Bool:=decide (x.dot.dev < y.dot.dev)||(decide (x.dot.dev=y.dot.dev)&&decide (x.dot.n < y.dot.n))
def xP(x y:TMember):Bool:=decide (x.dev < y.dev)
end Go.Ep

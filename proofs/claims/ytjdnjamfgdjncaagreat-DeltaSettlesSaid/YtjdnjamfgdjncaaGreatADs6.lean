/- Side texts. -/
import Derived.Test.YtjdnjamfgdjncaaGreatADs2
import Derived.Test.YtjdnjamfgdjncaaGreatADs3
import Derived.Test.YtjdnjamfgdjncaaGreatADs4
import Derived.Test.YtjdnjamfgdjncaaGreatADs5
set_option linter.unusedVariables false
set_option linter.unusedSimpArgs false
namespace Go.Ep
open Go.RowKit
section
variable{ctx:Ctx}{s:PState}
theorem RelG.obj{g:ze}{a:Act}{w:World}(h1:RelG ctx g s a w){id:Nat}{o o':Ob}(hl:look s.objs id=some o)(hob:ObRd w g (zq ctx g s.objs) id o'):RelG ctx g { s with objs:=yF id o' s.objs } a w:=by
 have hF:∀ b,zq ctx g s.objs b->zq ctx g (yF id o' s.objs) b:=fun b hb=>⟨hb.1,fun i o2 n ho hgi=>by
  rw[zD] at ho
  by_cases ei:i=id
  ·subst ei;exact hb.2 i _ n hl hgi
  ·rw[if_neg ei] at ho;exact hb.2 i o2 n ho hgi⟩
 have hst:yg w w (zq ctx g s.objs):=⟨Nat.le_refl _,fun _ _ _=>rfl⟩
 have hlk:∀ i o2,look (yF id o' s.objs) i=some o2->∃ o3,look s.objs i=some o3:=fun i o2 ho=>by
  rw[zD] at ho
  by_cases ei:i=id
  ·subst ei;exact⟨_,hl⟩
  ·rw[if_neg ei] at ho;exact⟨_,ho⟩
 refine⟨h1.defers,h1.size,fun i p hp=>(h1.slots i p hp).keep hst (fun b hb _=>hF b hb) (fun _ _=>rfl),fun i o2 ho=>?_,fun i i2 o2 o3 b n m ho ho2 hgi hgi2=>?_,fun i o2 b n ho hgi=>?_,h1.os,h1.tape,h1.output,h1.grows,h1.keep⟩
 ·rw[zD] at ho
  by_cases ei:i=id
  ·subst ei;rw[if_pos rfl] at ho
   cases ho
   exact hob.keep hst (fun b hb _=>hF b hb) (fun _ _ _=>rfl) rfl (fun _ _=>rfl)
  ·rw[if_neg ei] at ho;exact(h1.objs i o2 ho).keep hst (fun b hb _=>hF b hb) (fun _ _ _=>rfl) rfl (fun _ _=>rfl)
 ·obtain⟨o4,e4⟩:=hlk i o2 ho;obtain⟨o5,e5⟩:=hlk i2 o3 ho2;exact h1.inj i i2 o4 o5 b n m e4 e5 hgi hgi2
 ·obtain⟨o4,e4⟩:=hlk i o2 ho;exact h1.own i o4 b n e4 hgi
variable{id:Nat}{nl:Bool}{ks:List IntKind}{ag:Bool}{m:List (List Int×List DV)}{bs:List Nat}{ck:Nat}
theorem Sub.nToH(hl:look s.objs id=some (.mapN nl ks ag m bs ck)):Sub ctx s { s with objs:=yF id (.mapH nl ks ag m) s.objs }:=
 Sub.obj hl fun w g S h=>by
  cases h with
  | mapNil _ _ _ h=>exact .mapHNil _ _ h
  | mapN _ _ _ _ _ blk n es h hh hm=>exact .mapH _ _ _ _ _ blk n es h hh hm
theorem Sub.toH(hl:look s.objs id=some (.map ks ag m bs ck)):Sub ctx s { s with objs:=yF id (.mapH false ks ag m) s.objs }:=
 Sub.obj hl fun w g S h=>by
  cases h with
  | map _ _ _ _ _ blk n es h hh hm=>exact .mapH _ _ _ _ _ blk n es h hh hm
theorem Sub.hT(hl:look s.objs id=some (.mapH nl ks ag m))(hn:nl=true):Sub ctx s { s with objs:=yF id (.mapN true ks ag m [] 0) s.objs }:=
 Sub.obj hl fun w g S h=>by
  subst hn
  cases h with
  | mapHNil _ _ h=>exact .mapNil _ _ _ h
theorem openH(hl:look s.objs id=some (.mapH nl ks ag m)){a:Act}{w:World}(hr:Rel ctx s a w):∃ bs ck,Rel ctx { s with objs:=yF id (.mapN nl ks ag m bs ck) s.objs } a w:=by
 obtain⟨g,hg⟩:=hr;have h:=hg.objs id _ hl
 cases h with
 | mapHNil _ _ h=>exact⟨[],0,g,hg.obj hl (.mapNil _ _ _ h)⟩
 | mapH _ _ _ bs ck blk n es h hh hm=>exact⟨bs,ck,g,hg.obj hl (.mapN _ _ _ _ _ blk n es h hh hm)⟩
variable{P:Program}{Q:PQ}
theorem PWc.openH{c:Code}(hl:look s.objs id=some (.mapH nl ks ag m))(h:∀ bs ck,PWc P ctx c Q { s with objs:=yF id (.mapN nl ks ag m bs ck) s.objs }):PWc P ctx c Q s:=fun a w hr=>by
 obtain⟨bs,ck,h2⟩:=Go.Ep.openH hl hr;exact h bs ck a w h2
theorem PWl.openH{ops:Array Oper}{l:List Oper}(hl:look s.objs id=some (.mapH nl ks ag m))(h:∀ bs ck,PWl P ctx ops Q l { s with objs:=yF id (.mapN nl ks ag m bs ck) s.objs }):PWl P ctx ops Q l s:=fun a w hr=>by
 obtain⟨bs,ck,h2⟩:=Go.Ep.openH hl hr;exact h bs ck a w h2
theorem Ym(id:Nat)(o o':Ob)(l:List (Nat×Ob))(i:Nat):look (yF id o (yF id o' l)) i=look (yF id o l) i:=by
 rw[zD,zD,zD]
 by_cases h:i=id <;> simp[h]
theorem Sub.same{t:PState}(hn:s.n=t.n)(hs:s.sl=t.sl)(ho:∀ i,look s.objs i=look t.objs i):Sub ctx s t:=
 Sub.drop hn (fun i p hp=>by rw[YZ] at hp ⊢;rw[hn,hs];exact hp) (fun i o h=>by rw[ho];exact h)
theorem PWc.hF{c:Code}(hl:look s.objs id=some (.mapH nl ks ag m))(hn:nl=false)(h:∀ bs ck,PWc P ctx c Q { s with objs:=yF id (.map ks ag m bs ck) s.objs }):PWc P ctx c Q s:=
 PWc.openH hl fun bs ck=>PWc.sub (Sub.mapF (id:=id) (by show look (yF id _ _) id=_;rw[zD,if_pos rfl]) hn) (PWc.sub (Sub.same (t:={ s with objs:=yF id (.map ks ag m bs ck) s.objs }) rfl rfl fun i=>by
  show look (yF id _ (yF id _ _)) i=look (yF id _ _) i;rw[Ym]) (h bs ck))
theorem Local.openH{o:Oper}{t:PState}(hl:look s.objs id=some (.mapH nl ks ag m))(h:∀ bs ck,Local P ctx o { s with objs:=yF id (.mapN nl ks ag m bs ck) s.objs } t):Local P ctx o s t:=fun a w hr K Qx hK=>by
 obtain⟨bs,ck,h2⟩:=Go.Ep.openH hl hr;exact h bs ck a w h2 K Qx hK
theorem closeP{dst:Option Nat}{p:PV}{m':List (List Int×List DV)}(hl:look s.objs id=some (.mapH nl ks ag m')):Sub ctx (({ s with objs:=yF id (.mapN nl ks ag m' bs ck) s.objs }:PState).putD dst p) (s.putD dst p):=by
 refine Sub.trans (Sub.nToH (id:=id) (nl:=nl) (ks:=ks) (ag:=ag) (m:=m') (bs:=bs) (ck:=ck) ?_) (Sub.same ?_ ?_ fun i=>?_)
 ·rw[xE];show look (yF id _ _) id=_;rw[zD,if_pos rfl]
 ·cases dst <;> rfl
 ·cases dst <;> rfl
 ·rw[xE];show look (yF id _ _) i=_;rw[xE];show look (yF id _ (yF id _ _)) i=_;rw[Ym,zD]
  by_cases h:i=id
  ·rw[if_pos h,h,hl]
  ·rw[if_neg h]
theorem Yn{x:Operand}(l:List (Nat×Ob)):({ s with objs:=l }:PState).ev x=s.ev x:=by cases x <;> rfl
end
section
variable{P:Program}{ctx:Ctx}{Q:PQ}{s:PState}
variable{dst:Option Tmp}{ty:TypeId}{pos:String}{after:Array Edge}{gd:Option (Nat×Bool)}
variable{κ ν:Type}[DecidableEq κ]{eK:κ->List Int}{eV:ν->List DV}{m:List (κ×ν)}{q:κ}{zv:ν}(inj:∀ a b,eK a=eK b->a=b)
variable{x kx:Operand}{t kt et:TypeId}{ks:List IntKind}{ag:Bool}{z:Value}{p kp:PV}{id:Nat}{nl:Bool}{bs:List Nat}{ck:Nat}
section
variable(hu:P.underlying t=some (.map kt et))(K:KeyOK P kt ks)(hz:∀ w,(zeroValue et).run P w=.ok z w)(hzr:∀ (w:World) (g:ze) (S:Nat->Prop),Rd w g S (elP ag (eV zv)) z)(hk:s.ev kx=some kp)(hkp:kp=qx ks (eK q))(hn:(eK q).length=ks.length)(hp:elP ag (eV (AL.getZ m q zv))=p)
include inj hu K hz hzr hk hkp hn hp
theorem LR.getOkH(hx:s.ev x=some (.mp id))(hl:look s.objs id=some (.mapH nl ks ag (zC eK eV m))):Local P ctx ⟨dst,.lookup t x kx true,ty,pos,after,gd⟩ s (s.putD dst (.tup [p,.d (.v (.bool (AL.has m q)))])):=
 Local.openH hl fun bs ck=>(LR.getOkN inj hu K hz hzr (by rw[Yn];exact hk) hkp hn hp (by rw[Yn];exact hx) (by show look (yF id _ _) id=_;rw[zD,if_pos rfl])).post (closeP hl)
end
include inj in
theorem LR.delH{ats:Array TypeId}(hu:P.underlying t=some (.map kt et))(K:KeyOK P kt ks)(hx:s.ev x=some (.mp id))(hl:look s.objs id=some (.mapH nl ks ag (zC eK eV m)))(hk:s.ev kx=some kp)(hkp:kp=qx ks (eK q))(hn:(eK q).length=ks.length)(hats:ats[0]?=some t) :
  Local P ctx ⟨dst,.call ⟨.builtin .delete,#[x,kx],ats⟩,ty,pos,after,gd⟩ s ((s.setO id (.mapH nl ks ag (zC eK eV (AL.del m q)))).putD dst (.tup [])):=
 Local.openH hl fun bs ck=>(LR.delN inj hu K (by rw[Yn];exact hx) (by show look (yF id _ _) id=_;rw[zD,if_pos rfl]) (by rw[Yn];exact hk) hkp hn hats).post
  (Sub.trans (Sub.nToH (id:=id) (by rw[xE];show look (yF id _ _) id=_;rw[zD,if_pos rfl]))
   (Sub.same (by cases dst <;> rfl) (by cases dst <;> rfl) fun i=>by
    cases dst <;> (show look (yF id _ (yF id _ (yF id _ _))) i=look (yF id _ _) i;rw[Ym,zD,zD,zD];by_cases h:i=id <;> simp[h])))
include inj in
theorem LR.setInH{vx:Operand}{v:ν}{pv:PV}(hu:P.underlying t=some (.map kt et))(K:KeyOK P kt ks)(hx:s.ev x=some (.mp id))(hl:look s.objs id=some (.mapH nl ks ag (zC eK eV m)))
  (hk:s.ev kx=some kp) (hkp:kp=qx ks (eK q)) (hn:(eK q).length=ks.length) (hv:s.ev vx=some pv) (hq:elP ag (eV v)=pv) (h1:ag=false->(eV v).length=1) (hin:AL.has m q=true) :
  Local P ctx ⟨none,.mapUpdate t x kx vx,ty,pos,after,gd⟩ s (s.setO id (.mapH nl ks ag (zC eK eV (AL.set m q v)))):=by
 cases nl with
 | true=>
  rintro a w ⟨g,hg⟩;exfalso;have h:=hg.objs id _ hl
  generalize hM:zC eK eV m=M at h
  cases h with
  | mapHNil=>
   cases m with
   | nil=>cases hin
   | cons y r=>simp[zC] at hM
 | false=>
  refine Local.openH hl fun bs ck=>Local.pre (Sub.trans (Sub.mapF (id:=id) (by show look (yF id _ _) id=_;rw[zD,if_pos rfl]) rfl) (Sub.same (t:={ s with objs:=yF id (.map ks ag (zC eK eV m) bs ck) s.objs }) rfl rfl fun i=>by
   show look (yF id _ (yF id _ _)) i=look (yF id _ _) i;rw[Ym])) ((LR.setIn (m:=m) (bs:=bs) (ck:=ck) (id:=id) inj hu K (by rw[Yn];exact hx) (by show look (yF id _ _) id=_;rw[zD,if_pos rfl]) (by rw[Yn];exact hk) hkp hn (by rw[Yn];exact hv) hq h1 hin).post
   (Sub.trans (Sub.toH (id:=id) (by show look (yF id _ _) id=_;rw[zD,if_pos rfl])) (Sub.same rfl rfl fun i=>by
    show look (yF id _ (yF id _ (yF id _ _))) i=look (yF id _ _) i;rw[Ym,zD,zD,zD]
    by_cases h:i=id <;> simp[h])))
theorem LR.eqlH{mm:List (List Int×List DV)}{t t' kt et:TypeId}(hu:P.underlying t=some (.map kt et))(hx:s.ev x=some (.mp id))(hl:look s.objs id=some (.mapH nl ks ag mm)) :
  Local P ctx ⟨dst,.binOp .eql t x (.const (.map none)) t',ty,pos,after,gd⟩ s (s.putD dst (.d (.v (.bool nl)))):=
 Local.openH hl fun bs ck=>(LR.eqlMapN hu (by rw[Yn];exact hx) (by show look (yF id _ _) id=_;rw[zD,if_pos rfl])).post (closeP hl)
end
inductive JCs (nm:List Nat):List PV->List PV->Prop
 | nil:JCs nm [] []
 | keep {p:PV} {cs cs':List PV} (h:p.named nm=true) (t:JCs nm cs cs'):JCs nm (p::cs) (p::cs')
 | junk {p:PV} {cs cs':List PV} (t:JCs nm cs cs'):JCs nm (p::cs) (.junk::cs')
inductive JOb (nm:List Nat):Ob->Ob->Prop
 | same {o:Ob} (h:o.named nm=true):JOb nm o o
 | cells {T:TypeId} {cs cs':List PV} (h:JCs nm cs cs'):JOb nm (.cells T cs) (.cells T cs')
inductive JObs (nm:List Nat):List (Nat×Ob)->List (Nat×Ob)->Prop
 | nil:JObs nm [] []
 | cons {k:Nat} {o o':Ob} {F F':List (Nat×Ob)} (h:JOb nm o o') (t:JObs nm F F'):JObs nm ((k,o)::F) ((k,o')::F')
theorem JCs.len{nm:List Nat}{cs cs':List PV}(h:JCs nm cs cs'):cs'.length=cs.length:=by
 induction h with
 | nil=>rfl
 | keep _ _ ih=>simp[ih]
 | junk _ ih=>simp[ih]
theorem JCs.get{nm:List Nat}{cs cs':List PV}(h:JCs nm cs cs'):∀ (i:Nat) (p:PV),cs'[i]?=some p->p=.junk\/cs[i]?=some p:=by
 induction h with
 | nil=>intro i p h;simp at h
 | keep _ _ ih=>
  intro i p h
  cases i with
  | zero=>exact .inr (by simpa using h)
  | succ i=>simpa using ih i p (by simpa using h)
 | junk _ ih=>
  intro i p h
  cases i with
  | zero=>exact .inl (by simpa using h.symm)
  | succ i=>simpa using ih i p (by simpa using h)
theorem JCs.named{nm:List Nat}{cs cs':List PV}(h:JCs nm cs cs'):PV.named.namedL nm cs'=true:=by
 induction h with
 | nil=>rfl
 | keep h _ ih=>simp only[PV.named.namedL,h,ih,Bool.and_self]
 | junk _ ih=>simp only[PV.named.namedL,PV.named,ih,Bool.and_self]
theorem JOb.named{nm:List Nat}{o o':Ob}(h:JOb nm o o'):o'.named nm=true:=by
 cases h with
 | same h=>exact h
 | cells h=>exact h.named
theorem JOb.rd{nm:List Nat}{o o':Ob}(h:JOb nm o o'){w:World}{g:ze}{S:Nat->Prop}{id:Nat}(hr:ObRd w g S id o):ObRd w g S id o':=by
 cases h with
 | same=>exact hr
 | cells h=>
  cases hr with
  | cells _ _ blk n us hgi hh hl hr' h1=>
   refine .cells _ _ blk n us hgi hh (h.len.trans hl) (fun i p u hp hu=>?_) h1;rcases h.get i p hp with rfl | h2
   ·exact .junk u
   ·exact hr' i p u h2 hu
theorem JObs.look{nm:List Nat}{F F':List (Nat×Ob)}(h:JObs nm F F'):∀ (id:Nat) (o':Ob),Go.Ep.look F' id=some o'->∃ o,Go.Ep.look F id=some o/\JOb nm o o':=by
 induction h with
 | nil=>intro id o' h;simp[Go.Ep.look] at h
 | cons h _ ih=>
  intro id o' hl;simp only[Go.Ep.look] at hl ⊢
  split at hl
  ·rename_i e;cases hl;exact⟨_,by rw[if_pos e],h⟩
  ·rename_i e;rw[if_neg e];exact ih id o' hl
theorem xva{l:List (Nat×Ob)}{i:Nat}(h:i∉l.map (·.1)):look l i=none:=by
 cases hl:look l i with
 | none=>rfl
 | some o=>exact absurd (yR hl) h
theorem OwnB.app{g:ze}{a b:List (Nat×Ob)}{k:Nat}(h:OwnB g (a++b) k):OwnB g a k\/OwnB g b k:=by
 obtain⟨id,o,n,h1,h2⟩:=h;rw[xg] at h1
 cases hl:look a id with
 | none=>rw[hl,Option.none_or] at h1;exact .inr ⟨id,o,n,h1,h2⟩
 | some q=>rw[hl,Option.some_or] at h1;exact .inl ⟨id,q,n,hl,h2⟩
theorem PObj.frame{G:Type}{P:Program}{f:FuncId}{ps:List PV}{os:List (Nat×Ob)}{pins ks:List Nat}{r:PV}{os':G->List (Nat×Ob)}(F F':List (Nat×Ob))(hc:PObj P f ps os pins r os')
  (hks:∀ gh,(os' gh).map (·.1)=ks) (hcl:∀ gh,(os' gh).all (fun x=>x.2.named ks)=true) (hr:r.named ks=true) (hd:((F.map (·.1)).all fun k=>!inL (os.map (·.1)) k&&!inL ks k)=true) (hj:JObs (pins++F.map (·.1)) F F') :
  PObj P f ps (os++F) (pins++F.map (·.1)) r (fun gh=>os' gh++F'):=by
 intro w g S vs hlen hreal hobs hdis;have hd1:∀ k∈F.map (·.1),k∉os.map (·.1)/\k∉ks:=fun k hk=>by
  have h:=List.all_eq_true.1 hd k hk;rw[Bool.and_eq_true,Bool.not_eq_true',Bool.not_eq_true',WW,WW] at h;exact h
 have Yl:∀ {id o},look F id=some o->look (os++F) id=some o:=fun {id o} h=>by
  rw[xg,xva (hd1 id (yR h)).1,Option.none_or];exact h
 have ownL:∀ {b},OwnB g os b->OwnB g (os++F) b:=fun⟨id,o,n,h1,h2⟩=>⟨id,o,n,yk h1,h2⟩
 have ownR:∀ {b},OwnB g F b->OwnB g (os++F) b:=fun⟨id,o,n,h1,h2⟩=>⟨id,o,n,Yl h1,h2⟩
 have hnF:∀ {id o b n},look F id=some o->g id=some (b,n)->¬ OwnB g os b:=fun {id o b n} h1 h2 ⟨id2,o2,n2,h3,h4⟩=>by
  have:=hobs.inj id id2 o o2 b n n2 (Yl h1) (yk h3) h2 h4;subst this;exact(hd1 id (yR h1)).1 (yR h3)
 refine(hc w g S vs hlen hreal ⟨fun id o h=>hobs.rd id o (yk h),fun i j oi oj b n m hi hj=>hobs.inj i j oi oj b n m (yk hi) (yk hj),fun id o b n h=>hobs.lt id o b n (yk h)⟩ (fun b hb h=>hdis b hb (ownL h))).mono fun e w' ⟨u,g',gh,he,hpost⟩=>?_
 have hks':=hks gh;have hcl':=hcl gh
 let G':ze:=fun j=>if inL (F.map (·.1)) j then g j else g' j
 refine⟨u,G',gh,he,?_⟩;show z1a w g S (os++F) (pins++F.map (·.1)) r (os' gh++F') w' G' u
 generalize os' gh=os1 at hpost hks' hcl' ⊢
 have gF:∀ {j},j∈F.map (·.1)->G' j=g j:=fun {j} h=>by simp only[G',zd.2 h,if_true]
 have gN:∀ {j},j∉F.map (·.1)->G' j=g' j:=fun {j} h=>by simp only[G',WW.2 h,Bool.false_eq_true,if_false]
 have gK:∀ {j},j∈ks->G' j=g' j:=fun {j} h=>gN fun h2=>(hd1 j h2).2 h
 have gP:∀ {j},j∈pins++F.map (·.1)->G' j=g j:=fun {j} h=>by
  by_cases hf:j∈F.map (·.1)
  ·exact gF hf
  ·rw[gN hf];exact hpost.pin j ((List.mem_append.1 h).resolve_right hf)
 have split:∀ {id o},look (os1++F') id=some o->(look os1 id=some o/\id∈ks)\/∃ o0,look F id=some o0/\JOb (pins++F.map (·.1)) o0 o:=fun {id o} h=>by
  rw[xg] at h
  cases hl:look os1 id with
  | none=>rw[hl,Option.none_or] at h;exact .inr (hj.look id o h)
  | some q=>rw[hl,Option.some_or] at h;cases h;exact .inl ⟨rfl,hks'▸yR hl⟩
 have hA:∀ b,Xy w g S os g' os1 b->Xy w g S (os++F) G' (os1++F') b:=fun b ⟨h1,h2⟩=>⟨by
  rcases h1 with h1 | h1 | h1
  ·exact .inl h1
  ·exact .inr (.inl (ownL h1))
  ·exact .inr (.inr h1),fun⟨id,o,n,hl,hgi⟩=>by
  rcases split hl with⟨h3,h4⟩ | ⟨o0,h3,h4⟩
  ·rw[gK h4] at hgi;exact h2 ⟨id,o,n,h3,hgi⟩
  ·rw[gF (yR h3)] at hgi;rcases h1 with h1 | h1 | h1
   ·exact hdis b h1 ⟨id,o0,n,Yl h3,hgi⟩
   ·exact hnF h3 hgi h1
   ·have:=hobs.lt id o0 b n (Yl h3) hgi;omega⟩
 have hS:∀ b,S b->b < w.heap.size->Xy w g S (os++F) G' (os1++F') b:=fun b hb hlt=>⟨.inl hb,fun⟨id,o,n,hl,hgi⟩=>by
  rcases split hl with⟨h3,h4⟩ | ⟨o0,h3,h4⟩
  ·rw[gK h4] at hgi;rcases hpost.own b ⟨id,o,n,h3,hgi⟩ with h5 | h5
   ·exact hdis b hb (ownL h5)
   ·omega
  ·rw[gF (yR h3)] at hgi;exact hdis b hb ⟨id,o0,n,Yl h3,hgi⟩⟩
 have hst:yg w w' S:=⟨hpost.grows,fun b hb hlt=>hpost.keep b hlt fun h=>hdis b hb (ownL h)⟩
 have hst':yg w' w' (Xy w g S os g' os1):=⟨Nat.le_refl _,fun _ _ _=>rfl⟩
 refine⟨hpost.eos,hpost.tape,hpost.output,hpost.grows,fun k hk h=>hpost.keep k hk fun h2=>h (ownL h2),fun b ⟨id,o,n,hl,hgi⟩=>?_,fun id h=>gP h,?_,⟨fun id o hl=>?_,fun i j oi oj b n m hi hj' hgi hgj=>?_,fun id o b n hl hgi=>?_⟩⟩
 ·rcases split hl with⟨h3,h4⟩ | ⟨o0,h3,h4⟩
  ·rw[gK h4] at hgi;exact(hpost.own b ⟨id,o,n,h3,hgi⟩).imp ownL (fun h=>h)
  ·rw[gF (yR h3)] at hgi;exact .inl (ownR ⟨id,o0,n,h3,hgi⟩)
 ·exact hpost.res.keep hst' (fun b hb _=>hA b hb) fun j hjj=>gK (PV.named_has hr hjj)
 ·rcases split hl with⟨h3,h4⟩ | ⟨o0,h3,h4⟩
  ·have hn:=(List.all_eq_true.1 hcl') _ (xi h3);exact(hpost.obs.rd id o h3).keep hst' (fun b hb _=>hA b hb) (fun _ _ _=>rfl) (gK h4) fun j hjj=>gK (Ob.named_has hn hjj)
  ·exact(h4.rd (hobs.rd id o0 (Yl h3))).keep hst hS (fun b n hgi=>hpost.keep b (hobs.lt id o0 b n (Yl h3) hgi) (hnF h3 hgi)) (gF (yR h3)) fun j hjj=>gP (Ob.named_has h4.named hjj)
 ·rcases split hi with⟨h3,h4⟩ | ⟨o0,h3,h4⟩ <;> rcases split hj' with⟨h5,h6⟩ | ⟨o2,h5,h6⟩
  ·rw[gK h4] at hgi;rw[gK h6] at hgj;exact hpost.obs.inj i j oi oj b n m h3 h5 hgi hgj
  ·rw[gK h4] at hgi;rw[gF (yR h5)] at hgj;exfalso;rcases hpost.own b ⟨i,oi,n,h3,hgi⟩ with h7 | h7
   ·exact hnF h5 hgj h7
   ·have:=hobs.lt j o2 b m (Yl h5) hgj;omega
  ·rw[gF (yR h3)] at hgi;rw[gK h6] at hgj;exfalso;rcases hpost.own b ⟨j,oj,m,h5,hgj⟩ with h7 | h7
   ·exact hnF h3 hgi h7
   ·have:=hobs.lt i o0 b n (Yl h3) hgi;omega
  ·rw[gF (yR h3)] at hgi;rw[gF (yR h5)] at hgj;exact hobs.inj i j o0 o2 b n m (Yl h3) (Yl h5) hgi hgj
 ·rcases split hl with⟨h3,h4⟩ | ⟨o0,h3,h4⟩
  ·rw[gK h4] at hgi;exact hpost.obs.lt id o b n h3 hgi
  ·rw[gF (yR h3)] at hgi;exact Nat.lt_of_lt_of_le (hobs.lt id o0 b n (Yl h3) hgi) hpost.grows
section
variable{ctx:Ctx}{s:PState}
inductive RSl (s:PState) (ρ:List (Nat×Nat)):List (Nat×PV)->Prop
 | nil:RSl s ρ []
 | cons {i:Nat} {p:PV} {r:List (Nat×PV)} (h:s.at i=some (p.ren ρ)) (t:RSl s ρ r):RSl s ρ ((i,p)::r)
theorem RSl.get{ρ:List (Nat×Nat)}{l:List (Nat×PV)}(h:RSl s ρ l):∀ i p,vQ l i=some p->s.at i=some (p.ren ρ):=by
 induction h with
 | nil=>intro i p h;simp[vQ] at h
 | cons h _ ih=>
  intro i p hl;rw[yq] at hl
  split at hl
  ·rename_i e;subst e;cases hl;exact h
  ·exact ih i p hl
end
theorem PObj.dropRow{G:Type}{P:Program}{f:FuncId}{ps:List PV}{os:List (Nat×Ob)}{pins:List Nat}{id n k:Nat}{e:TypeId}{l:List (List DV)}{os' os1:G->List (Nat×Ob)}(hc:PObj P f ps os pins (.row id n) os')(hos:∀ gh,os' gh=os1 gh++[(id,.row e k l)])(hn:n=l.length)(hk:∀ gh,(os1 gh).all (fun x=>!Nat.beq x.1 id)=true) :
  PObj P f ps os pins (.d (.sl l)) os1:=by
 intro w g S vs hlen hreal hobs hdis;refine(hc w g S vs hlen hreal hobs hdis).mono fun en w' ⟨u,g',gh,he,hpost⟩=>?_
 refine⟨u,g',gh,he,?_⟩;rw[hos gh] at hpost;have hk':=hk gh
 generalize os1 gh=o1 at hpost hk' ⊢
 have hne:∀ {i o},look o1 i=some o->i≠id:=fun {i o} h e=>by
  have:=List.all_eq_true.1 hk' _ (xi h);subst e;simp at this
 have hid:look (o1++[(id,.row e k l)]) id=some (.row e k l):=by
  rw[xg]
  cases h:look o1 id with
  | none=>simp[look]
  | some o=>exact absurd rfl (hne h)
 have ownL:∀ {b},OwnB g' o1 b->OwnB g' (o1++[(id,.row e k l)]) b:=fun⟨i,o,m,h1,h2⟩=>⟨i,o,m,yk h1,h2⟩
 have hA:∀ b,Xy w g S os g' (o1++[(id,.row e k l)]) b->Xy w g S os g' o1 b:=fun b ⟨h1,h2⟩=>⟨h1,fun h=>h2 (ownL h)⟩
 have hst:yg w' w' (Xy w g S os g' (o1++[(id,.row e k l)])):=⟨Nat.le_refl _,fun _ _ _=>rfl⟩
 refine⟨hpost.eos,hpost.tape,hpost.output,hpost.grows,hpost.keep,fun b h=>hpost.own b (ownL h),hpost.pin,?_,⟨fun i o h=>(hpost.obs.rd i o (yk h)).keep hst (fun b hb _=>hA b hb) (fun _ _ _=>rfl) rfl (fun _ _=>rfl),fun i j oi oj b n m hi hj=>hpost.obs.inj i j oi oj b n m (yk hi) (yk hj),fun i o b n h=>hpost.obs.lt i o b n (yk h)⟩⟩;have hr:=hpost.res;have ho:=hpost.obs.rd id _ hid
 generalize u=v at hr
 cases ho with
 | rowNil _ _ hgn=>
  cases hr with
  | row _ _ blk cap hgi=>rw[hgn] at hgi;cases hgi
  | rowNil=>exact .d (.nil none 0 (Nat.zero_le _) (fun _=>rfl))
 | row _ _ _ blk' cap' cur hgi hh hlc hcap hcs hkk hr'=>
  cases hr with
  | rowNil _ hgn=>rw[hgn] at hgi;cases hgi
  | row _ _ blk cap hgi'=>
   rw[hgi] at hgi'
   cases hgi'
   subst hn;have hlt:=hpost.obs.lt id _ blk' cap' hid hgi;have hfree:Xy w g S os g' o1 blk':=⟨.inr (hpost.own blk' ⟨id,_,cap',hid,hgi⟩),fun⟨i,o,m,h1,h2⟩=>hne h1 (hpost.obs.inj i id o _ blk' m cap' (yk h1) hid h2 hgi)⟩
   refine .d (.sl l blk' 0 cap' k (fun i j=>cur.getD (i*k+j) undef) hlc hcap hfree hlt hkk ?_ ?_)
   ·intro i j hi hj;have hlt:i*k+j < cur.length:=by rw[hcs];exact ZZ (by omega) hj
    rw[zj hh];simp[hlt]
   ·intro i cs j x hi hx;obtain⟨u,hu,hd⟩:=hr' i cs j x hi hx;have e:cur.getD (i*k+j) undef=u:=by simp[List.getD,hu]
    show DRd w' _ x (cur.getD (i*k+j) undef);rw[e];exact hd.keep hst (fun b hb _=>hA b hb)
inductive LookIn (os':List (Nat×Ob)):List (Nat×Ob)->Prop
 | nil:LookIn os' []
 | cons {i:Nat} {o:Ob} {r:List (Nat×Ob)} (h:Go.Ep.look os' i=some o) (t:LookIn os' r):LookIn os' ((i,o)::r)
theorem LookIn.get{os' l:List (Nat×Ob)}(h:LookIn os' l):∀ i o,Go.Ep.look l i=some o->Go.Ep.look os' i=some o:=by
 induction h with
 | nil=>intro i o h;simp[Go.Ep.look] at h
 | cons h _ ih=>
  intro j o2 hl;simp only[Go.Ep.look] at hl
  split at hl
  ·rename_i e;subst e;cases hl;exact h
  ·exact ih j o2 hl
theorem xwa{ρ:List (Nat×Nat)}{acc:List (Nat×Ob)}{i:Nat}{o:Ob}:∀ {l:List (Nat×Ob)},look l i=some o->(∀ j∈l.map (·.1),rn ρ j=rn ρ i->j=i)->look (l.foldr (fun x l=>yF (rn ρ x.1) (x.2.ren ρ) l) acc) (rn ρ i)=some (o.ren ρ)
 | [],h,_=>by simp[look] at h
 | (k,q)::r,h,hi=>by
  rw[List.foldr_cons,zD]
  by_cases e:rn ρ i=rn ρ k
  ·rw[if_pos e];have:=hi k (by simp) e.symm;subst this;simp[look] at h;rw[h]
  ·rw[if_neg e];refine xwa (l:=r) ?_ (fun j hj=>hi j (by simp only[List.map_cons,List.mem_cons];exact .inr hj));simp only[look] at h;rw[if_neg (fun e2=>e (by rw[e2]))] at h;exact h
theorem lookN{ρ:List (Nat×Nat)}{acc:List (Nat×Ob)}{j:Nat}:∀ {l:List (Nat×Ob)},(∀ i∈l.map (·.1),rn ρ i≠j)->look (l.foldr (fun x l=>yF (rn ρ x.1) (x.2.ren ρ) l) acc) j=look acc j
 | [],_=>rfl
 | (k,q)::r,h=>by
  rw[List.foldr_cons,zD,if_neg (fun e=>h k (by simp) e.symm)];exact lookN fun i hi=>h i (by simp only[List.map_cons,List.mem_cons];exact .inr hi)
theorem xxa{ρ:List (Nat×Nat)}{acc:List (Nat×Ob)}{j:Nat}:∀ {l:List (Nat×Ob)},(∀ i∈l.map (·.1),rn ρ i≠j)->look (l.foldr (fun x l=>Zs (rn ρ x.1) l) acc) j=look acc j
 | [],_=>rfl
 | (k,q)::r,h=>by
  rw[List.foldr_cons,xM,if_neg (fun e=>h k (by simp) e.symm)];exact xxa fun i hi=>h i (by simp only[List.map_cons,List.mem_cons];exact .inr hi)
theorem z5a{l:List (Nat×Ob)}{i:Nat}(h:i∈l.map (·.1)):∃ o,look l i=some o:=by
 cases hl:look l i with
 | some o=>exact⟨o,rfl⟩
 | none=>
  exfalso
  induction l with
  | nil=>cases h
  | cons x r ih=>
   simp only[look] at hl
   split at hl
   ·cases hl
   ·rename_i e
    simp only[List.map_cons,List.mem_cons] at h;exact ih (h.resolve_left e) hl
section
variable{P:Program}{ctx:Ctx}{Q:PState->Prop}{s:PState}{ops:Array Oper}{rest:List Oper}{fs:List Ft}{f:Ft}
variable{dst:Option Tmp}{ty:TypeId}{pos:String}{after:Array Edge}{gd:Option (Nat×Bool)}
theorem PQe.callObjS{x:Operand}{xs:List Operand}{ats:Array TypeId}{fn:FuncId}{ps qs:List PV}{os os':List (Nat×Ob)}{pins:List Nat}{r:PV}(ρ:List (Nat×Nat))(js ks:List Nat)(osV osS:List (Nat×Ob))
  (hc:PObj P fn ps os pins r (fun _:Unit=>os')) (hK:∀ b,ctx.K b->ctx.S b)
  (hev:∀ s':PState,(∀ {y q},xy (⟨dst,.call ⟨.value x,xs.toArray,ats⟩,ty,pos,after,gd⟩:Oper) y=true->s.ev y=some q->s'.ev y=some q)->s'.ev x=some (.d (.v (.func (.func fn) #[] #[])))/\s'.evs xs=some qs)
  (he:∀ args w,(callFunc fn args).run P w=.ok (.enter fn args) w) (hq:qs.map PV.nilD=ps.map (PV.ren ρ)) (hos:AllOb s ρ os) (hV:LookIn os' osV) (hS:LookIn os' osS) (hAS:AllOb s ρ osS) (hcov:(os'.map (·.1)).all (fun i=>inL (osV.map (·.1)) i||inL (osS.map (·.1)) i)=true) (hSo:(osS.map (·.1)).all (inL (os.map (·.1)))=true)
  (hks:os'.map (·.1)=ks) (hcl:os'.all (fun x=>x.2.named ks)=true) (hr:r.named ks=true) (hok:calO ρ js (os.map (·.1)) pins ks f=true)
  (hg:Wd ops (⟨dst,.call ⟨.value x,xs.toArray,ats⟩,ty,pos,after,gd⟩:Oper) s) (hk:okE f (jV ρ js dst r osV)=true) (h:PQe P ctx ops Q rest fs (s.app (jV ρ js dst r osV))) :
  PQe P ctx ops Q (⟨dst,.call ⟨.value x,xs.toArray,ats⟩,ty,pos,after,gd⟩::rest) (f::fs) s:=by
 simp only[calO,Bool.and_eq_true] at hok;obtain⟨⟨⟨⟨⟨c1,c2⟩,c3⟩,c4⟩,c5⟩,c6⟩:=hok;refine .step (e:=jV ρ js dst r osV) (fun s' hn hee ho hfr hal=>?_) hg hk h;obtain⟨h1,h2⟩:=hev s' (fun hx hq=>hee hx hq);have hinj:∀ i j,i∈os.map (·.1)++ks->j∈os.map (·.1)++ks->rn ρ i=rn ρ j->i=j:=fun i j hi hj e=>by
  have h3:=List.all_eq_true.1 (List.all_eq_true.1 c1 i hi) j hj;rw[Bool.or_eq_true,Bool.not_eq_true'] at h3;rcases h3 with h | h
  ·exact Nat.eq_of_beq_eq_true h
  ·rw[e,Nat.beq_refl] at h;cases h
 have hok':Yk s' ρ js (os.map (·.1)) pins ks=true:=by
  unfold Yk;rw[Bool.and_eq_true,Bool.and_eq_true];refine⟨⟨c1,?_⟩,?_⟩
  ·rw[List.all_eq_true] at c2 ⊢;intro i hi;have:=c2 i hi;rw[Bool.or_eq_true] at this ⊢;exact this.imp (fun h=>h) fun h=>hfr _ (zd.1 h)
  ·rw[List.all_eq_true] at c5 ⊢;intro i hi;have:=c5 i hi;rw[Bool.or_eq_true,Bool.or_eq_true] at this;rw[Bool.or_eq_true];rcases this with(h | h) | h
   ·exact .inl h
   ·refine .inr ?_;have hf:=hfr _ (zd.1 h);rw[Bool.and_eq_true];refine⟨QK js hf,?_⟩;simp only[PState.fresh,Bool.and_eq_true,List.all_eq_true] at hf;rw[List.all_eq_true];intro y hy;rw[Bool.or_eq_true];exact .inl (hf.2 y hy).2
   ·refine .inr ?_;obtain⟨a,ha1,ha2⟩:=List.any_eq_true.1 h;simp only[Bool.and_eq_true,beq_iff_eq] at ha2;have hx:=hal a ha1;rw[Nat.eq_of_beq_eq_true ha2.1,ha2.2] at hx;unfold PState.aloneX at hx;rw[Bool.and_eq_true,yW] at hx;rw[Bool.and_eq_true];refine⟨hx.1,?_⟩;rw[List.all_eq_true] at c4;have hx2:=hx.2;rw[List.all_eq_true] at hx2 ⊢;intro y hy;have:=hx2 y hy;rw[Bool.or_eq_true] at this ⊢;rcases this with h | h
    ·exact .inr (c4 _ (zd.1 h))
    ·exact .inl h
 have hl:=LR.callObj (P:=P) (ctx:=ctx) (dst:=dst) (ty:=ty) (pos:=pos) (after:=after) (gd:=gd) (ats:=ats) ρ js ks hc hK h1 he h2 hq (hos.keep (fun hi hl=>ho (zd.1 hi) hl) c6) hks hcl hr hok';have hAS':AllOb s' ρ osS:=hAS.keep (f:=f) (fun hi hl=>ho (zd.1 hi) hl) (by
  rw[List.all_eq_true] at c6 hSo ⊢;exact fun i hi=>c6 i (zd.1 (hSo i hi)))
 refine hl.post (Sub.drop ?_ ?_ ?_)
 ·cases dst <;> rfl
 ·intro i p hp;have hat:=uH hp;have hlt:i < s'.n:=UE (s:=s'.app (jV ρ js dst r osV)) hp;refine qj (by cases dst <;> exact hlt) ?_;simp only[PState.app,jV] at hat
  cases dst with
  | none=>simpa[Vr,PState.putD,PState.callO,wI] using hat
  | some d=>simpa[Vr,PState.putD,PState.put,PState.callO,wI] using hat
 ·intro id o hlo;have e1:(s'.app (jV ρ js dst r osV)).objs=osV.foldr (fun x l=>yF (rn ρ x.1) (x.2.ren ρ) l) s'.objs:=by
   simp only[PState.app,jV,List.foldr_map]
  have e2:((s'.callO ρ js os os').putD dst (r.ren ρ)).objs=os'.foldr (fun x l=>yF (rn ρ x.1) (x.2.ren ρ) l) (os.foldr (fun x l=>Zs (rn ρ x.1) l) s'.objs):=by cases dst <;> rfl
  rw[e1] at hlo;rw[e2];have inj':∀ i,i∈os'.map (·.1)->∀ j∈os'.map (·.1),rn ρ j=rn ρ i->j=i:=fun i hi j hj e=>hinj j i (List.mem_append_right _ (hks▸hj)) (List.mem_append_right _ (hks▸hi)) e
  rcases Yl hlo with⟨i,o1,h3,h4,h5⟩ | ⟨h3,h4⟩
  ·have h6:=hV.get i o1 h3;rw[h4,h5];exact xwa h6 (inj' i (yR h6))
  ·by_cases hex:∃ i∈os'.map (·.1),rn ρ i=id
   ·obtain⟨i,hi,rfl⟩:=hex;have h5:=List.all_eq_true.1 hcov i hi;rw[Bool.or_eq_true] at h5;rcases h5 with h5 | h5
    ·exact absurd rfl (h3 i (zd.1 h5))
    ·obtain⟨o2,h6⟩:=z5a (zd.1 h5);have h7:=hAS'.get i o2 h6;rw[h4] at h7
     cases h7
     exact xwa (hS.get i o2 h6) (inj' i hi)
   ·rw[lookN fun i hi e=>hex ⟨i,hi,e⟩,xxa fun i hi e=>hex ⟨i,by rw[hks];exact zd.1 (List.all_eq_true.1 c3 i hi),e⟩];exact h4
end
section
variable{P:Program}{ctx:Ctx}{s:PState}
variable{dst:Option Tmp}{ty:TypeId}{pos:String}{after:Array Edge}{gd:Option (Nat×Bool)}
theorem xya{os os':List (Nat×Ob)}{pins:List Nat}{r:PV}(ρ:List (Nat×Nat))(js ks:List Nat)(osV osS:List (Nat×Ob))(hV:LookIn os' osV)(hS:LookIn os' osS)(hAS:AllOb s ρ osS)(hcov:(os'.map (·.1)).all (fun i=>inL (osV.map (·.1)) i||inL (osS.map (·.1)) i)=true)(c3:(os.map (·.1)).all (inL ks)=true)
  (hks:os'.map (·.1)=ks) (hok:Yk s ρ js (os.map (·.1)) pins ks=true):Sub ctx ((s.callO ρ js os os').putD dst (r.ren ρ)) (s.app (jV ρ js dst r osV)):=by
 have hinj:∀ i j,i∈os.map (·.1)++ks->j∈os.map (·.1)++ks->rn ρ i=rn ρ j->i=j:=fun i j hi hj e=>by
  simp only[Yk,Bool.and_eq_true] at hok;have h3:=List.all_eq_true.1 (List.all_eq_true.1 hok.1.1 i hi) j hj;rw[Bool.or_eq_true,Bool.not_eq_true'] at h3;rcases h3 with h | h
  ·exact Nat.eq_of_beq_eq_true h
  ·rw[e,Nat.beq_refl] at h;cases h
 refine Sub.drop ?_ ?_ ?_
 ·cases dst <;> rfl
 ·intro i p hp;have hat:=uH hp;have hlt:i < s.n:=UE (s:=s.app (jV ρ js dst r osV)) hp;refine qj (by cases dst <;> exact hlt) ?_;simp only[PState.app,jV] at hat
  cases dst with
  | none=>simpa[Vr,PState.putD,PState.callO,wI] using hat
  | some d=>simpa[Vr,PState.putD,PState.put,PState.callO,wI] using hat
 ·intro id o hlo;have e1:(s.app (jV ρ js dst r osV)).objs=osV.foldr (fun x l=>yF (rn ρ x.1) (x.2.ren ρ) l) s.objs:=by
   simp only[PState.app,jV,List.foldr_map]
  have e2:((s.callO ρ js os os').putD dst (r.ren ρ)).objs=os'.foldr (fun x l=>yF (rn ρ x.1) (x.2.ren ρ) l) (os.foldr (fun x l=>Zs (rn ρ x.1) l) s.objs):=by cases dst <;> rfl
  rw[e1] at hlo;rw[e2];have inj':∀ i,i∈os'.map (·.1)->∀ j∈os'.map (·.1),rn ρ j=rn ρ i->j=i:=fun i hi j hj e=>hinj j i (List.mem_append_right _ (hks▸hj)) (List.mem_append_right _ (hks▸hi)) e
  rcases Yl hlo with⟨i,o1,h3,h4,h5⟩ | ⟨h3,h4⟩
  ·have h6:=hV.get i o1 h3;rw[h4,h5];exact xwa h6 (inj' i (yR h6))
  ·by_cases hex:∃ i∈os'.map (·.1),rn ρ i=id
   ·obtain⟨i,hi,rfl⟩:=hex;have h5:=List.all_eq_true.1 hcov i hi;rw[Bool.or_eq_true] at h5;rcases h5 with h5 | h5
    ·exact absurd rfl (h3 i (zd.1 h5))
    ·obtain⟨o2,h6⟩:=z5a (zd.1 h5);have h7:=hAS.get i o2 h6;rw[h4] at h7
     cases h7
     exact xwa (hS.get i o2 h6) (inj' i hi)
   ·rw[lookN fun i hi e=>hex ⟨i,hi,e⟩,xxa fun i hi e=>hex ⟨i,by rw[hks];exact zd.1 (List.all_eq_true.1 c3 i hi),e⟩];exact h4
theorem LR.callObjS{x:Operand}{xs:List Operand}{ats:Array TypeId}{fn:FuncId}{ps qs:List PV}{os os':List (Nat×Ob)}{pins:List Nat}{r:PV}(ρ:List (Nat×Nat))(js ks:List Nat)(osV osS:List (Nat×Ob))
  (hc:PObj P fn ps os pins r (fun _:Unit=>os')) (hK:∀ b,ctx.K b->ctx.S b) (hx:s.ev x=some (.d (.v (.func (.func fn) #[] #[])))) (he:∀ args w,(callFunc fn args).run P w=.ok (.enter fn args) w) (hps:s.evs xs=some qs)
  (hq:qs.map PV.nilD=ps.map (PV.ren ρ)) (hos:AllOb s ρ os) (hV:LookIn os' osV) (hS:LookIn os' osS) (hAS:AllOb s ρ osS) (hcov:(os'.map (·.1)).all (fun i=>inL (osV.map (·.1)) i||inL (osS.map (·.1)) i)=true) (c3:(os.map (·.1)).all (inL ks)=true)
  (hks:os'.map (·.1)=ks) (hcl:os'.all (fun x=>x.2.named ks)=true) (hr:r.named ks=true) (hok:Yk s ρ js (os.map (·.1)) pins ks=true) :
  Local P ctx ⟨dst,.call ⟨.value x,xs.toArray,ats⟩,ty,pos,after,gd⟩ s (s.app (jV ρ js dst r osV)):=
 (LR.callObj (P:=P) (ctx:=ctx) (dst:=dst) (ty:=ty) (pos:=pos) (after:=after) (gd:=gd) (ats:=ats) ρ js ks hc hK hx he hps hq hos hks hcl hr hok).post (xya ρ js ks osV osS hV hS hAS hcov c3 hks hok)
end
end Go.Ep
namespace Go.Ep
open Go.RowKit
section
variable{P:Program}{ctx:Ctx}{Q:PQ}{s:PState}
variable{dst:Option Tmp}{ty:TypeId}{pos:String}{after:Array Edge}{gd:Option (Nat×Bool)}
theorem EpRd.of{w:World}{g:ze}{S:Nat->Prop}{ds:List DV}{u:Value}(h:Rd w g S (.ep ds 0) u):EpRd w S ds u:=by
 cases h with
 | ep _ b off _ c hS hb hc hr=>exact⟨b,off,c,rfl,hS,hb,hc,hr⟩
theorem EpRd.rd{w:World}{g:ze}{S:Nat->Prop}{ds:List DV}{u:Value}(h:EpRd w S ds u):Rd w g S (.ep ds 0) u:=by
 obtain⟨b,off,c,rfl,hS,hb,hc,hr⟩:=h;exact .ep ds b off 0 c hS hb hc hr
theorem LR.makeClo{f:FuncId}{xs:List Operand}{cs:List (List DV)}(hps:s.evs xs=some (cs.map fun ds=>PV.ep ds 0)) :
  Local P ctx ⟨dst,.makeFunc (.func f) #[] xs.toArray,ty,pos,after,gd⟩ s (s.putD dst (.clo f cs)):=
 zG (o:=⟨dst,.makeFunc (.func f) #[] xs.toArray,ty,pos,after,gd⟩) fun a w g hg=>by
  obtain⟨hl,hrd⟩:=z2a hps hg;refine⟨.func (.func f) #[] (xs.map a.eval).toArray,by simp[execOp,Instr.makeFunc],.clo f cs _ (by simpa using hl) fun i ds u h1 h2=>EpRd.of (hrd i (.ep ds 0) u (by rw[List.getElem?_map,h1];rfl) h2)⟩
theorem LR.callC{x:Operand}{xs:List Operand}{ats:Array TypeId}{f:FuncId}{cs:List (List DV)}{ps qs ps':List PV}{r:PV}(hc:PFun P f ps' r)(hx:s.ev x=some (.clo f cs))(he:∀ args w,(callFunc f args).run P w=.ok (.enter f args) w)
  (hps:s.evs xs=some qs) (hq:qs.map PV.nilD=ps) (hd:PV.isData.isDataL ps=true) (hp':ps'=ps++cs.map fun ds=>PV.ep ds 0) (hr:r.isData=true) :
  Local P ctx ⟨dst,.call ⟨.value x,xs.toArray,ats⟩,ty,pos,after,gd⟩ s (s.putD dst r):=
 ue (o:=⟨dst,.call ⟨.value x,xs.toArray,ats⟩,ty,pos,after,gd⟩) fun a w g hg=>by
  subst hq;obtain⟨hlen,hreal⟩:=Vi hps (vj hd) hg;have h:=hg.ev hx
  generalize hv:a.eval x=v at h
  cases h with
  | clo _ _ us hl hh=>
   refine⟨f,_,(by simp[execOp,resolve,Deferred.ofValue,invoke,hv,he]:(execOp a.eval ⟨dst,.call ⟨.value x,xs.toArray,ats⟩,ty,pos,after,gd⟩).run P w=.ok (.enter f ((xs.map a.eval)++us).toArray) w),?_⟩;subst hp';refine(hc w (zq ctx g s.objs) _ (by simp[hl] at hlen ⊢;omega) (fun i p v hp hu=>?_)).mono fun e w' ⟨u,he,hb,hru⟩=>⟨u,he,g,?_⟩
   ·rw[List.getElem?_append] at hp hu;rw[List.length_map,hlen] at hp
    split at hp
    ·rename_i hlt
     rw[if_pos hlt] at hu;rw[List.getElem?_map] at hp
     cases hq:qs[i]? with
     | none=>simp[hq] at hp
     | some q=>simp[hq] at hp;subst hp;exact(hreal i q v hq hu).nilD
    ·rename_i hlt
     rw[if_neg hlt] at hu;rw[List.getElem?_map] at hp
     cases hq:cs[i - (xs.map a.eval).length]? with
     | none=>rw[hq] at hp;cases hp
     | some ds=>rw[hq] at hp;cases hp;exact(hh _ ds v hq hu).rd
   ·exact(hg.below hb).put dst ((hru.data hr g).keep ⟨Nat.le_refl _,fun _ _ _=>rfl⟩ (fun b hb' _=>WE hg hb') (fun _ _=>rfl))
end
section
variable{ctx:Ctx}{s:PState}
def PState.frzR(s:PState)(id:Nat)(ds:List DV)(js:List Nat):PState:={ n:=s.n,sl:=(s.sets (.ep ds 0) js).sl,objs:=Zs id s.objs }
inductive AllRef (s:PState) (id:Nat):List Nat->Prop
 | nil:AllRef s id []
 | cons {j:Nat} {js:List Nat} (h:s.at j=some (.ref id 0)) (r:AllRef s id js):AllRef s id (j::js)
theorem AllRef.get{id:Nat}{js:List Nat}(h:AllRef s id js):∀ j∈js,s.at j=some (.ref id 0):=by
 induction h with
 | nil=>intro j hj;cases hj
 | cons h _ ih=>
  intro j hj;rcases List.mem_cons.1 hj with rfl | hj
  ·exact h
  ·exact ih j hj
theorem Sub.frzR{id:Nat}{T:TypeId}{cs:List PV}(ds:List DV)(js:List Nat)(hK:∀ b,ctx.K b->ctx.S b)(hl:look s.objs id=some (.cells T cs))(hcs:cs=ds.map PV.d)(hjs:AllRef s id js):Sub ctx s (s.frzR id ds js):=by
 rintro a w ⟨g,h⟩;have hF:∀ b,zq ctx g s.objs b->zq ctx g (Zs id s.objs) b:=fun b ⟨h1,h2⟩=>⟨h1,fun j o m hj hg=>by
  rw[xM] at hj
  split at hj
  ·cases hj
  ·exact h2 j o m hj hg⟩
 have hst:yg w w (zq ctx g s.objs):=⟨Nat.le_refl _,fun _ _ _=>rfl⟩
 have hlk:∀ {j:Nat} {o:Ob},look (Zs id s.objs) j=some o->j≠id/\look s.objs j=some o:=fun {j o} hj=>by
  rw[xM] at hj
  split at hj
  ·cases hj
  ·rename_i hne;exact⟨hne,hj⟩
 refine⟨g,⟨h.defers,h.size,?_,?_,?_,?_,h.os,h.tape,h.output,h.grows,h.keep⟩⟩
 ·intro i p hp;have old:s.at i=some p->Rd w g (zq ctx g (Zs id s.objs)) p (a.tmps.getD i undef):=fun hq=>(h.slots i p hq).keep hst (fun b hb _=>hF b hb) (fun _ _=>rfl)
  have hp':(s.sets (.ep ds 0) js).at i=some p:=qj (by rw[JJ];exact UE (s:=s.frzR id ds js) hp) (uH (s:=s.frzR id ds js) hp);rcases JK _ js s i p hp' with⟨h1,rfl⟩ | h2
  ·have hr:=h.slots i _ (hjs.get i h1);have hob:=h.objs id _ hl;show Rd w g (zq ctx g (Zs id s.objs)) (.ep ds 0) (a.tmps.getD i undef)
   generalize hv:a.tmps.getD i undef=v at hr
   cases hr with
   | ref _ _ blk n hgi=>
    cases hob with
    | cells _ _ blk' n' us hgi' hh hlen hr' _=>
     rw[hgi] at hgi'
     cases hgi'
     have hown:=h.own id _ blk n hl hgi;have hfree:zq ctx g (Zs id s.objs) blk:=⟨hown.2.elim .inr fun hh=>.inl (hK _ hh),fun j o m hj hgj=>by
      obtain⟨hne,hj'⟩:=hlk hj;exact hne (h.inj j id o _ blk m n hj' hl hgj hgi)⟩
     subst hcs;rw[List.length_map] at hlen;refine .ep ds blk 0 0 (fun j=>us.getD j undef) hfree hown.1 (fun j hj=>?_) (fun j x hx=>?_)
     ·rw[zj hh,Nat.zero_add];have:j < us.length:=by omega
      simp[this]
     ·have hj:j < us.length:=by rw[<- hlen];exact(List.getElem?_eq_some_iff.1 hx).1
      have hu:us[j]?=some us[j]:=List.getElem?_eq_getElem hj;have e:us.getD j undef=us[j]:=by simp[hj]
      show DRd w _ x (us.getD j undef);rw[e];have:=hr' j (.d x) _ (by rw[List.getElem?_map,hx];rfl) hu
      cases this with
      | d hd=>exact hd.keep hst (fun b hb _=>hF b hb)
  ·exact old h2
 ·intro j o hj;obtain⟨_,hj'⟩:=hlk hj;exact(h.objs j o hj').keep hst (fun b hb _=>hF b hb) (fun _ _ _=>rfl) rfl (fun _ _=>rfl)
 ·intro i j oi oj b n m hi hj;exact h.inj i j oi oj b n m (hlk hi).2 (hlk hj).2
 ·intro j o b n hj;exact h.own j o b n (hlk hj).2
end
inductive LendL (s:PState):List PV->List PV->Prop
 | nil:LendL s [] []
 | data {q p:PV} {qs ps:List PV} (h:q.nilD=p) (hd:p.isData=true) (t:LendL s qs ps):LendL s (q::qs) (p::ps)
 | row {id n k:Nat} {e:TypeId} {l:List (List DV)} {qs ps:List PV} (hl:look s.objs id=some (.row e k l)) (hn:l.length=n) (t:LendL s qs ps):LendL s (.row id n::qs) (.d (.sl l)::ps)
 | nest {id id2 n k:Nat} {e T:TypeId} {l:List (List DV)} {qs ps:List PV} (h2:look s.objs id2=some (.cells T [.row id n])) (hl:look s.objs id=some (.row e k l)) (hn:l.length=n) (t:LendL s qs ps):LendL s (.pa id2 0 1::qs) (.d (.sl [[.sl l]])::ps)
section
variable{P:Program}{ctx:Ctx}{Q:PQ}{s:PState}
variable{dst:Option Tmp}{ty:TypeId}{pos:String}{after:Array Edge}{gd:Option (Nat×Bool)}
def LentS(ctx:Ctx)(g:ze)(s:PState)(b:Nat):Prop:=zq ctx g s.objs b\/∃ id o n,look s.objs id=some o/\g id=some (b,n)
theorem xza{g:ze}{a:Act}{w:World}(hg:RelG ctx g s a w){id n k:Nat}{e:TypeId}{l:List (List DV)}{v:Value}(hlk:look s.objs id=some (.row e k l))(hn:l.length=n)(hq:Rd w g (zq ctx g s.objs) (.row id n) v):DRd w (LentS ctx g s) (.sl l) v:=by
 have hst:yg w w (zq ctx g s.objs):=⟨Nat.le_refl _,fun _ _ _=>rfl⟩
 have hob:=hg.objs id _ hlk
 cases hob with
 | rowNil _ _ hgn=>
  cases hq with
  | row _ _ blk cap hgi=>rw[hgn] at hgi;cases hgi
  | rowNil=>exact .nil none 0 (Nat.zero_le _) (fun _=>rfl)
 | row _ _ _ blk' cap' cur hgi hh hlc hcap hcs hkk hr'=>
  cases hq with
  | rowNil _ hgn=>rw[hgn] at hgi;cases hgi
  | row _ _ blk cap hgi'=>
   rw[hgi] at hgi'
   cases hgi'
   subst hn;have hown:=hg.own id _ blk' cap' hlk hgi;refine .sl l blk' 0 cap' k (fun i j=>cur.getD (i*k+j) undef) hlc hcap (.inr ⟨id,_,cap',hlk,hgi⟩) hown.1 hkk ?_ ?_
   ·intro i j hi hj;have hlt:i*k+j < cur.length:=by rw[hcs];exact ZZ (by omega) hj
    rw[zj hh];simp[hlt]
   ·intro i cs j x hi hx;obtain⟨u,hu,hd⟩:=hr' i cs j x hi hx;have e:cur.getD (i*k+j) undef=u:=by simp[List.getD,hu]
    show DRd w _ x (cur.getD (i*k+j) undef);rw[e];exact hd.keep hst (fun b hb _=>.inl hb)
theorem LendL.rd{g:ze}{a:Act}{w:World}(hg:RelG ctx g s a w){qs ps:List PV}(h:LendL s qs ps):∀ (vs:List Value),qs.length=vs.length->(∀ (i:Nat) (q:PV) (v:Value),qs[i]?=some q->vs[i]?=some v->Rd w g (zq ctx g s.objs) q v) ->
  ps.length=vs.length/\∀ (i:Nat) (p:PV) (v:Value),ps[i]?=some p->vs[i]?=some v->Rd w g0 (LentS ctx g s) p v:=by
 have hst:yg w w (zq ctx g s.objs):=⟨Nat.le_refl _,fun _ _ _=>rfl⟩
 induction h with
 | nil=>intro vs hl _;exact⟨hl,fun i p v hp=>by simp at hp⟩
 | @data q p qs ps h hd _ ih=>
  intro vs hl hr
  cases vs with
  | nil=>simp at hl
  | cons v vs=>
   obtain⟨h1,h2⟩:=ih vs (by simpa using hl) (fun i q u hq hu=>hr (i+1) q u (by simpa using hq) (by simpa using hu));refine⟨by simp[h1],fun i p' u hp hu=>?_⟩
   cases i with
   | zero=>
    simp at hp hu;subst hp;subst hu;subst h;exact(((hr 0 q v rfl rfl).nilD).data hd g0).keep hst (fun b hb _=>.inl hb) (fun _ _=>rfl)
   | succ i=>exact h2 i p' u (by simpa using hp) (by simpa using hu)
 | @row id n k e l qs ps hlk hn _ ih=>
  intro vs hl hr
  cases vs with
  | nil=>simp at hl
  | cons v vs=>
   obtain⟨h1,h2⟩:=ih vs (by simpa using hl) (fun i q u hq hu=>hr (i+1) q u (by simpa using hq) (by simpa using hu));refine⟨by simp[h1],fun i p' u hp hu=>?_⟩
   cases i with
   | succ i=>exact h2 i p' u (by simpa using hp) (by simpa using hu)
   | zero=>
    simp at hp hu;subst hp;subst hu;exact .d (xza hg hlk hn (hr 0 (.row id n) v rfl rfl))
 | @nest id id2 n k e T l qs ps h2 hlk hn _ ih=>
  intro vs hl hr
  cases vs with
  | nil=>simp at hl
  | cons v vs=>
   obtain⟨h1,h2'⟩:=ih vs (by simpa using hl) (fun i q u hq hu=>hr (i+1) q u (by simpa using hq) (by simpa using hu));refine⟨by simp[h1],fun i p' u hp hu=>?_⟩
   cases i with
   | succ i=>exact h2' i p' u (by simpa using hp) (by simpa using hu)
   | zero=>
    simp at hp hu;subst hp;subst hu;have hq:=hr 0 (.pa id2 0 1) v rfl rfl
    cases hg.objs id2 _ h2 with
    | cells _ _ blk' n' us h' hh hlen hr' ho=>
     cases hq with
     | pa _ _ _ blk c hgi=>
      rw[h'] at hgi
      cases hgi
      match us,hlen with
      | [u],_=>
       have hd:=xza hg hlk hn (hr' 0 (.row id n) u rfl rfl);refine .d (.sl [[.sl l]] blk' 0 1 1 (fun _ _=>u) (by simp) (by decide) (.inr ⟨id2,_,n',h2,h'⟩) (hg.own id2 _ blk' n' h2 h').1 ?_ ?_ ?_)
       ·intro i cs hi
        cases i with
        | zero=>simp at hi;subst hi;rfl
        | succ i=>simp at hi
       ·intro i j hi hj;obtain rfl:i=0:=by simpa using hi
        obtain rfl:j=0:=by omega
        rw[zj hh];rfl
       ·intro i cs j x hi hx
        cases i with
        | succ i=>simp at hi
        | zero=>
         simp at hi;subst hi
         cases j with
         | succ j=>simp at hx
         | zero=>simp at hx;subst hx;exact hd
def PV.flat : PV->Bool
 | .d (.v _)=>true
 | .agg cs=>cs.all fun | .d (.v _)=>true | _=>false
 | _=>false
theorem Rd.flat{w:World}{g g':ze}{S S':Nat->Prop}{p:PV}{u:Value}(hf:p.flat=true)(h:Rd w g S p u):Rd w g' S' p u:=by
 cases h with
 | d hd=>cases hd with
  | v _ h=>exact .d (.v _ h)
  | _=>simp[PV.flat] at hf
 | agg cs us hl h h1=>
  simp only[PV.flat,List.all_eq_true] at hf;refine .agg cs us hl (fun i p u hp hu=>?_) h1;have hp':=hf p (List.mem_of_getElem? hp);have hi:=h i p u hp hu
  cases hi with
  | d hd=>cases hd with
   | v _ h=>exact .d (.v _ h)
   | _=>simp at hp'
  | _=>simp at hp'
 | _=>simp[PV.flat] at hf
theorem LR.callLendAt{x:Operand}{xs:List Operand}{ats:Array TypeId}{f:FuncId}{ps qs:List PV}{r:PV}(hc:∀ a w g,RelG ctx g s a w->FunAt P f ps r w (LentS ctx g s))(hx:s.ev x=some (.d (.v (.func (.func f) #[] #[]))))(he:∀ args w,(callFunc f args).run P w=.ok (.enter f args) w)
  (hps:s.evs xs=some qs) (hq:LendL s qs ps) (hf:r.flat=true) :
  Local P ctx ⟨dst,.call ⟨.value x,xs.toArray,ats⟩,ty,pos,after,gd⟩ s (s.putD dst r):=
 ue (o:=⟨dst,.call ⟨.value x,xs.toArray,ats⟩,ty,pos,after,gd⟩) fun a w g hg=>by
  obtain⟨hlen,hreal⟩:=z2a hps hg;obtain⟨h1,h2⟩:=hq.rd hg _ hlen hreal;refine⟨f,_,uf (o:=⟨dst,.call ⟨.value x,xs.toArray,ats⟩,ty,pos,after,gd⟩) rfl (UF hg hx) he w,?_⟩;rw[List.map_toArray];exact(hc a w g hg _ h1 h2).mono fun e w' ⟨u,he,hb,hru⟩=>⟨u,he,g,(hg.below hb).put dst (hru.flat hf)⟩
theorem LR.callLend{x:Operand}{xs:List Operand}{ats:Array TypeId}{f:FuncId}{ps qs:List PV}{z:Value}(hc:PFun P f ps (.d (.v z)))(hx:s.ev x=some (.d (.v (.func (.func f) #[] #[]))))(he:∀ args w,(callFunc f args).run P w=.ok (.enter f args) w)
  (hps:s.evs xs=some qs) (hq:LendL s qs ps) :
  Local P ctx ⟨dst,.call ⟨.value x,xs.toArray,ats⟩,ty,pos,after,gd⟩ s (s.putD dst (.d (.v z))):=LR.callLendAt (fun _ w g _=>hc w (LentS ctx g s)) hx he hps hq rfl
end
end Go.Ep
/- Arrays of sixteen numbers. No program in sight. -/
namespace Go.Ep
abbrev A16:=Int×Int×Int×Int×Int×Int×Int×Int×Int×Int×Int×Int×Int×Int×Int×Int
namespace AR
def l(A:A16):List Int:=[A.1,A.2.1,A.2.2.1,A.2.2.2.1,A.2.2.2.2.1,A.2.2.2.2.2.1,A.2.2.2.2.2.2.1,A.2.2.2.2.2.2.2.1,A.2.2.2.2.2.2.2.2.1,A.2.2.2.2.2.2.2.2.2.1,A.2.2.2.2.2.2.2.2.2.2.1,A.2.2.2.2.2.2.2.2.2.2.2.1,A.2.2.2.2.2.2.2.2.2.2.2.2.1,A.2.2.2.2.2.2.2.2.2.2.2.2.2.1,A.2.2.2.2.2.2.2.2.2.2.2.2.2.2.1,A.2.2.2.2.2.2.2.2.2.2.2.2.2.2.2]
def ofL(x:List Int):A16:=(x.getD 0 0,x.getD 1 0,x.getD 2 0,x.getD 3 0,x.getD 4 0,x.getD 5 0,x.getD 6 0,x.getD 7 0,x.getD 8 0,x.getD 9 0,x.getD 10 0,x.getD 11 0,x.getD 12 0,x.getD 13 0,x.getD 14 0,x.getD 15 0)
def get(A:A16)(i:Nat):Int:=(l A).getD i 0
def set(A:A16)(i:Nat)(v:Int):A16:=ofL ((l A).set i v)
theorem l_len(A:A16):(l A).length=16:=rfl
theorem l_ofL{x:List Int}(h:x.length=16):l (ofL x)=x:=by
 match x,h with
 | [_,_,_,_,_,_,_,_,_,_,_,_,_,_,_,_],_=>rfl
theorem ofL_l(A:A16):ofL (l A)=A:=rfl
theorem l_inj{A B:A16}(h:l A=l B):A=B:=by rw[<- ofL_l A,h,ofL_l]
theorem Zl{A:A16}{i:Nat}(h:i < 16):(l A)[i]?=some (get A i):=by
 have:i < (l A).length:=by rw[l_len];exact h
 unfold get;rw[List.getD_eq_getElem?_getD,List.getElem?_eq_getElem this];rfl
theorem l_set(A:A16)(i:Nat)(v:Int):l (set A i v)=(l A).set i v:=l_ofL (by rw[List.length_set,l_len])
theorem x0a{A:A16}{i j:Nat}{v:Int}(h:j < 16):get (set A i v) j=if i=j then v else get A j:=by
 have e:=Zl (A:=set A i v) h;rw[l_set,List.getElem?_set] at e
 by_cases hij:i=j
 ·rw[if_pos hij,l_len,if_pos (by omega)] at e;rw[if_pos hij];simpa using e.symm
 ·rw[if_neg hij,Zl h] at e;rw[if_neg hij];simpa using e.symm
end AR
instance decA16 : DecidableEq A16:=fun a b=>decidable_of_iff (AR.l a=AR.l b) ⟨AR.l_inj,fun h=>by rw[h]⟩
end Go.Ep
namespace Go.Ep
open Go Go.RowKit
namespace AR
def pl(k:IntKind)(A:A16):List PV:=(l A).map fun n=>.d (.v (.int k n))
theorem pl_get{k:IntKind}{A:A16}{i:Nat}(h:i < 16):(pl k A)[i]?=some (.d (.v (.int k (get A i)))):=by
 unfold pl;rw[List.getElem?_map,Zl h];rfl
theorem at_{cs:List PV}{o i:Nat}{k:IntKind}{A:A16}(h:(cs.drop o).take 16=pl k A)(hi:i < 16):cs[o+i]?=some (.d (.v (.int k (get A i)))):=by
 rw[<- pl_get hi,<- h,List.getElem?_take,if_pos hi,List.getElem?_drop]
theorem room{cs:List PV}{o:Nat}{k:IntKind}{A:A16}(h:(cs.drop o).take 16=pl k A):o+16<=cs.length:=by
 have e:=congrArg List.length h;rw[List.length_take,List.length_drop] at e;have:(pl k A).length=16:=rfl;omega
theorem parts{cs:List PV}{o:Nat}{k:IntKind}{A:A16}(h:(cs.drop o).take 16=pl k A):cs=cs.take o++(pl k A++cs.drop (o+16)):=by
 have e:cs.drop o=pl k A++cs.drop (o+16):=by
  rw[<- h,<- List.drop_drop,List.take_append_drop]
 rw[<- e,List.take_append_drop]
theorem put{cs:List PV}{o i:Nat}{k:IntKind}{A:A16}{v:Int}(h:(cs.drop o).take 16=pl k A)(hi:i < 16) :
  cs.take (o+i)++[.d (.v (.int k v))]++cs.drop (o+i+1)=cs.take o++pl k (set A i v)++cs.drop (o+16):=by
 have hr:=room h;have e1:cs.take (o+i)++[.d (.v (.int k v))]++cs.drop (o+i+1)=cs.set (o+i) (.d (.v (.int k v))):=by
  rw[List.set_eq_take_append_cons_drop,if_pos (by omega),List.append_assoc];rfl
 have hl:(cs.take o).length=o:=by rw[List.length_take];omega
 have hp:(pl k A).length=16:=rfl;have e2:cs.set (o+i) (.d (.v (.int k v)))=cs.take o++((pl k A).set i (.d (.v (.int k v)))++cs.drop (o+16)):=by
  conv=>lhs;rw[parts h]
  rw[List.set_append_right _ _ (by omega),hl,show o+i - o=i by omega,List.set_append_left _ _ (by omega)]
 rw[e1,e2,<- List.append_assoc]
 congr 2
 unfold pl;rw[l_set,List.map_set]
end AR
section
variable{P:Program}{ctx:Ctx}{Q:PQ}{s:PState}
variable{dst:Option Tmp}{ty:TypeId}{pos:String}{after:Array Edge}{gd:Option (Nat×Bool)}
theorem QL{t e:TypeId}{n k:Nat}(hu:P.underlying t=some (.array n e))(h2:1 < n)(hs:∀ w,(sizeOf e).run P w=.ok k w)(b off:Nat)(ki:IntKind)(i:Int)(hi:0<=i/\i < (n:Int))(w:World) :
  (Instr.indexAt t (.pointer (some ⟨b,off,none⟩)) (.int ki i)).run P w=.ok (.pointer (some ⟨b,off+i.toNat*k,none⟩)) w:=by
 simp[Instr.indexAt,asIntOf,run_underlying hu,hi.1,hi.2,hs,Addr.add_lit,Result.andThen,Instr.sureAddr]
theorem LR.idxArrK{x ix:Operand}{id o n k j:Nat}{ki:IntKind}{i:Int}{t e:TypeId}(hu:P.underlying t=some (.array n e))(h2:Nat.blt 1 n=true)(hs:∀ w,(sizeOf e).run P w=.ok k w)
  (hx:s.ev x=some (.ref id o)) (hix:s.ev ix=some (.d (.v (.int ki i)))) (hi:i=(j:Int)) (hj:Nat.blt j n=true) :
  Local P ctx ⟨dst,.indexAddr t x ix,ty,pos,after,gd⟩ s (s.putD dst (.ref id (o+j*k))):=
 zG (o:=⟨dst,.indexAddr t x ix,ty,pos,after,gd⟩) fun a w g hg=>by
  have h:=hg.ev hx;rw[Nat.blt_eq] at h2 hj
  generalize hv:a.eval x=v at h
  cases h with
  | ref _ _ blk m hgi=>
   refine⟨.pointer (some ⟨blk,o+j*k,none⟩),?_,.ref id _ blk m hgi⟩;have:=QL (P:=P) hu h2 hs blk o ki i (by omega) w;rw[hi,Int.toNat_natCast] at this;simp[execOp,hv,we hg hix,hi,this,Result.andThen]
end
section
variable{P:Program}{ctx:Ctx}{Q:PQ}{s:PState}
variable{dst:Option Tmp}{ty:TypeId}{pos:String}{after:Array Edge}{gd:Option (Nat×Bool)}
variable{κ ν:Type}[DecidableEq κ]{eK:κ->List Int}{eV:ν->List DV}{m:List (κ×ν)}{q:κ}(inj:∀ a b,eK a=eK b->a=b)
variable{x kx:Operand}{t kt et:TypeId}{ks:List IntKind}{ag:Bool}{kp:PV}{id:Nat}{nl:Bool}
end
end Go.Ep
namespace Go.Proofs
open Go.Ep Tryz
set_option maxHeartbeats 1000000
set_option maxRecDepth 100000
set_option linter.unusedVariables false
set_option linter.unusedSimpArgs false
theorem ul(x1:Int)(r0:Bool)(h:(xz x1).wp (·=r0)):PFun prog 103 [.d (.v (.int .u64 x1))] (.d (.v (.bool r0))):=by
 refine fI (sl:=[(0,_)]) func103 rfl ntmps103 rfl rfl ?_;intro ctx hK;refine wQ<|wR<|wa ?_;refine wN<|wQ<|wR<|wm ?_;refine wm ?_;refine ws (nQ rfl rfl)<|wa ?_;refine wN<|wX ?_;cases h;exact xT
theorem vq(x1:Int)(y2:Int)(r0:Int)(h:(xF x1 y2).wp (·=r0)):PFun prog 82 [.d (.v (.int .u64 x1)),.d (.v (.int .u64 y2))] (.d (.v (.int .i64 r0))):=by
 refine fI (sl:=[(0,_),(1,_)]) func82 rfl ntmps82 rfl rfl ?_;intro ctx hK;refine wQ<|wR<|wa ?_;refine wN<|wQ<|wR<|wm ?_;obtain⟨v3,hy4,h⟩:=zW h;refine xN (ul x1 v3 hy4) call103<|wa ?_;refine wN<|wQ<|wR<|wm ?_;obtain⟨v5,hy6,h⟩:=zW h;refine xN (ul y2 v5 hy6) call103<|wa ?_;refine wN<|wQ<|wQ<|wR<|wm ?_;refine wN ?_;refine xD h rfl (fun _ h=>?_) (fun _ h=>?_)
 ·refine wQ<|wQ<|wR<|wm ?_;refine wN ?_;refine xD h rfl (fun _ h=>?_) (fun _ h=>?_)
  ·refine wQ<|wR<|wa ?_;refine wN<|wX ?_;cases h;exact xT
  ·refine wK<|wQ<|wR<|wa ?_;refine wN<|wX ?_;cases h;exact xT
 ·refine wK<|wQ<|wQ<|wR<|wm ?_;refine wN ?_;refine xD h rfl (fun _ h=>?_) (fun _ h=>?_)
  ·refine wQ<|wR<|wa ?_;refine wN<|wX ?_;cases h;exact xT
  ·refine wK<|wQ<|wQ<|wR<|wm ?_;refine wm ?_;refine ws (LR.lss rfl rfl)<|wN ?_;refine xD h rfl (fun _ h=>?_) (fun _ h=>?_)
   ·refine wQ<|wR<|wa ?_;refine wN<|wX ?_;cases h;exact xT
   ·refine wK<|wQ<|wQ<|wR<|wm ?_;refine wm ?_;refine ws (LR.gtr rfl rfl)<|wN ?_;refine xD h rfl (fun _ h=>?_) (fun _ h=>?_)
    ·refine wQ<|wR<|wa ?_;refine wN<|wX ?_;cases h;exact xT
    ·refine wK<|wQ<|wR<|wa ?_;refine wN<|wX ?_;cases h;exact xT
theorem um(x1:Int)(r0:Bool)(h:(wG x1).wp (·=r0)):PFun prog 106 [.d (.v (.int .u16 x1))] (.d (.v (.bool r0))):=by
 refine fI (sl:=[(0,_)]) func106 rfl ntmps106 rfl rfl ?_;intro ctx hK;refine wQ<|wR<|wa ?_;refine wN<|wQ<|wR<|wm ?_;refine wm ?_;refine ws (nQ rfl rfl)<|wa ?_;refine wN<|wX ?_;cases h;exact xT
theorem Yo(x1:Int)(y2:Int)(r0:Int)(h:(xd x1 y2).wp (·=r0)):PFun prog 87 [.d (.v (.int .u16 x1)),.d (.v (.int .u16 y2))] (.d (.v (.int .i64 r0))):=by
 refine fI (sl:=[(0,_),(1,_)]) func87 rfl ntmps87 rfl rfl ?_;intro ctx hK;refine wQ<|wR<|wa ?_;refine wN<|wQ<|wR<|wm ?_;obtain⟨v3,hy4,h⟩:=zW h;refine xN (um x1 v3 hy4) call106<|wa ?_;refine wN<|wQ<|wR<|wm ?_;obtain⟨v5,hy6,h⟩:=zW h;refine xN (um y2 v5 hy6) call106<|wa ?_;refine wN<|wQ<|wQ<|wR<|wm ?_;refine wN ?_;refine xD h rfl (fun _ h=>?_) (fun _ h=>?_)
 ·refine wQ<|wQ<|wR<|wm ?_;refine wN ?_;refine xD h rfl (fun _ h=>?_) (fun _ h=>?_)
  ·refine wQ<|wR<|wa ?_;refine wN<|wX ?_;cases h;exact xT
  ·refine wK<|wQ<|wR<|wa ?_;refine wN<|wX ?_;cases h;exact xT
 ·refine wK<|wQ<|wQ<|wR<|wm ?_;refine wN ?_;refine xD h rfl (fun _ h=>?_) (fun _ h=>?_)
  ·refine wQ<|wR<|wa ?_;refine wN<|wX ?_;cases h;exact xT
  ·refine wK<|wQ<|wQ<|wR<|wm ?_;refine wm ?_;refine ws (LR.lss rfl rfl)<|wN ?_;refine xD h rfl (fun _ h=>?_) (fun _ h=>?_)
   ·refine wQ<|wR<|wa ?_;refine wN<|wX ?_;cases h;exact xT
   ·refine wK<|wQ<|wQ<|wR<|wm ?_;refine wm ?_;refine ws (LR.gtr rfl rfl)<|wN ?_;refine xD h rfl (fun _ h=>?_) (fun _ h=>?_)
    ·refine wQ<|wR<|wa ?_;refine wN<|wX ?_;cases h;exact xT
    ·refine wK<|wQ<|wR<|wa ?_;refine wN<|wX ?_;cases h;exact xT
theorem jq(a1:DT)(b2:DT)(r0:Int)(h:(Xt a1 b2).wp (·=r0)):PFun prog 57 [.agg (List.map .d (DT.e a1)),.agg (List.map .d (DT.e b2))] (.d (.v (.int .i64 r0))):=by
 refine fI (sl:=[(0,_),(1,_)]) func57 rfl ntmps57 rfl rfl ?_;intro ctx hK;refine wQ<|wR<|ws (LR.box rfl rfl rfl rfl)<|ws (LR.box rfl rfl rfl rfl)<|wa ?_;refine wN<|wQ<|wQ<|wR<|ws (fR underlying34 rfl sizeOf32 (by decide) rfl rfl)<|ws (lD isAgg32 rfl rfl rfl)<|ws (fR underlying34 rfl sizeOf32 (by decide) rfl rfl)<|ws (lD isAgg32 rfl rfl rfl) ?_;obtain⟨v3,hy4,h⟩:=zW h;refine xN (Yo a1.dev b2.dev v3 hy4) call87<|wa ?_;refine wN<|wQ<|wR<|wm ?_;refine ws (nQ rfl rfl)<|wN ?_;refine xD h rfl (fun _ h=>?_) (fun _ h=>?_)
 ·refine wQ<|wR<|wm ?_;refine wa ?_;refine wN<|wX ?_;cases h;exact xT
 ·refine wK<|wQ<|wR<|ws (fR underlying34 rfl sizeOf26 (by decide) rfl rfl)<|ws (lD isAgg26 rfl rfl rfl)<|ws (fR underlying34 rfl sizeOf26 (by decide) rfl rfl)<|ws (lD isAgg26 rfl rfl rfl) ?_;obtain⟨v6,hy7,h⟩:=zW h;refine xN (vq a1.n b2.n v6 hy7) call82<|wa ?_;refine wN<|wX ?_;cases h;exact xT
theorem wi(l1:List RN)(r0:List RN)(h:(xf l1).wp (·=r0)):PRow prog 79 [.d (.sl (List.map RN.e l1))] 120 2 (List.map RN.e r0):=by
 refine PRow.intro (sl:=[(0,_)]) func79 rfl ntmps79 rfl rfl ?_;intro ctx hK;refine wQ<|wR<|ws (aR 120 2 rfl)<|wN<|wQ<|wR<|ws (aR 120 2 rfl)<|wN<|wQ ?_;refine wQ<|wR<|wm ?_;refine ws (lM (enc:=RN.e) (L:=l1) underlying88 rfl)<|wm ?_;refine wN ?_;refine wJ (zf h) (fun(some2:List RN) (_:Unit)=>⟨78,[(3,.row 3 (some2.length))],[(3,.row 120 2 (List.map RN.e some2))]⟩) (fun h=>?_) ?_
 ·refine wB<|wM (fun(⟨v23,some24⟩:Int×List RN) (_:Unit)=>⟨78,[(3,.row 3 (some24.length)),(10,.d (.sl (List.map RN.e l1))),(11,.d (.v (.int .i64 (l1.length:Int)))),(12,.d (.v (.int .i64 v23)))],[(3,.row 120 2 (List.map RN.e some24))]⟩) () h (sP) ?_;rintro N ⟨v23,some24⟩ _ h;refine wQ<|wR<|ws (LR.lss rfl rfl)<|wN<|wQ ?_;refine xD h rfl (fun _ h=>?_) (fun _ h=>?_)
  ·refine wK<|wQ ?_;refine wJ (zf h) (fun(some26:List RN) (_:Unit)=>⟨78,[(3,.row 3 (some26.length)),(10,.d (.sl (List.map RN.e l1))),(11,.d (.v (.int .i64 (l1.length:Int)))),(12,.d (.v (.int .i64 v23)))],[(3,.row 120 2 (List.map RN.e some26))]⟩) (fun h=>?_) ?_
   ·refine wB<|wQ<|wR ?_;obtain⟨x27,hy28,h⟩:=xW h;refine ws (iX (enc:=RN.e) (L:=l1) (y:=x27) underlying88 sizeOf120 rfl rfl hy28 (fun _=>rfl))<|ws (lE (ys:=[_,_]) isAgg120 sizeOf120 rfl rfl rfl)<|ws (LR.allocZ (cs:=[_,_]) zeroValue120 rfl rfl rfl rfl)<|ws (sB (ns:=[_,_]) sizeOf120 rfl rfl rfl rfl rfl rfl rfl)<|wN<|wQ ?_;refine wJ (zf h) (fun(v29:Bool) (_:Unit)=>⟨78,[(3,.row 3 (some24.length)),(5,.ref 5 0),(10,.d (.sl (List.map RN.e l1))),(11,.d (.v (.int .i64 (l1.length:Int)))),(12,.d (.v (.int .i64 v23))),(30,.d (.v (.bool v29)))],[(3,.row 120 2 (List.map RN.e some24)),(5,.cells 120 [.d (.v (.int .u64 x27.lo)),.d (.v (.int .u64 x27.hi))])]⟩) (fun h=>?_) ?_
    ·refine wR<|ws (fR underlying120 rfl sizeOf26 (by decide) rfl rfl)<|ws (lD isAgg26 rfl rfl rfl)<|ws (LR.gtr rfl rfl)<|wm ?_;refine xG (d:=19) h rfl (fun _ h=>?_) (fun _ h=>?_)
     ·refine wt (fR underlying120 rfl sizeOf26 (by decide) rfl rfl)<|wt (lD isAgg26 rfl rfl rfl)<|wt (fR underlying120 rfl sizeOf26 (by decide) rfl rfl)<|wt (lD isAgg26 rfl rfl rfl)<|wt (LR.leq rfl rfl)<|ws (pT rfl rfl)<|wm ?_;refine xG (d:=26) h rfl (fun _ h=>?_) (fun _ h=>?_)
      ·refine wy (tl:=[(3,_),(5,_),(10,_),(11,_),(12,_),(20,_),(21,_),(22,_),(23,_),(24,_),(26,_)]) (to:=[(3,_),(5,_)]) ?_;refine wt (fR underlying120 rfl sizeOf26 (by decide) rfl rfl)<|wt (lD isAgg26 rfl rfl rfl)<|wt (LR.leq rfl rfl)<|ws (pT rfl rfl)<|wN ?_;exact⟨(decide (x27.hi<=281474976710655)),(),h,sP⟩
      ·refine wy (tl:=[(3,_),(5,_),(10,_),(11,_),(12,_),(20,_),(21,_),(22,_),(23,_),(24,_),(26,_)]) (to:=[(3,_),(5,_)]) ?_;refine wf<|wf<|wf<|ws (pF rfl rfl)<|wN ?_;exact⟨false,(),h,sP⟩
     ·refine wf<|wf<|wf<|wf<|wf<|ws (pF rfl rfl)<|wm ?_;refine wf<|wy (tl:=[(3,_),(5,_),(10,_),(11,_),(12,_),(20,_),(21,_),(22,_),(23,_),(24,_),(26,_),(27,_)]) (to:=[(3,_),(5,_)]) ?_;refine wf<|wf<|ws (pF rfl rfl)<|wN ?_;exact⟨false,(),h,sP⟩
    ·rintro v29 _ h;refine xD h rfl (fun _ h=>?_) (fun _ h=>?_)
     ·refine wR<|wm ?_;refine ws (lA (ps:=[_,_]) isAgg120 sizeOf120 rfl rfl rfl rfl)<|ws (LR.buildSliceD [.tmp 32] uI rfl rfl (.cons rfl rfl rfl<|.nil) (by decide) (by decide)) ?_;obtain⟨hy33,h⟩:=yN h;refine ws (LR.appT (enc:=RN.e) (L:=some24) (R:=[x27]) [3,31] uI underlying88 rfl rfl rfl (Src.slT (enc:=RN.e) (R:=[x27]) rfl (fun _=>rfl)) (fun _=>rfl) hy33 rfl rfl)<|wa ?_;refine wN ?_;exact⟨(some24++[x27]),(),h,sP⟩
     ·refine wK ?_;exact⟨some24,(),h,sP⟩
   ·rintro some26 _ h;refine wR<|ws (LR.addW rfl rfl)<|wm ?_;refine wN ?_;exact⟨((IntKind.i64.wrap (v23+1)),some26),(),h,sP⟩
  ·refine wZ ?_;exact⟨some24,(),h,sP⟩
 ·rintro some2 _ h;refine wQ<|wR<|wm ?_;obtain⟨hy35,h⟩:=yN h;refine PWl.sortFn (encD:=RN.e) (enc:=RN.v) (l:=some2) yka (fun _=>rfl) RN.v1 (fun _=>rfl) rfl call101 rfl rfl rfl (by simp) hy35 rfl (fun s34 hy36 hy37=>?_);replace h:=iSrt h s34 hy36 hy37;have hy36l:=hy36.length_eq;refine wN<|wQ<|wR<|ws (aR 120 2 rfl)<|wN<|wQ<|wQ<|wR<|wm ?_;refine ws (LR.lenRow underlying88 rfl)<|wm ?_;refine wN ?_;refine wJ (zf h) (fun(out38:List RN) (_:Unit)=>⟨78,[(6,.row 6 (out38.length))],[(6,.row 120 2 (List.map RN.e out38))]⟩) (fun h=>?_) ?_
  ·refine wB ?_;refine wM (fun(⟨v69,out70⟩:Int×List RN) (_:Unit)=>⟨78,[(6,.row 6 (out70.length)),(38,.row 3 (some2.length)),(39,.d (.v (.int .i64 (some2.length:Int)))),(40,.d (.v (.int .i64 v69)))],[(3,.row 120 2 (List.map RN.e s34)),(6,.row 120 2 (List.map RN.e out70))]⟩) () h (sO rfl (.cons rfl rfl<|.cons rfl (by first | rfl | (simp;done) | (congr 1;first | (simp;done) | (simp;omega) | omega))<|.c2 rfl rfl rfl rfl<|.nil) (.c2 rfl rfl rfl rfl<|.nil)) ?_;rintro N ⟨v69,out70⟩ _ h;refine wQ<|wR<|ws (LR.lss rfl rfl)<|wN<|wQ ?_;refine xD h rfl (fun _ h=>?_) (fun _ h=>?_)
   ·refine wK<|wQ ?_;refine wJ (zf h) (fun(out72:List RN) (_:Unit)=>⟨78,[(6,.row 6 (out72.length)),(38,.row 3 (some2.length)),(39,.d (.v (.int .i64 (some2.length:Int)))),(40,.d (.v (.int .i64 v69)))],[(3,.row 120 2 (List.map RN.e s34)),(6,.row 120 2 (List.map RN.e out72))]⟩) (fun h=>?_) ?_
    ·refine wB<|wQ<|wR ?_;obtain⟨x73,hy74,h⟩:=xW h;refine ws (LR.idxRowT (L:=s34) (y:=x73) underlying88 sizeOf120 rfl (by first | (simp;done) | (simp;omega) | omega) rfl hy74) ?_;refine ws (LR.loadRpT (enc:=RN.e) (L:=s34) (y:=x73) isAgg120 sizeOf120 rfl rfl hy74.2)<|ws (LR.allocZ (cs:=[_,_]) zeroValue120 rfl rfl rfl rfl)<|ws (sB (ns:=[_,_]) sizeOf120 rfl rfl rfl rfl rfl rfl rfl)<|wN<|wQ<|wQ<|wR<|wm ?_;refine ws (LR.lenRow underlying88 rfl)<|ws (LR.subW rfl rfl)<|wa ?_;refine wN<|wQ ?_;refine wJ (zf h) (fun(v75:Bool) (_:Unit)=>⟨78,[(6,.row 6 (out70.length)),(8,.ref 8 0),(9,.d (.v (.int .i64 ((IntKind.i64.wrap ((out70.length:Int) - 1)))))),(38,.row 3 (some2.length)),(39,.d (.v (.int .i64 (some2.length:Int)))),(40,.d (.v (.int .i64 v69))),(59,.d (.v (.bool v75)))],[(3,.row 120 2 (List.map RN.e s34)),(6,.row 120 2 (List.map RN.e out70)),(8,.cells 120 [.d (.v (.int .u64 x73.lo)),.d (.v (.int .u64 x73.hi))])]⟩) (fun h=>?_) ?_
     ·refine wD (by kernel_rfl) (by kernel_rfl)<|qm ?_;refine qs (fun _ U W=>LR.geq U U)<|qm ?_;refine xQ (d:=49) h rfl (fun _ h=>?_) (fun _ h=>?_)
      ·refine qt (fun _ U W=>fR underlying120 rfl sizeOf26 (by decide) rfl U) ?_;refine qt (fun _ U W=>lD isAgg26 U (W rfl) rfl) ?_;refine qt (fun _ U W=>mV U) ?_;refine qt (fun _ U W=>mV U) ?_;obtain⟨x77,hy78,h⟩:=xW h;refine qt (fun _ U W=>LR.idxRowT (L:=out70) (y:=x77) underlying88 sizeOf120 U rfl U hy78) ?_;refine qt (fun _ U W=>LR.fieldRp underlying120 rfl sizeOf26 (by decide) rfl U) ?_;refine qt (fun _ U W=>LR.loadRpF (enc:=RN.e) (L:=out70) (y:=x77) isAgg26 U (W rfl) hy78.2 rfl) ?_;refine qt (fun _ U W=>LR.addW U U) ?_;refine qt (fun _ U W=>LR.leq U U) ?_;refine qs (fun _ U W=>pT U U)<|qN ?_;exact⟨(decide (x73.lo<=(IntKind.u64.wrap (x77.hi+1)))),(),h,sO rfl (.c2 rfl rfl rfl rfl<|.cons rfl rfl<|.cons rfl (by first | rfl | (simp;done) | (congr 1;first | (simp;done) | (simp;omega) | omega))<|.c2 rfl rfl rfl rfl<|.cons rfl rfl<|.nil) (.c2 rfl rfl rfl rfl<|.cons rfl rfl<|.nil)⟩
      ·refine kF<|kF<|kF<|kF<|kF<|kF<|kF<|kF<|kF ?_;refine qs (fun _ U W=>pF U U)<|qN ?_;exact⟨false,(),h,sO rfl (.c2 rfl rfl rfl rfl<|.cons rfl rfl<|.cons rfl (by first | rfl | (simp;done) | (congr 1;first | (simp;done) | (simp;omega) | omega))<|.c2 rfl rfl rfl rfl<|.cons rfl rfl<|.nil) (.c2 rfl rfl rfl rfl<|.cons rfl rfl<|.nil)⟩
     ·rintro v75 _ h;refine xD h rfl (fun _ h=>?_) (fun _ h=>?_)
      ·refine wQ<|wz (tl:=[(6,_),(8,_),(9,_),(38,_),(39,_),(40,_)]) (to:=[(3,_),(6,_),(8,_)]) ?_;refine PWc.regionE [⟨[60],[],[],[],[],[6],[],[]⟩,{ws:=[61]},⟨[62],[],[],[],[],[6],[],[]⟩,{ws:=[63]},⟨[64],[],[],[],[],[6],[],[]⟩,⟨[65],[],[],[],[],[6],[],[]⟩,⟨[66],[],[6],[],[],[],[],[]⟩,⟨[67],[],[],[],[],[8],[],[]⟩,⟨[68],[],[8],[],[],[],[],[]⟩,{ws:=[69]},⟨[70],[],[],[],[],[6],[],[]⟩,⟨[71],[],[],[],[],[6],[],[]⟩,⟨[],[6],[6],[],[],[],[],[]⟩] (by kernel_rfl) (by kernel_rfl) rfl<|km ?_;refine km ?_;refine km ?_;refine km ?_;obtain⟨x80,hy81,h⟩:=xW h;refine kp (fun _ U W=>LR.idxRowT (L:=out70) (y:=x80) underlying88 sizeOf120 U rfl U hy81) ?_;refine kp (fun _ U W=>LR.fieldRp underlying120 rfl sizeOf26 (by decide) rfl U) ?_;refine kp (fun _ U W=>LR.loadRpF (enc:=RN.e) (L:=out70) (y:=x80) isAgg26 U (W rfl rfl) hy81.2 rfl) ?_;refine kp (fun _ U W=>fR underlying120 rfl sizeOf26 (by decide) rfl U) ?_;refine kp (fun _ U W=>lD isAgg26 U (W rfl rfl) rfl) ?_;refine kp (fun _ U W=>LR.maxI U U) ?_;obtain⟨x82,hy83,h⟩:=xW h;refine kp (fun _ U W=>LR.idxRowT (L:=out70) (y:=x82) underlying88 sizeOf120 U rfl U hy83) ?_;refine kp (fun _ U W=>LR.fieldRp underlying120 rfl sizeOf26 (by decide) rfl U) ?_;refine ks (fun _ U W=>LR.storeRpT (enc:=RN.e) (L:=out70) (a:=x82) (b:=(⟨x82.lo,(max x80.hi x73.hi)⟩:RN)) sizeOf26 U U rfl rfl (W rfl rfl) hy83.2 rfl rfl)<|PQe.nil<|wZ ?_;exact⟨(List.set out70 ((Int.toNat ((IntKind.i64.wrap ((out70.length:Int) - 1))))) (⟨x82.lo,(max x80.hi x73.hi)⟩:RN)),(),h,sO rfl (.cons rfl (by first | rfl | (simp;done) | (congr 1;first | (simp;done) | (simp;omega) | omega))<|.cons rfl (by first | rfl | (simp;done) | (congr 1;first | (simp;done) | (simp;omega) | omega))<|.c2 rfl rfl rfl rfl<|.nil) (.c2 rfl rfl rfl rfl<|.nil)⟩
      ·refine wK<|wR<|wm ?_;refine ws (lA (ps:=[_,_]) isAgg120 sizeOf120 rfl rfl rfl rfl)<|ws (LR.buildSliceD [.tmp 73] uI rfl rfl (.cons rfl rfl rfl<|.nil) (by decide) (by decide)) ?_;obtain⟨hy84,h⟩:=yN h;refine ws (LR.appT (enc:=RN.e) (L:=out70) (R:=[x73]) [6,72] uI underlying88 rfl rfl rfl (Src.slT (enc:=RN.e) (R:=[x73]) rfl (fun _=>rfl)) (fun _=>rfl) hy84 rfl rfl)<|wa ?_;refine wN ?_;exact⟨(out70++[x73]),(),h,sO rfl (.cons rfl rfl<|.cons rfl (by first | rfl | (simp;done) | (congr 1;first | (simp;done) | (simp;omega) | omega))<|.c2 rfl rfl rfl rfl<|.nil) (.c2 rfl rfl rfl rfl<|.nil)⟩
    ·rintro out72 _ h;refine wR<|ws (LR.addW rfl rfl)<|wm ?_;refine wN ?_;exact⟨((IntKind.i64.wrap (v69+1)),out72),(),h,sO rfl (.cons rfl rfl<|.cons rfl (by first | rfl | (simp;done) | (congr 1;first | (simp;done) | (simp;omega) | omega))<|.c2 rfl rfl rfl rfl<|.nil) (.c2 rfl rfl rfl rfl<|.nil)⟩
   ·refine wZ ?_;exact⟨out70,(),h,sP⟩
  ·rintro out38 _ h;refine wQ<|wR<|wm ?_;refine wa ?_;refine wN<|wX ?_;cases h;exact⟨.inr rfl,2,rfl,.inr ⟨6,_,rfl,(by simp),rfl⟩⟩
theorem Xo(x1:RN)(n2:Int)(r0:Int)(h:(ui x1 n2).wp (·=r0)):PFun prog 81 [.agg (List.map .d (RN.e x1)),.d (.v (.int .u64 n2))] (.d (.v (.int .i64 r0))):=by
 refine fI (sl:=[(0,_),(1,_)]) func81 rfl ntmps81 rfl rfl ?_;intro ctx hK;refine wQ<|wR<|ws (LR.box rfl rfl rfl rfl)<|wa ?_;refine wN<|wQ<|wR<|ws (fR underlying120 rfl sizeOf26 (by decide) rfl rfl)<|ws (lD isAgg26 rfl rfl rfl)<|wm ?_;obtain⟨v3,hy4,h⟩:=zW h;refine xN (vq x1.hi n2 v3 hy4) call82<|wa ?_;refine wN<|wX ?_;cases h;exact xT
theorem yb(x1:List RN)(target2:Int)(r0:Int×Bool)(h:(zP x1 target2).wp (·=r0)):PFun prog 80 [.d (.sl (List.map RN.e x1)),.d (.v (.int .u64 target2)),.d (.v (.func (.func 81) #[] #[]))] (.tup [.d (.v (.int .i64 r0.1)),.d (.v (.bool r0.2))]):=by
 refine fI (sl:=[(0,_),(1,_),(2,_)]) func80 rfl ntmps80 rfl rfl ?_;intro ctx hK;refine wQ<|wR<|wa ?_;refine wa ?_;refine wN<|wQ<|wR<|wm ?_;refine ws (lM (enc:=RN.e) (L:=x1) underlying88 rfl)<|wa ?_;refine wN<|wQ<|wR<|wm ?_;refine wa ?_;refine wa ?_;refine wN<|wQ ?_;refine wJ (zf h) (fun(i3:Int) (_:Unit)=>⟨49,[(0,.d (.sl (List.map RN.e x1))),(1,.d (.v (.int .u64 target2))),(2,.d (.v (.func (.func 81) #[] #[]))),(8,.d (.v (.int .i64 (x1.length:Int)))),(9,.d (.v (.int .i64 i3)))],[]⟩) (fun h=>?_) ?_
 ·refine wB<|wM (fun(⟨i18,j19⟩:Int×Int) (_:Unit)=>⟨49,[(0,.d (.sl (List.map RN.e x1))),(1,.d (.v (.int .u64 target2))),(2,.d (.v (.func (.func 81) #[] #[]))),(8,.d (.v (.int .i64 (x1.length:Int)))),(9,.d (.v (.int .i64 i18))),(10,.d (.v (.int .i64 j19)))],[]⟩) () h (sP) ?_;rintro N ⟨i18,j19⟩ _ h;refine wQ<|wQ<|wR<|wm ?_;refine wm ?_;refine ws (LR.lss rfl rfl)<|wN ?_;refine xD h rfl (fun _ h=>?_) (fun _ h=>?_)
  ·refine wK<|wB<|wQ<|wR<|wm ?_;refine wm ?_;refine ws (LR.addW rfl rfl) ?_;refine ws (LR.convInt underlying134 (by rw[underlying3];rfl) rfl rfl) ?_;refine ws (LR.shr rfl rfl (by decide) rfl) ?_;refine ws (LR.convInt underlying3 (by rw[underlying134];rfl) rfl rfl) ?_;refine wa ?_;refine wN<|wQ<|wR<|wm ?_;refine wm ?_;refine wm ?_;obtain⟨x21,hy22,h⟩:=xW h;refine ws (iX (enc:=RN.e) (L:=x1) (y:=x21) underlying88 sizeOf120 rfl rfl hy22 (fun _=>rfl))<|ws (lE (ys:=[_,_]) isAgg120 sizeOf120 rfl rfl rfl)<|wy (tl:=[(0,_),(1,_),(2,_),(8,_),(9,_),(10,_),(11,_),(24,_),(28,_)]) (to:=[]) ?_;refine wm ?_;obtain⟨v23,hy24,h⟩:=zW h;refine xN (Xo x21 target2 v23 hy24) call81<|ws (LR.lss rfl rfl)<|wN ?_;refine xD h rfl (fun _ h=>?_) (fun _ h=>?_)
   ·refine wR<|wm ?_;refine ws (LR.addW rfl rfl)<|wa ?_;refine wN ?_;exact⟨((IntKind.i64.wrap (((IntKind.i64.wrap ((Int.fdiv ((IntKind.u64.wrap (IntKind.i64.wrap (i18+j19)))) (2 ^ 1)))))+1)),j19),(),h,sP⟩
   ·refine wR<|wm ?_;refine wa ?_;refine wN ?_;exact⟨(i18,(IntKind.i64.wrap ((Int.fdiv ((IntKind.u64.wrap (IntKind.i64.wrap (i18+j19)))) (2 ^ 1))))),(),h,sP⟩
  ·refine wZ ?_;exact⟨i18,(),h,sP⟩
 ·rintro i3 _ h;refine wQ ?_;refine wJ (zf h) (fun(v26:Bool) (_:Unit)=>⟨49,[(6,.d (.v (.int .i64 i3))),(7,.d (.v (.bool v26)))],[]⟩) (fun h=>?_) ?_
  ·refine wR<|wm ?_;refine wm ?_;refine wm ?_;refine ws (LR.lss rfl rfl)<|wm ?_;refine xG (d:=39) h rfl (fun _ h=>?_) (fun _ h=>?_)
   ·refine wt (mV rfl)<|wt (mV rfl)<|wt (mV rfl) ?_;obtain⟨x28,hy29,h⟩:=xW h;refine wt (iX (enc:=RN.e) (L:=x1) (y:=x28) underlying88 sizeOf120 rfl rfl hy29 (fun _=>rfl))<|wt (lE (ys:=[_,_]) isAgg120 sizeOf120 rfl rfl rfl)<|wt (mV rfl) ?_;obtain⟨v30,hy31,h⟩:=zW h;refine wt (cN (Xo x28 target2 v30 hy31) rfl call81 rfl rfl rfl rfl)<|wt (eQ rfl rfl)<|ws (pT rfl rfl)<|wa ?_;refine wy (tl:=[(6,_),(48,_)]) (to:=[]) ?_;refine wa ?_;refine wN ?_;exact⟨(decide (v30=0)),(),h,sP⟩
   ·refine wf<|wf<|wf<|wf<|wf<|wf<|wf<|wf<|ws (pF rfl rfl) ?_;refine wa ?_;refine wy (tl:=[(6,_),(48,_)]) (to:=[]) ?_;refine wa ?_;refine wN ?_;exact⟨false,(),h,sP⟩
  ·rintro v26 _ h;refine wX ?_;cases h;exact⟨.inr rfl,_,.cons (.tmp rfl rfl)<|.cons (.tmp rfl rfl)<|.nil,rfl⟩
theorem zJa(l1:List RN)(n2:Int)(r0:Bool)(h:(Vk l1 n2).wp (·=r0)):PFun prog 47 [.d (.sl (List.map RN.e l1)),.d (.v (.int .u64 n2))] (.d (.v (.bool r0))):=by
 refine fI (sl:=[(0,_),(1,_)]) func47 rfl ntmps47 rfl rfl ?_;intro ctx hK;refine wQ<|wR<|wa ?_;refine wN<|wQ<|wR<|wm ?_;obtain⟨v3,hy4,h⟩:=zW h;refine ws (LR.rowN (wi l1 v3 hy4) rfl call79 rfl rfl rfl rfl)<|wa ?_;refine wN<|wQ<|wR<|wm ?_;refine wm ?_;obtain⟨v5,hy6,h⟩:=zW h;refine PWl.frz [0,8,10] hK (.cons rfl<|.cons rfl<|.cons rfl<|.nil) rfl (by simp) ?_;refine xN (yb v3 n2 v5 hy6) call80<|wm ?_;refine ws (LR.extract rfl rfl)<|ws (LR.extract rfl rfl)<|wa ?_;refine wa ?_;refine wN<|wQ ?_;refine wJ (zf h) (fun(v7:Bool) (_:Unit)=>⟨28,[(4,.d (.v (.bool v7)))],[]⟩) (fun h=>?_) ?_
 ·refine wR<|wm ?_;refine wm ?_;refine ws (lM (enc:=RN.e) (L:=v3) underlying88 rfl)<|ws (LR.lss rfl rfl)<|wm ?_;refine xG (d:=19) h rfl (fun _ h=>?_) (fun _ h=>?_)
  ·refine wt (mV rfl)<|wy (tl:=[(1,_),(4,_),(5,_),(19,_),(20,_)]) (to:=[]) ?_;refine wt (mV rfl) ?_;obtain⟨x9,hy10,h⟩:=xW h;refine wt (iX (enc:=RN.e) (L:=v3) (y:=x9) underlying88 sizeOf120 rfl rfl hy10 (fun _=>rfl))<|wt (fE underlying120 rfl sizeOf26 (by decide) rfl rfl)<|wt (LR.loadEp isAgg26 rfl rfl)<|wt (mV rfl)<|wt (LR.leq rfl rfl)<|ws (pT rfl rfl)<|wa ?_;refine wN ?_;exact⟨(decide (x9.lo<=n2)),(),h,sP⟩
  ·refine wf<|wy (tl:=[(1,_),(4,_),(5,_),(19,_),(20,_)]) (to:=[]) ?_;refine wf<|wf<|wf<|wf<|wf<|wf<|ws (pF rfl rfl)<|wa ?_;refine wN ?_;exact⟨false,(),h,sP⟩
 ·rintro v7 _ h;refine wX ?_;cases h;exact xT
theorem vW(c1:List PT)(r0:List (Int×List RN))(h:(uM c1).wp (·=r0)):PMap prog 65 [.d (.sl (List.map PT.e c1))] [.u16] false (zC kI (eL RN.e) r0):=by
 refine PMap.intro (sl:=[(0,_)]) func65 rfl ntmps65 rfl rfl ?_;intro ctx hK;refine wQ<|wR<|wa ?_;refine wN<|wQ<|wR<|ws (LR.makeMap [.u16] false rfl)<|wa ?_;refine wN<|wQ<|wQ<|wR<|wm ?_;refine ws (lM (enc:=PT.e) (L:=c1) underlying46 rfl)<|wm ?_;refine wN<|wB ?_;obtain⟨hy10,h⟩:=yN h;have hN:=hy10.1;refine PWc.loopRows (bid:=0) (N:=c1.length) (mid:=6) (n:=28) (ks:=[.u16]) (e:=120) (k:=2) (fun i=>[(3,.mp 6),(7,.d (.sl (List.map PT.e c1))),(8,.d (.v (.int .i64 (c1.length:Int)))),(9,.d (.v (.int .i64 (i:Int))))]) (fun i=>vT kI RN.e (AL.grow [] ((List.take i c1).filterMap zm))) [(3,.mp 6)] [] 0 hK (by decide) (fun i x hx id h=>by simp only[List.mem_cons,List.not_mem_nil,or_false] at hx;rcases hx with rfl | rfl | rfl | rfl <;> first | (simp[PV.has] at h;done) | (simp[PV.has] at h;exact h.symm) | (simp[PV.has] at h;omega)) rfl (fun i=>VV (fun x d hd=>by simp only[RN.e,List.mem_cons,List.not_mem_nil,or_false] at hd;rcases hd with rfl | rfl <;> exact⟨_,rfl⟩) _) (sP) (fun i hi=>?_) (zC kI (eL RN.e) (AL.grow ([]:List (Int×List RN)) (List.filterMap zm c1))) (by simp only[List.take_length];exact z0a _) (fun ctx vm bs ck=>?_) (fun bs ck=>?_)
 ·obtain⟨p,hp⟩:∃ p,c1[i]?=some p:=⟨_,List.getElem?_eq_getElem hi⟩
  have hidx:(0:Int)<=(i:Int)/\c1[(i:Int).toNat]?=some p:=⟨by omega,by simpa using hp⟩
  have htk:=AL.grow_take hp zm;have hwi:=xqa (i:=i) (by omega)
  by_cases hd:0 < p.dev
  ·have hf:zm p=some (p.dev,p.runs):=by simp[zm,hd]
   have hbd:=AL.grow_bound hy10 hp hf;rw[hf] at htk;rcases Wz (eK:=kI) (enc:=RN.e) UN (p.dev) (AL.grow [] ((List.take i c1).filterMap zm)) with⟨j,l,h1,h2,h3,h4⟩ | ⟨h1,h2,h3⟩
   ·simp only[h3] at hbd;refine .found (nl:=l.length) (nl':=(List.length (l++p.runs))) (l:=(List.map RN.e l)) (l':=(List.map RN.e (l++p.runs))) (by simp) (by simp) h2 (by rw[htk];simp only[AL.grow,Option.toList,List.foldl] at h3 h4 ⊢;rw[h3];exact h4 _) fun ctx vm bs ck hvm=>?_
    have hpf:yy (kI (p.dev)) (uk vm) 0=some j:=by rw[WY hvm];exact h1
    have h:(M.bind (M.idx c1 (i:Int)) fun x2=>M.yc ((l.length+x2.runs.length)*16<=140737488355328)<|M.pure ()).wp (fun _=>True):=⟨p,hidx,hbd,trivial⟩
    refine wQ<|wR<|ws (LR.lss rfl rfl)<|wN<|wQ<|PWc.condT (congrArg (fun b=>some (PV.d (.v (.bool b)))) (decide_eq_true (Int.ofNat_lt.2 hi)))<|wK<|wQ<|wB ?_;refine wQ<|wR ?_;obtain⟨x2,hy3,h⟩:=xW h;have hE:=idxU hy3 hidx;subst hE;refine ws (iX (enc:=PT.e) (L:=c1) (y:=x2) underlying46 sizeOf108 rfl rfl hy3 (fun _=>rfl))<|ws (lE (ys:=[_,_]) isAgg108 sizeOf108 rfl rfl rfl)<|ws (LR.allocZ (cs:=[_,_]) zeroValue108 rfl rfl rfl rfl)<|ws (sB (ns:=[_,_]) sizeOf108 rfl rfl rfl rfl rfl rfl rfl)<|wN<|wQ<|wR<|ws (fR underlying108 rfl sizeOf32 (by decide) rfl rfl)<|ws (lD isAgg32 rfl rfl rfl) ?_;refine ws (LR.gtr rfl rfl)<|wN<|PWc.condT (congrArg (fun b=>some (PV.d (.v (.bool b)))) (decide_eq_true hd))<|wz (tl:=[(3,_),(5,_),(7,_),(8,_),(9,_)]) (to:=[(5,_),(6,_),(50,_)]) ?_;refine PWc.regionE [⟨[16],[],[],[],[],[6],[],[]⟩,⟨[17],[],[],[],[],[5],[],[]⟩,⟨[18],[],[5],[],[],[],[],[]⟩,⟨[19],[],[],[],[],[6],[],[]⟩,⟨[20],[],[],[],[],[5],[],[]⟩,⟨[21],[],[5],[],[],[],[],[]⟩,⟨[22],[],[6],[],[],[50],[],[]⟩,⟨[23],[],[],[],[],[5],[],[]⟩,⟨[24],[],[5],[],[],[],[],[]⟩,⟨[22,25],[6,50],[6,50],[],[(50,[22])],[50],[],[6]⟩,⟨[],[6],[6,50],[],[],[],[50],[]⟩] (by kernel_rfl) (by kernel_rfl) rfl<|km ?_;refine kp (fun _ U W=>fR underlying108 rfl sizeOf32 (by decide) rfl U) ?_;refine kp (fun _ U W=>lD isAgg32 U (W rfl rfl) rfl)<|km ?_;refine kp (fun _ U W=>fR underlying108 rfl sizeOf32 (by decide) rfl U) ?_;refine kp (fun _ U W=>lD isAgg32 U (W rfl rfl) rfl) ?_;refine kp (fun _ U W=>LR.lookupP underlying102 Zc U (W rfl rfl) U rfl hpf rfl) ?_;refine kp (fun _ U W=>fR underlying108 rfl sizeOf88 (by decide) rfl U) ?_;refine kp (fun _ U W=>lD isAgg88 U (W rfl rfl) rfl) ?_;obtain⟨hy4,h⟩:=yN h;refine PQe.stepX [22] (fun _ U W ha=>LR.appP (enc:=RN.e) (L:=l) (R:=x2.runs) [22] uI underlying88 (U rfl rfl) rfl (W rfl rfl) (W rfl rfl) rfl (fun _ h1 h2=>Src.slT (enc:=RN.e) (R:=x2.runs) (xpa h1 h2 (U rfl rfl)) (fun _=>rfl)) (fun _=>rfl) hy4 rfl ha) rfl rfl (.inl rfl) rfl ?_;refine ks (fun _ U W=>LR.mapUpdateP underlying102 Zc U (W rfl rfl) U rfl rfl U hpf)<|PQe.nil<|wR<|ws (LR.addW rfl rfl)<|wm ?_;refine wN ?_;exact⟨rfl,sO rfl (.c2 rfl rfl rfl rfl<|.cons rfl rfl<|.cons rfl (congrArg (fun z=>PV.d (.v (.int .i64 z))) hwi)<|.nil) (.c2 rfl rfl rfl rfl<|.nil)⟩
   ·simp only[h2,List.length_nil,Nat.zero_add] at hbd;refine .fresh (q:=25) (nl':=p.runs.length) (l':=(List.map RN.e p.runs)) (by simp) (by decide) (by rw[htk];simp only[AL.grow,Option.toList,List.foldl] at h2 h3 ⊢;rw[h2];exact h3 _) fun ctx vm bs ck hvm=>?_
    have hpf:yy (kI (p.dev)) (uk vm) 0=none:=by rw[WY hvm];exact h1
    have h:(M.bind (M.idx c1 (i:Int)) fun x5=>M.yc (x5.runs.length*16<=140737488355328)<|M.pure ()).wp (fun _=>True):=⟨p,hidx,hbd,trivial⟩
    refine wQ<|wR<|ws (LR.lss rfl rfl)<|wN<|wQ<|PWc.condT (congrArg (fun b=>some (PV.d (.v (.bool b)))) (decide_eq_true (Int.ofNat_lt.2 hi)))<|wK<|wQ<|wB ?_;refine wQ<|wR ?_;obtain⟨x5,hy6,h⟩:=xW h;have hE:=idxU hy6 hidx;subst hE;refine ws (iX (enc:=PT.e) (L:=c1) (y:=x5) underlying46 sizeOf108 rfl rfl hy6 (fun _=>rfl))<|ws (lE (ys:=[_,_]) isAgg108 sizeOf108 rfl rfl rfl)<|ws (LR.allocZ (cs:=[_,_]) zeroValue108 rfl rfl rfl rfl)<|ws (sB (ns:=[_,_]) sizeOf108 rfl rfl rfl rfl rfl rfl rfl)<|wN<|wQ<|wR<|ws (fR underlying108 rfl sizeOf32 (by decide) rfl rfl)<|ws (lD isAgg32 rfl rfl rfl) ?_;refine ws (LR.gtr rfl rfl)<|wN<|PWc.condT (congrArg (fun b=>some (PV.d (.v (.bool b)))) (decide_eq_true hd))<|wz (tl:=[(3,_),(5,_),(7,_),(8,_),(9,_)]) (to:=[(5,_),(6,_)]) ?_;refine PWc.regionE [⟨[16],[],[],[],[],[6],[],[]⟩,⟨[17],[],[],[],[],[5],[],[]⟩,⟨[18],[],[5],[],[],[],[],[]⟩,⟨[19],[],[],[],[],[6],[],[]⟩,⟨[20],[],[],[],[],[5],[],[]⟩,⟨[21],[],[5],[],[],[],[],[]⟩,⟨[22],[],[6],[],[],[],[],[]⟩,⟨[23],[],[],[],[],[5],[],[]⟩,⟨[24],[],[5],[],[],[],[],[]⟩,⟨[25],[25],[],[25],[],[25],[],[]⟩,⟨[],[6],[6,25],[],[],[],[25],[]⟩] (by kernel_rfl) (by kernel_rfl) rfl<|km ?_;refine kp (fun _ U W=>fR underlying108 rfl sizeOf32 (by decide) rfl U) ?_;refine kp (fun _ U W=>lD isAgg32 U (W rfl rfl) rfl)<|km ?_;refine kp (fun _ U W=>fR underlying108 rfl sizeOf32 (by decide) rfl U) ?_;refine kp (fun _ U W=>lD isAgg32 U (W rfl rfl) rfl) ?_;refine kp (fun _ U W=>LR.lookupPN underlying102 Zc U (W rfl rfl) U rfl zeroValue88 rfl hpf) ?_;refine kp (fun _ U W=>fR underlying108 rfl sizeOf88 (by decide) rfl U) ?_;refine kp (fun _ U W=>lD isAgg88 U (W rfl rfl) rfl) ?_;obtain⟨hy7,h⟩:=yN h;refine PQe.stepN (fun _ U W hf=>LR.appNilX (enc:=RN.e) (R:=x5.runs) uI underlying88 (U rfl rfl) hf (Src.slT (enc:=RN.e) (R:=x5.runs) (evObjs (U rfl rfl)) (fun _=>rfl)) (fun _=>rfl) hy7 rfl (UX hf)) rfl (.inl rfl) rfl ?_;refine ks (fun _ U W=>LR.mapUpdatePN underlying102 Zc U (W rfl rfl) U rfl rfl U hpf)<|PQe.nil<|wR<|ws (LR.addW rfl rfl)<|wm ?_;refine wN ?_;exact⟨rfl,sO rfl (.c2 rfl rfl rfl rfl<|.cons rfl rfl<|.cons rfl (congrArg (fun z=>PV.d (.v (.int .i64 z))) hwi)<|.nil) (.c2 rfl rfl rfl rfl<|.nil)⟩
  ·have hf:zm p=none:=by simp[zm,hd]
   rw[hf] at htk;refine .skip (by rw[htk];rfl) fun ctx vm bs ck=>?_
   have h:(M.bind (M.idx c1 (i:Int)) fun x8=>M.pure ()).wp (fun _=>True):=⟨p,hidx,trivial⟩
   refine wQ<|wR<|ws (LR.lss rfl rfl)<|wN<|wQ<|PWc.condT (congrArg (fun b=>some (PV.d (.v (.bool b)))) (decide_eq_true (Int.ofNat_lt.2 hi)))<|wK<|wQ<|wB ?_;refine wQ<|wR ?_;obtain⟨x8,hy9,h⟩:=xW h;have hE:=idxU hy9 hidx;subst hE;refine ws (iX (enc:=PT.e) (L:=c1) (y:=x8) underlying46 sizeOf108 rfl rfl hy9 (fun _=>rfl))<|ws (lE (ys:=[_,_]) isAgg108 sizeOf108 rfl rfl rfl)<|ws (LR.allocZ (cs:=[_,_]) zeroValue108 rfl rfl rfl rfl)<|ws (sB (ns:=[_,_]) sizeOf108 rfl rfl rfl rfl rfl rfl rfl)<|wN<|wQ<|wR<|ws (fR underlying108 rfl sizeOf32 (by decide) rfl rfl)<|ws (lD isAgg32 rfl rfl rfl) ?_;refine ws (LR.gtr rfl rfl)<|wN<|PWc.condF (congrArg (fun b=>some (PV.d (.v (.bool b)))) (decide_eq_false hd))<|wK<|wR<|ws (LR.addW rfl rfl)<|wm ?_;refine wN ?_;exact⟨rfl,sO rfl (.c2 rfl rfl rfl rfl<|.cons rfl rfl<|.cons rfl (congrArg (fun z=>PV.d (.v (.int .i64 z))) hwi)<|.nil) (.cons rfl rfl<|.nil)⟩
 ·have h:(M.pure ()).wp (fun _=>True):=trivial;refine wQ<|wR<|ws (LR.lss rfl rfl)<|wN<|wQ<|PWc.condF (congrArg (fun b=>some (PV.d (.v (.bool b)))) (decide_eq_false (by omega))) ?_;refine wZ ?_;exact⟨rfl,sP⟩
 ·refine wQ<|wR<|wm ?_;refine wa ?_;refine wN<|wX ?_;cases h;exact⟨.inr rfl,2,6,_,_,rfl,rfl,rfl⟩
theorem zKa(c1:List PT)(dev2:Int)(r0:List RN)(h:(Vl c1 dev2).wp (·=r0)):PRow prog 48 [.d (.sl (List.map PT.e c1)),.d (.v (.int .u16 dev2))] 120 2 (List.map RN.e r0):=by
 refine PRow.intro (sl:=[(0,_),(1,_)]) func48 rfl ntmps48 rfl rfl ?_;intro ctx hK;refine wQ<|wR<|ws (aR 120 2 rfl)<|wN<|wQ<|wR<|wm ?_;obtain⟨v3,hy4,h⟩:=zW h;refine PWl.mapN (vW c1 v3 hy4) rfl call65 rfl rfl rfl rfl rfl (fun bs5 ck5 _=>?_);refine wm ?_;refine ws (LR.getO (eV:=(eL RN.e)) (zv:=([]:List RN)) (q:=dev2) (m:=v3) UN underlying102 Zc zeroValue88 (zRd1 (.slice none 0 0) rfl) rfl rfl rfl rfl rfl rfl) ?_;obtain⟨v6,hy7,h⟩:=zW h;refine ws (LR.rowN (wi (AL.getZ v3 dev2 ([]:List RN)) v6 hy7) rfl call79 rfl rfl rfl rfl)<|wy (tl:=[(0,_),(1,_),(5,_),(6,_),(7,_),(8,_),(9,_)]) (to:=[(6,_),(9,_)]) ?_;refine wa ?_;refine wN<|wX ?_;cases h;exact⟨.inr rfl,4,rfl,.inr ⟨9,_,rfl,(by simp),rfl⟩⟩
theorem vX(c1:List PT)(d2:DT)(r0:Bool)(h:(uB c1 d2).wp (·=r0)):PFun prog 23 [.d (.sl (List.map PT.e c1)),.agg (List.map .d (DT.e d2))] (.d (.v (.bool r0))):=by
 refine fI (sl:=[(0,_),(1,_)]) func23 rfl ntmps23 rfl rfl ?_;intro ctx hK;refine wQ<|wR<|ws (LR.box rfl rfl rfl rfl)<|wa ?_;refine wN<|wQ ?_;refine wJ (zf h) (fun(v3:Bool) (_:Unit)=>⟨17,[(4,.d (.v (.bool v3)))],[]⟩) (fun h=>?_) ?_
 ·refine wD (by kernel_rfl) (by kernel_rfl) ?_;refine qs (fun _ U W=>fR underlying34 rfl sizeOf32 (by decide) rfl U) ?_;refine qs (fun _ U W=>lD isAgg32 U (W rfl) rfl) ?_;refine qs (fun _ U W=>LR.gtr U U)<|qm ?_;refine xQ (d:=8) h rfl (fun _ h=>?_) (fun _ h=>?_)
  ·refine qt (fun _ U W=>mV U) ?_;refine qt (fun _ U W=>fR underlying34 rfl sizeOf32 (by decide) rfl U) ?_;refine qt (fun _ U W=>lD isAgg32 U (W rfl) rfl) ?_;obtain⟨v5,hy6,h⟩:=zW h;refine qt (fun _ U W=>cN (PRow.fun (zKa c1 d2.dev v5 hy6)) U call48 (yu (fun a b=>U a b) rfl rfl) rfl rfl rfl) ?_;refine qt (fun _ U W=>fR underlying34 rfl sizeOf26 (by decide) rfl U) ?_;refine qt (fun _ U W=>lD isAgg26 U (W rfl) rfl) ?_;obtain⟨v7,hy8,h⟩:=zW h;refine qt (fun _ U W=>cN (zJa v5 d2.n v7 hy8) U call47 (yu (fun a b=>U a b) rfl rfl) rfl rfl rfl) ?_;refine qs (fun _ U W=>pT U U) ?_;refine qs (fun _ U W=>aS U)<|qN ?_;exact⟨v7,(),h,sP⟩
  ·refine kF<|kF<|kF<|kF<|kF<|kF<|kF ?_;refine qs (fun _ U W=>pF U U) ?_;refine qs (fun _ U W=>aS U)<|qN ?_;exact⟨false,(),h,sP⟩
 ·rintro v3 _ h;refine wX ?_;cases h;exact xT
theorem ZO(m1:List (Int×List RN))(r0:List PT)(h:(wx m1).wp (·=r0)):PRow prog 64 [.md [.u16] false (zC kI (eL RN.e) m1)] 108 2 (List.map PT.e r0):=by
 refine PRow.intro (sl:=[(0,_)]) func64 rfl ntmps64 rfl rfl ?_;intro ctx hK;refine wQ<|wR<|ws (aR 108 2 rfl)<|wN<|wQ<|wR<|ws (aR 108 2 rfl)<|wN<|wQ ?_;refine wQ<|wR<|wm ?_;refine PWl.rangeD underlying102 rfl rfl rfl (fun bs2 ck2 hbl2 hbn2=>?_);refine wN ?_;refine wJ (zf h) (fun(c3:List PT) (_:Unit)=>⟨27,[(3,.row 3 (c3.length))],[(3,.row 108 2 (List.map PT.e c3))]⟩) (fun h=>?_) ?_
 ·refine wB<|wM (fun(⟨seen28,c29⟩:List Nat×List PT) (_:Unit)=>⟨27,[(3,.row 3 (c29.length)),(7,.ref 7 0)],[(3,.row 108 2 (List.map PT.e c29)),(7,.iterD [.u16] false (zC kI (eL RN.e) m1) bs2 ck2 seen28)]⟩) () h (sP) ?_;rintro N ⟨seen28,c29⟩ _ h;refine wQ<|wR ?_;obtain⟨hy40,h⟩:=yN h;replace h:=iNxt h;refine PWl.nextD rfl rfl (nxtD hy40) rfl (fun hy31=>?_) (fun j30 hy32 hy33=>?_)
  ·replace h:=h.1 (nxtA hy31);refine ws (LR.extract rfl rfl)<|wN<|wQ<|PWc.condF rfl<|wZ ?_;exact⟨c29,(),h,sP⟩
  ·replace h:=h.2 j30 (nxtB hy32) hy33;refine ws (LR.extract rfl rfl)<|wN<|wQ<|PWc.condT rfl<|wK<|wB<|wQ<|wR ?_;obtain⟨kv34,hy35,h⟩:=xW h;refine ws (LR.entryD rfl rfl (jl hy35) rfl rfl)<|ws (LR.extract rfl rfl)<|ws (LR.extract rfl rfl)<|wa ?_;refine wa ?_;refine wN<|wQ<|wR<|wm ?_;obtain⟨v36,hy37,h⟩:=zW h;refine ws (LR.rowN (wi kv34.2 v36 hy37) rfl call79 rfl rfl rfl rfl)<|wa ?_;refine wN<|wQ<|wR<|wm ?_;refine ws (LR.lenRow underlying88 rfl)<|ws (LR.gtr rfl rfl)<|wN ?_;refine xD h rfl (fun _ h=>?_) (fun _ h=>?_)
   ·refine wR<|wm ?_;refine wm ?_;refine wm ?_;refine PWl.frz [5,14,15,20] hK (.cons rfl<|.cons rfl<|.cons rfl<|.cons rfl<|.nil) rfl (by simp) ?_;refine ws (LR.build (ns:=[_,_]) build108 rfl rfl rfl)<|ws (LR.buildSliceD [.tmp 21] zra rfl rfl (.cons rfl rfl rfl<|.nil) (by decide) (by decide)) ?_;obtain⟨hy39,h⟩:=yN h;refine ws (LR.appT (enc:=PT.e) (L:=c29) (R:=[(⟨kv34.1,v36⟩:PT)]) [3,18] zra underlying46 rfl rfl rfl (Src.slT (enc:=PT.e) (R:=[(⟨kv34.1,v36⟩:PT)]) rfl (fun _=>rfl)) (fun _=>rfl) hy39 rfl rfl)<|wy (tl:=[(7,_),(23,_)]) (to:=[(3,_),(7,_)]) ?_;refine wa ?_;refine wN ?_;exact⟨((seen28++[j30]),(c29++[(⟨kv34.1,v36⟩:PT)])),(),h,sP⟩
   ·refine wK ?_;exact⟨((seen28++[j30]),c29),(),h,sP⟩
 ·rintro c3 _ h;refine wQ<|wR<|wm ?_;obtain⟨hy42,h⟩:=yN h;refine PWl.sortFnR (encD:=PT.e) (enc:=RawTPart.v) (lt:=jm) (R:=RawTPart.R) (l:=c3) srt91_92 RawTPart.raw rlt91 (fun _=>rfl) (fun _=>rfl) rfl call91 rfl rfl rfl (by simp) hy42 rfl (fun s41 hy43 hy44=>?_);replace h:=iSrt h s41 hy43 hy44;have hy43l:=hy43.length_eq;refine wN<|wQ<|wR<|wm ?_;refine wa ?_;refine wN<|wX ?_;cases h;exact⟨.inr rfl,2,rfl,.inr ⟨3,_,rfl,(by first | (simp;done) | (simp;omega) | omega),rfl⟩⟩
theorem vY(d1:DT)(r0:Bool)(h:(xl d1).wp (·=r0)):PFun prog 43 [.agg (List.map .d (DT.e d1))] (.d (.v (.bool r0))):=by
 refine fI (sl:=[(0,_)]) func43 rfl ntmps43 rfl rfl ?_;intro ctx hK;refine wQ<|wR<|ws (LR.box rfl rfl rfl rfl)<|wa ?_;refine wN<|wQ ?_;refine wJ (zf h) (fun(v2:Bool) (_:Unit)=>⟨16,[(2,.d (.v (.bool v2)))],[]⟩) (fun h=>?_) ?_
 ·refine wR<|ws (fR underlying34 rfl sizeOf32 (by decide) rfl rfl)<|ws (lD isAgg32 rfl rfl rfl)<|ws (LR.gtr rfl rfl)<|wm ?_;refine xG (d:=6) h rfl (fun _ h=>?_) (fun _ h=>?_)
  ·refine wt (fR underlying34 rfl sizeOf26 (by decide) rfl rfl)<|wt (lD isAgg26 rfl rfl rfl)<|wt (LR.gtr rfl rfl)<|ws (pT rfl rfl)<|wm ?_;refine xG (d:=11) h rfl (fun _ h=>?_) (fun _ h=>?_)
   ·refine wt (fR underlying34 rfl sizeOf26 (by decide) rfl rfl)<|wt (lD isAgg26 rfl rfl rfl)<|wt (LR.leq rfl rfl)<|ws (pT rfl rfl)<|wa ?_;refine wN ?_;exact⟨(decide (d1.n<=281474976710655)),(),h,sP⟩
   ·refine wf<|wf<|wf<|ws (pF rfl rfl)<|wa ?_;refine wN ?_;exact⟨false,(),h,sP⟩
  ·refine wf<|wf<|wf<|ws (pF rfl rfl)<|wm ?_;refine wf<|wf<|wf<|ws (pF rfl rfl)<|wa ?_;refine wN ?_;exact⟨false,(),h,sP⟩
 ·rintro v2 _ h;refine wX ?_;cases h;exact xT
theorem jW(v1:Int)(r0:Int×Int)(h:(Zy v1).wp (·=r0)):PFun prog 78 [.d (.v (.int .u64 v1))] (.tup [.d (.v (.int .u16 r0.1)),.d (.v (.int .u64 r0.2))]):=by
 refine fI (sl:=[(0,_)]) func78 rfl ntmps78 rfl rfl ?_;intro ctx hK;refine wQ<|wR<|wa ?_;refine wa ?_;refine wN<|wQ<|wR<|wm ?_;refine ws (LR.shr rfl rfl (by decide) rfl) ?_;refine ws (LR.convInt underlying32 (by rw[underlying26];rfl) rfl rfl) ?_;refine wm ?_;refine ws (LR.and rfl rfl)<|wa ?_;refine wa ?_;refine wN<|wX ?_;cases h;exact⟨.inr rfl,_,.cons (.tmp rfl rfl)<|.cons (.tmp rfl rfl)<|.nil,rfl⟩
theorem Je(v1:Int)(r0:DT×Bool)(h:(XE v1).wp (·=r0)):PFun prog 42 [.d (.v (.int .u64 v1))] (.tup [.agg (List.map .d (DT.e r0.1)),.d (.v (.bool r0.2))]):=by
 refine fI (sl:=[(0,_)]) func42 rfl ntmps42 rfl rfl ?_;intro ctx hK;refine wQ<|wR<|ws (LR.allocZ (cs:=[_,_]) zeroValue34 rfl rfl rfl rfl)<|wa ?_;refine wN<|wQ<|wR<|wm ?_;obtain⟨v2,hy3,h⟩:=zW h;refine xN (jW v1 v2 hy3) call78<|wm ?_;refine ws (LR.extract rfl rfl)<|ws (LR.extract rfl rfl)<|wa ?_;refine wa ?_;refine wN<|wQ<|wR<|wm ?_;refine wm ?_;refine ws (LR.build (ns:=[_,_]) Ws rfl rfl rfl)<|ws (LR.allocZ (cs:=[_,_]) zeroValue34 rfl rfl rfl rfl)<|ws (sB (ns:=[_,_]) sizeOf34 rfl rfl rfl rfl rfl rfl rfl)<|wN<|wQ<|wQ<|wR<|ws (lA (ps:=[_,_]) isAgg34 sizeOf34 rfl rfl rfl rfl) ?_;obtain⟨v4,hy5,h⟩:=zW h;refine xN (vY (⟨v2.1,v2.2⟩:DT) v4 hy5) call43<|ws (LR.not rfl)<|wN ?_;refine xD h rfl (fun _ h=>?_) (fun _ h=>?_)
 ·refine wQ<|wR<|ws (LR.build (ns:=[_,_]) Ws rfl rfl rfl)<|ws (sB (ns:=[_,_]) sizeOf34 rfl rfl rfl rfl rfl rfl rfl)<|wa ?_;refine wN<|wX ?_;cases h;exact⟨.inr rfl,_,.cons (.agg isAgg34 sizeOf34 rfl rfl rfl rfl)<|.cons (.tmp rfl rfl)<|.nil,rfl⟩
 ·refine wK<|wQ<|wR<|ws (lA (ps:=[_,_]) isAgg34 sizeOf34 rfl rfl rfl rfl)<|ws (sB (ns:=[_,_]) sizeOf34 rfl rfl rfl rfl rfl rfl rfl)<|wa ?_;refine wN<|wX ?_;cases h;exact⟨.inr rfl,_,.cons (.agg isAgg34 sizeOf34 rfl rfl rfl rfl)<|.cons (.tmp rfl rfl)<|.nil,rfl⟩
theorem Jg(f1:Int)(r0:Bool)(h:(XF f1).wp (·=r0)):PFun prog 44 [.d (.v (.int .u8 f1))] (.d (.v (.bool r0))):=by
 refine fI (sl:=[(0,_)]) func44 rfl ntmps44 rfl rfl ?_;intro ctx hK;refine wQ<|wR<|wa ?_;refine wN<|wQ ?_;refine wJ (zf h) (fun(v2:Bool) (_:Unit)=>⟨9,[(2,.d (.v (.bool v2)))],[]⟩) (fun h=>?_) ?_
 ·refine wR<|wm ?_;refine ws (LR.geq rfl rfl)<|wm ?_;refine xG (d:=5) h rfl (fun _ h=>?_) (fun _ h=>?_)
  ·refine wt (mV rfl)<|wt (LR.leq rfl rfl)<|ws (pT rfl rfl)<|wa ?_;refine wN ?_;exact⟨(decide (f1<=5)),(),h,sP⟩
  ·refine wf<|wf<|ws (pF rfl rfl)<|wa ?_;refine wN ?_;exact⟨false,(),h,sP⟩
 ·rintro v2 _ h;refine wX ?_;cases h;exact xT
theorem Jh(s1:ByteArray)(r0:Bool)(h:(XG s1).wp (·=r0)):PFun prog 45 [.d (.v (.string s1))] (.d (.v (.bool r0))):=by
 refine fI (sl:=[(0,_)]) func45 rfl ntmps45 rfl rfl ?_;intro ctx hK;refine wQ<|wR<|wa ?_;refine wN<|wQ<|wQ<|wR<|wm ?_;refine ws (LR.lenStr underlying9 rfl)<|ws (LR.gtr rfl rfl)<|wN ?_;refine xD h rfl (fun _ h=>?_) (fun _ h=>?_)
 ·refine wQ<|wR<|wa ?_;refine wN<|wX ?_;cases h;exact xT
 ·refine wK<|wQ<|wQ<|wR<|wm ?_;refine ws (LR.lenStr underlying9 rfl)<|wm ?_;refine wN ?_;refine PWc.jnX (zf h) (fun(_:Unit) (_:Unit)=>⟨23,[],[]⟩) (fun h=>?_) ?_
  ·refine wB<|wM (fun(v20:Int) (_:Unit)=>⟨23,[(0,.d (.v (.string s1))),(8,.d (.v (.int .i64 (ByteArray.size s1:Int)))),(9,.d (.v (.int .i64 v20)))],[]⟩) () h (sP) ?_;rintro N v20 _ h;refine wQ<|wR<|ws (LR.lss rfl rfl)<|wN<|wQ ?_;refine xD h rfl (fun _ h=>?_) (fun _ h=>?_)
   ·refine wK<|wQ<|wB<|wQ<|wR<|wm ?_;refine wa ?_;refine wN<|wQ ?_;refine wJ (zf h) (fun(v22:Bool) (_:Unit)=>⟨23,[(0,.d (.v (.string s1))),(8,.d (.v (.int .i64 (ByteArray.size s1:Int)))),(9,.d (.v (.int .i64 v20))),(21,.d (.v (.bool v22)))],[]⟩) (fun h=>?_) ?_
    ·refine wR<|wm ?_;refine wm ?_;obtain⟨b23,hy24,h⟩:=xW h;refine ws (LR.strIdx underlying9 rfl rfl hy24)<|ws (LR.lss rfl rfl)<|wm ?_;refine xG (d:=16) h rfl (fun _ h=>?_) (fun _ h=>?_)
     ·refine wf<|wf<|wf<|wf<|ws (pT rfl rfl)<|wN ?_;exact⟨true,(),h,sP⟩
     ·refine wt (mV rfl)<|wt (mV rfl) ?_;obtain⟨b26,hy27,h⟩:=xW h;refine wt (LR.strIdx underlying9 rfl rfl hy27)<|wt (LR.gtr rfl rfl)<|ws (pF rfl rfl)<|wN ?_;exact⟨(decide (126 < b26)),(),h,sP⟩
    ·rintro v22 _ h;refine xD h rfl (fun _ h=>?_) (fun _ h=>?_)
     ·refine wQ<|wR<|wa ?_;refine wN<|wX ?_;cases h;exact xT
     ·refine wK<|wR<|ws (LR.addW rfl rfl)<|wm ?_;refine wN ?_;exact⟨(IntKind.i64.wrap (v20+1)),(),h,sP⟩
   ·refine wZ ?_;exact⟨(),(),h,sP⟩
  ·rintro _ _ h;refine wQ<|wR<|wa ?_;refine wN<|wX ?_;cases h;exact xT
theorem un(c1:List PT)(r0:List PT)(h:(ZJ c1).wp (·=r0)):PRow prog 35 [.d (.sl (List.map PT.e c1))] 108 2 (List.map PT.e r0):=by
 refine PRow.intro (sl:=[(0,_)]) func35 rfl ntmps35 rfl rfl ?_;intro ctx hK;refine wQ<|wR<|ws (aR 108 2 rfl)<|wN<|wQ<|wR<|wm ?_;obtain⟨v2,hy3,h⟩:=zW h;refine PWl.mapN (vW c1 v2 hy3) rfl call65 rfl rfl rfl rfl rfl (fun bs4 ck4 _=>?_);obtain⟨v5,hy6,h⟩:=zW h;refine PWl.frzM [4] hK (.cons rfl<|.nil) rfl<|ws (LR.rowN (ZO v2 v5 hy6) rfl call64 rfl rfl rfl rfl)<|wy (tl:=[(0,_),(3,_),(4,_),(5,_)]) (to:=[(5,_)]) ?_;refine wa ?_;refine wN<|wX ?_;cases h;exact⟨.inr rfl,2,rfl,.inr ⟨5,_,rfl,(by simp),rfl⟩⟩
theorem uo(n1:Int)(r0:List PT)(h:(yd n1).wp (·=r0)):PRow prog 104 [.d (.v (.slice none 0 0)),.d (.v (.int .i64 n1))] 108 2 (List.map PT.e r0):=by
 refine PRow.intro (sl:=[(0,_),(1,_)]) func104 rfl ntmps104 rfl rfl ?_;intro ctx hK;refine wQ<|wR<|ws (aR 108 2 rfl)<|wN<|wQ<|wQ<|wR<|wm ?_;refine ws (LR.lss rfl rfl)<|wN ?_;refine xD h rfl (fun _ h=>?_) (fun _ h=>?_)
 ·exact h.elim
 ·refine wK<|wQ<|wQ<|wR<|wm ?_;refine wm ?_;refine ws (LR.capNil underlying46 rfl)<|wm ?_;refine ws (LR.lenNil underlying46 rfl)<|ws (LR.subW rfl rfl)<|ws (LR.subW rfl rfl)<|wa ?_;refine wN<|wQ<|wR<|wm ?_;refine ws (LR.gtr rfl rfl)<|wN ?_;refine wJ (zf h) (fun(v3:List PT) (_:Unit)=>⟨27,[(0,.row 22 (v3.length))],[(22,.row 108 2 (List.map PT.e v3))]⟩) (fun h=>?_) ?_
  ·refine xD h rfl (fun _ h=>?_) (fun _ h=>?_)
   ·refine wR<|wm ?_;refine wm ?_;refine ws (LR.capNil underlying46 rfl)<|ws (LR.sliceNil underlying46 sizeOf108 rfl rfl)<|wm ?_;obtain⟨hy5,h⟩:=yN h;refine ws (LR.appMakeT (enc:=PT.e) (z:=(⟨0,([]:List RN)⟩:PT)) hy5 zra underlying3 zeroValue108 rfl rfl rfl rfl rfl rfl rfl)<|wy (tl:=[(0,_),(22,_)]) (to:=[(22,_)]) ?_;refine wm ?_;refine ws (LR.lenNil underlying46 rfl) ?_;obtain⟨hy6,h⟩:=yN h;refine ws (LR.cutRowT (enc:=PT.e) (L:=(List.replicate (Int.toNat ((IntKind.i64.wrap (n1 - (IntKind.i64.wrap (0 - 0)))))) (⟨0,([]:List RN)⟩:PT))) [22] underlying46 sizeOf108 rfl (by first | (simp;done) | (simp;omega) | omega) rfl rfl hy6 rfl) ?_;refine wa ?_;refine wN ?_;exact⟨(List.take (Int.toNat 0) ((List.replicate (Int.toNat ((IntKind.i64.wrap (n1 - (IntKind.i64.wrap (0 - 0)))))) (⟨0,([]:List RN)⟩:PT)))),(),h,sO rfl (.cons rfl (by first | rfl | (simp;done) | (congr 1;first | (simp;done) | (simp;omega) | omega))<|.nil) (.cons rfl rfl<|.nil)⟩
   ·refine wK ?_;exact⟨[],(),h,Sub.trans (Sub.nilRow 0 22 108 2 rfl rfl)<|sP⟩
  ·rintro v3 _ h;refine wQ<|wR<|wm ?_;refine wa ?_;refine wN<|wX ?_;cases h;exact⟨.inr rfl,4,rfl,.inr ⟨22,_,rfl,(by simp),rfl⟩⟩
theorem ZU(slices1:List (List PT))(r0:List PT)(h:(yv slices1).wp (·=r0)):PRow prog 83 [.d (.sl (List.map (eL PT.e) slices1))] 108 2 (List.map PT.e r0):=by
 refine PRow.intro (sl:=[(0,_)]) func83 rfl ntmps83 rfl rfl ?_;intro ctx hK;refine wQ<|wR<|ws (aR 108 2 rfl)<|wN<|wQ<|wR<|wa ?_;refine wN<|wQ<|wQ<|wR<|wm ?_;refine ws (lM (enc:=(eL PT.e)) (L:=slices1) underlying141 rfl)<|wm ?_;refine wN ?_;refine wJ (zf h) (fun(size2:Int) (_:Unit)=>⟨36,[(0,.d (.sl (List.map (eL PT.e) slices1))),(3,.d (.v (.int .i64 size2)))],[]⟩) (fun h=>?_) ?_
 ·refine wB<|wM (fun(⟨size13,v14⟩:Int×Int) (_:Unit)=>⟨36,[(0,.d (.sl (List.map (eL PT.e) slices1))),(3,.d (.v (.int .i64 size13))),(9,.d (.sl (List.map (eL PT.e) slices1))),(10,.d (.v (.int .i64 (slices1.length:Int)))),(11,.d (.v (.int .i64 v14)))],[]⟩) () h (sP) ?_;rintro N ⟨size13,v14⟩ _ h;refine wQ<|wR<|ws (LR.lss rfl rfl)<|wN<|wQ ?_;refine xD h rfl (fun _ h=>?_) (fun _ h=>?_)
  ·refine wK<|wQ<|wB<|wQ<|wR ?_;obtain⟨x16,hy17,h⟩:=xW h;refine ws (iX (enc:=(eL PT.e)) (L:=slices1) (y:=x16) underlying141 sizeOf46 rfl rfl hy17 (fun _=>rfl))<|ws (LR.loadEp isAgg46 rfl rfl)<|wa ?_;refine wN<|wQ<|wR<|wm ?_;refine wm ?_;refine ws (lM (enc:=PT.e) (L:=x16) underlying46 rfl)<|ws (LR.addW rfl rfl)<|wa ?_;refine wN<|wQ<|wR<|wm ?_;refine ws (LR.lss rfl rfl)<|wN ?_;refine xD h rfl (fun _ h=>?_) (fun _ h=>?_)
   ·exact h.elim
   ·refine wK<|wR<|ws (LR.addW rfl rfl)<|wm ?_;refine wN ?_;exact⟨((IntKind.i64.wrap (size13+(x16.length:Int))),(IntKind.i64.wrap (v14+1))),(),h,sP⟩
  ·refine wZ ?_;exact⟨size13,(),h,sP⟩
 ·rintro size2 _ h;refine wQ<|wR<|wm ?_;obtain⟨v19,hy20,h⟩:=zW h;refine ws (LR.rowT (uo size2 v19 hy20) rfl call104 rfl rfl rfl)<|wa ?_;refine wN<|wQ<|wQ<|wR<|wm ?_;refine ws (lM (enc:=(eL PT.e)) (L:=slices1) underlying141 rfl)<|wm ?_;refine wN ?_;refine wJ (zf h) (fun(v21:List PT) (_:Unit)=>⟨36,[(6,.row 24 (v21.length))],[(24,.row 108 2 (List.map PT.e v21))]⟩) (fun h=>?_) ?_
  ·refine wB<|wM (fun(⟨v32,v33⟩:Int×List PT) (_:Unit)=>⟨36,[(6,.row 24 (v33.length)),(25,.d (.sl (List.map (eL PT.e) slices1))),(26,.d (.v (.int .i64 (slices1.length:Int)))),(27,.d (.v (.int .i64 v32)))],[(24,.row 108 2 (List.map PT.e v33))]⟩) () h (sP) ?_;rintro N ⟨v32,v33⟩ _ h;refine wQ<|wR<|ws (LR.lss rfl rfl)<|wN<|wQ ?_;refine xD h rfl (fun _ h=>?_) (fun _ h=>?_)
   ·refine wK<|wQ<|wB<|wQ<|wR ?_;obtain⟨x35,hy36,h⟩:=xW h;refine ws (iX (enc:=(eL PT.e)) (L:=slices1) (y:=x35) underlying141 sizeOf46 rfl rfl hy36 (fun _=>rfl))<|ws (LR.loadEp isAgg46 rfl rfl)<|wa ?_;refine wN<|wR<|wm ?_;refine wm ?_;obtain⟨hy37,h⟩:=yN h;refine ws (LR.appT (enc:=PT.e) (L:=v33) (R:=x35) [6,31] zra underlying46 rfl rfl rfl (Src.slT (enc:=PT.e) (R:=x35) rfl (fun _=>rfl)) (fun _=>rfl) hy37 rfl rfl)<|wa ?_;refine wN<|wR<|ws (LR.addW rfl rfl)<|wm ?_;refine wN ?_;exact⟨((IntKind.i64.wrap (v32+1)),(v33++x35)),(),h,sP⟩
   ·refine wZ ?_;exact⟨v33,(),h,sP⟩
  ·rintro v21 _ h;refine wQ<|wR<|wm ?_;refine wa ?_;refine wN<|wX ?_;cases h;exact⟨.inr rfl,2,rfl,.inr ⟨24,_,rfl,(by simp),rfl⟩⟩
theorem UY(a1:List PT)(b2:List PT)(r0:List PT)(h:(WK a1 b2).wp (·=r0)):PRow prog 52 [.d (.sl (List.map PT.e a1)),.d (.sl (List.map PT.e b2))] 108 2 (List.map PT.e r0):=by
 refine PRow.intro (sl:=[(0,_),(1,_)]) func52 rfl ntmps52 rfl rfl ?_;intro ctx hK;refine wQ<|wR<|ws (aR 108 2 rfl)<|wN<|wQ<|wR<|wm ?_;refine wm ?_;refine ws (LR.buildSliceD [.tmp 5,.tmp 6] elem141 rfl rfl (.cons rfl rfl rfl<|.cons rfl rfl rfl<|.nil) (by decide) (by decide)) ?_;obtain⟨v3,hy4,h⟩:=zW h;refine ws (LR.rowN (ZU ([a1,b2]) v3 hy4) rfl call83 rfl rfl rfl rfl) ?_;obtain⟨v5,hy6,h⟩:=zW h;refine PWl.frz [8] hK (.cons rfl<|.nil) rfl (by simp) ?_;refine ws (LR.rowN (un v3 v5 hy6) rfl call35 rfl rfl rfl rfl)<|wy (tl:=[(0,_),(1,_),(5,_),(6,_),(7,_),(8,_),(9,_)]) (to:=[(9,_)]) ?_;refine wa ?_;refine wN<|wX ?_;cases h;exact⟨.inr rfl,4,rfl,.inr ⟨9,_,rfl,(by simp),rfl⟩⟩
theorem x1a(l1:List DT)(r0:List PT)(h:(zsa l1).wp (·=r0)):PRow prog 53 [.d (.sl (List.map DT.e l1))] 108 2 (List.map PT.e r0):=by
 refine PRow.intro (sl:=[(0,_)]) func53 rfl ntmps53 rfl rfl ?_;intro ctx hK;refine wQ<|wR<|ws (aR 108 2 rfl)<|wN<|wQ<|wR<|ws (LR.makeMap [.u16] false rfl)<|wa ?_;refine wN<|wQ<|wQ<|wR<|wm ?_;refine ws (lM (enc:=DT.e) (L:=l1) underlying35 rfl)<|wm ?_;refine wN<|wB ?_;obtain⟨hy16,h⟩:=yN h;have hN:=hy16.1;refine PWc.loopRows (bid:=0) (N:=l1.length) (mid:=6) (n:=32) (ks:=[.u16]) (e:=120) (k:=2) (fun i=>[(3,.mp 6),(7,.d (.sl (List.map DT.e l1))),(8,.d (.v (.int .i64 (l1.length:Int)))),(9,.d (.v (.int .i64 (i:Int))))]) (fun i=>vT kI RN.e (AL.grow [] ((List.take i l1).filterMap vA))) [(3,.mp 6)] [] 0 hK (by decide) (fun i x hx id h=>by simp only[List.mem_cons,List.not_mem_nil,or_false] at hx;rcases hx with rfl | rfl | rfl | rfl <;> first | (simp[PV.has] at h;done) | (simp[PV.has] at h;exact h.symm) | (simp[PV.has] at h;omega)) rfl (fun i=>VV (fun x d hd=>by simp only[RN.e,List.mem_cons,List.not_mem_nil,or_false] at hd;rcases hd with rfl | rfl <;> exact⟨_,rfl⟩) _) (sP) (fun i hi=>?_) (zC kI (eL RN.e) (AL.grow ([]:List (Int×List RN)) (List.filterMap vA l1))) (by simp only[List.take_length];exact z0a _) (fun ctx vm bs ck=>?_) (fun bs ck=>?_)
 ·obtain⟨p,hp⟩:∃ p,l1[i]?=some p:=⟨_,List.getElem?_eq_getElem hi⟩
  have hidx:(0:Int)<=(i:Int)/\l1[(i:Int).toNat]?=some p:=⟨by omega,by simpa using hp⟩
  have htk:=AL.grow_take hp vA;have hwi:=xqa (i:=i) (by omega)
  by_cases hd:Zd p=true
  ·have hf:vA p=some (p.dev,[(⟨p.n,p.n⟩:RN)]):=by simp[vA,hd]
   have hgood:(xl p).wp (·=true):=by rw[VU];exact hd
   have hbd:=AL.grow_bound hy16 hp hf;rw[hf] at htk;rcases Wz (eK:=kI) (enc:=RN.e) UN (p.dev) (AL.grow [] ((List.take i l1).filterMap vA)) with⟨j,l,h1,h2,h3,h4⟩ | ⟨h1,h2,h3⟩
   ·simp only[h3] at hbd;refine .found (nl:=l.length) (nl':=(List.length (l++[(⟨p.n,p.n⟩:RN)]))) (l:=(List.map RN.e l)) (l':=(List.map RN.e (l++[(⟨p.n,p.n⟩:RN)]))) (by simp) (by simp) h2 (by rw[htk];simp only[AL.grow,Option.toList,List.foldl] at h3 h4 ⊢;rw[h3];exact h4 _) fun ctx vm bs ck hvm=>?_
    have hpf:yy (kI (p.dev)) (uk vm) 0=some j:=by rw[WY hvm];exact h1
    have h:(M.bind (M.idx l1 (i:Int)) fun x2=>M.bind (M.det (xl x2)) fun v4=>M.yc ((l.length+List.length ([(⟨x2.n,x2.n⟩:RN)]))*16<=140737488355328)<|M.pure ()).wp (fun _=>True):=⟨p,hidx,_,hgood,hbd,trivial⟩
    refine wQ<|wR<|ws (LR.lss rfl rfl)<|wN<|wQ<|PWc.condT (congrArg (fun b=>some (PV.d (.v (.bool b)))) (decide_eq_true (Int.ofNat_lt.2 hi)))<|wK<|wQ<|wB ?_;refine wQ<|wR ?_;obtain⟨x2,hy3,h⟩:=xW h;have hE:=idxU hy3 hidx;subst hE;refine ws (iX (enc:=DT.e) (L:=l1) (y:=x2) underlying35 sizeOf34 rfl rfl hy3 (fun _=>rfl))<|ws (lE (ys:=[_,_]) isAgg34 sizeOf34 rfl rfl rfl)<|ws (LR.allocZ (cs:=[_,_]) zeroValue34 rfl rfl rfl rfl)<|ws (sB (ns:=[_,_]) sizeOf34 rfl rfl rfl rfl rfl rfl rfl)<|wN<|wQ<|wR<|ws (lA (ps:=[_,_]) isAgg34 sizeOf34 rfl rfl rfl rfl) ?_;obtain⟨v4,hy5,h⟩:=zW h;have hEd:=detU hy5 hgood;refine xN (vY x2 v4 hy5) call43<|wN<|PWc.condT (congrArg (fun b=>some (PV.d (.v (.bool b)))) hEd)<|wz (tl:=[(3,_),(5,_),(7,_),(8,_),(9,_)]) (to:=[(5,_),(6,_),(50,_)]) ?_;refine PWc.regionE [⟨[15],[],[],[],[],[6],[],[]⟩,⟨[16],[],[],[],[],[5],[],[]⟩,⟨[17],[],[5],[],[],[],[],[]⟩,⟨[18],[],[],[],[],[6],[],[]⟩,⟨[19],[],[],[],[],[5],[],[]⟩,⟨[20],[],[5],[],[],[],[],[]⟩,⟨[21],[],[6],[],[],[50],[],[]⟩,⟨[22],[],[],[],[],[5],[],[]⟩,⟨[23],[],[5],[],[],[],[],[]⟩,⟨[24],[],[],[],[],[5],[],[]⟩,⟨[25],[],[5],[],[],[],[],[]⟩,{ws:=[26]},{ws:=[27]},⟨[21,28],[6,50],[6,50],[],[(50,[21])],[50],[],[6]⟩,⟨[],[6],[6,50],[],[],[],[50],[]⟩] (by kernel_rfl) (by kernel_rfl) rfl<|km ?_;refine kp (fun _ U W=>fR underlying34 rfl sizeOf32 (by decide) rfl U) ?_;refine kp (fun _ U W=>lD isAgg32 U (W rfl rfl) rfl)<|km ?_;refine kp (fun _ U W=>fR underlying34 rfl sizeOf32 (by decide) rfl U) ?_;refine kp (fun _ U W=>lD isAgg32 U (W rfl rfl) rfl) ?_;refine kp (fun _ U W=>LR.lookupP underlying102 Zc U (W rfl rfl) U rfl hpf rfl) ?_;refine kp (fun _ U W=>fR underlying34 rfl sizeOf26 (by decide) rfl U) ?_;refine kp (fun _ U W=>lD isAgg26 U (W rfl rfl) rfl) ?_;refine kp (fun _ U W=>fR underlying34 rfl sizeOf26 (by decide) rfl U) ?_;refine kp (fun _ U W=>lD isAgg26 U (W rfl rfl) rfl) ?_;refine kp (fun _ U W=>LR.build (ns:=[_,_]) WJ rfl (evpE (fun a b=>U a b) rfl rfl) rfl) ?_;refine kp (fun _ U W=>LR.buildSliceD [.tmp 26] uI rfl rfl (.cons U rfl rfl<|.nil) (by decide) (by decide)) ?_;obtain⟨hy6,h⟩:=yN h;refine PQe.stepX [21] (fun _ U W ha=>LR.appP (enc:=RN.e) (L:=l) (R:=[(⟨x2.n,x2.n⟩:RN)]) [21] uI underlying88 (U rfl rfl) rfl (W rfl rfl) (W rfl rfl) rfl (fun _ h1 h2=>Src.slT (enc:=RN.e) (R:=[(⟨x2.n,x2.n⟩:RN)]) (xpa h1 h2 (U rfl rfl)) (fun _=>rfl)) (fun _=>rfl) hy6 rfl ha) rfl rfl (.inl rfl) rfl ?_;refine ks (fun _ U W=>LR.mapUpdateP underlying102 Zc U (W rfl rfl) U rfl rfl U hpf)<|PQe.nil<|wR<|ws (LR.addW rfl rfl)<|wm ?_;refine wN ?_;exact⟨rfl,sO rfl (.c2 rfl rfl rfl rfl<|.cons rfl rfl<|.cons rfl (congrArg (fun z=>PV.d (.v (.int .i64 z))) hwi)<|.nil) (.c2 rfl rfl rfl rfl<|.nil)⟩
   ·simp only[h2,List.length_nil,Nat.zero_add] at hbd;refine .fresh (q:=28) (nl':=(List.length ([(⟨p.n,p.n⟩:RN)]))) (l':=(List.map RN.e ([(⟨p.n,p.n⟩:RN)]))) (by simp) (by decide) (by rw[htk];simp only[AL.grow,Option.toList,List.foldl] at h2 h3 ⊢;rw[h2];exact h3 _) fun ctx vm bs ck hvm=>?_
    have hpf:yy (kI (p.dev)) (uk vm) 0=none:=by rw[WY hvm];exact h1
    have h:(M.bind (M.idx l1 (i:Int)) fun x7=>M.bind (M.det (xl x7)) fun v9=>M.yc (List.length ([(⟨x7.n,x7.n⟩:RN)])*16<=140737488355328)<|M.pure ()).wp (fun _=>True):=⟨p,hidx,_,hgood,hbd,trivial⟩
    refine wQ<|wR<|ws (LR.lss rfl rfl)<|wN<|wQ<|PWc.condT (congrArg (fun b=>some (PV.d (.v (.bool b)))) (decide_eq_true (Int.ofNat_lt.2 hi)))<|wK<|wQ<|wB ?_;refine wQ<|wR ?_;obtain⟨x7,hy8,h⟩:=xW h;have hE:=idxU hy8 hidx;subst hE;refine ws (iX (enc:=DT.e) (L:=l1) (y:=x7) underlying35 sizeOf34 rfl rfl hy8 (fun _=>rfl))<|ws (lE (ys:=[_,_]) isAgg34 sizeOf34 rfl rfl rfl)<|ws (LR.allocZ (cs:=[_,_]) zeroValue34 rfl rfl rfl rfl)<|ws (sB (ns:=[_,_]) sizeOf34 rfl rfl rfl rfl rfl rfl rfl)<|wN<|wQ<|wR<|ws (lA (ps:=[_,_]) isAgg34 sizeOf34 rfl rfl rfl rfl) ?_;obtain⟨v9,hy10,h⟩:=zW h;have hEd:=detU hy10 hgood;refine xN (vY x7 v9 hy10) call43<|wN<|PWc.condT (congrArg (fun b=>some (PV.d (.v (.bool b)))) hEd)<|wz (tl:=[(3,_),(5,_),(7,_),(8,_),(9,_)]) (to:=[(5,_),(6,_)]) ?_;refine PWc.regionE [⟨[15],[],[],[],[],[6],[],[]⟩,⟨[16],[],[],[],[],[5],[],[]⟩,⟨[17],[],[5],[],[],[],[],[]⟩,⟨[18],[],[],[],[],[6],[],[]⟩,⟨[19],[],[],[],[],[5],[],[]⟩,⟨[20],[],[5],[],[],[],[],[]⟩,⟨[21],[],[6],[],[],[],[],[]⟩,⟨[22],[],[],[],[],[5],[],[]⟩,⟨[23],[],[5],[],[],[],[],[]⟩,⟨[24],[],[],[],[],[5],[],[]⟩,⟨[25],[],[5],[],[],[],[],[]⟩,{ws:=[26]},{ws:=[27]},⟨[28],[28],[],[28],[],[28],[],[]⟩,⟨[],[6],[6,28],[],[],[],[28],[]⟩] (by kernel_rfl) (by kernel_rfl) rfl<|km ?_;refine kp (fun _ U W=>fR underlying34 rfl sizeOf32 (by decide) rfl U) ?_;refine kp (fun _ U W=>lD isAgg32 U (W rfl rfl) rfl)<|km ?_;refine kp (fun _ U W=>fR underlying34 rfl sizeOf32 (by decide) rfl U) ?_;refine kp (fun _ U W=>lD isAgg32 U (W rfl rfl) rfl) ?_;refine kp (fun _ U W=>LR.lookupPN underlying102 Zc U (W rfl rfl) U rfl zeroValue88 rfl hpf) ?_;refine kp (fun _ U W=>fR underlying34 rfl sizeOf26 (by decide) rfl U) ?_;refine kp (fun _ U W=>lD isAgg26 U (W rfl rfl) rfl) ?_;refine kp (fun _ U W=>fR underlying34 rfl sizeOf26 (by decide) rfl U) ?_;refine kp (fun _ U W=>lD isAgg26 U (W rfl rfl) rfl) ?_;refine kp (fun _ U W=>LR.build (ns:=[_,_]) WJ rfl (evpE (fun a b=>U a b) rfl rfl) rfl) ?_;refine kp (fun _ U W=>LR.buildSliceD [.tmp 26] uI rfl rfl (.cons U rfl rfl<|.nil) (by decide) (by decide)) ?_;obtain⟨hy11,h⟩:=yN h;refine PQe.stepN (fun _ U W hf=>LR.appNilX (enc:=RN.e) (R:=[(⟨x7.n,x7.n⟩:RN)]) uI underlying88 (U rfl rfl) hf (Src.slT (enc:=RN.e) (R:=[(⟨x7.n,x7.n⟩:RN)]) (evObjs (U rfl rfl)) (fun _=>rfl)) (fun _=>rfl) hy11 rfl (UX hf)) rfl (.inl rfl) rfl ?_;refine ks (fun _ U W=>LR.mapUpdatePN underlying102 Zc U (W rfl rfl) U rfl rfl U hpf)<|PQe.nil<|wR<|ws (LR.addW rfl rfl)<|wm ?_;refine wN ?_;exact⟨rfl,sO rfl (.c2 rfl rfl rfl rfl<|.cons rfl rfl<|.cons rfl (congrArg (fun z=>PV.d (.v (.int .i64 z))) hwi)<|.nil) (.c2 rfl rfl rfl rfl<|.nil)⟩
  ·have hf:vA p=none:=by simp[vA,hd]
   have hgood:(xl p).wp (·=false):=by rw[VU];exact Bool.eq_false_iff.2 hd
   rw[hf] at htk;refine .skip (by rw[htk];rfl) fun ctx vm bs ck=>?_
   have h:(M.bind (M.idx l1 (i:Int)) fun x12=>M.bind (M.det (xl x12)) fun v14=>M.pure ()).wp (fun _=>True):=⟨p,hidx,_,hgood,trivial⟩
   refine wQ<|wR<|ws (LR.lss rfl rfl)<|wN<|wQ<|PWc.condT (congrArg (fun b=>some (PV.d (.v (.bool b)))) (decide_eq_true (Int.ofNat_lt.2 hi)))<|wK<|wQ<|wB ?_;refine wQ<|wR ?_;obtain⟨x12,hy13,h⟩:=xW h;have hE:=idxU hy13 hidx;subst hE;refine ws (iX (enc:=DT.e) (L:=l1) (y:=x12) underlying35 sizeOf34 rfl rfl hy13 (fun _=>rfl))<|ws (lE (ys:=[_,_]) isAgg34 sizeOf34 rfl rfl rfl)<|ws (LR.allocZ (cs:=[_,_]) zeroValue34 rfl rfl rfl rfl)<|ws (sB (ns:=[_,_]) sizeOf34 rfl rfl rfl rfl rfl rfl rfl)<|wN<|wQ<|wR<|ws (lA (ps:=[_,_]) isAgg34 sizeOf34 rfl rfl rfl rfl) ?_;obtain⟨v14,hy15,h⟩:=zW h;have hEd:=detU hy15 hgood;refine xN (vY x12 v14 hy15) call43<|wN<|PWc.condF (congrArg (fun b=>some (PV.d (.v (.bool b)))) hEd)<|wK<|wR<|ws (LR.addW rfl rfl)<|wm ?_;refine wN ?_;exact⟨rfl,sO rfl (.c2 rfl rfl rfl rfl<|.cons rfl rfl<|.cons rfl (congrArg (fun z=>PV.d (.v (.int .i64 z))) hwi)<|.nil) (.cons rfl rfl<|.nil)⟩
 ·have h:(M.pure ()).wp (fun _=>True):=trivial;refine wQ<|wR<|ws (LR.lss rfl rfl)<|wN<|wQ<|PWc.condF (congrArg (fun b=>some (PV.d (.v (.bool b)))) (decide_eq_false (by omega))) ?_;refine wZ ?_;exact⟨rfl,sP⟩
 ·refine wQ<|wR<|wm ?_;obtain⟨v17,hy18,h⟩:=zW h;refine PWl.frzM [3,30] hK (.cons rfl<|.cons rfl<|.nil) rfl<|ws (LR.rowN (ZO ((AL.grow ([]:List (Int×List RN)) (List.filterMap vA l1))) v17 hy18) rfl call64 rfl rfl rfl rfl)<|wa ?_;refine wN<|wX ?_;cases h;exact⟨.inr rfl,2,rfl,.inr ⟨31,_,rfl,(by simp),rfl⟩⟩
end Go.Proofs

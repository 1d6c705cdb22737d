/- Side texts. -/
import Derived.Test.YtoilkhcaggjlmaaGreatADs2
import Derived.Test.YtoilkhcaggjlmaaGreatADs3
set_option linter.unusedVariables false
set_option linter.unusedSimpArgs false
namespace Go.Ep
open Go.RowKit
section
variable{ctx:Ctx}{s:PState}
theorem RelG.obj{g:zR}{a:Act}{w:World}(h1:RelG ctx g s a w){id:Nat}{o o':Ob}(hl:look s.objs id=some o)(hob:ObRd w g (zZ ctx g s.objs) id o'):RelG ctx g { s with objs:=zi id o' s.objs } a w:=by
 have hF:∀ b,zZ ctx g s.objs b->zZ ctx g (zi id o' s.objs) b:=fun b hb=>⟨hb.1,fun i o2 n ho hgi=>by
  rw[zC] at ho
  by_cases ei:i=id
  ·subst ei;exact hb.2 i _ n hl hgi
  ·rw[if_neg ei] at ho;exact hb.2 i o2 n ho hgi⟩
 have hst:zx w w (zZ ctx g s.objs):=⟨Nat.le_refl _,fun _ _ _=>rfl⟩
 have hlk:∀ i o2,look (zi id o' s.objs) i=some o2->∃ o3,look s.objs i=some o3:=fun i o2 ho=>by
  rw[zC] at ho
  by_cases ei:i=id
  ·subst ei;exact⟨_,hl⟩
  ·rw[if_neg ei] at ho;exact⟨_,ho⟩
 refine⟨h1.defers,h1.size,fun i p hp=>(h1.slots i p hp).keep hst (fun b hb _=>hF b hb) (fun _ _=>rfl),fun i o2 ho=>?_,fun i i2 o2 o3 b n m ho ho2 hgi hgi2=>?_,fun i o2 b n ho hgi=>?_,h1.os,h1.tape,h1.output,h1.grows,h1.keep⟩
 ·rw[zC] at ho
  by_cases ei:i=id
  ·subst ei;rw[if_pos rfl] at ho
   cases ho
   exact hob.keep hst (fun b hb _=>hF b hb) (fun _ _ _=>rfl) rfl (fun _ _=>rfl)
  ·rw[if_neg ei] at ho;exact(h1.objs i o2 ho).keep hst (fun b hb _=>hF b hb) (fun _ _ _=>rfl) rfl (fun _ _=>rfl)
 ·obtain⟨o4,e4⟩:=hlk i o2 ho;obtain⟨o5,e5⟩:=hlk i2 o3 ho2;exact h1.inj i i2 o4 o5 b n m e4 e5 hgi hgi2
 ·obtain⟨o4,e4⟩:=hlk i o2 ho;exact h1.own i o4 b n e4 hgi
variable{id:Nat}{nl:Bool}{ks:List IntKind}{ag:Bool}{m:List (List Int×List DV)}{bs:List Nat}{ck:Nat}
theorem Sub.nToH(hl:look s.objs id=some (.mapN nl ks ag m bs ck)):Sub ctx s { s with objs:=zi id (.mapH nl ks ag m) s.objs }:=
 Sub.obj hl fun w g S h=>by
  cases h with
  | mapNil _ _ _ h=>exact .mapHNil _ _ h
  | mapN _ _ _ _ _ blk n es h hh hm=>exact .mapH _ _ _ _ _ blk n es h hh hm
theorem Sub.toH(hl:look s.objs id=some (.map ks ag m bs ck)):Sub ctx s { s with objs:=zi id (.mapH false ks ag m) s.objs }:=
 Sub.obj hl fun w g S h=>by
  cases h with
  | map _ _ _ _ _ blk n es h hh hm=>exact .mapH _ _ _ _ _ blk n es h hh hm
theorem Sub.hT(hl:look s.objs id=some (.mapH nl ks ag m))(hn:nl=true):Sub ctx s { s with objs:=zi id (.mapN true ks ag m [] 0) s.objs }:=
 Sub.obj hl fun w g S h=>by
  subst hn
  cases h with
  | mapHNil _ _ h=>exact .mapNil _ _ _ h
theorem openH(hl:look s.objs id=some (.mapH nl ks ag m)){a:Act}{w:World}(hr:Rel ctx s a w):∃ bs ck,Rel ctx { s with objs:=zi id (.mapN nl ks ag m bs ck) s.objs } a w:=by
 obtain⟨g,hg⟩:=hr;have h:=hg.objs id _ hl
 cases h with
 | mapHNil _ _ h=>exact⟨[],0,g,hg.obj hl (.mapNil _ _ _ h)⟩
 | mapH _ _ _ bs ck blk n es h hh hm=>exact⟨bs,ck,g,hg.obj hl (.mapN _ _ _ _ _ blk n es h hh hm)⟩
variable{P:Program}{Q:PQ}
theorem PWc.openH{c:Code}(hl:look s.objs id=some (.mapH nl ks ag m))(h:∀ bs ck,PWc P ctx c Q { s with objs:=zi id (.mapN nl ks ag m bs ck) s.objs }):PWc P ctx c Q s:=fun a w hr=>by
 obtain⟨bs,ck,h2⟩:=Go.Ep.openH hl hr;exact h bs ck a w h2
theorem PWl.openH{ops:Array Oper}{l:List Oper}(hl:look s.objs id=some (.mapH nl ks ag m))(h:∀ bs ck,PWl P ctx ops Q l { s with objs:=zi id (.mapN nl ks ag m bs ck) s.objs }):PWl P ctx ops Q l s:=fun a w hr=>by
 obtain⟨bs,ck,h2⟩:=Go.Ep.openH hl hr;exact h bs ck a w h2
theorem Zd(id:Nat)(o o':Ob)(l:List (Nat×Ob))(i:Nat):look (zi id o (zi id o' l)) i=look (zi id o l) i:=by
 rw[zC,zC,zC]
 by_cases h:i=id <;> simp[h]
theorem Sub.same{t:PState}(hn:s.n=t.n)(hs:s.sl=t.sl)(ho:∀ i,look s.objs i=look t.objs i):Sub ctx s t:=
 Sub.drop hn (fun i p hp=>by rw[ZZ] at hp ⊢;rw[hn,hs];exact hp) (fun i o h=>by rw[ho];exact h)
theorem PWc.hF{c:Code}(hl:look s.objs id=some (.mapH nl ks ag m))(hn:nl=false)(h:∀ bs ck,PWc P ctx c Q { s with objs:=zi id (.map ks ag m bs ck) s.objs }):PWc P ctx c Q s:=
 PWc.openH hl fun bs ck=>PWc.sub (Sub.mapF (id:=id) (by show look (zi id _ _) id=_;rw[zC,if_pos rfl]) hn) (PWc.sub (Sub.same (t:={ s with objs:=zi id (.map ks ag m bs ck) s.objs }) rfl rfl fun i=>by
  show look (zi id _ (zi id _ _)) i=look (zi id _ _) i;rw[Zd]) (h bs ck))
theorem Local.openH{o:Oper}{t:PState}(hl:look s.objs id=some (.mapH nl ks ag m))(h:∀ bs ck,Local P ctx o { s with objs:=zi id (.mapN nl ks ag m bs ck) s.objs } t):Local P ctx o s t:=fun a w hr K Qx hK=>by
 obtain⟨bs,ck,h2⟩:=Go.Ep.openH hl hr;exact h bs ck a w h2 K Qx hK
theorem closeP{dst:Option Nat}{p:PV}{m':List (List Int×List DV)}(hl:look s.objs id=some (.mapH nl ks ag m')):Sub ctx (({ s with objs:=zi id (.mapN nl ks ag m' bs ck) s.objs }:PState).putD dst p) (s.putD dst p):=by
 refine Sub.trans (Sub.nToH (id:=id) (nl:=nl) (ks:=ks) (ag:=ag) (m:=m') (bs:=bs) (ck:=ck) ?_) (Sub.same ?_ ?_ fun i=>?_)
 ·rw[yc];show look (zi id _ _) id=_;rw[zC,if_pos rfl]
 ·cases dst <;> rfl
 ·cases dst <;> rfl
 ·rw[yc];show look (zi id _ _) i=_;rw[yc];show look (zi id _ (zi id _ _)) i=_;rw[Zd,zC]
  by_cases h:i=id
  ·rw[if_pos h,h,hl]
  ·rw[if_neg h]
theorem Ze{x:Operand}(l:List (Nat×Ob)):({ s with objs:=l }:PState).ev x=s.ev x:=by cases x <;> rfl
end
section
variable{P:Program}{ctx:Ctx}{Q:PQ}{s:PState}
variable{dst:Option Tmp}{ty:TypeId}{pos:String}{after:Array Edge}{gd:Option (Nat×Bool)}
variable{κ ν:Type}[DecidableEq κ]{eK:κ->List Int}{eV:ν->List DV}{m:List (κ×ν)}{q:κ}{zv:ν}(inj:∀ a b,eK a=eK b->a=b)
variable{x kx:Operand}{t kt et:TypeId}{ks:List IntKind}{ag:Bool}{z:Value}{p kp:PV}{id:Nat}{nl:Bool}{bs:List Nat}{ck:Nat}
section
variable(hu:P.underlying t=some (.map kt et))(K:KeyOK P kt ks)(hz:∀ w,(zeroValue et).run P w=.ok z w)(hzr:∀ (w:World) (g:zR) (S:Nat->Prop),Rd w g S (elP ag (eV zv)) z)(hk:s.ev kx=some kp)(hkp:kp=Jw ks (eK q))(hn:(eK q).length=ks.length)(hp:elP ag (eV (AL.getZ m q zv))=p)
include inj hu K hz hzr hk hkp hn hp
theorem LR.getOkH(hx:s.ev x=some (.mp id))(hl:look s.objs id=some (.mapH nl ks ag (zI eK eV m))):Local P ctx ⟨dst,.lookup t x kx true,ty,pos,after,gd⟩ s (s.putD dst (.tup [p,.d (.v (.bool (AL.has m q)))])):=
 Local.openH hl fun bs ck=>(LR.getOkN inj hu K hz hzr (by rw[Ze];exact hk) hkp hn hp (by rw[Ze];exact hx) (by show look (zi id _ _) id=_;rw[zC,if_pos rfl])).post (closeP hl)
end
include inj in
theorem LR.delH{ats:Array TypeId}(hu:P.underlying t=some (.map kt et))(K:KeyOK P kt ks)(hx:s.ev x=some (.mp id))(hl:look s.objs id=some (.mapH nl ks ag (zI eK eV m)))(hk:s.ev kx=some kp)(hkp:kp=Jw ks (eK q))(hn:(eK q).length=ks.length)(hats:ats[0]?=some t) :
  Local P ctx ⟨dst,.call ⟨.builtin .delete,#[x,kx],ats⟩,ty,pos,after,gd⟩ s ((s.setO id (.mapH nl ks ag (zI eK eV (AL.del m q)))).putD dst (.tup [])):=
 Local.openH hl fun bs ck=>(LR.delN inj hu K (by rw[Ze];exact hx) (by show look (zi id _ _) id=_;rw[zC,if_pos rfl]) (by rw[Ze];exact hk) hkp hn hats).post
  (Sub.trans (Sub.nToH (id:=id) (by rw[yc];show look (zi id _ _) id=_;rw[zC,if_pos rfl]))
   (Sub.same (by cases dst <;> rfl) (by cases dst <;> rfl) fun i=>by
    cases dst <;> (show look (zi id _ (zi id _ (zi id _ _))) i=look (zi id _ _) i;rw[Zd,zC,zC,zC];by_cases h:i=id <;> simp[h])))
include inj in
theorem LR.setInH{vx:Operand}{v:ν}{pv:PV}(hu:P.underlying t=some (.map kt et))(K:KeyOK P kt ks)(hx:s.ev x=some (.mp id))(hl:look s.objs id=some (.mapH nl ks ag (zI eK eV m)))
  (hk:s.ev kx=some kp) (hkp:kp=Jw ks (eK q)) (hn:(eK q).length=ks.length) (hv:s.ev vx=some pv) (hq:elP ag (eV v)=pv) (h1:ag=false->(eV v).length=1) (hin:AL.has m q=true) :
  Local P ctx ⟨none,.mapUpdate t x kx vx,ty,pos,after,gd⟩ s (s.setO id (.mapH nl ks ag (zI eK eV (AL.set m q v)))):=by
 cases nl with
 | true=>
  rintro a w ⟨g,hg⟩;exfalso;have h:=hg.objs id _ hl
  generalize hM:zI eK eV m=M at h
  cases h with
  | mapHNil=>
   cases m with
   | nil=>cases hin
   | cons y r=>simp[zI] at hM
 | false=>
  refine Local.openH hl fun bs ck=>Local.pre (Sub.trans (Sub.mapF (id:=id) (by show look (zi id _ _) id=_;rw[zC,if_pos rfl]) rfl) (Sub.same (t:={ s with objs:=zi id (.map ks ag (zI eK eV m) bs ck) s.objs }) rfl rfl fun i=>by
   show look (zi id _ (zi id _ _)) i=look (zi id _ _) i;rw[Zd])) ((LR.setIn (m:=m) (bs:=bs) (ck:=ck) (id:=id) inj hu K (by rw[Ze];exact hx) (by show look (zi id _ _) id=_;rw[zC,if_pos rfl]) (by rw[Ze];exact hk) hkp hn (by rw[Ze];exact hv) hq h1 hin).post
   (Sub.trans (Sub.toH (id:=id) (by show look (zi id _ _) id=_;rw[zC,if_pos rfl])) (Sub.same rfl rfl fun i=>by
    show look (zi id _ (zi id _ (zi id _ _))) i=look (zi id _ _) i;rw[Zd,zC,zC,zC]
    by_cases h:i=id <;> simp[h])))
theorem LR.eqlH{mm:List (List Int×List DV)}{t t' kt et:TypeId}(hu:P.underlying t=some (.map kt et))(hx:s.ev x=some (.mp id))(hl:look s.objs id=some (.mapH nl ks ag mm)) :
  Local P ctx ⟨dst,.binOp .eql t x (.const (.map none)) t',ty,pos,after,gd⟩ s (s.putD dst (.d (.v (.bool nl)))):=
 Local.openH hl fun bs ck=>(LR.eqlMapN hu (by rw[Ze];exact hx) (by show look (zi id _ _) id=_;rw[zC,if_pos rfl])).post (closeP hl)
end
inductive JCs (nm:List Nat):List PV->List PV->Prop
 | nil:JCs nm [] []
 | keep {p:PV} {cs cs':List PV} (h:p.named nm=true) (t:JCs nm cs cs'):JCs nm (p::cs) (p::cs')
 | junk {p:PV} {cs cs':List PV} (t:JCs nm cs cs'):JCs nm (p::cs) (.junk::cs')
inductive JOb (nm:List Nat):Ob->Ob->Prop
 | same {o:Ob} (h:o.named nm=true):JOb nm o o
 | cells {T:TypeId} {cs cs':List PV} (h:JCs nm cs cs'):JOb nm (.cells T cs) (.cells T cs')
inductive JObs (nm:List Nat):List (Nat×Ob)->List (Nat×Ob)->Prop
 | nil:JObs nm [] []
 | cons {k:Nat} {o o':Ob} {F F':List (Nat×Ob)} (h:JOb nm o o') (t:JObs nm F F'):JObs nm ((k,o)::F) ((k,o')::F')
theorem JCs.len{nm:List Nat}{cs cs':List PV}(h:JCs nm cs cs'):cs'.length=cs.length:=by
 induction h with
 | nil=>rfl
 | keep _ _ ih=>simp[ih]
 | junk _ ih=>simp[ih]
theorem JCs.get{nm:List Nat}{cs cs':List PV}(h:JCs nm cs cs'):∀ (i:Nat) (p:PV),cs'[i]?=some p->p=.junk\/cs[i]?=some p:=by
 induction h with
 | nil=>intro i p h;simp at h
 | keep _ _ ih=>
  intro i p h
  cases i with
  | zero=>exact .inr (by simpa using h)
  | succ i=>simpa using ih i p (by simpa using h)
 | junk _ ih=>
  intro i p h
  cases i with
  | zero=>exact .inl (by simpa using h.symm)
  | succ i=>simpa using ih i p (by simpa using h)
theorem JCs.named{nm:List Nat}{cs cs':List PV}(h:JCs nm cs cs'):PV.named.namedL nm cs'=true:=by
 induction h with
 | nil=>rfl
 | keep h _ ih=>simp only[PV.named.namedL,h,ih,Bool.and_self]
 | junk _ ih=>simp only[PV.named.namedL,PV.named,ih,Bool.and_self]
theorem JOb.named{nm:List Nat}{o o':Ob}(h:JOb nm o o'):o'.named nm=true:=by
 cases h with
 | same h=>exact h
 | cells h=>exact h.named
theorem JOb.rd{nm:List Nat}{o o':Ob}(h:JOb nm o o'){w:World}{g:zR}{S:Nat->Prop}{id:Nat}(hr:ObRd w g S id o):ObRd w g S id o':=by
 cases h with
 | same=>exact hr
 | cells h=>
  cases hr with
  | cells _ _ blk n us hgi hh hl hr' h1=>
   refine .cells _ _ blk n us hgi hh (h.len.trans hl) (fun i p u hp hu=>?_) h1;rcases h.get i p hp with rfl | h2
   ·exact .junk u
   ·exact hr' i p u h2 hu
theorem JObs.look{nm:List Nat}{F F':List (Nat×Ob)}(h:JObs nm F F'):∀ (id:Nat) (o':Ob),Go.Ep.look F' id=some o'->∃ o,Go.Ep.look F id=some o/\JOb nm o o':=by
 induction h with
 | nil=>intro id o' h;simp[Go.Ep.look] at h
 | cons h _ ih=>
  intro id o' hl;simp only[Go.Ep.look] at hl ⊢
  split at hl
  ·rename_i e;cases hl;exact⟨_,by rw[if_pos e],h⟩
  ·rename_i e;rw[if_neg e];exact ih id o' hl
theorem JU{l:List (Nat×Ob)}{i:Nat}(h:i∉l.map (·.1)):look l i=none:=by
 cases hl:look l i with
 | none=>rfl
 | some o=>exact absurd (zY hl) h
theorem OwnB.app{g:zR}{a b:List (Nat×Ob)}{k:Nat}(h:OwnB g (a++b) k):OwnB g a k\/OwnB g b k:=by
 obtain⟨id,o,n,h1,h2⟩:=h;rw[yk] at h1
 cases hl:look a id with
 | none=>rw[hl,Option.none_or] at h1;exact .inr ⟨id,o,n,h1,h2⟩
 | some q=>rw[hl,Option.some_or] at h1;exact .inl ⟨id,q,n,hl,h2⟩
theorem PObj.frame{G:Type}{P:Program}{f:FuncId}{ps:List PV}{os:List (Nat×Ob)}{pins ks:List Nat}{r:PV}{os':G->List (Nat×Ob)}(F F':List (Nat×Ob))(hc:PObj P f ps os pins r os')
  (hks:∀ gh,(os' gh).map (·.1)=ks) (hcl:∀ gh,(os' gh).all (fun x=>x.2.named ks)=true) (hr:r.named ks=true) (hd:((F.map (·.1)).all fun k=>!inL (os.map (·.1)) k&&!inL ks k)=true) (hj:JObs (pins++F.map (·.1)) F F') :
  PObj P f ps (os++F) (pins++F.map (·.1)) r (fun gh=>os' gh++F'):=by
 intro w g S vs hlen hreal hobs hdis;have hd1:∀ k∈F.map (·.1),k∉os.map (·.1)/\k∉ks:=fun k hk=>by
  have h:=List.all_eq_true.1 hd k hk;rw[Bool.and_eq_true,Bool.not_eq_true',Bool.not_eq_true',vl,vl] at h;exact h
 have xg:∀ {id o},look F id=some o->look (os++F) id=some o:=fun {id o} h=>by
  rw[yk,JU (hd1 id (zY h)).1,Option.none_or];exact h
 have ownL:∀ {b},OwnB g os b->OwnB g (os++F) b:=fun⟨id,o,n,h1,h2⟩=>⟨id,o,n,zn h1,h2⟩
 have ownR:∀ {b},OwnB g F b->OwnB g (os++F) b:=fun⟨id,o,n,h1,h2⟩=>⟨id,o,n,xg h1,h2⟩
 have hnF:∀ {id o b n},look F id=some o->g id=some (b,n)->¬ OwnB g os b:=fun {id o b n} h1 h2 ⟨id2,o2,n2,h3,h4⟩=>by
  have:=hobs.inj id id2 o o2 b n n2 (xg h1) (zn h3) h2 h4;subst this;exact(hd1 id (zY h1)).1 (zY h3)
 refine(hc w g S vs hlen hreal ⟨fun id o h=>hobs.rd id o (zn h),fun i j oi oj b n m hi hj=>hobs.inj i j oi oj b n m (zn hi) (zn hj),fun id o b n h=>hobs.lt id o b n (zn h)⟩ (fun b hb h=>hdis b hb (ownL h))).mono fun e w' ⟨u,g',gh,he,hpost⟩=>?_
 have hks':=hks gh;have hcl':=hcl gh
 let G':zR:=fun j=>if inL (F.map (·.1)) j then g j else g' j
 refine⟨u,G',gh,he,?_⟩;show JS w g S (os++F) (pins++F.map (·.1)) r (os' gh++F') w' G' u
 generalize os' gh=os1 at hpost hks' hcl' ⊢
 have gF:∀ {j},j∈F.map (·.1)->G' j=g j:=fun {j} h=>by simp only[G',zK.2 h,if_true]
 have gN:∀ {j},j∉F.map (·.1)->G' j=g' j:=fun {j} h=>by simp only[G',vl.2 h,Bool.false_eq_true,if_false]
 have gK:∀ {j},j∈ks->G' j=g' j:=fun {j} h=>gN fun h2=>(hd1 j h2).2 h
 have gP:∀ {j},j∈pins++F.map (·.1)->G' j=g j:=fun {j} h=>by
  by_cases hf:j∈F.map (·.1)
  ·exact gF hf
  ·rw[gN hf];exact hpost.pin j ((List.mem_append.1 h).resolve_right hf)
 have split:∀ {id o},look (os1++F') id=some o->(look os1 id=some o/\id∈ks)\/∃ o0,look F id=some o0/\JOb (pins++F.map (·.1)) o0 o:=fun {id o} h=>by
  rw[yk] at h
  cases hl:look os1 id with
  | none=>rw[hl,Option.none_or] at h;exact .inr (hj.look id o h)
  | some q=>rw[hl,Option.some_or] at h;cases h;exact .inl ⟨rfl,hks'▸zY hl⟩
 have hA:∀ b,uz w g S os g' os1 b->uz w g S (os++F) G' (os1++F') b:=fun b ⟨h1,h2⟩=>⟨by
  rcases h1 with h1 | h1 | h1
  ·exact .inl h1
  ·exact .inr (.inl (ownL h1))
  ·exact .inr (.inr h1),fun⟨id,o,n,hl,hgi⟩=>by
  rcases split hl with⟨h3,h4⟩ | ⟨o0,h3,h4⟩
  ·rw[gK h4] at hgi;exact h2 ⟨id,o,n,h3,hgi⟩
  ·rw[gF (zY h3)] at hgi;rcases h1 with h1 | h1 | h1
   ·exact hdis b h1 ⟨id,o0,n,xg h3,hgi⟩
   ·exact hnF h3 hgi h1
   ·have:=hobs.lt id o0 b n (xg h3) hgi;omega⟩
 have hS:∀ b,S b->b < w.heap.size->uz w g S (os++F) G' (os1++F') b:=fun b hb hlt=>⟨.inl hb,fun⟨id,o,n,hl,hgi⟩=>by
  rcases split hl with⟨h3,h4⟩ | ⟨o0,h3,h4⟩
  ·rw[gK h4] at hgi;rcases hpost.own b ⟨id,o,n,h3,hgi⟩ with h5 | h5
   ·exact hdis b hb (ownL h5)
   ·omega
  ·rw[gF (zY h3)] at hgi;exact hdis b hb ⟨id,o0,n,xg h3,hgi⟩⟩
 have hst:zx w w' S:=⟨hpost.grows,fun b hb hlt=>hpost.keep b hlt fun h=>hdis b hb (ownL h)⟩
 have hst':zx w' w' (uz w g S os g' os1):=⟨Nat.le_refl _,fun _ _ _=>rfl⟩
 refine⟨hpost.eos,hpost.tape,hpost.output,hpost.grows,fun k hk h=>hpost.keep k hk fun h2=>h (ownL h2),fun b ⟨id,o,n,hl,hgi⟩=>?_,fun id h=>gP h,?_,⟨fun id o hl=>?_,fun i j oi oj b n m hi hj' hgi hgj=>?_,fun id o b n hl hgi=>?_⟩⟩
 ·rcases split hl with⟨h3,h4⟩ | ⟨o0,h3,h4⟩
  ·rw[gK h4] at hgi;exact(hpost.own b ⟨id,o,n,h3,hgi⟩).imp ownL (fun h=>h)
  ·rw[gF (zY h3)] at hgi;exact .inl (ownR ⟨id,o0,n,h3,hgi⟩)
 ·exact hpost.res.keep hst' (fun b hb _=>hA b hb) fun j hjj=>gK (PV.named_has hr hjj)
 ·rcases split hl with⟨h3,h4⟩ | ⟨o0,h3,h4⟩
  ·have hn:=(List.all_eq_true.1 hcl') _ (yn h3);exact(hpost.obs.rd id o h3).keep hst' (fun b hb _=>hA b hb) (fun _ _ _=>rfl) (gK h4) fun j hjj=>gK (Ob.named_has hn hjj)
  ·exact(h4.rd (hobs.rd id o0 (xg h3))).keep hst hS (fun b n hgi=>hpost.keep b (hobs.lt id o0 b n (xg h3) hgi) (hnF h3 hgi)) (gF (zY h3)) fun j hjj=>gP (Ob.named_has h4.named hjj)
 ·rcases split hi with⟨h3,h4⟩ | ⟨o0,h3,h4⟩ <;> rcases split hj' with⟨h5,h6⟩ | ⟨o2,h5,h6⟩
  ·rw[gK h4] at hgi;rw[gK h6] at hgj;exact hpost.obs.inj i j oi oj b n m h3 h5 hgi hgj
  ·rw[gK h4] at hgi;rw[gF (zY h5)] at hgj;exfalso;rcases hpost.own b ⟨i,oi,n,h3,hgi⟩ with h7 | h7
   ·exact hnF h5 hgj h7
   ·have:=hobs.lt j o2 b m (xg h5) hgj;omega
  ·rw[gF (zY h3)] at hgi;rw[gK h6] at hgj;exfalso;rcases hpost.own b ⟨j,oj,m,h5,hgj⟩ with h7 | h7
   ·exact hnF h3 hgi h7
   ·have:=hobs.lt i o0 b n (xg h3) hgi;omega
  ·rw[gF (zY h3)] at hgi;rw[gF (zY h5)] at hgj;exact hobs.inj i j o0 o2 b n m (xg h3) (xg h5) hgi hgj
 ·rcases split hl with⟨h3,h4⟩ | ⟨o0,h3,h4⟩
  ·rw[gK h4] at hgi;exact hpost.obs.lt id o b n h3 hgi
  ·rw[gF (zY h3)] at hgi;exact Nat.lt_of_lt_of_le (hobs.lt id o0 b n (xg h3) hgi) hpost.grows
section
variable{ctx:Ctx}{s:PState}
inductive RSl (s:PState) (ρ:List (Nat×Nat)):List (Nat×PV)->Prop
 | nil:RSl s ρ []
 | cons {i:Nat} {p:PV} {r:List (Nat×PV)} (h:s.at i=some (p.ren ρ)) (t:RSl s ρ r):RSl s ρ ((i,p)::r)
theorem RSl.get{ρ:List (Nat×Nat)}{l:List (Nat×PV)}(h:RSl s ρ l):∀ i p,xy l i=some p->s.at i=some (p.ren ρ):=by
 induction h with
 | nil=>intro i p h;simp[xy] at h
 | cons h _ ih=>
  intro i p hl;rw[zo] at hl
  split at hl
  ·rename_i e;subst e;cases hl;exact h
  ·exact ih i p hl
end
theorem PObj.dropRow{G:Type}{P:Program}{f:FuncId}{ps:List PV}{os:List (Nat×Ob)}{pins:List Nat}{id n k:Nat}{e:TypeId}{l:List (List DV)}{os' os1:G->List (Nat×Ob)}(hc:PObj P f ps os pins (.row id n) os')(hos:∀ gh,os' gh=os1 gh++[(id,.row e k l)])(hn:n=l.length)(hk:∀ gh,(os1 gh).all (fun x=>!Nat.beq x.1 id)=true) :
  PObj P f ps os pins (.d (.sl l)) os1:=by
 intro w g S vs hlen hreal hobs hdis;refine(hc w g S vs hlen hreal hobs hdis).mono fun en w' ⟨u,g',gh,he,hpost⟩=>?_
 refine⟨u,g',gh,he,?_⟩;rw[hos gh] at hpost;have hk':=hk gh
 generalize os1 gh=o1 at hpost hk' ⊢
 have hne:∀ {i o},look o1 i=some o->i≠id:=fun {i o} h e=>by
  have:=List.all_eq_true.1 hk' _ (yn h);subst e;simp at this
 have hid:look (o1++[(id,.row e k l)]) id=some (.row e k l):=by
  rw[yk]
  cases h:look o1 id with
  | none=>simp[look]
  | some o=>exact absurd rfl (hne h)
 have ownL:∀ {b},OwnB g' o1 b->OwnB g' (o1++[(id,.row e k l)]) b:=fun⟨i,o,m,h1,h2⟩=>⟨i,o,m,zn h1,h2⟩
 have hA:∀ b,uz w g S os g' (o1++[(id,.row e k l)]) b->uz w g S os g' o1 b:=fun b ⟨h1,h2⟩=>⟨h1,fun h=>h2 (ownL h)⟩
 have hst:zx w' w' (uz w g S os g' (o1++[(id,.row e k l)])):=⟨Nat.le_refl _,fun _ _ _=>rfl⟩
 refine⟨hpost.eos,hpost.tape,hpost.output,hpost.grows,hpost.keep,fun b h=>hpost.own b (ownL h),hpost.pin,?_,⟨fun i o h=>(hpost.obs.rd i o (zn h)).keep hst (fun b hb _=>hA b hb) (fun _ _ _=>rfl) rfl (fun _ _=>rfl),fun i j oi oj b n m hi hj=>hpost.obs.inj i j oi oj b n m (zn hi) (zn hj),fun i o b n h=>hpost.obs.lt i o b n (zn h)⟩⟩;have hr:=hpost.res;have ho:=hpost.obs.rd id _ hid
 generalize u=v at hr
 cases ho with
 | rowNil _ _ hgn=>
  cases hr with
  | row _ _ blk cap hgi=>rw[hgn] at hgi;cases hgi
  | rowNil=>exact .d (.nil none 0 (Nat.zero_le _) (fun _=>rfl))
 | row _ _ _ blk' cap' cur hgi hh hlc hcap hcs hkk hr'=>
  cases hr with
  | rowNil _ hgn=>rw[hgn] at hgi;cases hgi
  | row _ _ blk cap hgi'=>
   rw[hgi] at hgi'
   cases hgi'
   subst hn;have hlt:=hpost.obs.lt id _ blk' cap' hid hgi;have hfree:uz w g S os g' o1 blk':=⟨.inr (hpost.own blk' ⟨id,_,cap',hid,hgi⟩),fun⟨i,o,m,h1,h2⟩=>hne h1 (hpost.obs.inj i id o _ blk' m cap' (zn h1) hid h2 hgi)⟩
   refine .d (.sl l blk' 0 cap' k (fun i j=>cur.getD (i*k+j) undef) hlc hcap hfree hlt hkk ?_ ?_)
   ·intro i j hi hj;have hlt:i*k+j < cur.length:=by rw[hcs];exact vL (by omega) hj
    rw[zP hh];simp[hlt]
   ·intro i cs j x hi hx;obtain⟨u,hu,hd⟩:=hr' i cs j x hi hx;have e:cur.getD (i*k+j) undef=u:=by simp[List.getD,hu]
    show DRd w' _ x (cur.getD (i*k+j) undef);rw[e];exact hd.keep hst (fun b hb _=>hA b hb)
inductive LookIn (os':List (Nat×Ob)):List (Nat×Ob)->Prop
 | nil:LookIn os' []
 | cons {i:Nat} {o:Ob} {r:List (Nat×Ob)} (h:Go.Ep.look os' i=some o) (t:LookIn os' r):LookIn os' ((i,o)::r)
theorem LookIn.get{os' l:List (Nat×Ob)}(h:LookIn os' l):∀ i o,Go.Ep.look l i=some o->Go.Ep.look os' i=some o:=by
 induction h with
 | nil=>intro i o h;simp[Go.Ep.look] at h
 | cons h _ ih=>
  intro j o2 hl;simp only[Go.Ep.look] at hl
  split at hl
  ·rename_i e;subst e;cases hl;exact h
  ·exact ih j o2 hl
theorem qO{ρ:List (Nat×Nat)}{acc:List (Nat×Ob)}{i:Nat}{o:Ob}:∀ {l:List (Nat×Ob)},look l i=some o->(∀ j∈l.map (·.1),rn ρ j=rn ρ i->j=i)->look (l.foldr (fun x l=>zi (rn ρ x.1) (x.2.ren ρ) l) acc) (rn ρ i)=some (o.ren ρ)
 | [],h,_=>by simp[look] at h
 | (k,q)::r,h,hi=>by
  rw[List.foldr_cons,zC]
  by_cases e:rn ρ i=rn ρ k
  ·rw[if_pos e];have:=hi k (by simp) e.symm;subst this;simp[look] at h;rw[h]
  ·rw[if_neg e];refine qO (l:=r) ?_ (fun j hj=>hi j (by simp only[List.map_cons,List.mem_cons];exact .inr hj));simp only[look] at h;rw[if_neg (fun e2=>e (by rw[e2]))] at h;exact h
theorem lookN{ρ:List (Nat×Nat)}{acc:List (Nat×Ob)}{j:Nat}:∀ {l:List (Nat×Ob)},(∀ i∈l.map (·.1),rn ρ i≠j)->look (l.foldr (fun x l=>zi (rn ρ x.1) (x.2.ren ρ) l) acc) j=look acc j
 | [],_=>rfl
 | (k,q)::r,h=>by
  rw[List.foldr_cons,zC,if_neg (fun e=>h k (by simp) e.symm)];exact lookN fun i hi=>h i (by simp only[List.map_cons,List.mem_cons];exact .inr hi)
theorem QY{ρ:List (Nat×Nat)}{acc:List (Nat×Ob)}{j:Nat}:∀ {l:List (Nat×Ob)},(∀ i∈l.map (·.1),rn ρ i≠j)->look (l.foldr (fun x l=>uL (rn ρ x.1) l) acc) j=look acc j
 | [],_=>rfl
 | (k,q)::r,h=>by
  rw[List.foldr_cons,yb,if_neg (fun e=>h k (by simp) e.symm)];exact QY fun i hi=>h i (by simp only[List.map_cons,List.mem_cons];exact .inr hi)
theorem jB{l:List (Nat×Ob)}{i:Nat}(h:i∈l.map (·.1)):∃ o,look l i=some o:=by
 cases hl:look l i with
 | some o=>exact⟨o,rfl⟩
 | none=>
  exfalso
  induction l with
  | nil=>cases h
  | cons x r ih=>
   simp only[look] at hl
   split at hl
   ·cases hl
   ·rename_i e
    simp only[List.map_cons,List.mem_cons] at h;exact ih (h.resolve_left e) hl
section
variable{P:Program}{ctx:Ctx}{Q:PState->Prop}{s:PState}{ops:Array Oper}{rest:List Oper}{fs:List Ft}{f:Ft}
variable{dst:Option Tmp}{ty:TypeId}{pos:String}{after:Array Edge}{gd:Option (Nat×Bool)}
theorem PQe.callObjS{x:Operand}{xs:List Operand}{ats:Array TypeId}{fn:FuncId}{ps qs:List PV}{os os':List (Nat×Ob)}{pins:List Nat}{r:PV}(ρ:List (Nat×Nat))(js ks:List Nat)(osV osS:List (Nat×Ob))
  (hc:PObj P fn ps os pins r (fun _:Unit=>os')) (hK:∀ b,ctx.K b->ctx.S b)
  (hev:∀ s':PState,(∀ {y q},xU (⟨dst,.call ⟨.value x,xs.toArray,ats⟩,ty,pos,after,gd⟩:Oper) y=true->s.ev y=some q->s'.ev y=some q)->s'.ev x=some (.d (.v (.func (.func fn) #[] #[])))/\s'.evs xs=some qs)
  (he:∀ args w,(callFunc fn args).run P w=.ok (.enter fn args) w) (hq:qs.map PV.nilD=ps.map (PV.ren ρ)) (hos:AllOb s ρ os) (hV:LookIn os' osV) (hS:LookIn os' osS) (hAS:AllOb s ρ osS) (hcov:(os'.map (·.1)).all (fun i=>inL (osV.map (·.1)) i||inL (osS.map (·.1)) i)=true) (hSo:(osS.map (·.1)).all (inL (os.map (·.1)))=true)
  (hks:os'.map (·.1)=ks) (hcl:os'.all (fun x=>x.2.named ks)=true) (hr:r.named ks=true) (hok:calO ρ js (os.map (·.1)) pins ks f=true)
  (hg:Wd ops (⟨dst,.call ⟨.value x,xs.toArray,ats⟩,ty,pos,after,gd⟩:Oper) s) (hk:okE f (Xv ρ js dst r osV)=true) (h:PQe P ctx ops Q rest fs (s.app (Xv ρ js dst r osV))) :
  PQe P ctx ops Q (⟨dst,.call ⟨.value x,xs.toArray,ats⟩,ty,pos,after,gd⟩::rest) (f::fs) s:=by
 simp only[calO,Bool.and_eq_true] at hok;obtain⟨⟨⟨⟨⟨c1,c2⟩,c3⟩,c4⟩,c5⟩,c6⟩:=hok;refine .step (e:=Xv ρ js dst r osV) (fun s' hn hee ho hfr hal=>?_) hg hk h;obtain⟨h1,h2⟩:=hev s' (fun hx hq=>hee hx hq);have hinj:∀ i j,i∈os.map (·.1)++ks->j∈os.map (·.1)++ks->rn ρ i=rn ρ j->i=j:=fun i j hi hj e=>by
  have h3:=List.all_eq_true.1 (List.all_eq_true.1 c1 i hi) j hj;rw[Bool.or_eq_true,Bool.not_eq_true'] at h3;rcases h3 with h | h
  ·exact Nat.eq_of_beq_eq_true h
  ·rw[e,Nat.beq_refl] at h;cases h
 have hok':vN s' ρ js (os.map (·.1)) pins ks=true:=by
  unfold vN;rw[Bool.and_eq_true,Bool.and_eq_true];refine⟨⟨c1,?_⟩,?_⟩
  ·rw[List.all_eq_true] at c2 ⊢;intro i hi;have:=c2 i hi;rw[Bool.or_eq_true] at this ⊢;exact this.imp (fun h=>h) fun h=>hfr _ (zK.1 h)
  ·rw[List.all_eq_true] at c5 ⊢;intro i hi;have:=c5 i hi;rw[Bool.or_eq_true,Bool.or_eq_true] at this;rw[Bool.or_eq_true];rcases this with(h | h) | h
   ·exact .inl h
   ·refine .inr ?_;have hf:=hfr _ (zK.1 h);rw[Bool.and_eq_true];refine⟨VS js hf,?_⟩;simp only[PState.fresh,Bool.and_eq_true,List.all_eq_true] at hf;rw[List.all_eq_true];intro y hy;rw[Bool.or_eq_true];exact .inl (hf.2 y hy).2
   ·refine .inr ?_;obtain⟨a,ha1,ha2⟩:=List.any_eq_true.1 h;simp only[Bool.and_eq_true,beq_iff_eq] at ha2;have hx:=hal a ha1;rw[Nat.eq_of_beq_eq_true ha2.1,ha2.2] at hx;unfold PState.aloneX at hx;rw[Bool.and_eq_true,zw] at hx;rw[Bool.and_eq_true];refine⟨hx.1,?_⟩;rw[List.all_eq_true] at c4;have hx2:=hx.2;rw[List.all_eq_true] at hx2 ⊢;intro y hy;have:=hx2 y hy;rw[Bool.or_eq_true] at this ⊢;rcases this with h | h
    ·exact .inr (c4 _ (zK.1 h))
    ·exact .inl h
 have hl:=LR.callObj (P:=P) (ctx:=ctx) (dst:=dst) (ty:=ty) (pos:=pos) (after:=after) (gd:=gd) (ats:=ats) ρ js ks hc hK h1 he h2 hq (hos.keep (fun hi hl=>ho (zK.1 hi) hl) c6) hks hcl hr hok';have hAS':AllOb s' ρ osS:=hAS.keep (f:=f) (fun hi hl=>ho (zK.1 hi) hl) (by
  rw[List.all_eq_true] at c6 hSo ⊢;exact fun i hi=>c6 i (zK.1 (hSo i hi)))
 refine hl.post (Sub.drop ?_ ?_ ?_)
 ·cases dst <;> rfl
 ·intro i p hp;have hat:=xI hp;have hlt:i < s'.n:=Yp (s:=s'.app (Xv ρ js dst r osV)) hp;refine Xw (by cases dst <;> exact hlt) ?_;simp only[PState.app,Xv] at hat
  cases dst with
  | none=>simpa[WV,PState.putD,PState.callO,xF] using hat
  | some d=>simpa[WV,PState.putD,PState.put,PState.callO,xF] using hat
 ·intro id o hlo;have e1:(s'.app (Xv ρ js dst r osV)).objs=osV.foldr (fun x l=>zi (rn ρ x.1) (x.2.ren ρ) l) s'.objs:=by
   simp only[PState.app,Xv,List.foldr_map]
  have e2:((s'.callO ρ js os os').putD dst (r.ren ρ)).objs=os'.foldr (fun x l=>zi (rn ρ x.1) (x.2.ren ρ) l) (os.foldr (fun x l=>uL (rn ρ x.1) l) s'.objs):=by cases dst <;> rfl
  rw[e1] at hlo;rw[e2];have inj':∀ i,i∈os'.map (·.1)->∀ j∈os'.map (·.1),rn ρ j=rn ρ i->j=i:=fun i hi j hj e=>hinj j i (List.mem_append_right _ (hks▸hj)) (List.mem_append_right _ (hks▸hi)) e
  rcases xg hlo with⟨i,o1,h3,h4,h5⟩ | ⟨h3,h4⟩
  ·have h6:=hV.get i o1 h3;rw[h4,h5];exact qO h6 (inj' i (zY h6))
  ·by_cases hex:∃ i∈os'.map (·.1),rn ρ i=id
   ·obtain⟨i,hi,rfl⟩:=hex;have h5:=List.all_eq_true.1 hcov i hi;rw[Bool.or_eq_true] at h5;rcases h5 with h5 | h5
    ·exact absurd rfl (h3 i (zK.1 h5))
    ·obtain⟨o2,h6⟩:=jB (zK.1 h5);have h7:=hAS'.get i o2 h6;rw[h4] at h7
     cases h7
     exact qO (hS.get i o2 h6) (inj' i hi)
   ·rw[lookN fun i hi e=>hex ⟨i,hi,e⟩,QY fun i hi e=>hex ⟨i,by rw[hks];exact zK.1 (List.all_eq_true.1 c3 i hi),e⟩];exact h4
end
section
variable{P:Program}{ctx:Ctx}{s:PState}
variable{dst:Option Tmp}{ty:TypeId}{pos:String}{after:Array Edge}{gd:Option (Nat×Bool)}
theorem ySa{os os':List (Nat×Ob)}{pins:List Nat}{r:PV}(ρ:List (Nat×Nat))(js ks:List Nat)(osV osS:List (Nat×Ob))(hV:LookIn os' osV)(hS:LookIn os' osS)(hAS:AllOb s ρ osS)(hcov:(os'.map (·.1)).all (fun i=>inL (osV.map (·.1)) i||inL (osS.map (·.1)) i)=true)(c3:(os.map (·.1)).all (inL ks)=true)
  (hks:os'.map (·.1)=ks) (hok:vN s ρ js (os.map (·.1)) pins ks=true):Sub ctx ((s.callO ρ js os os').putD dst (r.ren ρ)) (s.app (Xv ρ js dst r osV)):=by
 have hinj:∀ i j,i∈os.map (·.1)++ks->j∈os.map (·.1)++ks->rn ρ i=rn ρ j->i=j:=fun i j hi hj e=>by
  simp only[vN,Bool.and_eq_true] at hok;have h3:=List.all_eq_true.1 (List.all_eq_true.1 hok.1.1 i hi) j hj;rw[Bool.or_eq_true,Bool.not_eq_true'] at h3;rcases h3 with h | h
  ·exact Nat.eq_of_beq_eq_true h
  ·rw[e,Nat.beq_refl] at h;cases h
 refine Sub.drop ?_ ?_ ?_
 ·cases dst <;> rfl
 ·intro i p hp;have hat:=xI hp;have hlt:i < s.n:=Yp (s:=s.app (Xv ρ js dst r osV)) hp;refine Xw (by cases dst <;> exact hlt) ?_;simp only[PState.app,Xv] at hat
  cases dst with
  | none=>simpa[WV,PState.putD,PState.callO,xF] using hat
  | some d=>simpa[WV,PState.putD,PState.put,PState.callO,xF] using hat
 ·intro id o hlo;have e1:(s.app (Xv ρ js dst r osV)).objs=osV.foldr (fun x l=>zi (rn ρ x.1) (x.2.ren ρ) l) s.objs:=by
   simp only[PState.app,Xv,List.foldr_map]
  have e2:((s.callO ρ js os os').putD dst (r.ren ρ)).objs=os'.foldr (fun x l=>zi (rn ρ x.1) (x.2.ren ρ) l) (os.foldr (fun x l=>uL (rn ρ x.1) l) s.objs):=by cases dst <;> rfl
  rw[e1] at hlo;rw[e2];have inj':∀ i,i∈os'.map (·.1)->∀ j∈os'.map (·.1),rn ρ j=rn ρ i->j=i:=fun i hi j hj e=>hinj j i (List.mem_append_right _ (hks▸hj)) (List.mem_append_right _ (hks▸hi)) e
  rcases xg hlo with⟨i,o1,h3,h4,h5⟩ | ⟨h3,h4⟩
  ·have h6:=hV.get i o1 h3;rw[h4,h5];exact qO h6 (inj' i (zY h6))
  ·by_cases hex:∃ i∈os'.map (·.1),rn ρ i=id
   ·obtain⟨i,hi,rfl⟩:=hex;have h5:=List.all_eq_true.1 hcov i hi;rw[Bool.or_eq_true] at h5;rcases h5 with h5 | h5
    ·exact absurd rfl (h3 i (zK.1 h5))
    ·obtain⟨o2,h6⟩:=jB (zK.1 h5);have h7:=hAS.get i o2 h6;rw[h4] at h7
     cases h7
     exact qO (hS.get i o2 h6) (inj' i hi)
   ·rw[lookN fun i hi e=>hex ⟨i,hi,e⟩,QY fun i hi e=>hex ⟨i,by rw[hks];exact zK.1 (List.all_eq_true.1 c3 i hi),e⟩];exact h4
theorem LR.callObjS{x:Operand}{xs:List Operand}{ats:Array TypeId}{fn:FuncId}{ps qs:List PV}{os os':List (Nat×Ob)}{pins:List Nat}{r:PV}(ρ:List (Nat×Nat))(js ks:List Nat)(osV osS:List (Nat×Ob))
  (hc:PObj P fn ps os pins r (fun _:Unit=>os')) (hK:∀ b,ctx.K b->ctx.S b) (hx:s.ev x=some (.d (.v (.func (.func fn) #[] #[])))) (he:∀ args w,(callFunc fn args).run P w=.ok (.enter fn args) w) (hps:s.evs xs=some qs)
  (hq:qs.map PV.nilD=ps.map (PV.ren ρ)) (hos:AllOb s ρ os) (hV:LookIn os' osV) (hS:LookIn os' osS) (hAS:AllOb s ρ osS) (hcov:(os'.map (·.1)).all (fun i=>inL (osV.map (·.1)) i||inL (osS.map (·.1)) i)=true) (c3:(os.map (·.1)).all (inL ks)=true)
  (hks:os'.map (·.1)=ks) (hcl:os'.all (fun x=>x.2.named ks)=true) (hr:r.named ks=true) (hok:vN s ρ js (os.map (·.1)) pins ks=true) :
  Local P ctx ⟨dst,.call ⟨.value x,xs.toArray,ats⟩,ty,pos,after,gd⟩ s (s.app (Xv ρ js dst r osV)):=
 (LR.callObj (P:=P) (ctx:=ctx) (dst:=dst) (ty:=ty) (pos:=pos) (after:=after) (gd:=gd) (ats:=ats) ρ js ks hc hK hx he hps hq hos hks hcl hr hok).post (ySa ρ js ks osV osS hV hS hAS hcov c3 hks hok)
end
end Go.Ep
namespace Go.Ep
open Go.RowKit
section
variable{P:Program}{ctx:Ctx}{s:PState}
variable{dst:Option Tmp}{ty:TypeId}{pos:String}{after:Array Edge}{gd:Option (Nat×Bool)}
theorem LR.buildR{t:TypeId}{places:List (Nat×Nat)}{zs:List Value}{parts:Array (Nat×Operand)}{ps:List (Nat×PV)}{ns:List PV}(hB:Yr P t places zs)(hz1:(zs.all Value.oneCell')=true)(hps:s.evp parts.toList=some ps)(hns:zOa places (zs.map fun z=>PV.d (.v z)) ps=some ns) :
  Local P ctx ⟨dst,.build t parts,ty,pos,after,gd⟩ s (s.putD dst (.agg ns)):=
 zD (o:=⟨dst,.build t parts,ty,pos,after,gd⟩) fun a w g hg=>by
  have hz1':∀ u∈zs,u.oneCell'=true:=by simpa using hz1
  obtain⟨vs,h1,h2,h3,h4⟩:=qB (w:=w) (g:=g) (S:=zZ ctx g s.objs) ps (parts.toList.map fun x=>(x.1,a.eval x.2)) (zs.map fun z=>PV.d (.v z)) zs ns (by simpa using qC hps) (by
   intro j p r hp hr;rw[List.getElem?_map] at hr
   cases hx:parts.toList[j]? with
   | none=>simp[hx] at hr
   | some x=>
    simp[hx] at hr;subst hr;obtain⟨e1,e2⟩:=qD hps hp hx;exact⟨e1,hg.ev e2⟩) (by simp) (by
   intro i p u hp hu;simp[hu] at hp;subst hp;exact .d (.v u (hz1' u (List.mem_of_getElem? hu)))) hz1' hns
  refine⟨.agg vs.toArray,?_,.agg ns vs h2 h3 h4⟩;have hb:P.built t (parts.map fun(i,x)=>(i,a.eval x)).toList=some vs.toArray:=by
   rw[hB];simpa using h1
  have hrun:=run_build w t (parts.map fun(i,x)=>(i,a.eval x)) vs.toArray hb;simp only[execOp,Sem.run_bind,hrun,Result.andThen_ok,Sem.run_pure]
end
section
variable{P:Program}{ctx:Ctx}{ops:Array Oper}{Q:PState->Prop}{s:PState}
variable{dst:Option Tmp}{ty:TypeId}{pos:String}{after:Array Edge}{gd:Option (Nat×Bool)}
variable{α:Type}{enc:α->List DV}{L R:List α}{x y:Operand}{id oid m k bs' j:Nat}{t t' e e' T:TypeId}{cs:List PV}
end
end Go.Ep
namespace Go.Ep
theorem EndsO.mkX{G:Type}{P:Program}{ctx:Ctx}{fn:Func}{pl ex:List (Nat×Ob)}{r:PV}{os':G->List (Nat×Ob)}{e:Exit}{s:PState}(gh:G){n:Nat}{sl:List (Nat×PV)}{ps:List PV}(he:e=.normal\/e=.ret)(hsub:Sub ctx s ⟨n,sl,(os' gh++pl)++ex⟩)
  (hres:qL P ⟨n,sl,(os' gh++pl)++ex⟩ fn.results.toList ps) (hq:z9a ps=r) (hd:(pl.all fun x=>!inL ((os' gh).map (·.1)) x.1)=true):EndsO P ctx fn pl r os' e s:=by
 refine⟨he,gh,ps,_,hsub,hres,hq,fun id o h=>zn (zn h),fun id o h=>zn ?_⟩;rw[yk]
 cases hl:look (os' gh) id with
 | none=>rw[Option.none_or];exact h
 | some q=>
  have h1:=List.all_eq_true.1 hd _ (yn h);have h2:=zK.2 (zY hl);rw[h2] at h1;cases h1
end Go.Ep
namespace Go.Ep
open Go.RowKit
theorem DRd0.mono{w:World}{z:Bool}{S S':Nat->Prop}(hS:∀ b,S b->S' b){x:DV}{u:Value}(h:DRd0 w z S x u):DRd0 w z S' x u:=h.keep ⟨Nat.le_refl _,fun _ _ _=>rfl⟩ fun b hb _=>hS b hb
def Plain(x:DV):Prop:=∀ (w:World) (S:Nat->Prop) (u:Value),DRd w S x u->DRd0 w false S x u
theorem Plain.v(x:Value):Plain (.v x):=fun w S u h=>by cases h with | v _ h=>exact .v x h
theorem Plain.sl{l:List (List DV)}(h:∀ cs∈l,∀ x∈cs,Plain x):Plain (.sl l):=fun w S u hd=>by
 cases hd with
 | nil a cap hc hn=>exact .nil a cap hc hn
 | sl _ b off cap k c hl hcap hs hb hkk hc hr=>
  exact .sl l b off cap k c hl hcap hs hb (fun h=>by cases h) hkk hc fun i cs j x hi hx=>h cs (List.mem_of_getElem? hi) x (List.mem_of_getElem? hx) _ _ _ (hr i cs j x hi hx)
theorem Plain.slm{α:Type}{enc:α->List DV}(h:∀ a,∀ x∈enc a,Plain x)(l:List α):Plain (.sl (l.map enc)):=.sl fun cs hcs x hx=>by
 obtain⟨a,_,rfl⟩:=List.mem_map.1 hcs;exact h a x hx
theorem DRd0.bound{w:World}{z:Bool}{S:Nat->Prop}{x:DV}{u:Value}(h:DRd0 w z S x u):DRd0 w z (fun b=>S b/\b < w.heap.size) x u:=by
 induction h with
 | v x h=>exact .v x h
 | nil a cap hc hn=>exact .nil a cap hc hn
 | sl l b off cap k c hl hcap hs hb hz hkk hc hr ih=>exact .sl l b off cap k c hl hcap ⟨hs,hb⟩ hb hz hkk hc ih
def MonoD(d:(Nat->Prop)->DV):Prop:=∀ (w:World) (S N N':Nat->Prop) (u:Value),(∀ b,N b->N' b)->DRd w S (d N) u->DRd w S (d N') u
theorem MonoD.const(x:DV):MonoD fun _=>x:=fun _ _ _ _ _ _ h=>h
theorem MonoD.nw(x:DV):MonoD fun N=>.nw N x:=fun w S N N' u hN h=>by
 cases h with
 | nw _ _ _ h=>exact .nw _ _ _ (h.mono fun b hb=>⟨hb.1,hN b hb.2⟩)
def MonoP(r:(Nat->Prop)->PV):Prop:=∀ (w:World) (g:zR) (S N N':Nat->Prop) (u:Value),(∀ b,N b->N' b)->Rd w g S (r N) u->Rd w g S (r N') u
theorem MonoP.d{x:(Nat->Prop)->DV}(h:MonoD x):MonoP fun N=>.d (x N):=fun w g S N N' u hN hr=>by
 cases hr with
 | d hd=>exact .d (h w S N N' u hN hd)
inductive MonoL : ((Nat->Prop)->List PV)->Prop
 | nil:MonoL fun _=>[]
 | cons {p:(Nat->Prop)->PV} {l:(Nat->Prop)->List PV} (h:MonoP p) (t:MonoL l):MonoL fun N=>p N::l N
theorem MonoL.get{l:(Nat->Prop)->List PV}(h:MonoL l):(∀ N N',(l N).length=(l N').length)/\∀ (i:Nat),(∀ N,(l N)[i]?=none)\/∃ p,MonoP p/\∀ N,(l N)[i]?=some (p N):=by
 induction h with
 | nil=>exact⟨fun _ _=>rfl,fun i=>.inl fun N=>by simp⟩
 | cons h t ih=>
  refine⟨fun N N'=>by simp[ih.1 N N'],fun i=>?_⟩
  cases i with
  | zero=>exact .inr ⟨_,h,fun N=>by simp⟩
  | succ i=>
   rcases ih.2 i with h0 | ⟨p,hp,h1⟩
   ·exact .inl fun N=>by simpa using h0 N
   ·exact .inr ⟨p,hp,fun N=>by simpa using h1 N⟩
theorem MonoP.agg{l:(Nat->Prop)->List PV}(h:MonoL l):MonoP fun N=>.agg (l N):=fun w g S N N' u hN hr=>by
 cases hr with
 | agg cs us hl hh h1=>
  refine .agg _ us ((h.get.1 N' N).trans hl) (fun i p u hp hu=>?_) h1;rcases h.get.2 i with h0 | ⟨q,hq,h2⟩
  ·rw[h0] at hp;cases hp
  ·rw[h2] at hp;cases hp;exact hq w g S N N' u hN (hh i _ u (h2 N) hu)
def PNew(P:Program)(f:FuncId)(ps:List PV)(r:(Nat->Prop)->PV):Prop:=∀ (w:World) (S:Nat->Prop),FunAt P f ps (r fun b=>w.heap.size<=b) w S
def jC(ctx:Ctx):Nat->Prop:=fun b=>ctx.w0.heap.size<=b
theorem PNew.intro{P:Program}{f:FuncId}{fn:Func}{c:Code}{ps:List PV}{r:(Nat->Prop)->PV}{n:Nat}{sl:List (Nat×PV)}(hf:P.funcs[f]?=some fn)(hb:fn.body=some c)(hn:fn.ntmps=n)(hsl:args 0 ps=sl)(hpn:Nat.ble ps.length n=true)
  (body:∀ ctx:Ctx,(∀ b,ctx.K b->ctx.S b)->(∀ b,¬ ctx.K b)->PWc P ctx c (Ends P fn (r (jC ctx))) ⟨n,sl,[]⟩):PNew P f ps r:=
 fun w S=>FunAt.intro hf hb hn hsl hpn (body ⟨w,S,fun _=>False⟩ (fun _ h=>h.elim) fun _ h=>h)
theorem PNew.nilD{P:Program}{f:FuncId}{ps:List PV}{r:(Nat->Prop)->PV}(h:PNew P f (ps.map PV.nilD) r):PNew P f ps r:=fun w S vs hl hv=>
 h w S vs (by simpa using hl) fun i p v hp hu=>by
  rw[List.getElem?_map] at hp
  cases hq:ps[i]? with
  | none=>simp[hq] at hp
  | some q=>simp[hq] at hp;subst hp;exact(hv i q v hq hu).nilD
def flatL(l:List (List DV)):Prop:=∀ cs∈l,∀ x∈cs,∃ v,x=.v v
theorem flatL.map{α:Type}{enc:α->List DV}(h:∀ a,∀ x∈enc a,∃ v,x=.v v)(l:List α):flatL (l.map enc):=fun cs hcs x hx=>by
 obtain⟨a,_,rfl⟩:=List.mem_map.1 hcs;exact h a x hx
theorem RowRd.new{w:World}{S:Nat->Prop}{base:Nat}{e:TypeId}{k:Nat}{l:List (List DV)}{u:Value}(h:RowRd w S base e k l u)(hf:flatL l):DRd0 w true (fun b=>(S b\/base<=b)/\base<=b) (.sl l) u:=by
 cases h with
 | nil=>exact .nil none 0 (Nat.zero_le _) (fun _=>rfl)
 | row _ blk cap cur hb hh hlc hcap hcs hk hr=>
  refine .sl l blk 0 cap k (fun i j=>cur.getD (i*k+j) undef) hlc hcap ⟨.inr hb,hb⟩ (Array.getElem?_eq_some_iff.1 hh).1 (fun _=>⟨_,_,hh⟩) hk ?_ ?_
  ·intro i j hi hj;have hlt:i*k+j < cur.length:=by rw[hcs];exact vL (by omega) hj
   rw[zP hh];simp[hlt]
  ·intro i cs j x hi hx;obtain⟨u,hu,hd⟩:=hr i cs j x hi hx;have e:cur.getD (i*k+j) undef=u:=by simp[List.getD,hu]
   show DRd0 w true _ x (cur.getD (i*k+j) undef);rw[e];obtain⟨v,rfl⟩:=hf cs (List.mem_of_getElem? hi) x (List.mem_of_getElem? hx)
   cases hd with
   | v _ h=>exact .v _ h
theorem PRow.new{P:Program}{f:FuncId}{ps:List PV}{e:TypeId}{k:Nat}{l:List (List DV)}(h:PRow P f ps e k l)(hf:flatL l):PNew P f ps fun N=>.d (.nw N (.sl l)):=
 fun w S vs hl hv=>(h w S vs hl hv).mono fun _ _ ⟨u,he,hb,hr⟩=>⟨u,he,hb,.d (.nw _ _ _ (hr.new hf))⟩
section
variable{P:Program}{ctx:Ctx}{Q:PQ}{s:PState}
variable{dst:Option Tmp}{ty:TypeId}{pos:String}{after:Array Edge}{gd:Option (Nat×Bool)}
theorem LR.callNw{x:Operand}{xs:List Operand}{ats:Array TypeId}{f:FuncId}{ps qs:List PV}{r:(Nat->Prop)->PV}(hc:PNew P f ps r)(hm:MonoP r)(hx:s.ev x=some (.d (.v (.func (.func f) #[] #[]))))(he:∀ args w,(callFunc f args).run P w=.ok (.enter f args) w)
  (hps:s.evs xs=some qs) (hq:qs.map PV.nilD=ps) (hd:PV.isData.isDataL ps=true) (hr:(r (jC ctx)).isData=true) :
  Local P ctx ⟨dst,.call ⟨.value x,xs.toArray,ats⟩,ty,pos,after,gd⟩ s (s.putD dst (r (jC ctx))):=by
 subst hq;exact LR.callAt (fun _ w g hg vs hl hv=>(hc.nilD w (zZ ctx g s.objs) vs hl hv).mono fun e w' ⟨u,h1,h2,h3⟩=>⟨u,h1,h2,hm _ _ _ _ _ _ (fun b hb=>Nat.le_trans hg.grows hb) h3⟩) hx he hps (xi hd) hr
theorem DRd.unmark{w:World}{S N:Nat->Prop}{x:DV}{u:Value}(h:DRd w S (.nw N x) u):DRd w S x u:=by
 cases h with
 | nw _ _ _ h=>exact(h.mono fun _ hb=>hb.1).up
def Unm(N:Nat->Prop)(l l0:List (List DV)):Prop:=l.length=l0.length/\(∀ (i:Nat) (cs cs0:List DV),l[i]?=some cs->l0[i]?=some cs0->cs.length=cs0.length) /\
 ∀ (w:World) (S:Nat->Prop) (i j:Nat) (cs cs0:List DV) (x x0:DV) (u:Value),l[i]?=some cs->l0[i]?=some cs0->cs[j]?=some x->cs0[j]?=some x0->DRd w S x u->DRd0 w true (fun b=>S b/\N b) x0 u
theorem Unm.map{N:Nat->Prop}{α:Type}{encN enc:α->List DV}(hl:∀ a,(encN a).length=(enc a).length)(h:∀ (w:World) (S:Nat->Prop) (a:α) (j:Nat) (x x0:DV) (u:Value),(encN a)[j]?=some x->(enc a)[j]?=some x0->DRd w S x u->DRd0 w true (fun b=>S b/\N b) x0 u)(l:List α):Unm N (l.map encN) (l.map enc):=by
 refine⟨by simp,fun i cs cs0 h1 h2=>?_,fun w S i j cs cs0 x x0 u h1 h2 h3 h4 h5=>?_⟩
 ·rw[List.getElem?_map] at h1 h2
  cases ha:l[i]? with
  | none=>simp[ha] at h1
  | some a=>simp[ha] at h1 h2;subst h1 h2;exact hl a
 ·rw[List.getElem?_map] at h1 h2
  cases ha:l[i]? with
  | none=>simp[ha] at h1
  | some a=>simp[ha] at h1 h2;subst h1 h2;exact h w S a j x x0 u h3 h4 h5
end
end Go.Ep
namespace Go.Ep
open Go.RowKit
section
variable{P:Program}{ctx:Ctx}{ops:Array Oper}
theorem jD{β:Type}:∀ {l l':List (Option β)} {E:Nat->Bool} {b:Nat} {c:Option β},l.length=l'.length->(∀ j,E (b+j)=true->l[j]?=l'[j]?)->UW l E b c=UW l' E b c
 | [],[],_,_,_,_,_=>rfl
 | [],_::_,_,_,_,hl,_=>by cases hl
 | _::_,[],_,_,_,hl,_=>by cases hl
 | x::r,x'::r',E,b,c,hl,h=>by
  unfold UW;have h1:(bif E b then x.or c else c)=(bif E b then x'.or c else c):=by
   cases hb:E b with
   | false=>rfl
   | true=>have:=h 0 (by simpa using hb);simp at this;rw[this]
  rw[h1];exact jD (by simpa using hl) fun j hj=>by have:=h (j+1) (by rw[<- hj];congr 1;omega);simpa using this
theorem InvE.congr{s0 s:PState}{es es':List Ef}{E:Nat->Bool}(hl:es.length=es'.length)(he:∀ j,E j=true->es[j]?=es'[j]?)(h:InvE s0 es E s):InvE s0 es' E s:=by
 refine⟨h.n,fun t=>?_,fun id=>?_,fun x hx=>?_,fun x hx=>?_⟩
 ·rw[h.sl];exact jD (by simp[hl]) fun j hj=>by rw[Nat.zero_add] at hj;simp[he j hj]
 ·rw[h.ob];exact jD (by simp[hl]) fun j hj=>by rw[Nat.zero_add] at hj;simp[he j hj]
 ·rcases h.ms x hx with h1 | ⟨j,e,h1,h2,h3⟩
  ·exact .inl h1
  ·exact .inr ⟨j,e,h1,by rw[<- he j h1];exact h2,h3⟩
 ·rcases h.mo x hx with h1 | ⟨j,e,h1,h2,h3⟩
  ·exact .inl h1
  ·exact .inr ⟨j,e,h1,by rw[<- he j h1];exact h2,h3⟩
variable(P ctx ops) in
inductive RunH (i3:Nat):Nat->List Oper->List Ft->PState->List Ef->PState->Prop
 | nil {b:Nat} {s:PState}:RunH i3 b [] [] s [] s
 | cons {b:Nat} {o:Oper} {rest:List Oper} {f:Ft} {fs:List Ft} {s t:PState} {e:Ef} {es:List Ef} (y:b=i3\/Does P ctx ops o s f e) (hk:okE f e=true) (h:RunH i3 (b+1) rest fs (s.app e) es t):RunH i3 b (o::rest) (f::fs) s (e::es) t
section
variable{s:PState}{o:Oper}{f:Ft}
end
end
end Go.Ep
namespace Go.Ep
open Go.RowKit
theorem Shp.trans{x y z:DV}(h:Shp x y):Shp y z->Shp x z:=by
 induction h generalizing z with
 | eq x=>exact id
 | int k a b=>intro h2;cases h2 with
  | eq=>exact .int k a b
  | int _ _ c=>exact .int k a c
 | str a b=>intro h2;cases h2 with
  | eq=>exact .str a b
  | str _ c=>exact .str a c
 | sl l l' hl hk h ih=>
  intro h2
  cases h2 with
  | eq=>exact .sl l l' hl hk h
  | sl _ l2 hl2 hk2 h2=>
   refine .sl l l2 (hl.trans hl2) (fun i cs cs2 h1 h3=>?_) (fun i j cs cs2 x x2 h1 h3 h4 h5=>?_)
   ·have hi:i < l'.length:=by have:=(List.getElem?_eq_some_iff.1 h1).1;omega
    exact(hk i cs _ h1 (List.getElem?_eq_getElem hi)).trans (hk2 i _ cs2 (List.getElem?_eq_getElem hi) h3)
   ·have hi:i < l'.length:=by have:=(List.getElem?_eq_some_iff.1 h1).1;omega
    have hj:j < l'[i].length:=by rw[<- hk i cs _ h1 (List.getElem?_eq_getElem hi)];exact(List.getElem?_eq_some_iff.1 h4).1
    exact ih i j cs _ x _ h1 (List.getElem?_eq_getElem hi) h4 (List.getElem?_eq_getElem hj) (h2 i j _ cs2 _ x2 (List.getElem?_eq_getElem hi) h3 (List.getElem?_eq_getElem hj) h5)
structure Spoils(w w':World)(b o:Nat)(v v':Value):Prop where
 size:w'.heap.size=w.heap.size
 other:∀ k,k≠b->w'.heap[k]?=w.heap[k]?
 kept:∀ cur T,w.heap[b]?=some (.cells cur T (0,0))->∃ cur',w'.heap[b]?=some (.cells cur' T (0,0))
 cell:w.cell? ⟨b,o,none⟩=some v
 cell':w'.cell? ⟨b,o,none⟩=some v'
 rest:∀ o',o'≠o->w'.cell? ⟨b,o',none⟩=w.cell? ⟨b,o',none⟩
 kind:(∃ k m n,v=.int k m/\v'=.int k n)\/∃ m n,v=.string m/\v'=.string n
theorem Spoils.at_{w w':World}{b o:Nat}{v v':Value}(h:Spoils w w' b o v v')(b' o':Nat):w'.cell? ⟨b',o',none⟩=if b'=b/\o'=o then some v' else w.cell? ⟨b',o',none⟩:=by
 by_cases hb:b'=b
 ·subst hb
  by_cases ho:o'=o
  ·subst ho;rw[if_pos ⟨rfl,rfl⟩];exact h.cell'
  ·rw[if_neg (fun hh=>ho hh.2)];exact h.rest o' ho
 ·rw[if_neg (fun hh=>hb hh.1)];exact World.cell?_of_block (h.other b' hb)
theorem Spoils.one{w w':World}{b o:Nat}{v v':Value}(h:Spoils w w' b o v v'){S:Nat->Prop}{x:DV}(hd:DRd0 w true S x v):∃ x',Shp x x'/\DRd0 w' true S x' v':=by
 rcases h.kind with⟨k,m,n,rfl,rfl⟩ | ⟨m,n,rfl,rfl⟩
 ·cases hd with
  | v _ _=>exact⟨_,.int k m n,.v _ rfl⟩
 ·cases hd with
  | v _ _=>exact⟨_,.str m n,.v _ rfl⟩
theorem Spoils.data{w w':World}{b o:Nat}{v v':Value}(h:Spoils w w' b o v v'){S:Nat->Prop}{x:DV}{u:Value}(hd:DRd0 w true S x u):∃ x',Shp x x'/\DRd0 w' true S x' u:=by
 induction hd with
 | v x hx=>exact⟨_,.eq _,.v x hx⟩
 | nil a cap hc hn=>exact⟨_,.eq _,.nil a cap hc hn⟩
 | sl l b' off cap k c hl hcap hs hb hz hkk hc hr ih=>
  let c':Nat->Nat->Value:=fun i j=>if b'=b/\off+(i*k+j)=o then v' else c i j
  have key:∀ (i:Nat) (cs:List DV) (j:Nat) (x:DV),l[i]?=some cs->cs[j]?=some x->∃ x',Shp x x'/\DRd0 w' true S x' (c' i j):=by
   intro i cs j x hi hj;show ∃ x',Shp x x'/\DRd0 w' true S x' (if b'=b/\off+(i*k+j)=o then v' else c i j)
   by_cases e:b'=b/\off+(i*k+j)=o
   ·rw[if_pos e];have hlt:i < l.length:=(List.getElem?_eq_some_iff.1 hi).1;have hjk:j < k:=by rw[<- hkk i cs hi];exact(List.getElem?_eq_some_iff.1 hj).1
    have h1:=hc i j hlt hjk;obtain⟨e1,e2⟩:=e;subst e1;rw[e2,h.cell] at h1
    cases h1
    exact h.one (hr i cs j x hi hj)
   ·rw[if_neg e];exact ih i cs j x hi hj
  let F:Nat->Nat->DV->DV:=fun i j x=>Classical.epsilon fun x'=>Shp x x'/\DRd0 w' true S x' (c' i j)
  let l':List (List DV):=l.mapIdx fun i cs=>cs.mapIdx fun j x=>F i j x
  have hg:∀ (i:Nat) (cs':List DV),l'[i]?=some cs'->∃ cs,l[i]?=some cs/\cs'=cs.mapIdx fun j x=>F i j x:=by
   intro i cs' hi;simp only[l',List.getElem?_mapIdx] at hi
   cases hh:l[i]? with
   | none=>rw[hh] at hi;cases hi
   | some cs=>rw[hh] at hi;simp at hi;exact⟨cs,rfl,hi.symm⟩
  have hF:∀ (i:Nat) (cs:List DV) (j:Nat) (x x':DV),l[i]?=some cs->cs[j]?=some x->(cs.mapIdx fun j x=>F i j x)[j]?=some x'->Shp x x'/\DRd0 w' true S x' (c' i j):=by
   intro i cs j x x' hi hj hx;rw[List.getElem?_mapIdx,hj] at hx;simp only[Option.map_some,Option.some.injEq] at hx;subst hx;have hk:=key i cs j x hi hj;exact Classical.epsilon_spec (p:=fun x'=>Shp x x'/\DRd0 w' true S x' (c' i j)) hk
  have hll:l'.length=l.length:=by simp[l']
  refine⟨.sl l',.sl l l' hll.symm (fun i cs cs' h1 h2=>?_) (fun i j cs cs' x x' h1 h2 h3 h4=>?_),?_⟩
  ·obtain⟨cs0,h3,rfl⟩:=hg i cs' h2;rw[h1] at h3;cases h3;simp
  ·obtain⟨cs0,h5,rfl⟩:=hg i cs' h2;rw[h1] at h5;cases h5;exact(hF i cs j x x' h1 h3 h4).1
  ·rw[<- hll];refine .sl l' b' off cap k c' (by omega) hcap hs (by rw[h.size];exact hb) (fun _=>?_) (fun i cs' hi=>?_) (fun i j hi hj=>?_) (fun i cs' j x' hi hx=>?_)
   ·obtain⟨cur,T,hh⟩:=hz rfl
    by_cases e:b'=b
    ·subst e;obtain⟨cur',hh'⟩:=h.kept cur T hh;exact⟨cur',T,hh'⟩
    ·exact⟨cur,T,by rw[h.other b' e];exact hh⟩
   ·obtain⟨cs0,h3,rfl⟩:=hg i cs' hi;simp[hkk i cs0 h3]
   ·rw[h.at_];show _=some (if b'=b/\off+(i*k+j)=o then v' else c i j)
    by_cases e:b'=b/\off+(i*k+j)=o
    ·rw[if_pos e,if_pos e]
    ·rw[if_neg e,if_neg e];exact hc i j (by omega) hj
   ·obtain⟨cs0,h3,rfl⟩:=hg i cs' hi;rw[List.getElem?_mapIdx] at hx
    cases hx0:cs0[j]? with
    | none=>rw[hx0] at hx;cases hx
    | some x0=>
     exact(hF i cs0 j x0 x' h3 hx0 (by rw[List.getElem?_mapIdx];exact hx)).2
def DV.spSl : DV->Bool
 | .sp _ (.sl _)=>true
 | _=>false
def DV.spOK : DV->Bool
 | .v _=>true
 | .sp _ _=>true
 | .sl l=>l.all fun cs=>cs.all DV.spSl
 | _=>false
def PV.spOK : PV->Bool
 | .d x=>x.spOK
 | .sq _ _=>true
 | .ref _ _=>true
 | .row _ _=>true
 | .rp _ _ _ _=>true
 | .junk=>true
 | .und=>true
 | _=>false
def Ob.spOK : Ob->Bool
 | .cells _ cs=>cs.all PV.spOK
 | .row _ _ l=>l.all fun cs=>cs.all DV.spOK
 | _=>false
theorem Spoils.dv{w w':World}{b o:Nat}{v v':Value}(h:Spoils w w' b o v v'){S:Nat->Prop}{x:DV}{u:Value}(hx:x.spOK=true)(hd:DRd w S x u):DRd w' S x u:=by
 cases hd with
 | v _ h1=>exact .v _ h1
 | sp N x x' u hs h0=>obtain⟨x2,h2,h3⟩:=h.data h0;exact .sp N x x2 u (hs.trans h2) h3
 | nil a cap hc hn=>exact .nil a cap hc hn
 | sl l b' off cap k c hl hcap hS hb hkk hc hr=>
  have hsp:∀ (i:Nat) (cs:List DV) (j:Nat) (y:DV),l[i]?=some cs->cs[j]?=some y->∃ N l2,y=.sp N (.sl l2):=fun i cs j y hi hj=>by
   have h1:=List.all_eq_true.1 hx cs (List.mem_of_getElem? hi);have h2:=List.all_eq_true.1 h1 y (List.mem_of_getElem? hj);unfold DV.spSl at h2
   split at h2
   ·exact⟨_,_,rfl⟩
   ·cases h2
  have hsl:∀ (i:Nat) (cs:List DV) (j:Nat) (y:DV),l[i]?=some cs->cs[j]?=some y->∃ a n q,c i j=.slice a n q:=fun i cs j y hi hj=>by
   obtain⟨N,l2,rfl⟩:=hsp i cs j y hi hj;have:=hr i cs j _ hi hj
   generalize c i j=z at this
   cases this with
   | sp _ _ x' _ hs h0=>
    have:∃ l3,x'=.sl l3:=by
     cases hs with
     | eq=>exact⟨_,rfl⟩
     | sl _ l3=>exact⟨l3,rfl⟩
    obtain⟨l3,rfl⟩:=this
    cases h0 with
    | nil a cap=>exact⟨_,_,_,rfl⟩
    | sl=>exact⟨_,_,_,rfl⟩
  refine .sl l b' off cap k c hl hcap hS (by rw[h.size];exact hb) hkk (fun i j hi hj=>?_) (fun i cs j y hi hj=>?_)
  ·rw[h.at_]
   by_cases e:b'=b/\off+(i*k+j)=o
   ·exfalso;have hi':=List.getElem?_eq_getElem hi;have hj':j < l[i].length:=by rw[hkk i _ hi'];exact hj
    obtain⟨a,n,q,h5⟩:=hsl i _ j _ hi' (List.getElem?_eq_getElem hj');have h6:=hc i j hi hj;obtain⟨e1,e2⟩:=e;subst e1;rw[e2,h.cell,h5] at h6
    cases h6
    rcases h.kind with⟨_,_,_,h7,_⟩ | ⟨_,_,h7,_⟩ <;> cases h7
   ·rw[if_neg e];exact hc i j hi hj
  ·obtain⟨N,l2,rfl⟩:=hsp i cs j y hi hj;have:=hr i cs j _ hi hj
   generalize c i j=z at this
   cases this with
   | sp _ _ x' _ hs h0=>obtain⟨x2,h2,h3⟩:=h.data h0;exact .sp N _ x2 _ (hs.trans h2) h3
 | _=>cases hx
theorem Spoils.pv{w w':World}{b o:Nat}{v v':Value}(h:Spoils w w' b o v v'){g:zR}{S:Nat->Prop}{p:PV}{u:Value}(hp:p.spOK=true)(hd:Rd w g S p u):Rd w' g S p u:=by
 cases hd with
 | junk=>exact .junk _
 | und=>exact .und
 | d hd=>exact .d (h.dv hp hd)
 | ref id off blk n h=>exact .ref id off blk n h
 | row id n blk cap h=>exact .row id n blk cap h
 | rowNil id h=>exact .rowNil id h
 | rp id i off k blk cap h=>exact .rp id i off k blk cap h
 | sq cs b1 off o1 c hS hb hz hc hr=>
  refine .sq cs b1 off o1 (fun j=>if b1=b/\off+j=o then v' else c j) hS (by rw[h.size];exact hb) ?_ (fun j hj=>?_) (fun j x hx=>?_)
  ·obtain⟨cur,T,hh⟩:=hz
   by_cases e:b1=b
   ·subst e;obtain⟨cur',hh'⟩:=h.kept cur T hh;exact⟨cur',T,hh'⟩
   ·exact⟨cur,T,by rw[h.other b1 e];exact hh⟩
  ·rw[h.at_]
   by_cases e:b1=b/\off+j=o
   ·rw[if_pos e];simp only[if_pos e]
   ·rw[if_neg e];simp only[if_neg e];exact hc j hj
  ·obtain⟨x',h1,h2⟩:=hr j x hx
   by_cases e:b1=b/\off+j=o
   ·simp only[if_pos e];have hcj:=hc j (List.getElem?_eq_some_iff.1 hx).1;obtain⟨e1,e2⟩:=e;subst e1;rw[e2,h.cell] at hcj
    cases hcj
    obtain⟨x2,h3,h4⟩:=h.one h2;exact⟨x2,h1.trans h3,h4⟩
   ·simp only[if_neg e];obtain⟨x2,h3,h4⟩:=h.data h2;exact⟨x2,h1.trans h3,h4⟩
 | _=>cases hp
def PState.spOK(s:PState):Bool:=s.sl.all (fun x=>x.2.spOK)&&s.objs.all (fun x=>x.2.spOK)
theorem Shp.slE{l:List (List DV)}{x':DV}(h:Shp (.sl l) x'):∃ l',x'=.sl l'/\l.length=l'.length/\(∀ (i:Nat) (cs cs':List DV),l[i]?=some cs->l'[i]?=some cs'->cs.length=cs'.length) /\
  ∀ (i j:Nat) (cs cs':List DV) (x x':DV),l[i]?=some cs->l'[i]?=some cs'->cs[j]?=some x->cs'[j]?=some x'->Shp x x':=by
 cases h with
 | eq=>exact⟨l,rfl,rfl,fun i cs cs' h1 h2=>by rw[h1] at h2;cases h2;rfl,fun i j cs cs' x x' h1 h2 h3 h4=>by rw[h1] at h2;cases h2;rw[h3] at h4;cases h4;exact .eq _⟩
 | sl _ l' hl hk h=>exact⟨l',rfl,hl,hk,h⟩
section
variable{P:Program}{ctx:Ctx}{Q:PQ}{s:PState}
variable{dst:Option Tmp}{ty:TypeId}{pos:String}{after:Array Edge}{gd:Option (Nat×Bool)}
theorem LR.idxSp{x ix:Operand}{N:Nat->Prop}{l:List (List DV)}{ki:IntKind}{i:Int}{n k:Nat}{cs:List DV}{t e:TypeId}(hu:P.underlying t=some (.slice e))(hs:∀ w,(sizeOf e).run P w=.ok k w)
  (hx:s.ev x=some (.d (.sp N (.sl l)))) (hix:s.ev ix=some (.d (.v (.int ki i)))) (hi:i=n) (hn:l[n]?=some cs) (hk:cs.length=k) :
  Local P ctx ⟨dst,.indexAddr t x ix,ty,pos,after,gd⟩ s (s.putD dst (.sq cs 0)):=
 zD (o:=⟨dst,.indexAddr t x ix,ty,pos,after,gd⟩) fun a w g hg=>by
  have h:=hg.ev hx
  generalize hv:a.eval x=v at h
  cases h with
  | d h=>
   cases h with
   | sp _ _ x' _ hsh h0=>
    obtain⟨l',rfl,hll,hlk,hle⟩:=hsh.slE;have hlt:n < l.length:=(List.getElem?_eq_some_iff.1 hn).1
    cases h0 with
    | nil=>have h9:l.length=0:=hll;omega
    | sl _ b off cap k' c hl hcap hS hb hz hkk hc hr=>
     have hlt':n < l'.length:=by omega
     have hcs':=List.getElem?_eq_getElem hlt';have hk':k'=k:=by rw[<- hkk n _ hcs',<- hlk n cs _ hn hcs',hk]
     subst hk';refine⟨.pointer (some ⟨b,off+n*k'+0,none⟩),?_,.sq cs b (off+n*k') 0 (c n) hS.1 hb (hz rfl) ?_ ?_⟩
     ·simp[execOp,hv,xz hg hix,vj hu hs b off l'.length cap ki i n hi hlt',Result.andThen]
     ·intro j hj;rw[Nat.add_assoc];exact hc n j hlt' (by omega)
     ·intro j x hx;have hj:j < l'[n].length:=by rw[<- hlk n cs _ hn hcs'];exact(List.getElem?_eq_some_iff.1 hx).1
      exact⟨_,hle n j cs _ x _ hn hcs' hx (List.getElem?_eq_getElem hj),(hr n _ j _ hcs' (List.getElem?_eq_getElem hj)).mono fun b hb=>hb.1⟩
theorem LR.fieldSq{x:Operand}{st:TypeId}{fs:Array Field}{fi off m:Nat}{f:Field}(hu:P.underlying st=some (.struct fs))(hf:fs[fi]?=some f)(hs:∀ w,(sizeOf f.type).run P w=.ok m w)(hm:m≠0)(ho:f.offset=off)
  {cs:List DV} {o:Nat} (hx:s.ev x=some (.sq cs o)):Local P ctx ⟨dst,.fieldAddr st x fi,ty,pos,after,gd⟩ s (s.putD dst (.sq cs (o+off))):=
 zD (o:=⟨dst,.fieldAddr st x fi,ty,pos,after,gd⟩) fun a w g hg=>by
  have h:=hg.ev hx
  generalize hv:a.eval x=v at h
  cases h with
  | sq _ b ofs _ c hS hb hz hc hr=>
   refine⟨.pointer (some ⟨b,ofs+(o+off),none⟩),?_,.sq cs b ofs _ c hS hb hz hc hr⟩;simp[execOp,hv,uu hu hf hs hm,Addr.add_lit,ho,Result.andThen,Nat.add_assoc]
theorem LR.loadSq{x:Operand}{o:Nat}{T:TypeId}{cs:List DV}{y:DV}(ha:∀ w,(isAgg T).run P w=.ok false w)(hx:s.ev x=some (.sq cs o))(hy:cs[o]?=some y) :
  Local P ctx ⟨dst,.load T x,ty,pos,after,gd⟩ s (s.putD dst (.d (.sp (fun _=>True) y))):=
 zD (o:=⟨dst,.load T x,ty,pos,after,gd⟩) fun a w g hg=>by
  have h:=hg.ev hx
  generalize hv:a.eval x=v at h
  cases h with
  | sq _ b off _ c hS hb hz hc hr=>
   have hlt:o < cs.length:=(List.getElem?_eq_some_iff.1 hy).1;obtain⟨x',h1,h2⟩:=hr o y hy;refine⟨c o,?_,.d (.sp _ y x' _ h1 (h2.mono fun b hb=>⟨hb,trivial⟩))⟩;have:=wO (P:=P) ha (w:=w) (ad:=⟨b,off+o,none⟩) (u:=c o) (hc o hlt);simp[execOp,hv,Instr.loadAt,Instr.sureAddr,this,Result.andThen]
theorem LR.lenSp{x:Operand}{N:Nat->Prop}{l:List (List DV)}{t e:TypeId}(hu:P.underlying t=some (.slice e))(hx:s.ev x=some (.d (.sp N (.sl l)))) :
  Local P ctx ⟨dst,.call ⟨.builtin .len,#[x],#[t]⟩,ty,pos,after,gd⟩ s (s.putD dst (.d (.v (.int .i64 l.length)))):=
 zD (o:=⟨dst,.call ⟨.builtin .len,#[x],#[t]⟩,ty,pos,after,gd⟩) fun a w g hg=>by
  have h:=hg.ev hx;have hE:P.underlying t=some (.slice (P.elem t)):=by simp[Program.elem,hu]
  refine⟨.int .i64 l.length,?_,.d (.v _ rfl)⟩
  cases h with
  | d h=>
   generalize hv:a.eval x=v at h
   cases h with
   | sp _ _ x' _ hsh h0=>
    obtain⟨l',rfl,hll,_,_⟩:=hsh.slE;rw[hll]
    cases h0 <;> simp[execOp,resolve,invoke,builtin,hv,run_len_slice,hE,Result.andThen,goInt]
theorem LR.addSp{x y:Operand}{N:Nat->Prop}{k:IntKind}{m n:Int}{t t':TypeId}(hx:s.ev x=some (.d (.sp N (.v (.int k m)))))(hy:s.ev y=some (.d (.v (.int k n)))) :
  Local P ctx ⟨dst,.binOp .add t x y t',ty,pos,after,gd⟩ s (s.putD dst (.d (.sp N (.v (.int k m))))):=
 zD (o:=⟨dst,.binOp .add t x y t',ty,pos,after,gd⟩) fun a w g hg=>by
  have h:=hg.ev hx
  generalize hv:a.eval x=v at h
  cases h with
  | d h=>
   cases h with
   | sp _ _ x' _ hsh h0=>
    have:∃ z,x'=.v (.int k z):=by cases hsh with | eq=>exact⟨_,rfl⟩ | int _ _ z=>exact⟨z,rfl⟩
    obtain⟨z,rfl⟩:=this
    cases h0 with
    | v _ _=>
     refine⟨.int k (k.wrap (z+n)),by simp[execOp,hv,xz hg hy,eqGuard_at_int,binOp_add,Op.intArith,Result.andThen],.d (.sp _ _ (.v (.int k (k.wrap (z+n)))) _ (.int k m _) (.v _ rfl))⟩
theorem qP{x y:Operand}{T:TypeId}{cs:List DV}{o:Nat}(hSK:∀ b,ctx.S b->ctx.K b)(hok:s.spOK=true)(hs:∀ w,(sizeOf T).run P w=.ok 1 w)(hx:s.ev x=some (.sq cs o)){z:DV}(hz0:cs[o]?=some z)
  (hy:∀ a w g,RelG ctx g s a w->∀ z' u,Shp z z'->DRd0 w true (zZ ctx g s.objs) z' u->(a.eval y).cells=[a.eval y].toArray/\(a.eval y).oneCell'=true/\((∃ k m n,u=.int k m/\a.eval y=.int k n)\/∃ m n,u=.string m/\a.eval y=.string n)) :
  Local P ctx ⟨none,.store T x y,ty,pos,after,gd⟩ s s:=by
 refine ud (o:=⟨none,.store T x y,ty,pos,after,gd⟩) fun a w g hg=>?_
 have h:=hg.ev hx
 generalize hv:a.eval x=v at h
 cases h with
 | sq _ b off _ c hS hb hz hc hr=>
  obtain⟨cur,T0,hh⟩:=hz;have hlt:o < cs.length:=(List.getElem?_eq_some_iff.1 hz0).1;obtain⟨z',hz1,hz2⟩:=hr o z hz0;obtain⟨hcell,hone,hkind⟩:=hy a w g hg z' _ hz1 hz2;have hcur:cur.toList[off+o]?=some (c o):=by
   have:=hc o hlt;rw[zP (us:=cur.toList) (T:=T0) (by simpa using hh)] at this;exact this
  have hl2:off+o < cur.toList.length:=(List.getElem?_eq_some_iff.1 hcur).1;have hst:=ZX (P:=P) (T:=T) (o:=off+o) (vs:=[a.eval y]) (cur:=cur.toList) (T0:=T0) (blk:=b) (w:=w) (by simpa using hh) hcell hs (by simp;simp at hl2;omega) (by simpa using hone)
  let new:Array Value:=(cur.toList.take (off+o)++[a.eval y]++cur.toList.drop (off+o+1)).toArray
  have hnew:(w.setRow b new).heap[b]?=some (.cells new T0 (0,0)):=xZ hh;have hother:∀ k,k≠b->(w.setRow b new).heap[k]?=w.heap[k]?:=fun k hne=>setRow_other w b k _ hne
  have hget:∀ t,new.toList[t]?=if t=off+o then some (a.eval y) else cur.toList[t]?:=fun t=>by
   have l1:(cur.toList.take (off+o)).length=off+o:=by simp;simp at hl2;omega
   simp only[new,List.append_assoc,List.getElem?_append,l1]
   by_cases h1:t < off+o
   ·rw[if_pos h1,if_neg (by omega),List.getElem?_take,if_pos h1]
   ·rw[if_neg h1]
    by_cases h2:t=off+o
    ·subst h2;simp
    ·rw[if_neg h2,if_neg (by simp;omega),List.getElem?_drop]
     congr 1
     simp;omega
  have sp:Spoils w (w.setRow b new) b (off+o) (c o) (a.eval y):=by
   refine⟨by simp,hother,fun cur1 T1 h1=>?_,hc o hlt,?_,fun o' ho'=>?_,hkind⟩
   ·rw[hh] at h1;cases h1;exact⟨new,hnew⟩
   ·rw[zP (us:=new.toList) (T:=T0) (by simpa using hnew),hget,if_pos rfl]
   ·rw[zP (us:=new.toList) (T:=T0) (by simpa using hnew),zP (us:=cur.toList) (T:=T0) (by simpa using hh),hget,if_neg ho']
  have hok':(∀ x∈s.sl,x.2.spOK=true)/\∀ x∈s.objs,x.2.spOK=true:=by
   simpa[PState.spOK,List.all_eq_true] using hok
  refine⟨w.setRow b new,by simp[execOp,hv,Instr.storeAt,Instr.sureAddr,hst,Result.andThen,new],g,?_⟩;refine⟨hg.defers,hg.size,fun i p hp=>sp.pv (hok'.1 _ (Zz (xI hp))) (hg.slots i p hp),fun id ob hob=>?_,hg.inj,fun id ob b' n hob hgi=>?_,hg.os,hg.tape,hg.output,by rw[sp.size];exact hg.grows,fun k hk hnk=>?_⟩
  ·have hobs:=hok'.2 _ (yn hob);have hrd:=hg.objs id ob hob
   cases hrd with
   | cells T1 cs1 blk n us hgi hh1 hl1 hr1 h11=>
    have hne:blk≠b:=fun e=>by subst e;exact hS.2 id _ n hob hgi
    refine .cells T1 cs1 blk n us hgi (by rw[hother blk hne];exact hh1) hl1 (fun i p u hp hu=>?_) h11;simp only[Ob.spOK,List.all_eq_true] at hobs;exact sp.pv (hobs p (List.mem_of_getElem? hp)) (hr1 i p u hp hu)
   | rowNil T1 k1 h=>exact .rowNil T1 k1 h
   | row T1 k1 l1 blk cap cur1 hgi hh1 hlc1 hcap1 hcs1 hk1 hr1=>
    have hne:blk≠b:=fun e=>by subst e;exact hS.2 id _ cap hob hgi
    refine .row T1 k1 l1 blk cap cur1 hgi (by rw[hother blk hne];exact hh1) hlc1 hcap1 hcs1 hk1 fun i cs j x hi hx=>?_
    obtain⟨u,hu,hd⟩:=hr1 i cs j x hi hx;simp only[Ob.spOK,List.all_eq_true] at hobs;exact⟨u,hu,sp.dv (hobs cs (List.mem_of_getElem? hi) x (List.mem_of_getElem? hx)) hd⟩
   | _=>simp[Ob.spOK] at hobs
  ·have:=hg.own id ob b' n hob hgi;exact⟨by rw[sp.size];exact this.1,this.2⟩
  ·by_cases e:k=b
   ·subst e;rcases hS.1 with h1 | h1
    ·exact(hnk (hSK _ h1)).elim
    ·omega
   ·rw[hother k e];exact hg.keep k hk hnk
theorem LR.storeSpI{x y:Operand}{T:TypeId}{cs:List DV}{o:Nat}{N:Nat->Prop}{k:IntKind}{m n:Int}(hSK:∀ b,ctx.S b->ctx.K b)(hok:s.spOK=true)(hs:∀ w,(sizeOf T).run P w=.ok 1 w)(hx:s.ev x=some (.sq cs o))(hz0:cs[o]?=some (.v (.int k m)))
  (hy:s.ev y=some (.d (.sp N (.v (.int k n))))):Local P ctx ⟨none,.store T x y,ty,pos,after,gd⟩ s s:=
 qP hSK hok hs hx hz0 fun a w g hg z' u h1 h2=>by
  have hu:∃ m',u=.int k m':=by
   cases h1 with
   | eq=>cases h2 with | v _ _=>exact⟨_,rfl⟩
   | int _ _ b=>cases h2 with | v _ _=>exact⟨_,rfl⟩
  obtain⟨m',rfl⟩:=hu;have h:=hg.ev hy
  generalize a.eval y=v at h
  cases h with
  | d h=>
   cases h with
   | sp _ _ x' _ hsh h0=>
    have hv:∃ n',v=.int k n':=by
     cases hsh with
     | eq=>cases h0 with | v _ _=>exact⟨_,rfl⟩
     | int _ _ b=>cases h0 with | v _ _=>exact⟨_,rfl⟩
    obtain⟨n',rfl⟩:=hv;exact⟨rfl,rfl,.inl ⟨k,m',n',rfl,rfl⟩⟩
end
inductive FL : ((DV->DV)->List DV)->Prop
 | nil:FL fun _=>[]
 | v {F:(DV->DV)->List DV} (x:Value) (t:FL F):FL fun f=>.v x::F f
 | f {F:(DV->DV)->List DV} (y:DV) (t:FL F):FL fun f=>f y::F f
theorem FL.get{F:(DV->DV)->List DV}(h:FL F):(∀ f f',(F f).length=(F f').length)/\∀ i:Nat,(∀ f,(F f)[i]?=none)\/(∃ x,∀ f,(F f)[i]?=some (.v x))\/∃ y,∀ f,(F f)[i]?=some (f y):=by
 induction h with
 | nil=>exact⟨fun _ _=>rfl,fun i=>.inl fun _=>by simp⟩
 | v x t ih=>
  refine⟨fun f f'=>by simp[ih.1 f f'],fun i=>?_⟩
  cases i with
  | zero=>exact .inr (.inl ⟨x,fun _=>by simp⟩)
  | succ i=>
   rcases ih.2 i with h | ⟨y,h⟩ | ⟨y,h⟩
   ·exact .inl fun f=>by simpa using h f
   ·exact .inr (.inl ⟨y,fun f=>by simpa using h f⟩)
   ·exact .inr (.inr ⟨y,fun f=>by simpa using h f⟩)
 | f y t ih=>
  refine⟨fun f f'=>by simp[ih.1 f f'],fun i=>?_⟩
  cases i with
  | zero=>exact .inr (.inr ⟨y,fun _=>by simp⟩)
  | succ i=>
   rcases ih.2 i with h | ⟨z,h⟩ | ⟨z,h⟩
   ·exact .inl fun f=>by simpa using h f
   ·exact .inr (.inl ⟨z,fun f=>by simpa using h f⟩)
   ·exact .inr (.inr ⟨z,fun f=>by simpa using h f⟩)
def Yn(B:Nat):Nat->Prop:=fun b=>b < B
def Jx(ctx:Ctx)(B:Nat):Nat->Prop:=fun b=>B<=b/\ctx.w0.heap.size<=b
def QZ : Nat->Prop:=fun _=>True
theorem FL.obj{F:(DV->DV)->List DV}(hF:FL F){w w':World}{g g':zR}{S S':Nat->Prop}{id blk n:Nat}{T:TypeId}{f f':DV->DV}(h:ObRd w g S id (.cells T ((F f).map .d)))(hg:g id=some (blk,n))(hg':g' id=some (blk,n))(hh:w'.heap[blk]?=w.heap[blk]?)
  (hf:∀ y u,DRd w S (f y) u->DRd w' S' (f' y) u):ObRd w' g' S' id (.cells T ((F f').map .d)):=by
 cases h with
 | cells _ _ blk' n' us h1 h2 h3 h4 h5=>
  rw[hg] at h1
  cases h1
  refine .cells T _ blk n us hg' (by rw[hh];exact h2) (by rw[<- h3];simp[hF.get.1 f' f]) (fun i p u hp hu=>?_) h5;rw[List.getElem?_map] at hp;rcases hF.get.2 i with h | ⟨x,h⟩ | ⟨y,h⟩
  ·rw[h] at hp;cases hp
  ·rw[h] at hp;cases hp;have:=h4 i (.d (.v x)) u (by rw[List.getElem?_map,h];rfl) hu
   cases this with
   | d hd=>cases hd with | v _ h6=>exact .d (.v _ h6)
  ·rw[h] at hp;cases hp;have:=h4 i (.d (f y)) u (by rw[List.getElem?_map,h];rfl) hu
   cases this with
   | d hd=>exact .d (hf y u hd)
theorem qQ{w:World}{g:zR}{S:Nat->Prop}{id:Nat}{T:TypeId}{cs:List PV}(h:ObRd w g S id (.cells T cs)):∃ blk n,g id=some (blk,n):=by
 cases h with
 | cells _ _ blk n _ h=>exact⟨blk,n,h⟩
end Go.Ep
namespace Go.Ep
open Go.RowKit
theorem DRd0.lower{w:World}{z:Bool}{S:Nat->Prop}{x:DV}{u:Value}(h:DRd0 w z S x u):DRd0 w false S x u:=by
 induction h with
 | v x h=>exact .v x h
 | nil a cap hc hn=>exact .nil a cap hc hn
 | sl l b off cap k c hl hcap hs hb hz hkk hc hr ih=>exact .sl l b off cap k c hl hcap hs hb (fun h=>by cases h) hkk hc ih
theorem DRd.unod{w:World}{S N:Nat->Prop}{x:DV}{u:Value}(h:DRd w S (.od N x) u):DRd w S x u:=by
 cases h with
 | od _ _ _ h=>exact(h.mono fun _ hb=>hb.1).up
theorem FL.obj'{F:(DV->DV)->List DV}(hF:FL F){w w':World}{g g':zR}{S S':Nat->Prop}{id blk n:Nat}{T:TypeId}{f f':DV->DV}(h:ObRd w g S id (.cells T ((F f).map .d)))(hg:g id=some (blk,n))(hg':g' id=some (blk,n))(hh:w'.heap[blk]?=w.heap[blk]?)
  (hf:∀ y u,y∈F (fun x=>x)->DRd w S (f y) u->DRd w' S' (f' y) u):ObRd w' g' S' id (.cells T ((F f').map .d)):=by
 cases h with
 | cells _ _ blk' n' us h1 h2 h3 h4 h5=>
  rw[hg] at h1
  cases h1
  refine .cells T _ blk n us hg' (by rw[hh];exact h2) (by rw[<- h3];simp[hF.get.1 f' f]) (fun i p u hp hu=>?_) h5;rw[List.getElem?_map] at hp;rcases hF.get.2 i with h | ⟨x,h⟩ | ⟨y,h⟩
  ·rw[h] at hp;cases hp
  ·rw[h] at hp;cases hp;have:=h4 i (.d (.v x)) u (by rw[List.getElem?_map,h];rfl) hu
   cases this with
   | d hd=>cases hd with | v _ h6=>exact .d (.v _ h6)
  ·rw[h] at hp;cases hp;have:=h4 i (.d (f y)) u (by rw[List.getElem?_map,h];rfl) hu
   cases this with
   | d hd=>exact .d (hf y u (List.mem_of_getElem? (h (fun x=>x))) hd)
section
variable{P:Program}{ctx:Ctx}
theorem JV{g:zR}{objs:List (Nat×Ob)}{id:Nat}{o o':Ob}(h:look objs id=some o){b:Nat}:zZ ctx g (zi id o' objs) b↔zZ ctx g objs b:=by
 have key:∀ j,(∃ q,look (zi id o' objs) j=some q)↔∃ q,look objs j=some q:=fun j=>by
  rw[zC]
  by_cases e:j=id
  ·subst e;rw[if_pos rfl,h];simp
  ·rw[if_neg e]
 unfold zZ
 constructor
 ·rintro⟨h1,h2⟩;exact⟨h1,fun j q m hq hg=>let ⟨q',hq'⟩:=(key j).2 ⟨q,hq⟩;h2 j q' m hq' hg⟩
 ·rintro⟨h1,h2⟩;exact⟨h1,fun j q m hq hg=>let ⟨q',hq'⟩:=(key j).1 ⟨q,hq⟩;h2 j q' m hq' hg⟩
end
end Go.Ep
namespace Go.Ep
open Go.RowKit
def wV(l:List (List Value)):List (List DV):=l.map fun cs=>cs.map DV.v
theorem XS{l:List (List Value)}{i:Nat}{cs:List DV}(h:(wV l)[i]?=some cs):∃ vs,l[i]?=some vs/\cs=vs.map .v:=by
 unfold wV at h;rw[List.getElem?_map] at h
 cases hi:l[i]? with
 | none=>rw[hi] at h;cases h
 | some vs=>rw[hi] at h;exact⟨vs,rfl,by simpa using h.symm⟩
theorem DRd.unrw{w:World}{S M:Nat->Prop}{e:TypeId}{k:Nat}{l:List (List Value)}{u:Value}(h:DRd w S (.rw M e k l) u):DRd w S (.sl (wV l)) u:=by
 cases h with
 | rwNil=>exact .nil none 0 (Nat.zero_le _) (fun _=>rfl)
 | rw _ _ _ _ blk cap cur hS hM hb hh hlc hcap hcs hk hr=>
  have hl:(wV l).length=l.length:=by simp[wV]
  have:=DRd.sl (w:=w) (S:=S) (wV l) blk 0 cap k (fun i j=>cur.getD (i*k+j) undef) (by rw[hl];exact hlc) hcap hS hb (fun i cs hi=>by
   obtain⟨vs,h1,rfl⟩:=XS hi;rw[List.length_map];exact hk i vs h1) (fun i j hi hj=>by
   rw[hl] at hi;have hlt:i*k+j < cur.length:=by rw[hcs];exact vL (by omega) hj
   rw[zP hh];simp[hlt]) (fun i cs j x hi hx=>by
   obtain⟨vs,h1,rfl⟩:=XS hi;rw[List.getElem?_map] at hx
   cases hv:vs[j]? with
   | none=>rw[hv] at hx;cases hx
   | some y=>
    rw[hv] at hx
    cases hx
    obtain⟨h2,h3⟩:=hr i vs j y h1 hv;have e:cur.getD (i*k+j) undef=y:=by simp[List.getD,h2]
    show DRd w S (.v y) (cur.getD (i*k+j) undef);rw[e];exact .v y h3)
  rw[hl] at this;exact this
def InjB(B:Nat)(β:Nat->Option Nat):Prop:=(∀ i j b,i≠j->β i=some b->β j≠some b)/\∀ i b,β i=some b->B<=b
theorem InjB.none{B:Nat}:InjB B fun _=>none:=⟨fun _ _ _ _ h=>(by cases h),fun _ _ h=>(by cases h)⟩
def updB(β:Nat->Option Nat)(i:Nat)(x:Option Nat):Nat->Option Nat:=fun j=>if j < i then β j else if j=i then x else none
theorem InjB.upd{B:Nat}{β:Nat->Option Nat}(h:InjB B β){i:Nat}{x:Option Nat}(hB:∀ b,x=some b->B<=b)(hx:∀ j b,j < i->x=some b->β j≠some b):InjB B (updB β i x):=by
 refine⟨fun p q b hpq hp=>?_,fun p b hp=>?_⟩
 ·unfold updB at hp ⊢
  by_cases p1:p < i
  ·rw[if_pos p1] at hp
   by_cases q1:q < i
   ·rw[if_pos q1];exact h.1 p q b hpq hp
   ·rw[if_neg q1]
    by_cases q2:q=i
    ·rw[if_pos q2];exact fun e=>hx p b p1 e hp
    ·rw[if_neg q2];simp
  ·rw[if_neg p1] at hp
   by_cases p2:p=i
   ·rw[if_pos p2] at hp
    by_cases q1:q < i
    ·rw[if_pos q1];exact hx q b q1 hp
    ·rw[if_neg q1,if_neg (by omega)];simp
   ·rw[if_neg p2] at hp;cases hp
 ·unfold updB at hp
  by_cases p1:p < i
  ·rw[if_pos p1] at hp;exact h.2 p b hp
  ·rw[if_neg p1] at hp
   by_cases p2:p=i
   ·rw[if_pos p2] at hp;exact hB b hp
   ·rw[if_neg p2] at hp;cases hp
def PRowB(P:Program)(f:FuncId)(ps:List PV)(e:TypeId)(k:Nat)(l:(Nat->Option Nat)->List (List DV)):Prop:=
 ∀ (w:World) (S:Nat->Prop) (vs:List Value),ps.length=vs.length->(∀ (i:Nat) (p:PV) (v:Value),ps[i]?=some p->vs[i]?=some v->Rd w g0 S p v) ->
  Calls P f vs.toArray w (fun en w'=>∃ u β,InjB w.heap.size β/\en=.returned u/\Below w.heap.size w w'/\RowRd w' S w.heap.size e k (l β) u)
theorem PRowB.intro{P:Program}{f:FuncId}{fn:Func}{c:Code}{ps:List PV}{e:TypeId}{k:Nat}{l:(Nat->Option Nat)->List (List DV)}{n:Nat}{sl:List (Nat×PV)}(hf:P.funcs[f]?=some fn)(hb:fn.body=some c)(hn:fn.ntmps=n)(hsl:args 0 ps=sl)(hpn:Nat.ble ps.length n=true)
  (body:∀ ctx:Ctx,(∀ b,ctx.K b->ctx.S b)->(∀ b,¬ ctx.K b)->PWc P ctx c (fun en s=>∃ β,InjB ctx.w0.heap.size β/\qG fn e k (l β) en s) ⟨n,sl,[]⟩):PRowB P f ps e k l:=by
 intro w S vs hlen hreal
 let ctx:Ctx:=⟨w,S,fun _=>False⟩
 have hK:∀ b,¬ ctx.K b:=fun _ h=>h
 refine calls_of_wp hf hb ?_;subst hsl;have hrel:RelG ctx g0 ⟨n,args 0 ps,[]⟩ { tmps:=vs.toArray++Array.replicate (fn.ntmps - vs.toArray.size) undef,defers:=[] } w:=by
  rw[hn];exact Wh hlen hreal (by rw[<- hlen];exact Nat.le_of_ble_eq_true hpn)
 refine wp_mono (body ctx (fun _ h=>h.elim) hK _ w ⟨g0,hrel⟩) fun en a' w' ⟨s,⟨β,hβ,he,t,hres,hcase⟩,g,hg⟩=>?_
 have hbel:Below w.heap.size w w':=⟨hg.os,hg.tape,hg.output,hg.grows,fun k hk=>hg.keep k hk (hK k)⟩
 have main:a'.defers=[]/\∃ v,(results fn a'.tmps).run P w'=.ok v w'/\(∃ u β,InjB w.heap.size β/\Ending.returned v=.returned u/\Below w.heap.size w w'/\RowRd w' S w.heap.size e k (l β) u):=by
  refine⟨hg.defers,_,results_tmp hres _ _ _,_,β,hβ,rfl,hbel,?_⟩
  generalize l β=l0 at hcase
  rcases hcase with⟨rfl,hs⟩ | ⟨id,m,hs,hlm,hl⟩
  ·have:=(hg.slots t _ hs).of_v;rw[this];exact .nil
  ·have hr:=hg.slots t _ hs
   generalize hv:a'.tmps.getD t undef=v at hr
   cases hg.objs id _ hl with
   | rowNil _ _ hgn=>
    cases hr with
    | row _ _ blk cap hgi=>rw[hgn] at hgi;cases hgi
    | rowNil=>exact .nil
   | row _ _ _ blk' cap' cur hgi hh hlc hcap hcs hkk hr'=>
    cases hr with
    | rowNil _ hgn=>rw[hgn] at hgi;cases hgi
    | row _ _ blk cap hgi'=>
     rw[hgi] at hgi'
     cases hgi'
     subst hlm;have hown:=hg.own id _ blk' cap' hl hgi;refine .row l0 blk' cap' cur (hown.2.resolve_right (hK _)) hh hlc hcap hcs hkk fun i cs j x hi hx=>?_
     obtain⟨u,hu,hd⟩:=hr' i cs j x hi hx;exact⟨u,hu,hd.keep ⟨Nat.le_refl _,fun _ _ _=>rfl⟩ fun b ⟨h1,h2⟩ _=>⟨h1,fun eb=>by subst eb;exact h2 id _ cap' hl hgi⟩⟩
 rcases he with rfl | rfl
 ·exact main
 ·exact main
section
variable{P:Program}{ctx:Ctx}{Q:PQ}{s:PState}
theorem PFun.intro0{f:FuncId}{fn:Func}{c:Code}{ps:List PV}{r:PV}{n:Nat}{sl:List (Nat×PV)}(hf:P.funcs[f]?=some fn)(hb:fn.body=some c)(hn:fn.ntmps=n)(hsl:args 0 ps=sl)(hpn:Nat.ble ps.length n=true)
  (body:∀ ctx:Ctx,(∀ b,ctx.K b->ctx.S b)->(∀ b,¬ ctx.K b)->PWc P ctx c (Ends P fn r) ⟨n,sl,[]⟩):PFun P f ps r:=fun w S=>FunAt.intro hf hb hn hsl hpn (body ⟨w,S,fun _=>False⟩ (fun _ h=>h.elim) fun _ h=>h)
theorem PWc.rowMax{c:Code}{id k:Nat}{e:TypeId}{l:List (List DV)}(hl:look s.objs id=some (.row e k l))(h:l.length<=maxLen->PWc P ctx c Q s):PWc P ctx c Q s:=by
 intro a w ⟨g,hg⟩;refine h ?_ a w ⟨g,hg⟩
 cases hg.objs id _ hl with
 | rowNil=>exact Nat.zero_le _
 | row _ _ _ blk cap cur _ _ hlc hcap=>exact Nat.le_trans hlc hcap
def PState.frzRw(s:PState)(id:Nat)(M:Nat->Prop)(e:TypeId)(k:Nat)(l:List (List Value))(js:List Nat):PState:={ n:=s.n,sl:=(s.sets (.d (.rw M e k l)) js).sl,objs:=uL id s.objs }
inductive AvD (M:Nat->Prop):DV->Prop
 | v (x:Value):AvD M (.v x)
 | od (N:Nat->Prop) (x:DV) (h:∀ b,M b->¬ N b):AvD M (.od N x)
 | rw(N:Nat->Prop) (e:TypeId) (k:Nat) (l:List (List Value)) (h:∀ b,M b->¬ N b):AvD M (.rw N e k l)
inductive AvP (M:Nat->Prop):PV->Prop
 | junk:AvP M .junk
 | d {x:DV} (h:AvD M x):AvP M (.d x)
 | ref (id o:Nat):AvP M (.ref id o)
 | row (id n:Nat):AvP M (.row id n)
 | mp (id:Nat):AvP M (.mp id)
inductive AvO (M:Nat->Prop):Ob->Prop
 | cells (T:TypeId) (cs:List PV) (h:∀ p∈cs,AvP M p):AvO M (.cells T cs)
 | row (T:TypeId) (k:Nat) (l:List (List DV)) (h:∀ cs∈l,∀ x∈cs,AvD M x):AvO M (.row T k l)
 | mapH (nl:Bool) (ks:List IntKind) (ag:Bool) (m:List (List Int×List DV)) (h:∀ e∈m,∀ x∈e.2,AvD M x):AvO M (.mapH nl ks ag m)
theorem MapRd.conv{w:World}{S S':Nat->Prop}{ks:List IntKind}{ag:Bool}{m m':List (List Int×List DV)}{bs:List Nat}{ck:Nat}{es:Array MapEntry}(h:MapRd w S ks ag m bs ck es)(hl:m.length=m'.length)
  (hc:∀ (i:Nat) (ns:List Int) (cs':List DV),m'[i]?=some (ns,cs')->∃ cs,m[i]?=some (ns,cs)/\cs.length=cs'.length/\∀ (j:Nat) (x':DV) (u:Value),cs'[j]?=some x'->∃ x,cs[j]?=some x/\(DRd w S x u->DRd w S' x' u)):MapRd w S' ks ag m' bs ck es:=
 ⟨h.size.trans hl,h.stamps,h.below,h.nodup,fun i ns cs' hi=>by
  obtain⟨cs,h1,h2,h3⟩:=hc i ns cs' hi;obtain⟨e,us,e1,e2,e3,e4,e5,e6,e7,e8⟩:=h.ent i ns cs h1;refine⟨e,us,e1,e2,e3,e4.trans h2,fun ha=>by rw[<- h2];exact e5 ha,e6,e7,fun j x' u hx hu=>?_⟩;obtain⟨x,h4,h5⟩:=h3 j x' u hx;exact h5 (e8 j x u h4 hu)⟩
theorem AvD.keep{M:Nat->Prop}{w:World}{S:Nat->Prop}{blk:Nat}(hM:M blk){x:DV}{u:Value}(h:AvD M x)(hd:DRd w S x u):DRd w (fun b=>S b/\b≠blk) x u:=by
 cases h with
 | v=>cases hd with | v _ h=>exact .v _ h
 | od N x h=>cases hd with | od _ _ _ h0=>exact .od N x u (h0.mono fun b hb=>⟨⟨hb.1,fun e=>h blk hM (e▸hb.2)⟩,hb.2⟩)
 | rw N e k l h=>
  cases hd with
  | rwNil _ _ _ h1=>exact .rwNil _ _ _ h1
  | rw _ _ _ _ b cap cur hS hN hb hh hlc hcap hcs hk hr=>exact .rw _ _ _ _ b cap cur ⟨hS,fun e=>h blk hM (e▸hN)⟩ hN hb hh hlc hcap hcs hk hr
theorem AvP.keep{M:Nat->Prop}{w:World}{g:zR}{S:Nat->Prop}{blk:Nat}(hM:M blk){x:PV}{u:Value}(h:AvP M x)(hd:Rd w g S x u):Rd w g (fun b=>S b/\b≠blk) x u:=by
 cases h with
 | junk=>exact .junk _
 | d h=>cases hd with | d hd=>exact .d (h.keep hM hd)
 | ref=>cases hd with | ref _ _ b n h=>exact .ref _ _ b n h
 | row=>
  cases hd with
  | row _ _ b c h=>exact .row _ _ b c h
  | rowNil _ h=>exact .rowNil _ h
 | mp=>cases hd <;> constructor <;> assumption
theorem AvO.keep{M:Nat->Prop}{w:World}{g:zR}{S:Nat->Prop}{blk id:Nat}(hM:M blk){o:Ob}(h:AvO M o)(hd:ObRd w g S id o):ObRd w g (fun b=>S b/\b≠blk) id o:=by
 cases h with
 | cells T cs h=>cases hd with | cells _ _ b n us h1 h2 h3 h4 h5=>exact .cells T cs b n us h1 h2 h3 (fun i p u hp hu=>(h p (List.mem_of_getElem? hp)).keep hM (h4 i p u hp hu)) h5
 | row T k l h=>
  cases hd with
  | rowNil _ _ hgn=>exact .rowNil _ _ hgn
  | row _ _ _ b cap cur h1 h2 h3 h4 h5 h6 h7=>exact .row T k l b cap cur h1 h2 h3 h4 h5 h6 fun i cs j x hi hx=>let ⟨u,hu,hd⟩:=h7 i cs j x hi hx;⟨u,hu,(h cs (List.mem_of_getElem? hi) x (List.mem_of_getElem? hx)).keep hM hd⟩
 | mapH nl ks ag m h=>
  cases hd with
  | mapHNil _ _ hgn=>exact .mapHNil _ _ hgn
  | mapH _ _ _ bs ck b n es h1 h2 h3=>exact .mapH ks ag m bs ck b n es h1 h2 (h3.conv rfl fun i ns cs hi=>⟨cs,hi,rfl,fun j x u hx=>⟨x,hx,fun hd=>(h _ (List.mem_of_getElem? hi) x (List.mem_of_getElem? hx)).keep hM hd⟩⟩)
theorem PWc.thaw{c:Code}{id rid j k:Nat}{T e:TypeId}{cs:List PV}{M:Nat->Prop}{l:List (List Value)}(hl:look s.objs id=some (.cells T cs))(hj:cs[j]?=some (.d (.rw M e k l)))(hcs:∀ (i:Nat) p,i≠j->cs[i]?=some p->AvP M p)
  (hsl:∀ x∈s.sl,AvP M x.2) (hob:∀ x∈s.objs,x.1≠id->AvO M x.2) (hf:s.fresh rid=true) (hne:rid≠id) (hK:∀ b,¬ ctx.K b) (hnew:∀ b,M b->ctx.w0.heap.size<=b)
  (h:PWc P ctx c Q { n:=s.n,sl:=s.sl,objs:=zi rid (.row e k (wV l)) (zi id (.cells T (cs.set j (.row rid (wV l).length))) s.objs) }):PWc P ctx c Q s:=by
 rintro a w ⟨g,hg⟩
 let new:List (Nat×Ob):=zi rid (.row e k (wV l)) (zi id (.cells T (cs.set j (.row rid (wV l).length))) s.objs)
 have hlk:∀ q,look new q=if q=rid then some (.row e k (wV l)) else if q=id then some (.cells T (cs.set j (.row rid (wV l).length))) else look s.objs q:=fun q=>by
  show look (zi rid _ (zi id _ s.objs)) q=_;rw[zC,zC]
 have hrid:=UO hf;have hfl:(wV l).length=l.length:=by simp[wV]
 obtain⟨blk0,n0,hg0⟩:=qQ (hg.objs id _ hl)
 -- what lies in the cell
 have hcell:∃ (u:Value) (us:List Value),w.heap[blk0]?=some (.cells us.toArray T (0,0))/\cs.length=us.length/\us[j]?=some u/\DRd w (zZ ctx g s.objs) (.rw M e k l) u/\(∀ (i:Nat) (p:PV) (u:Value),cs[i]?=some p->us[i]?=some u->Rd w g (zZ ctx g s.objs) p u)/\∀ u∈us,u.oneCell'=true:=by
  cases hg.objs id _ hl with
  | cells _ _ b n us h1 h2 h3 h4 h5=>
   rw[hg0] at h1;cases h1;have hjl:j < us.length:=by rw[<- h3];exact(List.getElem?_eq_some_iff.1 hj).1
   have:=h4 j _ _ hj (List.getElem?_eq_getElem hjl)
   cases this with
   | d hd=>exact⟨_,us,h2,h3,List.getElem?_eq_getElem hjl,hd,h4,h5⟩
 obtain⟨u0,us,hh0,hlen0,hu0,hd0,hall0,hone0⟩:=hcell
 -- both cases alike
 have main:∀ (gv:Option (Nat×Nat)),(∀ b m,gv=some (b,m)->M b/\zZ ctx g s.objs b/\b < w.heap.size)->ObRd w (upd g rid gv) (zZ ctx (upd g rid gv) new) rid (.row e k (wV l))->Rd w (upd g rid gv) (zZ ctx (upd g rid gv) new) (.row rid (wV l).length) u0->RelG ctx (upd g rid gv) { n:=s.n,sl:=s.sl,objs:=new } a w:=by
  intro gv hgv hrow hval;have hst:∀ S:Nat->Prop,zx w w S:=fun S=>⟨Nat.le_refl _,fun _ _ _=>rfl⟩
  have hF:∀ b,zZ ctx g s.objs b->(∀ m,gv≠some (b,m))->zZ ctx (upd g rid gv) new b:=fun b hb hne2=>⟨hb.1,fun q o m hq hgq=>by
   rw[hlk] at hq
   by_cases e1:q=rid
   ·subst e1;rw[zF] at hgq;exact hne2 m hgq
   ·rw[if_neg e1] at hq;rw[zh e1] at hgq
    by_cases e2:q=id
    ·subst e2;exact hb.2 q _ m hl hgq
    ·rw[if_neg e2] at hq;exact hb.2 q o m hq hgq⟩
  have keepP:∀ {p:PV} {u:Value},AvP M p->p.has rid=false->Rd w g (zZ ctx g s.objs) p u->Rd w (upd g rid gv) (zZ ctx (upd g rid gv) new) p u:=fun {p u} hav hh hd=>by
   cases hgv':gv with
   | none=>rw[<- hgv'];exact hd.keep (hst _) (fun b hb _=>hF b hb fun m e=>by rw[hgv'] at e;cases e) fun q hq=>zh fun e=>by rw[e,hh] at hq;cases hq
   | some z=>
    obtain⟨b9,m9⟩:=z;obtain⟨hM,_,_⟩:=hgv b9 m9 hgv';rw[<- hgv'];exact(hav.keep hM hd).keep (hst _) (fun b hb _=>hF b hb.1 fun m e=>by rw[hgv'] at e;cases e;exact hb.2 rfl) fun q hq=>zh fun e=>by rw[e,hh] at hq;cases hq
  have keepO:∀ {q:Nat} {o:Ob},q≠rid->AvO M o->o.has rid=false->ObRd w g (zZ ctx g s.objs) q o->ObRd w (upd g rid gv) (zZ ctx (upd g rid gv) new) q o:=fun {q o} hq hav hh hd=>by
   cases hgv':gv with
   | none=>rw[<- hgv'];exact hd.keep (hst _) (fun b hb _=>hF b hb fun m e=>by rw[hgv'] at e;cases e) (fun _ _ _=>rfl) (zh hq) fun i hi=>zh fun e=>by rw[e,hh] at hi;cases hi
   | some z=>
    obtain⟨b9,m9⟩:=z;obtain⟨hM,_,_⟩:=hgv b9 m9 hgv';rw[<- hgv'];exact(hav.keep hM hd).keep (hst _) (fun b hb _=>hF b hb.1 fun m e=>by rw[hgv'] at e;cases e;exact hb.2 rfl) (fun _ _ _=>rfl) (zh hq) fun i hi=>zh fun e=>by rw[e,hh] at hi;cases hi
  refine⟨hg.defers,hg.size,fun i p hp=>?_,fun q o hq=>?_,fun i q oi oq b n m hi hq hgi hgq=>?_,fun q o b n hq hgq=>?_,hg.os,hg.tape,hg.output,hg.grows,hg.keep⟩
  ·have hp':s.at i=some p:=hp;exact keepP (hsl _ (Zz (xI hp'))) (Xx hf hp') (hg.slots i p hp')
  ·rw[hlk] at hq
   by_cases e1:q=rid
   ·subst e1;rw[if_pos rfl] at hq;cases hq;exact hrow
   ·rw[if_neg e1] at hq
    by_cases e2:q=id
    ·subst e2;rw[if_pos rfl] at hq
     cases hq
     refine .cells T _ blk0 n0 us (by rw[zh e1];exact hg0) hh0 (by simpa using hlen0) (fun i p u hp hu=>?_) hone0;rw[List.getElem?_set] at hp
     by_cases e3:j=i
     ·subst e3;rw[if_pos rfl] at hp
      split at hp
      ·cases hp
       rw[hu0] at hu;cases hu;exact hval
      ·cases hp
     ·rw[if_neg e3] at hp;refine keepP (hcs i p (Ne.symm e3) hp) ?_ (hall0 i p u hp hu);have:=VL hf hl;exact XF (by simpa[Ob.has] using this) hp
    ·rw[if_neg e2] at hq;exact keepO e1 (hob _ (yn hq) e2) (VL hf hq) (hg.objs q o hq)
  ·have key:∀ {q:Nat} {o:Ob},look new q=some o->q=rid\/∃ o',look s.objs q=some o':=fun {q o} h=>by
    rw[hlk] at h
    by_cases e1:q=rid
    ·exact .inl e1
    ·rw[if_neg e1] at h
     by_cases e2:q=id
     ·subst e2;exact .inr ⟨_,hl⟩
     ·rw[if_neg e2] at h;exact .inr ⟨_,h⟩
   by_cases h1:i=rid <;> by_cases h2:q=rid
   ·exact h1.trans h2.symm
   ·subst h1;rw[zF] at hgi;rw[zh h2] at hgq;obtain⟨o',ho'⟩:=(key hq).resolve_left h2;exact((hgv b n hgi).2.1.2 q o' m ho' hgq).elim
   ·subst h2;rw[zF] at hgq;rw[zh h1] at hgi;obtain⟨o',ho'⟩:=(key hi).resolve_left h1;exact((hgv b m hgq).2.1.2 i o' n ho' hgi).elim
   ·rw[zh h1] at hgi;rw[zh h2] at hgq;obtain⟨o1,e1⟩:=(key hi).resolve_left h1;obtain⟨o2,e2⟩:=(key hq).resolve_left h2;exact hg.inj i q o1 o2 b n m e1 e2 hgi hgq
  ·by_cases h1:q=rid
   ·subst h1;rw[zF] at hgq;obtain⟨hM,_,hb⟩:=hgv b n hgq;exact⟨hb,.inl (hnew b hM)⟩
   ·rw[zh h1] at hgq;rw[hlk,if_neg h1] at hq
    by_cases e2:q=id
    ·subst e2;exact hg.own q _ b n hl hgq
    ·rw[if_neg e2] at hq;exact hg.own q o b n hq hgq
 cases hd0 with
 | rwNil _ _ _ hM=>
  refine h a w ⟨upd g rid none,main none (fun b m e=>by cases e) ?_ ?_⟩
  ·exact .rowNil e k (zF _ _ _)
  ·exact .rowNil rid (zF _ _ _)
 | rw _ _ _ _ blk cap cur hS hM hb hh hlc hcap hcs2 hk hr=>
  refine h a w ⟨upd g rid (some (blk,cap)),main (some (blk,cap)) (fun b m e=>by cases e;exact⟨hM,hS,hb⟩) ?_ ?_⟩
  ·refine .row e k (wV l) blk cap cur (zF _ _ _) hh (by rw[hfl];exact hlc) hcap hcs2 (fun i cs hi=>?_) (fun i cs q x hi hx=>?_)
   ·obtain⟨vs,h1,rfl⟩:=XS hi;rw[List.length_map];exact hk i vs h1
   ·obtain⟨vs,h1,rfl⟩:=XS hi;rw[List.getElem?_map] at hx
    cases hv:vs[q]? with
    | none=>rw[hv] at hx;cases hx
    | some y=>
     rw[hv] at hx
     cases hx
     obtain⟨h2,h3⟩:=hr i vs q y h1 hv;exact⟨y,h2,.v y h3⟩
  ·rw[hfl];exact .row rid _ blk cap (zF _ _ _)
end
section
variable{P:Program}{ctx:Ctx}{s:PState}
variable{dst:Option Tmp}{ty:TypeId}{pos:String}{after:Array Edge}{gd:Option (Nat×Bool)}
end
end Go.Ep

/- Side texts. -/
import Derived.Test.YtkebaehlcmgccaaGreatBBk2
import Derived.Test.YtkebaehlcmgccaaGreatBBk3
import Derived.Test.YtkebaehlcmgccaaGreatBBk4
import Derived.Test.YtkebaehlcmgccaaGreatBBk5
set_option linter.unusedVariables false
set_option linter.unusedSimpArgs false
namespace Go.Ep
open Go.RowKit
section
variable {ctx:Ctx} {s:PState}
theorem RelG.obj {g:zd} {a:Act} {w:World} (h1:RelG ctx g s a w) {id:Nat} {o o':Ob} (hl:look s.objs id = some o) (hob:ObRd w g (zm ctx g s.objs) id o'):RelG ctx g { s with objs:=zx id o' s.objs } a w:=by
 have hF:∀ b,zm ctx g s.objs b -> zm ctx g (zx id o' s.objs) b:=fun b hb=>⟨hb.1,fun i o2 n ho hgi=>by
  rw [zC] at ho
  by_cases ei:i = id
  ·subst ei;exact hb.2 i _ n hl hgi
  ·rw [if_neg ei] at ho;exact hb.2 i o2 n ho hgi⟩
 have hst:yc w w (zm ctx g s.objs):=⟨Nat.le_refl _,fun _ _ _=>rfl⟩
 have hlk:∀ i o2,look (zx id o' s.objs) i = some o2 -> ∃ o3,look s.objs i = some o3:=fun i o2 ho=>by
  rw [zC] at ho
  by_cases ei:i = id
  ·subst ei;exact ⟨_,hl⟩
  ·rw [if_neg ei] at ho;exact ⟨_,ho⟩
 refine ⟨h1.defers,h1.size,fun i p hp=>(h1.slots i p hp).keep hst (fun b hb _=>hF b hb) (fun _ _=>rfl),fun i o2 ho=>?_,fun i i2 o2 o3 b n m ho ho2 hgi hgi2=>?_,fun i o2 b n ho hgi=>?_,h1.os,h1.tape,h1.output,h1.grows,h1.keep⟩
 ·rw [zC] at ho
  by_cases ei:i = id
  ·subst ei;rw [if_pos rfl] at ho
   cases ho
   exact hob.keep hst (fun b hb _=>hF b hb) (fun _ _ _=>rfl) rfl (fun _ _=>rfl)
  ·rw [if_neg ei] at ho;exact (h1.objs i o2 ho).keep hst (fun b hb _=>hF b hb) (fun _ _ _=>rfl) rfl (fun _ _=>rfl)
 ·obtain ⟨o4,e4⟩:=hlk i o2 ho;obtain ⟨o5,e5⟩:=hlk i2 o3 ho2;exact h1.inj i i2 o4 o5 b n m e4 e5 hgi hgi2
 ·obtain ⟨o4,e4⟩:=hlk i o2 ho;exact h1.own i o4 b n e4 hgi
variable {id:Nat} {nl:Bool} {ks:List IntKind} {ag:Bool} {m:List (List Int × List DV)} {bs:List Nat} {ck:Nat}
theorem Sub.nToH (hl:look s.objs id = some (.mapN nl ks ag m bs ck)):Sub ctx s { s with objs:=zx id (.mapH nl ks ag m) s.objs }:=
 Sub.obj hl fun w g S h=>by
  cases h with
  | mapNil _ _ _ h=>exact .mapHNil _ _ h
  | mapN _ _ _ _ _ blk n es h hh hm=>exact .mapH _ _ _ _ _ blk n es h hh hm
theorem Sub.toH (hl:look s.objs id = some (.map ks ag m bs ck)):Sub ctx s { s with objs:=zx id (.mapH false ks ag m) s.objs }:=
 Sub.obj hl fun w g S h=>by
  cases h with
  | map _ _ _ _ _ blk n es h hh hm=>exact .mapH _ _ _ _ _ blk n es h hh hm
theorem Sub.hT (hl:look s.objs id = some (.mapH nl ks ag m)) (hn:nl = true):Sub ctx s { s with objs:=zx id (.mapN true ks ag m [] 0) s.objs }:=
 Sub.obj hl fun w g S h=>by
  subst hn
  cases h with
  | mapHNil _ _ h=>exact .mapNil _ _ _ h
theorem openH (hl:look s.objs id = some (.mapH nl ks ag m)) {a:Act} {w:World} (hr:Rel ctx s a w):∃ bs ck,Rel ctx { s with objs:=zx id (.mapN nl ks ag m bs ck) s.objs } a w:=by
 obtain ⟨g,hg⟩:=hr;have h:=hg.objs id _ hl
 cases h with
 | mapHNil _ _ h=>exact ⟨[],0,g,hg.obj hl (.mapNil _ _ _ h)⟩
 | mapH _ _ _ bs ck blk n es h hh hm=>exact ⟨bs,ck,g,hg.obj hl (.mapN _ _ _ _ _ blk n es h hh hm)⟩
variable {P:Program} {Q:PQ}
theorem PWc.openH {c:Code} (hl:look s.objs id = some (.mapH nl ks ag m)) (h:∀ bs ck,PWc P ctx c Q { s with objs:=zx id (.mapN nl ks ag m bs ck) s.objs }):PWc P ctx c Q s:=fun a w hr=>by
 obtain ⟨bs,ck,h2⟩:=Go.Ep.openH hl hr;exact h bs ck a w h2
theorem PWl.openH {ops:Array Oper} {l:List Oper} (hl:look s.objs id = some (.mapH nl ks ag m)) (h:∀ bs ck,PWl P ctx ops Q l { s with objs:=zx id (.mapN nl ks ag m bs ck) s.objs }):PWl P ctx ops Q l s:=fun a w hr=>by
 obtain ⟨bs,ck,h2⟩:=Go.Ep.openH hl hr;exact h bs ck a w h2
theorem yZa (id:Nat) (o o':Ob) (l:List (Nat × Ob)) (i:Nat):look (zx id o (zx id o' l)) i = look (zx id o l) i:=by
 rw [zC,zC,zC]
 by_cases h:i = id <;> simp [h]
theorem Sub.same {t:PState} (hn:s.n = t.n) (hs:s.sl = t.sl) (ho:∀ i,look s.objs i = look t.objs i):Sub ctx s t:=
 Sub.drop hn (fun i p hp=>by rw [Xd] at hp ⊢;rw [hn,hs];exact hp) (fun i o h=>by rw [ho];exact h)
theorem PWc.hF {c:Code} (hl:look s.objs id = some (.mapH nl ks ag m)) (hn:nl = false) (h:∀ bs ck,PWc P ctx c Q { s with objs:=zx id (.map ks ag m bs ck) s.objs }):PWc P ctx c Q s:=
 PWc.openH hl fun bs ck=>PWc.sub (Sub.mapF (id:=id) (by show look (zx id _ _) id = _;rw [zC,if_pos rfl]) hn) (PWc.sub (Sub.same (t:={ s with objs:=zx id (.map ks ag m bs ck) s.objs }) rfl rfl fun i=>by
  show look (zx id _ (zx id _ _)) i = look (zx id _ _) i;rw [yZa]) (h bs ck))
theorem Local.openH {o:Oper} {t:PState} (hl:look s.objs id = some (.mapH nl ks ag m)) (h:∀ bs ck,Local P ctx o { s with objs:=zx id (.mapN nl ks ag m bs ck) s.objs } t):Local P ctx o s t:=fun a w hr K Qx hK=>by
 obtain ⟨bs,ck,h2⟩:=Go.Ep.openH hl hr;exact h bs ck a w h2 K Qx hK
theorem closeP {dst:Option Nat} {p:PV} {m':List (List Int × List DV)} (hl:look s.objs id = some (.mapH nl ks ag m')):Sub ctx (({ s with objs:=zx id (.mapN nl ks ag m' bs ck) s.objs }:PState).putD dst p) (s.putD dst p):=by
 refine Sub.trans (Sub.nToH (id:=id) (nl:=nl) (ks:=ks) (ag:=ag) (m:=m') (bs:=bs) (ck:=ck) ?_) (Sub.same ?_ ?_ fun i=>?_)
 ·rw [ym];show look (zx id _ _) id = _;rw [zC,if_pos rfl]
 ·cases dst <;> rfl
 ·cases dst <;> rfl
 ·rw [ym];show look (zx id _ _) i = _;rw [ym];show look (zx id _ (zx id _ _)) i = _;rw [yZa,zC]
  by_cases h:i = id
  ·rw [if_pos h,h,hl]
  ·rw [if_neg h]
theorem ev_objs {x:Operand} (l:List (Nat × Ob)):({ s with objs:=l }:PState).ev x = s.ev x:=by cases x <;> rfl
end
section
variable {P:Program} {ctx:Ctx} {Q:PQ} {s:PState}
variable {dst:Option Tmp} {ty:TypeId} {pos:String} {after:Array Edge} {gd:Option (Nat × Bool)}
variable {κ ν:Type} [DecidableEq κ] {eK:κ -> List Int} {eV:ν -> List DV} {m:List (κ × ν)} {q:κ} {zv:ν} (inj:∀ a b,eK a = eK b -> a = b)
variable {x kx:Operand} {t kt et:TypeId} {ks:List IntKind} {ag:Bool} {z:Value} {p kp:PV} {id:Nat} {nl:Bool} {bs:List Nat} {ck:Nat}
section
variable (hu:P.underlying t = some (.map kt et)) (K:KeyOK P kt ks) (hz:∀ w,(zeroValue et).run P w = .ok z w) (hzr:∀ (w:World) (g:zd) (S:Nat -> Prop),Rd w g S (elP ag (eV zv)) z) (hk:s.ev kx = some kp) (hkp:kp = vYa ks (eK q)) (hn:(eK q).length = ks.length) (hp:elP ag (eV (AL.getZ m q zv)) = p)
include inj hu K hz hzr hk hkp hn hp
end
theorem LR.eqlH {mm:List (List Int × List DV)} {t t' kt et:TypeId} (hu:P.underlying t = some (.map kt et)) (hx:s.ev x = some (.mp id)) (hl:look s.objs id = some (.mapH nl ks ag mm)) :
  Local P ctx ⟨dst,.binOp .eql t x (.const (.map none)) t',ty,pos,after,gd⟩ s (s.putD dst (.d (.v (.bool nl)))):=
 Local.openH hl fun bs ck=>(LR.eqlMapN hu (by rw [ev_objs];exact hx) (by show look (zx id _ _) id = _;rw [zC,if_pos rfl])).post (closeP hl)
end
inductive JCs (nm:List Nat):List PV -> List PV -> Prop
 | nil:JCs nm [] []
 | keep {p:PV} {cs cs':List PV} (h:p.named nm = true) (t:JCs nm cs cs'):JCs nm (p :: cs) (p :: cs')
 | junk {p:PV} {cs cs':List PV} (t:JCs nm cs cs'):JCs nm (p :: cs) (.junk :: cs')
inductive JOb (nm:List Nat):Ob -> Ob -> Prop
 | same {o:Ob} (h:o.named nm = true):JOb nm o o
 | cells {T:TypeId} {cs cs':List PV} (h:JCs nm cs cs'):JOb nm (.cells T cs) (.cells T cs')
inductive JObs (nm:List Nat):List (Nat × Ob) -> List (Nat × Ob) -> Prop
 | nil:JObs nm [] []
 | cons {k:Nat} {o o':Ob} {F F':List (Nat × Ob)} (h:JOb nm o o') (t:JObs nm F F'):JObs nm ((k,o) :: F) ((k,o') :: F')
theorem JCs.len {nm:List Nat} {cs cs':List PV} (h:JCs nm cs cs'):cs'.length = cs.length:=by
 induction h with
 | nil=>rfl
 | keep _ _ ih=>simp [ih]
 | junk _ ih=>simp [ih]
theorem JCs.get {nm:List Nat} {cs cs':List PV} (h:JCs nm cs cs'):∀ (i:Nat) (p:PV),cs'[i]? = some p -> p = .junk \/ cs[i]? = some p:=by
 induction h with
 | nil=>intro i p h;simp at h
 | keep _ _ ih=>
  intro i p h
  cases i with
  | zero=>exact .inr (by simpa using h)
  | succ i=>simpa using ih i p (by simpa using h)
 | junk _ ih=>
  intro i p h
  cases i with
  | zero=>exact .inl (by simpa using h.symm)
  | succ i=>simpa using ih i p (by simpa using h)
theorem JCs.named {nm:List Nat} {cs cs':List PV} (h:JCs nm cs cs'):PV.named.namedL nm cs' = true:=by
 induction h with
 | nil=>rfl
 | keep h _ ih=>simp only [PV.named.namedL,h,ih,Bool.and_self]
 | junk _ ih=>simp only [PV.named.namedL,PV.named,ih,Bool.and_self]
theorem JOb.named {nm:List Nat} {o o':Ob} (h:JOb nm o o'):o'.named nm = true:=by
 cases h with
 | same h=>exact h
 | cells h=>exact h.named
theorem JOb.rd {nm:List Nat} {o o':Ob} (h:JOb nm o o') {w:World} {g:zd} {S:Nat -> Prop} {id:Nat} (hr:ObRd w g S id o):ObRd w g S id o':=by
 cases h with
 | same=>exact hr
 | cells h=>
  cases hr with
  | cells _ _ blk n us hgi hh hl hr' h1=>
   refine .cells _ _ blk n us hgi hh (h.len.trans hl) (fun i p u hp hu=>?_) h1;rcases h.get i p hp with rfl | h2
   ·exact .junk u
   ·exact hr' i p u h2 hu
theorem JObs.look {nm:List Nat} {F F':List (Nat × Ob)} (h:JObs nm F F'):∀ (id:Nat) (o':Ob),Go.Ep.look F' id = some o' -> ∃ o,Go.Ep.look F id = some o /\ JOb nm o o':=by
 induction h with
 | nil=>intro id o' h;simp [Go.Ep.look] at h
 | cons h _ ih=>
  intro id o' hl;simp only [Go.Ep.look] at hl ⊢
  split at hl
  ·rename_i e;cases hl;exact ⟨_,by rw [if_pos e],h⟩
  ·rename_i e;rw [if_neg e];exact ih id o' hl
theorem uwa {l:List (Nat × Ob)} {i:Nat} (h:i ∉ l.map (·.1)):look l i = none:=by
 cases hl:look l i with
 | none=>rfl
 | some o=>exact absurd (yJ hl) h
theorem OwnB.app {g:zd} {a b:List (Nat × Ob)} {k:Nat} (h:OwnB g (a ++ b) k):OwnB g a k \/ OwnB g b k:=by
 obtain ⟨id,o,n,h1,h2⟩:=h;rw [vG] at h1
 cases hl:look a id with
 | none=>rw [hl,Option.none_or] at h1;exact .inr ⟨id,o,n,h1,h2⟩
 | some q=>rw [hl,Option.some_or] at h1;exact .inl ⟨id,q,n,hl,h2⟩
theorem PObj.frame {G:Type} {P:Program} {f:FuncId} {ps:List PV} {os:List (Nat × Ob)} {pins ks:List Nat} {r:PV} {os':G -> List (Nat × Ob)} (F F':List (Nat × Ob)) (hc:PObj P f ps os pins r os')
  (hks:∀ gh,(os' gh).map (·.1) = ks) (hcl:∀ gh,(os' gh).all (fun x=>x.2.named ks) = true) (hr:r.named ks = true) (hd:((F.map (·.1)).all fun k=>!inL (os.map (·.1)) k && !inL ks k) = true) (hj:JObs (pins ++ F.map (·.1)) F F') :
  PObj P f ps (os ++ F) (pins ++ F.map (·.1)) r (fun gh=>os' gh ++ F'):=by
 intro w g S vs hlen hreal hobs hdis;have hd1:∀ k ∈ F.map (·.1),k ∉ os.map (·.1) /\ k ∉ ks:=fun k hk=>by
  have h:=List.all_eq_true.1 hd k hk;rw [Bool.and_eq_true,Bool.not_eq_true',Bool.not_eq_true',Xs,Xs] at h;exact h
 have Xu:∀ {id o},look F id = some o -> look (os ++ F) id = some o:=fun {id o} h=>by
  rw [vG,uwa (hd1 id (yJ h)).1,Option.none_or];exact h
 have ownL:∀ {b},OwnB g os b -> OwnB g (os ++ F) b:=fun ⟨id,o,n,h1,h2⟩=>⟨id,o,n,wg h1,h2⟩
 have ownR:∀ {b},OwnB g F b -> OwnB g (os ++ F) b:=fun ⟨id,o,n,h1,h2⟩=>⟨id,o,n,Xu h1,h2⟩
 have hnF:∀ {id o b n},look F id = some o -> g id = some (b,n) -> ¬ OwnB g os b:=fun {id o b n} h1 h2 ⟨id2,o2,n2,h3,h4⟩=>by
  have:=hobs.inj id id2 o o2 b n n2 (Xu h1) (wg h3) h2 h4;subst this;exact (hd1 id (yJ h1)).1 (yJ h3)
 refine (hc w g S vs hlen hreal ⟨fun id o h=>hobs.rd id o (wg h),fun i j oi oj b n m hi hj=>hobs.inj i j oi oj b n m (wg hi) (wg hj),fun id o b n h=>hobs.lt id o b n (wg h)⟩ (fun b hb h=>hdis b hb (ownL h))).mono fun e w' ⟨u,g',gh,he,hpost⟩=>?_
 have hks':=hks gh;have hcl':=hcl gh
 let G':zd:=fun j=>if inL (F.map (·.1)) j then g j else g' j
 refine ⟨u,G',gh,he,?_⟩;show ura w g S (os ++ F) (pins ++ F.map (·.1)) r (os' gh ++ F') w' G' u
 generalize os' gh = os1 at hpost hks' hcl' ⊢
 have gF:∀ {j},j ∈ F.map (·.1) -> G' j = g j:=fun {j} h=>by simp only [G',zb.2 h,if_true]
 have gN:∀ {j},j ∉ F.map (·.1) -> G' j = g' j:=fun {j} h=>by simp only [G',Xs.2 h,Bool.false_eq_true,if_false]
 have gK:∀ {j},j ∈ ks -> G' j = g' j:=fun {j} h=>gN fun h2=>(hd1 j h2).2 h
 have gP:∀ {j},j ∈ pins ++ F.map (·.1) -> G' j = g j:=fun {j} h=>by
  by_cases hf:j ∈ F.map (·.1)
  ·exact gF hf
  ·rw [gN hf];exact hpost.pin j ((List.mem_append.1 h).resolve_right hf)
 have split:∀ {id o},look (os1 ++ F') id = some o -> (look os1 id = some o /\ id ∈ ks) \/ ∃ o0,look F id = some o0 /\ JOb (pins ++ F.map (·.1)) o0 o:=fun {id o} h=>by
  rw [vG] at h
  cases hl:look os1 id with
  | none=>rw [hl,Option.none_or] at h;exact .inr (hj.look id o h)
  | some q=>rw [hl,Option.some_or] at h;cases h;exact .inl ⟨rfl,hks' ▸ yJ hl⟩
 have hA:∀ b,JU w g S os g' os1 b -> JU w g S (os ++ F) G' (os1 ++ F') b:=fun b ⟨h1,h2⟩=>⟨by
  rcases h1 with h1 | h1 | h1
  ·exact .inl h1
  ·exact .inr (.inl (ownL h1))
  ·exact .inr (.inr h1),fun ⟨id,o,n,hl,hgi⟩=>by
  rcases split hl with ⟨h3,h4⟩ | ⟨o0,h3,h4⟩
  ·rw [gK h4] at hgi;exact h2 ⟨id,o,n,h3,hgi⟩
  ·rw [gF (yJ h3)] at hgi;rcases h1 with h1 | h1 | h1
   ·exact hdis b h1 ⟨id,o0,n,Xu h3,hgi⟩
   ·exact hnF h3 hgi h1
   ·have:=hobs.lt id o0 b n (Xu h3) hgi;omega⟩
 have hS:∀ b,S b -> b < w.heap.size -> JU w g S (os ++ F) G' (os1 ++ F') b:=fun b hb hlt=>⟨.inl hb,fun ⟨id,o,n,hl,hgi⟩=>by
  rcases split hl with ⟨h3,h4⟩ | ⟨o0,h3,h4⟩
  ·rw [gK h4] at hgi;rcases hpost.own b ⟨id,o,n,h3,hgi⟩ with h5 | h5
   ·exact hdis b hb (ownL h5)
   ·omega
  ·rw [gF (yJ h3)] at hgi;exact hdis b hb ⟨id,o0,n,Xu h3,hgi⟩⟩
 have hst:yc w w' S:=⟨hpost.grows,fun b hb hlt=>hpost.keep b hlt fun h=>hdis b hb (ownL h)⟩
 have hst':yc w' w' (JU w g S os g' os1):=⟨Nat.le_refl _,fun _ _ _=>rfl⟩
 refine ⟨hpost.eos,hpost.tape,hpost.output,hpost.grows,fun k hk h=>hpost.keep k hk fun h2=>h (ownL h2),fun b ⟨id,o,n,hl,hgi⟩=>?_,fun id h=>gP h,?_,⟨fun id o hl=>?_,fun i j oi oj b n m hi hj' hgi hgj=>?_,fun id o b n hl hgi=>?_⟩⟩
 ·rcases split hl with ⟨h3,h4⟩ | ⟨o0,h3,h4⟩
  ·rw [gK h4] at hgi;exact (hpost.own b ⟨id,o,n,h3,hgi⟩).imp ownL (fun h=>h)
  ·rw [gF (yJ h3)] at hgi;exact .inl (ownR ⟨id,o0,n,h3,hgi⟩)
 ·exact hpost.res.keep hst' (fun b hb _=>hA b hb) fun j hjj=>gK (PV.named_has hr hjj)
 ·rcases split hl with ⟨h3,h4⟩ | ⟨o0,h3,h4⟩
  ·have hn:=(List.all_eq_true.1 hcl') _ (wk h3);exact (hpost.obs.rd id o h3).keep hst' (fun b hb _=>hA b hb) (fun _ _ _=>rfl) (gK h4) fun j hjj=>gK (Ob.named_has hn hjj)
  ·exact (h4.rd (hobs.rd id o0 (Xu h3))).keep hst hS (fun b n hgi=>hpost.keep b (hobs.lt id o0 b n (Xu h3) hgi) (hnF h3 hgi)) (gF (yJ h3)) fun j hjj=>gP (Ob.named_has h4.named hjj)
 ·rcases split hi with ⟨h3,h4⟩ | ⟨o0,h3,h4⟩ <;> rcases split hj' with ⟨h5,h6⟩ | ⟨o2,h5,h6⟩
  ·rw [gK h4] at hgi;rw [gK h6] at hgj;exact hpost.obs.inj i j oi oj b n m h3 h5 hgi hgj
  ·rw [gK h4] at hgi;rw [gF (yJ h5)] at hgj;exfalso;rcases hpost.own b ⟨i,oi,n,h3,hgi⟩ with h7 | h7
   ·exact hnF h5 hgj h7
   ·have:=hobs.lt j o2 b m (Xu h5) hgj;omega
  ·rw [gF (yJ h3)] at hgi;rw [gK h6] at hgj;exfalso;rcases hpost.own b ⟨j,oj,m,h5,hgj⟩ with h7 | h7
   ·exact hnF h3 hgi h7
   ·have:=hobs.lt i o0 b n (Xu h3) hgi;omega
  ·rw [gF (yJ h3)] at hgi;rw [gF (yJ h5)] at hgj;exact hobs.inj i j o0 o2 b n m (Xu h3) (Xu h5) hgi hgj
 ·rcases split hl with ⟨h3,h4⟩ | ⟨o0,h3,h4⟩
  ·rw [gK h4] at hgi;exact hpost.obs.lt id o b n h3 hgi
  ·rw [gF (yJ h3)] at hgi;exact Nat.lt_of_lt_of_le (hobs.lt id o0 b n (Xu h3) hgi) hpost.grows
section
variable {ctx:Ctx} {s:PState}
inductive RSl (s:PState) (ρ:List (Nat × Nat)):List (Nat × PV) -> Prop
 | nil:RSl s ρ []
 | cons {i:Nat} {p:PV} {r:List (Nat × PV)} (h:s.at i = some (p.ren ρ)) (t:RSl s ρ r):RSl s ρ ((i,p) :: r)
theorem RSl.get {ρ:List (Nat × Nat)} {l:List (Nat × PV)} (h:RSl s ρ l):∀ i p,xY l i = some p -> s.at i = some (p.ren ρ):=by
 induction h with
 | nil=>intro i p h;simp [xY] at h
 | cons h _ ih=>
  intro i p hl;rw [yf] at hl
  split at hl
  ·rename_i e;subst e;cases hl;exact h
  ·exact ih i p hl
end
inductive LookIn (os':List (Nat × Ob)):List (Nat × Ob) -> Prop
 | nil:LookIn os' []
 | cons {i:Nat} {o:Ob} {r:List (Nat × Ob)} (h:Go.Ep.look os' i = some o) (t:LookIn os' r):LookIn os' ((i,o) :: r)
theorem LookIn.get {os' l:List (Nat × Ob)} (h:LookIn os' l):∀ i o,Go.Ep.look l i = some o -> Go.Ep.look os' i = some o:=by
 induction h with
 | nil=>intro i o h;simp [Go.Ep.look] at h
 | cons h _ ih=>
  intro j o2 hl;simp only [Go.Ep.look] at hl
  split at hl
  ·rename_i e;subst e;cases hl;exact h
  ·exact ih j o2 hl
theorem uxa {ρ:List (Nat × Nat)} {acc:List (Nat × Ob)} {i:Nat} {o:Ob}:∀ {l:List (Nat × Ob)},look l i = some o -> (∀ j ∈ l.map (·.1),rn ρ j = rn ρ i -> j = i) -> look (l.foldr (fun x l=>zx (rn ρ x.1) (x.2.ren ρ) l) acc) (rn ρ i) = some (o.ren ρ)
 | [],h,_=>by simp [look] at h
 | (k,q) :: r,h,hi=>by
  rw [List.foldr_cons,zC]
  by_cases e:rn ρ i = rn ρ k
  ·rw [if_pos e];have:=hi k (by simp) e.symm;subst this;simp [look] at h;rw [h]
  ·rw [if_neg e];refine uxa (l:=r) ?_ (fun j hj=>hi j (by simp only [List.map_cons,List.mem_cons];exact .inr hj));simp only [look] at h;rw [if_neg (fun e2=>e (by rw [e2]))] at h;exact h
theorem lookN {ρ:List (Nat × Nat)} {acc:List (Nat × Ob)} {j:Nat}:∀ {l:List (Nat × Ob)},(∀ i ∈ l.map (·.1),rn ρ i ≠ j) -> look (l.foldr (fun x l=>zx (rn ρ x.1) (x.2.ren ρ) l) acc) j = look acc j
 | [],_=>rfl
 | (k,q) :: r,h=>by
  rw [List.foldr_cons,zC,if_neg (fun e=>h k (by simp) e.symm)];exact lookN fun i hi=>h i (by simp only [List.map_cons,List.mem_cons];exact .inr hi)
theorem uya {ρ:List (Nat × Nat)} {acc:List (Nat × Ob)} {j:Nat}:∀ {l:List (Nat × Ob)},(∀ i ∈ l.map (·.1),rn ρ i ≠ j) -> look (l.foldr (fun x l=>YE (rn ρ x.1) l) acc) j = look acc j
 | [],_=>rfl
 | (k,q) :: r,h=>by
  rw [List.foldr_cons,xZ,if_neg (fun e=>h k (by simp) e.symm)];exact uya fun i hi=>h i (by simp only [List.map_cons,List.mem_cons];exact .inr hi)
theorem wka {l:List (Nat × Ob)} {i:Nat} (h:i ∈ l.map (·.1)):∃ o,look l i = some o:=by
 cases hl:look l i with
 | some o=>exact ⟨o,rfl⟩
 | none=>
  exfalso
  induction l with
  | nil=>cases h
  | cons x r ih=>
   simp only [look] at hl
   split at hl
   ·cases hl
   ·rename_i e
    simp only [List.map_cons,List.mem_cons] at h;exact ih (h.resolve_left e) hl
section
variable {P:Program} {ctx:Ctx} {Q:PState -> Prop} {s:PState} {ops:Array Oper} {rest:List Oper} {fs:List Ft} {f:Ft}
variable {dst:Option Tmp} {ty:TypeId} {pos:String} {after:Array Edge} {gd:Option (Nat × Bool)}
theorem PQe.callObjS {x:Operand} {xs:List Operand} {ats:Array TypeId} {fn:FuncId} {ps qs:List PV} {os os':List (Nat × Ob)} {pins:List Nat} {r:PV} (ρ:List (Nat × Nat)) (js ks:List Nat) (osV osS:List (Nat × Ob))
  (hc:PObj P fn ps os pins r (fun _:Unit=>os')) (hK:∀ b,ctx.K b -> ctx.S b)
  (hev:∀ s':PState,(∀ {y q},vL (⟨dst,.call ⟨.value x,xs.toArray,ats⟩,ty,pos,after,gd⟩:Oper) y = true -> s.ev y = some q -> s'.ev y = some q) -> s'.ev x = some (.d (.v (.func (.func fn) #[] #[]))) /\ s'.evs xs = some qs)
  (he:∀ args w,(callFunc fn args).run P w = .ok (.enter fn args) w) (hq:qs.map PV.nilD = ps.map (PV.ren ρ)) (hos:AllOb s ρ os) (hV:LookIn os' osV) (hS:LookIn os' osS) (hAS:AllOb s ρ osS) (hcov:(os'.map (·.1)).all (fun i=>inL (osV.map (·.1)) i || inL (osS.map (·.1)) i) = true) (hSo:(osS.map (·.1)).all (inL (os.map (·.1))) = true)
  (hks:os'.map (·.1) = ks) (hcl:os'.all (fun x=>x.2.named ks) = true) (hr:r.named ks = true) (hok:calO ρ js (os.map (·.1)) pins ks f = true)
  (hg:Wd ops (⟨dst,.call ⟨.value x,xs.toArray,ats⟩,ty,pos,after,gd⟩:Oper) s) (hk:okE f (qc ρ js dst r osV) = true) (h:PQe P ctx ops Q rest fs (s.app (qc ρ js dst r osV))) :
  PQe P ctx ops Q (⟨dst,.call ⟨.value x,xs.toArray,ats⟩,ty,pos,after,gd⟩ :: rest) (f :: fs) s:=by
 simp only [calO,Bool.and_eq_true] at hok;obtain ⟨⟨⟨⟨⟨c1,c2⟩,c3⟩,c4⟩,c5⟩,c6⟩:=hok;refine .step (e:=qc ρ js dst r osV) (fun s' hn hee ho hfr hal=>?_) hg hk h;obtain ⟨h1,h2⟩:=hev s' (fun hx hq=>hee hx hq);have hinj:∀ i j,i ∈ os.map (·.1) ++ ks -> j ∈ os.map (·.1) ++ ks -> rn ρ i = rn ρ j -> i = j:=fun i j hi hj e=>by
  have h3:=List.all_eq_true.1 (List.all_eq_true.1 c1 i hi) j hj;rw [Bool.or_eq_true,Bool.not_eq_true'] at h3;rcases h3 with h | h
  ·exact Nat.eq_of_beq_eq_true h
  ·rw [e,Nat.beq_refl] at h;cases h
 have hok':Xt s' ρ js (os.map (·.1)) pins ks = true:=by
  unfold Xt;rw [Bool.and_eq_true,Bool.and_eq_true];refine ⟨⟨c1,?_⟩,?_⟩
  ·rw [List.all_eq_true] at c2 ⊢;intro i hi;have:=c2 i hi;rw [Bool.or_eq_true] at this ⊢;exact this.imp (fun h=>h) fun h=>hfr _ (zb.1 h)
  ·rw [List.all_eq_true] at c5 ⊢;intro i hi;have:=c5 i hi;rw [Bool.or_eq_true,Bool.or_eq_true] at this;rw [Bool.or_eq_true];rcases this with (h | h) | h
   ·exact .inl h
   ·refine .inr ?_;have hf:=hfr _ (zb.1 h);rw [Bool.and_eq_true];refine ⟨yYa js hf,?_⟩;simp only [PState.fresh,Bool.and_eq_true,List.all_eq_true] at hf;rw [List.all_eq_true];intro y hy;rw [Bool.or_eq_true];exact .inl (hf.2 y hy).2
   ·refine .inr ?_;obtain ⟨a,ha1,ha2⟩:=List.any_eq_true.1 h;simp only [Bool.and_eq_true,beq_iff_eq] at ha2;have hx:=hal a ha1;rw [Nat.eq_of_beq_eq_true ha2.1,ha2.2] at hx;unfold PState.aloneX at hx;rw [Bool.and_eq_true,yC] at hx;rw [Bool.and_eq_true];refine ⟨hx.1,?_⟩;rw [List.all_eq_true] at c4;have hx2:=hx.2;rw [List.all_eq_true] at hx2 ⊢;intro y hy;have:=hx2 y hy;rw [Bool.or_eq_true] at this ⊢;rcases this with h | h
    ·exact .inr (c4 _ (zb.1 h))
    ·exact .inl h
 have hl:=LR.callObj (P:=P) (ctx:=ctx) (dst:=dst) (ty:=ty) (pos:=pos) (after:=after) (gd:=gd) (ats:=ats) ρ js ks hc hK h1 he h2 hq (hos.keep (fun hi hl=>ho (zb.1 hi) hl) c6) hks hcl hr hok';have hAS':AllOb s' ρ osS:=hAS.keep (f:=f) (fun hi hl=>ho (zb.1 hi) hl) (by
  rw [List.all_eq_true] at c6 hSo ⊢;exact fun i hi=>c6 i (zb.1 (hSo i hi)))
 refine hl.post (Sub.drop ?_ ?_ ?_)
 ·cases dst <;> rfl
 ·intro i p hp;have hat:=uh hp;have hlt:i < s'.n:=JD (s:=s'.app (qc ρ js dst r osV)) hp;refine yAa (by cases dst <;> exact hlt) ?_;simp only [PState.app,qc] at hat
  cases dst with
  | none=>simpa [qb,PState.putD,PState.callO,xr] using hat
  | some d=>simpa [qb,PState.putD,PState.put,PState.callO,xr] using hat
 ·intro id o hlo;have e1:(s'.app (qc ρ js dst r osV)).objs = osV.foldr (fun x l=>zx (rn ρ x.1) (x.2.ren ρ) l) s'.objs:=by
   simp only [PState.app,qc,List.foldr_map]
  have e2:((s'.callO ρ js os os').putD dst (r.ren ρ)).objs = os'.foldr (fun x l=>zx (rn ρ x.1) (x.2.ren ρ) l) (os.foldr (fun x l=>YE (rn ρ x.1) l) s'.objs):=by cases dst <;> rfl
  rw [e1] at hlo;rw [e2];have inj':∀ i,i ∈ os'.map (·.1) -> ∀ j ∈ os'.map (·.1),rn ρ j = rn ρ i -> j = i:=fun i hi j hj e=>hinj j i (List.mem_append_right _ (hks ▸ hj)) (List.mem_append_right _ (hks ▸ hi)) e
  rcases Xu hlo with ⟨i,o1,h3,h4,h5⟩ | ⟨h3,h4⟩
  ·have h6:=hV.get i o1 h3;rw [h4,h5];exact uxa h6 (inj' i (yJ h6))
  ·by_cases hex:∃ i ∈ os'.map (·.1),rn ρ i = id
   ·obtain ⟨i,hi,rfl⟩:=hex;have h5:=List.all_eq_true.1 hcov i hi;rw [Bool.or_eq_true] at h5;rcases h5 with h5 | h5
    ·exact absurd rfl (h3 i (zb.1 h5))
    ·obtain ⟨o2,h6⟩:=wka (zb.1 h5);have h7:=hAS'.get i o2 h6;rw [h4] at h7
     cases h7
     exact uxa (hS.get i o2 h6) (inj' i hi)
   ·rw [lookN fun i hi e=>hex ⟨i,hi,e⟩,uya fun i hi e=>hex ⟨i,by rw [hks];exact zb.1 (List.all_eq_true.1 c3 i hi),e⟩];exact h4
end
section
variable {P:Program} {ctx:Ctx} {s:PState}
variable {dst:Option Tmp} {ty:TypeId} {pos:String} {after:Array Edge} {gd:Option (Nat × Bool)}
theorem uza {os os':List (Nat × Ob)} {pins:List Nat} {r:PV} (ρ:List (Nat × Nat)) (js ks:List Nat) (osV osS:List (Nat × Ob)) (hV:LookIn os' osV) (hS:LookIn os' osS) (hAS:AllOb s ρ osS) (hcov:(os'.map (·.1)).all (fun i=>inL (osV.map (·.1)) i || inL (osS.map (·.1)) i) = true) (c3:(os.map (·.1)).all (inL ks) = true)
  (hks:os'.map (·.1) = ks) (hok:Xt s ρ js (os.map (·.1)) pins ks = true):Sub ctx ((s.callO ρ js os os').putD dst (r.ren ρ)) (s.app (qc ρ js dst r osV)):=by
 have hinj:∀ i j,i ∈ os.map (·.1) ++ ks -> j ∈ os.map (·.1) ++ ks -> rn ρ i = rn ρ j -> i = j:=fun i j hi hj e=>by
  simp only [Xt,Bool.and_eq_true] at hok;have h3:=List.all_eq_true.1 (List.all_eq_true.1 hok.1.1 i hi) j hj;rw [Bool.or_eq_true,Bool.not_eq_true'] at h3;rcases h3 with h | h
  ·exact Nat.eq_of_beq_eq_true h
  ·rw [e,Nat.beq_refl] at h;cases h
 refine Sub.drop ?_ ?_ ?_
 ·cases dst <;> rfl
 ·intro i p hp;have hat:=uh hp;have hlt:i < s.n:=JD (s:=s.app (qc ρ js dst r osV)) hp;refine yAa (by cases dst <;> exact hlt) ?_;simp only [PState.app,qc] at hat
  cases dst with
  | none=>simpa [qb,PState.putD,PState.callO,xr] using hat
  | some d=>simpa [qb,PState.putD,PState.put,PState.callO,xr] using hat
 ·intro id o hlo;have e1:(s.app (qc ρ js dst r osV)).objs = osV.foldr (fun x l=>zx (rn ρ x.1) (x.2.ren ρ) l) s.objs:=by
   simp only [PState.app,qc,List.foldr_map]
  have e2:((s.callO ρ js os os').putD dst (r.ren ρ)).objs = os'.foldr (fun x l=>zx (rn ρ x.1) (x.2.ren ρ) l) (os.foldr (fun x l=>YE (rn ρ x.1) l) s.objs):=by cases dst <;> rfl
  rw [e1] at hlo;rw [e2];have inj':∀ i,i ∈ os'.map (·.1) -> ∀ j ∈ os'.map (·.1),rn ρ j = rn ρ i -> j = i:=fun i hi j hj e=>hinj j i (List.mem_append_right _ (hks ▸ hj)) (List.mem_append_right _ (hks ▸ hi)) e
  rcases Xu hlo with ⟨i,o1,h3,h4,h5⟩ | ⟨h3,h4⟩
  ·have h6:=hV.get i o1 h3;rw [h4,h5];exact uxa h6 (inj' i (yJ h6))
  ·by_cases hex:∃ i ∈ os'.map (·.1),rn ρ i = id
   ·obtain ⟨i,hi,rfl⟩:=hex;have h5:=List.all_eq_true.1 hcov i hi;rw [Bool.or_eq_true] at h5;rcases h5 with h5 | h5
    ·exact absurd rfl (h3 i (zb.1 h5))
    ·obtain ⟨o2,h6⟩:=wka (zb.1 h5);have h7:=hAS.get i o2 h6;rw [h4] at h7
     cases h7
     exact uxa (hS.get i o2 h6) (inj' i hi)
   ·rw [lookN fun i hi e=>hex ⟨i,hi,e⟩,uya fun i hi e=>hex ⟨i,by rw [hks];exact zb.1 (List.all_eq_true.1 c3 i hi),e⟩];exact h4
theorem LR.callObjS {x:Operand} {xs:List Operand} {ats:Array TypeId} {fn:FuncId} {ps qs:List PV} {os os':List (Nat × Ob)} {pins:List Nat} {r:PV} (ρ:List (Nat × Nat)) (js ks:List Nat) (osV osS:List (Nat × Ob))
  (hc:PObj P fn ps os pins r (fun _:Unit=>os')) (hK:∀ b,ctx.K b -> ctx.S b) (hx:s.ev x = some (.d (.v (.func (.func fn) #[] #[])))) (he:∀ args w,(callFunc fn args).run P w = .ok (.enter fn args) w) (hps:s.evs xs = some qs)
  (hq:qs.map PV.nilD = ps.map (PV.ren ρ)) (hos:AllOb s ρ os) (hV:LookIn os' osV) (hS:LookIn os' osS) (hAS:AllOb s ρ osS) (hcov:(os'.map (·.1)).all (fun i=>inL (osV.map (·.1)) i || inL (osS.map (·.1)) i) = true) (c3:(os.map (·.1)).all (inL ks) = true)
  (hks:os'.map (·.1) = ks) (hcl:os'.all (fun x=>x.2.named ks) = true) (hr:r.named ks = true) (hok:Xt s ρ js (os.map (·.1)) pins ks = true) :
  Local P ctx ⟨dst,.call ⟨.value x,xs.toArray,ats⟩,ty,pos,after,gd⟩ s (s.app (qc ρ js dst r osV)):=
 (LR.callObj (P:=P) (ctx:=ctx) (dst:=dst) (ty:=ty) (pos:=pos) (after:=after) (gd:=gd) (ats:=ats) ρ js ks hc hK hx he hps hq hos hks hcl hr hok).post (uza ρ js ks osV osS hV hS hAS hcov c3 hks hok)
end
end Go.Ep

namespace Go.Proofs
open Go.Ep Tryz
set_option maxHeartbeats 1000000
set_option maxRecDepth 100000
set_option linter.unusedVariables false
set_option linter.unusedSimpArgs false


theorem yaa (v1:Int) (r0:Int) (h:(Vf v1).wp (· = r0)):PFun prog 172 [.d (.v (.int .u64 v1))] (.d (.v (.int .i64 r0))):=by
 refine fI (sl:=[(0,_)]) func172 rfl ntmps172 rfl rfl ?_;intro ctx hK;refine wQ<|wR<|wa ?_;refine wN<|wQ<|wR<|wa ?_;refine wN<|wQ ?_;refine wJ (zG h) (fun (n2:Int) (_:Unit)=>⟨11,[(3,.d (.v (.int .i64 n2)))],[]⟩) (fun h=>?_) ?_
 ·refine wB<|wM (fun (⟨v7,n8⟩:Int × Int) (_:Unit)=>⟨11,[(0,.d (.v (.int .u64 v7))),(3,.d (.v (.int .i64 n8)))],[]⟩) () h (sP) ?_;rintro N ⟨v7,n8⟩ _ h;refine wQ<|wQ<|wR<|wm ?_;refine ws (LR.gtr rfl rfl)<|wN ?_;refine xD h rfl (fun _ h=>?_) (fun _ h=>?_)
  ·refine wK<|wQ<|wB<|wR<|wm ?_;refine ws (LR.addW rfl rfl)<|wa ?_;refine wN<|wR<|wm ?_;refine ws (LR.shr rfl rfl (by decide) rfl)<|wa ?_;refine wN ?_;exact ⟨((Int.fdiv v7 (2 ^ 8)),(IntKind.i64.wrap (n8 + 1))),(),h,sP⟩
  ·refine wZ ?_;exact ⟨n8,(),h,sP⟩
 ·rintro n2 _ h;refine wQ<|wR<|wm ?_;refine wa ?_;refine wN<|wX ?_;cases h;exact xT

theorem Qy (v1:Int) (i2:Int) (r0:Int) (h:(WK v1 i2).wp (· = r0)):PFun prog 173 [.d (.v (.int .u64 v1)),.d (.v (.int .i64 i2))] (.d (.v (.int .u8 r0))):=by
 refine fI (sl:=[(0,_),(1,_)]) func173 rfl ntmps173 rfl rfl ?_;intro ctx hK;refine wQ<|wR<|wa ?_;refine wN<|wQ<|wQ<|wR<|wm ?_;refine ws (LR.convInt underlying188 (by rw [underlying3];rfl) rfl rfl) ?_;refine ws (LR.gtr rfl rfl)<|wN ?_;refine xD h rfl (fun _ h=>?_) (fun _ h=>?_)
 ·refine wQ<|wR<|wa ?_;refine wN<|wX ?_;cases h;exact xT
 ·refine wK<|wQ<|wR<|wm ?_;refine wm ?_;refine ws (LR.convInt underlying188 (by rw [underlying3];rfl) rfl rfl) ?_;refine ws (LR.mulW rfl rfl) ?_;obtain ⟨hy4,h⟩:=zw h;refine ws (LR.shr rfl rfl hy4 rfl) ?_;refine ws (LR.convInt underlying5 (by rw [underlying85];rfl) rfl rfl) ?_;refine wa ?_;refine wN<|wX ?_;cases h;exact xT

theorem Qz (b1:List Int) (v2:Int) (r0:List Int) (h:(WL b1 v2).wp (· = r0)):PRow prog 144 [.d (.sl (List.map (eK .u8) b1)),.d (.v (.int .u64 v2))] 5 1 (List.map (eK .u8) r0):=by
 refine PRow.intro (sl:=[(0,_),(1,_)]) func144 rfl ntmps144 rfl rfl ?_;intro ctx hK;refine wQ<|wR<|ws (aR 5 1 rfl)<|wN<|wQ<|wR<|wm ?_;obtain ⟨v3,hy4,h⟩:=zH h;refine xN (yaa v2 v3 hy4) call172<|wa ?_;refine wN<|wQ<|wR<|wm ?_;refine ws (lM (enc:=(eK .u8)) (L:=b1) underlying22 rfl)<|wm ?_;refine ws (LR.addW rfl rfl)<|ws (LR.addW rfl rfl) ?_;obtain ⟨hy5,h⟩:=zw h;refine ws (LR.make0 (n:=Int.toNat ((IntKind.i64.wrap (((IntKind.i64.wrap ((b1.length:Int) + v3))) + 1)))) YN rfl rfl (by omega) (by omega) (by omega) rfl) ?_;refine wa ?_;refine wN<|wQ<|wR<|wm ?_;refine wm ?_;obtain ⟨hy6,h⟩:=zw h;refine ws (LR.appT (enc:=(eK .u8)) (L:=([]:List Int)) (R:=b1) [6,15,16] YN underlying22 rfl (by first | (simp;done) | (simp;omega) | omega) rfl (Src.slT (enc:=(eK .u8)) (R:=b1) rfl (fun _=>rfl)) (fun _=>rfl) hy6 rfl rfl) ?_;refine wm ?_;refine ws (LR.convInt underlying5 (by rw [underlying3];rfl) rfl rfl) ?_;refine ws (LR.buildSliceD [.tmp 20] YN rfl rfl (.cons rfl rfl rfl<|.nil) (by decide) (by decide)) ?_;obtain ⟨hy7,h⟩:=zw h;refine ws (LR.appT (enc:=(eK .u8)) (L:=(([]:List Int) ++ b1)) (R:=[(IntKind.u8.wrap v3)]) [18] YN underlying22 rfl rfl rfl (Src.slT (enc:=(eK .u8)) (R:=[(IntKind.u8.wrap v3)]) rfl (fun _=>rfl)) (fun _=>rfl) hy7 rfl rfl)<|wa ?_;refine wN<|wQ<|wQ<|wR<|wy (tl:=[(1,_),(5,_),(6,_)]) (to:=[(15,_)]) ?_;refine wm ?_;refine ws (LR.subW rfl rfl)<|wa ?_;refine wN ?_;refine wJ (zG h) (fun (v8:List Int) (_:Unit)=>⟨36,[(6,.row 15 (v8.length))],[(15,.row 5 1 (List.map (eK .u8) v8))]⟩) (fun h=>?_) ?_
 ·refine wB ?_;refine wM (fun (⟨i19,v20⟩:Int × List Int) (_:Unit)=>⟨36,[(1,.d (.v (.int .u64 v2))),(6,.row 15 (v20.length)),(7,.d (.v (.int .i64 i19)))],[(15,.row 5 1 (List.map (eK .u8) v20))]⟩) () h (sO rfl (.cons rfl rfl<|.cons rfl (by first | rfl | (simp;done) | (congr 1;first | (simp;done) | (simp;omega) | omega))<|.cons rfl rfl<|.nil) (.cons rfl rfl<|.nil)) ?_;rintro N ⟨i19,v20⟩ _ h;refine wQ<|wQ<|wR<|wm ?_;refine ws (LR.geq rfl rfl)<|wN ?_;refine xD h rfl (fun _ h=>?_) (fun _ h=>?_)
  ·refine wK<|wQ<|wB<|wR<|wm ?_;refine wm ?_;refine wm ?_;obtain ⟨v22,hy23,h⟩:=zH h;refine xN (Qy v2 i19 v22 hy23) call173<|ws (LR.buildSliceD [.tmp 32] YN rfl rfl (.cons rfl rfl rfl<|.nil) (by decide) (by decide)) ?_;obtain ⟨hy24,h⟩:=zw h;refine ws (LR.appT (enc:=(eK .u8)) (L:=v20) (R:=[v22]) [6,29] YN underlying22 rfl rfl rfl (Src.slT (enc:=(eK .u8)) (R:=[v22]) rfl (fun _=>rfl)) (fun _=>rfl) hy24 rfl rfl)<|wa ?_;refine wN<|wR<|wm ?_;refine ws (LR.subW rfl rfl)<|wa ?_;refine wN ?_;exact ⟨((IntKind.i64.wrap (i19 - 1)),(v20 ++ [v22])),(),h,sP⟩
  ·refine wZ ?_;exact ⟨v20,(),h,sP⟩
 ·rintro v8 _ h;refine wQ<|wR<|wm ?_;refine wa ?_;refine wN<|wX ?_;cases h;exact ⟨.inr rfl,4,rfl,.inr ⟨15,_,rfl,(by simp),rfl⟩⟩

theorem ZT (d1:DT) (r0:Bool) (h:(Zt d1).wp (· = r0)):PFun prog 108 [.agg (List.map .d (DT.e d1))] (.d (.v (.bool r0))):=by
 refine fI (sl:=[(0,_)]) func108 rfl ntmps108 rfl rfl ?_;intro ctx hK;refine wQ<|wR<|ws (LR.box rfl rfl rfl rfl)<|wa ?_;refine wN<|wQ ?_;refine wJ (zG h) (fun (v2:Bool) (_:Unit)=>⟨16,[(2,.d (.v (.bool v2)))],[]⟩) (fun h=>?_) ?_
 ·refine wR<|ws (fR underlying87 rfl sizeOf84 (by decide) rfl rfl)<|ws (lD isAgg84 rfl rfl rfl)<|ws (LR.gtr rfl rfl)<|wm ?_;refine xG (d:=6) h rfl (fun _ h=>?_) (fun _ h=>?_)
  ·refine wt (fR underlying87 rfl sizeOf85 (by decide) rfl rfl)<|wt (lD isAgg85 rfl rfl rfl)<|wt (LR.gtr rfl rfl)<|ws (pT rfl rfl)<|wm ?_;refine xG (d:=11) h rfl (fun _ h=>?_) (fun _ h=>?_)
   ·refine wt (fR underlying87 rfl sizeOf85 (by decide) rfl rfl)<|wt (lD isAgg85 rfl rfl rfl)<|wt (LR.leq rfl rfl)<|ws (pT rfl rfl)<|wa ?_;refine wN ?_;exact ⟨(decide (d1.n <= 281474976710655)),(),h,sP⟩
   ·refine wf<|wf<|wf<|ws (pF rfl rfl)<|wa ?_;refine wN ?_;exact ⟨false,(),h,sP⟩
  ·refine wf<|wf<|wf<|ws (pF rfl rfl)<|wm ?_;refine wf<|wf<|wf<|ws (pF rfl rfl)<|wa ?_;refine wN ?_;exact ⟨false,(),h,sP⟩
 ·rintro v2 _ h;refine wX ?_;cases h;exact xT

theorem uU (row1:List DT) (r0:List DT) (h:(zq row1).wp (· = r0)):PObj prog 163 [.row 100 (row1.length)] [(100,.row 87 2 (List.map DT.e row1))] [] (.row 100 (r0.length)) (fun _:Unit=>[(100,.row 87 2 (List.map DT.e r0))]):=by
 refine PObj.intro (sl:=[(0,_)]) func163 rfl ntmps163 rfl rfl rfl ?_;intro ctx hK pv;refine wQ<|wR<|ws (aR 87 2 rfl)<|wN<|wQ<|wQ<|wR<|wm ?_;refine ws (LR.lenRow underlying88 rfl)<|ws (LR.lss rfl rfl)<|wN ?_;refine xD h rfl (fun _ h=>?_) (fun _ h=>?_)
 ·refine wQ<|wR<|wm ?_;refine wy (tl:=[(0,_),(6,_),(7,_),(8,_),(9,_)]) (to:=[(100,_)]) ?_;refine wa ?_;refine wN<|wX ?_;cases h;exact EndsO.mk () (.inr rfl) (sO (tl:=[(2,_)]) (to:=[(100,_)]) rfl (.cons rfl (by first | rfl | (simp;done) | (congr 1;first | (simp;done) | (simp;omega) | omega))<|.nil) (.cons rfl rfl<|.nil)) (.cons (.tmp rfl)<|.nil) rfl rfl
 ·refine wK<|wQ<|wQ<|wR<|wa ?_;refine wN ?_;refine PWc.jnX (zG h) (fun (_:Unit) (_:Unit)=>⟨61,[(0,.row 100 (row1.length))],[(100,.row 87 2 (List.map DT.e row1))]⟩) (fun h=>?_) ?_
  ·refine wB<|wM (fun (k148:Int) (_:Unit)=>⟨61,[(0,.row 100 (row1.length)),(3,.d (.v (.int .i64 k148)))],[(100,.row 87 2 (List.map DT.e row1))]⟩) () h (sP) ?_;rintro N k148 _ h;refine wQ<|wQ<|wR<|wm ?_;refine wm ?_;refine ws (LR.lenRow underlying88 rfl)<|ws (LR.lss rfl rfl)<|wN ?_;refine xD h rfl (fun _ h=>?_) (fun _ h=>?_)
   ·refine wK<|wQ ?_;refine PWc.jnX (zG h) (fun (_:Unit) (_:Unit)=>⟨61,[(0,.row 100 (row1.length)),(3,.d (.v (.int .i64 k148)))],[(100,.row 87 2 (List.map DT.e row1))]⟩) (fun h=>?_) ?_
    ·refine wB<|wQ<|wD (by kernel_rfl) (by kernel_rfl)<|qm ?_;refine qm ?_;obtain ⟨x150,hy151,h⟩:=zu h;refine qs (fun _ U W=>LR.idxRowT (L:=row1) (y:=x150) underlying88 sizeOf87 U rfl U hy151) ?_;refine qs (fun _ U W=>LR.loadRpT (enc:=DT.e) (L:=row1) (y:=x150) isAgg87 sizeOf87 U (W rfl) hy151.2)<|qm ?_;refine qm ?_;refine qs (fun _ U W=>LR.subW U U) ?_;obtain ⟨x152,hy153,h⟩:=zu h;refine qs (fun _ U W=>LR.idxRowT (L:=row1) (y:=x152) underlying88 sizeOf87 U rfl U hy153) ?_;refine qs (fun _ U W=>LR.loadRpT (enc:=DT.e) (L:=row1) (y:=x152) isAgg87 sizeOf87 U (W rfl) hy153.2) ?_;refine qs (fun _ U W=>LR.eqlAgg U U rfl rfl uTa)<|qN ?_;refine xD h rfl (fun _ h=>?_) (fun _ h=>?_)
     ·refine wQ<|wR<|wm ?_;refine wm ?_;obtain ⟨hy155,h⟩:=zw h;refine ws (LR.pieceRowT (enc:=DT.e) (L:=row1) underlying88 sizeOf87 rfl rfl rfl rfl hy155)<|wa ?_;refine wN<|wQ<|wQ<|wR<|wa ?_;refine wN ?_;refine wJ (zG h) (fun (⟨k156,v157⟩:Int × List DT) (_:Unit)=>⟨61,[(0,.row 100 (v157.length)),(3,.d (.v (.int .i64 k156)))],[(100,.row 87 2 (List.map DT.e v157))]⟩) (fun h=>?_) ?_
      ·refine wB<|wM (fun (⟨k197,k2_198,v199⟩:Int × Int × List DT) (_:Unit)=>⟨61,[(0,.row 100 (v199.length)),(3,.d (.v (.int .i64 k197))),(4,.pc 100 (Int.toNat k148) (row1.length - Int.toNat k148) 2),(5,.d (.v (.int .i64 k2_198)))],[(100,.row 87 2 (List.map DT.e v199))]⟩) () h (sP) ?_;rintro N ⟨k197,k2_198,v199⟩ _ h;refine wQ<|wQ<|wR<|wm ?_;refine wm ?_;refine ws (LR.lenPc underlying88 rfl)<|ws (LR.lss rfl rfl)<|wN ?_;refine xD h rfl (fun _ h=>?_) (fun _ h=>?_)
       ·refine wK<|wQ ?_;refine wJ (zG h) (fun (⟨k201,v202⟩:Int × List DT) (_:Unit)=>⟨61,[(0,.row 100 (v202.length)),(3,.d (.v (.int .i64 k201))),(4,.pc 100 (Int.toNat k148) (row1.length - Int.toNat k148) 2),(5,.d (.v (.int .i64 k2_198)))],[(100,.row 87 2 (List.map DT.e v202))]⟩) (fun h=>?_) ?_
        ·refine wB<|wQ<|wD (by kernel_rfl) (by kernel_rfl)<|qm ?_;refine qm ?_;obtain ⟨hy205,h⟩:=zw h;obtain ⟨x203,hy204,h⟩:=zu h;have hy206:True /\ v199[((Int.toNat k148) + Int.toNat k2_198)]? = some x203:=⟨trivial,hy204.2⟩
         refine qs (fun _ U W=>LR.idxPc underlying88 sizeOf87 U U hy205) ?_;refine qs (fun _ U W=>LR.loadRpT (enc:=DT.e) (L:=v199) (y:=x203) isAgg87 sizeOf87 U (W rfl) hy206.2)<|qm ?_;refine qm ?_;refine qs (fun _ U W=>LR.subW U U) ?_;obtain ⟨hy209,h⟩:=zw h;obtain ⟨x207,hy208,h⟩:=zu h;have hy210:True /\ v199[((Int.toNat k148) + Int.toNat (IntKind.i64.wrap (k2_198 - 1)))]? = some x207:=⟨trivial,hy208.2⟩
         refine qs (fun _ U W=>LR.idxPc underlying88 sizeOf87 U U hy209) ?_;refine qs (fun _ U W=>LR.loadRpT (enc:=DT.e) (L:=v199) (y:=x207) isAgg87 sizeOf87 U (W rfl) hy210.2) ?_;refine qs (fun _ U W=>LR.neqAgg U U rfl rfl uTa)<|qN ?_;refine xD h rfl (fun _ h=>?_) (fun _ h=>?_)
         ·refine wQ<|wR<|wm ?_;refine wm ?_;refine wm ?_;refine wy (tl:=[(0,_),(3,_),(4,_),(5,_),(45,_),(46,_),(47,_)]) (to:=[(100,_)]) ?_;refine wm ?_;obtain ⟨hy214,h⟩:=zw h;obtain ⟨x212,hy213,h⟩:=zu h;have hy215:True /\ v199[((Int.toNat k148) + Int.toNat k2_198)]? = some x212:=⟨trivial,hy213.2⟩
          refine ws (LR.idxPc underlying88 sizeOf87 rfl rfl hy214)<|ws (LR.loadRpT (enc:=DT.e) (L:=v199) (y:=x212) isAgg87 sizeOf87 rfl rfl hy215.2) ?_;obtain ⟨x216,hy217,h⟩:=zu h;refine ws (LR.idxRowT (L:=v199) (y:=x216) underlying88 sizeOf87 rfl rfl rfl hy217)<|ws (LR.storeRpT (enc:=DT.e) (L:=v199) (a:=x216) (b:=x212) sizeOf87 rfl rfl rfl rfl rfl hy217.2 rfl rfl)<|wN<|wR<|wm ?_;refine ws (LR.addW rfl rfl)<|wa ?_;refine wN ?_;exact ⟨((IntKind.i64.wrap (k197 + 1)),(List.set v199 (Int.toNat k197) x212)),(),h,sO rfl (.cons rfl (by first | rfl | (simp;done) | (congr 1;first | (simp;done) | (simp;omega) | omega))<|.c2 rfl rfl rfl rfl<|.cons rfl rfl<|.nil) (.cons rfl rfl<|.nil)⟩
         ·refine wK ?_;exact ⟨(k197,v199),(),h,sP⟩
        ·rintro ⟨k201,v202⟩ _ h;refine wR<|wm ?_;refine ws (LR.addW rfl rfl)<|wa ?_;refine wN ?_;exact ⟨(k201,(IntKind.i64.wrap (k2_198 + 1)),v202),(),h,sP⟩
       ·refine wZ ?_;exact ⟨(k197,v199),(),h,sP⟩
      ·rintro ⟨k156,v157⟩ _ h;refine wQ<|wR<|wm ?_;refine wm ?_;obtain ⟨hy218,h⟩:=zw h;refine ws (LR.pieceRowT (enc:=DT.e) (L:=v157) underlying88 sizeOf87 rfl rfl rfl rfl hy218) ?_;obtain ⟨hy219,h⟩:=zw h;refine ws (LR.clearPcT (enc:=DT.e) (L:=v157) (z:=(⟨0,0⟩:DT)) underlying88 rfl rfl zeroValue87 rfl rfl rfl rfl hy219 rfl)<|wN<|wQ<|wR<|wm ?_;refine wm ?_;obtain ⟨hy220,h⟩:=zw h;refine ws (LR.cutRowT (enc:=DT.e) (L:=(List.take (Int.toNat k156) v157 ++ List.replicate (v157.length - Int.toNat k156) (⟨0,0⟩:DT) ++ List.drop ((Int.toNat k156) + (v157.length - Int.toNat k156)) v157)) [0,54,56,57] underlying88 sizeOf87 rfl (by first | (simp;done) | (simp;omega) | omega) rfl rfl hy220 rfl) ?_;refine wa ?_;refine wN<|wX ?_;cases h;exact EndsO.mk () (.inr rfl) (sO (tl:=[(2,_)]) (to:=[(100,_)]) rfl (.cons rfl (by first | rfl | (simp;done) | (congr 1;first | (simp;done) | (simp;omega) | omega))<|.nil) (.cons rfl rfl<|.nil)) (.cons (.tmp rfl)<|.nil) rfl rfl
     ·refine wK ?_;exact ⟨(),(),h,sP⟩
    ·rintro _ _ h;refine wR<|wm ?_;refine ws (LR.addW rfl rfl)<|wa ?_;refine wN ?_;exact ⟨(IntKind.i64.wrap (k148 + 1)),(),h,sP⟩
   ·refine wZ ?_;exact ⟨(),(),h,sP⟩
  ·rintro _ _ h;refine wQ<|wR<|wm ?_;refine wa ?_;refine wN<|wX ?_;cases h;exact EndsO.mk () (.inr rfl) (sO (tl:=[(2,_)]) (to:=[(100,_)]) rfl (.cons rfl (by first | rfl | (simp;done) | (congr 1;first | (simp;done) | (simp;omega) | omega))<|.nil) (.cons rfl rfl<|.nil)) (.cons (.tmp rfl)<|.nil) rfl rfl


theorem jF (a1:List Int) (b2:List Int) (r0:Bool) (h:(Ve a1 b2).wp (· = r0)):PFun prog 15 [.d (.sl (List.map (eK .u8) a1)),.d (.sl (List.map (eK .u8) b2))] (.d (.v (.bool r0))):=by
 refine fI (sl:=[(0,_),(1,_)]) func15 rfl ntmps15 rfl rfl ?_;intro ctx hK;refine wQ<|wR<|wa ?_;refine wN<|wQ<|wR<|wm ?_;refine ws (LR.bytesStr underlying22 underlying5 underlying9 rfl)<|wm ?_;refine ws (LR.bytesStr underlying22 underlying5 underlying9 rfl)<|ws (LR.eqlStr rfl rfl)<|wa ?_;refine wN<|wX ?_;cases h;exact xT

theorem ZU (x1:Int) (r0:Bool) (h:(wq x1).wp (· = r0)):PFun prog 156 [.d (.v (.int .u64 x1))] (.d (.v (.bool r0))):=by
 refine fI (sl:=[(0,_)]) func156 rfl ntmps156 rfl rfl ?_;intro ctx hK;refine wQ<|wR<|wa ?_;refine wN<|wQ<|wR<|wm ?_;refine wm ?_;refine ws (nQ rfl rfl)<|wa ?_;refine wN<|wX ?_;cases h;exact xT

theorem uV (x1:Int) (y2:Int) (r0:Int) (h:(yn x1 y2).wp (· = r0)):PFun prog 113 [.d (.v (.int .u64 x1)),.d (.v (.int .u64 y2))] (.d (.v (.int .i64 r0))):=by
 refine fI (sl:=[(0,_),(1,_)]) func113 rfl ntmps113 rfl rfl ?_;intro ctx hK;refine wQ<|wR<|wa ?_;refine wN<|wQ<|wR<|wm ?_;obtain ⟨v3,hy4,h⟩:=zH h;refine xN (ZU x1 v3 hy4) call156<|wa ?_;refine wN<|wQ<|wR<|wm ?_;obtain ⟨v5,hy6,h⟩:=zH h;refine xN (ZU y2 v5 hy6) call156<|wa ?_;refine wN<|wQ<|wQ<|wR<|wm ?_;refine wN ?_;refine xD h rfl (fun _ h=>?_) (fun _ h=>?_)
 ·refine wQ<|wQ<|wR<|wm ?_;refine wN ?_;refine xD h rfl (fun _ h=>?_) (fun _ h=>?_)
  ·refine wQ<|wR<|wa ?_;refine wN<|wX ?_;cases h;exact xT
  ·refine wK<|wQ<|wR<|wa ?_;refine wN<|wX ?_;cases h;exact xT
 ·refine wK<|wQ<|wQ<|wR<|wm ?_;refine wN ?_;refine xD h rfl (fun _ h=>?_) (fun _ h=>?_)
  ·refine wQ<|wR<|wa ?_;refine wN<|wX ?_;cases h;exact xT
  ·refine wK<|wQ<|wQ<|wR<|wm ?_;refine wm ?_;refine ws (LR.lss rfl rfl)<|wN ?_;refine xD h rfl (fun _ h=>?_) (fun _ h=>?_)
   ·refine wQ<|wR<|wa ?_;refine wN<|wX ?_;cases h;exact xT
   ·refine wK<|wQ<|wQ<|wR<|wm ?_;refine wm ?_;refine ws (LR.gtr rfl rfl)<|wN ?_;refine xD h rfl (fun _ h=>?_) (fun _ h=>?_)
    ·refine wQ<|wR<|wa ?_;refine wN<|wX ?_;cases h;exact xT
    ·refine wK<|wQ<|wR<|wa ?_;refine wN<|wX ?_;cases h;exact xT

theorem vO (l1:List RN) (r0:List RN) (h:(xu l1).wp (· = r0)):PRow prog 151 [.d (.sl (List.map RN.e l1))] 119 2 (List.map RN.e r0):=by
 refine PRow.intro (sl:=[(0,_)]) func151 rfl ntmps151 rfl rfl ?_;intro ctx hK;refine wQ<|wR<|ws (aR 119 2 rfl)<|wN<|wQ<|wR<|ws (aR 119 2 rfl)<|wN<|wQ ?_;refine wQ<|wR<|wm ?_;refine ws (lM (enc:=RN.e) (L:=l1) underlying112 rfl)<|wm ?_;refine wN ?_;refine wJ (zG h) (fun (some2:List RN) (_:Unit)=>⟨78,[(3,.row 3 (some2.length))],[(3,.row 119 2 (List.map RN.e some2))]⟩) (fun h=>?_) ?_
 ·refine wB<|wM (fun (⟨v23,some24⟩:Int × List RN) (_:Unit)=>⟨78,[(3,.row 3 (some24.length)),(10,.d (.sl (List.map RN.e l1))),(11,.d (.v (.int .i64 (l1.length:Int)))),(12,.d (.v (.int .i64 v23)))],[(3,.row 119 2 (List.map RN.e some24))]⟩) () h (sP) ?_;rintro N ⟨v23,some24⟩ _ h;refine wQ<|wR<|ws (LR.lss rfl rfl)<|wN<|wQ ?_;refine xD h rfl (fun _ h=>?_) (fun _ h=>?_)
  ·refine wK<|wQ ?_;refine wJ (zG h) (fun (some26:List RN) (_:Unit)=>⟨78,[(3,.row 3 (some26.length)),(10,.d (.sl (List.map RN.e l1))),(11,.d (.v (.int .i64 (l1.length:Int)))),(12,.d (.v (.int .i64 v23)))],[(3,.row 119 2 (List.map RN.e some26))]⟩) (fun h=>?_) ?_
   ·refine wB<|wQ<|wR ?_;obtain ⟨x27,hy28,h⟩:=zu h;refine ws (iX (enc:=RN.e) (L:=l1) (y:=x27) underlying112 sizeOf119 rfl rfl hy28 (fun _=>rfl))<|ws (lE (ys:=[_,_]) isAgg119 sizeOf119 rfl rfl rfl)<|ws (LR.allocZ (cs:=[_,_]) zeroValue119 rfl rfl rfl rfl)<|ws (sB (ns:=[_,_]) sizeOf119 rfl rfl rfl rfl rfl rfl rfl)<|wN<|wQ ?_;refine wJ (zG h) (fun (v29:Bool) (_:Unit)=>⟨78,[(3,.row 3 (some24.length)),(5,.ref 5 0),(10,.d (.sl (List.map RN.e l1))),(11,.d (.v (.int .i64 (l1.length:Int)))),(12,.d (.v (.int .i64 v23))),(30,.d (.v (.bool v29)))],[(3,.row 119 2 (List.map RN.e some24)),(5,.cells 119 [.d (.v (.int .u64 x27.lo)),.d (.v (.int .u64 x27.hi))])]⟩) (fun h=>?_) ?_
    ·refine wR<|ws (fR underlying119 rfl sizeOf85 (by decide) rfl rfl)<|ws (lD isAgg85 rfl rfl rfl)<|ws (LR.gtr rfl rfl)<|wm ?_;refine xG (d:=19) h rfl (fun _ h=>?_) (fun _ h=>?_)
     ·refine wt (fR underlying119 rfl sizeOf85 (by decide) rfl rfl)<|wt (lD isAgg85 rfl rfl rfl)<|wt (fR underlying119 rfl sizeOf85 (by decide) rfl rfl)<|wt (lD isAgg85 rfl rfl rfl)<|wt (LR.leq rfl rfl)<|ws (pT rfl rfl)<|wm ?_;refine xG (d:=26) h rfl (fun _ h=>?_) (fun _ h=>?_)
      ·refine wy (tl:=[(3,_),(5,_),(10,_),(11,_),(12,_),(20,_),(21,_),(22,_),(23,_),(24,_),(26,_)]) (to:=[(3,_),(5,_)]) ?_;refine wt (fR underlying119 rfl sizeOf85 (by decide) rfl rfl)<|wt (lD isAgg85 rfl rfl rfl)<|wt (LR.leq rfl rfl)<|ws (pT rfl rfl)<|wN ?_;exact ⟨(decide (x27.hi <= 281474976710655)),(),h,sP⟩
      ·refine wy (tl:=[(3,_),(5,_),(10,_),(11,_),(12,_),(20,_),(21,_),(22,_),(23,_),(24,_),(26,_)]) (to:=[(3,_),(5,_)]) ?_;refine wf<|wf<|wf<|ws (pF rfl rfl)<|wN ?_;exact ⟨false,(),h,sP⟩
     ·refine wf<|wf<|wf<|wf<|wf<|ws (pF rfl rfl)<|wm ?_;refine wf<|wy (tl:=[(3,_),(5,_),(10,_),(11,_),(12,_),(20,_),(21,_),(22,_),(23,_),(24,_),(26,_),(27,_)]) (to:=[(3,_),(5,_)]) ?_;refine wf<|wf<|ws (pF rfl rfl)<|wN ?_;exact ⟨false,(),h,sP⟩
    ·rintro v29 _ h;refine xD h rfl (fun _ h=>?_) (fun _ h=>?_)
     ·refine wR<|wm ?_;refine ws (lA (ps:=[_,_]) isAgg119 sizeOf119 rfl rfl rfl rfl)<|ws (LR.buildSliceD [.tmp 32] xI rfl rfl (.cons rfl rfl rfl<|.nil) (by decide) (by decide)) ?_;obtain ⟨hy33,h⟩:=zw h;refine ws (LR.appT (enc:=RN.e) (L:=some24) (R:=[x27]) [3,31] xI underlying112 rfl rfl rfl (Src.slT (enc:=RN.e) (R:=[x27]) rfl (fun _=>rfl)) (fun _=>rfl) hy33 rfl rfl)<|wa ?_;refine wN ?_;exact ⟨(some24 ++ [x27]),(),h,sP⟩
     ·refine wK ?_;exact ⟨some24,(),h,sP⟩
   ·rintro some26 _ h;refine wR<|ws (LR.addW rfl rfl)<|wm ?_;refine wN ?_;exact ⟨((IntKind.i64.wrap (v23 + 1)),some26),(),h,sP⟩
  ·refine wZ ?_;exact ⟨some24,(),h,sP⟩
 ·rintro some2 _ h;refine wQ<|wR<|wm ?_;obtain ⟨hy35,h⟩:=zw h;refine PWl.sortFn (encD:=RN.e) (enc:=RN.v) (l:=some2) vha (fun _=>rfl) RN.v1 (fun _=>rfl) rfl call174 rfl rfl rfl (by simp) hy35 rfl (fun s34 hy36 hy37=>?_);replace h:=iSrt h s34 hy36 hy37;have hy36l:=hy36.length_eq;refine wN<|wQ<|wR<|ws (aR 119 2 rfl)<|wN<|wQ<|wQ<|wR<|wm ?_;refine ws (LR.lenRow underlying112 rfl)<|wm ?_;refine wN ?_;refine wJ (zG h) (fun (out38:List RN) (_:Unit)=>⟨78,[(6,.row 6 (out38.length))],[(6,.row 119 2 (List.map RN.e out38))]⟩) (fun h=>?_) ?_
  ·refine wB ?_;refine wM (fun (⟨v69,out70⟩:Int × List RN) (_:Unit)=>⟨78,[(6,.row 6 (out70.length)),(38,.row 3 (some2.length)),(39,.d (.v (.int .i64 (some2.length:Int)))),(40,.d (.v (.int .i64 v69)))],[(3,.row 119 2 (List.map RN.e s34)),(6,.row 119 2 (List.map RN.e out70))]⟩) () h (sO rfl (.cons rfl rfl<|.cons rfl (by first | rfl | (simp;done) | (congr 1;first | (simp;done) | (simp;omega) | omega))<|.c2 rfl rfl rfl rfl<|.nil) (.c2 rfl rfl rfl rfl<|.nil)) ?_;rintro N ⟨v69,out70⟩ _ h;refine wQ<|wR<|ws (LR.lss rfl rfl)<|wN<|wQ ?_;refine xD h rfl (fun _ h=>?_) (fun _ h=>?_)
   ·refine wK<|wQ ?_;refine wJ (zG h) (fun (out72:List RN) (_:Unit)=>⟨78,[(6,.row 6 (out72.length)),(38,.row 3 (some2.length)),(39,.d (.v (.int .i64 (some2.length:Int)))),(40,.d (.v (.int .i64 v69)))],[(3,.row 119 2 (List.map RN.e s34)),(6,.row 119 2 (List.map RN.e out72))]⟩) (fun h=>?_) ?_
    ·refine wB<|wQ<|wR ?_;obtain ⟨x73,hy74,h⟩:=zu h;refine ws (LR.idxRowT (L:=s34) (y:=x73) underlying112 sizeOf119 rfl (by first | (simp;done) | (simp;omega) | omega) rfl hy74) ?_;refine ws (LR.loadRpT (enc:=RN.e) (L:=s34) (y:=x73) isAgg119 sizeOf119 rfl rfl hy74.2)<|ws (LR.allocZ (cs:=[_,_]) zeroValue119 rfl rfl rfl rfl)<|ws (sB (ns:=[_,_]) sizeOf119 rfl rfl rfl rfl rfl rfl rfl)<|wN<|wQ<|wQ<|wR<|wm ?_;refine ws (LR.lenRow underlying112 rfl)<|ws (LR.subW rfl rfl)<|wa ?_;refine wN<|wQ ?_;refine wJ (zG h) (fun (v75:Bool) (_:Unit)=>⟨78,[(6,.row 6 (out70.length)),(8,.ref 8 0),(9,.d (.v (.int .i64 ((IntKind.i64.wrap ((out70.length:Int) - 1)))))),(38,.row 3 (some2.length)),(39,.d (.v (.int .i64 (some2.length:Int)))),(40,.d (.v (.int .i64 v69))),(59,.d (.v (.bool v75)))],[(3,.row 119 2 (List.map RN.e s34)),(6,.row 119 2 (List.map RN.e out70)),(8,.cells 119 [.d (.v (.int .u64 x73.lo)),.d (.v (.int .u64 x73.hi))])]⟩) (fun h=>?_) ?_
     ·refine wD (by kernel_rfl) (by kernel_rfl)<|qm ?_;refine qs (fun _ U W=>LR.geq U U)<|qm ?_;refine xQ (d:=49) h rfl (fun _ h=>?_) (fun _ h=>?_)
      ·refine qt (fun _ U W=>fR underlying119 rfl sizeOf85 (by decide) rfl U) ?_;refine qt (fun _ U W=>lD isAgg85 U (W rfl) rfl) ?_;refine qt (fun _ U W=>mV U) ?_;refine qt (fun _ U W=>mV U) ?_;obtain ⟨x77,hy78,h⟩:=zu h;refine qt (fun _ U W=>LR.idxRowT (L:=out70) (y:=x77) underlying112 sizeOf119 U rfl U hy78) ?_;refine qt (fun _ U W=>LR.fieldRp underlying119 rfl sizeOf85 (by decide) rfl U) ?_;refine qt (fun _ U W=>LR.loadRpF (enc:=RN.e) (L:=out70) (y:=x77) isAgg85 U (W rfl) hy78.2 rfl) ?_;refine qt (fun _ U W=>LR.addW U U) ?_;refine qt (fun _ U W=>LR.leq U U) ?_;refine qs (fun _ U W=>pT U U)<|qN ?_;exact ⟨(decide (x73.lo <= (IntKind.u64.wrap (x77.hi + 1)))),(),h,sO rfl (.c2 rfl rfl rfl rfl<|.cons rfl rfl<|.cons rfl (by first | rfl | (simp;done) | (congr 1;first | (simp;done) | (simp;omega) | omega))<|.c2 rfl rfl rfl rfl<|.cons rfl rfl<|.nil) (.c2 rfl rfl rfl rfl<|.cons rfl rfl<|.nil)⟩
      ·refine kF<|kF<|kF<|kF<|kF<|kF<|kF<|kF<|kF ?_;refine qs (fun _ U W=>pF U U)<|qN ?_;exact ⟨false,(),h,sO rfl (.c2 rfl rfl rfl rfl<|.cons rfl rfl<|.cons rfl (by first | rfl | (simp;done) | (congr 1;first | (simp;done) | (simp;omega) | omega))<|.c2 rfl rfl rfl rfl<|.cons rfl rfl<|.nil) (.c2 rfl rfl rfl rfl<|.cons rfl rfl<|.nil)⟩
     ·rintro v75 _ h;refine xD h rfl (fun _ h=>?_) (fun _ h=>?_)
      ·refine wQ<|wz (tl:=[(6,_),(8,_),(9,_),(38,_),(39,_),(40,_)]) (to:=[(3,_),(6,_),(8,_)]) ?_;refine PWc.regionE [⟨[60],[],[],[],[],[6],[],[]⟩,{ws:=[61]},⟨[62],[],[],[],[],[6],[],[]⟩,{ws:=[63]},⟨[64],[],[],[],[],[6],[],[]⟩,⟨[65],[],[],[],[],[6],[],[]⟩,⟨[66],[],[6],[],[],[],[],[]⟩,⟨[67],[],[],[],[],[8],[],[]⟩,⟨[68],[],[8],[],[],[],[],[]⟩,{ws:=[69]},⟨[70],[],[],[],[],[6],[],[]⟩,⟨[71],[],[],[],[],[6],[],[]⟩,⟨[],[6],[6],[],[],[],[],[]⟩] (by kernel_rfl) (by kernel_rfl) rfl<|km ?_;refine km ?_;refine km ?_;refine km ?_;obtain ⟨x80,hy81,h⟩:=zu h;refine kp (fun _ U W=>LR.idxRowT (L:=out70) (y:=x80) underlying112 sizeOf119 U rfl U hy81) ?_;refine kp (fun _ U W=>LR.fieldRp underlying119 rfl sizeOf85 (by decide) rfl U) ?_;refine kp (fun _ U W=>LR.loadRpF (enc:=RN.e) (L:=out70) (y:=x80) isAgg85 U (W rfl rfl) hy81.2 rfl) ?_;refine kp (fun _ U W=>fR underlying119 rfl sizeOf85 (by decide) rfl U) ?_;refine kp (fun _ U W=>lD isAgg85 U (W rfl rfl) rfl) ?_;refine kp (fun _ U W=>LR.maxI U U) ?_;obtain ⟨x82,hy83,h⟩:=zu h;refine kp (fun _ U W=>LR.idxRowT (L:=out70) (y:=x82) underlying112 sizeOf119 U rfl U hy83) ?_;refine kp (fun _ U W=>LR.fieldRp underlying119 rfl sizeOf85 (by decide) rfl U) ?_;refine ks (fun _ U W=>LR.storeRpT (enc:=RN.e) (L:=out70) (a:=x82) (b:=(⟨x82.lo,(max x80.hi x73.hi)⟩:RN)) sizeOf85 U U rfl rfl (W rfl rfl) hy83.2 rfl rfl)<|PQe.nil<|wZ ?_;exact ⟨(List.set out70 ((Int.toNat ((IntKind.i64.wrap ((out70.length:Int) - 1))))) (⟨x82.lo,(max x80.hi x73.hi)⟩:RN)),(),h,sO rfl (.cons rfl (by first | rfl | (simp;done) | (congr 1;first | (simp;done) | (simp;omega) | omega))<|.cons rfl (by first | rfl | (simp;done) | (congr 1;first | (simp;done) | (simp;omega) | omega))<|.c2 rfl rfl rfl rfl<|.nil) (.c2 rfl rfl rfl rfl<|.nil)⟩
      ·refine wK<|wR<|wm ?_;refine ws (lA (ps:=[_,_]) isAgg119 sizeOf119 rfl rfl rfl rfl)<|ws (LR.buildSliceD [.tmp 73] xI rfl rfl (.cons rfl rfl rfl<|.nil) (by decide) (by decide)) ?_;obtain ⟨hy84,h⟩:=zw h;refine ws (LR.appT (enc:=RN.e) (L:=out70) (R:=[x73]) [6,72] xI underlying112 rfl rfl rfl (Src.slT (enc:=RN.e) (R:=[x73]) rfl (fun _=>rfl)) (fun _=>rfl) hy84 rfl rfl)<|wa ?_;refine wN ?_;exact ⟨(out70 ++ [x73]),(),h,sO rfl (.cons rfl rfl<|.cons rfl (by first | rfl | (simp;done) | (congr 1;first | (simp;done) | (simp;omega) | omega))<|.c2 rfl rfl rfl rfl<|.nil) (.c2 rfl rfl rfl rfl<|.nil)⟩
    ·rintro out72 _ h;refine wR<|ws (LR.addW rfl rfl)<|wm ?_;refine wN ?_;exact ⟨((IntKind.i64.wrap (v69 + 1)),out72),(),h,sO rfl (.cons rfl rfl<|.cons rfl (by first | rfl | (simp;done) | (congr 1;first | (simp;done) | (simp;omega) | omega))<|.c2 rfl rfl rfl rfl<|.nil) (.c2 rfl rfl rfl rfl<|.nil)⟩
   ·refine wZ ?_;exact ⟨out70,(),h,sP⟩
  ·rintro out38 _ h;refine wQ<|wR<|wm ?_;refine wa ?_;refine wN<|wX ?_;cases h;exact ⟨.inr rfl,2,rfl,.inr ⟨6,_,rfl,(by simp),rfl⟩⟩


theorem ZV (x1:Int) (r0:Bool) (h:(wv x1).wp (· = r0)):PFun prog 155 [.d (.v (.int .u16 x1))] (.d (.v (.bool r0))):=by
 refine fI (sl:=[(0,_)]) func155 rfl ntmps155 rfl rfl ?_;intro ctx hK;refine wQ<|wR<|wa ?_;refine wN<|wQ<|wR<|wm ?_;refine wm ?_;refine ws (nQ rfl rfl)<|wa ?_;refine wN<|wX ?_;cases h;exact xT

theorem Xv (x1:Int) (y2:Int) (r0:Int) (h:(xn x1 y2).wp (· = r0)):PFun prog 112 [.d (.v (.int .u16 x1)),.d (.v (.int .u16 y2))] (.d (.v (.int .i64 r0))):=by
 refine fI (sl:=[(0,_),(1,_)]) func112 rfl ntmps112 rfl rfl ?_;intro ctx hK;refine wQ<|wR<|wa ?_;refine wN<|wQ<|wR<|wm ?_;obtain ⟨v3,hy4,h⟩:=zH h;refine xN (ZV x1 v3 hy4) call155<|wa ?_;refine wN<|wQ<|wR<|wm ?_;obtain ⟨v5,hy6,h⟩:=zH h;refine xN (ZV y2 v5 hy6) call155<|wa ?_;refine wN<|wQ<|wQ<|wR<|wm ?_;refine wN ?_;refine xD h rfl (fun _ h=>?_) (fun _ h=>?_)
 ·refine wQ<|wQ<|wR<|wm ?_;refine wN ?_;refine xD h rfl (fun _ h=>?_) (fun _ h=>?_)
  ·refine wQ<|wR<|wa ?_;refine wN<|wX ?_;cases h;exact xT
  ·refine wK<|wQ<|wR<|wa ?_;refine wN<|wX ?_;cases h;exact xT
 ·refine wK<|wQ<|wQ<|wR<|wm ?_;refine wN ?_;refine xD h rfl (fun _ h=>?_) (fun _ h=>?_)
  ·refine wQ<|wR<|wa ?_;refine wN<|wX ?_;cases h;exact xT
  ·refine wK<|wQ<|wQ<|wR<|wm ?_;refine wm ?_;refine ws (LR.lss rfl rfl)<|wN ?_;refine xD h rfl (fun _ h=>?_) (fun _ h=>?_)
   ·refine wQ<|wR<|wa ?_;refine wN<|wX ?_;cases h;exact xT
   ·refine wK<|wQ<|wQ<|wR<|wm ?_;refine wm ?_;refine ws (LR.gtr rfl rfl)<|wN ?_;refine xD h rfl (fun _ h=>?_) (fun _ h=>?_)
    ·refine wQ<|wR<|wa ?_;refine wN<|wX ?_;cases h;exact xT
    ·refine wK<|wQ<|wR<|wa ?_;refine wN<|wX ?_;cases h;exact xT

theorem jG (m1:List (Int × List RN)) (r0:List PT) (h:(uQ m1).wp (· = r0)):PRow prog 105 [.md [.u16] false (yA kI (eL RN.e) m1)] 114 2 (List.map PT.e r0):=by
 refine PRow.intro (sl:=[(0,_)]) func105 rfl ntmps105 rfl rfl ?_;intro ctx hK;refine wQ<|wR<|ws (aR 114 2 rfl)<|wN<|wQ<|wR<|ws (aR 114 2 rfl)<|wN<|wQ ?_;refine wQ<|wR<|wm ?_;refine PWl.rangeD underlying143 rfl rfl rfl (fun bs2 ck2 hbl2 hbn2=>?_);refine wN ?_;refine wJ (zG h) (fun (c3:List PT) (_:Unit)=>⟨27,[(3,.row 3 (c3.length))],[(3,.row 114 2 (List.map PT.e c3))]⟩) (fun h=>?_) ?_
 ·refine wB<|wM (fun (⟨seen28,c29⟩:List Nat × List PT) (_:Unit)=>⟨27,[(3,.row 3 (c29.length)),(7,.ref 7 0)],[(3,.row 114 2 (List.map PT.e c29)),(7,.iterD [.u16] false (yA kI (eL RN.e) m1) bs2 ck2 seen28)]⟩) () h (sP) ?_;rintro N ⟨seen28,c29⟩ _ h;refine wQ<|wR ?_;obtain ⟨hy40,h⟩:=zw h;replace h:=iNxt h;refine PWl.nextD rfl rfl (nxtD hy40) rfl (fun hy31=>?_) (fun j30 hy32 hy33=>?_)
  ·replace h:=h.1 (nxtA hy31);refine ws (LR.extract rfl rfl)<|wN<|wQ<|PWc.condF rfl<|wZ ?_;exact ⟨c29,(),h,sP⟩
  ·replace h:=h.2 j30 (nxtB hy32) hy33;refine ws (LR.extract rfl rfl)<|wN<|wQ<|PWc.condT rfl<|wK<|wB<|wQ<|wR ?_;obtain ⟨kv34,hy35,h⟩:=zu h;refine ws (LR.entryD rfl rfl (wYa hy35) rfl rfl)<|ws (LR.extract rfl rfl)<|ws (LR.extract rfl rfl)<|wa ?_;refine wa ?_;refine wN<|wQ<|wR<|wm ?_;obtain ⟨v36,hy37,h⟩:=zH h;refine ws (LR.rowN (vO kv34.2 v36 hy37) rfl call151 rfl rfl rfl rfl)<|wa ?_;refine wN<|wQ<|wR<|wm ?_;refine ws (LR.lenRow underlying112 rfl)<|ws (LR.gtr rfl rfl)<|wN ?_;refine xD h rfl (fun _ h=>?_) (fun _ h=>?_)
   ·refine wR<|wm ?_;refine wm ?_;refine wm ?_;refine PWl.frz [5,14,15,20] hK (.cons rfl<|.cons rfl<|.cons rfl<|.cons rfl<|.nil) rfl (by simp) ?_;refine ws (LR.build (ns:=[_,_]) jR rfl rfl rfl)<|ws (LR.buildSliceD [.tmp 21] JM rfl rfl (.cons rfl rfl rfl<|.nil) (by decide) (by decide)) ?_;obtain ⟨hy39,h⟩:=zw h;refine ws (LR.appT (enc:=PT.e) (L:=c29) (R:=[(⟨kv34.1,v36⟩:PT)]) [3,18] JM underlying31 rfl rfl rfl (Src.slT (enc:=PT.e) (R:=[(⟨kv34.1,v36⟩:PT)]) rfl (fun _=>rfl)) (fun _=>rfl) hy39 rfl rfl)<|wy (tl:=[(7,_),(23,_)]) (to:=[(3,_),(7,_)]) ?_;refine wa ?_;refine wN ?_;exact ⟨((seen28 ++ [j30]),(c29 ++ [(⟨kv34.1,v36⟩:PT)])),(),h,sP⟩
   ·refine wK ?_;exact ⟨((seen28 ++ [j30]),c29),(),h,sP⟩
 ·rintro c3 _ h;refine wQ<|wR<|wm ?_;obtain ⟨hy42,h⟩:=zw h;refine PWl.sortFnR (encD:=PT.e) (enc:=RawTPart.v) (lt:=qy) (R:=RawTPart.R) (l:=c3) vea RawTPart.raw rlt152 (fun _=>rfl) (fun _=>rfl) rfl call152 rfl rfl rfl (by simp) hy42 rfl (fun s41 hy43 hy44=>?_);replace h:=iSrt h s41 hy43 hy44;have hy43l:=hy43.length_eq;refine wN<|wQ<|wR<|wm ?_;refine wa ?_;refine wN<|wX ?_;cases h;exact ⟨.inr rfl,2,rfl,.inr ⟨3,_,rfl,(by first | (simp;done) | (simp;omega) | omega),rfl⟩⟩

theorem XD (c1:List PT) (r0:List (Int × List RN)) (h:(Yl c1).wp (· = r0)):PMap prog 106 [.d (.sl (List.map PT.e c1))] [.u16] false (yA kI (eL RN.e) r0):=by
 refine PMap.intro (sl:=[(0,_)]) func106 rfl ntmps106 rfl rfl ?_;intro ctx hK;refine wQ<|wR<|wa ?_;refine wN<|wQ<|wR<|ws (LR.makeMap [.u16] false rfl)<|wa ?_;refine wN<|wQ<|wQ<|wR<|wm ?_;refine ws (lM (enc:=PT.e) (L:=c1) underlying31 rfl)<|wm ?_;refine wN<|wB ?_;obtain ⟨hy10,h⟩:=zw h;have hN:=hy10.1;refine PWc.loopRows (bid:=0) (N:=c1.length) (mid:=6) (n:=28) (ks:=[.u16]) (e:=119) (k:=2) (fun i=>[(3,.mp 6),(7,.d (.sl (List.map PT.e c1))),(8,.d (.v (.int .i64 (c1.length:Int)))),(9,.d (.v (.int .i64 (i:Int))))]) (fun i=>uT kI RN.e (AL.grow [] ((List.take i c1).filterMap zi))) [(3,.mp 6)] [] 0 hK (by decide) (fun i x hx id h=>by simp only [List.mem_cons,List.not_mem_nil,or_false] at hx;rcases hx with rfl | rfl | rfl | rfl <;> first | (simp [PV.has] at h;done) | (simp [PV.has] at h;exact h.symm) | (simp [PV.has] at h;omega)) rfl (fun i=>yVa (fun x d hd=>by simp only [RN.e,List.mem_cons,List.not_mem_nil,or_false] at hd;rcases hd with rfl | rfl <;> exact ⟨_,rfl⟩) _) (sP) (fun i hi=>?_) (yA kI (eL RN.e) (AL.grow ([]:List (Int × List RN)) (List.filterMap zi c1))) (by simp only [List.take_length];exact rowsM_of _) (fun ctx vm bs ck=>?_) (fun bs ck=>?_)
 ·obtain ⟨p,hp⟩:∃ p,c1[i]? = some p:=⟨_,List.getElem?_eq_getElem hi⟩
  have hidx:(0:Int) <= (i:Int) /\ c1[(i:Int).toNat]? = some p:=⟨by omega,by simpa using hp⟩
  have htk:=AL.grow_take hp zi;have hwi:=wrapNat (i:=i) (by omega)
  by_cases hd:0 < p.dev
  ·have hf:zi p = some (p.dev,p.runs):=by simp [zi,hd]
   have hbd:=AL.grow_bound hy10 hp hf;rw [hf] at htk;rcases QB (eK:=kI) (enc:=RN.e) wXa (p.dev) (AL.grow [] ((List.take i c1).filterMap zi)) with ⟨j,l,h1,h2,h3,h4⟩ | ⟨h1,h2,h3⟩
   ·simp only [h3] at hbd;refine .found (nl:=l.length) (nl':=(List.length (l ++ p.runs))) (l:=(List.map RN.e l)) (l':=(List.map RN.e (l ++ p.runs))) (by simp) (by simp) h2 (by rw [htk];simp only [AL.grow,Option.toList,List.foldl] at h3 h4 ⊢;rw [h3];exact h4 _) fun ctx vm bs ck hvm=>?_
    have hpf:xh (kI (p.dev)) (YG vm) 0 = some j:=by rw [yWa hvm];exact h1
    have h:(M.bind (M.idx c1 (i:Int)) fun x2=>M.yW ((l.length + x2.runs.length) * 16 <= 140737488355328)<|M.pure ()).wp (fun _=>True):=⟨p,hidx,hbd,trivial⟩
    refine wQ<|wR<|ws (LR.lss rfl rfl)<|wN<|wQ<|PWc.condT (congrArg (fun b=>some (PV.d (.v (.bool b)))) (decide_eq_true (Int.ofNat_lt.2 hi)))<|wK<|wQ<|wB ?_;refine wQ<|wR ?_;obtain ⟨x2,hy3,h⟩:=zu h;have hE:=idxU hy3 hidx;subst hE;refine ws (iX (enc:=PT.e) (L:=c1) (y:=x2) underlying31 sizeOf114 rfl rfl hy3 (fun _=>rfl))<|ws (lE (ys:=[_,_]) isAgg114 sizeOf114 rfl rfl rfl)<|ws (LR.allocZ (cs:=[_,_]) zeroValue114 rfl rfl rfl rfl)<|ws (sB (ns:=[_,_]) sizeOf114 rfl rfl rfl rfl rfl rfl rfl)<|wN<|wQ<|wR<|ws (fR underlying114 rfl sizeOf84 (by decide) rfl rfl)<|ws (lD isAgg84 rfl rfl rfl) ?_;refine ws (LR.gtr rfl rfl)<|wN<|PWc.condT (congrArg (fun b=>some (PV.d (.v (.bool b)))) (decide_eq_true hd))<|wz (tl:=[(3,_),(5,_),(7,_),(8,_),(9,_)]) (to:=[(5,_),(6,_),(50,_)]) ?_;refine PWc.regionE [⟨[16],[],[],[],[],[6],[],[]⟩,⟨[17],[],[],[],[],[5],[],[]⟩,⟨[18],[],[5],[],[],[],[],[]⟩,⟨[19],[],[],[],[],[6],[],[]⟩,⟨[20],[],[],[],[],[5],[],[]⟩,⟨[21],[],[5],[],[],[],[],[]⟩,⟨[22],[],[6],[],[],[50],[],[]⟩,⟨[23],[],[],[],[],[5],[],[]⟩,⟨[24],[],[5],[],[],[],[],[]⟩,⟨[22,25],[6,50],[6,50],[],[(50,[22])],[50],[],[6]⟩,⟨[],[6],[6,50],[],[],[],[50],[]⟩] (by kernel_rfl) (by kernel_rfl) rfl<|km ?_;refine kp (fun _ U W=>fR underlying114 rfl sizeOf84 (by decide) rfl U) ?_;refine kp (fun _ U W=>lD isAgg84 U (W rfl rfl) rfl)<|km ?_;refine kp (fun _ U W=>fR underlying114 rfl sizeOf84 (by decide) rfl U) ?_;refine kp (fun _ U W=>lD isAgg84 U (W rfl rfl) rfl) ?_;refine kp (fun _ U W=>LR.lookupP underlying143 JO U (W rfl rfl) U rfl hpf rfl) ?_;refine kp (fun _ U W=>fR underlying114 rfl sizeOf112 (by decide) rfl U) ?_;refine kp (fun _ U W=>lD isAgg112 U (W rfl rfl) rfl) ?_;obtain ⟨hy4,h⟩:=zw h;refine PQe.stepX [22] (fun _ U W ha=>LR.appP (enc:=RN.e) (L:=l) (R:=x2.runs) [22] xI underlying112 (U rfl rfl) rfl (W rfl rfl) (W rfl rfl) rfl (fun _ h1 h2=>Src.slT (enc:=RN.e) (R:=x2.runs) (upa h1 h2 (U rfl rfl)) (fun _=>rfl)) (fun _=>rfl) hy4 rfl ha) rfl rfl (.inl rfl) rfl ?_;refine ks (fun _ U W=>LR.mapUpdateP underlying143 JO U (W rfl rfl) U rfl rfl U hpf)<|PQe.nil<|wR<|ws (LR.addW rfl rfl)<|wm ?_;refine wN ?_;exact ⟨rfl,sO rfl (.c2 rfl rfl rfl rfl<|.cons rfl rfl<|.cons rfl (congrArg (fun z=>PV.d (.v (.int .i64 z))) hwi)<|.nil) (.c2 rfl rfl rfl rfl<|.nil)⟩
   ·simp only [h2,List.length_nil,Nat.zero_add] at hbd;refine .fresh (q:=25) (nl':=p.runs.length) (l':=(List.map RN.e p.runs)) (by simp) (by decide) (by rw [htk];simp only [AL.grow,Option.toList,List.foldl] at h2 h3 ⊢;rw [h2];exact h3 _) fun ctx vm bs ck hvm=>?_
    have hpf:xh (kI (p.dev)) (YG vm) 0 = none:=by rw [yWa hvm];exact h1
    have h:(M.bind (M.idx c1 (i:Int)) fun x5=>M.yW (x5.runs.length * 16 <= 140737488355328)<|M.pure ()).wp (fun _=>True):=⟨p,hidx,hbd,trivial⟩
    refine wQ<|wR<|ws (LR.lss rfl rfl)<|wN<|wQ<|PWc.condT (congrArg (fun b=>some (PV.d (.v (.bool b)))) (decide_eq_true (Int.ofNat_lt.2 hi)))<|wK<|wQ<|wB ?_;refine wQ<|wR ?_;obtain ⟨x5,hy6,h⟩:=zu h;have hE:=idxU hy6 hidx;subst hE;refine ws (iX (enc:=PT.e) (L:=c1) (y:=x5) underlying31 sizeOf114 rfl rfl hy6 (fun _=>rfl))<|ws (lE (ys:=[_,_]) isAgg114 sizeOf114 rfl rfl rfl)<|ws (LR.allocZ (cs:=[_,_]) zeroValue114 rfl rfl rfl rfl)<|ws (sB (ns:=[_,_]) sizeOf114 rfl rfl rfl rfl rfl rfl rfl)<|wN<|wQ<|wR<|ws (fR underlying114 rfl sizeOf84 (by decide) rfl rfl)<|ws (lD isAgg84 rfl rfl rfl) ?_;refine ws (LR.gtr rfl rfl)<|wN<|PWc.condT (congrArg (fun b=>some (PV.d (.v (.bool b)))) (decide_eq_true hd))<|wz (tl:=[(3,_),(5,_),(7,_),(8,_),(9,_)]) (to:=[(5,_),(6,_)]) ?_;refine PWc.regionE [⟨[16],[],[],[],[],[6],[],[]⟩,⟨[17],[],[],[],[],[5],[],[]⟩,⟨[18],[],[5],[],[],[],[],[]⟩,⟨[19],[],[],[],[],[6],[],[]⟩,⟨[20],[],[],[],[],[5],[],[]⟩,⟨[21],[],[5],[],[],[],[],[]⟩,⟨[22],[],[6],[],[],[],[],[]⟩,⟨[23],[],[],[],[],[5],[],[]⟩,⟨[24],[],[5],[],[],[],[],[]⟩,⟨[25],[25],[],[25],[],[25],[],[]⟩,⟨[],[6],[6,25],[],[],[],[25],[]⟩] (by kernel_rfl) (by kernel_rfl) rfl<|km ?_;refine kp (fun _ U W=>fR underlying114 rfl sizeOf84 (by decide) rfl U) ?_;refine kp (fun _ U W=>lD isAgg84 U (W rfl rfl) rfl)<|km ?_;refine kp (fun _ U W=>fR underlying114 rfl sizeOf84 (by decide) rfl U) ?_;refine kp (fun _ U W=>lD isAgg84 U (W rfl rfl) rfl) ?_;refine kp (fun _ U W=>LR.lookupPN underlying143 JO U (W rfl rfl) U rfl zeroValue112 rfl hpf) ?_;refine kp (fun _ U W=>fR underlying114 rfl sizeOf112 (by decide) rfl U) ?_;refine kp (fun _ U W=>lD isAgg112 U (W rfl rfl) rfl) ?_;obtain ⟨hy7,h⟩:=zw h;refine PQe.stepN (fun _ U W hf=>LR.appNilX (enc:=RN.e) (R:=x5.runs) xI underlying112 (U rfl rfl) hf (Src.slT (enc:=RN.e) (R:=x5.runs) (evObjs (U rfl rfl)) (fun _=>rfl)) (fun _=>rfl) hy7 rfl (xga hf)) rfl (.inl rfl) rfl ?_;refine ks (fun _ U W=>LR.mapUpdatePN underlying143 JO U (W rfl rfl) U rfl rfl U hpf)<|PQe.nil<|wR<|ws (LR.addW rfl rfl)<|wm ?_;refine wN ?_;exact ⟨rfl,sO rfl (.c2 rfl rfl rfl rfl<|.cons rfl rfl<|.cons rfl (congrArg (fun z=>PV.d (.v (.int .i64 z))) hwi)<|.nil) (.c2 rfl rfl rfl rfl<|.nil)⟩
  ·have hf:zi p = none:=by simp [zi,hd]
   rw [hf] at htk;refine .skip (by rw [htk];rfl) fun ctx vm bs ck=>?_
   have h:(M.bind (M.idx c1 (i:Int)) fun x8=>M.pure ()).wp (fun _=>True):=⟨p,hidx,trivial⟩
   refine wQ<|wR<|ws (LR.lss rfl rfl)<|wN<|wQ<|PWc.condT (congrArg (fun b=>some (PV.d (.v (.bool b)))) (decide_eq_true (Int.ofNat_lt.2 hi)))<|wK<|wQ<|wB ?_;refine wQ<|wR ?_;obtain ⟨x8,hy9,h⟩:=zu h;have hE:=idxU hy9 hidx;subst hE;refine ws (iX (enc:=PT.e) (L:=c1) (y:=x8) underlying31 sizeOf114 rfl rfl hy9 (fun _=>rfl))<|ws (lE (ys:=[_,_]) isAgg114 sizeOf114 rfl rfl rfl)<|ws (LR.allocZ (cs:=[_,_]) zeroValue114 rfl rfl rfl rfl)<|ws (sB (ns:=[_,_]) sizeOf114 rfl rfl rfl rfl rfl rfl rfl)<|wN<|wQ<|wR<|ws (fR underlying114 rfl sizeOf84 (by decide) rfl rfl)<|ws (lD isAgg84 rfl rfl rfl) ?_;refine ws (LR.gtr rfl rfl)<|wN<|PWc.condF (congrArg (fun b=>some (PV.d (.v (.bool b)))) (decide_eq_false hd))<|wK<|wR<|ws (LR.addW rfl rfl)<|wm ?_;refine wN ?_;exact ⟨rfl,sO rfl (.c2 rfl rfl rfl rfl<|.cons rfl rfl<|.cons rfl (congrArg (fun z=>PV.d (.v (.int .i64 z))) hwi)<|.nil) (.cons rfl rfl<|.nil)⟩
 ·have h:(M.pure ()).wp (fun _=>True):=trivial;refine wQ<|wR<|ws (LR.lss rfl rfl)<|wN<|wQ<|PWc.condF (congrArg (fun b=>some (PV.d (.v (.bool b)))) (decide_eq_false (by omega))) ?_;refine wZ ?_;exact ⟨rfl,sP⟩
 ·refine wQ<|wR<|wm ?_;refine wa ?_;refine wN<|wX ?_;cases h;exact ⟨.inr rfl,2,6,_,_,rfl,rfl,rfl⟩


theorem vH (c1:List PT) (r0:List PT) (h:(uH c1).wp (· = r0)):PRow prog 63 [.d (.sl (List.map PT.e c1))] 114 2 (List.map PT.e r0):=by
 refine PRow.intro (sl:=[(0,_)]) func63 rfl ntmps63 rfl rfl ?_;intro ctx hK;refine wQ<|wR<|ws (aR 114 2 rfl)<|wN<|wQ<|wR<|wm ?_;obtain ⟨v2,hy3,h⟩:=zH h;refine PWl.mapN (XD c1 v2 hy3) rfl call106 rfl rfl rfl rfl rfl (fun bs4 ck4 _=>?_);obtain ⟨v5,hy6,h⟩:=zH h;refine PWl.frzM [4] hK (.cons rfl<|.nil) rfl<|ws (LR.rowN (jG v2 v5 hy6) rfl call105 rfl rfl rfl rfl)<|wy (tl:=[(0,_),(3,_),(4,_),(5,_)]) (to:=[(5,_)]) ?_;refine wa ?_;refine wN<|wX ?_;cases h;exact ⟨.inr rfl,2,rfl,.inr ⟨5,_,rfl,(by simp),rfl⟩⟩

theorem wP (s1:List DT) (r0:List DT) (h:(yH s1).wp (· = r0)):PRow prog 158 [.d (.sl (List.map DT.e s1))] 87 2 (List.map DT.e r0):=by
 refine PRow.intro (sl:=[(0,_)]) func158 rfl ntmps158 rfl rfl ?_;intro ctx hK;refine wQ<|wR<|ws (aR 87 2 rfl)<|wN<|wQ<|wQ<|wR<|wm ?_;replace h:=iNil h;refine PWl.eqlNilT (enc:=DT.e) (L:=s1) underlying88 rfl rfl (fun b2 hy3=>?_);replace h:=h b2 hy3;refine wN ?_;refine xD h rfl (fun _ h=>?_) (fun _ h=>?_)
 ·refine wQ<|wR<|wy (tl:=[(0,_),(3,_),(4,_)]) (to:=[]) ?_;refine ws (aR 87 2 rfl)<|wN<|wX ?_;cases h;exact ⟨.inr rfl,2,rfl,.inr ⟨2,_,rfl,(by first | (simp;done) | (simp;omega) | omega),rfl⟩⟩
 ·refine wK<|wQ<|wR<|ws (LR.buildSlice [] uN rfl rfl (.nil) (by decide) (by decide) rfl)<|wm ?_;obtain ⟨hy5,h⟩:=zw h;refine ws (LR.appT (enc:=DT.e) (L:=([]:List DT)) (R:=s1) [5] uN underlying88 rfl (by first | (simp;done) | (simp;omega) | omega) rfl (Src.slT (enc:=DT.e) (R:=s1) rfl (fun _=>rfl)) (fun _=>rfl) hy5 rfl rfl) ?_;refine wy (tl:=[(0,_),(3,_),(4,_),(6,_),(7,_)]) (to:=[(5,_)]) ?_;refine wa ?_;refine wN<|wX ?_;cases h;exact ⟨.inr rfl,2,rfl,.inr ⟨5,_,rfl,(by simp),rfl⟩⟩

theorem XE (e1:EV) (r0:EV) (h:(yk e1).wp (· = r0)):PFun prog 115 [.agg (List.map .d (EV.e e1))] (.agg (List.map .d (EV.e r0))):=by
 refine fI (sl:=[(0,_)]) func115 rfl ntmps115 rfl rfl ?_;intro ctx hK;refine wQ<|wR<|ws (LR.box rfl rfl rfl rfl)<|ws (LR.allocZ (cs:=[_,_,_,_,_,_,_]) zeroValue90 rfl rfl rfl rfl)<|wN<|wQ<|wR<|ws (fR underlying90 rfl sizeOf88 (by decide) rfl rfl)<|ws (lD isAgg88 rfl rfl rfl) ?_;obtain ⟨v2,hy3,h⟩:=zH h;refine ws (LR.rowN (wP e1.kills v2 hy3) rfl call158 rfl rfl rfl rfl)<|ws (fR underlying90 rfl sizeOf88 (by decide) rfl rfl)<|PWl.frz [5] hK (.cons rfl<|.nil) rfl (by simp) ?_;refine ws (sB (ns:=[_,_,_,_,_,_,_]) sizeOf88 rfl rfl rfl rfl rfl rfl rfl)<|wN<|wQ<|wR<|ws (lA (ps:=[_,_,_,_,_,_,_]) isAgg90 sizeOf90 rfl rfl rfl rfl)<|ws (sB (ns:=[_,_,_,_,_,_,_]) sizeOf90 rfl rfl rfl rfl rfl rfl rfl)<|wN<|wX ?_;cases h;exact ⟨.inr rfl,_,.cons (.agg isAgg90 sizeOf90 rfl rfl rfl rfl)<|.nil,rfl⟩

theorem ZE (a1:DT) (b2:DT) (r0:Int) (h:(vR a1 b2).wp (· = r0)):PFun prog 65 [.agg (List.map .d (DT.e a1)),.agg (List.map .d (DT.e b2))] (.d (.v (.int .i64 r0))):=by
 refine fI (sl:=[(0,_),(1,_)]) func65 rfl ntmps65 rfl rfl ?_;intro ctx hK;refine wQ<|wR<|ws (LR.box rfl rfl rfl rfl)<|ws (LR.box rfl rfl rfl rfl)<|wa ?_;refine wN<|wQ<|wQ<|wR<|ws (fR underlying87 rfl sizeOf84 (by decide) rfl rfl)<|ws (lD isAgg84 rfl rfl rfl)<|ws (fR underlying87 rfl sizeOf84 (by decide) rfl rfl)<|ws (lD isAgg84 rfl rfl rfl) ?_;obtain ⟨v3,hy4,h⟩:=zH h;refine xN (Xv a1.dev b2.dev v3 hy4) call112<|wa ?_;refine wN<|wQ<|wR<|wm ?_;refine ws (nQ rfl rfl)<|wN ?_;refine xD h rfl (fun _ h=>?_) (fun _ h=>?_)
 ·refine wQ<|wR<|wm ?_;refine wa ?_;refine wN<|wX ?_;cases h;exact xT
 ·refine wK<|wQ<|wR<|ws (fR underlying87 rfl sizeOf85 (by decide) rfl rfl)<|ws (lD isAgg85 rfl rfl rfl)<|ws (fR underlying87 rfl sizeOf85 (by decide) rfl rfl)<|ws (lD isAgg85 rfl rfl rfl) ?_;obtain ⟨v6,hy7,h⟩:=zH h;refine xN (uV a1.n b2.n v6 hy7) call113<|wa ?_;refine wN<|wX ?_;cases h;exact xT



theorem VI (l1:List DT) (r0:List DT) (h:(WM l1).wp (· = r0)):PRow prog 118 [.d (.sl (List.map DT.e l1))] 87 2 (List.map DT.e r0):=by
 refine PRow.intro (sl:=[(0,_)]) func118 rfl ntmps118 rfl rfl ?_;intro ctx hK;refine wQ<|wR<|ws (aR 87 2 rfl)<|wN<|wQ<|wR<|wm ?_;obtain ⟨v2,hy3,h⟩:=zH h;refine ws (LR.rowN (wP l1 v2 hy3) rfl call158 rfl rfl rfl rfl)<|wa ?_;refine wN<|wQ<|wR<|wm ?_;obtain ⟨hy5,h⟩:=zw h;refine PWl.sortFn (encD:=DT.e) (enc:=DT.v) (l:=v2) uga (fun _=>rfl) DT.v1 (fun _=>rfl) rfl call162 rfl rfl rfl (by simp) hy5 rfl (fun s4 hy6 hy7=>?_);replace h:=iSrt h s4 hy6 hy7;have hy6l:=hy6.length_eq;refine wN<|wQ<|wR<|wm ?_;obtain ⟨y8,hy9,h⟩:=zH h;refine xO [(100,5)] [3,5,6,8] [100] (uU s4 y8 hy9) call163<|wy (tl:=[(0,_),(4,_),(7,_),(9,_)]) (to:=[(5,_)]) ?_;refine wa ?_;refine wN<|wX ?_;cases h;exact ⟨.inr rfl,2,rfl,.inr ⟨5,_,rfl,(by simp),rfl⟩⟩

theorem zAa  (r0:List PT × Bool × (List (DT × EV)) × Bool × (List (DT × EV))) (h:(Ud ).wp (· = r0)):PObj prog 28 [] [] [] (.ref 2 0) (fun _:Unit=>[(2,.cells 106 [.d (.sl (List.map PT.e r0.1)),.mp 30041,.mp 30042]),(30041,.mapH r0.2.1 [.u16,.u64] true (yA DT.k EV.e r0.2.2.1)),(30042,.mapH r0.2.2.2.1 [.u16,.u64] true (yA DT.k EV.e r0.2.2.2.2))]):=by
 refine PObj.intro (sl:=[]) func28 rfl ntmps28 rfl rfl rfl ?_;intro ctx hK pv;refine wQ<|wR<|wa ?_;refine wN<|wQ<|wR<|ws (LR.buildR (ns:=[_,_,_]) Qj rfl rfl rfl)<|ws (LR.box rfl rfl rfl rfl)<|PWl.sub (Sub.nilCell (id:=2) (j:=0) rfl rfl)<|PWl.sub (Sub.ownMap (id:=2) (j:=1) (id':=30041) (ks:=[.u16,.u64]) (ag:=true) (ck:=0) rfl rfl rfl rfl)<|PWl.sub (Sub.ownMap (id:=2) (j:=2) (id':=30042) (ks:=[.u16,.u64]) (ag:=true) (ck:=0) rfl rfl rfl rfl)<|wy (tl:=[(0,_),(2,_)]) (to:=[(2,_),(30041,_),(30042,_)]) ?_;refine wa ?_;refine wN<|wX ?_;cases h;exact EndsO.mk () (.inr rfl) (Sub.trans (Sub.nToH (id:=30041) rfl)<|Sub.trans (Sub.nToH (id:=30042) rfl)<|sP (tl:=[(0,_)]) (to:=[(2,_),(30041,_),(30042,_)])) (.cons (.tmp rfl)<|.nil) rfl rfl

theorem vY (ctx_1:List PT) (nl2:Bool) (m3:List (DT × EV)) (nl4:Bool) (m5:List (DT × EV)) (r0:List PT) (h:(xJ ctx_1 nl2 m3 nl4 m5).wp (· = r0)):PObj prog 41 [.ref 100 0] [(100,.cells 106 [.d (.sl (List.map PT.e ctx_1)),.mp 101,.mp 102]),(101,.mapH nl2 [.u16,.u64] true (yA DT.k EV.e m3)),(102,.mapH nl4 [.u16,.u64] true (yA DT.k EV.e m5))] [100,101,102] (.d (.sl (List.map PT.e r0))) (fun _:Unit=>[(100,.cells 106 [.d (.sl (List.map PT.e ctx_1)),.mp 101,.mp 102]),(101,.mapH nl2 [.u16,.u64] true (yA DT.k EV.e m3)),(102,.mapH nl4 [.u16,.u64] true (yA DT.k EV.e m5))]):=by
 refine PObj.intro (sl:=[(0,_)]) func41 rfl ntmps41 rfl rfl rfl ?_;intro ctx hK pv;refine wQ<|wR<|ws (aR 114 2 rfl)<|wN<|wQ<|wQ<|wR<|wm ?_;refine ws (LR.eqlPtr underlying40 rfl)<|wN<|PWc.condF rfl<|wK<|wQ<|wR<|wm ?_;refine ws (LR.nilCheckRef rfl)<|ws (fR underlying106 rfl sizeOf31 (by decide) rfl rfl)<|ws (lD isAgg31 rfl rfl rfl) ?_;obtain ⟨v6,hy7,h⟩:=zH h;refine ws (LR.rowN (vH ctx_1 v6 hy7) rfl call63 rfl rfl rfl rfl)<|wy (tl:=[(0,_),(3,_),(4,_),(5,_),(6,_),(7,_),(8,_),(9,_)]) (to:=[(9,_),(100,_),(101,_),(102,_),(1100,_),(1101,_),(1102,_)]) ?_;refine wa ?_;refine wN<|wX ?_;cases h;exact EndsO.mk () (.inr rfl) (Sub.trans (Sub.frz [2,9] hK rfl (by simp) (AllRow.get (.cons rfl<|.cons rfl<|.nil)))<|sP (tl:=[(2,_)]) (to:=[(100,_),(101,_),(102,_),(1100,_),(1101,_),(1102,_)])) (.cons (.tmp rfl)<|.nil) rfl rfl

theorem wW (b1:List Int) (row2:List Int) (r0:List Int) (h:(yd b1 row2).wp (· = r0)):PObj prog 143 [.ref 100 0,.d (.sl (List.map (eK .u8) b1))] [(100,.cells 58 [.row 101 (row2.length)]),(101,.row 5 1 (List.map (eK .u8) row2))] [100] (.tup []) (fun _:Unit=>[(100,.cells 58 [.row 101 (r0.length)]),(101,.row 5 1 (List.map (eK .u8) r0))]):=by
 refine PObj.intro (sl:=[(0,_),(1,_)]) func143 rfl ntmps143 rfl rfl rfl ?_;intro ctx hK pv;refine wQ<|wR<|wm ?_;refine ws (LR.neqPtr underlying60 rfl)<|wN<|PWc.condT rfl<|wR<|wm ?_;refine wm ?_;refine ws (LR.nilCheckRef rfl)<|ws (fR underlying58 rfl sizeOf22 (by decide) rfl rfl)<|ws (lD isAgg22 rfl rfl rfl)<|wm ?_;obtain ⟨hy3,h⟩:=zw h;refine PWl.sub (Sub.junkCell (id:=100) (j:=0) rfl)<|ws (LR.appT (enc:=(eK .u8)) (L:=row2) (R:=b1) [10] YN underlying22 rfl rfl rfl (Src.slT (enc:=(eK .u8)) (R:=b1) rfl (fun _=>rfl)) (fun _=>rfl) hy3 rfl rfl)<|ws (LR.nilCheckRef rfl)<|ws (fR underlying58 rfl sizeOf22 (by decide) rfl rfl)<|ws (sB (ns:=[_]) sizeOf22 rfl rfl rfl rfl rfl rfl rfl)<|wN ?_;cases h;exact EndsO.mk () (.inl rfl) (sO (tl:=[]) (to:=[(100,_),(101,_),(1100,_)]) rfl (.nil) (.cons rfl (by first | rfl | (congr 1;congr 2;first | (simp;done) | (simp;omega) | omega))<|.c2 rfl rfl rfl rfl<|.nil)) (.nil) rfl rfl

theorem zZ (v1:Int) (row2:List Int) (r0:List Int) (h:(zV v1 row2).wp (· = r0)):PObj prog 87 [.ref 100 0,.d (.v (.int .u64 v1))] [(100,.cells 58 [.row 101 (row2.length)]),(101,.row 5 1 (List.map (eK .u8) row2))] [100] (.tup []) (fun _:Unit=>[(100,.cells 58 [.row 101 (r0.length)]),(101,.row 5 1 (List.map (eK .u8) r0))]):=by
 refine PObj.intro (sl:=[(0,_),(1,_)]) func87 rfl ntmps87 rfl rfl rfl ?_;intro ctx hK pv;refine wR<|wm ?_;refine wm ?_;obtain ⟨v3,hy4,h⟩:=zH h;refine ws (LR.rowN (Qz ([]:List Int) v1 v3 hy4) rfl call144 rfl rfl rfl rfl) ?_;obtain ⟨y5,hy6,h⟩:=zH h;refine PWl.frz [6] hK (.cons rfl<|.nil) rfl (by simp) ?_;refine xO [(100,100),(101,101)] [] [100,101] (wW v3 row2 y5 hy6) call143<|wN ?_;cases h;exact EndsO.mk () (.inl rfl) (sO (tl:=[]) (to:=[(100,_),(101,_),(1100,_)]) rfl (.nil) (.cons rfl (by first | rfl | (congr 1;congr 2;first | (simp;done) | (simp;omega) | omega))<|.c2 rfl rfl rfl rfl<|.nil)) (.nil) rfl rfl


theorem wO (c1:List PT) (row2:List Int) (r0:List Int) (h:(yz c1 row2).wp (· = r0)):PObj prog 47 [.ref 100 0,.d (.sl (List.map PT.e c1))] [(100,.cells 58 [.row 101 (row2.length)]),(101,.row 5 1 (List.map (eK .u8) row2))] [100] (.tup []) (fun _:Unit=>[(100,.cells 58 [.row 101 (r0.length)]),(101,.row 5 1 (List.map (eK .u8) r0))]):=by
 refine PObj.intro (sl:=[(0,_),(1,_)]) func47 rfl ntmps47 rfl rfl rfl ?_;intro ctx hK pv;refine wQ<|wR<|wm ?_;obtain ⟨v3,hy4,h⟩:=zH h;refine ws (LR.rowN (vH c1 v3 hy4) rfl call63 rfl rfl rfl rfl)<|wa ?_;refine wN<|wQ<|wR<|wm ?_;refine wm ?_;refine ws (LR.lenRow underlying31 rfl) ?_;refine ws (LR.convInt underlying85 (by rw [underlying3];rfl) rfl rfl) ?_;obtain ⟨y5,hy6,h⟩:=zH h;refine xO [(100,100),(101,101)] [] [100,101] (zZ ((IntKind.u64.wrap (v3.length:Int))) row2 y5 hy6) call87<|wN<|wQ<|wz (tl:=[(0,_),(1,_)]) (to:=[(9,_),(100,_),(101,_),(1100,_)]) ?_;refine wR<|wm ?_;refine ws (LR.lenRow underlying31 rfl)<|wm ?_;refine wN<|wB<|wM (fun (⟨v75,v76⟩:Int × List Int) (_:Unit)=>⟨49,[(0,.ref 100 0),(15,.row 9 (v3.length)),(16,.d (.v (.int .i64 (v3.length:Int)))),(17,.d (.v (.int .i64 v75)))],[(9,.row 114 2 (List.map PT.e v3)),(100,.cells 58 [.row 101 (v76.length)]),(101,.row 5 1 (List.map (eK .u8) v76)),(1100,.pin 100 (pv 100))]⟩) () h (sP) ?_;rintro N ⟨v75,v76⟩ _ h;refine wQ<|wR<|ws (LR.lss rfl rfl)<|wN<|wQ ?_;refine xD h rfl (fun _ h=>?_) (fun _ h=>?_)
 ·refine wK<|wQ ?_;refine wJ (zG h) (fun (v78:List Int) (_:Unit)=>⟨49,[(0,.ref 100 0),(15,.row 9 (v3.length)),(16,.d (.v (.int .i64 (v3.length:Int)))),(17,.d (.v (.int .i64 v75)))],[(9,.row 114 2 (List.map PT.e v3)),(100,.cells 58 [.row 101 (v78.length)]),(101,.row 5 1 (List.map (eK .u8) v78)),(1100,.pin 100 (pv 100))]⟩) (fun h=>?_) ?_
  ·refine wB<|wQ<|wR ?_;obtain ⟨x79,hy80,h⟩:=zu h;refine ws (LR.idxRowT (L:=v3) (y:=x79) underlying31 sizeOf114 rfl rfl rfl hy80)<|ws (LR.loadRpT (enc:=PT.e) (L:=v3) (y:=x79) isAgg114 sizeOf114 rfl rfl hy80.2)<|ws (LR.allocZ (cs:=[_,_]) zeroValue114 rfl rfl rfl rfl)<|ws (sB (ns:=[_,_]) sizeOf114 rfl rfl rfl rfl rfl rfl rfl)<|wN<|wQ<|wR<|wm ?_;refine ws (fR underlying114 rfl sizeOf84 (by decide) rfl rfl)<|ws (lD isAgg84 rfl rfl rfl) ?_;refine ws (LR.convInt underlying85 (by rw [underlying84];rfl) rfl rfl) ?_;obtain ⟨y81,hy82,h⟩:=zH h;refine xO [(100,100),(101,101)] [] [100,101] (zZ (IntKind.u64.wrap x79.dev) v76 y81 hy82) call87<|wN<|wQ<|wz (tl:=[(0,_),(5,_),(15,_),(16,_),(17,_)]) (to:=[(5,_),(9,_),(100,_),(101,_),(1100,_)]) ?_;refine wR<|wm ?_;refine ws (fR underlying114 rfl sizeOf112 (by decide) rfl rfl)<|ws (lD isAgg112 rfl rfl rfl)<|ws (lM (enc:=RN.e) (L:=x79.runs) underlying112 rfl) ?_;refine ws (LR.convInt underlying85 (by rw [underlying3];rfl) rfl rfl) ?_;obtain ⟨y83,hy84,h⟩:=zH h;refine xO [(100,100),(101,101)] [] [100,101] (zZ (IntKind.u64.wrap (x79.runs.length:Int)) y81 y83 hy84) call87<|wN<|wQ<|wz (tl:=[(0,_),(5,_),(15,_),(16,_),(17,_)]) (to:=[(5,_),(9,_),(100,_),(101,_),(1100,_)]) ?_;refine wR<|ws (fR underlying114 rfl sizeOf112 (by decide) rfl rfl)<|ws (lD isAgg112 rfl rfl rfl)<|ws (lM (enc:=RN.e) (L:=x79.runs) underlying112 rfl)<|wm ?_;refine wN<|wB<|wM (fun (⟨v101,v102⟩:Int × List Int) (_:Unit)=>⟨49,[(0,.ref 100 0),(15,.row 9 (v3.length)),(16,.d (.v (.int .i64 (v3.length:Int)))),(17,.d (.v (.int .i64 v75))),(33,.d (.sl (List.map RN.e x79.runs))),(34,.d (.v (.int .i64 (x79.runs.length:Int)))),(35,.d (.v (.int .i64 v101)))],[(9,.row 114 2 (List.map PT.e v3)),(100,.cells 58 [.row 101 (v102.length)]),(101,.row 5 1 (List.map (eK .u8) v102)),(1100,.pin 100 (pv 100))]⟩) () h (sP) ?_;rintro N ⟨v101,v102⟩ _ h;refine wQ<|wR<|ws (LR.lss rfl rfl)<|wN<|wQ ?_;refine xD h rfl (fun _ h=>?_) (fun _ h=>?_)
   ·refine wK<|wQ<|wB<|wQ<|wR ?_;obtain ⟨x104,hy105,h⟩:=zu h;refine ws (iX (enc:=RN.e) (L:=x79.runs) (y:=x104) underlying112 sizeOf119 rfl rfl hy105 (fun _=>rfl))<|ws (lE (ys:=[_,_]) isAgg119 sizeOf119 rfl rfl rfl)<|ws (LR.allocZ (cs:=[_,_]) zeroValue119 rfl rfl rfl rfl)<|ws (sB (ns:=[_,_]) sizeOf119 rfl rfl rfl rfl rfl rfl rfl)<|wN<|wQ<|wR<|wm ?_;refine ws (fR underlying119 rfl sizeOf85 (by decide) rfl rfl)<|ws (lD isAgg85 rfl rfl rfl) ?_;obtain ⟨y106,hy107,h⟩:=zH h;refine xO [(100,100),(101,101)] [] [100,101] (zZ x104.lo v102 y106 hy107) call87<|wN<|wz (tl:=[(0,_),(7,_),(15,_),(16,_),(17,_),(33,_),(34,_),(35,_)]) (to:=[(7,_),(9,_),(100,_),(101,_),(1100,_)]) ?_;refine wR<|wm ?_;refine ws (fR underlying119 rfl sizeOf85 (by decide) rfl rfl)<|ws (lD isAgg85 rfl rfl rfl) ?_;obtain ⟨y108,hy109,h⟩:=zH h;refine xO [(100,100),(101,101)] [] [100,101] (zZ x104.hi y106 y108 hy109) call87<|wN<|wz (tl:=[(0,_),(15,_),(16,_),(17,_),(33,_),(34,_),(35,_)]) (to:=[(9,_),(100,_),(101,_),(1100,_)]) ?_;refine wR<|ws (LR.addW rfl rfl)<|wm ?_;refine wN ?_;exact ⟨((IntKind.i64.wrap (v101 + 1)),y108),(),h,sP⟩
   ·refine wZ ?_;exact ⟨v102,(),h,sP⟩
  ·rintro v78 _ h;refine wR<|ws (LR.addW rfl rfl)<|wm ?_;refine wN ?_;exact ⟨((IntKind.i64.wrap (v75 + 1)),v78),(),h,sP⟩
 ·refine wZ ?_;cases h;exact EndsO.mk () (.inl rfl) (sO (tl:=[]) (to:=[(100,_),(101,_),(1100,_)]) rfl (.nil) (.cons rfl (by first | rfl | (congr 1;congr 2;first | (simp;done) | (simp;omega) | omega))<|.c2 rfl rfl rfl rfl<|.nil)) (.nil) rfl rfl

theorem JV (nl1:Bool) (m2:List (DT × EV)) (nl3:Bool) (m4:List (DT × EV)) (r0:List EV) (h:(Zu nl1 m2 nl3 m4).wp (· = r0)):PObj prog 85 [.row 100 2] [(100,.cells 104 [.mp 101,.mp 102]),(101,.mapH nl1 [.u16,.u64] true (yA DT.k EV.e m2)),(102,.mapH nl3 [.u16,.u64] true (yA DT.k EV.e m4))] [100,101,102] (.row 3 (r0.length)) (fun _:Unit=>[(100,.cells 104 [.mp 101,.mp 102]),(101,.mapH nl1 [.u16,.u64] true (yA DT.k EV.e m2)),(102,.mapH nl3 [.u16,.u64] true (yA DT.k EV.e m4)),(3,.row 90 7 (List.map EV.e r0))]):=by
 refine PObj.intro (sl:=[(0,_)]) func85 rfl ntmps85 rfl rfl rfl ?_;intro ctx hK pv;refine wQ<|wR<|ws (aR 90 7 rfl)<|wN<|wQ<|wR<|ws (aR 90 7 rfl)<|wN<|wQ ?_;refine wQ<|wR<|wm ?_;refine ws (LR.lenRow underlying167 rfl)<|wm ?_;refine wN ?_;refine wJ (zG h) (fun (out5:List EV) (_:Unit)=>⟨29,[(3,.row 3 (out5.length))],[(3,.row 90 7 (List.map EV.e out5)),(100,.cells 104 [.mp 101,.mp 102]),(101,.mapH nl1 [.u16,.u64] true (yA DT.k EV.e m2)),(102,.mapH nl3 [.u16,.u64] true (yA DT.k EV.e m4)),(1100,.pin 100 (pv 100)),(1101,.pin 101 (pv 101)),(1102,.pin 102 (pv 102))]⟩) (fun h=>?_) ?_
 ·refine wB<|PWc.loopU<|PWL.step<|wQ<|wR<|ws (LR.lss rfl rfl)<|wN<|wQ<|PWc.condT rfl ?_;refine wK<|wQ ?_;refine wJ (zG h) (fun (out8:List EV) (⟨bs6,ck7⟩:List Nat × Nat)=>⟨29,[(3,.row 3 (out8.length)),(8,.row 100 2),(9,.d (.v (.int .i64 2))),(10,.d (.v (.int .i64 0)))],[(3,.row 90 7 (List.map EV.e out8)),(100,.cells 104 [.mp 101,.mp 102]),(101,.mapN nl1 [.u16,.u64] true (yA DT.k EV.e m2) bs6 ck7),(102,.mapH nl3 [.u16,.u64] true (yA DT.k EV.e m4)),(1100,.pin 100 (pv 100)),(1101,.pin 101 (pv 101)),(1102,.pin 102 (pv 102))]⟩) (fun h=>?_) ?_
  ·refine wB<|wQ<|wR<|ws (LR.idxCells (n:=0) underlying167 sizeOf104 rfl rfl rfl (by decide))<|ws (lD isAgg104 rfl rfl rfl)<|wa ?_;refine wN<|wQ<|wR<|wm ?_;refine PWl.openH (id:=101) rfl (fun bs9 ck9=>?_);refine ws (LR.rangeN underlying104 rfl rfl rfl)<|wN<|wB<|wM (fun (⟨seen32,out33⟩:List Nat × List EV) (_:Unit)=>⟨29,[(3,.row 3 (out33.length)),(8,.row 100 2),(9,.d (.v (.int .i64 2))),(10,.d (.v (.int .i64 0))),(15,.ref 15 0)],[(3,.row 90 7 (List.map EV.e out33)),(15,.iterO 101 bs9 ck9 seen32),(100,.cells 104 [.mp 101,.mp 102]),(101,.mapN nl1 [.u16,.u64] true (yA DT.k EV.e m2) bs9 ck9),(102,.mapH nl3 [.u16,.u64] true (yA DT.k EV.e m4)),(1100,.pin 100 (pv 100)),(1101,.pin 101 (pv 101)),(1102,.pin 102 (pv 102))]⟩) () h (sP) ?_;rintro N ⟨seen32,out33⟩ _ h;refine wQ<|wR ?_;obtain ⟨hy43,h⟩:=zw h;replace h:=iNxt h;refine PWl.nextN rfl rfl rfl (nxtD hy43) rfl (fun hy35=>?_) (fun j34 hy36 hy37=>?_)
   ·replace h:=h.1 (nxtA hy35);refine ws (LR.extract rfl rfl)<|wN<|wQ<|PWc.condF rfl<|wZ ?_;exact ⟨out33,(bs9,ck9),h,sP⟩
   ·replace h:=h.2 j34 (nxtB hy36) hy37;refine ws (LR.extract rfl rfl)<|wN<|wQ<|PWc.condT rfl<|wK<|wB<|wQ<|wR ?_;obtain ⟨kv38,hy39,h⟩:=zu h;refine ws (LR.entryN rfl rfl rfl (wYa hy39) rfl rfl)<|ws (LR.extract rfl rfl)<|ws (LR.allocZ (cs:=[_,_,_,_,_,_,_]) zeroValue90 rfl rfl rfl rfl)<|ws (sB (ns:=[_,_,_,_,_,_,_]) sizeOf90 rfl rfl rfl rfl rfl rfl rfl)<|wN<|wR<|wm ?_;refine ws (lA (ps:=[_,_,_,_,_,_,_]) isAgg90 sizeOf90 rfl rfl rfl rfl) ?_;obtain ⟨v40,hy41,h⟩:=zH h;refine xN (XE kv38.2 v40 hy41) call115<|ws (LR.buildSliceD [.tmp 22] xm rfl rfl (.cons rfl rfl rfl<|.nil) (by decide) (by decide)) ?_;obtain ⟨hy42,h⟩:=zw h;refine ws (LR.appT (enc:=EV.e) (L:=out33) (R:=[v40]) [3,20] xm underlying32 rfl rfl rfl (Src.slT (enc:=EV.e) (R:=[v40]) rfl (fun _=>rfl)) (fun _=>rfl) hy42 rfl rfl)<|wa ?_;refine wN ?_;exact ⟨((seen32 ++ [j34]),(out33 ++ [v40])),(),h,sP⟩
  ·rintro out8 ⟨bs6,ck7⟩ h;refine wR<|ws (LR.addW rfl rfl)<|wm ?_;refine wN<|PWL.step<|wQ<|wR<|ws (LR.lss rfl rfl)<|wN<|wQ<|PWc.condT rfl<|wK ?_;refine wQ ?_;refine wJ (zG h) (fun (out46:List EV) (⟨bs44,ck45⟩:List Nat × Nat)=>⟨29,[(3,.row 3 (out46.length)),(8,.row 100 2),(9,.d (.v (.int .i64 2))),(10,.d (.v (.int .i64 1)))],[(3,.row 90 7 (List.map EV.e out46)),(100,.cells 104 [.mp 101,.mp 102]),(101,.mapN nl1 [.u16,.u64] true (yA DT.k EV.e m2) bs6 ck7),(102,.mapN nl3 [.u16,.u64] true (yA DT.k EV.e m4) bs44 ck45),(1100,.pin 100 (pv 100)),(1101,.pin 101 (pv 101)),(1102,.pin 102 (pv 102))]⟩) (fun h=>?_) ?_
   ·refine wB<|wQ<|wR<|ws (LR.idxCells (n:=1) underlying167 sizeOf104 rfl rfl rfl (by decide))<|ws (lD isAgg104 rfl rfl rfl)<|wa ?_;refine wN<|wQ<|wR<|wm ?_;refine PWl.openH (id:=102) rfl (fun bs47 ck47=>?_);refine ws (LR.rangeN underlying104 rfl rfl rfl)<|wN<|wB<|wM (fun (⟨seen70,out71⟩:List Nat × List EV) (_:Unit)=>⟨29,[(3,.row 3 (out71.length)),(8,.row 100 2),(9,.d (.v (.int .i64 2))),(10,.d (.v (.int .i64 1))),(15,.ref 15 0)],[(3,.row 90 7 (List.map EV.e out71)),(15,.iterO 102 bs47 ck47 seen70),(100,.cells 104 [.mp 101,.mp 102]),(101,.mapN nl1 [.u16,.u64] true (yA DT.k EV.e m2) bs6 ck7),(102,.mapN nl3 [.u16,.u64] true (yA DT.k EV.e m4) bs47 ck47),(1100,.pin 100 (pv 100)),(1101,.pin 101 (pv 101)),(1102,.pin 102 (pv 102))]⟩) () h (sP) ?_;rintro N ⟨seen70,out71⟩ _ h;refine wQ<|wR ?_;obtain ⟨hy81,h⟩:=zw h;replace h:=iNxt h;refine PWl.nextN rfl rfl rfl (nxtD hy81) rfl (fun hy73=>?_) (fun j72 hy74 hy75=>?_)
    ·replace h:=h.1 (nxtA hy73);refine ws (LR.extract rfl rfl)<|wN<|wQ<|PWc.condF rfl<|wZ ?_;exact ⟨out71,(bs47,ck47),h,sP⟩
    ·replace h:=h.2 j72 (nxtB hy74) hy75;refine ws (LR.extract rfl rfl)<|wN<|wQ<|PWc.condT rfl<|wK<|wB<|wQ<|wR ?_;obtain ⟨kv76,hy77,h⟩:=zu h;refine ws (LR.entryN rfl rfl rfl (wYa hy77) rfl rfl)<|ws (LR.extract rfl rfl)<|ws (LR.allocZ (cs:=[_,_,_,_,_,_,_]) zeroValue90 rfl rfl rfl rfl)<|ws (sB (ns:=[_,_,_,_,_,_,_]) sizeOf90 rfl rfl rfl rfl rfl rfl rfl)<|wN<|wR<|wm ?_;refine ws (lA (ps:=[_,_,_,_,_,_,_]) isAgg90 sizeOf90 rfl rfl rfl rfl) ?_;obtain ⟨v78,hy79,h⟩:=zH h;refine xN (XE kv76.2 v78 hy79) call115<|ws (LR.buildSliceD [.tmp 22] xm rfl rfl (.cons rfl rfl rfl<|.nil) (by decide) (by decide)) ?_;obtain ⟨hy80,h⟩:=zw h;refine ws (LR.appT (enc:=EV.e) (L:=out71) (R:=[v78]) [3,20] xm underlying32 rfl rfl rfl (Src.slT (enc:=EV.e) (R:=[v78]) rfl (fun _=>rfl)) (fun _=>rfl) hy80 rfl rfl)<|wa ?_;refine wN ?_;exact ⟨((seen70 ++ [j72]),(out71 ++ [v78])),(),h,sP⟩
   ·rintro out46 ⟨bs44,ck45⟩ h;refine wR<|ws (LR.addW rfl rfl)<|wm ?_;refine wN<|PWL.step<|wQ<|wR<|ws (LR.lss rfl rfl)<|wN<|wQ<|PWc.condF rfl<|wZ ?_;exact ⟨out46,(),h,Sub.trans (Sub.nToH (id:=101) rfl)<|Sub.trans (Sub.nToH (id:=102) rfl)<|sP⟩
 ·rintro out5 _ h;refine wQ<|wR<|wm ?_;obtain ⟨hy83,h⟩:=zw h;refine PWl.sortFnR (encD:=EV.e) (enc:=RawTEvent.v) (lt:=Xn) (R:=RawTEvent.R) (l:=out5) vca RawTEvent.raw rlt141 (fun _=>rfl) (fun _=>rfl) rfl call141 rfl rfl rfl (by simp) hy83 rfl (fun s82 hy84 hy85=>?_);replace h:=iSrt h s82 hy84 hy85;have hy84l:=hy84.length_eq;refine wN<|wQ<|wR<|wm ?_;refine wa ?_;refine wN<|wX ?_;cases h;exact EndsO.mk () (.inr rfl) (sO (tl:=[(2,_)]) (to:=[(100,_),(101,_),(102,_),(3,_),(1100,_),(1101,_),(1102,_)]) rfl (.cons rfl (by first | rfl | (simp;done) | (congr 1;first | (simp;done) | (simp;omega) | omega))<|.nil) (.c4 rfl rfl rfl rfl rfl rfl rfl rfl<|.c2 rfl rfl rfl rfl<|.cons rfl rfl<|.nil)) (.cons (.tmp rfl)<|.nil) rfl rfl

theorem vZ (ctx_1:List PT) (nl2:Bool) (m3:List (DT × EV)) (nl4:Bool) (m5:List (DT × EV)) (r0:List EV) (h:(xK ctx_1 nl2 m3 nl4 m5).wp (· = r0)):PObj prog 46 [.ref 100 0] [(100,.cells 106 [.d (.sl (List.map PT.e ctx_1)),.mp 101,.mp 102]),(101,.mapH nl2 [.u16,.u64] true (yA DT.k EV.e m3)),(102,.mapH nl4 [.u16,.u64] true (yA DT.k EV.e m5))] [100,101,102] (.row 14 (r0.length)) (fun _:Unit=>[(100,.cells 106 [.d (.sl (List.map PT.e ctx_1)),.mp 101,.mp 102]),(101,.mapH nl2 [.u16,.u64] true (yA DT.k EV.e m3)),(102,.mapH nl4 [.u16,.u64] true (yA DT.k EV.e m5)),(14,.row 90 7 (List.map EV.e r0))]):=by
 refine PObj.intro (sl:=[(0,_)]) func46 rfl ntmps46 rfl rfl rfl ?_;intro ctx hK pv;refine wQ<|wR<|ws (aR 90 7 rfl)<|wN<|wQ<|wQ<|wR<|wm ?_;refine ws (LR.eqlPtr underlying40 rfl)<|wN<|PWc.condF rfl<|wK<|wQ<|wz (tl:=[(0,_)]) (to:=[(100,_),(101,_),(102,_),(1100,_),(1101,_),(1102,_)]) ?_;refine PWc.regionE [⟨[5],[],[],[],[],[100],[],[]⟩,⟨[6],[],[],[],[],[100],[],[]⟩,⟨[7],[],[],[],[],[100],[],[]⟩,⟨[8],[],[100],[],[],[101],[],[]⟩,⟨[9],[],[],[],[],[100],[],[]⟩,⟨[10],[],[],[],[],[100],[],[]⟩,⟨[11],[],[],[],[],[100],[],[]⟩,⟨[12],[],[100],[],[],[102],[],[]⟩,⟨[13],[13],[],[13],[],[13],[101,102],[]⟩,⟨[14],[14],[13,101,102],[14],[],[14],[],[]⟩,⟨[2],[],[],[],[],[14],[],[]⟩] (by kernel_rfl) (by kernel_rfl) rfl<|km ?_;refine kp (fun _ U W=>LR.nilCheckRef U) ?_;refine kp (fun _ U W=>fR underlying106 rfl sizeOf104 (by decide) rfl U) ?_;refine kp (fun _ U W=>lD isAgg104 U (W rfl rfl) rfl)<|km ?_;refine kp (fun _ U W=>LR.nilCheckRef U) ?_;refine kp (fun _ U W=>fR underlying106 rfl sizeOf104 (by decide) rfl U) ?_;refine kp (fun _ U W=>lD isAgg104 U (W rfl rfl) rfl) ?_;refine PQe.stepN (fun _ U W hf=>LR.buildSliceP [.tmp 8,.tmp 12] elem167 rfl rfl (wd U rfl rfl) rfl (by decide) hf) rfl (.inl rfl) rfl ?_;obtain ⟨y6,hy7,h⟩:=zH h;refine PQe.callObjS [(100,13),(101,101),(102,102),(3,14)] [] [100,101,102,3] [(3,.row 90 7 (List.map EV.e y6))] [(100,.cells 104 [.mp 101,.mp 102]),(101,.mapH nl2 [.u16,.u64] true (yA DT.k EV.e m3)),(102,.mapH nl4 [.u16,.u64] true (yA DT.k EV.e m5))] (JV nl2 m3 nl4 m5 y6 hy7) hK (fun _ U=>⟨U rfl rfl,wd U rfl rfl⟩) call85 (by first | rfl | (simp;done) | (simp [PV.nilD,PV.ren,rn];omega)) (by repeat' first | constructor | (congr 1;first | (simp;done) | (simp;omega) | omega)) (.cons rfl<|.nil) (.cons rfl<|.cons rfl<|.cons rfl<|.nil) (by repeat' first | constructor | (congr 1;first | (simp;done) | (simp;omega) | omega)) rfl rfl rfl rfl rfl rfl (.inl rfl) rfl ?_;refine kp (fun _ U W=>aS U)<|PQe.nil<|wX ?_;cases h;exact EndsO.mk () (.inr rfl) (sO (tl:=[(2,_)]) (to:=[(100,_),(101,_),(102,_),(14,_),(1100,_),(1101,_),(1102,_)]) rfl (.cons rfl (by first | rfl | (simp;done) | (congr 1;first | (simp;done) | (simp;omega) | omega))<|.nil) (.c4 rfl rfl rfl rfl rfl rfl rfl rfl<|.c2 rfl rfl rfl rfl<|.cons rfl rfl<|.nil)) (.cons (.tmp rfl)<|.nil) rfl rfl

theorem YW (d1:DT) (row2:List Int) (r0:List Int) (h:(we d1 row2).wp (· = r0)):PObj prog 145 [.ref 100 0,.agg (List.map .d (DT.e d1))] [(100,.cells 58 [.row 101 (row2.length)]),(101,.row 5 1 (List.map (eK .u8) row2))] [100] (.tup []) (fun _:Unit=>[(100,.cells 58 [.row 101 (r0.length)]),(101,.row 5 1 (List.map (eK .u8) r0))]):=by
 refine PObj.intro (sl:=[(0,_),(1,_)]) func145 rfl ntmps145 rfl rfl rfl ?_;intro ctx hK pv;refine wQ<|wR<|ws (LR.box rfl rfl rfl rfl)<|wN<|wQ<|wR<|wm ?_;refine ws (fR underlying87 rfl sizeOf84 (by decide) rfl rfl)<|ws (lD isAgg84 rfl rfl rfl) ?_;refine ws (LR.convInt underlying85 (by rw [underlying84];rfl) rfl rfl) ?_;obtain ⟨y3,hy4,h⟩:=zH h;refine xO [(100,100),(101,101)] [] [100,101] (zZ (IntKind.u64.wrap d1.dev) row2 y3 hy4) call87<|wN<|wz (tl:=[(0,_),(3,_)]) (to:=[(3,_),(100,_),(101,_),(1100,_)]) ?_;refine wR<|wm ?_;refine ws (fR underlying87 rfl sizeOf85 (by decide) rfl rfl)<|ws (lD isAgg85 rfl rfl rfl) ?_;obtain ⟨y5,hy6,h⟩:=zH h;refine xO [(100,100),(101,101)] [] [100,101] (zZ d1.n y3 y5 hy6) call87<|wN ?_;cases h;exact EndsO.mk () (.inl rfl) (sO (tl:=[]) (to:=[(100,_),(101,_),(1100,_)]) rfl (.nil) (.cons rfl (by first | rfl | (congr 1;congr 2;first | (simp;done) | (simp;omega) | omega))<|.c2 rfl rfl rfl rfl<|.nil)) (.nil) rfl rfl

theorem uW (c1:Int) (row2:List Int) (r0:List Int) (h:(yo c1 row2).wp (· = r0)):PObj prog 146 [.ref 100 0,.d (.v (.int .u8 c1))] [(100,.cells 58 [.row 101 (row2.length)]),(101,.row 5 1 (List.map (eK .u8) row2))] [100] (.tup []) (fun _:Unit=>[(100,.cells 58 [.row 101 (r0.length)]),(101,.row 5 1 (List.map (eK .u8) r0))]):=by
 refine PObj.intro (sl:=[(0,_),(1,_)]) func146 rfl ntmps146 rfl rfl rfl ?_;intro ctx hK pv;refine wR<|wm ?_;refine wm ?_;refine ws (LR.buildSliceD [.tmp 5] YN rfl rfl (.cons rfl rfl rfl<|.nil) (by decide) (by decide)) ?_;obtain ⟨y3,hy4,h⟩:=zH h;refine xO [(100,100),(101,101)] [] [100,101] (wW ([c1]) row2 y3 hy4) call143<|wN ?_;cases h;exact EndsO.mk () (.inl rfl) (sO (tl:=[]) (to:=[(100,_),(101,_),(1100,_)]) rfl (.nil) (.cons rfl (by first | rfl | (congr 1;congr 2;first | (simp;done) | (simp;omega) | omega))<|.c2 rfl rfl rfl rfl<|.nil)) (.nil) rfl rfl


theorem Xw (s1:ByteArray) (row2:List Int) (r0:List Int) (h:(xp s1 row2).wp (· = r0)):PObj prog 147 [.ref 100 0,.d (.v (.string s1))] [(100,.cells 58 [.row 101 (row2.length)]),(101,.row 5 1 (List.map (eK .u8) row2))] [100] (.tup []) (fun _:Unit=>[(100,.cells 58 [.row 101 (r0.length)]),(101,.row 5 1 (List.map (eK .u8) r0))]):=by
 refine PObj.intro (sl:=[(0,_),(1,_)]) func147 rfl ntmps147 rfl rfl rfl ?_;intro ctx hK pv;refine wQ<|wR<|wm ?_;refine wm ?_;refine ws (LR.lenStr underlying9 rfl) ?_;refine ws (LR.convInt underlying85 (by rw [underlying3];rfl) rfl rfl) ?_;obtain ⟨y3,hy4,h⟩:=zH h;refine xO [(100,100),(101,101)] [] [100,101] (zZ (IntKind.u64.wrap (ByteArray.size s1:Int)) row2 y3 hy4) call87<|wN<|wz (tl:=[(0,_),(1,_)]) (to:=[(100,_),(101,_),(1100,_)]) ?_;refine wR<|wm ?_;refine wm ?_;obtain ⟨hy5,h⟩:=zw h;refine ws (LR.strBytes underlying9 underlying22 underlying5 rfl hy5) ?_;obtain ⟨y6,hy7,h⟩:=zH h;refine xO [(100,100),(101,101)] [] [100,101] (wW (yF s1) y3 y6 hy7) call143<|wN ?_;cases h;exact EndsO.mk () (.inl rfl) (sO (tl:=[]) (to:=[(100,_),(101,_),(1100,_)]) rfl (.nil) (.cons rfl (by first | rfl | (congr 1;congr 2;first | (simp;done) | (simp;omega) | omega))<|.c2 rfl rfl rfl rfl<|.nil)) (.nil) rfl rfl

theorem UD (l1:List DT) (row2:List Int) (r0:List Int) (h:(vS l1 row2).wp (· = r0)):PObj prog 148 [.ref 100 0,.d (.sl (List.map DT.e l1))] [(100,.cells 58 [.row 101 (row2.length)]),(101,.row 5 1 (List.map (eK .u8) row2))] [100] (.tup []) (fun _:Unit=>[(100,.cells 58 [.row 101 (r0.length)]),(101,.row 5 1 (List.map (eK .u8) r0))]):=by
 refine PObj.intro (sl:=[(0,_),(1,_)]) func148 rfl ntmps148 rfl rfl rfl ?_;intro ctx hK pv;refine wQ<|wR<|ws (aR 87 2 rfl)<|wN<|wQ<|wQ<|wR<|wm ?_;refine ws (lM (enc:=DT.e) (L:=l1) underlying88 rfl)<|wm ?_;refine wN ?_;refine wJ (zG h) (fun (some3:List DT) (_:Unit)=>⟨39,[(0,.ref 100 0),(4,.row 4 (some3.length))],[(4,.row 87 2 (List.map DT.e some3)),(100,.cells 58 [.row 101 (row2.length)]),(101,.row 5 1 (List.map (eK .u8) row2)),(1100,.pin 100 (pv 100))]⟩) (fun h=>?_) ?_
 ·refine wB<|wM (fun (⟨v22,some23⟩:Int × List DT) (_:Unit)=>⟨39,[(0,.ref 100 0),(4,.row 4 (some23.length)),(9,.d (.sl (List.map DT.e l1))),(10,.d (.v (.int .i64 (l1.length:Int)))),(11,.d (.v (.int .i64 v22)))],[(4,.row 87 2 (List.map DT.e some23)),(100,.cells 58 [.row 101 (row2.length)]),(101,.row 5 1 (List.map (eK .u8) row2)),(1100,.pin 100 (pv 100))]⟩) () h (sP) ?_;rintro N ⟨v22,some23⟩ _ h;refine wQ<|wR<|ws (LR.lss rfl rfl)<|wN<|wQ ?_;refine xD h rfl (fun _ h=>?_) (fun _ h=>?_)
  ·refine wK<|wQ ?_;refine wJ (zG h) (fun (some25:List DT) (_:Unit)=>⟨39,[(0,.ref 100 0),(4,.row 4 (some25.length)),(9,.d (.sl (List.map DT.e l1))),(10,.d (.v (.int .i64 (l1.length:Int)))),(11,.d (.v (.int .i64 v22)))],[(4,.row 87 2 (List.map DT.e some25)),(100,.cells 58 [.row 101 (row2.length)]),(101,.row 5 1 (List.map (eK .u8) row2)),(1100,.pin 100 (pv 100))]⟩) (fun h=>?_) ?_
   ·refine wB<|wQ<|wR ?_;obtain ⟨x26,hy27,h⟩:=zu h;refine ws (iX (enc:=DT.e) (L:=l1) (y:=x26) underlying88 sizeOf87 rfl rfl hy27 (fun _=>rfl))<|ws (lE (ys:=[_,_]) isAgg87 sizeOf87 rfl rfl rfl)<|ws (LR.allocZ (cs:=[_,_]) zeroValue87 rfl rfl rfl rfl)<|ws (sB (ns:=[_,_]) sizeOf87 rfl rfl rfl rfl rfl rfl rfl)<|wN<|wQ<|wR<|ws (lA (ps:=[_,_]) isAgg87 sizeOf87 rfl rfl rfl rfl) ?_;obtain ⟨v28,hy29,h⟩:=zH h;refine xN (ZT x26 v28 hy29) call108<|wN ?_;refine xD h rfl (fun _ h=>?_) (fun _ h=>?_)
    ·refine wR<|wm ?_;refine ws (lA (ps:=[_,_]) isAgg87 sizeOf87 rfl rfl rfl rfl)<|ws (LR.buildSliceD [.tmp 18] uN rfl rfl (.cons rfl rfl rfl<|.nil) (by decide) (by decide)) ?_;obtain ⟨hy31,h⟩:=zw h;refine ws (LR.appT (enc:=DT.e) (L:=some23) (R:=[x26]) [4,17] uN underlying88 rfl rfl rfl (Src.slT (enc:=DT.e) (R:=[x26]) rfl (fun _=>rfl)) (fun _=>rfl) hy31 rfl rfl)<|wa ?_;refine wN ?_;exact ⟨(some23 ++ [x26]),(),h,sP⟩
    ·refine wK ?_;exact ⟨some23,(),h,sP⟩
   ·rintro some25 _ h;refine wR<|ws (LR.addW rfl rfl)<|wm ?_;refine wN ?_;exact ⟨((IntKind.i64.wrap (v22 + 1)),some25),(),h,sP⟩
  ·refine wZ ?_;exact ⟨some23,(),h,sP⟩
 ·rintro some3 _ h;refine wQ<|wR<|wm ?_;obtain ⟨v32,hy33,h⟩:=zH h;refine PWl.frz [4,22] hK (.cons rfl<|.cons rfl<|.nil) rfl (by simp) ?_;refine ws (LR.rowN (VI some3 v32 hy33) rfl call118 rfl rfl rfl rfl)<|wa ?_;refine wN<|wQ<|wR<|wm ?_;refine wm ?_;refine ws (LR.lenRow underlying88 rfl) ?_;refine ws (LR.convInt underlying85 (by rw [underlying3];rfl) rfl rfl) ?_;obtain ⟨y34,hy35,h⟩:=zH h;refine xO [(100,100),(101,101)] [] [100,101] (zZ ((IntKind.u64.wrap (v32.length:Int))) row2 y34 hy35) call87<|wN<|wQ<|wz (tl:=[(0,_),(4,_)]) (to:=[(23,_),(100,_),(101,_),(1100,_)]) ?_;refine wR<|wm ?_;refine ws (LR.lenRow underlying88 rfl)<|wm ?_;refine wN<|wB<|wM (fun (⟨v48,v49⟩:Int × List Int) (_:Unit)=>⟨39,[(0,.ref 100 0),(29,.row 23 (v32.length)),(30,.d (.v (.int .i64 (v32.length:Int)))),(31,.d (.v (.int .i64 v48)))],[(23,.row 87 2 (List.map DT.e v32)),(100,.cells 58 [.row 101 (v49.length)]),(101,.row 5 1 (List.map (eK .u8) v49)),(1100,.pin 100 (pv 100))]⟩) () h (sP) ?_;rintro N ⟨v48,v49⟩ _ h;refine wQ<|wR<|ws (LR.lss rfl rfl)<|wN<|wQ ?_;refine xD h rfl (fun _ h=>?_) (fun _ h=>?_)
  ·refine wK<|wQ<|wB<|wQ<|wR ?_;obtain ⟨x51,hy52,h⟩:=zu h;refine ws (LR.idxRowT (L:=v32) (y:=x51) underlying88 sizeOf87 rfl rfl rfl hy52)<|ws (LR.loadRpT (enc:=DT.e) (L:=v32) (y:=x51) isAgg87 sizeOf87 rfl rfl hy52.2)<|ws (LR.allocZ (cs:=[_,_]) zeroValue87 rfl rfl rfl rfl)<|ws (sB (ns:=[_,_]) sizeOf87 rfl rfl rfl rfl rfl rfl rfl)<|wN<|wR<|wm ?_;refine ws (lA (ps:=[_,_]) isAgg87 sizeOf87 rfl rfl rfl rfl) ?_;obtain ⟨y53,hy54,h⟩:=zH h;refine xO [(100,100),(101,101)] [] [100,101] (YW x51 v49 y53 hy54) call145<|wN<|wz (tl:=[(0,_),(29,_),(30,_),(31,_)]) (to:=[(23,_),(100,_),(101,_),(1100,_)]) ?_;refine wR<|ws (LR.addW rfl rfl)<|wm ?_;refine wN ?_;exact ⟨((IntKind.i64.wrap (v48 + 1)),y53),(),h,sP⟩
  ·refine wZ ?_;cases h;exact EndsO.mk () (.inl rfl) (sO (tl:=[]) (to:=[(100,_),(101,_),(1100,_)]) rfl (.nil) (.cons rfl (by first | rfl | (congr 1;congr 2;first | (simp;done) | (simp;omega) | omega))<|.c2 rfl rfl rfl rfl<|.nil)) (.nil) rfl rfl

theorem qd (e1:EV) (row2:List Int) (r0:List Int) (h:(Ym e1 row2).wp (· = r0)):PObj prog 88 [.ref 100 0,.agg (List.map .d (EV.e e1))] [(100,.cells 58 [.row 101 (row2.length)]),(101,.row 5 1 (List.map (eK .u8) row2))] [100] (.tup []) (fun _:Unit=>[(100,.cells 58 [.row 101 (r0.length)]),(101,.row 5 1 (List.map (eK .u8) r0))]):=by
 refine PObj.intro (sl:=[(0,_),(1,_)]) func88 rfl ntmps88 rfl rfl rfl ?_;intro ctx hK pv;refine wQ<|wR<|ws (LR.box rfl rfl rfl rfl)<|wN<|wQ<|wR<|wm ?_;refine ws (fR underlying90 rfl sizeOf87 (by decide) rfl rfl)<|ws (lA (ps:=[_,_]) isAgg87 sizeOf87 rfl rfl rfl rfl) ?_;obtain ⟨y3,hy4,h⟩:=zH h;refine xO [(100,100),(101,101)] [] [100,101] (YW e1.dot row2 y3 hy4) call145<|wN<|wQ<|wz (tl:=[(0,_),(3,_)]) (to:=[(3,_),(100,_),(101,_),(1100,_)]) ?_;refine wR<|wm ?_;refine ws (fR underlying90 rfl sizeOf5 (by decide) rfl rfl)<|ws (lD isAgg5 rfl rfl rfl) ?_;obtain ⟨y5,hy6,h⟩:=zH h;refine xO [(100,100),(101,101)] [] [100,101] (uW e1.kind y3 y5 hy6) call146<|wN<|wQ<|wz (tl:=[(0,_),(3,_)]) (to:=[(3,_),(100,_),(101,_),(1100,_)]) ?_;refine wR<|wm ?_;refine ws (fR underlying90 rfl sizeOf85 (by decide) rfl rfl)<|ws (lD isAgg85 rfl rfl rfl) ?_;obtain ⟨y7,hy8,h⟩:=zH h;refine xO [(100,100),(101,101)] [] [100,101] (zZ e1.cid y5 y7 hy8) call87<|wN<|wQ<|wz (tl:=[(0,_),(3,_)]) (to:=[(3,_),(100,_),(101,_),(1100,_)]) ?_;refine wR<|wm ?_;refine ws (fR underlying90 rfl sizeOf5 (by decide) rfl rfl)<|ws (lD isAgg5 rfl rfl rfl) ?_;obtain ⟨y9,hy10,h⟩:=zH h;refine xO [(100,100),(101,101)] [] [100,101] (uW e1.field y7 y9 hy10) call146<|wN<|wQ<|wz (tl:=[(0,_),(3,_)]) (to:=[(3,_),(100,_),(101,_),(1100,_)]) ?_;refine wR<|wm ?_;refine ws (fR underlying90 rfl sizeOf9 (by decide) rfl rfl)<|ws (lD isAgg9 rfl rfl rfl) ?_;obtain ⟨y11,hy12,h⟩:=zH h;refine xO [(100,100),(101,101)] [] [100,101] (Xw e1.text y9 y11 hy12) call147<|wN<|wz (tl:=[(0,_),(3,_)]) (to:=[(3,_),(100,_),(101,_),(1100,_)]) ?_;refine wR<|wm ?_;refine ws (fR underlying90 rfl sizeOf88 (by decide) rfl rfl)<|ws (lD isAgg88 rfl rfl rfl) ?_;obtain ⟨y13,hy14,h⟩:=zH h;refine xO [(100,100),(101,101)] [] [100,101] (UD e1.kills y11 y13 hy14) call148<|wN ?_;cases h;exact EndsO.mk () (.inl rfl) (sO (tl:=[]) (to:=[(100,_),(101,_),(1100,_)]) rfl (.nil) (.cons rfl (by first | rfl | (congr 1;congr 2;first | (simp;done) | (simp;omega) | omega))<|.c2 rfl rfl rfl rfl<|.nil)) (.nil) rfl rfl

theorem vz (l1:List EV) (row2:List Int) (r0:List Int) (h:(xb l1 row2).wp (· = r0)):PObj prog 48 [.ref 100 0,.d (.sl (List.map EV.e l1))] [(100,.cells 58 [.row 101 (row2.length)]),(101,.row 5 1 (List.map (eK .u8) row2))] [100] (.tup []) (fun _:Unit=>[(100,.cells 58 [.row 101 (r0.length)]),(101,.row 5 1 (List.map (eK .u8) r0))]):=by
 refine PObj.intro (sl:=[(0,_),(1,_)]) func48 rfl ntmps48 rfl rfl rfl ?_;intro ctx hK pv;refine wQ<|wR<|wm ?_;refine wm ?_;refine ws (lM (enc:=EV.e) (L:=l1) underlying32 rfl) ?_;refine ws (LR.convInt underlying85 (by rw [underlying3];rfl) rfl rfl) ?_;obtain ⟨y3,hy4,h⟩:=zH h;refine xO [(100,100),(101,101)] [] [100,101] (zZ (IntKind.u64.wrap (l1.length:Int)) row2 y3 hy4) call87<|wN<|wQ<|wz (tl:=[(0,_),(1,_)]) (to:=[(100,_),(101,_),(1100,_)]) ?_;refine wR<|wm ?_;refine ws (lM (enc:=EV.e) (L:=l1) underlying32 rfl)<|wm ?_;refine wN<|wB<|wM (fun (⟨v17,v18⟩:Int × List Int) (_:Unit)=>⟨21,[(0,.ref 100 0),(11,.d (.sl (List.map EV.e l1))),(12,.d (.v (.int .i64 (l1.length:Int)))),(13,.d (.v (.int .i64 v17)))],[(100,.cells 58 [.row 101 (v18.length)]),(101,.row 5 1 (List.map (eK .u8) v18)),(1100,.pin 100 (pv 100))]⟩) () h (sP) ?_;rintro N ⟨v17,v18⟩ _ h;refine wQ<|wR<|ws (LR.lss rfl rfl)<|wN<|wQ ?_;refine xD h rfl (fun _ h=>?_) (fun _ h=>?_)
 ·refine wK<|wQ<|wB<|wQ<|wR ?_;obtain ⟨x20,hy21,h⟩:=zu h;refine ws (iX (enc:=EV.e) (L:=l1) (y:=x20) underlying32 sizeOf90 rfl rfl hy21 (fun _=>rfl))<|ws (lE (ys:=[_,_,_,_,_,_,_]) isAgg90 sizeOf90 rfl rfl rfl)<|ws (LR.allocZ (cs:=[_,_,_,_,_,_,_]) zeroValue90 rfl rfl rfl rfl)<|ws (sB (ns:=[_,_,_,_,_,_,_]) sizeOf90 rfl rfl rfl rfl rfl rfl rfl)<|wN<|wR<|wm ?_;refine ws (lA (ps:=[_,_,_,_,_,_,_]) isAgg90 sizeOf90 rfl rfl rfl rfl) ?_;obtain ⟨y22,hy23,h⟩:=zH h;refine xO [(100,100),(101,101)] [] [100,101] (qd x20 v18 y22 hy23) call88<|wN<|wz (tl:=[(0,_),(11,_),(12,_),(13,_)]) (to:=[(100,_),(101,_),(1100,_)]) ?_;refine wR<|ws (LR.addW rfl rfl)<|wm ?_;refine wN ?_;exact ⟨((IntKind.i64.wrap (v17 + 1)),y22),(),h,sP⟩
 ·refine wZ ?_;cases h;exact EndsO.mk () (.inl rfl) (sO (tl:=[]) (to:=[(100,_),(101,_),(1100,_)]) rfl (.nil) (.cons rfl (by first | rfl | (congr 1;congr 2;first | (simp;done) | (simp;omega) | omega))<|.c2 rfl rfl rfl rfl<|.nil)) (.nil) rfl rfl

theorem xi (row1:List Int) (r0:List Int × List Int) (h:(zr row1).wp (· = r0)):PObj prog 24 [.ref 100 0] [(100,.cells 58 [.row 101 (row1.length)]),(101,.row 5 1 (List.map (eK .u8) row1))] [100] (.row 9 (r0.2.length)) (fun _:Unit=>[(100,.cells 58 [.row 101 (r0.1.length)]),(101,.row 5 1 (List.map (eK .u8) r0.1)),(9,.row 5 1 (List.map (eK .u8) r0.2))]):=by
 refine PObj.intro (sl:=[(0,_)]) func24 rfl ntmps24 rfl rfl rfl ?_;intro ctx hK pv;refine wQ<|wR<|ws (aR 5 1 rfl)<|wN<|wQ<|wQ<|wR<|wm ?_;refine ws (LR.eqlPtr underlying60 rfl)<|wN<|PWc.condF rfl<|wK<|wQ<|wR<|wm ?_;refine ws (LR.nilCheckRef rfl)<|ws (fR underlying58 rfl sizeOf22 (by decide) rfl rfl)<|ws (lD isAgg22 rfl rfl rfl) ?_;obtain ⟨hy2,h⟩:=zw h;refine ws (LR.appNilT (enc:=(eK .u8)) (R:=row1) YN underlying22 rfl (Src.rowT (enc:=(eK .u8)) (R:=row1) rfl rfl rfl) (fun _=>rfl) hy2 rfl rfl)<|wy (tl:=[(0,_),(3,_),(4,_),(5,_),(6,_),(7,_),(8,_),(9,_)]) (to:=[(9,_),(100,_),(101,_),(1100,_)]) ?_;refine wa ?_;refine wN<|wX ?_;cases h;exact EndsO.mk () (.inr rfl) (sO (tl:=[(2,_)]) (to:=[(100,_),(101,_),(9,_),(1100,_)]) rfl (.cons rfl (by first | rfl | (simp;done) | (congr 1;first | (simp;done) | (simp;omega) | omega))<|.nil) (.cons rfl (by first | rfl | (congr 1;congr 2;first | (simp;done) | (simp;omega) | omega))<|.c2 rfl rfl rfl rfl<|.cons rfl rfl<|.nil)) (.cons (.tmp rfl)<|.nil) rfl rfl


theorem YX (ctx_1:List PT) (nl2:Bool) (m3:List (DT × EV)) (nl4:Bool) (m5:List (DT × EV)) (r0:List Int) (h:(xd ctx_1 nl2 m3 nl4 m5).wp (· = r0)):PObj prog 16 [.ref 100 0] [(100,.cells 106 [.d (.sl (List.map PT.e ctx_1)),.mp 101,.mp 102]),(101,.mapH nl2 [.u16,.u64] true (yA DT.k EV.e m3)),(102,.mapH nl4 [.u16,.u64] true (yA DT.k EV.e m5))] [100,101,102] (.d (.sl (List.map (eK .u8) r0))) (fun _:Unit=>[(100,.cells 106 [.d (.sl (List.map PT.e ctx_1)),.mp 101,.mp 102]),(101,.mapH nl2 [.u16,.u64] true (yA DT.k EV.e m3)),(102,.mapH nl4 [.u16,.u64] true (yA DT.k EV.e m5))]):=by
 refine PObj.intro (sl:=[(0,_)]) func16 rfl ntmps16 rfl rfl rfl ?_;intro ctx hK pv;refine wQ<|wR<|ws (aR 5 1 rfl)<|wN<|wQ<|wR<|ws (LR.allocR (cs:=[_]) zeroValue58 rfl rfl rfl rfl)<|PWl.sub (Sub.ownNil (id:=3) (j:=0) (id':=30060) (e:=5) (k:=1) rfl rfl rfl rfl)<|wN ?_;refine wQ<|wz (tl:=[(0,_),(3,_)]) (to:=[(3,_),(100,_),(101,_),(102,_),(1100,_),(1101,_),(1102,_),(30060,_)]) ?_;refine wR<|wm ?_;obtain ⟨y6,hy7,h⟩:=zH h;refine ws (LR.callObjS [(100,100),(101,101),(102,102)] [] [100,101,102] [] [(100,.cells 106 [.d (.sl (List.map PT.e ctx_1)),.mp 101,.mp 102]),(101,.mapH nl2 [.u16,.u64] true (yA DT.k EV.e m3)),(102,.mapH nl4 [.u16,.u64] true (yA DT.k EV.e m5))] (vY ctx_1 nl2 m3 nl4 m5 y6 hy7) hK rfl call41 rfl (by first | rfl | (simp;done) | (simp [PV.nilD,PV.ren,rn];omega)) (by repeat' first | constructor | (congr 1;first | (simp;done) | (simp;omega) | omega)) (.nil) (.cons rfl<|.cons rfl<|.cons rfl<|.nil) (by repeat' first | constructor | (congr 1;first | (simp;done) | (simp;omega) | omega)) rfl rfl rfl rfl rfl rfl) ?_;refine wy (tl:=[(0,_),(3,_),(5,_)]) (to:=[(3,_),(100,_),(101,_),(102,_),(1100,_),(1101,_),(1102,_),(30060,_)]) ?_;obtain ⟨y8,hy9,h⟩:=zH h;refine xO [(100,3),(101,30060)] [] [100,101] (wO y6 ([]:List Int) y8 hy9) call47<|wN<|wQ<|wz (tl:=[(0,_),(3,_)]) (to:=[(3,_),(100,_),(101,_),(102,_),(1100,_),(1101,_),(1102,_),(30060,_)]) ?_;refine wR<|wm ?_;obtain ⟨y10,hy11,h⟩:=zH h;refine ws (LR.callObjS [(100,100),(101,101),(102,102),(14,8)] [] [100,101,102,14] [(14,.row 90 7 (List.map EV.e y10))] [(100,.cells 106 [.d (.sl (List.map PT.e ctx_1)),.mp 101,.mp 102]),(101,.mapH nl2 [.u16,.u64] true (yA DT.k EV.e m3)),(102,.mapH nl4 [.u16,.u64] true (yA DT.k EV.e m5))] (vZ ctx_1 nl2 m3 nl4 m5 y10 hy11) hK rfl call46 rfl (by first | rfl | (simp;done) | (simp [PV.nilD,PV.ren,rn];omega)) (by repeat' first | constructor | (congr 1;first | (simp;done) | (simp;omega) | omega)) (.cons rfl<|.nil) (.cons rfl<|.cons rfl<|.cons rfl<|.nil) (by repeat' first | constructor | (congr 1;first | (simp;done) | (simp;omega) | omega)) rfl rfl rfl rfl rfl rfl) ?_;refine wy (tl:=[(3,_),(8,_)]) (to:=[(3,_),(8,_),(100,_),(101,_),(102,_),(1100,_),(1101,_),(1102,_),(30060,_)]) ?_;obtain ⟨y12,hy13,h⟩:=zH h;refine PWl.frz [8] hK (.cons rfl<|.nil) rfl (by simp) ?_;refine xO [(100,3),(101,30060)] [] [100,101] (vz y10 y8 y12 hy13) call48<|wN<|wQ<|wz (tl:=[(3,_)]) (to:=[(3,_),(100,_),(101,_),(102,_),(1100,_),(1101,_),(1102,_),(30060,_)]) ?_;refine wR ?_;obtain ⟨y14,hy15,h⟩:=zH h;refine xO [(100,3),(101,30060),(9,10)] [] [100,101,9] (xi y12 y14 hy15) call24<|wy (tl:=[(10,_)]) (to:=[(10,_),(100,_),(101,_),(102,_),(1100,_),(1101,_),(1102,_)]) ?_;refine wa ?_;refine wN<|wX ?_;cases h;exact EndsO.mk () (.inr rfl) (Sub.trans (Sub.frz [2,10] hK rfl (by simp) (AllRow.get (.cons rfl<|.cons rfl<|.nil)))<|sP (tl:=[(2,_)]) (to:=[(100,_),(101,_),(102,_),(1100,_),(1101,_),(1102,_)])) (.cons (.tmp rfl)<|.nil) rfl rfl

theorem Wr  (r0:List PT) (h:(vt ).wp (· = r0)):PRow prog 41 [.d (.v (.pointer none))] 114 2 (List.map PT.e r0):=by
 refine PRow.intro (sl:=[(0,_)]) func41 rfl ntmps41 rfl rfl ?_;intro ctx hK;refine wQ<|wR<|ws (aR 114 2 rfl)<|wN<|wQ<|wQ<|wR<|wm ?_;refine ws (LR.eqlPtrN underlying40 rfl)<|wN<|PWc.condT rfl<|wQ<|wR<|wy (tl:=[(0,_),(3,_),(4,_)]) (to:=[]) ?_;refine ws (aR 114 2 rfl)<|wN<|wX ?_;cases h;exact ⟨.inr rfl,2,rfl,.inr ⟨2,_,rfl,(by first | (simp;done) | (simp;omega) | omega),rfl⟩⟩

theorem Ws  (r0:List EV) (h:(vu ).wp (· = r0)):PRow prog 46 [.d (.v (.pointer none))] 90 7 (List.map EV.e r0):=by
 refine PRow.intro (sl:=[(0,_)]) func46 rfl ntmps46 rfl rfl ?_;intro ctx hK;refine wQ<|wR<|ws (aR 90 7 rfl)<|wN<|wQ<|wQ<|wR<|wm ?_;refine ws (LR.eqlPtrN underlying40 rfl)<|wN<|PWc.condT rfl<|wQ<|wR<|wy (tl:=[(0,_),(3,_),(4,_)]) (to:=[]) ?_;refine ws (aR 90 7 rfl)<|wN<|wX ?_;cases h;exact ⟨.inr rfl,2,rfl,.inr ⟨2,_,rfl,(by first | (simp;done) | (simp;omega) | omega),rfl⟩⟩

theorem VJ  (r0:List Int) (h:(ww ).wp (· = r0)):PRow prog 16 [.d (.v (.pointer none))] 5 1 (List.map (eK .u8) r0):=by
 refine PRow.intro (sl:=[(0,_)]) func16 rfl ntmps16 rfl rfl ?_;intro ctx hK;refine wQ<|wR<|ws (aR 5 1 rfl)<|wN<|wQ<|wR<|ws (LR.allocR (cs:=[_]) zeroValue58 rfl rfl rfl rfl)<|PWl.sub (Sub.ownNil (id:=3) (j:=0) (id':=30060) (e:=5) (k:=1) rfl rfl rfl rfl)<|wN ?_;refine wQ<|wz (tl:=[(0,_),(3,_)]) (to:=[(3,_),(30060,_)]) ?_;refine wR<|wm ?_;obtain ⟨v1,hy2,h⟩:=zH h;refine ws (LR.rowN (Wr v1 hy2) rfl call41 rfl rfl rfl rfl) ?_;obtain ⟨y3,hy4,h⟩:=zH h;refine PWl.frz [5] hK (.cons rfl<|.nil) rfl (by simp) ?_;refine xO [(100,3),(101,30060)] [] [100,101] (wO v1 ([]:List Int) y3 hy4) call47<|wN<|wQ<|wz (tl:=[(0,_),(3,_)]) (to:=[(3,_),(30060,_)]) ?_;refine wR<|wm ?_;obtain ⟨v5,hy6,h⟩:=zH h;refine ws (LR.rowN (Ws v5 hy6) rfl call46 rfl rfl rfl rfl) ?_;obtain ⟨y7,hy8,h⟩:=zH h;refine PWl.frz [8] hK (.cons rfl<|.nil) rfl (by simp) ?_;refine xO [(100,3),(101,30060)] [] [100,101] (vz v5 y3 y7 hy8) call48<|wN<|wQ<|wz (tl:=[(3,_)]) (to:=[(3,_),(30060,_)]) ?_;refine wR ?_;obtain ⟨y9,hy10,h⟩:=zH h;refine xO [(100,3),(101,30060),(9,10)] [] [100,101,9] (xi y7 y9 hy10) call24<|wa ?_;refine wN<|wX ?_;cases h;exact ⟨.inr rfl,2,rfl,.inr ⟨10,_,rfl,(by simp),rfl⟩⟩

theorem jH  (r0:Bool) (h:(Xq ).wp (· = r0)):PFun prog 5 [] (.d (.v (.bool r0))):=by
 refine fI (sl:=[]) func5 rfl ntmps5 rfl rfl ?_;intro ctx hK;refine wQ<|wR<|wa ?_;refine wN<|wQ ?_;refine wJ (zG h) (fun (v1:Bool) (_:Unit)=>⟨10,[(0,.d (.v (.bool v1)))],[]⟩) (fun h=>?_) ?_
 ·refine wR ?_;obtain ⟨y2,hy3,h⟩:=zH h;refine xO [(2,1),(30041,20021),(30042,20022)] [] [2,30041,30042] (zAa y2 hy3) call28 ?_;obtain ⟨y4,hy5,h⟩:=zH h;refine ws (LR.callObjS [(100,1),(101,20021),(102,20022)] [] [100,101,102] [] [(100,.cells 106 [.d (.sl (List.map PT.e y2.1)),.mp 101,.mp 102]),(101,.mapH y2.2.1 [.u16,.u64] true (yA DT.k EV.e y2.2.2.1)),(102,.mapH y2.2.2.2.1 [.u16,.u64] true (yA DT.k EV.e y2.2.2.2.2))] (YX y2.1 y2.2.1 y2.2.2.1 y2.2.2.2.1 y2.2.2.2.2 y4 hy5) hK rfl call16 rfl (by first | rfl | (simp;done) | (simp [PV.nilD,PV.ren,rn];omega)) (by repeat' first | constructor | (congr 1;first | (simp;done) | (simp;omega) | omega)) (.nil) (.cons rfl<|.cons rfl<|.cons rfl<|.nil) (by repeat' first | constructor | (congr 1;first | (simp;done) | (simp;omega) | omega)) rfl rfl rfl rfl rfl rfl) ?_;refine wy (tl:=[(0,_),(2,_)]) (to:=[]) ?_;refine ws (LR.buildSliceD [.const (.int .u8 0),.const (.int .u8 0)] YN rfl rfl (.cons rfl rfl rfl<|.cons rfl rfl rfl<|.nil) (by decide) (by decide)) ?_;obtain ⟨v6,hy7,h⟩:=zH h;refine xN (jF y4 ([0,0]) v6 hy7) call15<|wm ?_;refine xG (d:=5) h rfl (fun _ h=>?_) (fun _ h=>?_)
  ·obtain ⟨v9,hy10,h⟩:=zH h;refine wt (LR.rowN (VJ v9 hy10) rfl call16 rfl rfl rfl rfl)<|wt (LR.buildSliceD [.const (.int .u8 0),.const (.int .u8 0)] YN rfl rfl (.cons rfl rfl rfl<|.cons rfl rfl rfl<|.nil) (by decide) (by decide)) ?_;obtain ⟨v11,hy12,h⟩:=zH h;refine PWl.frz [6] hK (.cons rfl<|.nil) rfl (by simp) ?_;refine wt (cN (jF v9 ([0,0]) v11 hy12) rfl call15 rfl rfl rfl rfl)<|ws (pT rfl rfl)<|wa ?_;refine wN ?_;exact ⟨v11,(),h,sP⟩
  ·refine wf<|wf<|wf<|ws (pF rfl rfl)<|wa ?_;refine wN ?_;exact ⟨false,(),h,sP⟩
 ·rintro v1 _ h;refine wX ?_;cases h;exact xT
end Go.Proofs


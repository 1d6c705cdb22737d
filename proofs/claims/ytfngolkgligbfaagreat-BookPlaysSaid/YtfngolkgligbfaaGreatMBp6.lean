/- Texts that the walks and laws lean on, side by side. -/
import Derived.Test.YtfngolkgligbfaaGreatMBp2
import Derived.Test.YtfngolkgligbfaaGreatMBp3
import Derived.Test.YtfngolkgligbfaaGreatMBp4
import Derived.Test.YtfngolkgligbfaaGreatMBp5
set_option linter.unusedVariables false
set_option linter.unusedSimpArgs false
namespace Go.Ep
open Go.RowKit
section
variable {ctx:Ctx} {s:PState}
theorem RelG.obj {g:Ghost} {a:Act} {w:World} (h1:RelG ctx g s a w) {id:Nat} {o o':Ob} (hl:look s.objs id = some o) (hob:ObRd w g (Free ctx g s.objs) id o'):RelG ctx g { s with objs:=putO id o' s.objs } a w:=by
 have hF:∀ b,Free ctx g s.objs b → Free ctx g (putO id o' s.objs) b:=fun b hb=>⟨hb.1,fun i o2 n ho hgi=>by
  rw [look_putO] at ho
  by_cases ei:i = id
  ·subst ei;exact hb.2 i _ n hl hgi
  ·rw [if_neg ei] at ho;exact hb.2 i o2 n ho hgi⟩
 have hst:Stays w w (Free ctx g s.objs):=⟨Nat.le_refl _,fun _ _ _=>rfl⟩
 have hlk:∀ i o2,look (putO id o' s.objs) i = some o2 → ∃ o3,look s.objs i = some o3:=fun i o2 ho=>by
  rw [look_putO] at ho
  by_cases ei:i = id
  ·subst ei;exact ⟨_,hl⟩
  ·rw [if_neg ei] at ho;exact ⟨_,ho⟩
 refine ⟨h1.defers,h1.size,fun i p hp=>(h1.slots i p hp).keep hst (fun b hb _=>hF b hb) (fun _ _=>rfl),fun i o2 ho=>?_,fun i i2 o2 o3 b n m ho ho2 hgi hgi2=>?_,fun i o2 b n ho hgi=>?_,h1.os,h1.tape,h1.output,h1.grows,h1.keep⟩
 ·rw [look_putO] at ho
  by_cases ei:i = id
  ·subst ei;rw [if_pos rfl] at ho
   cases ho
   exact hob.keep hst (fun b hb _=>hF b hb) (fun _ _ _=>rfl) rfl (fun _ _=>rfl)
  ·rw [if_neg ei] at ho;exact (h1.objs i o2 ho).keep hst (fun b hb _=>hF b hb) (fun _ _ _=>rfl) rfl (fun _ _=>rfl)
 ·obtain ⟨o4,e4⟩:=hlk i o2 ho;obtain ⟨o5,e5⟩:=hlk i2 o3 ho2;exact h1.inj i i2 o4 o5 b n m e4 e5 hgi hgi2
 ·obtain ⟨o4,e4⟩:=hlk i o2 ho;exact h1.own i o4 b n e4 hgi
variable {id:Nat} {nl:Bool} {ks:List IntKind} {ag:Bool} {m:List (List Int × List DV)} {bs:List Nat} {ck:Nat}
theorem Sub.nToH (hl:look s.objs id = some (.mapN nl ks ag m bs ck)):Sub ctx s { s with objs:=putO id (.mapH nl ks ag m) s.objs }:=
 Sub.obj hl fun w g S h=>by
  cases h with
  | mapNil _ _ _ h=>exact .mapHNil _ _ h
  | mapN _ _ _ _ _ blk n es h hh hm=>exact .mapH _ _ _ _ _ blk n es h hh hm
theorem Sub.toH (hl:look s.objs id = some (.map ks ag m bs ck)):Sub ctx s { s with objs:=putO id (.mapH false ks ag m) s.objs }:=
 Sub.obj hl fun w g S h=>by
  cases h with
  | map _ _ _ _ _ blk n es h hh hm=>exact .mapH _ _ _ _ _ blk n es h hh hm
theorem Sub.hT (hl:look s.objs id = some (.mapH nl ks ag m)) (hn:nl = true):Sub ctx s { s with objs:=putO id (.mapN true ks ag m [] 0) s.objs }:=
 Sub.obj hl fun w g S h=>by
  subst hn
  cases h with
  | mapHNil _ _ h=>exact .mapNil _ _ _ h
theorem openH (hl:look s.objs id = some (.mapH nl ks ag m)) {a:Act} {w:World} (hr:Rel ctx s a w):∃ bs ck,Rel ctx { s with objs:=putO id (.mapN nl ks ag m bs ck) s.objs } a w:=by
 obtain ⟨g,hg⟩:=hr;have h:=hg.objs id _ hl
 cases h with
 | mapHNil _ _ h=>exact ⟨[],0,g,hg.obj hl (.mapNil _ _ _ h)⟩
 | mapH _ _ _ bs ck blk n es h hh hm=>exact ⟨bs,ck,g,hg.obj hl (.mapN _ _ _ _ _ blk n es h hh hm)⟩
variable {P:Program} {Q:PQ}
theorem PWc.openH {c:Code} (hl:look s.objs id = some (.mapH nl ks ag m)) (h:∀ bs ck,PWc P ctx c Q { s with objs:=putO id (.mapN nl ks ag m bs ck) s.objs }):PWc P ctx c Q s:=fun a w hr=>by
 obtain ⟨bs,ck,h2⟩:=Go.Ep.openH hl hr;exact h bs ck a w h2
theorem PWl.openH {ops:Array Oper} {l:List Oper} (hl:look s.objs id = some (.mapH nl ks ag m)) (h:∀ bs ck,PWl P ctx ops Q l { s with objs:=putO id (.mapN nl ks ag m bs ck) s.objs }):PWl P ctx ops Q l s:=fun a w hr=>by
 obtain ⟨bs,ck,h2⟩:=Go.Ep.openH hl hr;exact h bs ck a w h2
theorem look_put2 (id:Nat) (o o':Ob) (l:List (Nat × Ob)) (i:Nat):look (putO id o (putO id o' l)) i = look (putO id o l) i:=by
 rw [look_putO,look_putO,look_putO]
 by_cases h:i = id <;> simp [h]
theorem Sub.same {t:PState} (hn:s.n = t.n) (hs:s.sl = t.sl) (ho:∀ i,look s.objs i = look t.objs i):Sub ctx s t:=
 Sub.drop hn (fun i p hp=>by rw [at_eq] at hp ⊢;rw [hn,hs];exact hp) (fun i o h=>by rw [ho];exact h)
theorem PWc.hF {c:Code} (hl:look s.objs id = some (.mapH nl ks ag m)) (hn:nl = false) (h:∀ bs ck,PWc P ctx c Q { s with objs:=putO id (.map ks ag m bs ck) s.objs }):PWc P ctx c Q s:=
 PWc.openH hl fun bs ck=>PWc.sub (Sub.mapF (id:=id) (by show look (putO id _ _) id = _;rw [look_putO,if_pos rfl]) hn) (PWc.sub (Sub.same (t:={ s with objs:=putO id (.map ks ag m bs ck) s.objs }) rfl rfl fun i=>by
  show look (putO id _ (putO id _ _)) i = look (putO id _ _) i;rw [look_put2]) (h bs ck))
theorem Local.openH {o:Oper} {t:PState} (hl:look s.objs id = some (.mapH nl ks ag m)) (h:∀ bs ck,Local P ctx o { s with objs:=putO id (.mapN nl ks ag m bs ck) s.objs } t):Local P ctx o s t:=fun a w hr K Qx hK=>by
 obtain ⟨bs,ck,h2⟩:=Go.Ep.openH hl hr;exact h bs ck a w h2 K Qx hK
theorem closeP {dst:Option Nat} {p:PV} {m':List (List Int × List DV)} (hl:look s.objs id = some (.mapH nl ks ag m')):Sub ctx (({ s with objs:=putO id (.mapN nl ks ag m' bs ck) s.objs }:PState).putD dst p) (s.putD dst p):=by
 refine Sub.trans (Sub.nToH (id:=id) (nl:=nl) (ks:=ks) (ag:=ag) (m:=m') (bs:=bs) (ck:=ck) ?_) (Sub.same ?_ ?_ fun i=>?_)
 ·rw [putD_objs];show look (putO id _ _) id = _;rw [look_putO,if_pos rfl]
 ·cases dst <;> rfl
 ·cases dst <;> rfl
 ·rw [putD_objs];show look (putO id _ _) i = _;rw [putD_objs];show look (putO id _ (putO id _ _)) i = _;rw [look_put2,look_putO]
  by_cases h:i = id
  ·rw [if_pos h,h,hl]
  ·rw [if_neg h]
theorem ev_objs {x:Operand} (l:List (Nat × Ob)):({ s with objs:=l }:PState).ev x = s.ev x:=by cases x <;> rfl
end
section
variable {P:Program} {ctx:Ctx} {Q:PQ} {s:PState}
variable {dst:Option Tmp} {ty:TypeId} {pos:String} {after:Array Edge} {gd:Option (Nat × Bool)}
variable {κ ν:Type} [DecidableEq κ] {eK:κ → List Int} {eV:ν → List DV} {m:List (κ × ν)} {q:κ} {zv:ν} (inj:∀ a b,eK a = eK b → a = b)
variable {x kx:Operand} {t kt et:TypeId} {ks:List IntKind} {ag:Bool} {z:Value} {p kp:PV} {id:Nat} {nl:Bool} {bs:List Nat} {ck:Nat}
section
variable (hu:P.underlying t = some (.map kt et)) (K:KeyOK P kt ks) (hz:∀ w,(zeroValue et).run P w = .ok z w) (hzr:∀ (w:World) (g:Ghost) (S:Nat → Prop),Rd w g S (elP ag (eV zv)) z) (hk:s.ev kx = some kp) (hkp:kp = keyP ks (eK q)) (hn:(eK q).length = ks.length) (hp:elP ag (eV (AL.getZ m q zv)) = p)
include inj hu K hz hzr hk hkp hn hp
theorem LR.getOkH (hx:s.ev x = some (.mp id)) (hl:look s.objs id = some (.mapH nl ks ag (encM eK eV m))):Local P ctx ⟨dst,.lookup t x kx true,ty,pos,after,gd⟩ s (s.putD dst (.tup [p,.d (.v (.bool (AL.has m q)))])):=
 Local.openH hl fun bs ck=>(LR.getOkN inj hu K hz hzr (by rw [ev_objs];exact hk) hkp hn hp (by rw [ev_objs];exact hx) (by show look (putO id _ _) id = _;rw [look_putO,if_pos rfl])).post (closeP hl)
end
include inj in
theorem LR.delH {ats:Array TypeId} (hu:P.underlying t = some (.map kt et)) (K:KeyOK P kt ks) (hx:s.ev x = some (.mp id)) (hl:look s.objs id = some (.mapH nl ks ag (encM eK eV m))) (hk:s.ev kx = some kp) (hkp:kp = keyP ks (eK q)) (hn:(eK q).length = ks.length) (hats:ats[0]? = some t) :
  Local P ctx ⟨dst,.call ⟨.builtin .delete,#[x,kx],ats⟩,ty,pos,after,gd⟩ s ((s.setO id (.mapH nl ks ag (encM eK eV (AL.del m q)))).putD dst (.tup [])):=
 Local.openH hl fun bs ck=>(LR.delN inj hu K (by rw [ev_objs];exact hx) (by show look (putO id _ _) id = _;rw [look_putO,if_pos rfl]) (by rw [ev_objs];exact hk) hkp hn hats).post
  (Sub.trans (Sub.nToH (id:=id) (by rw [putD_objs];show look (putO id _ _) id = _;rw [look_putO,if_pos rfl]))
   (Sub.same (by cases dst <;> rfl) (by cases dst <;> rfl) fun i=>by
    cases dst <;> (show look (putO id _ (putO id _ (putO id _ _))) i = look (putO id _ _) i;rw [look_put2,look_putO,look_putO,look_putO];by_cases h:i = id <;> simp [h])))
include inj in
theorem LR.setInH {vx:Operand} {v:ν} {pv:PV} (hu:P.underlying t = some (.map kt et)) (K:KeyOK P kt ks) (hx:s.ev x = some (.mp id)) (hl:look s.objs id = some (.mapH nl ks ag (encM eK eV m)))
  (hk:s.ev kx = some kp) (hkp:kp = keyP ks (eK q)) (hn:(eK q).length = ks.length) (hv:s.ev vx = some pv) (hq:elP ag (eV v) = pv) (h1:ag = false → (eV v).length = 1) (hin:AL.has m q = true) :
  Local P ctx ⟨none,.mapUpdate t x kx vx,ty,pos,after,gd⟩ s (s.setO id (.mapH nl ks ag (encM eK eV (AL.set m q v)))):=by
 cases nl with
 | true=>
  rintro a w ⟨g,hg⟩;exfalso;have h:=hg.objs id _ hl
  generalize hM:encM eK eV m = M at h
  cases h with
  | mapHNil=>
   cases m with
   | nil=>cases hin
   | cons y r=>simp [encM] at hM
 | false=>
  refine Local.openH hl fun bs ck=>Local.pre (Sub.trans (Sub.mapF (id:=id) (by show look (putO id _ _) id = _;rw [look_putO,if_pos rfl]) rfl) (Sub.same (t:={ s with objs:=putO id (.map ks ag (encM eK eV m) bs ck) s.objs }) rfl rfl fun i=>by
   show look (putO id _ (putO id _ _)) i = look (putO id _ _) i;rw [look_put2])) ((LR.setIn (m:=m) (bs:=bs) (ck:=ck) (id:=id) inj hu K (by rw [ev_objs];exact hx) (by show look (putO id _ _) id = _;rw [look_putO,if_pos rfl]) (by rw [ev_objs];exact hk) hkp hn (by rw [ev_objs];exact hv) hq h1 hin).post
   (Sub.trans (Sub.toH (id:=id) (by show look (putO id _ _) id = _;rw [look_putO,if_pos rfl])) (Sub.same rfl rfl fun i=>by
    show look (putO id _ (putO id _ (putO id _ _))) i = look (putO id _ _) i;rw [look_put2,look_putO,look_putO,look_putO]
    by_cases h:i = id <;> simp [h])))
theorem LR.eqlH {mm:List (List Int × List DV)} {t t' kt et:TypeId} (hu:P.underlying t = some (.map kt et)) (hx:s.ev x = some (.mp id)) (hl:look s.objs id = some (.mapH nl ks ag mm)) :
  Local P ctx ⟨dst,.binOp .eql t x (.const (.map none)) t',ty,pos,after,gd⟩ s (s.putD dst (.d (.v (.bool nl)))):=
 Local.openH hl fun bs ck=>(LR.eqlMapN hu (by rw [ev_objs];exact hx) (by show look (putO id _ _) id = _;rw [look_putO,if_pos rfl])).post (closeP hl)
end
inductive JCs (nm:List Nat):List PV → List PV → Prop
 | nil:JCs nm [] []
 | keep {p:PV} {cs cs':List PV} (h:p.named nm = true) (t:JCs nm cs cs'):JCs nm (p :: cs) (p :: cs')
 | junk {p:PV} {cs cs':List PV} (t:JCs nm cs cs'):JCs nm (p :: cs) (.junk :: cs')
inductive JOb (nm:List Nat):Ob → Ob → Prop
 | same {o:Ob} (h:o.named nm = true):JOb nm o o
 | cells {T:TypeId} {cs cs':List PV} (h:JCs nm cs cs'):JOb nm (.cells T cs) (.cells T cs')
inductive JObs (nm:List Nat):List (Nat × Ob) → List (Nat × Ob) → Prop
 | nil:JObs nm [] []
 | cons {k:Nat} {o o':Ob} {F F':List (Nat × Ob)} (h:JOb nm o o') (t:JObs nm F F'):JObs nm ((k,o) :: F) ((k,o') :: F')
theorem JCs.len {nm:List Nat} {cs cs':List PV} (h:JCs nm cs cs'):cs'.length = cs.length:=by
 induction h with
 | nil=>rfl
 | keep _ _ ih=>simp [ih]
 | junk _ ih=>simp [ih]
theorem JCs.get {nm:List Nat} {cs cs':List PV} (h:JCs nm cs cs'):∀ (i:Nat) (p:PV),cs'[i]? = some p → p = .junk ∨ cs[i]? = some p:=by
 induction h with
 | nil=>intro i p h;simp at h
 | keep _ _ ih=>
  intro i p h
  cases i with
  | zero=>exact .inr (by simpa using h)
  | succ i=>simpa using ih i p (by simpa using h)
 | junk _ ih=>
  intro i p h
  cases i with
  | zero=>exact .inl (by simpa using h.symm)
  | succ i=>simpa using ih i p (by simpa using h)
theorem JCs.named {nm:List Nat} {cs cs':List PV} (h:JCs nm cs cs'):PV.named.namedL nm cs' = true:=by
 induction h with
 | nil=>rfl
 | keep h _ ih=>simp only [PV.named.namedL,h,ih,Bool.and_self]
 | junk _ ih=>simp only [PV.named.namedL,PV.named,ih,Bool.and_self]
theorem JOb.named {nm:List Nat} {o o':Ob} (h:JOb nm o o'):o'.named nm = true:=by
 cases h with
 | same h=>exact h
 | cells h=>exact h.named
theorem JOb.rd {nm:List Nat} {o o':Ob} (h:JOb nm o o') {w:World} {g:Ghost} {S:Nat → Prop} {id:Nat} (hr:ObRd w g S id o):ObRd w g S id o':=by
 cases h with
 | same=>exact hr
 | cells h=>
  cases hr with
  | cells _ _ blk n us hgi hh hl hr' h1=>
   refine .cells _ _ blk n us hgi hh (h.len.trans hl) (fun i p u hp hu=>?_) h1;rcases h.get i p hp with rfl | h2
   ·exact .junk u
   ·exact hr' i p u h2 hu
theorem JObs.look {nm:List Nat} {F F':List (Nat × Ob)} (h:JObs nm F F'):∀ (id:Nat) (o':Ob),Go.Ep.look F' id = some o' → ∃ o,Go.Ep.look F id = some o ∧ JOb nm o o':=by
 induction h with
 | nil=>intro id o' h;simp [Go.Ep.look] at h
 | cons h _ ih=>
  intro id o' hl;simp only [Go.Ep.look] at hl ⊢
  split at hl
  ·rename_i e;cases hl;exact ⟨_,by rw [if_pos e],h⟩
  ·rename_i e;rw [if_neg e];exact ih id o' hl
theorem JObs.keys {nm:List Nat} {F F':List (Nat × Ob)} (h:JObs nm F F'):F'.map (·.1) = F.map (·.1):=by
 induction h with
 | nil=>rfl
 | cons _ _ ih=>simp [ih]
theorem look_nkey {l:List (Nat × Ob)} {i:Nat} (h:i ∉ l.map (·.1)):look l i = none:=by
 cases hl:look l i with
 | none=>rfl
 | some o=>exact absurd (look_key hl) h
theorem OwnB.app {g:Ghost} {a b:List (Nat × Ob)} {k:Nat} (h:OwnB g (a ++ b) k):OwnB g a k ∨ OwnB g b k:=by
 obtain ⟨id,o,n,h1,h2⟩:=h;rw [look_append] at h1
 cases hl:look a id with
 | none=>rw [hl,Option.none_or] at h1;exact .inr ⟨id,o,n,h1,h2⟩
 | some q=>rw [hl,Option.some_or] at h1;exact .inl ⟨id,q,n,hl,h2⟩
theorem PObj.frame {G:Type} {P:Program} {f:FuncId} {ps:List PV} {os:List (Nat × Ob)} {pins ks:List Nat} {r:PV} {os':G → List (Nat × Ob)} (F F':List (Nat × Ob)) (hc:PObj P f ps os pins r os')
  (hks:∀ gh,(os' gh).map (·.1) = ks) (hcl:∀ gh,(os' gh).all (fun x=>x.2.named ks) = true) (hr:r.named ks = true) (hd:((F.map (·.1)).all fun k=>!inL (os.map (·.1)) k && !inL ks k) = true) (hj:JObs (pins ++ F.map (·.1)) F F') :
  PObj P f ps (os ++ F) (pins ++ F.map (·.1)) r (fun gh=>os' gh ++ F'):=by
 intro w g S vs hlen hreal hobs hdis;have hd1:∀ k ∈ F.map (·.1),k ∉ os.map (·.1) ∧ k ∉ ks:=fun k hk=>by
  have h:=List.all_eq_true.1 hd k hk;rw [Bool.and_eq_true,Bool.not_eq_true',Bool.not_eq_true',inL_false,inL_false] at h;exact h
 have lookR:∀ {id o},look F id = some o → look (os ++ F) id = some o:=fun {id o} h=>by
  rw [look_append,look_nkey (hd1 id (look_key h)).1,Option.none_or];exact h
 have ownL:∀ {b},OwnB g os b → OwnB g (os ++ F) b:=fun ⟨id,o,n,h1,h2⟩=>⟨id,o,n,look_left h1,h2⟩
 have ownR:∀ {b},OwnB g F b → OwnB g (os ++ F) b:=fun ⟨id,o,n,h1,h2⟩=>⟨id,o,n,lookR h1,h2⟩
 have hnF:∀ {id o b n},look F id = some o → g id = some (b,n) → ¬ OwnB g os b:=fun {id o b n} h1 h2 ⟨id2,o2,n2,h3,h4⟩=>by
  have:=hobs.inj id id2 o o2 b n n2 (lookR h1) (look_left h3) h2 h4;subst this;exact (hd1 id (look_key h1)).1 (look_key h3)
 refine (hc w g S vs hlen hreal ⟨fun id o h=>hobs.rd id o (look_left h),fun i j oi oj b n m hi hj=>hobs.inj i j oi oj b n m (look_left hi) (look_left hj),fun id o b n h=>hobs.lt id o b n (look_left h)⟩ (fun b hb h=>hdis b hb (ownL h))).mono fun e w' ⟨u,g',gh,he,hpost⟩=>?_
 have hks':=hks gh;have hcl':=hcl gh
 let G':Ghost:=fun j=>if inL (F.map (·.1)) j then g j else g' j
 refine ⟨u,G',gh,he,?_⟩;show ObPost w g S (os ++ F) (pins ++ F.map (·.1)) r (os' gh ++ F') w' G' u
 generalize os' gh = os1 at hpost hks' hcl' ⊢
 have gF:∀ {j},j ∈ F.map (·.1) → G' j = g j:=fun {j} h=>by simp only [G',inL_iff.2 h,if_true]
 have gN:∀ {j},j ∉ F.map (·.1) → G' j = g' j:=fun {j} h=>by simp only [G',inL_false.2 h,Bool.false_eq_true,if_false]
 have gK:∀ {j},j ∈ ks → G' j = g' j:=fun {j} h=>gN fun h2=>(hd1 j h2).2 h
 have gP:∀ {j},j ∈ pins ++ F.map (·.1) → G' j = g j:=fun {j} h=>by
  by_cases hf:j ∈ F.map (·.1)
  ·exact gF hf
  ·rw [gN hf];exact hpost.pin j ((List.mem_append.1 h).resolve_right hf)
 have split:∀ {id o},look (os1 ++ F') id = some o → (look os1 id = some o ∧ id ∈ ks) ∨ ∃ o0,look F id = some o0 ∧ JOb (pins ++ F.map (·.1)) o0 o:=fun {id o} h=>by
  rw [look_append] at h
  cases hl:look os1 id with
  | none=>rw [hl,Option.none_or] at h;exact .inr (hj.look id o h)
  | some q=>rw [hl,Option.some_or] at h;cases h;exact .inl ⟨rfl,hks' ▸ look_key hl⟩
 have hA:∀ b,After w g S os g' os1 b → After w g S (os ++ F) G' (os1 ++ F') b:=fun b ⟨h1,h2⟩=>⟨by
  rcases h1 with h1 | h1 | h1
  ·exact .inl h1
  ·exact .inr (.inl (ownL h1))
  ·exact .inr (.inr h1),fun ⟨id,o,n,hl,hgi⟩=>by
  rcases split hl with ⟨h3,h4⟩ | ⟨o0,h3,h4⟩
  ·rw [gK h4] at hgi;exact h2 ⟨id,o,n,h3,hgi⟩
  ·rw [gF (look_key h3)] at hgi;rcases h1 with h1 | h1 | h1
   ·exact hdis b h1 ⟨id,o0,n,lookR h3,hgi⟩
   ·exact hnF h3 hgi h1
   ·have:=hobs.lt id o0 b n (lookR h3) hgi;omega⟩
 have hS:∀ b,S b → b < w.heap.size → After w g S (os ++ F) G' (os1 ++ F') b:=fun b hb hlt=>⟨.inl hb,fun ⟨id,o,n,hl,hgi⟩=>by
  rcases split hl with ⟨h3,h4⟩ | ⟨o0,h3,h4⟩
  ·rw [gK h4] at hgi;rcases hpost.own b ⟨id,o,n,h3,hgi⟩ with h5 | h5
   ·exact hdis b hb (ownL h5)
   ·omega
  ·rw [gF (look_key h3)] at hgi;exact hdis b hb ⟨id,o0,n,lookR h3,hgi⟩⟩
 have hst:Stays w w' S:=⟨hpost.grows,fun b hb hlt=>hpost.keep b hlt fun h=>hdis b hb (ownL h)⟩
 have hst':Stays w' w' (After w g S os g' os1):=⟨Nat.le_refl _,fun _ _ _=>rfl⟩
 refine ⟨hpost.eos,hpost.tape,hpost.output,hpost.grows,fun k hk h=>hpost.keep k hk fun h2=>h (ownL h2),fun b ⟨id,o,n,hl,hgi⟩=>?_,fun id h=>gP h,?_,⟨fun id o hl=>?_,fun i j oi oj b n m hi hj' hgi hgj=>?_,fun id o b n hl hgi=>?_⟩⟩
 ·rcases split hl with ⟨h3,h4⟩ | ⟨o0,h3,h4⟩
  ·rw [gK h4] at hgi;exact (hpost.own b ⟨id,o,n,h3,hgi⟩).imp ownL (fun h=>h)
  ·rw [gF (look_key h3)] at hgi;exact .inl (ownR ⟨id,o0,n,h3,hgi⟩)
 ·exact hpost.res.keep hst' (fun b hb _=>hA b hb) fun j hjj=>gK (PV.named_has hr hjj)
 ·rcases split hl with ⟨h3,h4⟩ | ⟨o0,h3,h4⟩
  ·have hn:=(List.all_eq_true.1 hcl') _ (look_mem h3);exact (hpost.obs.rd id o h3).keep hst' (fun b hb _=>hA b hb) (fun _ _ _=>rfl) (gK h4) fun j hjj=>gK (Ob.named_has hn hjj)
  ·exact (h4.rd (hobs.rd id o0 (lookR h3))).keep hst hS (fun b n hgi=>hpost.keep b (hobs.lt id o0 b n (lookR h3) hgi) (hnF h3 hgi)) (gF (look_key h3)) fun j hjj=>gP (Ob.named_has h4.named hjj)
 ·rcases split hi with ⟨h3,h4⟩ | ⟨o0,h3,h4⟩ <;> rcases split hj' with ⟨h5,h6⟩ | ⟨o2,h5,h6⟩
  ·rw [gK h4] at hgi;rw [gK h6] at hgj;exact hpost.obs.inj i j oi oj b n m h3 h5 hgi hgj
  ·rw [gK h4] at hgi;rw [gF (look_key h5)] at hgj;exfalso;rcases hpost.own b ⟨i,oi,n,h3,hgi⟩ with h7 | h7
   ·exact hnF h5 hgj h7
   ·have:=hobs.lt j o2 b m (lookR h5) hgj;omega
  ·rw [gF (look_key h3)] at hgi;rw [gK h6] at hgj;exfalso;rcases hpost.own b ⟨j,oj,m,h5,hgj⟩ with h7 | h7
   ·exact hnF h3 hgi h7
   ·have:=hobs.lt i o0 b n (lookR h3) hgi;omega
  ·rw [gF (look_key h3)] at hgi;rw [gF (look_key h5)] at hgj;exact hobs.inj i j o0 o2 b n m (lookR h3) (lookR h5) hgi hgj
 ·rcases split hl with ⟨h3,h4⟩ | ⟨o0,h3,h4⟩
  ·rw [gK h4] at hgi;exact hpost.obs.lt id o b n h3 hgi
  ·rw [gF (look_key h3)] at hgi;exact Nat.lt_of_lt_of_le (hobs.lt id o0 b n (lookR h3) hgi) hpost.grows
section
variable {ctx:Ctx} {s:PState}
inductive RSl (s:PState) (ρ:List (Nat × Nat)):List (Nat × PV) → Prop
 | nil:RSl s ρ []
 | cons {i:Nat} {p:PV} {r:List (Nat × PV)} (h:s.at i = some (p.ren ρ)) (t:RSl s ρ r):RSl s ρ ((i,p) :: r)
theorem RSl.get {ρ:List (Nat × Nat)} {l:List (Nat × PV)} (h:RSl s ρ l):∀ i p,getS l i = some p → s.at i = some (p.ren ρ):=by
 induction h with
 | nil=>intro i p h;simp [getS] at h
 | cons h _ ih=>
  intro i p hl;rw [getS_cons] at hl
  split at hl
  ·rename_i e;subst e;cases hl;exact h
  ·exact ih i p hl
def injR (ρ:List (Nat × Nat)) (ks:List Nat):Bool:=ks.all fun i=>ks.all fun j=>Nat.beq i j || !Nat.beq (rn ρ i) (rn ρ j)
theorem Sub.rnm (ρ:List (Nat × Nat)) {n:Nat} {tl:List (Nat × PV)} {to:List (Nat × Ob)} (hn:s.n = n) (hs:RSl s ρ tl) (ho:AllOb s ρ to) (hi:injR ρ (to.map (·.1)) = true):Sub ctx s ⟨n,tl,to⟩:=by
 rintro a w ⟨g,h⟩;have hlo:=ho.get;have hF:∀ b,Free ctx g s.objs b → Free ctx (fun i=>g (rn ρ i)) to b:=fun b hb=>⟨hb.1,fun id o n h1 h2=>hb.2 _ _ n (hlo id o h1) h2⟩
 have hst:Stays w w (Free ctx g s.objs):=⟨Nat.le_refl _,fun _ _ _=>rfl⟩
 have hinj:∀ i j,i ∈ to.map (·.1) → j ∈ to.map (·.1) → rn ρ i = rn ρ j → i = j:=fun i j h1 h2 e=>by
  have h3:=List.all_eq_true.1 (List.all_eq_true.1 hi i h1) j h2;rw [Bool.or_eq_true,Bool.not_eq_true'] at h3;rcases h3 with h3 | h3
  ·exact Nat.eq_of_beq_eq_true h3
  ·rw [e,Nat.beq_refl] at h3;cases h3
 refine ⟨fun i=>g (rn ρ i),h.defers,by rw [h.size,hn],fun i p hp=>?_,fun id o hl=>?_,fun i j oi oj b n m h1 h2 hgi hgj=>?_,fun id o b n h1 hgi=>?_,h.os,h.tape,h.output,h.grows,h.keep⟩
 ·have h1:=hs.get i p (at_get hp);exact ((h.slots i _ h1).unren rfl).keep hst (fun b hb _=>hF b hb) (fun _ _=>rfl)
 ·exact ((h.objs _ _ (hlo id o hl)).unren rfl rfl).keep hst (fun b hb _=>hF b hb) (fun _ _ _=>rfl) rfl (fun _ _=>rfl)
 ·exact hinj i j (look_key h1) (look_key h2) (h.inj _ _ _ _ b n m (hlo i oi h1) (hlo j oj h2) hgi hgj)
 ·exact h.own _ _ b n (hlo id o h1) hgi
end
theorem PObj.dropRow {G:Type} {P:Program} {f:FuncId} {ps:List PV} {os:List (Nat × Ob)} {pins:List Nat} {id n k:Nat} {e:TypeId} {l:List (List DV)} {os' os1:G → List (Nat × Ob)} (hc:PObj P f ps os pins (.row id n) os') (hos:∀ gh,os' gh = os1 gh ++ [(id,.row e k l)]) (hn:n = l.length) (hk:∀ gh,(os1 gh).all (fun x=>!Nat.beq x.1 id) = true) :
  PObj P f ps os pins (.d (.sl l)) os1:=by
 intro w g S vs hlen hreal hobs hdis;refine (hc w g S vs hlen hreal hobs hdis).mono fun en w' ⟨u,g',gh,he,hpost⟩=>?_
 refine ⟨u,g',gh,he,?_⟩;rw [hos gh] at hpost;have hk':=hk gh
 generalize os1 gh = o1 at hpost hk' ⊢
 have hne:∀ {i o},look o1 i = some o → i ≠ id:=fun {i o} h e=>by
  have:=List.all_eq_true.1 hk' _ (look_mem h);subst e;simp at this
 have hid:look (o1 ++ [(id,.row e k l)]) id = some (.row e k l):=by
  rw [look_append]
  cases h:look o1 id with
  | none=>simp [look]
  | some o=>exact absurd rfl (hne h)
 have ownL:∀ {b},OwnB g' o1 b → OwnB g' (o1 ++ [(id,.row e k l)]) b:=fun ⟨i,o,m,h1,h2⟩=>⟨i,o,m,look_left h1,h2⟩
 have hA:∀ b,After w g S os g' (o1 ++ [(id,.row e k l)]) b → After w g S os g' o1 b:=fun b ⟨h1,h2⟩=>⟨h1,fun h=>h2 (ownL h)⟩
 have hst:Stays w' w' (After w g S os g' (o1 ++ [(id,.row e k l)])):=⟨Nat.le_refl _,fun _ _ _=>rfl⟩
 refine ⟨hpost.eos,hpost.tape,hpost.output,hpost.grows,hpost.keep,fun b h=>hpost.own b (ownL h),hpost.pin,?_,⟨fun i o h=>(hpost.obs.rd i o (look_left h)).keep hst (fun b hb _=>hA b hb) (fun _ _ _=>rfl) rfl (fun _ _=>rfl),fun i j oi oj b n m hi hj=>hpost.obs.inj i j oi oj b n m (look_left hi) (look_left hj),fun i o b n h=>hpost.obs.lt i o b n (look_left h)⟩⟩;have hr:=hpost.res;have ho:=hpost.obs.rd id _ hid
 generalize u = v at hr
 cases ho with
 | rowNil _ _ hgn=>
  cases hr with
  | row _ _ blk cap hgi=>rw [hgn] at hgi;cases hgi
  | rowNil=>exact .d (.nil none 0 (Nat.zero_le _) (fun _=>rfl))
 | row _ _ _ blk' cap' cur hgi hh hlc hcap hcs hkk hr'=>
  cases hr with
  | rowNil _ hgn=>rw [hgn] at hgi;cases hgi
  | row _ _ blk cap hgi'=>
   rw [hgi] at hgi'
   cases hgi'
   subst hn;have hlt:=hpost.obs.lt id _ blk' cap' hid hgi;have hfree:After w g S os g' o1 blk':=⟨.inr (hpost.own blk' ⟨id,_,cap',hid,hgi⟩),fun ⟨i,o,m,h1,h2⟩=>hne h1 (hpost.obs.inj i id o _ blk' m cap' (look_left h1) hid h2 hgi)⟩
   refine .d (.sl l blk' 0 cap' k (fun i j=>cur.getD (i * k + j) undef) hlc hcap hfree hlt hkk ?_ ?_)
   ·intro i j hi hj;have hlt:i * k + j < cur.length:=by rw [hcs];exact idx_lt (by omega) hj
    rw [cell_of_heap hh];simp [hlt]
   ·intro i cs j x hi hx;obtain ⟨u,hu,hd⟩:=hr' i cs j x hi hx;have e:cur.getD (i * k + j) undef = u:=by simp [List.getD,hu]
    show DRd w' _ x (cur.getD (i * k + j) undef);rw [e];exact hd.keep hst (fun b hb _=>hA b hb)
inductive LookIn (os':List (Nat × Ob)):List (Nat × Ob) → Prop
 | nil:LookIn os' []
 | cons {i:Nat} {o:Ob} {r:List (Nat × Ob)} (h:Go.Ep.look os' i = some o) (t:LookIn os' r):LookIn os' ((i,o) :: r)
theorem LookIn.get {os' l:List (Nat × Ob)} (h:LookIn os' l):∀ i o,Go.Ep.look l i = some o → Go.Ep.look os' i = some o:=by
 induction h with
 | nil=>intro i o h;simp [Go.Ep.look] at h
 | cons h _ ih=>
  intro j o2 hl;simp only [Go.Ep.look] at hl
  split at hl
  ·rename_i e;subst e;cases hl;exact h
  ·exact ih j o2 hl
theorem lookF {ρ:List (Nat × Nat)} {acc:List (Nat × Ob)} {i:Nat} {o:Ob}:∀ {l:List (Nat × Ob)},look l i = some o → (∀ j ∈ l.map (·.1),rn ρ j = rn ρ i → j = i) → look (l.foldr (fun x l=>putO (rn ρ x.1) (x.2.ren ρ) l) acc) (rn ρ i) = some (o.ren ρ)
 | [],h,_=>by simp [look] at h
 | (k,q) :: r,h,hi=>by
  rw [List.foldr_cons,look_putO]
  by_cases e:rn ρ i = rn ρ k
  ·rw [if_pos e];have:=hi k (by simp) e.symm;subst this;simp [look] at h;rw [h]
  ·rw [if_neg e];refine lookF (l:=r) ?_ (fun j hj=>hi j (by simp only [List.map_cons,List.mem_cons];exact .inr hj));simp only [look] at h;rw [if_neg (fun e2=>e (by rw [e2]))] at h;exact h
theorem lookN {ρ:List (Nat × Nat)} {acc:List (Nat × Ob)} {j:Nat}:∀ {l:List (Nat × Ob)},(∀ i ∈ l.map (·.1),rn ρ i ≠ j) → look (l.foldr (fun x l=>putO (rn ρ x.1) (x.2.ren ρ) l) acc) j = look acc j
 | [],_=>rfl
 | (k,q) :: r,h=>by
  rw [List.foldr_cons,look_putO,if_neg (fun e=>h k (by simp) e.symm)];exact lookN fun i hi=>h i (by simp only [List.map_cons,List.mem_cons];exact .inr hi)
theorem lookDN {ρ:List (Nat × Nat)} {acc:List (Nat × Ob)} {j:Nat}:∀ {l:List (Nat × Ob)},(∀ i ∈ l.map (·.1),rn ρ i ≠ j) → look (l.foldr (fun x l=>delO (rn ρ x.1) l) acc) j = look acc j
 | [],_=>rfl
 | (k,q) :: r,h=>by
  rw [List.foldr_cons,look_delO,if_neg (fun e=>h k (by simp) e.symm)];exact lookDN fun i hi=>h i (by simp only [List.map_cons,List.mem_cons];exact .inr hi)
theorem key_look {l:List (Nat × Ob)} {i:Nat} (h:i ∈ l.map (·.1)):∃ o,look l i = some o:=by
 cases hl:look l i with
 | some o=>exact ⟨o,rfl⟩
 | none=>
  exfalso
  induction l with
  | nil=>cases h
  | cons x r ih=>
   simp only [look] at hl
   split at hl
   ·cases hl
   ·rename_i e
    simp only [List.map_cons,List.mem_cons] at h;exact ih (h.resolve_left e) hl
section
variable {P:Program} {ctx:Ctx} {Q:PState → Prop} {s:PState} {ops:Array Oper} {rest:List Oper} {fs:List Ft} {f:Ft}
variable {dst:Option Tmp} {ty:TypeId} {pos:String} {after:Array Edge} {gd:Option (Nat × Bool)}
theorem PQe.callObjS {x:Operand} {xs:List Operand} {ats:Array TypeId} {fn:FuncId} {ps qs:List PV} {os os':List (Nat × Ob)} {pins:List Nat} {r:PV} (ρ:List (Nat × Nat)) (js ks:List Nat) (osV osS:List (Nat × Ob))
  (hc:PObj P fn ps os pins r (fun _:Unit=>os')) (hK:∀ b,ctx.K b → ctx.S b)
  (hev:∀ s':PState,(∀ {y q},readsX (⟨dst,.call ⟨.value x,xs.toArray,ats⟩,ty,pos,after,gd⟩:Oper) y = true → s.ev y = some q → s'.ev y = some q) → s'.ev x = some (.d (.v (.func (.func fn) #[] #[]))) ∧ s'.evs xs = some qs)
  (he:∀ args w,(callFunc fn args).run P w = .ok (.enter fn args) w) (hq:qs.map PV.nilD = ps.map (PV.ren ρ)) (hos:AllOb s ρ os) (hV:LookIn os' osV) (hS:LookIn os' osS) (hAS:AllOb s ρ osS) (hcov:(os'.map (·.1)).all (fun i=>inL (osV.map (·.1)) i || inL (osS.map (·.1)) i) = true) (hSo:(osS.map (·.1)).all (inL (os.map (·.1))) = true)
  (hks:os'.map (·.1) = ks) (hcl:os'.all (fun x=>x.2.named ks) = true) (hr:r.named ks = true) (hok:calO ρ js (os.map (·.1)) pins ks f = true)
  (hg:Wd ops (⟨dst,.call ⟨.value x,xs.toArray,ats⟩,ty,pos,after,gd⟩:Oper) s) (hk:okE f (effO ρ js dst r osV) = true) (h:PQe P ctx ops Q rest fs (s.app (effO ρ js dst r osV))) :
  PQe P ctx ops Q (⟨dst,.call ⟨.value x,xs.toArray,ats⟩,ty,pos,after,gd⟩ :: rest) (f :: fs) s:=by
 simp only [calO,Bool.and_eq_true] at hok;obtain ⟨⟨⟨⟨⟨c1,c2⟩,c3⟩,c4⟩,c5⟩,c6⟩:=hok;refine .step (e:=effO ρ js dst r osV) (fun s' hn hee ho hfr hal=>?_) hg hk h;obtain ⟨h1,h2⟩:=hev s' (fun hx hq=>hee hx hq);have hinj:∀ i j,i ∈ os.map (·.1) ++ ks → j ∈ os.map (·.1) ++ ks → rn ρ i = rn ρ j → i = j:=fun i j hi hj e=>by
  have h3:=List.all_eq_true.1 (List.all_eq_true.1 c1 i hi) j hj;rw [Bool.or_eq_true,Bool.not_eq_true'] at h3;rcases h3 with h | h
  ·exact Nat.eq_of_beq_eq_true h
  ·rw [e,Nat.beq_refl] at h;cases h
 have hok':callOK s' ρ js (os.map (·.1)) pins ks = true:=by
  unfold callOK;rw [Bool.and_eq_true,Bool.and_eq_true];refine ⟨⟨c1,?_⟩,?_⟩
  ·rw [List.all_eq_true] at c2 ⊢;intro i hi;have:=c2 i hi;rw [Bool.or_eq_true] at this ⊢;exact this.imp (fun h=>h) fun h=>hfr _ (inL_iff.1 h)
  ·rw [List.all_eq_true] at c5 ⊢;intro i hi;have:=c5 i hi;rw [Bool.or_eq_true,Bool.or_eq_true] at this;rw [Bool.or_eq_true];rcases this with (h | h) | h
   ·exact .inl h
   ·refine .inr ?_;have hf:=hfr _ (inL_iff.1 h);rw [Bool.and_eq_true];refine ⟨chk_junks js hf,?_⟩;simp only [PState.fresh,Bool.and_eq_true,List.all_eq_true] at hf;rw [List.all_eq_true];intro y hy;rw [Bool.or_eq_true];exact .inl (hf.2 y hy).2
   ·refine .inr ?_;obtain ⟨a,ha1,ha2⟩:=List.any_eq_true.1 h;simp only [Bool.and_eq_true,beq_iff_eq] at ha2;have hx:=hal a ha1;rw [Nat.eq_of_beq_eq_true ha2.1,ha2.2] at hx;unfold PState.aloneX at hx;rw [Bool.and_eq_true,junks_objs] at hx;rw [Bool.and_eq_true];refine ⟨hx.1,?_⟩;rw [List.all_eq_true] at c4;have hx2:=hx.2;rw [List.all_eq_true] at hx2 ⊢;intro y hy;have:=hx2 y hy;rw [Bool.or_eq_true] at this ⊢;rcases this with h | h
    ·exact .inr (c4 _ (inL_iff.1 h))
    ·exact .inl h
 have hl:=LR.callObj (P:=P) (ctx:=ctx) (dst:=dst) (ty:=ty) (pos:=pos) (after:=after) (gd:=gd) (ats:=ats) ρ js ks hc hK h1 he h2 hq (hos.keep (fun hi hl=>ho (inL_iff.1 hi) hl) c6) hks hcl hr hok';have hAS':AllOb s' ρ osS:=hAS.keep (f:=f) (fun hi hl=>ho (inL_iff.1 hi) hl) (by
  rw [List.all_eq_true] at c6 hSo ⊢;exact fun i hi=>c6 i (inL_iff.1 (hSo i hi)))
 refine hl.post (Sub.drop ?_ ?_ ?_)
 ·cases dst <;> rfl
 ·intro i p hp;have hat:=at_get hp;have hlt:i < s'.n:=at_lt (s:=s'.app (effO ρ js dst r osV)) hp;refine at_of (by cases dst <;> exact hlt) ?_;simp only [PState.app,effO] at hat
  cases dst with
  | none=>simpa [dstL,PState.putD,PState.callO,junks_sl] using hat
  | some d=>simpa [dstL,PState.putD,PState.put,PState.callO,junks_sl] using hat
 ·intro id o hlo;have e1:(s'.app (effO ρ js dst r osV)).objs = osV.foldr (fun x l=>putO (rn ρ x.1) (x.2.ren ρ) l) s'.objs:=by
   simp only [PState.app,effO,List.foldr_map]
  have e2:((s'.callO ρ js os os').putD dst (r.ren ρ)).objs = os'.foldr (fun x l=>putO (rn ρ x.1) (x.2.ren ρ) l) (os.foldr (fun x l=>delO (rn ρ x.1) l) s'.objs):=by cases dst <;> rfl
  rw [e1] at hlo;rw [e2];have inj':∀ i,i ∈ os'.map (·.1) → ∀ j ∈ os'.map (·.1),rn ρ j = rn ρ i → j = i:=fun i hi j hj e=>hinj j i (List.mem_append_right _ (hks ▸ hj)) (List.mem_append_right _ (hks ▸ hi)) e
  rcases lookR hlo with ⟨i,o1,h3,h4,h5⟩ | ⟨h3,h4⟩
  ·have h6:=hV.get i o1 h3;rw [h4,h5];exact lookF h6 (inj' i (look_key h6))
  ·by_cases hex:∃ i ∈ os'.map (·.1),rn ρ i = id
   ·obtain ⟨i,hi,rfl⟩:=hex;have h5:=List.all_eq_true.1 hcov i hi;rw [Bool.or_eq_true] at h5;rcases h5 with h5 | h5
    ·exact absurd rfl (h3 i (inL_iff.1 h5))
    ·obtain ⟨o2,h6⟩:=key_look (inL_iff.1 h5);have h7:=hAS'.get i o2 h6;rw [h4] at h7
     cases h7
     exact lookF (hS.get i o2 h6) (inj' i hi)
   ·rw [lookN fun i hi e=>hex ⟨i,hi,e⟩,lookDN fun i hi e=>hex ⟨i,by rw [hks];exact inL_iff.1 (List.all_eq_true.1 c3 i hi),e⟩];exact h4
end
section
variable {P:Program} {ctx:Ctx} {s:PState}
variable {dst:Option Tmp} {ty:TypeId} {pos:String} {after:Array Edge} {gd:Option (Nat × Bool)}
theorem callO_sub {os os':List (Nat × Ob)} {pins:List Nat} {r:PV} (ρ:List (Nat × Nat)) (js ks:List Nat) (osV osS:List (Nat × Ob)) (hV:LookIn os' osV) (hS:LookIn os' osS) (hAS:AllOb s ρ osS) (hcov:(os'.map (·.1)).all (fun i=>inL (osV.map (·.1)) i || inL (osS.map (·.1)) i) = true) (c3:(os.map (·.1)).all (inL ks) = true)
  (hks:os'.map (·.1) = ks) (hok:callOK s ρ js (os.map (·.1)) pins ks = true):Sub ctx ((s.callO ρ js os os').putD dst (r.ren ρ)) (s.app (effO ρ js dst r osV)):=by
 have hinj:∀ i j,i ∈ os.map (·.1) ++ ks → j ∈ os.map (·.1) ++ ks → rn ρ i = rn ρ j → i = j:=fun i j hi hj e=>by
  simp only [callOK,Bool.and_eq_true] at hok;have h3:=List.all_eq_true.1 (List.all_eq_true.1 hok.1.1 i hi) j hj;rw [Bool.or_eq_true,Bool.not_eq_true'] at h3;rcases h3 with h | h
  ·exact Nat.eq_of_beq_eq_true h
  ·rw [e,Nat.beq_refl] at h;cases h
 refine Sub.drop ?_ ?_ ?_
 ·cases dst <;> rfl
 ·intro i p hp;have hat:=at_get hp;have hlt:i < s.n:=at_lt (s:=s.app (effO ρ js dst r osV)) hp;refine at_of (by cases dst <;> exact hlt) ?_;simp only [PState.app,effO] at hat
  cases dst with
  | none=>simpa [dstL,PState.putD,PState.callO,junks_sl] using hat
  | some d=>simpa [dstL,PState.putD,PState.put,PState.callO,junks_sl] using hat
 ·intro id o hlo;have e1:(s.app (effO ρ js dst r osV)).objs = osV.foldr (fun x l=>putO (rn ρ x.1) (x.2.ren ρ) l) s.objs:=by
   simp only [PState.app,effO,List.foldr_map]
  have e2:((s.callO ρ js os os').putD dst (r.ren ρ)).objs = os'.foldr (fun x l=>putO (rn ρ x.1) (x.2.ren ρ) l) (os.foldr (fun x l=>delO (rn ρ x.1) l) s.objs):=by cases dst <;> rfl
  rw [e1] at hlo;rw [e2];have inj':∀ i,i ∈ os'.map (·.1) → ∀ j ∈ os'.map (·.1),rn ρ j = rn ρ i → j = i:=fun i hi j hj e=>hinj j i (List.mem_append_right _ (hks ▸ hj)) (List.mem_append_right _ (hks ▸ hi)) e
  rcases lookR hlo with ⟨i,o1,h3,h4,h5⟩ | ⟨h3,h4⟩
  ·have h6:=hV.get i o1 h3;rw [h4,h5];exact lookF h6 (inj' i (look_key h6))
  ·by_cases hex:∃ i ∈ os'.map (·.1),rn ρ i = id
   ·obtain ⟨i,hi,rfl⟩:=hex;have h5:=List.all_eq_true.1 hcov i hi;rw [Bool.or_eq_true] at h5;rcases h5 with h5 | h5
    ·exact absurd rfl (h3 i (inL_iff.1 h5))
    ·obtain ⟨o2,h6⟩:=key_look (inL_iff.1 h5);have h7:=hAS.get i o2 h6;rw [h4] at h7
     cases h7
     exact lookF (hS.get i o2 h6) (inj' i hi)
   ·rw [lookN fun i hi e=>hex ⟨i,hi,e⟩,lookDN fun i hi e=>hex ⟨i,by rw [hks];exact inL_iff.1 (List.all_eq_true.1 c3 i hi),e⟩];exact h4
theorem LR.callObjS {x:Operand} {xs:List Operand} {ats:Array TypeId} {fn:FuncId} {ps qs:List PV} {os os':List (Nat × Ob)} {pins:List Nat} {r:PV} (ρ:List (Nat × Nat)) (js ks:List Nat) (osV osS:List (Nat × Ob))
  (hc:PObj P fn ps os pins r (fun _:Unit=>os')) (hK:∀ b,ctx.K b → ctx.S b) (hx:s.ev x = some (.d (.v (.func (.func fn) #[] #[])))) (he:∀ args w,(callFunc fn args).run P w = .ok (.enter fn args) w) (hps:s.evs xs = some qs)
  (hq:qs.map PV.nilD = ps.map (PV.ren ρ)) (hos:AllOb s ρ os) (hV:LookIn os' osV) (hS:LookIn os' osS) (hAS:AllOb s ρ osS) (hcov:(os'.map (·.1)).all (fun i=>inL (osV.map (·.1)) i || inL (osS.map (·.1)) i) = true) (c3:(os.map (·.1)).all (inL ks) = true)
  (hks:os'.map (·.1) = ks) (hcl:os'.all (fun x=>x.2.named ks) = true) (hr:r.named ks = true) (hok:callOK s ρ js (os.map (·.1)) pins ks = true) :
  Local P ctx ⟨dst,.call ⟨.value x,xs.toArray,ats⟩,ty,pos,after,gd⟩ s (s.app (effO ρ js dst r osV)):=
 (LR.callObj (P:=P) (ctx:=ctx) (dst:=dst) (ty:=ty) (pos:=pos) (after:=after) (gd:=gd) (ats:=ats) ρ js ks hc hK hx he hps hq hos hks hcl hr hok).post (callO_sub ρ js ks osV osS hV hS hAS hcov c3 hks hok)
theorem PWl.callObjS {G:Type} {Q:PQ} {ops:Array Oper} {rest:List Oper} {x:Operand} {xs:List Operand} {ats:Array TypeId} {fn:FuncId} {ps qs:List PV} {os:List (Nat × Ob)} {os':G → List (Nat × Ob)} {pins:List Nat} {r:PV} (ρ:List (Nat × Nat)) (js ks:List Nat) (osV:G → List (Nat × Ob)) (osS:List (Nat × Ob))
  (hc:PObj P fn ps os pins r os') (hK:∀ b,ctx.K b → ctx.S b) (hx:s.ev x = some (.d (.v (.func (.func fn) #[] #[])))) (he:∀ args w,(callFunc fn args).run P w = .ok (.enter fn args) w) (hps:s.evs xs = some qs)
  (hq:qs.map PV.nilD = ps.map (PV.ren ρ)) (hos:AllOb s ρ os) (hV:∀ gh,LookIn (os' gh) (osV gh)) (hS:∀ gh,LookIn (os' gh) osS) (hAS:AllOb s ρ osS) (hcov:∀ gh,((os' gh).map (·.1)).all (fun i=>inL ((osV gh).map (·.1)) i || inL (osS.map (·.1)) i) = true) (c3:(os.map (·.1)).all (inL ks) = true)
  (hks:∀ gh,(os' gh).map (·.1) = ks) (hcl:∀ gh,(os' gh).all (fun x=>x.2.named ks) = true) (hr:r.named ks = true) (hok:callOK s ρ js (os.map (·.1)) pins ks = true) (hgd:gd = none)
  (h:∀ gh,PWl P ctx ops Q rest (s.app (effO ρ js dst r (osV gh)))):PWl P ctx ops Q (⟨dst,.call ⟨.value x,xs.toArray,ats⟩,ty,pos,after,gd⟩ :: rest) s:=
 PWl.callObj ρ js ks hc hK hx he hps hq hos hks hcl hr hok hgd fun gh=>PWl.sub (callO_sub ρ js ks (osV gh) osS (hV gh) (hS gh) hAS (hcov gh) c3 (hks gh) hok) (h gh)
end
end Go.Ep

namespace Go.Ep
open Go.RowKit
section
variable {P:Program} {ctx:Ctx} {Q:PQ} {s:PState}
variable {dst:Option Tmp} {ty:TypeId} {pos:String} {after:Array Edge} {gd:Option (Nat × Bool)}
theorem EpRd.of {w:World} {g:Ghost} {S:Nat → Prop} {ds:List DV} {u:Value} (h:Rd w g S (.ep ds 0) u):EpRd w S ds u:=by
 cases h with
 | ep _ b off _ c hS hb hc hr=>exact ⟨b,off,c,rfl,hS,hb,hc,hr⟩
theorem EpRd.rd {w:World} {g:Ghost} {S:Nat → Prop} {ds:List DV} {u:Value} (h:EpRd w S ds u):Rd w g S (.ep ds 0) u:=by
 obtain ⟨b,off,c,rfl,hS,hb,hc,hr⟩:=h;exact .ep ds b off 0 c hS hb hc hr
theorem LR.makeClo {f:FuncId} {xs:List Operand} {cs:List (List DV)} (hps:s.evs xs = some (cs.map fun ds=>PV.ep ds 0)) :
  Local P ctx ⟨dst,.makeFunc (.func f) #[] xs.toArray,ty,pos,after,gd⟩ s (s.putD dst (.clo f cs)):=
 local_pure (o:=⟨dst,.makeFunc (.func f) #[] xs.toArray,ty,pos,after,gd⟩) fun a w g hg=>by
  obtain ⟨hl,hrd⟩:=evs_rd hps hg;refine ⟨.func (.func f) #[] (xs.map a.eval).toArray,by simp [execOp,Instr.makeFunc],.clo f cs _ (by simpa using hl) fun i ds u h1 h2=>EpRd.of (hrd i (.ep ds 0) u (by rw [List.getElem?_map,h1];rfl) h2)⟩
theorem LR.callC {x:Operand} {xs:List Operand} {ats:Array TypeId} {f:FuncId} {cs:List (List DV)} {ps qs ps':List PV} {r:PV} (hc:PFun P f ps' r) (hx:s.ev x = some (.clo f cs)) (he:∀ args w,(callFunc f args).run P w = .ok (.enter f args) w)
  (hps:s.evs xs = some qs) (hq:qs.map PV.nilD = ps) (hd:PV.isData.isDataL ps = true) (hp':ps' = ps ++ cs.map fun ds=>PV.ep ds 0) (hr:r.isData = true) :
  Local P ctx ⟨dst,.call ⟨.value x,xs.toArray,ats⟩,ty,pos,after,gd⟩ s (s.putD dst r):=
 local_enter (o:=⟨dst,.call ⟨.value x,xs.toArray,ats⟩,ty,pos,after,gd⟩) fun a w g hg=>by
  subst hq;obtain ⟨hlen,hreal⟩:=evs_real hps (isDataL_nilD hd) hg;have h:=hg.ev hx
  generalize hv:a.eval x = v at h
  cases h with
  | clo _ _ us hl hh=>
   refine ⟨f,_,(by simp [execOp,resolve,Deferred.ofValue,invoke,hv,he]:(execOp a.eval ⟨dst,.call ⟨.value x,xs.toArray,ats⟩,ty,pos,after,gd⟩).run P w = .ok (.enter f ((xs.map a.eval) ++ us).toArray) w),?_⟩;subst hp';refine (hc w (Free ctx g s.objs) _ (by simp [hl] at hlen ⊢;omega) (fun i p v hp hu=>?_)).mono fun e w' ⟨u,he,hb,hru⟩=>⟨u,he,g,?_⟩
   ·rw [List.getElem?_append] at hp hu;rw [List.length_map,hlen] at hp
    split at hp
    ·rename_i hlt
     rw [if_pos hlt] at hu;rw [List.getElem?_map] at hp
     cases hq:qs[i]? with
     | none=>simp [hq] at hp
     | some q=>simp [hq] at hp;subst hp;exact (hreal i q v hq hu).nilD
    ·rename_i hlt
     rw [if_neg hlt] at hu;rw [List.getElem?_map] at hp
     cases hq:cs[i - (xs.map a.eval).length]? with
     | none=>rw [hq] at hp;cases hp
     | some ds=>rw [hq] at hp;cases hp;exact (hh _ ds v hq hu).rd
   ·exact (hg.below hb).put dst ((hru.data hr g).keep ⟨Nat.le_refl _,fun _ _ _=>rfl⟩ (fun b hb' _=>free_new hg hb') (fun _ _=>rfl))
end
section
variable {ctx:Ctx} {s:PState}
def PState.frzR (s:PState) (id:Nat) (ds:List DV) (js:List Nat):PState:={ n:=s.n,sl:=(s.sets (.ep ds 0) js).sl,objs:=delO id s.objs }
inductive AllRef (s:PState) (id:Nat):List Nat → Prop
 | nil:AllRef s id []
 | cons {j:Nat} {js:List Nat} (h:s.at j = some (.ref id 0)) (r:AllRef s id js):AllRef s id (j :: js)
theorem AllRef.get {id:Nat} {js:List Nat} (h:AllRef s id js):∀ j ∈ js,s.at j = some (.ref id 0):=by
 induction h with
 | nil=>intro j hj;cases hj
 | cons h _ ih=>
  intro j hj;rcases List.mem_cons.1 hj with rfl | hj
  ·exact h
  ·exact ih j hj
theorem Sub.frzR {id:Nat} {T:TypeId} {cs:List PV} (ds:List DV) (js:List Nat) (hK:∀ b,ctx.K b → ctx.S b) (hl:look s.objs id = some (.cells T cs)) (hcs:cs = ds.map PV.d) (hjs:AllRef s id js):Sub ctx s (s.frzR id ds js):=by
 rintro a w ⟨g,h⟩;have hF:∀ b,Free ctx g s.objs b → Free ctx g (delO id s.objs) b:=fun b ⟨h1,h2⟩=>⟨h1,fun j o m hj hg=>by
  rw [look_delO] at hj
  split at hj
  ·cases hj
  ·exact h2 j o m hj hg⟩
 have hst:Stays w w (Free ctx g s.objs):=⟨Nat.le_refl _,fun _ _ _=>rfl⟩
 have hlk:∀ {j:Nat} {o:Ob},look (delO id s.objs) j = some o → j ≠ id ∧ look s.objs j = some o:=fun {j o} hj=>by
  rw [look_delO] at hj
  split at hj
  ·cases hj
  ·rename_i hne;exact ⟨hne,hj⟩
 refine ⟨g,⟨h.defers,h.size,?_,?_,?_,?_,h.os,h.tape,h.output,h.grows,h.keep⟩⟩
 ·intro i p hp;have old:s.at i = some p → Rd w g (Free ctx g (delO id s.objs)) p (a.tmps.getD i undef):=fun hq=>(h.slots i p hq).keep hst (fun b hb _=>hF b hb) (fun _ _=>rfl)
  have hp':(s.sets (.ep ds 0) js).at i = some p:=at_of (by rw [sets_len];exact at_lt (s:=s.frzR id ds js) hp) (at_get (s:=s.frzR id ds js) hp);rcases sets_get _ js s i p hp' with ⟨h1,rfl⟩ | h2
  ·have hr:=h.slots i _ (hjs.get i h1);have hob:=h.objs id _ hl;show Rd w g (Free ctx g (delO id s.objs)) (.ep ds 0) (a.tmps.getD i undef)
   generalize hv:a.tmps.getD i undef = v at hr
   cases hr with
   | ref _ _ blk n hgi=>
    cases hob with
    | cells _ _ blk' n' us hgi' hh hlen hr' _=>
     rw [hgi] at hgi'
     cases hgi'
     have hown:=h.own id _ blk n hl hgi;have hfree:Free ctx g (delO id s.objs) blk:=⟨hown.2.elim .inr fun hh=>.inl (hK _ hh),fun j o m hj hgj=>by
      obtain ⟨hne,hj'⟩:=hlk hj;exact hne (h.inj j id o _ blk m n hj' hl hgj hgi)⟩
     subst hcs;rw [List.length_map] at hlen;refine .ep ds blk 0 0 (fun j=>us.getD j undef) hfree hown.1 (fun j hj=>?_) (fun j x hx=>?_)
     ·rw [cell_of_heap hh,Nat.zero_add];have:j < us.length:=by omega
      simp [this]
     ·have hj:j < us.length:=by rw [← hlen];exact (List.getElem?_eq_some_iff.1 hx).1
      have hu:us[j]? = some us[j]:=List.getElem?_eq_getElem hj;have e:us.getD j undef = us[j]:=by simp [hj]
      show DRd w _ x (us.getD j undef);rw [e];have:=hr' j (.d x) _ (by rw [List.getElem?_map,hx];rfl) hu
      cases this with
      | d hd=>exact hd.keep hst (fun b hb _=>hF b hb)
  ·exact old h2
 ·intro j o hj;obtain ⟨_,hj'⟩:=hlk hj;exact (h.objs j o hj').keep hst (fun b hb _=>hF b hb) (fun _ _ _=>rfl) rfl (fun _ _=>rfl)
 ·intro i j oi oj b n m hi hj;exact h.inj i j oi oj b n m (hlk hi).2 (hlk hj).2
 ·intro j o b n hj;exact h.own j o b n (hlk hj).2
end
inductive LendL (s:PState):List PV → List PV → Prop
 | nil:LendL s [] []
 | data {q p:PV} {qs ps:List PV} (h:q.nilD = p) (hd:p.isData = true) (t:LendL s qs ps):LendL s (q :: qs) (p :: ps)
 | row {id n k:Nat} {e:TypeId} {l:List (List DV)} {qs ps:List PV} (hl:look s.objs id = some (.row e k l)) (hn:l.length = n) (t:LendL s qs ps):LendL s (.row id n :: qs) (.d (.sl l) :: ps)
section
variable {P:Program} {ctx:Ctx} {Q:PQ} {s:PState}
variable {dst:Option Tmp} {ty:TypeId} {pos:String} {after:Array Edge} {gd:Option (Nat × Bool)}
def LentS (ctx:Ctx) (g:Ghost) (s:PState) (b:Nat):Prop:=Free ctx g s.objs b ∨ ∃ id o n,look s.objs id = some o ∧ g id = some (b,n)
theorem LendL.rd {g:Ghost} {a:Act} {w:World} (hg:RelG ctx g s a w) {qs ps:List PV} (h:LendL s qs ps):∀ (vs:List Value),qs.length = vs.length → (∀ (i:Nat) (q:PV) (v:Value),qs[i]? = some q → vs[i]? = some v → Rd w g (Free ctx g s.objs) q v) →
  ps.length = vs.length ∧ ∀ (i:Nat) (p:PV) (v:Value),ps[i]? = some p → vs[i]? = some v → Rd w g0 (LentS ctx g s) p v:=by
 have hst:Stays w w (Free ctx g s.objs):=⟨Nat.le_refl _,fun _ _ _=>rfl⟩
 induction h with
 | nil=>intro vs hl _;exact ⟨hl,fun i p v hp=>by simp at hp⟩
 | @data q p qs ps h hd _ ih=>
  intro vs hl hr
  cases vs with
  | nil=>simp at hl
  | cons v vs=>
   obtain ⟨h1,h2⟩:=ih vs (by simpa using hl) (fun i q u hq hu=>hr (i + 1) q u (by simpa using hq) (by simpa using hu));refine ⟨by simp [h1],fun i p' u hp hu=>?_⟩
   cases i with
   | zero=>
    simp at hp hu;subst hp;subst hu;subst h;exact (((hr 0 q v rfl rfl).nilD).data hd g0).keep hst (fun b hb _=>.inl hb) (fun _ _=>rfl)
   | succ i=>exact h2 i p' u (by simpa using hp) (by simpa using hu)
 | @row id n k e l qs ps hlk hn _ ih=>
  intro vs hl hr
  cases vs with
  | nil=>simp at hl
  | cons v vs=>
   obtain ⟨h1,h2⟩:=ih vs (by simpa using hl) (fun i q u hq hu=>hr (i + 1) q u (by simpa using hq) (by simpa using hu));refine ⟨by simp [h1],fun i p' u hp hu=>?_⟩
   cases i with
   | succ i=>exact h2 i p' u (by simpa using hp) (by simpa using hu)
   | zero=>
    simp at hp hu;subst hp;subst hu;have hq:=hr 0 (.row id n) v rfl rfl;have hob:=hg.objs id _ hlk
    cases hob with
    | rowNil _ _ hgn=>
     cases hq with
     | row _ _ blk cap hgi=>rw [hgn] at hgi;cases hgi
     | rowNil=>exact .d (.nil none 0 (Nat.zero_le _) (fun _=>rfl))
    | row _ _ _ blk' cap' cur hgi hh hlc hcap hcs hkk hr'=>
     cases hq with
     | rowNil _ hgn=>rw [hgn] at hgi;cases hgi
     | row _ _ blk cap hgi'=>
      rw [hgi] at hgi'
      cases hgi'
      subst hn;have hown:=hg.own id _ blk' cap' hlk hgi;refine .d (.sl l blk' 0 cap' k (fun i j=>cur.getD (i * k + j) undef) hlc hcap (.inr ⟨id,_,cap',hlk,hgi⟩) hown.1 hkk ?_ ?_)
      ·intro i j hi hj;have hlt:i * k + j < cur.length:=by rw [hcs];exact idx_lt (by omega) hj
       rw [cell_of_heap hh];simp [hlt]
      ·intro i cs j x hi hx;obtain ⟨u,hu,hd⟩:=hr' i cs j x hi hx;have e:cur.getD (i * k + j) undef = u:=by simp [List.getD,hu]
       show DRd w _ x (cur.getD (i * k + j) undef);rw [e];exact hd.keep hst (fun b hb _=>.inl hb)
theorem LR.callLend {x:Operand} {xs:List Operand} {ats:Array TypeId} {f:FuncId} {ps qs:List PV} {z:Value} (hc:PFun P f ps (.d (.v z))) (hx:s.ev x = some (.d (.v (.func (.func f) #[] #[])))) (he:∀ args w,(callFunc f args).run P w = .ok (.enter f args) w)
  (hps:s.evs xs = some qs) (hq:LendL s qs ps) :
  Local P ctx ⟨dst,.call ⟨.value x,xs.toArray,ats⟩,ty,pos,after,gd⟩ s (s.putD dst (.d (.v z))):=
 local_enter (o:=⟨dst,.call ⟨.value x,xs.toArray,ats⟩,ty,pos,after,gd⟩) fun a w g hg=>by
  obtain ⟨hlen,hreal⟩:=evs_rd hps hg;obtain ⟨h1,h2⟩:=hq.rd hg _ hlen hreal;refine ⟨f,_,exec_call (o:=⟨dst,.call ⟨.value x,xs.toArray,ats⟩,ty,pos,after,gd⟩) rfl (ev_v hg hx) he w,?_⟩;rw [List.map_toArray];refine (hc w (LentS ctx g s) _ h1 h2).mono fun e w' ⟨u,he,hb,hru⟩=>⟨u,he,g,?_⟩
  refine (hg.below hb).put dst ?_
  cases hru with
  | d hd=>cases hd with
   | v _ h=>exact .d (.v _ h)
   | _=>exact .d (.v _ rfl)
end
end Go.Ep

namespace Go.Proofs
open Go.Ep
set_option maxHeartbeats 1000000
set_option maxRecDepth 100000
set_option linter.unusedVariables false
set_option linter.unusedSimpArgs false


theorem r13_Few_ok (l1:List TEvent) (most2:Int) (r0:Bool) (h:(r13_Few l1 most2).wp (· = r0)):PFun Tryz.prog 15 [.d (.sl (List.map TEvent.e l1)),.d (.v (.int .i64 most2))] (.d (.v (.bool r0))):=by
 refine fI (sl:=[(0,_),(1,_)]) Tryz.func15 rfl Tryz.ntmps15 rfl rfl ?_;intro ctx hK;refine wQ<|wR<|wa ?_;refine wN<|wQ<|wQ<|wR<|wm ?_;refine wS (lM (enc:=TEvent.e) (L:=l1) Tryz.underlying22 rfl) rfl<|wm ?_;refine wS (LR.gtr rfl rfl) rfl<|wN ?_;refine wC rfl (fun hc3=>?_) (fun hc3=>?_)
 ·replace h:=iT hc3 h;refine wQ<|wR<|wa ?_;refine wN<|wX ?_;replace h:_ = r0:=h;subst h;exact ⟨.inr rfl,_,.cons (.tmp rfl rfl)<|.nil,rfl⟩
 ·replace h:=iF hc3 h;refine wK<|wQ<|wQ<|wR<|wa ?_;refine wN ?_;refine PWc.jnX (iBind h) (fun (_:Unit) (_:Unit)=>⟨32,[],[]⟩) (fun h=>?_) ?_
  ·refine wB<|wM (fun (i21:Int) (_:Unit)=>⟨32,[(0,.d (.sl (List.map TEvent.e l1))),(5,.d (.v (.int .i64 i21)))],[]⟩) () h (sP) ?_;rintro N i21 _ h;refine wQ<|wQ<|wR<|wm ?_;refine wm ?_;refine wS (lM (enc:=TEvent.e) (L:=l1) Tryz.underlying22 rfl) rfl<|wS (LR.lss rfl rfl) rfl<|wN ?_;refine wC rfl (fun hc22=>?_) (fun hc22=>?_)
   ·replace h:=iT hc22 h;refine wK<|wQ<|wB<|wQ ?_;refine wJ (iBind h) (fun (v23:Bool) (_:Unit)=>⟨32,[(0,.d (.sl (List.map TEvent.e l1))),(5,.d (.v (.int .i64 i21))),(31,.d (.v (.bool v23)))],[]⟩) (fun h=>?_) ?_
    ·refine wR<|wm ?_;refine wm ?_;replace h:=iIdx h;obtain ⟨x24,hy25,h⟩:=h;refine wS (iX (enc:=TEvent.e) (L:=l1) (y:=x24) Tryz.underlying22 Tryz.sizeOf34 rfl rfl hy25 (fun _=>rfl)) rfl<|wS (fE Tryz.underlying34 rfl Tryz.sizeOf32 (by decide) rfl rfl) rfl<|wS (LR.loadEp Tryz.isAgg32 rfl rfl) rfl<|wS (lM (enc:=TDot.e) (L:=x24.kills) Tryz.underlying32 rfl) rfl<|wS (LR.gtr rfl rfl) rfl<|wm ?_;refine wL (d:=23) rfl (fun hg26=>?_) (fun hg26=>?_)
     ·replace h:=iT hg26 h;refine wf<|wf<|wf<|wf<|wf<|wf<|wy (tl:=[(0,_),(5,_),(23,_),(24,_),(25,_),(26,_),(27,_),(28,_),(29,_)]) (to:=[]) ?_;refine wf<|wS (pT rfl rfl) rfl<|wN ?_;exact ⟨true,(),h,sP⟩
     ·replace h:=iF hg26 h;refine wT (mV rfl) rfl rfl rfl<|wT (mV rfl) rfl rfl rfl ?_;replace h:=iIdx h;obtain ⟨x27,hy28,h⟩:=h;refine wT (iX (enc:=TEvent.e) (L:=l1) (y:=x27) Tryz.underlying22 Tryz.sizeOf34 rfl rfl hy28 (fun _=>rfl)) rfl rfl rfl<|wT (fE Tryz.underlying34 rfl Tryz.sizeOf9 (by decide) rfl rfl) rfl rfl rfl<|wT (LR.loadEp Tryz.isAgg9 rfl rfl) rfl rfl rfl<|wT (LR.lenStr Tryz.underlying9 rfl) rfl rfl rfl<|wy (tl:=[(0,_),(5,_),(23,_),(24,_),(25,_),(26,_),(27,_),(28,_),(29,_)]) (to:=[]) ?_;refine wT (LR.gtr rfl rfl) rfl rfl rfl<|wS (pF rfl rfl) rfl<|wN ?_;exact ⟨(decide (200 < (ByteArray.size x27.text:Int))),(),h,sP⟩
    ·rintro v23 _ h;refine wC rfl (fun hc29=>?_) (fun hc29=>?_)
     ·replace h:=iT hc29 h;refine wQ<|wR<|wa ?_;refine wN<|wX ?_;replace h:_ = r0:=h;subst h;exact ⟨.inr rfl,_,.cons (.tmp rfl rfl)<|.nil,rfl⟩
     ·replace h:=iF hc29 h;refine wK<|wR<|wm ?_;refine wS (LR.addW rfl rfl) rfl<|wa ?_;refine wN ?_;exact ⟨(IntKind.i64.wrap (i21 + 1)),(),h,sP⟩
   ·replace h:=iF hc22 h;refine wZ ?_;exact ⟨(),(),h,sP⟩
  ·rintro _ _ h;refine wQ<|wR<|wa ?_;refine wN<|wX ?_;replace h:_ = r0:=h;subst h;exact ⟨.inr rfl,_,.cons (.tmp rfl rfl)<|.nil,rfl⟩

theorem r09_Few_ok (c1:List TPart) (r0:Bool) (h:(r09_Few c1).wp (· = r0)):PFun Tryz.prog 50 [.d (.sl (List.map TPart.e c1))] (.d (.v (.bool r0))):=by
 refine fI (sl:=[(0,_)]) Tryz.func50 rfl Tryz.ntmps50 rfl rfl ?_;intro ctx hK;refine wQ<|wR<|wa ?_;refine wN<|wQ<|wQ<|wR<|wm ?_;refine wS (lM (enc:=TPart.e) (L:=c1) Tryz.underlying42 rfl) rfl<|wS (LR.gtr rfl rfl) rfl<|wN ?_;refine wC rfl (fun hc2=>?_) (fun hc2=>?_)
 ·replace h:=iT hc2 h;refine wQ<|wR<|wa ?_;refine wN<|wX ?_;replace h:_ = r0:=h;subst h;exact ⟨.inr rfl,_,.cons (.tmp rfl rfl)<|.nil,rfl⟩
 ·replace h:=iF hc2 h;refine wK<|wQ<|wQ<|wR<|wa ?_;refine wN ?_;refine PWc.jnX (iBind h) (fun (_:Unit) (_:Unit)=>⟨20,[],[]⟩) (fun h=>?_) ?_
  ·refine wB<|wM (fun (i12:Int) (_:Unit)=>⟨20,[(0,.d (.sl (List.map TPart.e c1))),(3,.d (.v (.int .i64 i12)))],[]⟩) () h (sP) ?_;rintro N i12 _ h;refine wQ<|wQ<|wR<|wm ?_;refine wm ?_;refine wS (lM (enc:=TPart.e) (L:=c1) Tryz.underlying42 rfl) rfl<|wS (LR.lss rfl rfl) rfl<|wN ?_;refine wC rfl (fun hc13=>?_) (fun hc13=>?_)
   ·replace h:=iT hc13 h;refine wK<|wQ<|wB<|wQ<|wR<|wm ?_;refine wm ?_;replace h:=iIdx h;obtain ⟨x14,hy15,h⟩:=h;refine wS (iX (enc:=TPart.e) (L:=c1) (y:=x14) Tryz.underlying42 Tryz.sizeOf80 rfl rfl hy15 (fun _=>rfl)) rfl<|wS (fE Tryz.underlying80 rfl Tryz.sizeOf78 (by decide) rfl rfl) rfl<|wS (LR.loadEp Tryz.isAgg78 rfl rfl) rfl<|wS (lM (enc:=TRun.e) (L:=x14.runs) Tryz.underlying78 rfl) rfl<|wS (LR.gtr rfl rfl) rfl<|wN ?_;refine wC rfl (fun hc16=>?_) (fun hc16=>?_)
    ·replace h:=iT hc16 h;refine wQ<|wR<|wa ?_;refine wN<|wX ?_;replace h:_ = r0:=h;subst h;exact ⟨.inr rfl,_,.cons (.tmp rfl rfl)<|.nil,rfl⟩
    ·replace h:=iF hc16 h;refine wK<|wR<|wm ?_;refine wS (LR.addW rfl rfl) rfl<|wa ?_;refine wN ?_;exact ⟨(IntKind.i64.wrap (i12 + 1)),(),h,sP⟩
   ·replace h:=iF hc13 h;refine wZ ?_;exact ⟨(),(),h,sP⟩
  ·rintro _ _ h;refine wQ<|wR<|wa ?_;refine wN<|wX ?_;replace h:_ = r0:=h;subst h;exact ⟨.inr rfl,_,.cons (.tmp rfl rfl)<|.nil,rfl⟩

theorem l18_Few_ok (l1:List L18Act) (most2:Int) (r0:Int) (h:(l18_Few l1 most2).wp (· = r0)):PFun Tryz.prog 38 [.d (.sl (List.map L18Act.e l1)),.d (.v (.int .i64 most2))] (.d (.v (.int .i64 r0))):=by
 refine fI (sl:=[(0,_),(1,_)]) Tryz.func38 rfl Tryz.ntmps38 rfl rfl ?_;intro ctx hK;refine wQ<|wR<|wa ?_;refine wN<|wQ<|wQ<|wR<|wm ?_;refine wS (lM (enc:=L18Act.e) (L:=l1) Tryz.underlying56 rfl) rfl<|wm ?_;refine wS (LR.gtr rfl rfl) rfl<|wN ?_;refine wC rfl (fun hc3=>?_) (fun hc3=>?_)
 ·replace h:=iT hc3 h;refine wQ<|wR<|wa ?_;refine wN<|wX ?_;replace h:_ = r0:=h;subst h;exact ⟨.inr rfl,_,.cons (.tmp rfl rfl)<|.nil,rfl⟩
 ·replace h:=iF hc3 h;refine wK<|wQ<|wQ<|wR<|wa ?_;refine wN ?_;refine PWc.jnX (iBind h) (fun (_:Unit) (_:Unit)=>⟨33,[],[]⟩) (fun h=>?_) ?_
  ·refine wB<|wM (fun (i29:Int) (_:Unit)=>⟨33,[(0,.d (.sl (List.map L18Act.e l1))),(5,.d (.v (.int .i64 i29)))],[]⟩) () h (sP) ?_;rintro N i29 _ h;refine wQ<|wQ<|wR<|wm ?_;refine wm ?_;refine wS (lM (enc:=L18Act.e) (L:=l1) Tryz.underlying56 rfl) rfl<|wS (LR.lss rfl rfl) rfl<|wN ?_;refine wC rfl (fun hc30=>?_) (fun hc30=>?_)
   ·replace h:=iT hc30 h;refine wK<|wQ<|wB<|wQ ?_;refine wJ (iBind h) (fun (v31:Bool) (_:Unit)=>⟨33,[(0,.d (.sl (List.map L18Act.e l1))),(5,.d (.v (.int .i64 i29))),(32,.d (.v (.bool v31)))],[]⟩) (fun h=>?_) ?_
    ·refine wR<|wm ?_;refine wm ?_;replace h:=iIdx h;obtain ⟨x32,hy33,h⟩:=h;refine wS (iX (enc:=L18Act.e) (L:=l1) (y:=x32) Tryz.underlying56 Tryz.sizeOf90 rfl rfl hy33 (fun _=>rfl)) rfl<|wS (fE Tryz.underlying90 rfl Tryz.sizeOf34 (by decide) rfl rfl) rfl<|wS (lE (ys:=[_,_,_,_,_,_,_]) Tryz.isAgg34 Tryz.sizeOf34 rfl rfl rfl) rfl<|wS (LR.buildSliceD [.tmp 20] elem22 rfl rfl (.cons rfl rfl rfl<|.nil) (by decide) (by decide)) rfl ?_;replace h:=iDet h;obtain ⟨v34,hy35,h⟩:=h;refine wS (cN (r13_Few_ok ([x32.event]) 1 v34 hy35) rfl Tryz.call15 rfl rfl rfl rfl) rfl<|wS (LR.not rfl) rfl<|wm ?_;refine wL (d:=24) rfl (fun hg36=>?_) (fun hg36=>?_)
     ·replace h:=iT hg36 h;refine wf<|wf<|wf<|wf<|wf<|wy (tl:=[(0,_),(5,_),(24,_),(25,_),(26,_),(27,_),(28,_),(29,_)]) (to:=[]) ?_;refine wf<|wf<|wS (pT rfl rfl) rfl<|wN ?_;exact ⟨true,(),h,sP⟩
     ·replace h:=iF hg36 h;refine wT (mV rfl) rfl rfl rfl<|wT (mV rfl) rfl rfl rfl ?_;replace h:=iIdx h;obtain ⟨x37,hy38,h⟩:=h;refine wT (iX (enc:=L18Act.e) (L:=l1) (y:=x37) Tryz.underlying56 Tryz.sizeOf90 rfl rfl hy38 (fun _=>rfl)) rfl rfl rfl<|wT (fE Tryz.underlying90 rfl Tryz.sizeOf42 (by decide) rfl rfl) rfl rfl rfl<|wT (LR.loadEp Tryz.isAgg42 rfl rfl) rfl rfl rfl<|wy (tl:=[(0,_),(5,_),(24,_),(25,_),(26,_),(27,_),(28,_),(29,_)]) (to:=[]) ?_;replace h:=iDet h;obtain ⟨v39,hy40,h⟩:=h;refine wT (cN (r09_Few_ok x37.ctx v39 hy40) rfl Tryz.call50 rfl rfl rfl rfl) rfl rfl rfl<|wT (LR.not rfl) rfl rfl rfl<|wS (pF rfl rfl) rfl<|wN ?_;exact ⟨(!v39),(),h,sP⟩
    ·rintro v31 _ h;refine wC rfl (fun hc41=>?_) (fun hc41=>?_)
     ·replace h:=iT hc41 h;refine wQ<|wR<|wa ?_;refine wN<|wX ?_;replace h:_ = r0:=h;subst h;exact ⟨.inr rfl,_,.cons (.tmp rfl rfl)<|.nil,rfl⟩
     ·replace h:=iF hc41 h;refine wK<|wR<|wm ?_;refine wS (LR.addW rfl rfl) rfl<|wa ?_;refine wN ?_;exact ⟨(IntKind.i64.wrap (i29 + 1)),(),h,sP⟩
   ·replace h:=iF hc30 h;refine wZ ?_;exact ⟨(),(),h,sP⟩
  ·rintro _ _ h;refine wQ<|wR<|wa ?_;refine wN<|wX ?_;replace h:_ = r0:=h;subst h;exact ⟨.inr rfl,_,.cons (.tmp rfl rfl)<|.nil,rfl⟩

end Go.Proofs

namespace Go.Proofs
open Go.Ep
set_option maxHeartbeats 1000000
set_option maxRecDepth 100000
set_option linter.unusedVariables false
set_option linter.unusedSimpArgs false


theorem cmp_isNaN_uint64_ok (x1:Int) (r0:Bool) (h:(cmp_isNaN_uint64 x1).wp (· = r0)):PFun Tryz.prog 220 [.d (.v (.int .u64 x1))] (.d (.v (.bool r0))):=by
 refine fI (sl:=[(0,_)]) Tryz.func220 rfl Tryz.ntmps220 rfl rfl ?_;intro ctx hK;refine wQ<|wR<|wa ?_;refine wN<|wQ<|wR<|wm ?_;refine wm ?_;refine wS (nQ rfl rfl) rfl<|wa ?_;refine wN<|wX ?_;replace h:_ = r0:=h;subst h;exact ⟨.inr rfl,_,.cons (.tmp rfl rfl)<|.nil,rfl⟩

theorem cmp_Compare_uint64_ok (x1:Int) (y2:Int) (r0:Int) (h:(cmp_Compare_uint64 x1 y2).wp (· = r0)):PFun Tryz.prog 178 [.d (.v (.int .u64 x1)),.d (.v (.int .u64 y2))] (.d (.v (.int .i64 r0))):=by
 refine fI (sl:=[(0,_),(1,_)]) Tryz.func178 rfl Tryz.ntmps178 rfl rfl ?_;intro ctx hK;refine wQ<|wR<|wa ?_;refine wN<|wQ<|wR<|wm ?_;replace h:=iDet h;obtain ⟨v3,hy4,h⟩:=h;refine wS (cN (cmp_isNaN_uint64_ok x1 v3 hy4) rfl Tryz.call220 rfl rfl rfl rfl) rfl<|wa ?_;refine wN<|wQ<|wR<|wm ?_;replace h:=iDet h;obtain ⟨v5,hy6,h⟩:=h;refine wS (cN (cmp_isNaN_uint64_ok y2 v5 hy6) rfl Tryz.call220 rfl rfl rfl rfl) rfl<|wa ?_;refine wN<|wQ<|wQ<|wR<|wm ?_;refine wN ?_;refine wC rfl (fun hc7=>?_) (fun hc7=>?_)
 ·replace h:=iT hc7 h;refine wQ<|wQ<|wR<|wm ?_;refine wN ?_;refine wC rfl (fun hc8=>?_) (fun hc8=>?_)
  ·replace h:=iT hc8 h;refine wQ<|wR<|wa ?_;refine wN<|wX ?_;replace h:_ = r0:=h;subst h;exact ⟨.inr rfl,_,.cons (.tmp rfl rfl)<|.nil,rfl⟩
  ·replace h:=iF hc8 h;refine wK<|wQ<|wR<|wa ?_;refine wN<|wX ?_;replace h:_ = r0:=h;subst h;exact ⟨.inr rfl,_,.cons (.tmp rfl rfl)<|.nil,rfl⟩
 ·replace h:=iF hc7 h;refine wK<|wQ<|wQ<|wR<|wm ?_;refine wN ?_;refine wC rfl (fun hc9=>?_) (fun hc9=>?_)
  ·replace h:=iT hc9 h;refine wQ<|wR<|wa ?_;refine wN<|wX ?_;replace h:_ = r0:=h;subst h;exact ⟨.inr rfl,_,.cons (.tmp rfl rfl)<|.nil,rfl⟩
  ·replace h:=iF hc9 h;refine wK<|wQ<|wQ<|wR<|wm ?_;refine wm ?_;refine wS (LR.lss rfl rfl) rfl<|wN ?_;refine wC rfl (fun hc10=>?_) (fun hc10=>?_)
   ·replace h:=iT hc10 h;refine wQ<|wR<|wa ?_;refine wN<|wX ?_;replace h:_ = r0:=h;subst h;exact ⟨.inr rfl,_,.cons (.tmp rfl rfl)<|.nil,rfl⟩
   ·replace h:=iF hc10 h;refine wK<|wQ<|wQ<|wR<|wm ?_;refine wm ?_;refine wS (LR.gtr rfl rfl) rfl<|wN ?_;refine wC rfl (fun hc11=>?_) (fun hc11=>?_)
    ·replace h:=iT hc11 h;refine wQ<|wR<|wa ?_;refine wN<|wX ?_;replace h:_ = r0:=h;subst h;exact ⟨.inr rfl,_,.cons (.tmp rfl rfl)<|.nil,rfl⟩
    ·replace h:=iF hc11 h;refine wK<|wQ<|wR<|wa ?_;refine wN<|wX ?_;replace h:_ = r0:=h;subst h;exact ⟨.inr rfl,_,.cons (.tmp rfl rfl)<|.nil,rfl⟩

theorem runs_Norm_ok (l1:List TRun) (r0:List TRun) (h:(runs_Norm l1).wp (· = r0)):PRow Tryz.prog 207 [.d (.sl (List.map TRun.e l1))] 82 2 (List.map TRun.e r0):=by
 refine PRow.intro (sl:=[(0,_)]) Tryz.func207 rfl Tryz.ntmps207 rfl rfl ?_;intro ctx hK;refine wQ<|wR<|wS (aR 82 2 rfl) rfl<|wN<|wQ<|wR<|wS (aR 82 2 rfl) rfl<|wN<|wQ ?_;refine wQ<|wR<|wm ?_;refine wS (lM (enc:=TRun.e) (L:=l1) Tryz.underlying78 rfl) rfl<|wm ?_;refine wN ?_;refine wJ (iBind h) (fun (some2:List TRun) (_:Unit)=>⟨78,[(3,.row 3 (List.length some2))],[(3,.row 82 2 (List.map TRun.e some2))]⟩) (fun h=>?_) ?_
 ·refine wB<|wM (fun (⟨v23,some24⟩:Int × List TRun) (_:Unit)=>⟨78,[(3,.row 3 (List.length some24)),(10,.d (.sl (List.map TRun.e l1))),(11,.d (.v (.int .i64 (List.length l1:Int)))),(12,.d (.v (.int .i64 v23)))],[(3,.row 82 2 (List.map TRun.e some24))]⟩) () h (sP) ?_;rintro N ⟨v23,some24⟩ _ h;refine wQ<|wR<|wS (LR.lss rfl rfl) rfl<|wN<|wQ ?_;refine wC rfl (fun hc25=>?_) (fun hc25=>?_)
  ·replace h:=iT hc25 h;refine wK<|wQ ?_;refine wJ (iBind h) (fun (some26:List TRun) (_:Unit)=>⟨78,[(3,.row 3 (List.length some26)),(10,.d (.sl (List.map TRun.e l1))),(11,.d (.v (.int .i64 (List.length l1:Int)))),(12,.d (.v (.int .i64 v23)))],[(3,.row 82 2 (List.map TRun.e some26))]⟩) (fun h=>?_) ?_
   ·refine wB<|wQ<|wR ?_;replace h:=iIdx h;obtain ⟨x27,hy28,h⟩:=h;refine wS (iX (enc:=TRun.e) (L:=l1) (y:=x27) Tryz.underlying78 Tryz.sizeOf82 rfl rfl hy28 (fun _=>rfl)) rfl<|wS (lE (ys:=[_,_]) Tryz.isAgg82 Tryz.sizeOf82 rfl rfl rfl) rfl<|wS (LR.allocZ (cs:=[_,_]) Tryz.zeroValue82 rfl rfl rfl rfl) rfl<|wS (sB (ns:=[_,_]) Tryz.sizeOf82 rfl rfl rfl rfl rfl rfl rfl) rfl<|wN<|wQ ?_;refine wJ (iBind h) (fun (v29:Bool) (_:Unit)=>⟨78,[(3,.row 3 (List.length some24)),(5,.ref 5 0),(10,.d (.sl (List.map TRun.e l1))),(11,.d (.v (.int .i64 (List.length l1:Int)))),(12,.d (.v (.int .i64 v23))),(30,.d (.v (.bool v29)))],[(3,.row 82 2 (List.map TRun.e some24)),(5,.cells 82 [.d (.v (.int .u64 x27.lo)),.d (.v (.int .u64 x27.hi))])]⟩) (fun h=>?_) ?_
    ·refine wR<|wS (fR Tryz.underlying82 rfl Tryz.sizeOf29 (by decide) rfl rfl) rfl<|wS (lD Tryz.isAgg29 rfl rfl rfl) rfl<|wS (LR.gtr rfl rfl) rfl<|wm ?_;refine wL (d:=19) rfl (fun hg30=>?_) (fun hg30=>?_)
     ·replace h:=iT hg30 h;refine wT (fR Tryz.underlying82 rfl Tryz.sizeOf29 (by decide) rfl rfl) rfl rfl rfl<|wT (lD Tryz.isAgg29 rfl rfl rfl) rfl rfl rfl<|wT (fR Tryz.underlying82 rfl Tryz.sizeOf29 (by decide) rfl rfl) rfl rfl rfl<|wT (lD Tryz.isAgg29 rfl rfl rfl) rfl rfl rfl<|wT (LR.leq rfl rfl) rfl rfl rfl<|wS (pT rfl rfl) rfl<|wm ?_;refine wL (d:=26) rfl (fun hg31=>?_) (fun hg31=>?_)
      ·replace h:=iT hg31 h;refine wy (tl:=[(3,_),(5,_),(10,_),(11,_),(12,_),(20,_),(21,_),(22,_),(23,_),(24,_),(26,_)]) (to:=[(3,_),(5,_)]) ?_;refine wT (fR Tryz.underlying82 rfl Tryz.sizeOf29 (by decide) rfl rfl) rfl rfl rfl<|wT (lD Tryz.isAgg29 rfl rfl rfl) rfl rfl rfl<|wT (LR.leq rfl rfl) rfl rfl rfl<|wS (pT rfl rfl) rfl<|wN ?_;exact ⟨(decide (x27.hi ≤ 281474976710655)),(),h,sP⟩
      ·replace h:=iF hg31 h;refine wy (tl:=[(3,_),(5,_),(10,_),(11,_),(12,_),(20,_),(21,_),(22,_),(23,_),(24,_),(26,_)]) (to:=[(3,_),(5,_)]) ?_;refine wf<|wf<|wf<|wS (pF rfl rfl) rfl<|wN ?_;exact ⟨false,(),h,sP⟩
     ·replace h:=iF hg30 h;refine wf<|wf<|wf<|wf<|wf<|wS (pF rfl rfl) rfl<|wm ?_;refine wf<|wy (tl:=[(3,_),(5,_),(10,_),(11,_),(12,_),(20,_),(21,_),(22,_),(23,_),(24,_),(26,_),(27,_)]) (to:=[(3,_),(5,_)]) ?_;refine wf<|wf<|wS (pF rfl rfl) rfl<|wN ?_;exact ⟨false,(),h,sP⟩
    ·rintro v29 _ h;refine wC rfl (fun hc32=>?_) (fun hc32=>?_)
     ·replace h:=iT hc32 h;refine wR<|wm ?_;refine wS (lA (ps:=[_,_]) Tryz.isAgg82 Tryz.sizeOf82 rfl rfl rfl rfl) rfl<|wS (LR.buildSliceD [.tmp 32] elem78 rfl rfl (.cons rfl rfl rfl<|.nil) (by decide) (by decide)) rfl ?_;replace h:=iNeed h;obtain ⟨hy33,h⟩:=h;refine wS (LR.appT (enc:=TRun.e) (L:=some24) (R:=[x27]) [3,31] elem78 Tryz.underlying78 rfl rfl rfl (Src.slT (enc:=TRun.e) (R:=[x27]) rfl (fun _=>rfl)) (fun _=>rfl) hy33 rfl rfl) rfl<|wa ?_;refine wN ?_;exact ⟨(some24 ++ [x27]),(),h,sP⟩
     ·replace h:=iF hc32 h;refine wK ?_;exact ⟨some24,(),h,sP⟩
   ·rintro some26 _ h;refine wR<|wS (LR.addW rfl rfl) rfl<|wm ?_;refine wN ?_;exact ⟨((IntKind.i64.wrap (v23 + 1)),some26),(),h,sP⟩
  ·replace h:=iF hc25 h;refine wZ ?_;exact ⟨some24,(),h,sP⟩
 ·rintro some2 _ h;refine wQ<|wR<|wm ?_;replace h:=iNeed h;obtain ⟨hy35,h⟩:=h;refine PWl.sortFn (encD:=TRun.e) (enc:=TRun.v) (l:=some2) srt239_240 (fun _=>rfl) TRun.v1 (fun _=>rfl) rfl Tryz.call239 rfl rfl rfl (by simp) hy35 rfl (fun s34 hy36 hy37=>?_);replace h:=iSrt h s34 hy36 hy37;have hy36l:=hy36.length_eq;refine wN<|wQ<|wR<|wS (aR 82 2 rfl) rfl<|wN<|wQ<|wQ<|wR<|wm ?_;refine wS (LR.lenRow Tryz.underlying78 rfl) rfl<|wm ?_;refine wN ?_;refine wJ (iBind h) (fun (out38:List TRun) (_:Unit)=>⟨78,[(6,.row 6 (List.length out38))],[(6,.row 82 2 (List.map TRun.e out38))]⟩) (fun h=>?_) ?_
  ·refine wB ?_;refine wM (fun (⟨v69,out70⟩:Int × List TRun) (_:Unit)=>⟨78,[(6,.row 6 (List.length out70)),(38,.row 3 (List.length some2)),(39,.d (.v (.int .i64 ((List.length some2):Int)))),(40,.d (.v (.int .i64 v69)))],[(3,.row 82 2 (List.map TRun.e s34)),(6,.row 82 2 (List.map TRun.e out70))]⟩) () h (sO rfl (.cons rfl rfl<|.cons rfl (by first | rfl | (simp;done) | (congr 1;first | (simp;done) | (simp;omega) | omega))<|.c2 rfl rfl rfl rfl<|.nil) (.c2 rfl rfl rfl rfl<|.nil)) ?_;rintro N ⟨v69,out70⟩ _ h;refine wQ<|wR<|wS (LR.lss rfl rfl) rfl<|wN<|wQ ?_;refine wC rfl (fun hc71=>?_) (fun hc71=>?_)
   ·replace h:=iT hc71 h;refine wK<|wQ ?_;refine wJ (iBind h) (fun (out72:List TRun) (_:Unit)=>⟨78,[(6,.row 6 (List.length out72)),(38,.row 3 (List.length some2)),(39,.d (.v (.int .i64 ((List.length some2):Int)))),(40,.d (.v (.int .i64 v69)))],[(3,.row 82 2 (List.map TRun.e s34)),(6,.row 82 2 (List.map TRun.e out72))]⟩) (fun h=>?_) ?_
    ·refine wB<|wQ<|wR ?_;replace h:=iIdx h;obtain ⟨x73,hy74,h⟩:=h;refine wS (LR.idxRowT (L:=s34) (y:=x73) Tryz.underlying78 Tryz.sizeOf82 rfl (by first | (simp;done) | (simp;omega) | omega) rfl hy74) rfl ?_;refine wS (LR.loadRpT (enc:=TRun.e) (L:=s34) (y:=x73) Tryz.isAgg82 Tryz.sizeOf82 rfl rfl hy74.2) rfl<|wS (LR.allocZ (cs:=[_,_]) Tryz.zeroValue82 rfl rfl rfl rfl) rfl<|wS (sB (ns:=[_,_]) Tryz.sizeOf82 rfl rfl rfl rfl rfl rfl rfl) rfl<|wN<|wQ<|wQ<|wR<|wm ?_;refine wS (LR.lenRow Tryz.underlying78 rfl) rfl<|wS (LR.subW rfl rfl) rfl<|wa ?_;refine wN<|wQ ?_;refine wJ (iBind h) (fun (v75:Bool) (_:Unit)=>⟨78,[(6,.row 6 (List.length out70)),(8,.ref 8 0),(9,.d (.v (.int .i64 ((IntKind.i64.wrap (((List.length out70):Int) - 1)))))),(38,.row 3 (List.length some2)),(39,.d (.v (.int .i64 ((List.length some2):Int)))),(40,.d (.v (.int .i64 v69))),(59,.d (.v (.bool v75)))],[(3,.row 82 2 (List.map TRun.e s34)),(6,.row 82 2 (List.map TRun.e out70)),(8,.cells 82 [.d (.v (.int .u64 x73.lo)),.d (.v (.int .u64 x73.hi))])]⟩) (fun h=>?_) ?_
     ·refine wD (by kernel_rfl) (by kernel_rfl) ?_;refine qS (fun _ he ho=>mV (he rfl rfl)) rfl ?_;refine qS (fun _ he ho=>LR.geq (he rfl rfl) (he rfl rfl)) rfl ?_;refine qS (fun _ he ho=>mV (he rfl rfl)) rfl ?_;refine PQl.split (d:=49) rfl (fun hg76=>?_) (fun hg76=>?_)
      ·replace h:=iT hg76 h;refine qT (fun _ he ho=>fR Tryz.underlying82 rfl Tryz.sizeOf29 (by decide) rfl (he rfl rfl)) rfl rfl rfl ?_;refine qT (fun _ he ho=>lD Tryz.isAgg29 (he rfl rfl) (ho rfl) rfl) rfl rfl rfl ?_;refine qT (fun _ he ho=>mV (he rfl rfl)) rfl rfl rfl ?_;refine qT (fun _ he ho=>mV (he rfl rfl)) rfl rfl rfl ?_;replace h:=iIdx h;obtain ⟨x77,hy78,h⟩:=h;refine qT (fun _ he ho=>LR.idxRowT (L:=out70) (y:=x77) Tryz.underlying78 Tryz.sizeOf82 (he rfl rfl) rfl (he rfl rfl) hy78) rfl rfl rfl ?_;refine qT (fun _ he ho=>LR.fieldRp Tryz.underlying82 rfl Tryz.sizeOf29 (by decide) rfl (he rfl rfl)) rfl rfl rfl ?_;refine qT (fun _ he ho=>LR.loadRpF (enc:=TRun.e) (L:=out70) (y:=x77) Tryz.isAgg29 (he rfl rfl) (ho rfl) hy78.2 rfl) rfl rfl rfl ?_;refine qT (fun _ he ho=>LR.addW (he rfl rfl) (he rfl rfl)) rfl rfl rfl ?_;refine qT (fun _ he ho=>LR.leq (he rfl rfl) (he rfl rfl)) rfl rfl rfl ?_;refine qS (fun _ he ho=>pT (he rfl rfl) (he rfl rfl)) rfl<|qN ?_;exact ⟨(decide (x73.lo ≤ (IntKind.u64.wrap (x77.hi + 1)))),(),h,sO rfl (.c2 rfl rfl rfl rfl<|.cons rfl rfl<|.cons rfl (by first | rfl | (simp;done) | (congr 1;first | (simp;done) | (simp;omega) | omega))<|.c2 rfl rfl rfl rfl<|.cons rfl rfl<|.nil) (.c2 rfl rfl rfl rfl<|.cons rfl rfl<|.nil)⟩
      ·replace h:=iF hg76 h;refine qF rfl rfl rfl (by decide)<|qF rfl rfl rfl (by decide)<|qF rfl rfl rfl (by decide)<|qF rfl rfl rfl (by decide)<|qF rfl rfl rfl (by decide)<|qF rfl rfl rfl (by decide)<|qF rfl rfl rfl (by decide)<|qF rfl rfl rfl (by decide)<|qF rfl rfl rfl (by decide) ?_;refine qS (fun _ he ho=>pF (he rfl rfl) (he rfl rfl)) rfl<|qN ?_;exact ⟨false,(),h,sO rfl (.c2 rfl rfl rfl rfl<|.cons rfl rfl<|.cons rfl (by first | rfl | (simp;done) | (congr 1;first | (simp;done) | (simp;omega) | omega))<|.c2 rfl rfl rfl rfl<|.cons rfl rfl<|.nil) (.c2 rfl rfl rfl rfl<|.cons rfl rfl<|.nil)⟩
     ·rintro v75 _ h;refine wC rfl (fun hc79=>?_) (fun hc79=>?_)
      ·replace h:=iT hc79 h;refine wQ<|wz (tl:=[(6,_),(8,_),(9,_),(38,_),(39,_),(40,_)]) (to:=[(3,_),(6,_),(8,_)]) ?_;refine PWc.regionE [⟨[60],[],[],[],[],[6],[],[]⟩,{ws:=[61]},⟨[62],[],[],[],[],[6],[],[]⟩,{ws:=[63]},⟨[64],[],[],[],[],[6],[],[]⟩,⟨[65],[],[],[],[],[6],[],[]⟩,⟨[66],[],[6],[],[],[],[],[]⟩,⟨[67],[],[],[],[],[8],[],[]⟩,⟨[68],[],[8],[],[],[],[],[]⟩,{ws:=[69]},⟨[70],[],[],[],[],[6],[],[]⟩,⟨[71],[],[],[],[],[6],[],[]⟩,⟨[],[6],[6],[],[],[],[],[]⟩] (by kernel_rfl) (by kernel_rfl) rfl ?_;refine PQe.stepP (fun _ he ho=>mV (he rfl rfl)) (.inl rfl) rfl ?_;refine PQe.stepP (fun _ he ho=>mV (he rfl rfl)) (.inl rfl) rfl ?_;refine PQe.stepP (fun _ he ho=>mV (he rfl rfl)) (.inl rfl) rfl ?_;refine PQe.stepP (fun _ he ho=>mV (he rfl rfl)) (.inl rfl) rfl ?_;replace h:=iIdx h;obtain ⟨x80,hy81,h⟩:=h;refine PQe.stepP (fun _ he ho=>LR.idxRowT (L:=out70) (y:=x80) Tryz.underlying78 Tryz.sizeOf82 (he rfl rfl) rfl (he rfl rfl) hy81) (.inl rfl) rfl ?_;refine PQe.stepP (fun _ he ho=>LR.fieldRp Tryz.underlying82 rfl Tryz.sizeOf29 (by decide) rfl (he rfl rfl)) (.inl rfl) rfl ?_;refine PQe.stepP (fun _ he ho=>LR.loadRpF (enc:=TRun.e) (L:=out70) (y:=x80) Tryz.isAgg29 (he rfl rfl) (ho rfl rfl) hy81.2 rfl) (.inl rfl) rfl ?_;refine PQe.stepP (fun _ he ho=>fR Tryz.underlying82 rfl Tryz.sizeOf29 (by decide) rfl (he rfl rfl)) (.inl rfl) rfl ?_;refine PQe.stepP (fun _ he ho=>lD Tryz.isAgg29 (he rfl rfl) (ho rfl rfl) rfl) (.inl rfl) rfl ?_;refine PQe.stepP (fun _ he ho=>LR.maxI (he rfl rfl) (he rfl rfl)) (.inl rfl) rfl ?_;replace h:=iIdx h;obtain ⟨x82,hy83,h⟩:=h;refine PQe.stepP (fun _ he ho=>LR.idxRowT (L:=out70) (y:=x82) Tryz.underlying78 Tryz.sizeOf82 (he rfl rfl) rfl (he rfl rfl) hy83) (.inl rfl) rfl ?_;refine PQe.stepP (fun _ he ho=>LR.fieldRp Tryz.underlying82 rfl Tryz.sizeOf29 (by decide) rfl (he rfl rfl)) (.inl rfl) rfl ?_;refine PQe.stepS (fun _ he ho=>LR.storeRpT (enc:=TRun.e) (L:=out70) (a:=x82) (b:=(⟨x82.lo,(max x80.hi x73.hi)⟩:TRun)) Tryz.sizeOf29 (he rfl rfl) (he rfl rfl) rfl rfl (ho rfl rfl) hy83.2 rfl rfl) (.inl rfl) rfl<|PQe.nil<|wZ ?_;exact ⟨(List.set out70 ((Int.toNat ((IntKind.i64.wrap (((List.length out70):Int) - 1))))) (⟨x82.lo,(max x80.hi x73.hi)⟩:TRun)),(),h,sO rfl (.cons rfl (by first | rfl | (simp;done) | (congr 1;first | (simp;done) | (simp;omega) | omega))<|.cons rfl (by first | rfl | (simp;done) | (congr 1;first | (simp;done) | (simp;omega) | omega))<|.c2 rfl rfl rfl rfl<|.nil) (.c2 rfl rfl rfl rfl<|.nil)⟩
      ·replace h:=iF hc79 h;refine wK<|wR<|wm ?_;refine wS (lA (ps:=[_,_]) Tryz.isAgg82 Tryz.sizeOf82 rfl rfl rfl rfl) rfl<|wS (LR.buildSliceD [.tmp 73] elem78 rfl rfl (.cons rfl rfl rfl<|.nil) (by decide) (by decide)) rfl ?_;replace h:=iNeed h;obtain ⟨hy84,h⟩:=h;refine wS (LR.appT (enc:=TRun.e) (L:=out70) (R:=[x73]) [6,72] elem78 Tryz.underlying78 rfl rfl rfl (Src.slT (enc:=TRun.e) (R:=[x73]) rfl (fun _=>rfl)) (fun _=>rfl) hy84 rfl rfl) rfl<|wa ?_;refine wN ?_;exact ⟨(out70 ++ [x73]),(),h,sO rfl (.cons rfl rfl<|.cons rfl (by first | rfl | (simp;done) | (congr 1;first | (simp;done) | (simp;omega) | omega))<|.c2 rfl rfl rfl rfl<|.nil) (.c2 rfl rfl rfl rfl<|.nil)⟩
    ·rintro out72 _ h;refine wR<|wS (LR.addW rfl rfl) rfl<|wm ?_;refine wN ?_;exact ⟨((IntKind.i64.wrap (v69 + 1)),out72),(),h,sO rfl (.cons rfl rfl<|.cons rfl (by first | rfl | (simp;done) | (congr 1;first | (simp;done) | (simp;omega) | omega))<|.c2 rfl rfl rfl rfl<|.nil) (.c2 rfl rfl rfl rfl<|.nil)⟩
   ·replace h:=iF hc71 h;refine wZ ?_;exact ⟨out70,(),h,sP⟩
  ·rintro out38 _ h;refine wQ<|wR<|wm ?_;refine wa ?_;refine wN<|wX ?_;replace h:_ = r0:=h;subst h;exact ⟨.inr rfl,2,rfl,.inr ⟨6,_,rfl,(by simp),rfl⟩⟩

theorem cmp_isNaN_uint16_ok (x1:Int) (r0:Bool) (h:(cmp_isNaN_uint16 x1).wp (· = r0)):PFun Tryz.prog 219 [.d (.v (.int .u16 x1))] (.d (.v (.bool r0))):=by
 refine fI (sl:=[(0,_)]) Tryz.func219 rfl Tryz.ntmps219 rfl rfl ?_;intro ctx hK;refine wQ<|wR<|wa ?_;refine wN<|wQ<|wR<|wm ?_;refine wm ?_;refine wS (nQ rfl rfl) rfl<|wa ?_;refine wN<|wX ?_;replace h:_ = r0:=h;subst h;exact ⟨.inr rfl,_,.cons (.tmp rfl rfl)<|.nil,rfl⟩
end Go.Proofs

namespace Go.Proofs
open Go.Ep
set_option maxHeartbeats 1000000
set_option maxRecDepth 100000
set_option linter.unusedVariables false
set_option linter.unusedSimpArgs false


theorem cmp_Compare_uint16_ok (x1:Int) (y2:Int) (r0:Int) (h:(cmp_Compare_uint16 x1 y2).wp (· = r0)):PFun Tryz.prog 177 [.d (.v (.int .u16 x1)),.d (.v (.int .u16 y2))] (.d (.v (.int .i64 r0))):=by
 refine fI (sl:=[(0,_),(1,_)]) Tryz.func177 rfl Tryz.ntmps177 rfl rfl ?_;intro ctx hK;refine wQ<|wR<|wa ?_;refine wN<|wQ<|wR<|wm ?_;replace h:=iDet h;obtain ⟨v3,hy4,h⟩:=h;refine wS (cN (cmp_isNaN_uint16_ok x1 v3 hy4) rfl Tryz.call219 rfl rfl rfl rfl) rfl<|wa ?_;refine wN<|wQ<|wR<|wm ?_;replace h:=iDet h;obtain ⟨v5,hy6,h⟩:=h;refine wS (cN (cmp_isNaN_uint16_ok y2 v5 hy6) rfl Tryz.call219 rfl rfl rfl rfl) rfl<|wa ?_;refine wN<|wQ<|wQ<|wR<|wm ?_;refine wN ?_;refine wC rfl (fun hc7=>?_) (fun hc7=>?_)
 ·replace h:=iT hc7 h;refine wQ<|wQ<|wR<|wm ?_;refine wN ?_;refine wC rfl (fun hc8=>?_) (fun hc8=>?_)
  ·replace h:=iT hc8 h;refine wQ<|wR<|wa ?_;refine wN<|wX ?_;replace h:_ = r0:=h;subst h;exact ⟨.inr rfl,_,.cons (.tmp rfl rfl)<|.nil,rfl⟩
  ·replace h:=iF hc8 h;refine wK<|wQ<|wR<|wa ?_;refine wN<|wX ?_;replace h:_ = r0:=h;subst h;exact ⟨.inr rfl,_,.cons (.tmp rfl rfl)<|.nil,rfl⟩
 ·replace h:=iF hc7 h;refine wK<|wQ<|wQ<|wR<|wm ?_;refine wN ?_;refine wC rfl (fun hc9=>?_) (fun hc9=>?_)
  ·replace h:=iT hc9 h;refine wQ<|wR<|wa ?_;refine wN<|wX ?_;replace h:_ = r0:=h;subst h;exact ⟨.inr rfl,_,.cons (.tmp rfl rfl)<|.nil,rfl⟩
  ·replace h:=iF hc9 h;refine wK<|wQ<|wQ<|wR<|wm ?_;refine wm ?_;refine wS (LR.lss rfl rfl) rfl<|wN ?_;refine wC rfl (fun hc10=>?_) (fun hc10=>?_)
   ·replace h:=iT hc10 h;refine wQ<|wR<|wa ?_;refine wN<|wX ?_;replace h:_ = r0:=h;subst h;exact ⟨.inr rfl,_,.cons (.tmp rfl rfl)<|.nil,rfl⟩
   ·replace h:=iF hc10 h;refine wK<|wQ<|wQ<|wR<|wm ?_;refine wm ?_;refine wS (LR.gtr rfl rfl) rfl<|wN ?_;refine wC rfl (fun hc11=>?_) (fun hc11=>?_)
    ·replace h:=iT hc11 h;refine wQ<|wR<|wa ?_;refine wN<|wX ?_;replace h:_ = r0:=h;subst h;exact ⟨.inr rfl,_,.cons (.tmp rfl rfl)<|.nil,rfl⟩
    ·replace h:=iF hc11 h;refine wK<|wQ<|wR<|wa ?_;refine wN<|wX ?_;replace h:_ = r0:=h;subst h;exact ⟨.inr rfl,_,.cons (.tmp rfl rfl)<|.nil,rfl⟩

theorem ctx_order_ok (m1:List (Int × List TRun)) (r0:List TPart) (h:(ctx_order m1).wp (· = r0)):PRow Tryz.prog 170 [.md [.u16] false (encM kI (eL TRun.e) m1)] 80 2 (List.map TPart.e r0):=by
 refine PRow.intro (sl:=[(0,_)]) Tryz.func170 rfl Tryz.ntmps170 rfl rfl ?_;intro ctx hK;refine wQ<|wR<|wS (aR 80 2 rfl) rfl<|wN<|wQ<|wR<|wS (aR 80 2 rfl) rfl<|wN<|wQ ?_;refine wQ<|wR<|wm ?_;refine PWl.rangeD Tryz.underlying182 rfl rfl rfl (fun bs2 ck2 hbl2 hbn2=>?_);refine wN ?_;refine wJ (iBind h) (fun (c3:List TPart) (_:Unit)=>⟨27,[(3,.row 3 (List.length c3))],[(3,.row 80 2 (List.map TPart.e c3))]⟩) (fun h=>?_) ?_
 ·refine wB<|wM (fun (⟨seen28,c29⟩:List Nat × List TPart) (_:Unit)=>⟨27,[(3,.row 3 (List.length c29)),(7,.ref 7 0)],[(3,.row 80 2 (List.map TPart.e c29)),(7,.iterD [.u16] false (encM kI (eL TRun.e) m1) bs2 ck2 seen28)]⟩) () h (sP) ?_;rintro N ⟨seen28,c29⟩ _ h;refine wQ<|wR ?_;replace h:=iNeed h;obtain ⟨hy40,h⟩:=h;replace h:=iNxt h;refine PWl.nextD rfl rfl (nxtD hy40) rfl (fun hy31=>?_) (fun j30 hy32 hy33=>?_)
  ·replace h:=h.1 (nxtA hy31);refine wS (LR.extract rfl rfl) rfl<|wN<|wQ<|PWc.condF rfl<|wZ ?_;exact ⟨c29,(),h,sP⟩
  ·replace h:=h.2 j30 (nxtB hy32) hy33;refine wS (LR.extract rfl rfl) rfl<|wN<|wQ<|PWc.condT rfl<|wK<|wB<|wQ<|wR ?_;replace h:=iIdx h;obtain ⟨kv34,hy35,h⟩:=h;refine wS (LR.entryD rfl rfl (entGet hy35) rfl rfl) rfl<|wS (LR.extract rfl rfl) rfl<|wS (LR.extract rfl rfl) rfl<|wa ?_;refine wa ?_;refine wN<|wQ<|wR<|wm ?_;replace h:=iDet h;obtain ⟨v36,hy37,h⟩:=h;refine wS (LR.rowN (runs_Norm_ok kv34.2 v36 hy37) rfl Tryz.call207 rfl rfl rfl rfl) rfl<|wa ?_;refine wN<|wQ<|wR<|wm ?_;refine wS (LR.lenRow Tryz.underlying78 rfl) rfl<|wS (LR.gtr rfl rfl) rfl<|wN ?_;refine wC rfl (fun hc38=>?_) (fun hc38=>?_)
   ·replace h:=iT hc38 h;refine wR<|wm ?_;refine wm ?_;refine wm ?_;refine PWl.frz [5,14,15,20] hK (.cons rfl<|.cons rfl<|.cons rfl<|.cons rfl<|.nil) rfl (by simp) ?_;refine wS (LR.build (ns:=[_,_]) build80 rfl rfl rfl) rfl<|wS (LR.buildSliceD [.tmp 21] elem42 rfl rfl (.cons rfl rfl rfl<|.nil) (by decide) (by decide)) rfl ?_;replace h:=iNeed h;obtain ⟨hy39,h⟩:=h;refine wS (LR.appT (enc:=TPart.e) (L:=c29) (R:=[(⟨kv34.1,v36⟩:TPart)]) [3,18] elem42 Tryz.underlying42 rfl rfl rfl (Src.slT (enc:=TPart.e) (R:=[(⟨kv34.1,v36⟩:TPart)]) rfl (fun _=>rfl)) (fun _=>rfl) hy39 rfl rfl) rfl<|wy (tl:=[(7,_),(23,_)]) (to:=[(3,_),(7,_)]) ?_;refine wa ?_;refine wN ?_;exact ⟨((seen28 ++ [j30]),(c29 ++ [(⟨kv34.1,v36⟩:TPart)])),(),h,sP⟩
   ·replace h:=iF hc38 h;refine wK ?_;exact ⟨((seen28 ++ [j30]),c29),(),h,sP⟩
 ·rintro c3 _ h;refine wQ<|wR<|wm ?_;replace h:=iNeed h;obtain ⟨hy42,h⟩:=h;refine PWl.sortFnR (encD:=TPart.e) (enc:=RawTPart.v) (lt:=ltPart) (R:=RawTPart.R) (l:=c3) srt212_213 RawTPart.raw rlt212 (fun _=>rfl) (fun _=>rfl) rfl Tryz.call212 rfl rfl rfl (by simp) hy42 rfl (fun s41 hy43 hy44=>?_);replace h:=iSrt h s41 hy43 hy44;have hy43l:=hy43.length_eq;refine wN<|wQ<|wR<|wm ?_;refine wa ?_;refine wN<|wX ?_;replace h:_ = r0:=h;subst h;exact ⟨.inr rfl,2,rfl,.inr ⟨3,_,rfl,(by first | (simp;done) | (simp;omega) | omega),rfl⟩⟩

theorem ctx_told_ok (c1:List TPart) (r0:List (Int × List TRun)) (h:(ctx_told c1).wp (· = r0)):PMap Tryz.prog 171 [.d (.sl (List.map TPart.e c1))] [.u16] false (encM kI (eL TRun.e) r0):=by
 refine PMap.intro (sl:=[(0,_)]) Tryz.func171 rfl Tryz.ntmps171 rfl rfl ?_;intro ctx hK;refine wQ<|wR<|wa ?_;refine wN<|wQ<|wR<|wS (LR.makeMap [.u16] false rfl) rfl<|wa ?_;refine wN<|wQ<|wQ<|wR<|wm ?_;refine wS (lM (enc:=TPart.e) (L:=c1) Tryz.underlying42 rfl) rfl<|wm ?_;refine wN<|wB ?_;replace h:=iNeed h;obtain ⟨hy10,h⟩:=h;have hN:=hy10.1;refine PWc.loopRows (bid:=0) (N:=List.length c1) (mid:=6) (n:=28) (ks:=[.u16]) (e:=82) (k:=2) (fun i=>[(3,.mp 6),(7,.d (.sl (List.map TPart.e c1))),(8,.d (.v (.int .i64 (List.length c1:Int)))),(9,.d (.v (.int .i64 (i:Int))))]) (fun i=>rowsOf kI TRun.e (AL.grow [] ((List.take i c1).filterMap ctx_toldF))) [(3,.mp 6)] [] 0 hK (by decide) (fun i x hx id h=>by simp only [List.mem_cons,List.not_mem_nil,or_false] at hx;rcases hx with rfl | rfl | rfl | rfl <;> first | (simp [PV.has] at h;done) | (simp [PV.has] at h;exact h.symm) | (simp [PV.has] at h;omega)) rfl (fun i=>rowsOf_plain (fun x d hd=>by simp only [TRun.e,List.mem_cons,List.not_mem_nil,or_false] at hd;rcases hd with rfl | rfl <;> exact ⟨_,rfl⟩) _) (sP) (fun i hi=>?_) (encM kI (eL TRun.e) (AL.grow ([]:List (Int × List TRun)) (List.filterMap ctx_toldF c1))) (by simp only [List.take_length];exact rowsM_of _) (fun ctx vm bs ck=>?_) (fun bs ck=>?_)
 ·obtain ⟨p,hp⟩:∃ p,c1[i]? = some p:=⟨_,List.getElem?_eq_getElem hi⟩
  have hidx:(0:Int) ≤ (i:Int) ∧ c1[(i:Int).toNat]? = some p:=⟨by omega,by simpa using hp⟩
  have htk:=AL.grow_take hp ctx_toldF;have hwi:=wrapNat (i:=i) (by omega)
  by_cases hd:0 < p.dev
  ·have hf:ctx_toldF p = some (p.dev,p.runs):=by simp [ctx_toldF,hd]
   have hbd:=AL.grow_bound hy10 hp hf;rw [hf] at htk;rcases pfind_rows (eK:=kI) (enc:=TRun.e) kI_inj (p.dev) (AL.grow [] ((List.take i c1).filterMap ctx_toldF)) with ⟨j,l,h1,h2,h3,h4⟩ | ⟨h1,h2,h3⟩
   ·simp only [h3] at hbd;refine .found (nl:=List.length l) (nl':=(List.length (l ++ p.runs))) (l:=(List.map TRun.e l)) (l':=(List.map TRun.e (l ++ p.runs))) (by simp) (by simp) h2 (by rw [htk];simp only [AL.grow,Option.toList,List.foldl] at h3 h4 ⊢;rw [h3];exact h4 _) fun ctx vm bs ck hvm=>?_
    have hpf:pfind (kI (p.dev)) (keysP vm) 0 = some j:=by rw [keysP_fst hvm];exact h1
    have h:(M.bind (M.idx c1 (i:Int)) fun x2=>M.need ((List.length l + List.length x2.runs) * 16 ≤ 140737488355328)<|M.pure ()).wp (fun _=>True):=⟨p,hidx,hbd,trivial⟩
    refine wQ<|wR<|wS (LR.lss rfl rfl) rfl<|wN<|wQ<|PWc.condT (congrArg (fun b=>some (PV.d (.v (.bool b)))) (decide_eq_true (Int.ofNat_lt.2 hi)))<|wK<|wQ<|wB ?_;refine wQ<|wR ?_;replace h:=iIdx h;obtain ⟨x2,hy3,h⟩:=h;have hE:=idxU hy3 hidx;subst hE;refine wS (iX (enc:=TPart.e) (L:=c1) (y:=x2) Tryz.underlying42 Tryz.sizeOf80 rfl rfl hy3 (fun _=>rfl)) rfl<|wS (lE (ys:=[_,_]) Tryz.isAgg80 Tryz.sizeOf80 rfl rfl rfl) rfl<|wS (LR.allocZ (cs:=[_,_]) Tryz.zeroValue80 rfl rfl rfl rfl) rfl<|wS (sB (ns:=[_,_]) Tryz.sizeOf80 rfl rfl rfl rfl rfl rfl rfl) rfl<|wN<|wQ<|wR<|wS (fR Tryz.underlying80 rfl Tryz.sizeOf28 (by decide) rfl rfl) rfl<|wS (lD Tryz.isAgg28 rfl rfl rfl) rfl ?_;refine wS (LR.gtr rfl rfl) rfl<|wN<|PWc.condT (congrArg (fun b=>some (PV.d (.v (.bool b)))) (decide_eq_true hd))<|wz (tl:=[(3,_),(5,_),(7,_),(8,_),(9,_)]) (to:=[(5,_),(6,_),(50,_)]) ?_;refine PWc.regionE [⟨[16],[],[],[],[],[6],[],[]⟩,⟨[17],[],[],[],[],[5],[],[]⟩,⟨[18],[],[5],[],[],[],[],[]⟩,⟨[19],[],[],[],[],[6],[],[]⟩,⟨[20],[],[],[],[],[5],[],[]⟩,⟨[21],[],[5],[],[],[],[],[]⟩,⟨[22],[],[6],[],[],[50],[],[]⟩,⟨[23],[],[],[],[],[5],[],[]⟩,⟨[24],[],[5],[],[],[],[],[]⟩,⟨[22,25],[6,50],[6,50],[],[(50,[22])],[50],[],[6]⟩,⟨[],[6],[6,50],[],[],[],[50],[]⟩] (by kernel_rfl) (by kernel_rfl) rfl ?_;refine PQe.stepP (fun _ he ho=>mV (he rfl rfl)) (.inl rfl) rfl ?_;refine PQe.stepP (fun _ he ho=>fR Tryz.underlying80 rfl Tryz.sizeOf28 (by decide) rfl (he rfl rfl)) (.inl rfl) rfl ?_;refine PQe.stepP (fun _ he ho=>lD Tryz.isAgg28 (he rfl rfl) (ho rfl rfl) rfl) (.inl rfl) rfl ?_;refine PQe.stepP (fun _ he ho=>mV (he rfl rfl)) (.inl rfl) rfl ?_;refine PQe.stepP (fun _ he ho=>fR Tryz.underlying80 rfl Tryz.sizeOf28 (by decide) rfl (he rfl rfl)) (.inl rfl) rfl ?_;refine PQe.stepP (fun _ he ho=>lD Tryz.isAgg28 (he rfl rfl) (ho rfl rfl) rfl) (.inl rfl) rfl ?_;refine PQe.stepP (fun _ he ho=>LR.lookupP Tryz.underlying182 key182 (he rfl rfl) (ho rfl rfl) (he rfl rfl) rfl hpf rfl) (.inl rfl) rfl ?_;refine PQe.stepP (fun _ he ho=>fR Tryz.underlying80 rfl Tryz.sizeOf78 (by decide) rfl (he rfl rfl)) (.inl rfl) rfl ?_;refine PQe.stepP (fun _ he ho=>lD Tryz.isAgg78 (he rfl rfl) (ho rfl rfl) rfl) (.inl rfl) rfl ?_;replace h:=iNeed h;obtain ⟨hy4,h⟩:=h;refine PQe.stepX [22] (fun _ he ho ha=>LR.appP (enc:=TRun.e) (L:=l) (R:=x2.runs) [22] elem78 Tryz.underlying78 (he rfl rfl) rfl (ho rfl rfl) (ho rfl rfl) rfl (fun _ h1 h2=>Src.slT (enc:=TRun.e) (R:=x2.runs) (evSame h1 h2 (he rfl rfl)) (fun _=>rfl)) (fun _=>rfl) hy4 rfl ha) rfl rfl (.inl rfl) rfl ?_;refine PQe.stepS (fun _ he ho=>LR.mapUpdateP Tryz.underlying182 key182 (he rfl rfl) (ho rfl rfl) (he rfl rfl) rfl rfl (he rfl rfl) hpf) (.inl rfl) rfl<|PQe.nil<|wR<|wS (LR.addW rfl rfl) rfl<|wm ?_;refine wN ?_;exact ⟨rfl,sO rfl (.c2 rfl rfl rfl rfl<|.cons rfl rfl<|.cons rfl (congrArg (fun z=>PV.d (.v (.int .i64 z))) hwi)<|.nil) (.c2 rfl rfl rfl rfl<|.nil)⟩
   ·simp only [h2,List.length_nil,Nat.zero_add] at hbd;refine .fresh (q:=25) (nl':=(List.length p.runs)) (l':=(List.map TRun.e p.runs)) (by simp) (by decide) (by rw [htk];simp only [AL.grow,Option.toList,List.foldl] at h2 h3 ⊢;rw [h2];exact h3 _) fun ctx vm bs ck hvm=>?_
    have hpf:pfind (kI (p.dev)) (keysP vm) 0 = none:=by rw [keysP_fst hvm];exact h1
    have h:(M.bind (M.idx c1 (i:Int)) fun x5=>M.need (List.length x5.runs * 16 ≤ 140737488355328)<|M.pure ()).wp (fun _=>True):=⟨p,hidx,hbd,trivial⟩
    refine wQ<|wR<|wS (LR.lss rfl rfl) rfl<|wN<|wQ<|PWc.condT (congrArg (fun b=>some (PV.d (.v (.bool b)))) (decide_eq_true (Int.ofNat_lt.2 hi)))<|wK<|wQ<|wB ?_;refine wQ<|wR ?_;replace h:=iIdx h;obtain ⟨x5,hy6,h⟩:=h;have hE:=idxU hy6 hidx;subst hE;refine wS (iX (enc:=TPart.e) (L:=c1) (y:=x5) Tryz.underlying42 Tryz.sizeOf80 rfl rfl hy6 (fun _=>rfl)) rfl<|wS (lE (ys:=[_,_]) Tryz.isAgg80 Tryz.sizeOf80 rfl rfl rfl) rfl<|wS (LR.allocZ (cs:=[_,_]) Tryz.zeroValue80 rfl rfl rfl rfl) rfl<|wS (sB (ns:=[_,_]) Tryz.sizeOf80 rfl rfl rfl rfl rfl rfl rfl) rfl<|wN<|wQ<|wR<|wS (fR Tryz.underlying80 rfl Tryz.sizeOf28 (by decide) rfl rfl) rfl<|wS (lD Tryz.isAgg28 rfl rfl rfl) rfl ?_;refine wS (LR.gtr rfl rfl) rfl<|wN<|PWc.condT (congrArg (fun b=>some (PV.d (.v (.bool b)))) (decide_eq_true hd))<|wz (tl:=[(3,_),(5,_),(7,_),(8,_),(9,_)]) (to:=[(5,_),(6,_)]) ?_;refine PWc.regionE [⟨[16],[],[],[],[],[6],[],[]⟩,⟨[17],[],[],[],[],[5],[],[]⟩,⟨[18],[],[5],[],[],[],[],[]⟩,⟨[19],[],[],[],[],[6],[],[]⟩,⟨[20],[],[],[],[],[5],[],[]⟩,⟨[21],[],[5],[],[],[],[],[]⟩,⟨[22],[],[6],[],[],[],[],[]⟩,⟨[23],[],[],[],[],[5],[],[]⟩,⟨[24],[],[5],[],[],[],[],[]⟩,⟨[25],[25],[],[25],[],[25],[],[]⟩,⟨[],[6],[6,25],[],[],[],[25],[]⟩] (by kernel_rfl) (by kernel_rfl) rfl ?_;refine PQe.stepP (fun _ he ho=>mV (he rfl rfl)) (.inl rfl) rfl ?_;refine PQe.stepP (fun _ he ho=>fR Tryz.underlying80 rfl Tryz.sizeOf28 (by decide) rfl (he rfl rfl)) (.inl rfl) rfl ?_;refine PQe.stepP (fun _ he ho=>lD Tryz.isAgg28 (he rfl rfl) (ho rfl rfl) rfl) (.inl rfl) rfl ?_;refine PQe.stepP (fun _ he ho=>mV (he rfl rfl)) (.inl rfl) rfl ?_;refine PQe.stepP (fun _ he ho=>fR Tryz.underlying80 rfl Tryz.sizeOf28 (by decide) rfl (he rfl rfl)) (.inl rfl) rfl ?_;refine PQe.stepP (fun _ he ho=>lD Tryz.isAgg28 (he rfl rfl) (ho rfl rfl) rfl) (.inl rfl) rfl ?_;refine PQe.stepP (fun _ he ho=>LR.lookupPN Tryz.underlying182 key182 (he rfl rfl) (ho rfl rfl) (he rfl rfl) rfl Tryz.zeroValue78 rfl hpf) (.inl rfl) rfl ?_;refine PQe.stepP (fun _ he ho=>fR Tryz.underlying80 rfl Tryz.sizeOf78 (by decide) rfl (he rfl rfl)) (.inl rfl) rfl ?_;refine PQe.stepP (fun _ he ho=>lD Tryz.isAgg78 (he rfl rfl) (ho rfl rfl) rfl) (.inl rfl) rfl ?_;replace h:=iNeed h;obtain ⟨hy7,h⟩:=h;refine PQe.stepN (fun _ he ho hf=>LR.appNilX (enc:=TRun.e) (R:=x5.runs) elem78 Tryz.underlying78 (he rfl rfl) hf (Src.slT (enc:=TRun.e) (R:=x5.runs) (evObjs (he rfl rfl)) (fun _=>rfl)) (fun _=>rfl) hy7 rfl (fresh_alone hf)) rfl (.inl rfl) rfl ?_;refine PQe.stepS (fun _ he ho=>LR.mapUpdatePN Tryz.underlying182 key182 (he rfl rfl) (ho rfl rfl) (he rfl rfl) rfl rfl (he rfl rfl) hpf) (.inl rfl) rfl<|PQe.nil<|wR<|wS (LR.addW rfl rfl) rfl<|wm ?_;refine wN ?_;exact ⟨rfl,sO rfl (.c2 rfl rfl rfl rfl<|.cons rfl rfl<|.cons rfl (congrArg (fun z=>PV.d (.v (.int .i64 z))) hwi)<|.nil) (.c2 rfl rfl rfl rfl<|.nil)⟩
  ·have hf:ctx_toldF p = none:=by simp [ctx_toldF,hd]
   rw [hf] at htk;refine .skip (by rw [htk];rfl) fun ctx vm bs ck=>?_
   have h:(M.bind (M.idx c1 (i:Int)) fun x8=>M.pure ()).wp (fun _=>True):=⟨p,hidx,trivial⟩
   refine wQ<|wR<|wS (LR.lss rfl rfl) rfl<|wN<|wQ<|PWc.condT (congrArg (fun b=>some (PV.d (.v (.bool b)))) (decide_eq_true (Int.ofNat_lt.2 hi)))<|wK<|wQ<|wB ?_;refine wQ<|wR ?_;replace h:=iIdx h;obtain ⟨x8,hy9,h⟩:=h;have hE:=idxU hy9 hidx;subst hE;refine wS (iX (enc:=TPart.e) (L:=c1) (y:=x8) Tryz.underlying42 Tryz.sizeOf80 rfl rfl hy9 (fun _=>rfl)) rfl<|wS (lE (ys:=[_,_]) Tryz.isAgg80 Tryz.sizeOf80 rfl rfl rfl) rfl<|wS (LR.allocZ (cs:=[_,_]) Tryz.zeroValue80 rfl rfl rfl rfl) rfl<|wS (sB (ns:=[_,_]) Tryz.sizeOf80 rfl rfl rfl rfl rfl rfl rfl) rfl<|wN<|wQ<|wR<|wS (fR Tryz.underlying80 rfl Tryz.sizeOf28 (by decide) rfl rfl) rfl<|wS (lD Tryz.isAgg28 rfl rfl rfl) rfl ?_;refine wS (LR.gtr rfl rfl) rfl<|wN<|PWc.condF (congrArg (fun b=>some (PV.d (.v (.bool b)))) (decide_eq_false hd))<|wK<|wR<|wS (LR.addW rfl rfl) rfl<|wm ?_;refine wN ?_;exact ⟨rfl,sO rfl (.c2 rfl rfl rfl rfl<|.cons rfl rfl<|.cons rfl (congrArg (fun z=>PV.d (.v (.int .i64 z))) hwi)<|.nil) (.cons rfl rfl<|.nil)⟩
 ·have h:(M.pure ()).wp (fun _=>True):=trivial;refine wQ<|wR<|wS (LR.lss rfl rfl) rfl<|wN<|wQ<|PWc.condF (congrArg (fun b=>some (PV.d (.v (.bool b)))) (decide_eq_false (by omega))) ?_;refine wZ ?_;exact ⟨rfl,sP⟩
 ·refine wQ<|wR<|wm ?_;refine wa ?_;refine wN<|wX ?_;replace h:_ = r0:=h;subst h;exact ⟨.inr rfl,2,6,_,_,rfl,rfl,rfl⟩

theorem ctx_Norm_ok (c1:List TPart) (r0:List TPart) (h:(ctx_Norm c1).wp (· = r0)):PRow Tryz.prog 98 [.d (.sl (List.map TPart.e c1))] 80 2 (List.map TPart.e r0):=by
 refine PRow.intro (sl:=[(0,_)]) Tryz.func98 rfl Tryz.ntmps98 rfl rfl ?_;intro ctx hK;refine wQ<|wR<|wS (aR 80 2 rfl) rfl<|wN<|wQ<|wR<|wm ?_;replace h:=iDet h;obtain ⟨v2,hy3,h⟩:=h;refine PWl.mapN (ctx_told_ok c1 v2 hy3) rfl Tryz.call171 rfl rfl rfl rfl rfl (fun bs4 ck4 _=>?_);replace h:=iDet h;obtain ⟨v5,hy6,h⟩:=h;refine PWl.frzM [4] hK (.cons rfl<|.nil) rfl<|wS (LR.rowN (ctx_order_ok v2 v5 hy6) rfl Tryz.call170 rfl rfl rfl rfl) rfl<|wy (tl:=[(0,_),(3,_),(4,_),(5,_)]) (to:=[(5,_)]) ?_;refine wa ?_;refine wN<|wX ?_;replace h:_ = r0:=h;subst h;exact ⟨.inr rfl,2,rfl,.inr ⟨5,_,rfl,(by simp),rfl⟩⟩
end Go.Proofs

namespace Go.Proofs
open Go.Ep
set_option maxHeartbeats 1000000
set_option maxRecDepth 100000
set_option linter.unusedVariables false
set_option linter.unusedSimpArgs false


theorem slices_Clone_sl_Dot_Dot_ok (s1:List TDot) (r0:List TDot) (h:(slices_Clone_sl_Dot_Dot s1).wp (· = r0)):PRow Tryz.prog 205 [.d (.sl (List.map TDot.e s1))] 31 2 (List.map TDot.e r0):=by
 refine PRow.intro (sl:=[(0,_)]) Tryz.func205 rfl Tryz.ntmps205 rfl rfl ?_;intro ctx hK;refine wQ<|wR<|wS (aR 31 2 rfl) rfl<|wN<|wQ<|wQ<|wR<|wm ?_;replace h:=iNil h;refine PWl.eqlNilT (enc:=TDot.e) (L:=s1) Tryz.underlying32 rfl rfl (fun b2 hy3=>?_);replace h:=h b2 hy3;refine wN ?_;refine wC rfl (fun hc4=>?_) (fun hc4=>?_)
 ·replace h:=iT hc4 h;refine wQ<|wR<|wy (tl:=[(0,_),(3,_),(4,_)]) (to:=[]) ?_;refine wS (aR 31 2 rfl) rfl<|wN<|wX ?_;replace h:_ = r0:=h;subst h;exact ⟨.inr rfl,2,rfl,.inr ⟨2,_,rfl,(by first | (simp;done) | (simp;omega) | omega),rfl⟩⟩
 ·replace h:=iF hc4 h;refine wK<|wQ<|wR<|wS (LR.buildSlice [] elem32 rfl rfl (.nil) (by decide) (by decide) rfl) rfl<|wm ?_;replace h:=iNeed h;obtain ⟨hy5,h⟩:=h;refine wS (LR.appT (enc:=TDot.e) (L:=([]:List TDot)) (R:=s1) [5] elem32 Tryz.underlying32 rfl (by first | (simp;done) | (simp;omega) | omega) rfl (Src.slT (enc:=TDot.e) (R:=s1) rfl (fun _=>rfl)) (fun _=>rfl) hy5 rfl rfl) rfl ?_;refine wy (tl:=[(0,_),(3,_),(4,_),(6,_),(7,_)]) (to:=[(5,_)]) ?_;refine wa ?_;refine wN<|wX ?_;replace h:_ = r0:=h;subst h;exact ⟨.inr rfl,2,rfl,.inr ⟨5,_,rfl,(by simp),rfl⟩⟩

theorem event_Copy_ok (e1:TEvent) (r0:TEvent) (h:(event_Copy e1).wp (· = r0)):PFun Tryz.prog 161 [.agg (List.map .d (TEvent.e e1))] (.agg (List.map .d (TEvent.e r0))):=by
 refine fI (sl:=[(0,_)]) Tryz.func161 rfl Tryz.ntmps161 rfl rfl ?_;intro ctx hK;refine wQ<|wR<|wS (LR.box rfl rfl rfl rfl) rfl<|wS (LR.allocZ (cs:=[_,_,_,_,_,_,_]) Tryz.zeroValue34 rfl rfl rfl rfl) rfl<|wN<|wQ<|wR<|wS (fR Tryz.underlying34 rfl Tryz.sizeOf32 (by decide) rfl rfl) rfl<|wS (lD Tryz.isAgg32 rfl rfl rfl) rfl ?_;replace h:=iDet h;obtain ⟨v2,hy3,h⟩:=h;refine wS (LR.rowN (slices_Clone_sl_Dot_Dot_ok e1.kills v2 hy3) rfl Tryz.call205 rfl rfl rfl rfl) rfl<|wS (fR Tryz.underlying34 rfl Tryz.sizeOf32 (by decide) rfl rfl) rfl<|PWl.frz [5] hK (.cons rfl<|.nil) rfl (by simp) ?_;refine wS (sB (ns:=[_,_,_,_,_,_,_]) Tryz.sizeOf32 rfl rfl rfl rfl rfl rfl rfl) rfl<|wN<|wQ<|wR<|wS (lA (ps:=[_,_,_,_,_,_,_]) Tryz.isAgg34 Tryz.sizeOf34 rfl rfl rfl rfl) rfl<|wS (sB (ns:=[_,_,_,_,_,_,_]) Tryz.sizeOf34 rfl rfl rfl rfl rfl rfl rfl) rfl<|wN<|wX ?_;replace h:_ = r0:=h;subst h;exact ⟨.inr rfl,_,.cons (.agg Tryz.isAgg34 Tryz.sizeOf34 rfl rfl rfl rfl)<|.nil,rfl⟩

theorem dot_Cmp_ok (a1:TDot) (b2:TDot) (r0:Int) (h:(dot_Cmp a1 b2).wp (· = r0)):PFun Tryz.prog 120 [.agg (List.map .d (TDot.e a1)),.agg (List.map .d (TDot.e b2))] (.d (.v (.int .i64 r0))):=by
 refine fI (sl:=[(0,_),(1,_)]) Tryz.func120 rfl Tryz.ntmps120 rfl rfl ?_;intro ctx hK;refine wQ<|wR<|wS (LR.box rfl rfl rfl rfl) rfl<|wS (LR.box rfl rfl rfl rfl) rfl<|wa ?_;refine wN<|wQ<|wQ<|wR<|wS (fR Tryz.underlying31 rfl Tryz.sizeOf28 (by decide) rfl rfl) rfl<|wS (lD Tryz.isAgg28 rfl rfl rfl) rfl<|wS (fR Tryz.underlying31 rfl Tryz.sizeOf28 (by decide) rfl rfl) rfl<|wS (lD Tryz.isAgg28 rfl rfl rfl) rfl ?_;replace h:=iDet h;obtain ⟨v3,hy4,h⟩:=h;refine wS (cN (cmp_Compare_uint16_ok a1.dev b2.dev v3 hy4) rfl Tryz.call177 rfl rfl rfl rfl) rfl<|wa ?_;refine wN<|wQ<|wR<|wm ?_;refine wS (nQ rfl rfl) rfl<|wN ?_;refine wC rfl (fun hc5=>?_) (fun hc5=>?_)
 ·replace h:=iT hc5 h;refine wQ<|wR<|wm ?_;refine wa ?_;refine wN<|wX ?_;replace h:_ = r0:=h;subst h;exact ⟨.inr rfl,_,.cons (.tmp rfl rfl)<|.nil,rfl⟩
 ·replace h:=iF hc5 h;refine wK<|wQ<|wR<|wS (fR Tryz.underlying31 rfl Tryz.sizeOf29 (by decide) rfl rfl) rfl<|wS (lD Tryz.isAgg29 rfl rfl rfl) rfl<|wS (fR Tryz.underlying31 rfl Tryz.sizeOf29 (by decide) rfl rfl) rfl<|wS (lD Tryz.isAgg29 rfl rfl rfl) rfl ?_;replace h:=iDet h;obtain ⟨v6,hy7,h⟩:=h;refine wS (cN (cmp_Compare_uint64_ok a1.n b2.n v6 hy7) rfl Tryz.call178 rfl rfl rfl rfl) rfl<|wa ?_;refine wN<|wX ?_;replace h:_ = r0:=h;subst h;exact ⟨.inr rfl,_,.cons (.tmp rfl rfl)<|.nil,rfl⟩

end Go.Proofs

namespace Go.Proofs
open Go.Ep
set_option maxHeartbeats 1000000
set_option maxRecDepth 100000
set_option linter.unusedVariables false
set_option linter.unusedSimpArgs false


theorem dot_Good_ok (d1:TDot) (r0:Bool) (h:(dot_Good d1).wp (· = r0)):PFun Tryz.prog 163 [.agg (List.map .d (TDot.e d1))] (.d (.v (.bool r0))):=by
 refine fI (sl:=[(0,_)]) Tryz.func163 rfl Tryz.ntmps163 rfl rfl ?_;intro ctx hK;refine wQ<|wR<|wS (LR.box rfl rfl rfl rfl) rfl<|wa ?_;refine wN<|wQ ?_;refine wJ (iBind h) (fun (v2:Bool) (_:Unit)=>⟨16,[(2,.d (.v (.bool v2)))],[]⟩) (fun h=>?_) ?_
 ·refine wR<|wS (fR Tryz.underlying31 rfl Tryz.sizeOf28 (by decide) rfl rfl) rfl<|wS (lD Tryz.isAgg28 rfl rfl rfl) rfl<|wS (LR.gtr rfl rfl) rfl<|wm ?_;refine wL (d:=6) rfl (fun hg3=>?_) (fun hg3=>?_)
  ·replace h:=iT hg3 h;refine wT (fR Tryz.underlying31 rfl Tryz.sizeOf29 (by decide) rfl rfl) rfl rfl rfl<|wT (lD Tryz.isAgg29 rfl rfl rfl) rfl rfl rfl<|wT (LR.gtr rfl rfl) rfl rfl rfl<|wS (pT rfl rfl) rfl<|wm ?_;refine wL (d:=11) rfl (fun hg4=>?_) (fun hg4=>?_)
   ·replace h:=iT hg4 h;refine wT (fR Tryz.underlying31 rfl Tryz.sizeOf29 (by decide) rfl rfl) rfl rfl rfl<|wT (lD Tryz.isAgg29 rfl rfl rfl) rfl rfl rfl<|wT (LR.leq rfl rfl) rfl rfl rfl<|wS (pT rfl rfl) rfl<|wa ?_;refine wN ?_;exact ⟨(decide (d1.n ≤ 281474976710655)),(),h,sP⟩
   ·replace h:=iF hg4 h;refine wf<|wf<|wf<|wS (pF rfl rfl) rfl<|wa ?_;refine wN ?_;exact ⟨false,(),h,sP⟩
  ·replace h:=iF hg3 h;refine wf<|wf<|wf<|wS (pF rfl rfl) rfl<|wm ?_;refine wf<|wf<|wf<|wS (pF rfl rfl) rfl<|wa ?_;refine wN ?_;exact ⟨false,(),h,sP⟩
 ·rintro v2 _ h;refine wX ?_;replace h:_ = r0:=h;subst h;exact ⟨.inr rfl,_,.cons (.tmp rfl rfl)<|.nil,rfl⟩

theorem slices_Compact_sl_Dot_Dot_o_ok (row1:List TDot) (r0:List TDot) (h:(slices_Compact_sl_Dot_Dot_o row1).wp (· = r0)):PObj Tryz.prog 211 [.row 100 (List.length row1)] [(100,.row 31 2 (List.map TDot.e row1))] [] (.row 100 (List.length r0)) (fun _:Unit=>[(100,.row 31 2 (List.map TDot.e r0))]):=by
 refine PObj.intro (sl:=[(0,_)]) Tryz.func211 rfl Tryz.ntmps211 rfl rfl rfl ?_;intro ctx hK pv;refine wQ<|wR<|wS (aR 31 2 rfl) rfl<|wN<|wQ<|wQ<|wR<|wm ?_;refine wS (LR.lenRow Tryz.underlying32 rfl) rfl<|wS (LR.lss rfl rfl) rfl<|wN ?_;refine wC rfl (fun hc2=>?_) (fun hc2=>?_)
 ·replace h:=iT hc2 h;refine wQ<|wR<|wm ?_;refine wy (tl:=[(0,_),(6,_),(7,_),(8,_),(9,_)]) (to:=[(100,_)]) ?_;refine wa ?_;refine wN<|wX ?_;replace h:_ = r0:=h;subst h;exact EndsO.mk () (.inr rfl) (sO (tl:=[(2,_)]) (to:=[(100,_)]) rfl (.cons rfl (by first | rfl | (simp;done) | (congr 1;first | (simp;done) | (simp;omega) | omega))<|.nil) (.cons rfl rfl<|.nil)) (.cons (.tmp rfl)<|.nil) rfl rfl
 ·replace h:=iF hc2 h;refine wK<|wQ<|wQ<|wR<|wa ?_;refine wN ?_;refine PWc.jnX (iBind h) (fun (_:Unit) (_:Unit)=>⟨61,[(0,.row 100 (List.length row1))],[(100,.row 31 2 (List.map TDot.e row1))]⟩) (fun h=>?_) ?_
  ·refine wB<|wM (fun (k148:Int) (_:Unit)=>⟨61,[(0,.row 100 (List.length row1)),(3,.d (.v (.int .i64 k148)))],[(100,.row 31 2 (List.map TDot.e row1))]⟩) () h (sP) ?_;rintro N k148 _ h;refine wQ<|wQ<|wR<|wm ?_;refine wm ?_;refine wS (LR.lenRow Tryz.underlying32 rfl) rfl<|wS (LR.lss rfl rfl) rfl<|wN ?_;refine wC rfl (fun hc149=>?_) (fun hc149=>?_)
   ·replace h:=iT hc149 h;refine wK<|wQ ?_;refine PWc.jnX (iBind h) (fun (_:Unit) (_:Unit)=>⟨61,[(0,.row 100 (List.length row1)),(3,.d (.v (.int .i64 k148)))],[(100,.row 31 2 (List.map TDot.e row1))]⟩) (fun h=>?_) ?_
    ·refine wB<|wQ<|wD (by kernel_rfl) (by kernel_rfl) ?_;refine qS (fun _ he ho=>mV (he rfl rfl)) rfl ?_;refine qS (fun _ he ho=>mV (he rfl rfl)) rfl ?_;replace h:=iIdx h;obtain ⟨x150,hy151,h⟩:=h;refine qS (fun _ he ho=>LR.idxRowT (L:=row1) (y:=x150) Tryz.underlying32 Tryz.sizeOf31 (he rfl rfl) rfl (he rfl rfl) hy151) rfl ?_;refine qS (fun _ he ho=>LR.loadRpT (enc:=TDot.e) (L:=row1) (y:=x150) Tryz.isAgg31 Tryz.sizeOf31 (he rfl rfl) (ho rfl) hy151.2) rfl ?_;refine qS (fun _ he ho=>mV (he rfl rfl)) rfl ?_;refine qS (fun _ he ho=>mV (he rfl rfl)) rfl ?_;refine qS (fun _ he ho=>LR.subW (he rfl rfl) (he rfl rfl)) rfl ?_;replace h:=iIdx h;obtain ⟨x152,hy153,h⟩:=h;refine qS (fun _ he ho=>LR.idxRowT (L:=row1) (y:=x152) Tryz.underlying32 Tryz.sizeOf31 (he rfl rfl) rfl (he rfl rfl) hy153) rfl ?_;refine qS (fun _ he ho=>LR.loadRpT (enc:=TDot.e) (L:=row1) (y:=x152) Tryz.isAgg31 Tryz.sizeOf31 (he rfl rfl) (ho rfl) hy153.2) rfl ?_;refine qS (fun _ he ho=>LR.eqlAgg (he rfl rfl) (he rfl rfl) rfl rfl eq31) rfl<|qN ?_;refine wC rfl (fun hc154=>?_) (fun hc154=>?_)
     ·replace h:=iT hc154 h;refine wQ<|wR<|wm ?_;refine wm ?_;replace h:=iNeed h;obtain ⟨hy155,h⟩:=h;refine wS (LR.pieceRowT (enc:=TDot.e) (L:=row1) Tryz.underlying32 Tryz.sizeOf31 rfl rfl rfl rfl hy155) rfl<|wa ?_;refine wN<|wQ<|wQ<|wR<|wa ?_;refine wN ?_;refine wJ (iBind h) (fun (⟨k156,v157⟩:Int × List TDot) (_:Unit)=>⟨61,[(0,.row 100 (List.length v157)),(3,.d (.v (.int .i64 k156)))],[(100,.row 31 2 (List.map TDot.e v157))]⟩) (fun h=>?_) ?_
      ·refine wB<|wM (fun (⟨k197,k2_198,v199⟩:Int × Int × List TDot) (_:Unit)=>⟨61,[(0,.row 100 (List.length v199)),(3,.d (.v (.int .i64 k197))),(4,.pc 100 (Int.toNat k148) (List.length row1 - Int.toNat k148) 2),(5,.d (.v (.int .i64 k2_198)))],[(100,.row 31 2 (List.map TDot.e v199))]⟩) () h (sP) ?_;rintro N ⟨k197,k2_198,v199⟩ _ h;refine wQ<|wQ<|wR<|wm ?_;refine wm ?_;refine wS (LR.lenPc Tryz.underlying32 rfl) rfl<|wS (LR.lss rfl rfl) rfl<|wN ?_;refine wC rfl (fun hc200=>?_) (fun hc200=>?_)
       ·replace h:=iT hc200 h;refine wK<|wQ ?_;refine wJ (iBind h) (fun (⟨k201,v202⟩:Int × List TDot) (_:Unit)=>⟨61,[(0,.row 100 (List.length v202)),(3,.d (.v (.int .i64 k201))),(4,.pc 100 (Int.toNat k148) (List.length row1 - Int.toNat k148) 2),(5,.d (.v (.int .i64 k2_198)))],[(100,.row 31 2 (List.map TDot.e v202))]⟩) (fun h=>?_) ?_
        ·refine wB<|wQ<|wD (by kernel_rfl) (by kernel_rfl) ?_;refine qS (fun _ he ho=>mV (he rfl rfl)) rfl ?_;refine qS (fun _ he ho=>mV (he rfl rfl)) rfl ?_;replace h:=iNeed h;obtain ⟨hy205,h⟩:=h;replace h:=iIdx h;obtain ⟨x203,hy204,h⟩:=h;have hy206:True ∧ v199[((Int.toNat k148) + Int.toNat k2_198)]? = some x203:=⟨trivial,hy204.2⟩
         refine qS (fun _ he ho=>LR.idxPc Tryz.underlying32 Tryz.sizeOf31 (he rfl rfl) (he rfl rfl) hy205) rfl ?_;refine qS (fun _ he ho=>LR.loadRpT (enc:=TDot.e) (L:=v199) (y:=x203) Tryz.isAgg31 Tryz.sizeOf31 (he rfl rfl) (ho rfl) hy206.2) rfl ?_;refine qS (fun _ he ho=>mV (he rfl rfl)) rfl ?_;refine qS (fun _ he ho=>mV (he rfl rfl)) rfl ?_;refine qS (fun _ he ho=>LR.subW (he rfl rfl) (he rfl rfl)) rfl ?_;replace h:=iNeed h;obtain ⟨hy209,h⟩:=h;replace h:=iIdx h;obtain ⟨x207,hy208,h⟩:=h;have hy210:True ∧ v199[((Int.toNat k148) + Int.toNat (IntKind.i64.wrap (k2_198 - 1)))]? = some x207:=⟨trivial,hy208.2⟩
         refine qS (fun _ he ho=>LR.idxPc Tryz.underlying32 Tryz.sizeOf31 (he rfl rfl) (he rfl rfl) hy209) rfl ?_;refine qS (fun _ he ho=>LR.loadRpT (enc:=TDot.e) (L:=v199) (y:=x207) Tryz.isAgg31 Tryz.sizeOf31 (he rfl rfl) (ho rfl) hy210.2) rfl ?_;refine qS (fun _ he ho=>LR.neqAgg (he rfl rfl) (he rfl rfl) rfl rfl eq31) rfl<|qN ?_;refine wC rfl (fun hc211=>?_) (fun hc211=>?_)
         ·replace h:=iT hc211 h;refine wQ<|wR<|wm ?_;refine wm ?_;refine wm ?_;refine wy (tl:=[(0,_),(3,_),(4,_),(5,_),(45,_),(46,_),(47,_)]) (to:=[(100,_)]) ?_;refine wm ?_;replace h:=iNeed h;obtain ⟨hy214,h⟩:=h;replace h:=iIdx h;obtain ⟨x212,hy213,h⟩:=h;have hy215:True ∧ v199[((Int.toNat k148) + Int.toNat k2_198)]? = some x212:=⟨trivial,hy213.2⟩
          refine wS (LR.idxPc Tryz.underlying32 Tryz.sizeOf31 rfl rfl hy214) rfl<|wS (LR.loadRpT (enc:=TDot.e) (L:=v199) (y:=x212) Tryz.isAgg31 Tryz.sizeOf31 rfl rfl hy215.2) rfl ?_;replace h:=iIdx h;obtain ⟨x216,hy217,h⟩:=h;refine wS (LR.idxRowT (L:=v199) (y:=x216) Tryz.underlying32 Tryz.sizeOf31 rfl rfl rfl hy217) rfl<|wS (LR.storeRpT (enc:=TDot.e) (L:=v199) (a:=x216) (b:=x212) Tryz.sizeOf31 rfl rfl rfl rfl rfl hy217.2 rfl rfl) rfl<|wN<|wR<|wm ?_;refine wS (LR.addW rfl rfl) rfl<|wa ?_;refine wN ?_;exact ⟨((IntKind.i64.wrap (k197 + 1)),(List.set v199 (Int.toNat k197) x212)),(),h,sO rfl (.cons rfl (by first | rfl | (simp;done) | (congr 1;first | (simp;done) | (simp;omega) | omega))<|.c2 rfl rfl rfl rfl<|.cons rfl rfl<|.nil) (.cons rfl rfl<|.nil)⟩
         ·replace h:=iF hc211 h;refine wK ?_;exact ⟨(k197,v199),(),h,sP⟩
        ·rintro ⟨k201,v202⟩ _ h;refine wR<|wm ?_;refine wS (LR.addW rfl rfl) rfl<|wa ?_;refine wN ?_;exact ⟨(k201,(IntKind.i64.wrap (k2_198 + 1)),v202),(),h,sP⟩
       ·replace h:=iF hc200 h;refine wZ ?_;exact ⟨(k197,v199),(),h,sP⟩
      ·rintro ⟨k156,v157⟩ _ h;refine wQ<|wR<|wm ?_;refine wm ?_;replace h:=iNeed h;obtain ⟨hy218,h⟩:=h;refine wS (LR.pieceRowT (enc:=TDot.e) (L:=v157) Tryz.underlying32 Tryz.sizeOf31 rfl rfl rfl rfl hy218) rfl ?_;replace h:=iNeed h;obtain ⟨hy219,h⟩:=h;refine wS (LR.clearPcT (enc:=TDot.e) (L:=v157) (z:=(⟨0,0⟩:TDot)) Tryz.underlying32 rfl rfl Tryz.zeroValue31 rfl rfl rfl rfl hy219 rfl) rfl<|wN<|wQ<|wR<|wm ?_;refine wm ?_;replace h:=iNeed h;obtain ⟨hy220,h⟩:=h;refine wS (LR.cutRowT (enc:=TDot.e) (L:=(List.take (Int.toNat k156) v157 ++ List.replicate (List.length v157 - Int.toNat k156) (⟨0,0⟩:TDot) ++ List.drop ((Int.toNat k156) + (List.length v157 - Int.toNat k156)) v157)) [0,54,56,57] Tryz.underlying32 Tryz.sizeOf31 rfl (by first | (simp;done) | (simp;omega) | omega) rfl rfl hy220 rfl) rfl ?_;refine wa ?_;refine wN<|wX ?_;replace h:_ = r0:=h;subst h;exact EndsO.mk () (.inr rfl) (sO (tl:=[(2,_)]) (to:=[(100,_)]) rfl (.cons rfl (by first | rfl | (simp;done) | (congr 1;first | (simp;done) | (simp;omega) | omega))<|.nil) (.cons rfl rfl<|.nil)) (.cons (.tmp rfl)<|.nil) rfl rfl
     ·replace h:=iF hc154 h;refine wK ?_;exact ⟨(),(),h,sP⟩
    ·rintro _ _ h;refine wR<|wm ?_;refine wS (LR.addW rfl rfl) rfl<|wa ?_;refine wN ?_;exact ⟨(IntKind.i64.wrap (k148 + 1)),(),h,sP⟩
   ·replace h:=iF hc149 h;refine wZ ?_;exact ⟨(),(),h,sP⟩
  ·rintro _ _ h;refine wQ<|wR<|wm ?_;refine wa ?_;refine wN<|wX ?_;replace h:_ = r0:=h;subst h;exact EndsO.mk () (.inr rfl) (sO (tl:=[(2,_)]) (to:=[(100,_)]) rfl (.cons rfl (by first | rfl | (simp;done) | (congr 1;first | (simp;done) | (simp;omega) | omega))<|.nil) (.cons rfl rfl<|.nil)) (.cons (.tmp rfl)<|.nil) rfl rfl

theorem dot_Sort_ok (l1:List TDot) (r0:List TDot) (h:(dot_Sort l1).wp (· = r0)):PRow Tryz.prog 169 [.d (.sl (List.map TDot.e l1))] 31 2 (List.map TDot.e r0):=by
 refine PRow.intro (sl:=[(0,_)]) Tryz.func169 rfl Tryz.ntmps169 rfl rfl ?_;intro ctx hK;refine wQ<|wR<|wS (aR 31 2 rfl) rfl<|wN<|wQ<|wR<|wm ?_;replace h:=iDet h;obtain ⟨v2,hy3,h⟩:=h;refine wS (LR.rowN (slices_Clone_sl_Dot_Dot_ok l1 v2 hy3) rfl Tryz.call205 rfl rfl rfl rfl) rfl<|wa ?_;refine wN<|wQ<|wR<|wm ?_;replace h:=iNeed h;obtain ⟨hy5,h⟩:=h;refine PWl.sortFn (encD:=TDot.e) (enc:=TDot.v) (l:=v2) srt210_120 (fun _=>rfl) TDot.v1 (fun _=>rfl) rfl Tryz.call210 rfl rfl rfl (by simp) hy5 rfl (fun s4 hy6 hy7=>?_);replace h:=iSrt h s4 hy6 hy7;have hy6l:=hy6.length_eq;refine wN<|wQ<|wR<|wm ?_;replace h:=iDet h;obtain ⟨y8,hy9,h⟩:=h;refine wS (LR.callObj [(100,5)] [3,5,6,8] [100] (slices_Compact_sl_Dot_Dot_o_ok s4 y8 hy9) hK rfl Tryz.call211 rfl (by first | rfl | (simp;done) | (simp [PV.nilD,PV.ren,rn];omega)) (.cons (by first | rfl | (congr 1;first | (simp;done) | (simp;omega) | omega))<|.nil) rfl rfl rfl rfl) rfl ?_;refine wy (tl:=[(0,_),(4,_),(7,_),(9,_)]) (to:=[(5,_)]) ?_;refine wa ?_;refine wN<|wX ?_;replace h:_ = r0:=h;subst h;exact ⟨.inr rfl,2,rfl,.inr ⟨5,_,rfl,(by simp),rfl⟩⟩
end Go.Proofs

namespace Go.Proofs
open Go.Ep
set_option maxHeartbeats 1000000
set_option maxRecDepth 100000
set_option linter.unusedVariables false
set_option linter.unusedSimpArgs false


theorem book_New_o_ok  (r0:List TPart × Bool × (List (TDot × TEvent)) × Bool × (List (TDot × TEvent))) (h:(book_New_o ).wp (· = r0)):PObj Tryz.prog 22 [] [] [] (.ref 2 0) (fun _:Unit=>[(2,.cells 109 [.d (.sl (List.map TPart.e r0.1)),.mp 30041,.mp 30042]),(30041,.mapH r0.2.1 [.u16,.u64] true (encM TDot.k TEvent.e r0.2.2.1)),(30042,.mapH r0.2.2.2.1 [.u16,.u64] true (encM TDot.k TEvent.e r0.2.2.2.2))]):=by
 refine PObj.intro (sl:=[]) Tryz.func22 rfl Tryz.ntmps22 rfl rfl rfl ?_;intro ctx hK pv;refine wQ<|wR<|wa ?_;refine wN<|wQ<|wR<|wS (LR.buildR (ns:=[_,_,_]) build109 rfl rfl rfl) rfl<|wS (LR.box rfl rfl rfl rfl) rfl<|PWl.sub (Sub.nilCell (id:=2) (j:=0) rfl rfl)<|PWl.sub (Sub.ownMap (id:=2) (j:=1) (id':=30041) (ks:=[.u16,.u64]) (ag:=true) (ck:=0) rfl rfl rfl rfl)<|PWl.sub (Sub.ownMap (id:=2) (j:=2) (id':=30042) (ks:=[.u16,.u64]) (ag:=true) (ck:=0) rfl rfl rfl rfl)<|wy (tl:=[(0,_),(2,_)]) (to:=[(2,_),(30041,_),(30042,_)]) ?_;refine wa ?_;refine wN<|wX ?_;replace h:_ = r0:=h;subst h;exact EndsO.mk () (.inr rfl) (Sub.trans (Sub.nToH (id:=30041) rfl)<|Sub.trans (Sub.nToH (id:=30042) rfl)<|sP (tl:=[(0,_)]) (to:=[(2,_),(30041,_),(30042,_)])) (.cons (.tmp rfl)<|.nil) rfl rfl

theorem book_Book_Ctx_o_ok (ctx_1:List TPart) (nl2:Bool) (m3:List (TDot × TEvent)) (nl4:Bool) (m5:List (TDot × TEvent)) (r0:List TPart) (h:(book_Book_Ctx_o ctx_1 nl2 m3 nl4 m5).wp (· = r0)):PObj Tryz.prog 25 [.ref 100 0] [(100,.cells 109 [.d (.sl (List.map TPart.e ctx_1)),.mp 101,.mp 102]),(101,.mapH nl2 [.u16,.u64] true (encM TDot.k TEvent.e m3)),(102,.mapH nl4 [.u16,.u64] true (encM TDot.k TEvent.e m5))] [100,101,102] (.d (.sl (List.map TPart.e r0))) (fun _:Unit=>[(100,.cells 109 [.d (.sl (List.map TPart.e ctx_1)),.mp 101,.mp 102]),(101,.mapH nl2 [.u16,.u64] true (encM TDot.k TEvent.e m3)),(102,.mapH nl4 [.u16,.u64] true (encM TDot.k TEvent.e m5))]):=by
 refine PObj.intro (sl:=[(0,_)]) Tryz.func25 rfl Tryz.ntmps25 rfl rfl rfl ?_;intro ctx hK pv;refine wQ<|wR<|wS (aR 80 2 rfl) rfl<|wN<|wQ<|wQ<|wR<|wm ?_;refine wS (LR.eqlPtr Tryz.underlying36 rfl) rfl<|wN<|PWc.condF rfl<|wK<|wQ<|wR<|wm ?_;refine wS (LR.nilCheckRef rfl) rfl<|wS (fR Tryz.underlying109 rfl Tryz.sizeOf42 (by decide) rfl rfl) rfl<|wS (lD Tryz.isAgg42 rfl rfl rfl) rfl ?_;replace h:=iDet h;obtain ⟨v6,hy7,h⟩:=h;refine wS (LR.rowN (ctx_Norm_ok ctx_1 v6 hy7) rfl Tryz.call98 rfl rfl rfl rfl) rfl<|wy (tl:=[(0,_),(3,_),(4,_),(5,_),(6,_),(7,_),(8,_),(9,_)]) (to:=[(9,_),(100,_),(101,_),(102,_),(1100,_),(1101,_),(1102,_)]) ?_;refine wa ?_;refine wN<|wX ?_;replace h:_ = r0:=h;subst h;exact EndsO.mk () (.inr rfl) (Sub.trans (Sub.frz [2,9] hK rfl (by simp) (AllRow.get (.cons rfl<|.cons rfl<|.nil)))<|sP (tl:=[(2,_)]) (to:=[(100,_),(101,_),(102,_),(1100,_),(1101,_),(1102,_)])) (.cons (.tmp rfl)<|.nil) rfl rfl

end Go.Proofs

namespace Go.Proofs
open Go.Ep
set_option maxHeartbeats 1000000
set_option maxRecDepth 100000
set_option linter.unusedVariables false
set_option linter.unusedSimpArgs false


theorem book_list2_o_ok (nl1:Bool) (m2:List (TDot × TEvent)) (nl3:Bool) (m4:List (TDot × TEvent)) (r0:List TEvent) (h:(book_list2_o nl1 m2 nl3 m4).wp (· = r0)):PObj Tryz.prog 99 [.row 100 2] [(100,.cells 107 [.mp 101,.mp 102]),(101,.mapH nl1 [.u16,.u64] true (encM TDot.k TEvent.e m2)),(102,.mapH nl3 [.u16,.u64] true (encM TDot.k TEvent.e m4))] [100,101,102] (.row 3 (List.length r0)) (fun _:Unit=>[(100,.cells 107 [.mp 101,.mp 102]),(101,.mapH nl1 [.u16,.u64] true (encM TDot.k TEvent.e m2)),(102,.mapH nl3 [.u16,.u64] true (encM TDot.k TEvent.e m4)),(3,.row 34 7 (List.map TEvent.e r0))]):=by
 refine PObj.intro (sl:=[(0,_)]) Tryz.func99 rfl Tryz.ntmps99 rfl rfl rfl ?_;intro ctx hK pv;refine wQ<|wR<|wS (aR 34 7 rfl) rfl<|wN<|wQ<|wR<|wS (aR 34 7 rfl) rfl<|wN<|wQ ?_;refine wQ<|wR<|wm ?_;refine wS (LR.lenRow Tryz.underlying184 rfl) rfl<|wm ?_;refine wN ?_;refine wJ (iBind h) (fun (out5:List TEvent) (_:Unit)=>⟨29,[(3,.row 3 (List.length out5))],[(3,.row 34 7 (List.map TEvent.e out5)),(100,.cells 107 [.mp 101,.mp 102]),(101,.mapH nl1 [.u16,.u64] true (encM TDot.k TEvent.e m2)),(102,.mapH nl3 [.u16,.u64] true (encM TDot.k TEvent.e m4)),(1100,.pin 100 (pv 100)),(1101,.pin 101 (pv 101)),(1102,.pin 102 (pv 102))]⟩) (fun h=>?_) ?_
 ·refine wB<|PWc.loopU<|PWL.step<|wQ<|wR<|wS (LR.lss rfl rfl) rfl<|wN<|wQ<|PWc.condT rfl ?_;refine wK<|wQ ?_;refine wJ (iBind h) (fun (out8:List TEvent) (⟨bs6,ck7⟩:List Nat × Nat)=>⟨29,[(3,.row 3 (List.length out8)),(8,.row 100 2),(9,.d (.v (.int .i64 2))),(10,.d (.v (.int .i64 0)))],[(3,.row 34 7 (List.map TEvent.e out8)),(100,.cells 107 [.mp 101,.mp 102]),(101,.mapN nl1 [.u16,.u64] true (encM TDot.k TEvent.e m2) bs6 ck7),(102,.mapH nl3 [.u16,.u64] true (encM TDot.k TEvent.e m4)),(1100,.pin 100 (pv 100)),(1101,.pin 101 (pv 101)),(1102,.pin 102 (pv 102))]⟩) (fun h=>?_) ?_
  ·refine wB<|wQ<|wR<|wS (LR.idxCells (n:=0) Tryz.underlying184 Tryz.sizeOf107 rfl rfl rfl (by decide)) rfl<|wS (lD Tryz.isAgg107 rfl rfl rfl) rfl<|wa ?_;refine wN<|wQ<|wR<|wm ?_;refine PWl.openH (id:=101) rfl (fun bs9 ck9=>?_);refine wS (LR.rangeN Tryz.underlying107 rfl rfl rfl) rfl<|wN<|wB<|wM (fun (⟨seen32,out33⟩:List Nat × List TEvent) (_:Unit)=>⟨29,[(3,.row 3 (List.length out33)),(8,.row 100 2),(9,.d (.v (.int .i64 2))),(10,.d (.v (.int .i64 0))),(15,.ref 15 0)],[(3,.row 34 7 (List.map TEvent.e out33)),(15,.iterO 101 bs9 ck9 seen32),(100,.cells 107 [.mp 101,.mp 102]),(101,.mapN nl1 [.u16,.u64] true (encM TDot.k TEvent.e m2) bs9 ck9),(102,.mapH nl3 [.u16,.u64] true (encM TDot.k TEvent.e m4)),(1100,.pin 100 (pv 100)),(1101,.pin 101 (pv 101)),(1102,.pin 102 (pv 102))]⟩) () h (sP) ?_;rintro N ⟨seen32,out33⟩ _ h;refine wQ<|wR ?_;replace h:=iNeed h;obtain ⟨hy43,h⟩:=h;replace h:=iNxt h;refine PWl.nextN rfl rfl rfl (nxtD hy43) rfl (fun hy35=>?_) (fun j34 hy36 hy37=>?_)
   ·replace h:=h.1 (nxtA hy35);refine wS (LR.extract rfl rfl) rfl<|wN<|wQ<|PWc.condF rfl<|wZ ?_;exact ⟨out33,(bs9,ck9),h,sP⟩
   ·replace h:=h.2 j34 (nxtB hy36) hy37;refine wS (LR.extract rfl rfl) rfl<|wN<|wQ<|PWc.condT rfl<|wK<|wB<|wQ<|wR ?_;replace h:=iIdx h;obtain ⟨kv38,hy39,h⟩:=h;refine wS (LR.entryN rfl rfl rfl (entGet hy39) rfl rfl) rfl<|wS (LR.extract rfl rfl) rfl<|wS (LR.allocZ (cs:=[_,_,_,_,_,_,_]) Tryz.zeroValue34 rfl rfl rfl rfl) rfl<|wS (sB (ns:=[_,_,_,_,_,_,_]) Tryz.sizeOf34 rfl rfl rfl rfl rfl rfl rfl) rfl<|wN<|wR<|wm ?_;refine wS (lA (ps:=[_,_,_,_,_,_,_]) Tryz.isAgg34 Tryz.sizeOf34 rfl rfl rfl rfl) rfl ?_;replace h:=iDet h;obtain ⟨v40,hy41,h⟩:=h;refine wS (cN (event_Copy_ok kv38.2 v40 hy41) rfl Tryz.call161 rfl rfl rfl rfl) rfl<|wS (LR.buildSliceD [.tmp 22] elem22 rfl rfl (.cons rfl rfl rfl<|.nil) (by decide) (by decide)) rfl ?_;replace h:=iNeed h;obtain ⟨hy42,h⟩:=h;refine wS (LR.appT (enc:=TEvent.e) (L:=out33) (R:=[v40]) [3,20] elem22 Tryz.underlying22 rfl rfl rfl (Src.slT (enc:=TEvent.e) (R:=[v40]) rfl (fun _=>rfl)) (fun _=>rfl) hy42 rfl rfl) rfl<|wa ?_;refine wN ?_;exact ⟨((seen32 ++ [j34]),(out33 ++ [v40])),(),h,sP⟩
  ·rintro out8 ⟨bs6,ck7⟩ h;refine wR<|wS (LR.addW rfl rfl) rfl<|wm ?_;refine wN<|PWL.step<|wQ<|wR<|wS (LR.lss rfl rfl) rfl<|wN<|wQ<|PWc.condT rfl<|wK ?_;refine wQ ?_;refine wJ (iBind h) (fun (out46:List TEvent) (⟨bs44,ck45⟩:List Nat × Nat)=>⟨29,[(3,.row 3 (List.length out46)),(8,.row 100 2),(9,.d (.v (.int .i64 2))),(10,.d (.v (.int .i64 1)))],[(3,.row 34 7 (List.map TEvent.e out46)),(100,.cells 107 [.mp 101,.mp 102]),(101,.mapN nl1 [.u16,.u64] true (encM TDot.k TEvent.e m2) bs6 ck7),(102,.mapN nl3 [.u16,.u64] true (encM TDot.k TEvent.e m4) bs44 ck45),(1100,.pin 100 (pv 100)),(1101,.pin 101 (pv 101)),(1102,.pin 102 (pv 102))]⟩) (fun h=>?_) ?_
   ·refine wB<|wQ<|wR<|wS (LR.idxCells (n:=1) Tryz.underlying184 Tryz.sizeOf107 rfl rfl rfl (by decide)) rfl<|wS (lD Tryz.isAgg107 rfl rfl rfl) rfl<|wa ?_;refine wN<|wQ<|wR<|wm ?_;refine PWl.openH (id:=102) rfl (fun bs47 ck47=>?_);refine wS (LR.rangeN Tryz.underlying107 rfl rfl rfl) rfl<|wN<|wB<|wM (fun (⟨seen70,out71⟩:List Nat × List TEvent) (_:Unit)=>⟨29,[(3,.row 3 (List.length out71)),(8,.row 100 2),(9,.d (.v (.int .i64 2))),(10,.d (.v (.int .i64 1))),(15,.ref 15 0)],[(3,.row 34 7 (List.map TEvent.e out71)),(15,.iterO 102 bs47 ck47 seen70),(100,.cells 107 [.mp 101,.mp 102]),(101,.mapN nl1 [.u16,.u64] true (encM TDot.k TEvent.e m2) bs6 ck7),(102,.mapN nl3 [.u16,.u64] true (encM TDot.k TEvent.e m4) bs47 ck47),(1100,.pin 100 (pv 100)),(1101,.pin 101 (pv 101)),(1102,.pin 102 (pv 102))]⟩) () h (sP) ?_;rintro N ⟨seen70,out71⟩ _ h;refine wQ<|wR ?_;replace h:=iNeed h;obtain ⟨hy81,h⟩:=h;replace h:=iNxt h;refine PWl.nextN rfl rfl rfl (nxtD hy81) rfl (fun hy73=>?_) (fun j72 hy74 hy75=>?_)
    ·replace h:=h.1 (nxtA hy73);refine wS (LR.extract rfl rfl) rfl<|wN<|wQ<|PWc.condF rfl<|wZ ?_;exact ⟨out71,(bs47,ck47),h,sP⟩
    ·replace h:=h.2 j72 (nxtB hy74) hy75;refine wS (LR.extract rfl rfl) rfl<|wN<|wQ<|PWc.condT rfl<|wK<|wB<|wQ<|wR ?_;replace h:=iIdx h;obtain ⟨kv76,hy77,h⟩:=h;refine wS (LR.entryN rfl rfl rfl (entGet hy77) rfl rfl) rfl<|wS (LR.extract rfl rfl) rfl<|wS (LR.allocZ (cs:=[_,_,_,_,_,_,_]) Tryz.zeroValue34 rfl rfl rfl rfl) rfl<|wS (sB (ns:=[_,_,_,_,_,_,_]) Tryz.sizeOf34 rfl rfl rfl rfl rfl rfl rfl) rfl<|wN<|wR<|wm ?_;refine wS (lA (ps:=[_,_,_,_,_,_,_]) Tryz.isAgg34 Tryz.sizeOf34 rfl rfl rfl rfl) rfl ?_;replace h:=iDet h;obtain ⟨v78,hy79,h⟩:=h;refine wS (cN (event_Copy_ok kv76.2 v78 hy79) rfl Tryz.call161 rfl rfl rfl rfl) rfl<|wS (LR.buildSliceD [.tmp 22] elem22 rfl rfl (.cons rfl rfl rfl<|.nil) (by decide) (by decide)) rfl ?_;replace h:=iNeed h;obtain ⟨hy80,h⟩:=h;refine wS (LR.appT (enc:=TEvent.e) (L:=out71) (R:=[v78]) [3,20] elem22 Tryz.underlying22 rfl rfl rfl (Src.slT (enc:=TEvent.e) (R:=[v78]) rfl (fun _=>rfl)) (fun _=>rfl) hy80 rfl rfl) rfl<|wa ?_;refine wN ?_;exact ⟨((seen70 ++ [j72]),(out71 ++ [v78])),(),h,sP⟩
   ·rintro out46 ⟨bs44,ck45⟩ h;refine wR<|wS (LR.addW rfl rfl) rfl<|wm ?_;refine wN<|PWL.step<|wQ<|wR<|wS (LR.lss rfl rfl) rfl<|wN<|wQ<|PWc.condF rfl<|wZ ?_;exact ⟨out46,(),h,Sub.trans (Sub.nToH (id:=101) rfl)<|Sub.trans (Sub.nToH (id:=102) rfl)<|sP⟩
 ·rintro out5 _ h;refine wQ<|wR<|wm ?_;replace h:=iNeed h;obtain ⟨hy83,h⟩:=h;refine PWl.sortFnR (encD:=TEvent.e) (enc:=RawTEvent.v) (lt:=ltEvent) (R:=RawTEvent.R) (l:=out5) srt172_173 RawTEvent.raw rlt172 (fun _=>rfl) (fun _=>rfl) rfl Tryz.call172 rfl rfl rfl (by simp) hy83 rfl (fun s82 hy84 hy85=>?_);replace h:=iSrt h s82 hy84 hy85;have hy84l:=hy84.length_eq;refine wN<|wQ<|wR<|wm ?_;refine wa ?_;refine wN<|wX ?_;replace h:_ = r0:=h;subst h;exact EndsO.mk () (.inr rfl) (sO (tl:=[(2,_)]) (to:=[(100,_),(101,_),(102,_),(3,_),(1100,_),(1101,_),(1102,_)]) rfl (.cons rfl (by first | rfl | (simp;done) | (congr 1;first | (simp;done) | (simp;omega) | omega))<|.nil) (.c4 rfl rfl rfl rfl rfl rfl rfl rfl<|.c2 rfl rfl rfl rfl<|.cons rfl rfl<|.nil)) (.cons (.tmp rfl)<|.nil) rfl rfl

theorem book_Book_All_o_ok (ctx_1:List TPart) (nl2:Bool) (m3:List (TDot × TEvent)) (nl4:Bool) (m5:List (TDot × TEvent)) (r0:List TEvent) (h:(book_Book_All_o ctx_1 nl2 m3 nl4 m5).wp (· = r0)):PObj Tryz.prog 70 [.ref 100 0] [(100,.cells 109 [.d (.sl (List.map TPart.e ctx_1)),.mp 101,.mp 102]),(101,.mapH nl2 [.u16,.u64] true (encM TDot.k TEvent.e m3)),(102,.mapH nl4 [.u16,.u64] true (encM TDot.k TEvent.e m5))] [100,101,102] (.row 14 (List.length r0)) (fun _:Unit=>[(100,.cells 109 [.d (.sl (List.map TPart.e ctx_1)),.mp 101,.mp 102]),(101,.mapH nl2 [.u16,.u64] true (encM TDot.k TEvent.e m3)),(102,.mapH nl4 [.u16,.u64] true (encM TDot.k TEvent.e m5)),(14,.row 34 7 (List.map TEvent.e r0))]):=by
 refine PObj.intro (sl:=[(0,_)]) Tryz.func70 rfl Tryz.ntmps70 rfl rfl rfl ?_;intro ctx hK pv;refine wQ<|wR<|wS (aR 34 7 rfl) rfl<|wN<|wQ<|wQ<|wR<|wm ?_;refine wS (LR.eqlPtr Tryz.underlying36 rfl) rfl<|wN<|PWc.condF rfl<|wK<|wQ<|wz (tl:=[(0,_)]) (to:=[(100,_),(101,_),(102,_),(1100,_),(1101,_),(1102,_)]) ?_;refine PWc.regionE [⟨[5],[],[],[],[],[100],[],[]⟩,⟨[6],[],[],[],[],[100],[],[]⟩,⟨[7],[],[],[],[],[100],[],[]⟩,⟨[8],[],[100],[],[],[101],[],[]⟩,⟨[9],[],[],[],[],[100],[],[]⟩,⟨[10],[],[],[],[],[100],[],[]⟩,⟨[11],[],[],[],[],[100],[],[]⟩,⟨[12],[],[100],[],[],[102],[],[]⟩,⟨[13],[13],[],[13],[],[13],[101,102],[]⟩,⟨[14],[14],[13,101,102],[14],[],[14],[],[]⟩,⟨[2],[],[],[],[],[14],[],[]⟩] (by kernel_rfl) (by kernel_rfl) rfl ?_;refine PQe.stepP (fun _ he ho=>mV (he rfl rfl)) (.inl rfl) rfl ?_;refine PQe.stepP (fun _ he ho=>LR.nilCheckRef (he rfl rfl)) (.inl rfl) rfl ?_;refine PQe.stepP (fun _ he ho=>fR Tryz.underlying109 rfl Tryz.sizeOf107 (by decide) rfl (he rfl rfl)) (.inl rfl) rfl ?_;refine PQe.stepP (fun _ he ho=>lD Tryz.isAgg107 (he rfl rfl) (ho rfl rfl) rfl) (.inl rfl) rfl ?_;refine PQe.stepP (fun _ he ho=>mV (he rfl rfl)) (.inl rfl) rfl ?_;refine PQe.stepP (fun _ he ho=>LR.nilCheckRef (he rfl rfl)) (.inl rfl) rfl ?_;refine PQe.stepP (fun _ he ho=>fR Tryz.underlying109 rfl Tryz.sizeOf107 (by decide) rfl (he rfl rfl)) (.inl rfl) rfl ?_;refine PQe.stepP (fun _ he ho=>lD Tryz.isAgg107 (he rfl rfl) (ho rfl rfl) rfl) (.inl rfl) rfl ?_;refine PQe.stepN (fun _ he ho hf=>LR.buildSliceP [.tmp 8,.tmp 12] elem184 rfl rfl (evsE he rfl rfl) rfl (by decide) hf) rfl (.inl rfl) rfl ?_;replace h:=iDet h;obtain ⟨y6,hy7,h⟩:=h;refine PQe.callObjS [(100,13),(101,101),(102,102),(3,14)] [] [100,101,102,3] [(3,.row 34 7 (List.map TEvent.e y6))] [(100,.cells 107 [.mp 101,.mp 102]),(101,.mapH nl2 [.u16,.u64] true (encM TDot.k TEvent.e m3)),(102,.mapH nl4 [.u16,.u64] true (encM TDot.k TEvent.e m5))] (book_list2_o_ok nl2 m3 nl4 m5 y6 hy7) hK (fun _ he=>⟨he rfl rfl,evsE he rfl rfl⟩) Tryz.call99 (by first | rfl | (simp;done) | (simp [PV.nilD,PV.ren,rn];omega)) (by repeat' first | constructor | (congr 1;first | (simp;done) | (simp;omega) | omega)) (.cons rfl<|.nil) (.cons rfl<|.cons rfl<|.cons rfl<|.nil) (by repeat' first | constructor | (congr 1;first | (simp;done) | (simp;omega) | omega)) rfl rfl rfl rfl rfl rfl (.inl rfl) rfl ?_;refine PQe.stepP (fun _ he ho=>aS (he rfl rfl)) (.inl rfl) rfl<|PQe.nil<|wX ?_;replace h:_ = r0:=h;subst h;exact EndsO.mk () (.inr rfl) (sO (tl:=[(2,_)]) (to:=[(100,_),(101,_),(102,_),(14,_),(1100,_),(1101,_),(1102,_)]) rfl (.cons rfl (by first | rfl | (simp;done) | (congr 1;first | (simp;done) | (simp;omega) | omega))<|.nil) (.c4 rfl rfl rfl rfl rfl rfl rfl rfl<|.c2 rfl rfl rfl rfl<|.cons rfl rfl<|.nil)) (.cons (.tmp rfl)<|.nil) rfl rfl

end Go.Proofs


/- Side texts. -/
import Derived.Test.YtehbkmakbdlgnaaGreatADs2
set_option linter.unusedVariables false
set_option linter.unusedSimpArgs false
namespace Go.Ep
open Go.RowKit
structure Ef where
 U:List (Nat×PV)
 V:List (Nat×Ob)
def PState.app(s:PState)(e:Ef):PState:={ n:=s.n,sl:=e.U++s.sl,objs:=e.V.foldr (fun x l=>yD x.1 x.2 l) s.objs }
structure Ft where
 ws:List Nat
 wo:List Nat:=[]
 ro:List Nat:=[]
 fr:List Nat:=[]
 al:List (Nat×List Nat):=[]
 nm:List Nat:=[]
 no:List Nat:=[]
 ao:List Nat:=[]
def inL(l:List Nat)(i:Nat):Bool:=l.any (Nat.beq i)
theorem zS{l:List Nat}{i:Nat}:inL l i=true↔i∈l:=by
 unfold inL;rw[List.any_eq_true];exact⟨fun⟨x,h1,h2⟩=>(Nat.eq_of_beq_eq_true h2)▸h1,fun h=>⟨i,h,Nat.beq_refl i⟩⟩
def PV.named(nm:List Nat):PV->Bool
 | .ref i _ | .row i _ | .rp i _ _ _ | .pc i _ _ _ | .mp i | .pa i _ _=>inL nm i
 | .agg cs=>namedL nm cs
 | .tup cs=>namedL nm cs
 | _=>true
where namedL (nm:List Nat):List PV->Bool
 | []=>true
 | c::r=>c.named nm&&namedL nm r
def Ob.named(nm:List Nat):Ob->Bool
 | .cells _ cs=>PV.named.namedL nm cs
 | .iterO mid _ _ _=>inL nm mid
 | .pin tgt _=>inL nm tgt
 | .mapP _ _ ov _ _=>match ov with | some (_,p)=>p.named nm | none=>true
 | _=>true
mutual
theorem PV.named_has{nm:List Nat}{id:Nat}:∀ {p:PV},p.named nm=true->p.has id=true->id∈nm
 | .ref i _,h,h2=>by simp only[PV.named,zS,PV.has,beq_iff_eq] at h h2;exact h2▸h
 | .row i _,h,h2=>by simp only[PV.named,zS,PV.has,beq_iff_eq] at h h2;exact h2▸h
 | .rp i _ _ _,h,h2=>by simp only[PV.named,zS,PV.has,beq_iff_eq] at h h2;exact h2▸h
 | .pc i _ _ _,h,h2=>by simp only[PV.named,zS,PV.has,beq_iff_eq] at h h2;exact h2▸h
 | .mp i,h,h2=>by simp only[PV.named,zS,PV.has,beq_iff_eq] at h h2;exact h2▸h
 | .pa i _ _,h,h2=>by simp only[PV.named,zS,PV.has,beq_iff_eq] at h h2;exact h2▸h
 | .agg cs,h,h2=>PV.namedL_has (cs:=cs) h h2
 | .tup cs,h,h2=>PV.namedL_has (cs:=cs) h h2
 | .junk,_,h2=>by simp[PV.has] at h2
 | .und,_,h2=>by simp[PV.has] at h2
 | .d _,_,h2=>by simp[PV.has] at h2
 | .ep _ _,_,h2=>by simp[PV.has] at h2
 | .md _ _ _,_,h2=>by simp[PV.has] at h2
 | .clo _ _,_,h2=>by simp[PV.has] at h2
theorem PV.namedL_has{nm:List Nat}{id:Nat}:∀ {cs:List PV},PV.named.namedL nm cs=true->PV.has.hasL id cs=true->id∈nm
 | [],_,h2=>by simp[PV.has.hasL] at h2
 | c::r,h,h2=>by
  simp only[PV.named.namedL,Bool.and_eq_true] at h;simp only[PV.has.hasL,Bool.or_eq_true] at h2;rcases h2 with h2 | h2
  ·exact PV.named_has h.1 h2
  ·exact PV.namedL_has h.2 h2
end
theorem Ob.named_has{nm:List Nat}{id:Nat}{o:Ob}(h:o.named nm=true)(h2:o.has id=true):id∈nm:=by
 cases o with
 | cells T cs=>exact PV.namedL_has h h2
 | iterO mid bs ck L=>simp only[Ob.named,zS,Ob.has,beq_iff_eq] at h h2;exact h2▸h
 | pin tgt x=>simp only[Ob.named,zS,Ob.has,beq_iff_eq] at h h2;exact h2▸h
 | mapP ks m ov bs ck=>
  cases ov with
  | none=>cases h2
  | some x=>exact PV.named_has h h2
 | _=>simp[Ob.has] at h2
section
variable{β:Type}
def jU : List (Option β)->(Nat->Bool)->Nat->Option β->Option β
 | [],_,_,c=>c
 | x::r,E,b,c=>jU r E (b+1) (bif E b then x.or c else c)
theorem wY : ∀ {l:List (Option β)} {E E':Nat->Bool} {b:Nat} {c:Option β},(∀ j x,l[j]?=some (some x)->E (b+j)=E' (b+j))->jU l E b c=jU l E' b c
 | [],_,_,_,_,_=>rfl
 | x::r,E,E',b,c,h=>by
  unfold jU;have h1:(bif E b then x.or c else c)=(bif E' b then x.or c else c):=by
   cases x with
   | none=>cases E b <;> cases E' b <;> rfl
   | some x=>rw[show E b=E' b from h 0 x rfl]
  rw[h1];exact wY fun j y hj=>by have:=h (j+1) y (by simpa using hj);rwa [show b+(j+1)=b+1+j by omega] at this
theorem VJ : ∀ {l:List (Option β)} {E:Nat->Bool} {b:Nat} {c:Option β},(∀ j x,l[j]?=some (some x)->E (b+j)=false)->jU l E b c=c
 | [],_,_,_,_=>rfl
 | x::r,E,b,c,h=>by
  unfold jU;have h1:(bif E b then x.or c else c)=c:=by
   cases x with
   | none=>cases E b <;> rfl
   | some x=>rw[show E b=false from h 0 x rfl];rfl
  rw[h1];exact VJ fun j y hj=>by have:=h (j+1) y (by simpa using hj);rwa [show b+(j+1)=b+1+j by omega] at this
theorem ql : ∀ {l:List (Option β)} {E E':Nat->Bool} {b:Nat} {c:Option β} {i:Nat} {x:Option β},l[i]?=some x->E' (b+i)=true->(∀ j,j≠b+i->E' j=E j)->(x.isSome=true->∀ j y,i < j->l[j]?=some (some y)->E (b+j)=false)->E (b+i)=false->jU l E' b c=x.or (jU l E b c)
 | [],_,_,_,_,_,_,h,_,_,_,_=>by simp at h
 | z::r,E,E',b,c,0,x,h,h1,h2,h3,h4=>by
  simp at h;subst h;unfold jU;simp only[Nat.add_zero] at h1 h4;rw[h1,h4,cond_true,cond_false];have e:jU r E' (b+1) (z.or c)=jU r E (b+1) (z.or c):=wY fun j y _=>h2 _ (by omega)
  rw[e]
  cases z with
  | none=>rfl
  | some z=>
   have h5:=h3 rfl;have h6:∀ c,jU r E (b+1) c=c:=fun c=>VJ fun j y hj=>by
    have:=h5 (j+1) y (by omega) (by simpa using hj)
    rwa [show b+(j+1)=b+1+j by omega] at this
   rw[h6,h6]
 | z::r,E,E',b,c,i+1,x,h,h1,h2,h3,h4=>by
  simp at h;unfold jU;rw[h2 b (by omega)];refine ql h (by rw[<- h1];congr 1;omega) (fun j hj=>h2 j (by omega)) (fun hx j y hij hj=>?_) (by rw[<- h4];congr 1;omega);have:=h3 hx (j+1) y (by omega) (by simpa using hj)
  rwa [show b+(j+1)=b+1+j by omega] at this
end
theorem VK : ∀ (U l:List (Nat×PV)) (t:Nat),xt (U++l) t=(xt U t).or (xt l t)
 | [],l,t=>by simp[xt]
 | (k,p)::r,l,t=>by
  rw[List.cons_append,yC,yC]
  split
  ·rfl
  ·exact VK r l t
theorem look_app(V l:List (Nat×Ob))(id:Nat):look (V.foldr (fun x l=>yD x.1 x.2 l) l) id=(look V id).or (look l id):=by
 induction V with
 | nil=>simp[look]
 | cons x r ih=>
  obtain⟨k,o⟩:=x;rw[List.foldr_cons,zD];simp only[look]
  by_cases h:id=k
  ·simp[h]
  ·simp only[h,if_false];exact ih
theorem Zx{U:List (Nat×PV)}{t:Nat}:(xt U t).isSome=true↔t∈U.map (·.1):=by
 induction U with
 | nil=>simp[xt]
 | cons x r ih=>
  obtain⟨k,p⟩:=x;rw[yC]
  by_cases h:k=t
  ·simp[h]
  ·simp[h,ih,Ne.symm h]
theorem Zy{V:List (Nat×Ob)}{t:Nat}:(look V t).isSome=true↔t∈V.map (·.1):=by
 induction V with
 | nil=>simp[look]
 | cons x r ih=>
  obtain⟨k,p⟩:=x;simp only[look]
  by_cases h:t=k
  ·simp[h]
  ·simp[h,ih]
theorem VL{id k:Nat}{o ob:Ob}:∀ {l:List (Nat×Ob)},(k,o)∈yD id ob l->(k,o)=(id,ob)\/(k,o)∈l
 | [],h=>by simp[yD] at h;exact .inl (by simp[h])
 | (j,p)::r,h=>by
  unfold yD at h
  split at h
  ·rename_i e
   subst e;rcases List.mem_cons.1 h with e2 | h2
   ·exact .inl e2
   ·exact .inr (List.mem_cons_of_mem _ h2)
  ·split at h
   ·rcases List.mem_cons.1 h with e2 | h2
    ·exact .inl e2
    ·exact .inr h2
   ·rcases List.mem_cons.1 h with e2 | h2
    ·exact .inr (by rw[e2];simp)
    ·rcases VL h2 with h3 | h3
     ·exact .inl h3
     ·exact .inr (List.mem_cons_of_mem _ h3)
theorem app_mem{V l:List (Nat×Ob)}{k:Nat}{o:Ob}(h:(k,o)∈V.foldr (fun x l=>yD x.1 x.2 l) l):(k,o)∈V\/(k,o)∈l:=by
 induction V with
 | nil=>exact .inr h
 | cons x r ih=>
  rw[List.foldr_cons] at h;rcases VL h with h1 | h1
  ·exact .inl (by rw[h1];simp)
  ·rcases ih h1 with h2 | h2
   ·exact .inl (List.mem_cons_of_mem _ h2)
   ·exact .inr h2
def PState.aloneX(s:PState)(id:Nat)(ao:List Nat):Bool:=w3a id s.sl s.sl&&s.objs.all (fun x=>inL ao x.1||!x.2.has id)
theorem wHa{s:PState}{id:Nat}(h:s.aloneX id []=true):s.alone id=true:=by
 unfold PState.aloneX at h;unfold PState.alone;simpa[inL] using h
section
variable(P:Program)(ctx:Ctx)
def FLocal(o:Oper)(s:PState)(f:Ft)(e:Ef):Prop:=
 ∀ s':PState,s'.n=s.n->(∀ {x q},xC o x=true->s.ev x=some q->s'.ev x=some q)->(∀ {id ob},id∈f.ro->look s.objs id=some ob->look s'.objs id=some ob)->(∀ id∈f.fr,s'.fresh id=true)->(∀ a∈f.al,(s'.junks a.2).aloneX a.1 f.ao=true)->Local P ctx o s' (s'.app e)
def Wd(ops:Array Oper)(o:Oper)(s:PState):Prop:=o.guard=none\/∃ j b d,o.guard=some (j,b)/\(ops[j]?).bind (·.dst)=some d/\s.at d=some (.d (.v (.bool b)))
def Sk(ops:Array Oper)(o:Oper)(s:PState):Prop:=(∃ j b c d,o.guard=some (j,b)/\(ops[j]?).bind (·.dst)=some d/\s.at d=some (.d (.v (.bool c)))/\c≠b)\/∃ j b d,o.guard=some (j,b)/\(ops[j]?).bind (·.dst)=some d/\s.at d=some .und
def okE(f:Ft)(e:Ef):Bool:=(e.U.map (·.1)).all (inL f.ws)&&(e.V.map (·.1)).all (inL f.wo)&&e.U.all (fun x=>x.2.named f.nm)&&e.V.all (fun x=>x.2.named f.no)
def undE(o:Oper):Ef:=⟨match o.dst with | some d=>[(d,.und)] | none=>[],[]⟩
inductive PQe (ops:Array Oper) (Q:PState->Prop):List Oper->List Ft->PState->Prop
 | fin {s t:PState} (h:Q t) (hs:Sub ctx s t):PQe ops Q [] [] s
 | step {s:PState} {o:Oper} {rest:List Oper} {f:Ft} {fs:List Ft} {e:Ef} (hl:FLocal P ctx o s f e) (hg:Wd ops o s) (hk:okE f e=true) (h:PQe ops Q rest fs (s.app e)):PQe ops Q (o::rest) (f::fs) s
 | skip {s:PState} {o:Oper} {rest:List Oper} {f:Ft} {fs:List Ft} (hg:Sk ops o s) (hk:okE f (undE o)=true) (h:PQe ops Q rest fs (s.app (undE o))):PQe ops Q (o::rest) (f::fs) s
def Does(ops:Array Oper)(o:Oper)(s:PState)(f:Ft)(e:Ef):Prop:=okE f e=true/\((FLocal P ctx o s f e/\Wd ops o s)\/(Sk ops o s/\e=undE o))
inductive Run (ops:Array Oper):List Oper->List Ft->PState->List Ef->PState->Prop
 | nil {s:PState}:Run ops [] [] s [] s
 | cons {o:Oper} {rest:List Oper} {f:Ft} {fs:List Ft} {s t:PState} {e:Ef} {es:List Ef} (y:Does P ctx ops o s f e) (h:Run ops rest fs (s.app e) es t):Run ops (o::rest) (f::fs) s (e::es) t
end
section
variable{P:Program}{ctx:Ctx}{ops:Array Oper}
theorem PQe.run{Q:PState->Prop}{l:List Oper}{fs:List Ft}{s:PState}(h:PQe P ctx ops Q l fs s):∃ es t,Run P ctx ops l fs s es t/\∃ u,Q u/\Sub ctx t u:=by
 induction h with
 | fin h hs=>exact⟨[],_,.nil,_,h,hs⟩
 | step hl hg hk _ ih=>obtain⟨es,t,h1,h2⟩:=ih;exact⟨_,t,.cons ⟨hk,.inl ⟨hl,hg⟩⟩ h1,h2⟩
 | skip hg hk _ ih=>obtain⟨es,t,h1,h2⟩:=ih;exact⟨_,t,.cons ⟨hk,.inr ⟨hg,rfl⟩⟩ h1,h2⟩
def uy(ops:List Oper):List (List Nat):=ops.foldl (fun acc o=>acc++[o.after.toList.foldl (fun l e=>bif Region.binds .any e then e.on::((acc[e.on]?).getD []++l) else l) []]) []
def Wc(a b:List Nat):Bool:=a.any (inL b)
def wb(f g:Ft)(rf rg:List Nat):Bool:=
 Wc f.ws g.ws||Wc f.ws rg||Wc rf g.ws||Wc f.wo g.wo||Wc f.wo g.ro||Wc f.ro g.wo ||
 Wc f.fr g.nm||Wc f.fr g.no||Wc f.fr g.wo||Wc f.fr g.fr||(f.al.any fun a=>inL g.nm a.1)||(g.al.any fun a=>inL f.nm a.1)||(f.al.any fun a=>inL g.no a.1)
def UC(f g:Ft):Bool:=Wc g.fr f.nm||Wc g.fr f.no||Wc g.fr f.wo||(g.al.any fun a=>inL f.no a.1||(inL f.nm a.1&&!f.ws.all (inL a.2)))
def yb(ops:Array Oper)(i:Nat):List Nat:=match ops[i]? with | some o=>o.looksAt ops | none=>[]
def wIa(ops:Array Oper)(fs:List Ft):Bool:=
 let pr:=uy ops.toList
 Nat.beq fs.length ops.size &&
 ((List.range ops.size).all fun j=>match ops[j]?,fs[j]? with
  | some o,some g=>o.after.toList.all (fun e=>Nat.blt e.on j||!Region.binds .any e)&&g.fr.all (fun id=>!inL g.ro id)&&(List.range j).all fun i=>match fs[i]? with
    | some f=>!UC f g&&(!wb f g (yb ops i) (yb ops j)||inL ((pr[j]?).getD []) i)
    | none=>false
  | _,_=>false)
def jV(s:PState)(fs:List Ft):Bool:=fs.all fun f=>f.fr.all (fun id=>s.sl.all (fun x=>!x.2.has id)&&s.objs.all (fun x=>x.1 != id&&!x.2.has id)) &&
 f.al.all fun a=>s.sl.all (fun x=>!x.2.has a.1||inL a.2 x.1)&&s.objs.all (fun x=>inL f.ao x.1||!x.2.has a.1)
end
end Go.Ep
namespace Go.Ep
open Go.RowKit
section
variable{P:Program}{ctx:Ctx}{ops:Array Oper}
theorem yG{a b:List Nat}:Wc a b=true↔∃ x,x∈a/\x∈b:=by
 unfold Wc;rw[List.any_eq_true];simp only[zS]
structure DrawFacts(ops:Array Oper)(fs:List Ft):Prop where
 len:fs.length=ops.size
 edge:∀ {i:Nat} {o:Oper},ops[i]?=some o->∀ e:Edge,e∈o.after->Region.binds .any e=true->e.on < i
 fro:∀ {j:Nat} {g:Ft},fs[j]?=some g->∀ id∈g.fr,id∉g.ro
 pair:∀ {i j:Nat} {f g:Ft},i < j->fs[i]?=some f->fs[j]?=some g->UC f g=false/\(wb f g (yb ops i) (yb ops j)=true->i∈((uy ops.toList)[j]?).getD [])
theorem jW{fs:List Ft}(h:wIa ops fs=true):DrawFacts ops fs:=by
 unfold wIa at h;simp only[Bool.and_eq_true,List.all_eq_true,List.mem_range] at h;obtain⟨h0,h1⟩:=h;have hlen:=Nat.eq_of_beq_eq_true h0;refine⟨hlen,fun {i o} hi e he hbe=>?_,fun {j g} hj id hid=>?_,fun {i j f g} hij hi hj=>?_⟩
 ·have hlt:=(Array.getElem?_eq_some_iff.1 hi).1;have:=h1 i hlt;rw[hi,List.getElem?_eq_getElem (by omega:i < fs.length)] at this;simp only[Bool.and_eq_true,List.all_eq_true] at this;simpa[Nat.blt_eq,hbe] using this.1.1 e (by simpa using he)
 ·have hlt:j < ops.size:=by have:=(List.getElem?_eq_some_iff.1 hj).1;omega
  have:=h1 j hlt;rw[hj,Array.getElem?_eq_getElem hlt] at this;simp only[Bool.and_eq_true,List.all_eq_true] at this;have:=this.1.2 id hid;simp only[Bool.not_eq_true',<- Bool.not_eq_true,zS] at this;exact this
 ·have hlt:j < ops.size:=by have:=(List.getElem?_eq_some_iff.1 hj).1;omega
  have:=h1 j hlt;rw[hj,Array.getElem?_eq_getElem hlt] at this;simp only[Bool.and_eq_true,List.all_eq_true,List.mem_range] at this;have:=this.2 i hij;rw[hi] at this;simp only[Bool.and_eq_true,Bool.or_eq_true,Bool.not_eq_true',zS] at this;refine⟨this.1,fun hc=>?_⟩;rcases this.2 with h2 | h2
  ·rw[hc] at h2;cases h2
  ·exact h2
def yUa(ops:Array Oper)(E:Nat->Bool):Prop:=∀ j,E j=true->∀ k∈((uy ops.toList)[j]?).getD [],E k=true
def zDa(acc:List (List Nat))(o:Oper):List (List Nat):=acc++[o.after.toList.foldl (fun l e=>bif Region.binds .any e then e.on::((acc[e.on]?).getD []++l) else l) []]
theorem vHa(l:List Oper):∀ (acc:List (List Nat)) (j:Nat),j < acc.length->(l.foldl zDa acc)[j]?=acc[j]?:=by
 induction l with
 | nil=>intro acc j _;rfl
 | cons o r ih=>
  intro acc j hj;rw[List.foldl_cons,ih _ _ (by simp[zDa];omega)];unfold zDa;rw[List.getElem?_append_left hj]
theorem vIa{acc:List (List Nat)}(es:List Edge):∀ (l:List Nat) (k:Nat),k∈es.foldl (fun l e=>bif Region.binds .any e then e.on::((acc[e.on]?).getD []++l) else l) l->k∈l\/∃ e∈es,Region.binds .any e=true/\(k=e.on\/k∈(acc[e.on]?).getD []):=by
 induction es with
 | nil=>intro l k h;exact .inl h
 | cons e r ih=>
  intro l k h;rw[List.foldl_cons] at h;rcases ih _ k h with h1 | ⟨e',he',h1⟩
  ·cases hb:Region.binds .any e with
   | false=>rw[hb] at h1;exact .inl h1
   | true=>
    rw[hb] at h1;simp only[cond_true,List.mem_cons,List.mem_append] at h1;rcases h1 with h1 | h1 | h1
    ·exact .inr ⟨e,by simp,hb,.inl h1⟩
    ·exact .inr ⟨e,by simp,hb,.inr h1⟩
    ·exact .inl h1
  ·exact .inr ⟨e',List.mem_cons_of_mem _ he',h1⟩
theorem Jv : ∀ (l:List Oper) (acc:List (List Nat)),(∀ i o,l[i]?=some o->∀ e∈o.after,Region.binds .any e=true->e.on < acc.length+i)->∀ i o,l[i]?=some o->∀ k∈((l.foldl zDa acc)[acc.length+i]?).getD [],∃ e∈o.after,Region.binds .any e=true/\(k=e.on\/k∈((l.foldl zDa acc)[e.on]?).getD [])
 | [],_,_,i,o,h,_,_=>by simp at h
 | o0::r,acc,hed,0,o,h,k,hk=>by
  simp at h;subst h;rw[Nat.add_zero,List.foldl_cons,vHa _ _ _ (by simp[zDa])] at hk;have e1:(zDa acc o0)[acc.length]?=some (o0.after.toList.foldl (fun l e=>bif Region.binds .any e then e.on::((acc[e.on]?).getD []++l) else l) []):=by simp[zDa]
  rw[e1] at hk;rcases vIa _ _ k hk with h1 | ⟨e,he,hb,h1⟩
  ·cases h1
  ·refine⟨e,by simpa using he,hb,?_⟩;rcases h1 with h1 | h1
   ·exact .inl h1
   ·right
    have hlt:e.on < acc.length:=by have:=hed 0 o0 rfl e (by simpa using he) hb;simpa using this
    rw[List.foldl_cons,vHa _ _ _ (by simp[zDa];omega)];unfold zDa;rw[List.getElem?_append_left hlt];exact h1
 | o0::r,acc,hed,i+1,o,h,k,hk=>by
  have hl:(zDa acc o0).length=acc.length+1:=by simp[zDa]
  have:=Jv r (zDa acc o0) (fun j o' hj e he hbe=>by have:=hed (j+1) o' (by simpa using hj) e he hbe;rw[hl];omega) i o (by simpa using h) k (by
   rw[hl,show acc.length+1+i=acc.length+(i+1) by omega];exact hk)
  exact this
theorem xOa{fs:List Ft}(F:DrawFacts ops fs){E:Nat->Bool}(h:yUa ops E){i:Nat}{o:Oper}(ho:ops[i]?=some o)(hr:∀ e∈o.after,Region.binds .any e=true->E e.on=true):∀ k∈((uy ops.toList)[i]?).getD [],E k=true:=by
 intro k hk;have hf:uy ops.toList=ops.toList.foldl zDa []:=rfl;rw[hf] at hk;obtain⟨e,he,hb,h1⟩:=Jv ops.toList [] (fun i o hi e he hbe=>by have:=F.edge (i:=i) (o:=o) (by simpa using hi) e he hbe;simpa using this) i o (by simpa using ho) k (by rw[List.length_nil,Nat.zero_add];exact hk);rcases h1 with rfl | h1
 ·exact hr e he hb
 ·exact h e.on (hr e he hb) k h1
theorem XD{l:List Nat}{i:Nat}:inL l i=false↔i∉l:=by rw[<- Bool.not_eq_true,zS]
theorem jX{id:Nat}{full:List (Nat×PV)}:∀ {l:List (Nat×PV)},(∀ x∈l,x.2.has id=true->∀ q,xt full x.1=some q->q.has id=false)->w3a id full l=true
 | [],_=>rfl
 | (k,p)::r,h=>by
  unfold w3a;have ih:=jX (l:=r) (full:=full) (id:=id) fun x hx=>h x (List.mem_cons_of_mem _ hx)
  cases hb:p.has id with
  | false=>exact ih
  | true=>
   rw[cond_true,ih,Bool.and_true]
   cases hg:xt full k with
   | none=>rfl
   | some q=>simp[h (k,p) (by simp) hb q hg]
theorem zRa(js:List Nat):∀ (s:PState) (x:Nat×PV),x∈(s.junks js).sl->x.2=.junk\/x∈s.sl:=by
 induction js with
 | nil=>intro s x h;exact .inr h
 | cons d r ih=>
  intro s x h;rcases ih _ x h with h1 | h1
  ·exact .inl h1
  ·rcases List.mem_cons.1 h1 with h2 | h2
   ·exact .inl (by rw[h2])
   ·exact .inr h2
theorem vJa(js:List Nat):∀ (s:PState) (t:Nat),(t∈js->xt (s.junks js).sl t=some PV.junk)/\(xt s.sl t=some PV.junk->xt (s.junks js).sl t=some PV.junk):=by
 induction js with
 | nil=>intro s t;exact⟨fun h=>absurd h List.not_mem_nil,fun h=>h⟩
 | cons d r ih=>
  intro s t;have h2:xt s.sl t=some .junk->xt (s.put d .junk).sl t=some .junk:=fun h=>by
   rw[PState.put,yC];split
   ·rfl
   ·exact h
  refine⟨fun h=>?_,fun h=>(ih _ t).2 (h2 h)⟩;rcases List.mem_cons.1 h with rfl | h
  ·exact(ih _ t).2 (by rw[PState.put,yC,if_pos rfl])
  ·exact(ih _ t).1 h
theorem xPa{s:PState}{id:Nat}{js ao:List Nat}(h1:∀ x∈s.sl,x.2.has id=true->x.1∈js)(h2:∀ x∈s.objs,inL ao x.1=true\/x.2.has id=false):(s.junks js).aloneX id ao=true:=by
 unfold PState.aloneX;rw[Bool.and_eq_true];refine⟨jX fun x hx hh q hq=>?_,List.all_eq_true.2 fun x hx=>?_⟩
 ·rcases zRa js s x hx with h | h
  ·rw[h] at hh;simp[PV.has] at hh
  ·rw[(vJa js s x.1).1 (h1 x h hh)] at hq
   cases hq
   rfl
 ·rw[yO] at hx;rcases h2 x hx with h | h <;> simp[h]
theorem xQa{s:PState}{id:Nat}(h1:∀ x∈s.sl,x.2.has id=false)(h2:∀ x∈s.objs,x.1≠id/\x.2.has id=false):s.fresh id=true:=by
 unfold PState.fresh;rw[Bool.and_eq_true];refine⟨jX fun x hx hh=>?_,List.all_eq_true.2 fun x hx=>?_⟩
 ·rw[h1 x hx] at hh;cases hh
 ·simp[h2 x hx]
structure InvE(s0:PState)(es:List Ef)(E:Nat->Bool)(s:PState):Prop where
 n:s.n=s0.n
 sl:∀ t,xt s.sl t=jU (es.map fun e=>xt e.U t) E 0 (xt s0.sl t)
 ob:∀ id,look s.objs id=jU (es.map fun e=>look e.V id) E 0 (look s0.objs id)
 ms:∀ x∈s.sl,x∈s0.sl\/∃ j e,E j=true/\es[j]?=some e/\x∈e.U
 mo:∀ x∈s.objs,x∈s0.objs\/∃ j e,E j=true/\es[j]?=some e/\x∈e.V
theorem InvE.zero{s0:PState}{es:List Ef}{E:Nat->Bool}(h:∀ j,E j=false):InvE s0 es E s0:=
 ⟨rfl,fun _=>(VJ fun _ _ _=>h _).symm,fun _=>(VJ fun _ _ _=>h _).symm,fun _ h=>.inl h,fun _ h=>.inl h⟩
theorem InvE.step{s0 s:PState}{es:List Ef}{E E':Nat->Bool}(h:InvE s0 es E s){i:Nat}{e:Ef}(hi:es[i]?=some e)(h0:E i=false)(h1:E' i=true)(hE:∀ j,j≠i->E' j=E j)
  (hU:∀ j e',i < j->es[j]?=some e'->E j=true->∀ t,t∈e.U.map (·.1)->t∉e'.U.map (·.1)) (hV:∀ j e',i < j->es[j]?=some e'->E j=true->∀ t,t∈e.V.map (·.1)->t∉e'.V.map (·.1)):InvE s0 es E' (s.app e):=by
 have hlt:∀ j,E j=true->j≠i:=fun j hj e=>by rw[e,h0] at hj;cases hj
 refine⟨h.n,fun t=>?_,fun id=>?_,fun x hx=>?_,fun x hx=>?_⟩
 ·show xt (e.U++s.sl) t=_;rw[VK,h.sl];refine(ql (i:=i) (by simp[hi]) (by simpa using h1) (fun j hj=>hE j (by simpa using hj)) (fun hx j y hij hj=>?_) (by simpa using h0)).symm;rw[Nat.zero_add]
  cases hb:E j with
  | false=>rfl
  | true=>
   rw[List.getElem?_map] at hj
   cases he:es[j]? with
   | none=>rw[he] at hj;cases hj
   | some e'=>
    rw[he] at hj;simp only[Option.map_some,Option.some.injEq] at hj;exact absurd (Zx.1 (by rw[hj];rfl)) (hU j e' hij he hb t (Zx.1 hx))
 ·show look (e.V.foldr _ s.objs) id=_;rw[look_app,h.ob];refine(ql (i:=i) (by simp[hi]) (by simpa using h1) (fun j hj=>hE j (by simpa using hj)) (fun hx j y hij hj=>?_) (by simpa using h0)).symm;rw[Nat.zero_add]
  cases hb:E j with
  | false=>rfl
  | true=>
   rw[List.getElem?_map] at hj
   cases he:es[j]? with
   | none=>rw[he] at hj;cases hj
   | some e'=>
    rw[he] at hj;simp only[Option.map_some,Option.some.injEq] at hj;exact absurd (Zy.1 (by rw[hj];rfl)) (hV j e' hij he hb id (Zy.1 hx))
 ·rcases List.mem_append.1 hx with hx | hx
  ·exact .inr ⟨i,e,h1,hi,hx⟩
  ·rcases h.ms x hx with h2 | ⟨j,e',a,b,c⟩
   ·exact .inl h2
   ·exact .inr ⟨j,e',by rw[hE j (hlt j a)];exact a,b,c⟩
 ·rcases app_mem (k:=x.1) (o:=x.2) hx with hx | hx
  ·exact .inr ⟨i,e,h1,hi,hx⟩
  ·rcases h.mo x hx with h2 | ⟨j,e',a,b,c⟩
   ·exact .inl h2
   ·exact .inr ⟨j,e',by rw[hE j (hlt j a)];exact a,b,c⟩
theorem Does.run{o:Oper}{s s':PState}{f:Ft}{e:Ef}(y:Does P ctx ops o s f e)(hn:s'.n=s.n)(hl:∀ t,t∈o.looksAt ops->xt s'.sl t=xt s.sl t)(ho:∀ id∈f.ro,look s'.objs id=look s.objs id)
  (hf:∀ id∈f.fr,s'.fresh id=true) (ha:∀ a∈f.al,(s'.junks a.2).aloneX a.1 f.ao=true) {i:Nat} (hi:ops[i]?=some o) {a:Act} {w:World} (hr:Rel ctx s' a w) {K:Act->World->Prop} {Qx:Exit->Act->World->Prop}
  (hK:∀ a' w',Rel ctx (s'.app e) a' w'->K a' w'):wpOp P ops Qx i K a w:=by
 have hat:∀ t,t∈o.looksAt ops->s'.at t=s.at t:=fun t ht=>by rw[YQ,YQ,hn,hl t ht]
 have hund:s'.app (undE o)=s'.putD o.dst .und:=by unfold undE;cases o.dst <;> rfl
 unfold wpOp;simp only[hi];rcases y.2 with⟨hd,hg⟩ | ⟨hg,rfl⟩
 ·have hloc:Local P ctx o s' (s'.app e):=by
   refine hd s' hn (fun {x q} hx hq=>?_) (fun {id ob} hid h=>by rw[ho id hid];exact h) hf ha
   cases x with
   | tmp t=>
    show s'.at t=some q;rw[hat t ?_]
    ·exact hq
    ·simp only[xC,List.any_eq_true] at hx;obtain⟨x,hx1,hx2⟩:=hx;unfold Oper.looksAt;refine List.mem_append_left _ (List.mem_filterMap.2 ⟨x,hx1,?_⟩)
     cases x with
     | tmp u=>simp only at hx2;rw[Nat.eq_of_beq_eq_true hx2]
     | _=>simp at hx2
   | const v=>cases v <;> exact hq
   | func f=>exact hq
   | global g=>exact hq
  have hw:Region.wanted o (yielded ops a.tmps)=true:=by
   rcases hg with hg | ⟨j,b,d,hg,hd2,hs⟩
   ·simp[Region.wanted,hg]
   ·obtain⟨g,hrg⟩:=hr;have hs':s'.at d=some (.d (.v (.bool b))):=by
     rw[hat d (by unfold Oper.looksAt;rw[hg];refine List.mem_append_right _ ?_;simp[hd2])];exact hs
    simp[Region.wanted,hg,ur hrg hd2 hs']
  rw[if_pos hw];exact .inl (hloc a w hr K Qx hK)
 ·rw[hund] at hK;obtain⟨g,hrg⟩:=hr;rcases hg with⟨j,b,c,d,hg,hd,hs,hbc⟩ | ⟨j,b,d,hg,hd,hs⟩
  ·have hs':s'.at d=some (.d (.v (.bool c))):=by
    rw[hat d (by unfold Oper.looksAt;rw[hg];refine List.mem_append_right _ ?_;simp[hd])];exact hs
   have hw:Region.wanted o (yielded ops a.tmps)=false:=by simp[Region.wanted,hg,ur hrg hd hs',hbc]
   rw[hw];exact hK _ _ ⟨g,hrg.put o.dst Rd.und⟩
  ·have hs':s'.at d=some .und:=by
    rw[hat d (by unfold Oper.looksAt;rw[hg];refine List.mem_append_right _ ?_;simp[hd])];exact hs
   have hw:Region.wanted o (yielded ops a.tmps)=false:=by simp[Region.wanted,hg,Wb hrg hd hs']
   rw[hw];exact hK _ _ ⟨g,hrg.put o.dst Rd.und⟩
theorem Run.lens{l:List Oper}{fs:List Ft}{s t:PState}{es:List Ef}(h:Run P ctx ops l fs s es t):es.length=l.length/\fs.length=l.length:=by
 induction h with
 | nil=>exact⟨rfl,rfl⟩
 | cons _ _ ih=>exact⟨by simp[ih.1],by simp[ih.2]⟩
theorem Run.at_ : ∀ {rest:List Oper} {fs:List Ft} {s t s0:PState} {es pre all:List Ef} {b:Nat},Run P ctx ops rest fs s es t->all=pre++es->pre.length=b->InvE s0 all (fun j=>decide (j < b)) s ->
  (∀ (i:Nat) (o:Oper) (f:Ft),rest[i]?=some o->fs[i]?=some f->∃ S e,all[b+i]?=some e/\InvE s0 all (fun j=>decide (j < b+i)) S/\Does P ctx ops o S f e)/\InvE s0 all (fun j=>decide (j < b+rest.length)) t:=by
 intro rest
 induction rest with
 | nil=>
  intro fs s t s0 es pre all b h _ _ hh
  cases h
  exact⟨by simp,by simpa using hh⟩
 | cons o rest ih=>
  intro fs s t s0 es pre all b h hall hb hh
  cases h with
  | @cons _ _ f fs _ _ e es y h=>
   have he:all[b]?=some e:=by subst hall;subst hb;simp
   have hst:InvE s0 all (fun j=>decide (j < b+1)) (s.app e):=hh.step he (by simp) (by simp) (fun j hj=>by
    have:(j < b+1)=(j < b):=by apply propext;omega
    simp only[this]) (fun j _ hj _ hE=>by simp at hE;omega) (fun j _ hj _ hE=>by simp at hE;omega)
   obtain⟨h1,h2⟩:=ih (b:=b+1) (pre:=pre++[e]) h (by simp[hall]) (by simp[hb]) hst;refine⟨fun i o' f' ho hf=>?_,by rw[List.length_cons,show b+(rest.length+1)=b+1+rest.length by omega];exact h2⟩
   cases i with
   | zero=>simp at ho hf;subst ho;subst hf;exact⟨s,e,he,hh,y⟩
   | succ i=>
    simp at ho hf;obtain⟨S,q,e1,e2,e3⟩:=h1 i o' f' ho hf;exact⟨S,q,by rw[<- e1];congr 1;omega,by rw[show b+(i+1)=b+1+i by omega];exact e2,e3⟩
theorem DrawFacts.ahead{fs:List Ft}(F:DrawFacts ops fs){E:Nat->Bool}(h:yUa ops E){i j:Nat}{f g:Ft}(hij:i < j)(hi:fs[i]?=some f)(hj:fs[j]?=some g)(hc:wb f g (yb ops i) (yb ops j)=true)(hE:E j=true):E i=true:=
 h j hE i ((F.pair hij hi hj).2 hc)
theorem wJa{s0 S:PState}{fs:List Ft}{es:List Ef}{Qx:Exit->Act->World->Prop}(F:DrawFacts ops fs)(hS0:jV s0 fs=true)(hlen:es.length=ops.size)
  (hY:∀ (i:Nat) (o:Oper) (f:Ft),ops[i]?=some o->fs[i]?=some f->∃ T e,es[i]?=some e/\InvE s0 es (fun j=>decide (j < i)) T/\Does P ctx ops o T f e) (hS:InvE s0 es (fun j=>decide (j < ops.size)) S)
  (hQ:∀ a w,Rel ctx S a w->Qx .normal a w):∀ (fuel:Nat) (listed:Array Bool) (s:PState) (a:Act) (w:World),listed.size=ops.size->listed.toList.count false<=fuel->InvE s0 es (fun j=>listed.getD j false) s->yUa ops (fun j=>listed.getD j false)->Rel ctx s a w ->
   wpAny P .any ops Qx fuel listed a w:=by
 have hfs:∀ i,i < ops.size->∃ f,fs[i]?=some f:=fun i hi=>⟨fs[i]'(by rw[F.len];exact hi),List.getElem?_eq_getElem _⟩
 have hok:∀ {i:Nat} {e:Ef},es[i]?=some e->∃ f,fs[i]?=some f/\okE f e=true:=fun {i e} he=>by
  have hi:i < ops.size:=by rw[<- hlen];exact(List.getElem?_eq_some_iff.1 he).1
  obtain⟨f,hf⟩:=hfs i hi;obtain⟨T,e',h1,_,h2⟩:=hY i ops[i] f (Array.getElem?_eq_getElem hi) hf;rw[he] at h1
  cases h1
  exact⟨f,hf,h2.1⟩
 have okU:∀ {f:Ft} {e:Ef},okE f e=true->(∀ t,t∈e.U.map (·.1)->t∈f.ws)/\(∀ t,t∈e.V.map (·.1)->t∈f.wo)/\(∀ x∈e.U,x.2.named f.nm=true)/\(∀ x∈e.V,x.2.named f.no=true):=fun {f e} h=>by
  simp only[okE,Bool.and_eq_true,List.all_eq_true] at h;exact⟨fun t ht=>zS.1 (h.1.1.1 t ht),fun t ht=>zS.1 (h.1.1.2 t ht),h.1.2,h.2⟩
 have hall:∀ listed:Array Bool,listed.size=ops.size->Region.ready .any ops listed=[]->∀ i,i < ops.size->listed.getD i false=true:=by
  intro listed hsz hr i
  induction i using Nat.strongRecOn with
  | _ i ih=>
   intro hi
   cases hb:listed.getD i false with
   | true=>rfl
   | false=>
    have hlt:i < listed.size:=by omega
    have hmem:i∈Region.ready .any ops listed:=by
     refine vU.2 ⟨hi,?_,ops[i],Array.getElem?_eq_getElem hi,fun e he hbe=>?_⟩
     ·simp[Array.getD,hlt] at hb ⊢;exact hb
     ·have:=F.edge (Array.getElem?_eq_getElem hi) e he hbe;exact ih e.on this (by omega)
    rw[hr] at hmem
    cases hmem
 have hfin:∀ (listed:Array Bool) (s:PState) (a:Act) (w:World),listed.size=ops.size->InvE s0 es (fun j=>listed.getD j false) s->Rel ctx s a w->Region.ready .any ops listed=[]->Qx .normal a w:=by
  intro listed s a w hsz hh hr hrdy;have ha:=hall listed hsz hrdy;have hlt:∀ {β:Type} {g:Ef->Option β} {k:Nat} {x:β},(es.map g)[k]?=some (some x)->k < ops.size:=fun {β g k x} hk=>by
   have:=(List.getElem?_eq_some_iff.1 hk).1;rw[List.length_map] at this;omega
  refine hQ a w (Sub.drop (s:=s) (t:=S) (by rw[hh.n,hS.n]) (fun i p hp=>?_) (fun id o ho=>?_) a w hr)
  ·rw[YQ] at hp ⊢;rw[hh.n,<- hS.n,hh.sl];rw[hS.sl] at hp;rw[<- hp]
   split
   ·exact wY fun j x hj=>by have:=hlt hj;simp only[Nat.zero_add,ha j this,this,decide_true]
   ·rfl
  ·rw[hh.ob];rw[hS.ob] at ho;rw[<- ho];exact wY fun j x hj=>by have:=hlt hj;simp only[Nat.zero_add,ha j this,this,decide_true]
 intro fuel
 induction fuel with
 | zero=>
  intro listed s a w hsz hc hh _ hr;have hrdy:Region.ready .any ops listed=[]:=by
   apply List.eq_nil_iff_forall_not_mem.2;intro i hi;obtain⟨h1,h2,_⟩:=vU.1 hi;have hlt:i < listed.size:=by omega
   have hm:false∈listed.toList:=by
    simp[Array.getD,hlt] at h2;rw[<- h2];simp
   have:=List.count_pos_iff.2 hm;omega
  exact⟨hrdy,hfin listed s a w hsz hh hr hrdy⟩
 | succ fuel ih=>
  intro listed s a w hsz hc hh hdn hr;refine⟨hfin listed s a w hsz hh hr,fun i hi=>?_⟩;obtain⟨h1,h2,o,ho,he⟩:=vU.1 hi;have hlt:i < listed.size:=by omega
  have hli:listed[i]=false:=by simpa[Array.getD,hlt] using h2
  have hi0:listed.getD i false=false:=by simp[Array.getD,hlt,hli]
  have hpr:=xOa F hdn ho he;obtain⟨f,hf⟩:=hfs i h1;obtain⟨T,e,hee,hT,y⟩:=hY i o f ho hf;have hre:yb ops i=o.looksAt ops:=by simp[yb,ho]
  -- how another operation stands to this one
  have hbef:∀ {j:Nat} {g:Ft},j < i->fs[j]?=some g->wb g f (yb ops j) (yb ops i)=true->listed.getD j false=true:=fun {j g} hji hg hcl=>hpr j ((F.pair hji hg hf).2 hcl)
  have haft:∀ {j:Nat} {g:Ft},i < j->fs[j]?=some g->wb f g (yb ops i) (yb ops j)=true->listed.getD j false=false:=fun {j g} hij hg hcl=>by
   cases hb:listed.getD j false with
   | false=>rfl
   | true=>have:=F.ahead hdn hij hf hg hcl hb;rw[hi0] at this;cases this
  have same:∀ {β:Type} (wr:Ef->Option β) (c:Option β),(∀ j e' g,j < i->es[j]?=some e'->(wr e').isSome=true->fs[j]?=some g->okE g e'=true->wb g f (yb ops j) (yb ops i)=true) ->
    (∀ j e' g,i < j->es[j]?=some e'->(wr e').isSome=true->fs[j]?=some g->okE g e'=true->wb f g (yb ops i) (yb ops j)=true) ->
    jU (es.map wr) (fun j=>listed.getD j false) 0 c=jU (es.map wr) (fun j=>decide (j < i)) 0 c:=fun {β} wr c hb ha=>by
   refine wY fun j x hj=>?_
   rw[List.getElem?_map] at hj
   cases hej:es[j]? with
   | none=>rw[hej] at hj;cases hj
   | some e'=>
    rw[hej] at hj;simp only[Option.map_some,Option.some.injEq] at hj;obtain⟨g,hg,hk⟩:=hok hej;simp only[Nat.zero_add];rcases Nat.lt_trichotomy j i with hji | hji | hji
    ·rw[hbef hji hg (hb j e' g hji hej (by rw[hj];rfl) hg hk)];simp[hji]
    ·subst hji;rw[hi0];simp
    ·rw[haft hji hg (ha j e' g hji hej (by rw[hj];rfl) hg hk)];simp;omega
  have nm1:∀ {id j:Nat} {e':Ef} {g:Ft} {x:Nat×PV},fs[j]?=some g->okE g e'=true->x∈e'.U->x.2.has id=true->id∈g.nm:=fun {id j e' g x} _ hk hx hh=>PV.named_has ((okU hk).2.2.1 x hx) hh
  have nm2:∀ {id j:Nat} {e':Ef} {g:Ft} {x:Nat×Ob},fs[j]?=some g->okE g e'=true->x∈e'.V->x.2.has id=true->id∈g.no:=fun {id j e' g x} _ hk hx hh=>Ob.named_has ((okU hk).2.2.2 x hx) hh
  simp only[jV,List.all_eq_true,Bool.and_eq_true,Bool.or_eq_true,Bool.not_eq_true',bne_iff_ne,ne_eq,zS] at hS0;have hSf:=hS0 f (List.mem_of_getElem? hf);refine y.run (hh.n.trans hT.n.symm) (fun t ht=>?_) (fun id hid=>?_) (fun id hid=>?_) (fun al hal=>?_) ho hr fun a' w' hr'=>?_
  ·rw[hh.sl,hT.sl];rw[<- hre] at ht;exact same (fun e=>xt e.U t) _ (fun j e' g _ _ hw _ hk=>by
    have:=yG.2 ⟨t,(okU hk).1 t (Zx.1 hw),ht⟩;simp[wb,this]) (fun j e' g _ _ hw _ hk=>by
    have:=yG.2 ⟨t,ht,(okU hk).1 t (Zx.1 hw)⟩;simp[wb,this])
  ·rw[hh.ob,hT.ob];exact same (fun e=>look e.V id) _ (fun j e' g _ _ hw _ hk=>by
    have:=yG.2 ⟨id,(okU hk).2.1 id (Zy.1 hw),hid⟩;simp[wb,this]) (fun j e' g _ _ hw _ hk=>by
    have:=yG.2 ⟨id,hid,(okU hk).2.1 id (Zy.1 hw)⟩;simp[wb,this])
  ·refine xQa (fun x hx=>?_) (fun x hx=>?_)
   ·rcases hh.ms x hx with h3 | ⟨j,e',hEj,hej,hxe⟩
    ·exact(hSf.1 id hid).1 x h3
    ·cases hb:x.2.has id with
     | false=>rfl
     | true=>
      exfalso;obtain⟨g,hg,hk⟩:=hok hej;have hn:=nm1 hg hk hxe hb;rcases Nat.lt_trichotomy j i with hji | hji | hji
      ·have:=(F.pair hji hg hf).1;simp[UC,yG.2 ⟨id,hid,hn⟩] at this
      ·subst hji;rw[hi0] at hEj;cases hEj
      ·rw[haft hji hg (by simp[wb,yG.2 ⟨id,hid,hn⟩])] at hEj;cases hEj
   ·rcases hh.mo x hx with h3 | ⟨j,e',hEj,hej,hxe⟩
    ·exact(hSf.1 id hid).2 x h3
    ·obtain⟨g,hg,hk⟩:=hok hej
     constructor
     ·intro hid2;have hn:id∈g.wo:=(okU hk).2.1 id (List.mem_map.2 ⟨x,hxe,hid2⟩);rcases Nat.lt_trichotomy j i with hji | hji | hji
      ·have:=(F.pair hji hg hf).1;simp[UC,yG.2 ⟨id,hid,hn⟩] at this
      ·subst hji;rw[hi0] at hEj;cases hEj
      ·rw[haft hji hg (by simp[wb,yG.2 ⟨id,hid,hn⟩])] at hEj;cases hEj
     ·cases hb:x.2.has id with
      | false=>rfl
      | true=>
       exfalso;have hn:=nm2 hg hk hxe hb;rcases Nat.lt_trichotomy j i with hji | hji | hji
       ·have:=(F.pair hji hg hf).1;simp[UC,yG.2 ⟨id,hid,hn⟩] at this
       ·subst hji;rw[hi0] at hEj;cases hEj
       ·rw[haft hji hg (by simp[wb,yG.2 ⟨id,hid,hn⟩])] at hEj;cases hEj
  ·refine xPa (fun x hx hb=>?_) (fun x hx=>?_)
   ·rcases hh.ms x hx with h3 | ⟨j,e',hEj,hej,hxe⟩
    ·rcases(hSf.2 al hal).1 x h3 with h4 | h4
     ·rw[hb] at h4;cases h4
     ·exact h4
    ·obtain⟨g,hg,hk⟩:=hok hej;have hn:=nm1 hg hk hxe hb;rcases Nat.lt_trichotomy j i with hji | hji | hji
     ·have:=(F.pair hji hg hf).1;simp only[UC,Bool.or_eq_false_iff,List.any_eq_false] at this;have h5:=this.2 al hal;simp only[Bool.or_eq_true,Bool.and_eq_true,zS,Bool.not_eq_true',not_or,not_and,Bool.not_eq_false,List.all_eq_true] at h5;exact h5.2 hn _ ((okU hk).1 _ (List.mem_map.2 ⟨x,hxe,rfl⟩))
     ·subst hji;rw[hi0] at hEj;cases hEj
     ·have h6:(f.al.any fun a=>inL g.nm a.1)=true:=List.any_eq_true.2 ⟨al,hal,zS.2 hn⟩;rw[haft hji hg (by simp only[wb,h6,Bool.or_true,Bool.true_or])] at hEj;cases hEj
   ·rcases hh.mo x hx with h3 | ⟨j,e',hEj,hej,hxe⟩
    ·rcases(hSf.2 al hal).2 x h3 with h4 | h4
     ·exact .inl (zS.2 h4)
     ·exact .inr h4
    ·right
     cases hb:x.2.has al.1 with
     | false=>rfl
     | true=>
      exfalso;obtain⟨g,hg,hk⟩:=hok hej;have hn:=nm2 hg hk hxe hb;rcases Nat.lt_trichotomy j i with hji | hji | hji
      ·have:=(F.pair hji hg hf).1;simp only[UC,Bool.or_eq_false_iff,List.any_eq_false] at this;have h5:=this.2 al hal;simp only[Bool.or_eq_true,zS,not_or] at h5;exact h5.1 hn
      ·subst hji;rw[hi0] at hEj;cases hEj
      ·have h6:(f.al.any fun a=>inL g.no a.1)=true:=List.any_eq_true.2 ⟨al,hal,zS.2 hn⟩;rw[haft hji hg (by simp only[wb,h6,Bool.or_true])] at hEj;cases hEj
  ·have hgt:∀ j,j≠i->(listed.setIfInBounds i true).getD j false=listed.getD j false:=fun j hj=>by
    simp[Array.getD_eq_getD_getElem?,Ne.symm hj]
   have hgi:(listed.setIfInBounds i true).getD i false=true:=by simp[Array.getD,hlt]
   refine ih _ _ a' w' (by simpa using hsz) ?_ (hh.step hee hi0 hgi hgt (fun j e' hij hej hEj t ht ht2=>?_) (fun j e' hij hej hEj t ht ht2=>?_)) (fun j hj k hk=>?_) hr'
   ·have:=VF (l:=listed.toList) (i:=i) (by simp[hlt,hli]);simp only[Array.toList_setIfInBounds];omega
   ·obtain⟨g,hg,hk⟩:=hok hej;rw[haft hij hg (by simp[wb,yG.2 ⟨t,(okU y.1).1 t ht,(okU hk).1 t ht2⟩])] at hEj;cases hEj
   ·obtain⟨g,hg,hk⟩:=hok hej;rw[haft hij hg (by simp[wb,yG.2 ⟨t,(okU y.1).2.1 t ht,(okU hk).2.1 t ht2⟩])] at hEj;cases hEj
   ·by_cases hki:k=i
    ·subst hki;exact hgi
    ·show(listed.setIfInBounds i true).getD k false=true;rw[hgt k hki]
     by_cases hji:j=i
     ·subst hji;exact hpr k hk
     ·exact hdn j (show listed.getD j false=true by rw[<- hgt j hji];exact hj) k hk
theorem PWc.regionE{Q:PQ}{s:PState}{id:Nat}{l:List Oper}(fs:List Ft)(hm:P.follows .mixedOrders=true)(hB:wIa l.toArray fs=true)(hS:jV s fs=true)(h:PQe P ctx l.toArray (Q .normal) l fs s):PWc P ctx (.region id l.toArray true) Q s:=by
 intro a w ⟨g,hr⟩;obtain⟨es,t,hrun,u,hu,hsub⟩:=h.run;have F:=jW hB;have h0:InvE s es (fun j=>decide (j < 0)) s:=InvE.zero fun j=>by simp
 obtain⟨h1,h2⟩:=hrun.at_ (all:=es) (pre:=[]) (b:=0) (s0:=s) rfl rfl h0;refine wp_region_any hm ?_;refine wJa (es:=es) (s0:=s) (S:=t) F hS (by simpa using hrun.lens.1) (fun i o f ho hf=>?_) (by simpa using h2) (fun a w hr=>⟨u,hu,hsub a w hr⟩) _ _ s a _ (by simp) ?_ ?_ ?_ ⟨g,hr.below (Below.refl _ w).drew⟩
 ·obtain⟨S,e,e1,e2,e3⟩:=h1 i o f (by simpa using ho) hf;exact⟨S,e,by simpa using e1,by simpa using e2,e3⟩
 ·simp
 ·exact InvE.zero fun j=>by simp[Array.getD]
 ·intro j hj;simp[Array.getD] at hj
end
end Go.Ep
namespace Go.Ep
open Go.RowKit
section
variable{P:Program}{ctx:Ctx}{ops:Array Oper}{Q:PState->Prop}
def VM(d:Option Nat)(p:PV):List (Nat×PV):=match d with | some d=>[(d,p)] | none=>[]
theorem app_P(s:PState)(d:Option Nat)(p:PV):s.app ⟨VM d p,[]⟩=s.putD d p:=by cases d <;> rfl
theorem app_SD(s:PState)(d:Option Nat)(p:PV)(id:Nat)(ob:Ob):s.app ⟨VM d p,[(id,ob)]⟩=(s.setO id ob).putD d p:=by cases d <;> rfl
theorem xj(js:List Nat):∀ s:PState,(s.junks js).sl=(js.map fun t=>(t,PV.junk)).reverse++s.sl:=by
 induction js with
 | nil=>intro s;rfl
 | cons d r ih=>intro s;rw[PState.junks,ih];simp[PState.put]
theorem xU(js:List Nat):∀ s:PState,(s.junks js).n=s.n:=by
 induction js with
 | nil=>intro s;rfl
 | cons d r ih=>intro s;rw[PState.junks,ih];rfl
theorem app_A(s:PState)(d:Option Nat)(p:PV)(js:List Nat)(id:Nat)(ob:Ob):s.app ⟨VM d p++(js.map fun t=>(t,PV.junk)).reverse,[(id,ob)]⟩=((s.junks js).setO id ob).putD d p:=by
 cases d with
 | none=>simp only[PState.app,VM,PState.putD,PState.setO,xj,xU,yO,List.nil_append,List.foldr_cons,List.foldr_nil]
 | some d=>simp only[PState.app,VM,PState.putD,PState.setO,PState.put,xj,xU,yO,List.cons_append,List.nil_append,List.foldr_cons,List.foldr_nil]
variable{s:PState}{o:Oper}{rest:List Oper}{f:Ft}{fs:List Ft}
theorem PQe.nil(h:Q s):PQe P ctx ops Q [] [] s:=.fin h (Sub.refl _)
theorem PQe.stepP{p:PV}(hl:∀ s':PState,(∀ {x q},xC o x=true->s.ev x=some q->s'.ev x=some q)->(∀ {id ob},inL f.ro id=true->look s.objs id=some ob->look s'.objs id=some ob)->Local P ctx o s' (s'.putD o.dst p))
  (hg:Wd ops o s) (hk:okE f ⟨VM o.dst p,[]⟩=true) (h:PQe P ctx ops Q rest fs (s.putD o.dst p)):PQe P ctx ops Q (o::rest) (f::fs) s:=
 .step (e:=⟨VM o.dst p,[]⟩) (fun s' _ he ho _ _=>by rw[app_P];exact hl s' he fun hi=>ho (zS.1 hi)) hg hk (by rw[app_P];exact h)
theorem PQe.stepN{p:PV}{id:Nat}{ob:Ob}(hl:∀ s':PState,(∀ {x q},xC o x=true->s.ev x=some q->s'.ev x=some q)->(∀ {id ob},inL f.ro id=true->look s.objs id=some ob->look s'.objs id=some ob)->s'.fresh id=true->Local P ctx o s' (s'.newO id ob p))
  (hfr:inL f.fr id=true) (hg:Wd ops o s) (hk:okE f ⟨[(id,p)],[(id,ob)]⟩=true) (h:PQe P ctx ops Q rest fs (s.newO id ob p)):PQe P ctx ops Q (o::rest) (f::fs) s:=
 .step (e:=⟨[(id,p)],[(id,ob)]⟩) (fun s' _ he ho hf _=>hl s' he (fun hi=>ho (zS.1 hi)) (hf id (zS.1 hfr))) hg hk h
theorem PQe.stepS{id:Nat}{ob:Ob}(hl:∀ s':PState,(∀ {x q},xC o x=true->s.ev x=some q->s'.ev x=some q)->(∀ {id ob},inL f.ro id=true->look s.objs id=some ob->look s'.objs id=some ob)->Local P ctx o s' (s'.setO id ob))
  (hg:Wd ops o s) (hk:okE f ⟨[],[(id,ob)]⟩=true) (h:PQe P ctx ops Q rest fs (s.setO id ob)):PQe P ctx ops Q (o::rest) (f::fs) s:=
 .step (e:=⟨[],[(id,ob)]⟩) (fun s' _ he ho _ _=>hl s' he fun hi=>ho (zS.1 hi)) hg hk h
theorem PQe.stepSD{p:PV}{id:Nat}{ob:Ob}(hl:∀ s':PState,(∀ {x q},xC o x=true->s.ev x=some q->s'.ev x=some q)->(∀ {id ob},inL f.ro id=true->look s.objs id=some ob->look s'.objs id=some ob)->Local P ctx o s' ((s'.setO id ob).putD o.dst p))
  (hg:Wd ops o s) (hk:okE f ⟨VM o.dst p,[(id,ob)]⟩=true) (h:PQe P ctx ops Q rest fs ((s.setO id ob).putD o.dst p)):PQe P ctx ops Q (o::rest) (f::fs) s:=
 .step (e:=⟨VM o.dst p,[(id,ob)]⟩) (fun s' _ he ho _ _=>by rw[app_SD];exact hl s' he fun hi=>ho (zS.1 hi)) hg hk (by rw[app_SD];exact h)
def inAl(l:List (Nat×List Nat))(id:Nat)(js:List Nat):Bool:=l.any fun a=>Nat.beq a.1 id&&a.2==js
def inAo(f:Ft)(id:Nat)(js:List Nat):Bool:=f.ao.isEmpty&&inAl f.al id js
theorem PQe.stepA{p:PV}{id:Nat}{ob:Ob}(js:List Nat)(hl:∀ s':PState,(∀ {x q},xC o x=true->s.ev x=some q->s'.ev x=some q)->(∀ {id ob},inL f.ro id=true->look s.objs id=some ob->look s'.objs id=some ob)->(s'.junks js).alone id=true->Local P ctx o s' (((s'.junks js).setO id ob).putD o.dst p))
  (ha:inAo f id js=true) (hg:Wd ops o s) (hk:okE f ⟨VM o.dst p++(js.map fun t=>(t,PV.junk)).reverse,[(id,ob)]⟩=true) (h:PQe P ctx ops Q rest fs (((s.junks js).setO id ob).putD o.dst p)):PQe P ctx ops Q (o::rest) (f::fs) s:=
 .step (e:=⟨VM o.dst p++(js.map fun t=>(t,PV.junk)).reverse,[(id,ob)]⟩) (fun s' _ he ho _ hal=>by
  rw[app_A];refine hl s' he (fun hi=>ho (zS.1 hi)) ?_;unfold inAo at ha;rw[Bool.and_eq_true] at ha;obtain⟨h0,ha⟩:=ha;unfold inAl at ha;obtain⟨a,h1,h2⟩:=List.any_eq_true.1 ha;simp only[Bool.and_eq_true,beq_iff_eq] at h2;have:=hal a h1;rw[Nat.eq_of_beq_eq_true h2.1,h2.2,List.isEmpty_iff.1 h0] at this;exact wHa this) hg hk (by rw[app_A];exact h)
theorem PQe.skipP(hg:Sk ops o s)(hk:okE f (undE o)=true)(h:PQe P ctx ops Q rest fs (s.putD o.dst .und)):PQe P ctx ops Q (o::rest) (f::fs) s:=
 .skip hg hk (by have:s.app (undE o)=s.putD o.dst .und:=app_P s o.dst .und;rw[this];exact h)
theorem Same.app{s t:PState}(h:Same s t)(e:Ef):Same (s.app e) (t.app e):=by
 refine⟨h.1,fun i=>?_,?_⟩
 ·have h2:=h.2.1 i;rw[YQ,YQ] at h2 ⊢;show(if i < s.n then xt (e.U++s.sl) i else none)=if i < t.n then xt (e.U++t.sl) i else none
  rw[VK,VK];rw[h.1] at h2 ⊢
  by_cases hi:i < t.n
  ·simp only[hi,if_true] at h2 ⊢;rw[h2]
  ·simp only[hi,if_false]
 ·show e.V.foldr _ s.objs=e.V.foldr _ t.objs;rw[h.2.2]
theorem PQe.same{l:List Oper}{fs:List Ft}{t:PState}(h:PQe P ctx ops Q l fs t):∀ {s:PState},Same s t->PQe P ctx ops Q l fs s:=by
 induction h with
 | fin h hs=>intro s he;exact .fin h (Sub.trans he.sub hs)
 | step hl hg hk _ ih=>
  intro s he;refine .step (fun s' hn h1 h2 h3 h4=>hl s' (hn.trans he.1) (fun hx hq=>h1 hx (by rw[he.ev];exact hq)) (fun hi ho=>h2 hi (by rw[he.2.2];exact ho)) h3 h4) ?_ hk (ih (he.app _));rcases hg with hg | ⟨j,b,d,h5,h6,h7⟩
  ·exact .inl hg
  ·exact .inr ⟨j,b,d,h5,h6,by rw[he.2.1];exact h7⟩
 | skip hg hk _ ih=>
  intro s he;refine .skip ?_ hk (ih (he.app _));rcases hg with⟨j,b,c,d,h5,h6,h7,h8⟩ | ⟨j,b,d,h5,h6,h7⟩
  ·exact .inl ⟨j,b,c,d,h5,h6,by rw[he.2.1];exact h7,h8⟩
  ·exact .inr ⟨j,b,d,h5,h6,by rw[he.2.1];exact h7⟩
theorem PQe.split{d:Nat}{b:Bool}(hs:s.at d=some (.d (.v (.bool b))))(ht:b=true->PQe P ctx ops Q rest fs (s.put d (.d (.v (.bool true)))))(hf:b=false->PQe P ctx ops Q rest fs (s.put d (.d (.v (.bool false))))):PQe P ctx ops Q rest fs s:=by
 have e:Same s (s.put d (.d (.v (.bool b)))):=by
  refine⟨rfl,fun i=>?_,rfl⟩;rw[VE]
  by_cases hi:i < s.n
  ·rw[if_pos hi]
   by_cases hd:d=i
   ·subst hd;rw[if_pos rfl];exact hs
   ·rw[if_neg hd]
  ·rw[if_neg hi,YQ,if_neg hi]
 cases b with
 | true=>exact(ht rfl).same e
 | false=>exact(hf rfl).same e
end
end Go.Ep
namespace Go.Ep
section
variable{P:Program}{ctx:Ctx}{ops:Array Oper}{Q:PState->Prop}{s:PState}{o:Oper}{rest:List Oper}{f:Ft}{fs:List Ft}
theorem kp{p:PV}(hl:∀ s':PState,(∀ {x:Operand} {q:PV} (_:xC o x=true:=by exact rfl) (_:s.ev x=some q:=by exact rfl),s'.ev x=some q)->(∀ {id ob},inL f.ro id=true->look s.objs id=some ob->look s'.objs id=some ob)->Local P ctx o s' (s'.putD o.dst p))(h:PQe P ctx ops Q rest fs (s.putD o.dst p))(hg:Wd ops o s:=by exact .inl rfl)(hk:okE f ⟨VM o.dst p,[]⟩=true:=by exact rfl):PQe P ctx ops Q (o::rest) (f::fs) s:=PQe.stepP hl hg hk h
theorem km{dst:Option Tmp}{ty:TypeId}{pos:String}{after:Array Edge}{gd:Option (Nat×Bool)}{x:Operand}{p:PV}(h:PQe P ctx ops Q rest fs (s.putD dst p))(hx:s.ev x=some p:=by exact rfl)(hg:Wd ops ⟨dst,.move x,ty,pos,after,gd⟩ s:=by exact .inl rfl)(hk:okE f ⟨VM dst p,[]⟩=true:=by exact rfl):PQe P ctx ops Q (⟨dst,.move x,ty,pos,after,gd⟩::rest) (f::fs) s:=PQe.stepP (fun _ he _=>LR.move (he rdM hx)) hg hk h
theorem ks{id:Nat}{ob:Ob}(hl:∀ s':PState,(∀ {x:Operand} {q:PV} (_:xC o x=true:=by exact rfl) (_:s.ev x=some q:=by exact rfl),s'.ev x=some q)->(∀ {id ob},inL f.ro id=true->look s.objs id=some ob->look s'.objs id=some ob)->Local P ctx o s' (s'.setO id ob))(h:PQe P ctx ops Q rest fs (s.setO id ob))(hg:Wd ops o s:=by exact .inl rfl)(hk:okE f ⟨[],[(id,ob)]⟩=true:=by exact rfl):PQe P ctx ops Q (o::rest) (f::fs) s:=PQe.stepS hl hg hk h
theorem kx(h:PQe P ctx ops Q rest fs (s.putD o.dst .und))(hg:Sk ops o s:=by exact .inl ⟨_,_,_,_,rfl,rfl,rfl,by decide⟩)(hk:okE f (undE o)=true:=by exact rfl):PQe P ctx ops Q (o::rest) (f::fs) s:=PQe.skipP hg hk h
end
end Go.Ep
namespace Go.Ep
open Go.RowKit
def OwnB(g:zb)(os:List (Nat×Ob))(b:Nat):Prop:=∃ id o n,look os id=some o/\g id=some (b,n)
structure ObsRd(w:World)(g:zb)(S:Nat->Prop)(os:List (Nat×Ob)):Prop where
 rd:∀ id o,look os id=some o->ObRd w g S id o
 inj:∀ i j oi oj b n m,look os i=some oi->look os j=some oj->g i=some (b,n)->g j=some (b,m)->i=j
 lt:∀ id o b n,look os id=some o->g id=some (b,n)->b < w.heap.size
def We(w:World)(g:zb)(S:Nat->Prop)(os:List (Nat×Ob))(g':zb)(os':List (Nat×Ob))(b:Nat):Prop:=(S b\/OwnB g os b\/w.heap.size<=b)/\¬ OwnB g' os' b
structure xRa(w:World)(g:zb)(S:Nat->Prop)(os:List (Nat×Ob))(pins:List Nat)(r:PV)(os':List (Nat×Ob))(w':World)(g':zb)(u:Value):Prop where
 eos:w'.os=w.os
 tape:w'.tape=w.tape
 output:w'.output=w.output
 grows:w.heap.size<=w'.heap.size
 keep:∀ k,k < w.heap.size->¬ OwnB g os k->w'.heap[k]?=w.heap[k]?
 own:∀ b,OwnB g' os' b->OwnB g os b\/w.heap.size<=b
 pin:∀ id∈pins,g' id=g id
 res:Rd w' g' (We w g S os g' os') r u
 obs:ObsRd w' g' (We w g S os g' os') os'
def PObj{G:Type}(P:Program)(f:FuncId)(ps:List PV)(os:List (Nat×Ob))(pins:List Nat)(r:PV)(os':G->List (Nat×Ob)):Prop:=
 ∀ (w:World) (g:zb) (S:Nat->Prop) (vs:List Value),ps.length=vs.length->(∀ (i:Nat) (p:PV) (v:Value),ps[i]?=some p->vs[i]?=some v->Rd w g S p v)->ObsRd w g S os->(∀ b,S b->¬ OwnB g os b) ->
  Calls P f vs.toArray w (fun e w'=>∃ u g' gh,e=.returned u/\xRa w g S os pins r (os' gh) w' g' u)
def ObjAt{G:Type}(P:Program)(f:FuncId)(ps:List PV)(os:List (Nat×Ob))(pins:List Nat)(r:PV)(os':G->List (Nat×Ob))(w:World)(S:Nat->Prop):Prop:=
 ∀ (g:zb) (vs:List Value),ps.length=vs.length->(∀ (i:Nat) (p:PV) (v:Value),ps[i]?=some p->vs[i]?=some v->Rd w g S p v)->ObsRd w g S os->(∀ b,S b->¬ OwnB g os b) ->
  Calls P f vs.toArray w (fun e w'=>∃ u g' gh,e=.returned u/\xRa w g S os pins r (os' gh) w' g' u)
theorem PObj.at{G:Type}{P:Program}{f:FuncId}{ps:List PV}{os:List (Nat×Ob)}{pins:List Nat}{r:PV}{os':G->List (Nat×Ob)}(h:PObj P f ps os pins r os')(w:World)(S:Nat->Prop):ObjAt P f ps os pins r os' w S:=fun g vs=>h w g S vs
def zT(ctx:Ctx):Nat->Prop:=fun b=>ctx.w0.heap.size<=b
def PObjN{G:Type}(P:Program)(f:FuncId)(N:Nat->Prop)(ps:List PV)(os:List (Nat×Ob))(pins:List Nat)(r:PV)(os':G->List (Nat×Ob)):Prop:=
 ∀ w:World,(∀ b,w.heap.size<=b->N b)->∀ S,ObjAt P f ps os pins r os' w S
theorem PObj.toN{G:Type}{P:Program}{f:FuncId}{ps:List PV}{os:List (Nat×Ob)}{pins:List Nat}{r:PV}{os':G->List (Nat×Ob)}(h:PObj P f ps os pins r os')(N:Nat->Prop):PObjN P f N ps os pins r os':=fun w _ S g vs=>h w g S vs
theorem PObjN.all{G:Type}{P:Program}{f:FuncId}{ps:List PV}{os:List (Nat×Ob)}{pins:List Nat}{r:PV}{os':G->List (Nat×Ob)}(h:PObjN P f (fun _=>True) ps os pins r os'):PObj P f ps os pins r os':=fun w g S vs=>h w (fun _ _=>trivial) S g vs
section
variable{ctx:Ctx}
inductive ResO (P:Program) (s:PState):ResultVar->PV->Prop
 | tmp {t:Nat} {p:PV} (h:s.at t=some p):ResO P s (.tmp t) p
 | agg {t T k id:Nat} {T0:TypeId} {cs:List PV} (ha:∀ w,(isAgg T).run P w=.ok true w) (hs:∀ w,(sizeOf T).run P w=.ok k w) (h:s.at t=some (.ref id 0)) (hl:look s.objs id=some (.cells T0 cs)) (hk:cs.length=k):ResO P s (.cell t T) (.agg cs)
 | cell {t T id:Nat} {T0:TypeId} {p:PV} (ha:∀ w,(isAgg T).run P w=.ok false w) (h:s.at t=some (.ref id 0)) (hl:look s.objs id=some (.cells T0 [p])):ResO P s (.cell t T) p
inductive zSa (P:Program) (s:PState):List ResultVar->List PV->Prop
 | nil:zSa P s [] []
 | cons {r:ResultVar} {p:PV} {rs:List ResultVar} {ps:List PV} (h:ResO P s r p) (t:zSa P s rs ps):zSa P s (r::rs) (p::ps)
def EndsO{G:Type}(P:Program)(ctx:Ctx)(fn:Func)(pl:List (Nat×Ob))(r:PV)(os':G->List (Nat×Ob)):PQ:=fun e s=>(e=.normal\/e=.ret)/\∃ gh ps t,Sub ctx s t/\zSa P t fn.results.toList ps/\yPa ps=r /\
 (∀ id o,look (os' gh) id=some o->look t.objs id=some o)/\∀ id o,look pl id=some o->look t.objs id=some o
variable{P:Program}{s:PState}
theorem vKa{g:zb}{a:Act}{w:World}(hg:RelG ctx g s a w){rv:ResultVar}{p:PV}(h:ResO P s rv p) :
  ∃ v,(zJa a.tmps rv).run P w=.ok v w/\Rd w g (zk ctx g s.objs) p v:=by
 cases h with
 | @tmp t _ h=>exact⟨_,rfl,hg.slots t _ h⟩
 | @agg t T k id T0 cs ha hs h hl hk=>
  have hr:=hg.slots t _ h
  generalize hv:a.tmps.getD t undef=v at hr
  cases hr with
  | ref _ _ blk n hgi=>
   cases hg.objs id _ hl with
   | cells _ _ blk' n' us h' hh hlen hr' h1=>
    rw[hgi] at h'
    cases h'
    refine⟨.agg us.toArray,?_,.agg cs us hlen hr' h1⟩;have:=uv (P:=P) (us:=us) ha (by rw[<- hlen,hk];exact hs) (w:=w) (b:=blk) (o:=0) (fun j u hu=>by rw[Nat.zero_add,zU hh];exact hu);show(do loadVar T (<- asAddr (a.tmps.getD t undef)):Sem Value).run P w=_;rw[hv];simp only[asAddr,Sem.run_bind,Sem.run_pure,Result.andThen_ok];exact this
 | @cell t T id T0 p ha h hl=>
  have hr:=hg.slots t _ h
  generalize hv:a.tmps.getD t undef=v at hr
  cases hr with
  | ref _ _ blk n hgi=>
   cases hg.objs id _ hl with
   | cells _ _ blk' n' us h' hh hlen hr' h1=>
    rw[hgi] at h'
    cases h'
    have hlt:0 < us.length:=by rw[<- hlen];simp
    have hu:us[0]?=some us[0]:=List.getElem?_eq_getElem hlt;refine⟨us[0],?_,hr' 0 p _ rfl hu⟩;have:=vr (P:=P) ha (w:=w) (ad:=⟨blk,0,none⟩) (u:=us[0]) (by rw[zU hh];exact hu);show(do loadVar T (<- asAddr (a.tmps.getD t undef)):Sem Value).run P w=_;rw[hv];simp only[asAddr,Sem.run_bind,Sem.run_pure,Result.andThen_ok];exact this
theorem wKa{g:zb}{a:Act}{w:World}(hg:RelG ctx g s a w){rs:List ResultVar}{ps:List PV}(h:zSa P s rs ps) :
  ∃ vs:List Value,(rs.mapM (zJa a.tmps)).run P w=.ok vs w/\ps.length=vs.length /\
   ∀ (i:Nat) (p:PV) (v:Value),ps[i]?=some p->vs[i]?=some v->Rd w g (zk ctx g s.objs) p v:=by
 induction h with
 | nil=>exact⟨[],by simp,rfl,by simp⟩
 | cons h _ ih=>
  obtain⟨vs,h1,h2,h3⟩:=ih;obtain⟨v,hv1,hv2⟩:=vKa hg h;refine⟨v::vs,?_,by simp[h2],?_⟩
  ·simp only[List.mapM_cons,Sem.run_bind,hv1,h1,Result.andThen_ok,Sem.run_pure]
  ·intro i p u hp hu
   cases i with
   | zero=>simp at hp hu;subst hp;subst hu;exact hv2
   | succ i=>simp at hp hu;exact h3 i p u hp hu
def qn(pv:Nat->Option (Nat×Nat)):List Nat->List (Nat×Ob)
 | []=>[]
 | id::r=>(id+1000,.pin id (pv id))::qn pv r
theorem pinL_mem{pv:Nat->Option (Nat×Nat)}{pins:List Nat}{id:Nat}{o:Ob}(h:look (qn pv pins) id=some o):∃ t∈pins,id=t+1000/\o=.pin t (pv t):=by
 induction pins with
 | nil=>simp[qn,look] at h
 | cons t r ih=>
  simp only[qn,look] at h
  split at h
  ·rename_i e;exact⟨t,by simp,e,by simpa using h.symm⟩
  ·obtain⟨t',h1,h2,h3⟩:=ih h;exact⟨t',by simp[h1],h2,h3⟩
theorem vLa{pv:Nat->Option (Nat×Nat)}{pins:List Nat}{t:Nat}(h:t∈pins):look (qn pv pins) (t+1000)=some (.pin t (pv t)):=by
 induction pins with
 | nil=>cases h
 | cons q r ih=>
  simp only[qn,look]
  by_cases e:t=q
  ·subst e;simp
  ·rw[if_neg (by omega)];exact ih ((List.mem_cons.1 h).resolve_left e)
theorem xv(l l':List (Nat×Ob))(id:Nat):look (l++l') id=(look l id).or (look l' id):=by
 induction l with
 | nil=>simp[look]
 | cons x r ih=>
  obtain⟨k,o⟩:=x;simp only[List.cons_append,look]
  split
  ·rfl
  ·exact ih
def wLa(ps:List PV)(os:List (Nat×Ob))(pins:List Nat):Bool:=
 pins.all fun t=>ps.all (fun p=>!p.has (t+1000))&&os.all (fun x=>x.1 != t+1000&&!x.2.has (t+1000))&&pins.all (fun t'=>t'+1000 != t)
theorem ObjAt.intro{G:Type}{w:World}{S:Nat->Prop}{f:FuncId}{fn:Func}{c:Code}{ps:List PV}{os:List (Nat×Ob)}{pins:List Nat}{r:PV}{os':G->List (Nat×Ob)}{n:Nat}{sl:List (Nat×PV)}(hf:P.funcs[f]?=some fn)(hb:fn.body=some c)(hn:fn.ntmps=n)(hsl:args 0 ps=sl)(hpn:Nat.ble ps.length n=true)(hpin:wLa ps os pins=true)
  (body:∀ g:zb,(∀ b,S b->¬ OwnB g os b)->PWc P ⟨w,fun b=>S b\/OwnB g os b,OwnB g os⟩ c (EndsO P ⟨w,fun b=>S b\/OwnB g os b,OwnB g os⟩ fn (qn g pins) r os') ⟨n,sl,os++qn g pins⟩):ObjAt P f ps os pins r os' w S:=by
 intro g vs hlen hreal hobs hdis
 let ctx:Ctx:=⟨w,fun b=>S b\/OwnB g os b,OwnB g os⟩
 let pv:Nat->Option (Nat×Nat):=g
 let g1:zb:=fun j=>if pins.any (fun t=>j==t+1000) then none else g j
 simp only[wLa,List.all_eq_true,Bool.and_eq_true,Bool.not_eq_true',bne_iff_ne,ne_eq] at hpin;have g1pin:∀ t∈pins,g1 (t+1000)=none:=fun t ht=>by
  have:(pins.any fun t'=>t+1000==t'+1000)=true:=List.any_eq_true.2 ⟨t,ht,by simp⟩;simp only[g1,this,if_true]
 have g1ne:∀ j,(∀ t∈pins,j≠t+1000)->g1 j=g j:=fun j hj=>by
  have:(pins.any fun t'=>j==t'+1000)=false:=by
   rw[List.any_eq_false];intro t ht;simpa using hj t ht
  simp only[g1,this,Bool.false_eq_true,if_false]
 have g1p:∀ p∈ps,∀ j,p.has j=true->g1 j=g j:=fun p hp j hj=>g1ne j fun t ht e=>by
  have:=(hpin t ht).1.1 p hp;rw[<- e,hj] at this
  cases this
 have hosk:∀ id o,look os id=some o->∀ t∈pins,id≠t+1000:=fun id o ho t ht=>((hpin t ht).1.2 _ (xi ho)).1
 have g1k:∀ id o,look os id=some o->g1 id=g id:=fun id o ho=>g1ne id (hosk id o ho)
 have g1o:∀ id o,look os id=some o->∀ j,o.has j=true->g1 j=g j:=fun id o ho j hj=>g1ne j fun t ht e=>by
  have:=((hpin t ht).1.2 _ (xi ho)).2;simp only at this;rw[<- e,hj] at this
  cases this
 have hgp:∀ t∈pins,g t=pv t:=fun t _=>rfl
 have hlook:∀ id o,look (os++qn pv pins) id=some o->look os id=some o\/∃ t∈pins,id=t+1000/\o=.pin t (pv t):=fun id o h=>by
  rw[xv] at h
  cases hl:look os id with
  | none=>rw[hl,Option.none_or] at h;exact .inr (pinL_mem h)
  | some q=>rw[hl,Option.some_or] at h;exact .inl h
 have hfree:∀ b,S b->zk ctx g1 (os++qn pv pins) b:=fun b hb=>⟨.inl (.inl hb),fun id o n ho hg=>by
  rcases hlook id o ho with h | ⟨t,ht,h,_⟩
  ·rw[g1k id o h] at hg;exact hdis b hb ⟨id,o,n,h,hg⟩
  ·rw[h,g1pin t ht] at hg;cases hg⟩
 have hst:yV w w S:=⟨Nat.le_refl _,fun _ _ _=>rfl⟩
 have hpl:vs.length<=n:=by rw[<- hlen];exact Nat.le_of_ble_eq_true hpn
 refine calls_of_wp hf hb ?_;subst hsl;have hrel:RelG ctx g1 ⟨n,args 0 ps,os++qn pv pins⟩ { tmps:=vs.toArray++Array.replicate (fn.ntmps - vs.toArray.size) undef,defers:=[] } w:=by
  rw[hn];refine⟨rfl,by simp;omega,?_,?_,?_,?_,rfl,rfl,rfl,Nat.le_refl _,fun _ _ _=>rfl⟩
  ·intro i p hp;obtain⟨j,h1,h2⟩:=qg (xL hp);have e:i=j:=by omega
   subst e;have hi':i < vs.length:=by rw[<- hlen];exact(List.getElem?_eq_some_iff.1 h2).1
   have hv:vs[i]?=some vs[i]:=List.getElem?_eq_getElem hi';have e:(vs.toArray++Array.replicate (n - vs.toArray.size) undef).getD i undef=vs[i]:=by
    simp[Array.getD_eq_getD_getElem?,Array.getElem?_append,hi']
   rw[e];exact(hreal i p _ h2 hv).keep (w':=w) (g':=g1) hst (fun b hb _=>hfree b hb) (fun j hj=>g1p p (List.mem_of_getElem? h2) j hj)
  ·intro id o ho;rcases hlook id o ho with h | ⟨t,ht,rfl,rfl⟩
   ·exact(hobs.rd id o h).keep hst (fun b hb _=>hfree b hb) (fun _ _ _=>rfl) (g1k id o h) (g1o id o h)
   ·refine .pin t _ (g1pin t ht) ?_;rw[g1ne t fun t' ht' e=>(hpin t ht).2 t' ht' e.symm]
  ·intro i j oi oj b n m hi hj hgi hgj;rcases hlook i oi hi with h | ⟨t,ht,rfl,_⟩
   ·rcases hlook j oj hj with h2 | ⟨t,ht,rfl,_⟩
    ·rw[g1k i oi h] at hgi;rw[g1k j oj h2] at hgj;exact hobs.inj i j oi oj b n m h h2 hgi hgj
    ·rw[g1pin t ht] at hgj;cases hgj
   ·rw[g1pin t ht] at hgi;cases hgi
  ·intro id o b n ho hg;rcases hlook id o ho with h | ⟨t,ht,rfl,_⟩
   ·rw[g1k id o h] at hg;exact⟨hobs.lt id o b n h hg,.inr ⟨id,o,n,h,hg⟩⟩
   ·rw[g1pin t ht] at hg;cases hg
 refine wp_mono (body g hdis _ w ⟨g1,hrel⟩) fun e a' w' ⟨s1,⟨he,gh,qs,t,hsub,hres,hq,hos,hpl'⟩,hr1⟩=>?_
 have main:a'.defers=[]/\∃ v,(results fn a'.tmps).run P w'=.ok v w'/\(∃ u g' gh,Ending.returned v=.returned u/\xRa w g S os pins r (os' gh) w' g' u):=by
  obtain⟨g2,hg⟩:=hsub a' w' hr1;obtain⟨us,h1,h2,h3⟩:=wKa hg hres;have hrun:(results fn a'.tmps).run P w'=.ok (if h:us.toArray.size=1 then us.toArray[0] else .tuple us.toArray) w':=by
   rw[UB,Array.mapM_eq_mapM_toList];simp only[Sem.run_bind,Sem.run_map,h1,Result.andThen_ok,Sem.run_pure]
  have hFA:∀ b,zk ctx g2 t.objs b->We w g S os g2 (os' gh) b:=fun b ⟨f1,f2⟩=>⟨by
   rcases f1 with(f1 | f1) | f1
   ·exact .inl f1
   ·exact .inr (.inl f1)
   ·exact .inr (.inr f1),fun⟨id,o,n,h4,h5⟩=>f2 id o n (hos id o h4) h5⟩
  have hst':yV w' w' (zk ctx g2 t.objs):=⟨Nat.le_refl _,fun _ _ _=>rfl⟩
  refine⟨hg.defers,_,hrun,_,g2,gh,rfl,hg.os,hg.tape,hg.output,hg.grows,hg.keep,fun b ⟨id,o,n,h4,h5⟩=>?_,fun id hid=>?_,?_,⟨fun id o h4=>(hg.objs id o (hos id o h4)).keep hst' (fun b hb _=>hFA b hb) (fun _ _ _=>rfl) rfl (fun _ _=>rfl),fun i j oi oj b n m hi hj=>hg.inj i j oi oj b n m (hos i oi hi) (hos j oj hj),fun id o b n h4 h5=>(hg.own id o b n (hos id o h4) h5).1⟩⟩
  ·rcases(hg.own id o b n (hos id o h4) h5).2 with h6 | h6
   ·exact .inr h6
   ·exact .inl h6
  ·have h6:=hg.objs _ _ (hpl' _ _ (vLa (pv:=pv) hid))
   cases h6 with
   | pin _ _ _ ht=>rw[ht,hgp id hid]
  ·have hk:∀ {p:PV} {v:Value},Rd w' g2 (zk ctx g2 t.objs) p v->Rd w' g2 (We w g S os g2 (os' gh)) p v:=fun h=>h.keep hst' (fun b hb _=>hFA b hb) (fun _ _=>rfl)
   subst hq
   match qs,us,h2,h3 with
   | [p],[u],_,h3=>exact hk (h3 0 p u rfl rfl)
   | [],[],_,h3=>exact .tup [] [] rfl (by simp)
   | p::q::ps,u::v::us,h2,h3=>
    have hne:¬ (u::v::us).toArray.size=1:=by simp
    rw[dif_neg hne];exact .tup _ _ h2 fun i p u hp hu=>hk (h3 i p u hp hu)
 rcases he with rfl | rfl
 ·exact main
 ·exact main
theorem PObj.intro{G:Type}{f:FuncId}{fn:Func}{c:Code}{ps:List PV}{os:List (Nat×Ob)}{pins:List Nat}{r:PV}{os':G->List (Nat×Ob)}{n:Nat}{sl:List (Nat×PV)}(hf:P.funcs[f]?=some fn)(hb:fn.body=some c)(hn:fn.ntmps=n)(hsl:args 0 ps=sl)(hpn:Nat.ble ps.length n=true)(hpin:wLa ps os pins=true)
  (body:∀ ctx:Ctx,(∀ b,ctx.K b->ctx.S b)->∀ pv:Nat->Option (Nat×Nat),PWc P ctx c (EndsO P ctx fn (qn pv pins) r os') ⟨n,sl,os++qn pv pins⟩):PObj P f ps os pins r os':=
 fun w g S vs h1 h2 h3 h4=>ObjAt.intro hf hb hn hsl hpn hpin (fun g _=>body ⟨w,fun b=>S b\/OwnB g os b,OwnB g os⟩ (fun b h=>Or.inr h) g) g vs h1 h2 h3 h4
end
end Go.Ep
namespace Go.Ep
open Go.RowKit
def rn(ρ:List (Nat×Nat))(i:Nat):Nat:=match ρ with
 | []=>i
 | (a,b)::r=>bif Nat.beq a i then b else rn r i
mutual
def PV.ren(ρ:List (Nat×Nat)):PV->PV
 | .ref i o=>.ref (rn ρ i) o
 | .row i n=>.row (rn ρ i) n
 | .rp i a b c=>.rp (rn ρ i) a b c
 | .pc i a b c=>.pc (rn ρ i) a b c
 | .mp i=>.mp (rn ρ i)
 | .pa i o n=>.pa (rn ρ i) o n
 | .agg cs=>.agg (PV.renL ρ cs)
 | .tup cs=>.tup (PV.renL ρ cs)
 | p=>p
def PV.renL(ρ:List (Nat×Nat)):List PV->List PV
 | []=>[]
 | c::r=>c.ren ρ::PV.renL ρ r
end
def Ob.ren(ρ:List (Nat×Nat)):Ob->Ob
 | .cells T cs=>.cells T (PV.renL ρ cs)
 | .iterO mid bs ck L=>.iterO (rn ρ mid) bs ck L
 | .pin t x=>.pin (rn ρ t) x
 | .mapP ks m ov bs ck=>.mapP ks m (ov.map fun x=>(x.1,x.2.ren ρ)) bs ck
 | o=>o
theorem YU(ρ:List (Nat×Nat)):∀ cs:List PV,PV.renL ρ cs=cs.map (PV.ren ρ)
 | []=>by simp[PV.renL]
 | c::r=>by simp[PV.renL,YU ρ r]
section
variable{w:World}{g:zb}{S:Nat->Prop}{ρ:List (Nat×Nat)}
theorem Rd.ren{p:PV}{v:Value}(h:Rd w (fun i=>g (rn ρ i)) S p v):Rd w g S (p.ren ρ) v:=by
 induction h with
 | junk u=>exact .junk u
 | und=>exact .und
 | d h=>exact .d h
 | agg cs us hl h h1 ih=>
  rw[PV.ren,YU];refine .agg _ us (by simpa using hl) (fun i p u hp hu=>?_) h1;rw[List.getElem?_map] at hp
  cases hc:cs[i]? with
  | none=>rw[hc] at hp;cases hp
  | some q=>rw[hc] at hp;simp only[Option.map_some,Option.some.injEq] at hp;subst hp;exact ih i q u hc hu
 | tup cs us hl h ih=>
  rw[PV.ren,YU];refine .tup _ us (by simpa using hl) (fun i p u hp hu=>?_);rw[List.getElem?_map] at hp
  cases hc:cs[i]? with
  | none=>rw[hc] at hp;cases hp
  | some q=>rw[hc] at hp;simp only[Option.map_some,Option.some.injEq] at hp;subst hp;exact ih i q u hc hu
 | ref id off blk n h=>exact .ref _ off blk n h
 | row id n blk cap h=>exact .row _ n blk cap h
 | rowNil id h=>exact .rowNil _ h
 | rp id i off k blk cap h=>exact .rp _ i off k blk cap h
 | pc id i n k blk cap h hi=>exact .pc _ i n k blk cap h hi
 | pc0 id i k a c=>exact .pc0 _ i k a c
 | ep cs b off o c hS hb hc hr=>exact .ep cs b off o c hS hb hc hr
 | sq cs b off o c hS hb hz hc hr=>exact .sq cs b off o c hS hb hz hc hr
 | mp id blk n h=>exact .mp _ blk n h
 | pa id off n blk c h=>exact .pa _ off n blk c h
 | mpNil id h=>exact .mpNil _ h
 | md ks ag m bs ck b es hS hb hh hm=>exact .md ks ag m bs ck b es hS hb hh hm
 | mdNil ks ag=>exact .mdNil ks ag
 | clo f cs us hl h=>exact .clo f cs us hl h
theorem Rd.unren{q:PV}{v:Value}(h:Rd w g S q v):∀ {p:PV},q=p.ren ρ->Rd w (fun i=>g (rn ρ i)) S p v:=by
 induction h with
 | junk u=>intro p hp;cases p <;> simp only[PV.ren,reduceCtorEq] at hp;exact .junk u
 | und=>intro p hp;cases p <;> simp only[PV.ren,reduceCtorEq] at hp;exact .und
 | d h=>intro p hp;cases p <;> simp only[PV.ren,reduceCtorEq,PV.d.injEq] at hp;subst hp;exact .d h
 | agg cs us hl h h1 ih=>
  intro p hp
  cases p <;> simp only[PV.ren,reduceCtorEq,PV.agg.injEq] at hp
  rename_i cs'
  rw[YU] at hp;subst hp;exact .agg cs' us (by simpa using hl) (fun i p u hp hu=>ih i (p.ren ρ) u (by simp[hp]) hu rfl) h1
 | tup cs us hl h ih=>
  intro p hp
  cases p <;> simp only[PV.ren,reduceCtorEq,PV.tup.injEq] at hp
  rename_i cs'
  rw[YU] at hp;subst hp;exact .tup cs' us (by simpa using hl) (fun i p u hp hu=>ih i (p.ren ρ) u (by simp[hp]) hu rfl)
 | ref id off blk n h=>
  intro p hp
  cases p <;> simp only[PV.ren,reduceCtorEq,PV.ref.injEq] at hp
  obtain⟨rfl,rfl⟩:=hp;exact .ref _ _ blk n h
 | row id n blk cap h=>
  intro p hp
  cases p <;> simp only[PV.ren,reduceCtorEq,PV.row.injEq] at hp
  obtain⟨rfl,rfl⟩:=hp;exact .row _ _ blk cap h
 | rowNil id h=>
  intro p hp
  cases p <;> simp only[PV.ren,reduceCtorEq,PV.row.injEq] at hp
  obtain⟨rfl,rfl⟩:=hp;exact .rowNil _ h
 | rp id i off k blk cap h=>
  intro p hp
  cases p <;> simp only[PV.ren,reduceCtorEq,PV.rp.injEq] at hp
  obtain⟨rfl,rfl,rfl,rfl⟩:=hp;exact .rp _ _ _ _ blk cap h
 | pc id i n k blk cap h hi=>
  intro p hp
  cases p <;> simp only[PV.ren,reduceCtorEq,PV.pc.injEq] at hp
  obtain⟨rfl,rfl,rfl,rfl⟩:=hp;exact .pc _ _ _ _ blk cap h hi
 | pc0 id i k a c=>
  intro p hp
  cases p <;> simp only[PV.ren,reduceCtorEq,PV.pc.injEq] at hp
  obtain⟨rfl,rfl,rfl,rfl⟩:=hp;exact .pc0 _ _ _ a c
 | ep cs b off o c hS hb hc hr=>
  intro p hp
  cases p <;> simp only[PV.ren,reduceCtorEq,PV.ep.injEq] at hp
  obtain⟨rfl,rfl⟩:=hp;exact .ep _ b off _ c hS hb hc hr
 | sq cs b off o c hS hb hz hc hr=>
  intro p hp
  cases p <;> simp only[PV.ren,reduceCtorEq,PV.sq.injEq] at hp
  obtain⟨rfl,rfl⟩:=hp;exact .sq _ b off _ c hS hb hz hc hr
 | mp id blk n h=>
  intro p hp
  cases p <;> simp only[PV.ren,reduceCtorEq,PV.mp.injEq] at hp
  subst hp;exact .mp _ blk n h
 | pa id off n blk c h=>
  intro p hp
  cases p <;> simp only[PV.ren,reduceCtorEq,PV.pa.injEq] at hp
  obtain⟨rfl,rfl,rfl⟩:=hp;exact .pa _ _ _ blk c h
 | mpNil id h=>
  intro p hp
  cases p <;> simp only[PV.ren,reduceCtorEq,PV.mp.injEq] at hp
  subst hp;exact .mpNil _ h
 | md ks ag m bs ck b es hS hb hh hm=>
  intro p hp
  cases p <;> simp only[PV.ren,reduceCtorEq,PV.md.injEq] at hp
  obtain⟨rfl,rfl,rfl⟩:=hp;exact .md _ _ _ bs ck b es hS hb hh hm
 | mdNil ks ag=>
  intro p hp
  cases p <;> simp only[PV.ren,reduceCtorEq,PV.md.injEq] at hp
  obtain⟨rfl,rfl,rfl⟩:=hp;exact .mdNil _ _
 | clo f cs us hl h=>
  intro p hp
  cases p <;> simp only[PV.ren,reduceCtorEq,PV.clo.injEq] at hp
  obtain⟨rfl,rfl⟩:=hp;exact .clo _ _ us hl h
theorem ObRd.ren{id:Nat}{o:Ob}(h:ObRd w (fun i=>g (rn ρ i)) S id o):ObRd w g S (rn ρ id) (o.ren ρ):=by
 cases h with
 | cells T cs blk n us h hh hl hr h1=>
  rw[Ob.ren,YU];refine .cells T _ blk n us h hh (by simpa using hl) (fun i p u hp hu=>?_) h1;rw[List.getElem?_map] at hp
  cases hc:cs[i]? with
  | none=>rw[hc] at hp;cases hp
  | some q=>rw[hc] at hp;simp only[Option.map_some,Option.some.injEq] at hp;subst hp;exact(hr i q u hc hu).ren
 | rowNil T k h=>exact .rowNil T k h
 | row T k l blk cap cur h hh hlc hcap hcs hkk hr=>exact .row T k l blk cap cur h hh hlc hcap hcs hkk hr
 | map ks ag m bs ck blk n es h hh hm=>exact .map ks ag m bs ck blk n es h hh hm
 | mapNil ks ag ck h=>exact .mapNil ks ag ck h
 | mapN ks ag m bs ck blk n es h hh hm=>exact .mapN ks ag m bs ck blk n es h hh hm
 | mapHNil ks ag h=>exact .mapHNil ks ag h
 | mapH ks ag m bs ck blk n es h hh hm=>exact .mapH ks ag m bs ck blk n es h hh hm
 | iterO mid bs ck L blk n b n' h hh hm=>exact .iterO _ bs ck L blk n b n' h hh hm
 | iterON mid ck blk n h hh hm=>exact .iterON _ ck blk n h hh hm
 | iterD ks ag m bs ck L blk n b es h hh hs hb hb2 hm=>exact .iterD ks ag m bs ck L blk n b es h hh hs hb hb2 hm
 | iterN ks ag blk n h hh=>exact .iterN ks ag blk n h hh
 | pin tgt x h ht=>exact .pin _ x h ht
 | mapP ks m ov bs ck blk n es h hh hsz hst hbl hnd hent hov=>
  rw[Ob.ren];refine .mapP ks m _ bs ck blk n es h hh hsz hst hbl hnd (fun i ns u hi=>?_) fun j p hj=>?_
  ·obtain⟨e,h1,h2,h3,h4,h5⟩:=hent i ns u hi;refine⟨e,h1,h2,h3,h4,fun hne=>h5 fun p hp=>?_⟩;exact hne (p.ren ρ) (by rw[hp];rfl)
  ·cases ov with
   | none=>cases hj
   | some x=>
    obtain⟨j',p'⟩:=x;simp only[Option.map_some,Option.some.injEq,Prod.mk.injEq] at hj;obtain⟨rfl,rfl⟩:=hj;obtain⟨e,h1,h2⟩:=hov _ _ rfl;exact⟨e,h1,h2.ren⟩
theorem ObRd.unren{j:Nat}{q:Ob}(h:ObRd w g S j q):∀ {id:Nat} {o:Ob},j=rn ρ id->q=o.ren ρ->ObRd w (fun i=>g (rn ρ i)) S id o:=by
 intro id o hj hq;subst hj
 cases h with
 | cells T cs blk n us h hh hl hr h1=>
  cases o <;> simp only[Ob.ren,reduceCtorEq,Ob.cells.injEq] at hq
  obtain⟨rfl,rfl⟩:=hq;rw[YU] at hl hr;exact .cells _ _ blk n us h hh (by simpa using hl) (fun i p u hp hu=>(hr i (p.ren ρ) u (by simp[hp]) hu).unren rfl) h1
 | rowNil T k h=>
  cases o <;> simp only[Ob.ren,reduceCtorEq,Ob.row.injEq] at hq
  obtain⟨rfl,rfl,rfl⟩:=hq;exact .rowNil _ _ h
 | row T k l blk cap cur h hh hlc hcap hcs hkk hr=>
  cases o <;> simp only[Ob.ren,reduceCtorEq,Ob.row.injEq] at hq
  obtain⟨rfl,rfl,rfl⟩:=hq;exact .row _ _ _ blk cap cur h hh hlc hcap hcs hkk hr
 | map ks ag m bs ck blk n es h hh hm=>
  cases o <;> simp only[Ob.ren,reduceCtorEq,Ob.map.injEq] at hq
  obtain⟨rfl,rfl,rfl,rfl,rfl⟩:=hq;exact .map _ _ _ _ _ blk n es h hh hm
 | mapNil ks ag ck h=>
  cases o <;> simp only[Ob.ren,reduceCtorEq,Ob.mapN.injEq] at hq
  obtain⟨rfl,rfl,rfl,rfl,rfl,rfl⟩:=hq;exact .mapNil _ _ _ h
 | mapN ks ag m bs ck blk n es h hh hm=>
  cases o <;> simp only[Ob.ren,reduceCtorEq,Ob.mapN.injEq] at hq
  obtain⟨rfl,rfl,rfl,rfl,rfl,rfl⟩:=hq;exact .mapN _ _ _ _ _ blk n es h hh hm
 | mapHNil ks ag h=>
  cases o <;> simp only[Ob.ren,reduceCtorEq,Ob.mapH.injEq] at hq
  obtain⟨rfl,rfl,rfl,rfl⟩:=hq;exact .mapHNil _ _ h
 | mapH ks ag m bs ck blk n es h hh hm=>
  cases o <;> simp only[Ob.ren,reduceCtorEq,Ob.mapH.injEq] at hq
  obtain⟨rfl,rfl,rfl,rfl⟩:=hq;exact .mapH _ _ _ _ _ blk n es h hh hm
 | iterO mid bs ck L blk n b n' h hh hm=>
  cases o <;> simp only[Ob.ren,reduceCtorEq,Ob.iterO.injEq] at hq
  obtain⟨rfl,rfl,rfl,rfl⟩:=hq;exact .iterO _ _ _ _ blk n b n' h hh hm
 | iterON mid ck blk n h hh hm=>
  cases o <;> simp only[Ob.ren,reduceCtorEq,Ob.iterO.injEq] at hq
  obtain⟨rfl,rfl,rfl,rfl⟩:=hq;exact .iterON _ _ blk n h hh hm
 | iterD ks ag m bs ck L blk n b es h hh hs hb hb2 hm=>
  cases o <;> simp only[Ob.ren,reduceCtorEq,Ob.iterD.injEq] at hq
  obtain⟨rfl,rfl,rfl,rfl,rfl,rfl⟩:=hq;exact .iterD _ _ _ _ _ _ blk n b es h hh hs hb hb2 hm
 | iterN ks ag blk n h hh=>
  cases o <;> simp only[Ob.ren,reduceCtorEq,Ob.iterD.injEq] at hq
  obtain⟨rfl,rfl,rfl,rfl,rfl,rfl⟩:=hq;exact .iterN _ _ blk n h hh
 | pin tgt x h ht=>
  cases o <;> simp only[Ob.ren,reduceCtorEq,Ob.pin.injEq] at hq
  obtain⟨rfl,rfl⟩:=hq;exact .pin _ _ h ht
 | mapP ks m ov bs ck blk n es h hh hsz hst hbl hnd hent hov=>
  cases o <;> simp only[Ob.ren,reduceCtorEq,Ob.mapP.injEq] at hq
  rename_i ov' _ _
  obtain⟨rfl,rfl,rfl,rfl,rfl⟩:=hq;refine .mapP _ _ _ _ _ blk n es h hh hsz hst hbl hnd (fun i ns u hi=>?_) fun j p hj=>?_
  ·obtain⟨e,h1,h2,h3,h4,h5⟩:=hent i ns u hi;refine⟨e,h1,h2,h3,h4,fun hne=>h5 fun p hp=>?_⟩
   cases ov' with
   | none=>cases hp
   | some x=>
    simp only[Option.map_some,Option.some.injEq,Prod.mk.injEq] at hp;exact hne x.2 (by rw[<- hp.1])
  ·subst hj;obtain⟨e,h1,h2⟩:=hov j (p.ren ρ) rfl;exact⟨e,h1,h2.unren rfl⟩
end
end Go.Ep
namespace Go.Ep
open Go.RowKit
def PState.callO(s:PState)(ρ:List (Nat×Nat))(js:List Nat)(os os':List (Nat×Ob)):PState:=
 { n:=s.n,sl:=(s.junks js).sl,objs:=os'.foldr (fun x l=>yD (rn ρ x.1) (x.2.ren ρ) l) (os.foldr (fun x l=>vB (rn ρ x.1) l) s.objs) }
inductive AllOb (s:PState) (ρ:List (Nat×Nat)):List (Nat×Ob)->Prop
 | nil:AllOb s ρ []
 | cons {id:Nat} {o:Ob} {r:List (Nat×Ob)} (h:look s.objs (rn ρ id)=some (o.ren ρ)) (t:AllOb s ρ r):AllOb s ρ ((id,o)::r)
theorem AllOb.get{s:PState}{ρ:List (Nat×Nat)}{os:List (Nat×Ob)}(h:AllOb s ρ os):∀ id o,look os id=some o->look s.objs (rn ρ id)=some (o.ren ρ):=by
 induction h with
 | nil=>intro id o h;simp[look] at h
 | cons h _ ih=>
  intro id o hl;simp only[look] at hl
  split at hl
  ·rename_i e;subst e;cases hl;exact h
  ·exact ih id o hl
def uz(s:PState)(ρ:List (Nat×Nat))(js okeys pins ks:List Nat):Bool:=
 ((okeys++ks).all fun i=>(okeys++ks).all fun j=>Nat.beq i j||!Nat.beq (rn ρ i) (rn ρ j))&&ks.all (fun i=>inL okeys i||s.fresh (rn ρ i)) &&
 ks.all fun i=>inL pins i||(w3a (rn ρ i) (s.junks js).sl (s.junks js).sl&&s.objs.all fun x=>!x.2.has (rn ρ i)||inL (okeys.map (rn ρ)) x.1)
theorem XE{ρ:List (Nat×Nat)}{acc:List (Nat×Ob)}{j:Nat}{o:Ob}:∀ {l:List (Nat×Ob)},look (l.foldr (fun x acc=>yD (rn ρ x.1) (x.2.ren ρ) acc) acc) j=some o->(∃ i o1,look l i=some o1/\j=rn ρ i/\o=o1.ren ρ)\/((∀ i∈l.map (·.1),rn ρ i≠j)/\look acc j=some o)
 | [],h=>.inr ⟨by simp,h⟩
 | (k,q)::r,h=>by
  rw[List.foldr_cons,zD] at h
  by_cases e:j=rn ρ k
  ·rw[if_pos e] at h;exact .inl ⟨k,q,by simp[look],e,by simpa using h.symm⟩
  ·rw[if_neg e] at h;rcases XE h with⟨i,o1,h1,h2,h3⟩ | ⟨h1,h2⟩
   ·refine .inl ⟨i,o1,?_,h2,h3⟩;simp only[look];rw[if_neg (fun e2=>e (by rw[h2,e2]))];exact h1
   ·refine .inr ⟨fun i hi=>?_,h2⟩;simp only[List.map_cons,List.mem_cons] at hi;rcases hi with rfl | hi
    ·exact fun e2=>e e2.symm
    ·exact h1 i hi
theorem lookD{ρ:List (Nat×Nat)}{acc:List (Nat×Ob)}{j:Nat}{o:Ob}:∀ {l:List (Nat×Ob)},look (l.foldr (fun x acc=>vB (rn ρ x.1) acc) acc) j=some o->(∀ i∈l.map (·.1),rn ρ i≠j)/\look acc j=some o
 | [],h=>⟨by simp,h⟩
 | (k,q)::r,h=>by
  rw[List.foldr_cons,yJ] at h
  by_cases e:j=rn ρ k
  ·rw[if_pos e] at h;cases h
  ·rw[if_neg e] at h;obtain⟨h1,h2⟩:=lookD h;refine⟨fun i hi=>?_,h2⟩;simp only[List.map_cons,List.mem_cons] at hi;rcases hi with rfl | hi
   ·exact fun e2=>e e2.symm
   ·exact h1 i hi
theorem yX{l:List (Nat×Ob)}{i:Nat}{o:Ob}(h:look l i=some o):i∈l.map (·.1):=List.mem_map.2 ⟨(i,o),xi h,rfl⟩
section
variable{P:Program}{ctx:Ctx}{s:PState}
theorem Ua{G:Type}{f:FuncId}{ps qs:List PV}{os:List (Nat×Ob)}{pins:List Nat}{r:PV}{os':G->List (Nat×Ob)}(ρ:List (Nat×Nat))(js ks:List Nat)(hK:∀ b,ctx.K b->ctx.S b)(hq:qs.map PV.nilD=ps.map (PV.ren ρ))(hos:AllOb s ρ os)
  (hks:∀ gh,(os' gh).map (·.1)=ks) (hcl:∀ gh,(os' gh).all (fun x=>x.2.named ks)=true) (hr:r.named ks=true) (hok:uz s ρ js (os.map (·.1)) pins ks=true) {g:zb} {a:Act} {w:World} (hg:RelG ctx g s a w) {vs:List Value} (hlen:qs.length=vs.length)
  (hreal:∀ (i:Nat) (q:PV) (v:Value),qs[i]?=some q->vs[i]?=some v->Rd w g (zk ctx g s.objs) q v) (dst:Option Nat) (hc:ObjAt P f ps os pins r os' w (zk ctx g s.objs)) :
  Calls P f vs.toArray w (fun e w'=>∃ u gh,e=.returned u/\Rel ctx ((s.callO ρ js os (os' gh)).putD dst (r.ren ρ)) (a.put dst u) w'):=by
 let g0:zb:=fun i=>g (rn ρ i)
 have hlo:=hos.get;simp only[uz,Bool.and_eq_true,List.all_eq_true,Bool.or_eq_true,Bool.not_eq_true'] at hok;obtain⟨⟨hinj0,hfresh⟩,hnm⟩:=hok;have hinj:∀ i j,i∈os.map (·.1)++ks->j∈os.map (·.1)++ks->rn ρ i=rn ρ j->i=j:=fun i j hi hj e=>by
  rcases hinj0 i hi j hj with h | h
  ·exact Nat.eq_of_beq_eq_true h
  ·rw[e,Nat.beq_refl] at h;cases h
 have hdis:∀ b,zk ctx g s.objs b->¬ OwnB g0 os b:=fun b hb ⟨id,o,n,h1,h2⟩=>hb.2 _ _ n (hlo id o h1) h2
 have hobs:ObsRd w g0 (zk ctx g s.objs) os:=⟨fun id o h=>(hg.objs _ _ (hlo id o h)).unren rfl rfl,
  fun i j oi oj b n m hi hj hgi hgj=>hinj i j (List.mem_append_left _ (yX hi)) (List.mem_append_left _ (yX hj)) (hg.inj _ _ _ _ b n m (hlo i oi hi) (hlo j oj hj) hgi hgj),
  fun id o b n h h2=>(hg.own _ _ b n (hlo id o h) h2).1⟩
 have hpl:ps.length=qs.length:=by have:=congrArg List.length hq;simpa using this.symm
 refine(hc g0 vs (by omega) (fun i p v hp hv=>?_) hobs hdis).mono fun e w' ⟨u,g',gh,he,hpost⟩=>⟨u,gh,he,?_⟩
 ·cases hqi:qs[i]? with
  | none=>have:=List.getElem?_eq_none_iff.1 hqi;have:=(List.getElem?_eq_some_iff.1 hp).1;omega
  | some q=>
   have h1:(qs.map PV.nilD)[i]?=(ps.map (PV.ren ρ))[i]?:=by rw[hq]
   rw[List.getElem?_map,List.getElem?_map,hqi,hp] at h1;simp only[Option.map_some,Option.some.injEq] at h1;exact(hreal i q v hqi hv).nilD.unren h1
 have hks':=hks gh;have hcl':=hcl gh
 generalize os' gh=os1 at hpost hks' hcl' ⊢
 let G':zb:=fun j=>match ks.find? (fun i=>Nat.beq (rn ρ i) j) with | some i=>g' i | none=>g j
 have hG1:∀ i∈ks,G' (rn ρ i)=g' i:=fun i hi=>by
  show(match ks.find? (fun k=>Nat.beq (rn ρ k) (rn ρ i)) with | some i=>g' i | none=>g (rn ρ i))=g' i
  cases hf:ks.find? (fun k=>Nat.beq (rn ρ k) (rn ρ i)) with
  | none=>have:=List.find?_eq_none.1 hf i hi;simp at this
  | some k=>
   have h1:=List.find?_some hf;have h2:=List.mem_of_find?_eq_some hf;rw[hinj k i (List.mem_append_right _ h2) (List.mem_append_right _ hi) (Nat.eq_of_beq_eq_true h1)]
 have hG2:∀ j,(∀ i∈ks,rn ρ i≠j)->G' j=g j:=fun j hj=>by
  show(match ks.find? (fun k=>Nat.beq (rn ρ k) j) with | some i=>g' i | none=>g j)=g j
  cases hf:ks.find? (fun k=>Nat.beq (rn ρ k) j) with
  | none=>rfl
  | some k=>exact absurd (Nat.eq_of_beq_eq_true (by simpa using List.find?_some hf)) (hj k (List.mem_of_find?_eq_some hf))
 have hlookN:∀ j o,look (s.callO ρ js os os1).objs j=some o->(∃ i o1,look os1 i=some o1/\j=rn ρ i/\o=o1.ren ρ/\i∈ks)\/((∀ i∈ks,rn ρ i≠j)/\(∀ i∈os.map (·.1),rn ρ i≠j)/\look s.objs j=some o):=fun j o h=>by
  rcases XE h with⟨i,o1,h1,h2,h3⟩ | ⟨h1,h2⟩
  ·exact .inl ⟨i,o1,h1,h2,h3,hks'▸yX h1⟩
  ·obtain⟨h3,h4⟩:=lookD h2;exact .inr ⟨fun i hi=>h1 i (hks'▸hi),h3,h4⟩
 have freeS:∀ b,zk ctx g s.objs b->b < w.heap.size->zk ctx G' (s.callO ρ js os os1).objs b:=fun b hb hlt=>⟨hb.1,fun j o n hj hgj=>by
  rcases hlookN j o hj with⟨i,o1,h1,h2,_,hik⟩ | ⟨h1,_,h3⟩
  ·rw[h2,hG1 i hik] at hgj;rcases hpost.own b ⟨i,o1,n,h1,hgj⟩ with h | h
   ·exact hdis b hb h
   ·omega
  ·rw[hG2 j h1] at hgj;exact hb.2 j o n h3 hgj⟩
 have freeA:∀ b,We w g0 (zk ctx g s.objs) os g' os1 b->zk ctx G' (s.callO ρ js os os1).objs b:=fun b ⟨h1,h2⟩=>⟨by
  rcases h1 with h1 | ⟨id,o,n,h1,h3⟩ | h1
  ·exact h1.1
  ·rcases(hg.own _ _ b n (hlo id o h1) h3).2 with h4 | h4
   ·exact .inr h4
   ·exact .inl (hK b h4)
  ·exact .inr (Nat.le_trans hg.grows h1),fun j o n hj hgj=>by
  rcases hlookN j o hj with⟨i,o1,h3,h4,_,hik⟩ | ⟨h3,h4,h5⟩
  ·rw[h4,hG1 i hik] at hgj;exact h2 ⟨i,o1,n,h3,hgj⟩
  ·rw[hG2 j h3] at hgj;rcases h1 with h1 | ⟨id,o',n',h1,h6⟩ | h1
   ·exact h1.2 j o n h5 hgj
   ·exact h4 id (yX h1) (hg.inj j (rn ρ id) o _ b n n' h5 (hlo id o' h1) hgj h6).symm
   ·have:=(hg.own j o b n h5 hgj).1;omega⟩
 have hst:yV w w' (zk ctx g s.objs):=⟨hpost.grows,fun b hb hlt=>hpost.keep b hlt (hdis b hb)⟩
 -- what is named elsewhere keeps its ghost
 have hslot:∀ i p,(s.junks js).at i=some p->∀ j,p.has j=true->G' j=g j:=fun i p hp j hj=>by
  by_cases hex:∃ k∈ks,rn ρ k=j
  ·obtain⟨k,hk,rfl⟩:=hex;rw[hG1 k hk];rcases hnm k hk with h | ⟨h,_⟩
   ·exact hpost.pin k (zS.1 h)
   ·rw[yKa (s:=s.junks js) h hp] at hj;cases hj
  ·exact hG2 j fun k hk e=>hex ⟨k,hk,e⟩
 have hother:∀ j o,look s.objs j=some o->(∀ i∈os.map (·.1),rn ρ i≠j)->∀ jj,o.has jj=true->G' jj=g jj:=fun j o hj hno jj hjj=>by
  by_cases hex:∃ k∈ks,rn ρ k=jj
  ·obtain⟨k,hk,rfl⟩:=hex;rw[hG1 k hk];rcases hnm k hk with h | ⟨_,h⟩
   ·exact hpost.pin k (zS.1 h)
   ·rcases h _ (xi hj) with h2 | h2
    ·rw[hjj] at h2;cases h2
    ·obtain⟨i,hi,he⟩:=List.mem_map.1 (zS.1 h2);exact absurd he (hno i hi)
  ·exact hG2 jj fun k hk e=>hex ⟨k,hk,e⟩
 have hnown:∀ j o b n,look s.objs j=some o->(∀ i∈os.map (·.1),rn ρ i≠j)->g j=some (b,n)->¬ OwnB g0 os b:=fun j o b n hj hno hgj ⟨id,o',n',h1,h2⟩=>
  hno id (yX h1) (hg.inj j (rn ρ id) o _ b n n' hj (hlo id o' h1) hgj h2).symm
 have main:RelG ctx G' (s.callO ρ js os os1) a w':=by
  refine⟨hg.defers,hg.size,fun i p hp=>?_,fun j o hj=>?_,fun i j oi oj b n m hi hj hgi hgj=>?_,fun j o b n hj hgj=>?_,hpost.eos.trans hg.os,hpost.tape.trans hg.tape,hpost.output.trans hg.output,Nat.le_trans hg.grows hpost.grows,fun k hk hkK=>?_⟩
  ·have hp':(s.junks js).at i=some p:=by
    rw[YQ,xU];rw[YQ] at hp;exact hp
   have h:=(hg.junks js).slots i p hp';rw[yO] at h;exact h.keep hst freeS (hslot i p hp')
  ·rcases hlookN j o hj with⟨i,o1,h1,rfl,rfl,hik⟩ | ⟨h1,h2,h3⟩
   ·refine ObRd.ren ?_;have hst':yV w' w' (We w g0 (zk ctx g s.objs) os g' os1):=⟨Nat.le_refl _,fun _ _ _=>rfl⟩
    have hn:=(List.all_eq_true.1 hcl') _ (xi h1);exact(hpost.obs.rd i o1 h1).keep hst' (fun b hb _=>freeA b hb) (fun _ _ _=>rfl) (hG1 i hik) (fun jj hjj=>hG1 jj (Ob.named_has hn hjj))
   ·exact(hg.objs j o h3).keep hst freeS (fun b n hgj=>hpost.keep b (hg.own j o b n h3 hgj).1 (hnown j o b n h3 h2 hgj)) (hG2 j h1) (hother j o h3 h2)
  ·rcases hlookN i oi hi with⟨k,o1,h1,rfl,_,hik⟩ | ⟨h1,h2,h3⟩
   ·rw[hG1 k hik] at hgi;rcases hlookN j oj hj with⟨k2,o2,h4,rfl,_,hik2⟩ | ⟨h4,h5,h6⟩
    ·rw[hG1 k2 hik2] at hgj;rw[hpost.obs.inj k k2 o1 o2 b n m h1 h4 hgi hgj]
    ·rw[hG2 j h4] at hgj;exfalso;rcases hpost.own b ⟨k,o1,n,h1,hgi⟩ with h | h
     ·exact hnown j oj b m h6 h5 hgj h
     ·have:=(hg.own j oj b m h6 hgj).1;omega
   ·rw[hG2 i h1] at hgi;rcases hlookN j oj hj with⟨k2,o2,h4,rfl,_,hik2⟩ | ⟨h4,h5,h6⟩
    ·rw[hG1 k2 hik2] at hgj;exfalso;rcases hpost.own b ⟨k2,o2,m,h4,hgj⟩ with h | h
     ·exact hnown i oi b n h3 h2 hgi h
     ·have:=(hg.own i oi b n h3 hgi).1;omega
    ·rw[hG2 j h4] at hgj;exact hg.inj i j oi oj b n m h3 h6 hgi hgj
  ·rcases hlookN j o hj with⟨k,o1,h1,rfl,_,hik⟩ | ⟨h1,h2,h3⟩
   ·rw[hG1 k hik] at hgj;refine⟨hpost.obs.lt k o1 b n h1 hgj,?_⟩;rcases hpost.own b ⟨k,o1,n,h1,hgj⟩ with⟨id,o',n',h4,h5⟩ | h
    ·exact(hg.own _ _ b n' (hlo id o' h4) h5).2
    ·exact .inl (Nat.le_trans hg.grows h)
   ·rw[hG2 j h1] at hgj;obtain⟨h4,h5⟩:=hg.own j o b n h3 hgj;exact⟨Nat.lt_of_lt_of_le h4 hpost.grows,h5⟩
  ·refine(hpost.keep k (Nat.lt_of_lt_of_le hk hg.grows) fun⟨id,o,n,h1,h2⟩=>?_).trans (hg.keep k hk hkK);rcases(hg.own _ _ k n (hlo id o h1) h2).2 with h | h
   ·omega
   ·exact hkK h
 refine⟨G',main.put dst ?_⟩;have hst':yV w' w' (We w g0 (zk ctx g s.objs) os g' os1):=⟨Nat.le_refl _,fun _ _ _=>rfl⟩
 exact(hpost.res.keep (w':=w') (g':=fun i=>G' (rn ρ i)) hst' (fun b hb _=>freeA b hb) (fun jj hjj=>hG1 jj (PV.named_has hr hjj))).ren
end
end Go.Ep
namespace Go.Ep
open Go.RowKit
section
variable{P:Program}{ctx:Ctx}{Q:PQ}{s:PState}
variable{dst:Option Tmp}{ty:TypeId}{pos:String}{after:Array Edge}{gd:Option (Nat×Bool)}
theorem Jw{xs:List Operand}{ps:List PV}(hps:s.evs xs=some ps){a:Act}{w:World}{g:zb}(hg:RelG ctx g s a w) :
  ps.length=(xs.map a.eval).length/\∀ (i:Nat) (p:PV) (v:Value),ps[i]?=some p->(xs.map a.eval)[i]?=some v->Rd w g (zk ctx g s.objs) p v:=by
 refine⟨by simpa using yLa hps,fun i p v hp hv=>?_⟩;rw[List.getElem?_map] at hv
 cases hx:xs[i]? with
 | none=>simp[hx] at hv
 | some x=>
  simp[hx] at hv;subst hv;exact hg.ev (qc hps hp hx)
theorem PWl.callObjR{G:Type}{Q:PQ}{ops:Array Oper}{rest:List Oper}{x:Operand}{xs:List Operand}{ats:Array TypeId}{f:FuncId}{ps qs:List PV}{os:List (Nat×Ob)}{pins:List Nat}{r:PV}{os':G->List (Nat×Ob)}(ρ:List (Nat×Nat))(js ks:List Nat)
  {N:Nat->Prop} (hc:PObjN P f N ps os pins r os') (hN:∀ a w,Rel ctx s a w->∀ b,w.heap.size<=b->N b) (hK:∀ b,ctx.K b->ctx.S b) (hx:s.ev x=some (.d (.v (.func (.func f) #[] #[])))) (he:∀ args w,(callFunc f args).run P w=.ok (.enter f args) w) (hps:s.evs xs=some qs) (hq:qs.map PV.nilD=ps.map (PV.ren ρ)) (hos:AllOb s ρ os)
  (hks:∀ gh,(os' gh).map (·.1)=ks) (hcl:∀ gh,(os' gh).all (fun x=>x.2.named ks)=true) (hr:r.named ks=true) (hok:uz s ρ js (os.map (·.1)) pins ks=true) (hgd:gd=none)
  (h:∀ gh,PWl P ctx ops Q rest ((s.callO ρ js os (os' gh)).putD dst (r.ren ρ))):PWl P ctx ops Q (⟨dst,.call ⟨.value x,xs.toArray,ats⟩,ty,pos,after,gd⟩::rest) s:=by
 rintro a w ⟨g,hg⟩;refine wpList_plain hgd fun K hK2=>?_
 obtain⟨hlen,hreal⟩:=Jw hps hg;unfold Oper.wp;rw[wv (o:=⟨dst,.call ⟨.value x,xs.toArray,ats⟩,ty,pos,after,gd⟩) rfl (Vz hg hx) he w];rw[List.map_toArray];refine(Ua ρ js ks hK hq hos hks hcl hr hok hg hlen hreal dst (hc w (hN a w ⟨g,hg⟩) _)).mono fun en w' ⟨u,gh,he,hrel⟩=>?_
 subst he;exact hK2 _ _ (h gh _ _ hrel)
theorem LR.callObjN{x:Operand}{xs:List Operand}{ats:Array TypeId}{f:FuncId}{ps qs:List PV}{os os':List (Nat×Ob)}{pins:List Nat}{r:PV}(ρ:List (Nat×Nat))(js ks:List Nat)
  {N:Nat->Prop} (hc:PObjN P f N ps os pins r (fun _:Unit=>os')) (hN:∀ b,zT ctx b->N b) (hK:∀ b,ctx.K b->ctx.S b) (hx:s.ev x=some (.d (.v (.func (.func f) #[] #[])))) (he:∀ args w,(callFunc f args).run P w=.ok (.enter f args) w) (hps:s.evs xs=some qs) (hq:qs.map PV.nilD=ps.map (PV.ren ρ)) (hos:AllOb s ρ os)
  (hks:os'.map (·.1)=ks) (hcl:os'.all (fun x=>x.2.named ks)=true) (hr:r.named ks=true) (hok:uz s ρ js (os.map (·.1)) pins ks=true) :
  Local P ctx ⟨dst,.call ⟨.value x,xs.toArray,ats⟩,ty,pos,after,gd⟩ s ((s.callO ρ js os os').putD dst (r.ren ρ)):=
 uw (o:=⟨dst,.call ⟨.value x,xs.toArray,ats⟩,ty,pos,after,gd⟩) fun a w g hg=>by
  obtain⟨hlen,hreal⟩:=Jw hps hg;refine⟨f,_,wv (o:=⟨dst,.call ⟨.value x,xs.toArray,ats⟩,ty,pos,after,gd⟩) rfl (Vz hg hx) he w,?_⟩;rw[List.map_toArray];exact(Ua ρ js ks hK hq hos (fun _=>hks) (fun _=>hcl) hr hok hg hlen hreal dst (hc w (fun b hb=>hN b (Nat.le_trans hg.grows hb)) _)).mono fun en w' ⟨u,_,he,hrel⟩=>⟨u,he,hrel⟩
theorem LR.callObj{x:Operand}{xs:List Operand}{ats:Array TypeId}{f:FuncId}{ps qs:List PV}{os os':List (Nat×Ob)}{pins:List Nat}{r:PV}(ρ:List (Nat×Nat))(js ks:List Nat)
  (hc:PObj P f ps os pins r (fun _:Unit=>os')) (hK:∀ b,ctx.K b->ctx.S b) (hx:s.ev x=some (.d (.v (.func (.func f) #[] #[])))) (he:∀ args w,(callFunc f args).run P w=.ok (.enter f args) w) (hps:s.evs xs=some qs) (hq:qs.map PV.nilD=ps.map (PV.ren ρ)) (hos:AllOb s ρ os)
  (hks:os'.map (·.1)=ks) (hcl:os'.all (fun x=>x.2.named ks)=true) (hr:r.named ks=true) (hok:uz s ρ js (os.map (·.1)) pins ks=true) :
  Local P ctx ⟨dst,.call ⟨.value x,xs.toArray,ats⟩,ty,pos,after,gd⟩ s ((s.callO ρ js os os').putD dst (r.ren ρ)):=
 LR.callObjN ρ js ks (hc.toN fun _=>True) (fun _ _=>trivial) hK hx he hps hq hos hks hcl hr hok
end
end Go.Ep
namespace Go.Ep
theorem yu{a b:List (Nat×Ob)}{id:Nat}{o:Ob}(h:look a id=some o):look (a++b) id=some o:=by rw[xv,h];rfl
theorem EndsO.mk{G:Type}{P:Program}{ctx:Ctx}{fn:Func}{pl:List (Nat×Ob)}{r:PV}{os':G->List (Nat×Ob)}{e:Exit}{s:PState}(gh:G){n:Nat}{sl:List (Nat×PV)}{ps:List PV}(he:e=.normal\/e=.ret)(hsub:Sub ctx s ⟨n,sl,os' gh++pl⟩)
  (hres:zSa P ⟨n,sl,os' gh++pl⟩ fn.results.toList ps) (hq:yPa ps=r) (hd:(pl.all fun x=>!inL ((os' gh).map (·.1)) x.1)=true):EndsO P ctx fn pl r os' e s:=by
 refine⟨he,gh,ps,_,hsub,hres,hq,fun id o h=>yu h,fun id o h=>?_⟩;show look (os' gh++pl) id=some o;rw[xv]
 cases hl:look (os' gh) id with
 | none=>rw[Option.none_or];exact h
 | some q=>
  have h1:=List.all_eq_true.1 hd _ (xi h);have h2:=zS.2 (yX hl);simp only at h1;rw[h2] at h1
  cases h1
end Go.Ep
namespace Go.Ep
open Go.RowKit
section
variable{P:Program}{ctx:Ctx}{Q:PQ}{s:PState}
variable{dst:Option Tmp}{ty:TypeId}{pos:String}{after:Array Edge}{gd:Option (Nat×Bool)}
theorem UD{t e:TypeId}(hu:P.underlying t=some (.pointer e)):P.underlying t=some (.pointer (P.pointee t)):=by
 rw[hu];simp[Program.pointee,hu]
theorem xSa{x:Operand}{id off:Nat}(hx:s.ev x=some (.ref id off)){a:Act}{w:World}{g:zb}(hg:RelG ctx g s a w):∃ b,a.eval x=.pointer (some b):=by
 have h:=hg.ev hx
 generalize a.eval x=v at h
 cases h with
 | ref _ _ blk n hgi=>exact⟨_,rfl⟩
theorem LR.eqlPtr{x:Operand}{id off:Nat}{t t' e:TypeId}(hu:P.underlying t=some (.pointer e))(hx:s.ev x=some (.ref id off)) :
  Local P ctx ⟨dst,.binOp .eql t x (.const (.pointer none)) t',ty,pos,after,gd⟩ s (s.putD dst (.d (.v (.bool false)))):=
 zG (o:=⟨dst,.binOp .eql t x (.const (.pointer none)) t',ty,pos,after,gd⟩) fun a w g hg=>by
  obtain⟨b,hb⟩:=xSa hx hg;have hc:a.eval (.const (.pointer none))=.pointer none:=rfl;exact⟨.bool false,by simp[execOp,hb,hc,eqGuard_at_pointer,run_eql_pointer_nil (P:=P) w t _ (UD hu)],.d (.v _ rfl)⟩
theorem LR.neqPtr{x:Operand}{id off:Nat}{t t' e:TypeId}(hu:P.underlying t=some (.pointer e))(hx:s.ev x=some (.ref id off)) :
  Local P ctx ⟨dst,.binOp .neq t x (.const (.pointer none)) t',ty,pos,after,gd⟩ s (s.putD dst (.d (.v (.bool true)))):=
 zG (o:=⟨dst,.binOp .neq t x (.const (.pointer none)) t',ty,pos,after,gd⟩) fun a w g hg=>by
  obtain⟨b,hb⟩:=xSa hx hg;have hc:a.eval (.const (.pointer none))=.pointer none:=rfl;exact⟨.bool true,by simp[execOp,hb,hc,eqGuard_at_pointer,run_neq_pointer_nil (P:=P) w t _ (UD hu)],.d (.v _ rfl)⟩
theorem LR.eqlPtrN{x:Operand}{t t' e:TypeId}(hu:P.underlying t=some (.pointer e))(hx:s.ev x=some (.d (.v (.pointer none)))) :
  Local P ctx ⟨dst,.binOp .eql t x (.const (.pointer none)) t',ty,pos,after,gd⟩ s (s.putD dst (.d (.v (.bool true)))):=
 zG (o:=⟨dst,.binOp .eql t x (.const (.pointer none)) t',ty,pos,after,gd⟩) fun a w g hg=>by
  have hc:a.eval (.const (.pointer none))=.pointer none:=rfl;exact⟨.bool true,by simp[execOp,Vz hg hx,hc,eqGuard_at_pointer,run_eql_pointer_nil (P:=P) w t _ (UD hu)],.d (.v _ rfl)⟩
end
end Go.Ep
namespace Go.Ep
open Go.RowKit
section
variable{ctx:Ctx}{s:PState}
theorem Sub.ownNil{id j id' k:Nat}{e T:TypeId}{cs:List PV}(hl:look s.objs id=some (.cells T cs))(hj:cs[j]?=some (.d (.v (.slice none 0 0))))(hf:s.fresh id'=true)(hne:Nat.beq id id'=false) :
  Sub ctx s { s with objs:=yD id (.cells T (cs.set j (.row id' 0))) (yD id' (.row e k []) s.objs) }:=by
 rintro a w ⟨g,hg⟩;have hne':id≠id':=fun h=>by rw[h,Nat.beq_refl] at hne;cases hne
 have h1:=hg.new (Below.refl _ w) hf none (fun b n e=>by cases e) (.row e k []) (.rowNil e k (zQ _ _ _));have hl1:look (yD id' (.row e k []) s.objs) id=some (.cells T cs):=by rw[zD,if_neg hne'];exact hl
 refine⟨upd g id' none,?_⟩;have hF:∀ b,zk ctx (upd g id' none) (yD id' (.row e k []) s.objs) b->zk ctx (upd g id' none) (yD id (.cells T (cs.set j (.row id' 0))) (yD id' (.row e k []) s.objs)) b:=fun b hb=>⟨hb.1,fun i o n ho hgi=>by
  rw[zD] at ho
  by_cases ei:i=id
  ·subst ei;exact hb.2 i _ n hl1 hgi
  ·rw[if_neg ei] at ho;exact hb.2 i o n ho hgi⟩
 have hst:yV w w (zk ctx (upd g id' none) (yD id' (.row e k []) s.objs)):=⟨Nat.le_refl _,fun _ _ _=>rfl⟩
 refine⟨h1.defers,h1.size,fun i p hp=>(h1.slots i p hp).keep hst (fun b hb _=>hF b hb) (fun _ _=>rfl),fun i o ho=>?_,fun i i2 o o2 b n m ho ho2 hgi hgi2=>?_,fun i o b n ho hgi=>?_,h1.os,h1.tape,h1.output,h1.grows,h1.keep⟩
 ·rw[zD] at ho
  by_cases ei:i=id
  ·subst ei;rw[if_pos rfl] at ho
   cases ho
   cases (h1.objs i _ hl1).keep hst (fun b hb _=>hF b hb) (fun _ _ _=>rfl) rfl (fun _ _=>rfl) with
   | cells _ _ blk n us hgi hh hlen hr h1'=>
    refine .cells T _ blk n us hgi hh (by simpa using hlen) (fun q p u hp hu=>?_) h1'
    by_cases ej:q=j
    ·subst ej;have hlt:q < cs.length:=(List.getElem?_eq_some_iff.1 hj).1;rw[List.getElem?_set_self hlt] at hp
     cases hp
     have:=(hr q _ u hj hu).of_v;subst this;exact .rowNil id' (zQ _ _ _)
    ·rw[List.getElem?_set_ne (Ne.symm ej)] at hp;exact hr q p u hp hu
  ·rw[if_neg ei] at ho;exact(h1.objs i o ho).keep hst (fun b hb _=>hF b hb) (fun _ _ _=>rfl) rfl (fun _ _=>rfl)
 ·rw[zD] at ho ho2;have key:∀ q o,(if q=id then some (Ob.cells T (cs.set j (.row id' 0))) else look (yD id' (.row e k []) s.objs) q)=some o->∃ o',look (yD id' (.row e k []) s.objs) q=some o':=fun q o hq=>by
   by_cases eq:q=id
   ·subst eq;exact⟨_,hl1⟩
   ·rw[if_neg eq] at hq;exact⟨o,hq⟩
  obtain⟨p1,q1⟩:=key i o ho;obtain⟨p2,q2⟩:=key i2 o2 ho2;exact h1.inj i i2 p1 p2 b n m q1 q2 hgi hgi2
 ·rw[zD] at ho
  by_cases ei:i=id
  ·subst ei;exact h1.own i _ b n hl1 hgi
  ·rw[if_neg ei] at ho;exact h1.own i o b n ho hgi
end
end Go.Ep
namespace Go.Ep
open Go.RowKit
section
variable{P:Program}{ctx:Ctx}{Q:PQ}{s:PState}
variable{dst:Option Tmp}{ty:TypeId}{pos:String}{after:Array Edge}{gd:Option (Nat×Bool)}
end
end Go.Ep
namespace Go.Ep
open Go.RowKit
section
variable{ctx:Ctx}{s:PState}
theorem Sub.junkCell{id j:Nat}{T:TypeId}{cs:List PV}(hl:look s.objs id=some (.cells T cs)):Sub ctx s { s with objs:=yD id (.cells T (cs.set j .junk)) s.objs }:=by
 rintro a w ⟨g,h1⟩;refine⟨g,?_⟩;have hF:∀ b,zk ctx g s.objs b->zk ctx g (yD id (.cells T (cs.set j .junk)) s.objs) b:=fun b hb=>⟨hb.1,fun i o n ho hgi=>by
  rw[zD] at ho
  by_cases ei:i=id
  ·subst ei;exact hb.2 i _ n hl hgi
  ·rw[if_neg ei] at ho;exact hb.2 i o n ho hgi⟩
 have hst:yV w w (zk ctx g s.objs):=⟨Nat.le_refl _,fun _ _ _=>rfl⟩
 refine⟨h1.defers,h1.size,fun i p hp=>(h1.slots i p hp).keep hst (fun b hb _=>hF b hb) (fun _ _=>rfl),fun i o ho=>?_,fun i i2 o o2 b n m ho ho2 hgi hgi2=>?_,fun i o b n ho hgi=>?_,h1.os,h1.tape,h1.output,h1.grows,h1.keep⟩
 ·rw[zD] at ho
  by_cases ei:i=id
  ·subst ei;rw[if_pos rfl] at ho
   cases ho
   cases (h1.objs i _ hl).keep hst (fun b hb _=>hF b hb) (fun _ _ _=>rfl) rfl (fun _ _=>rfl) with
   | cells _ _ blk n us hgi hh hlen hr h1'=>
    refine .cells T _ blk n us hgi hh (by simpa using hlen) (fun q p u hp hu=>?_) h1'
    by_cases ej:q=j
    ·subst ej;have hlt:q < cs.length:=by have:=(List.getElem?_eq_some_iff.1 hp).1;simpa using this
     rw[List.getElem?_set_self hlt] at hp
     cases hp
     exact .junk u
    ·rw[List.getElem?_set_ne (Ne.symm ej)] at hp;exact hr q p u hp hu
  ·rw[if_neg ei] at ho;exact(h1.objs i o ho).keep hst (fun b hb _=>hF b hb) (fun _ _ _=>rfl) rfl (fun _ _=>rfl)
 ·rw[zD] at ho ho2;have key:∀ q o,(if q=id then some (Ob.cells T (cs.set j .junk)) else look s.objs q)=some o->∃ o',look s.objs q=some o':=fun q o hq=>by
   by_cases eq:q=id
   ·subst eq;exact⟨_,hl⟩
   ·rw[if_neg eq] at hq;exact⟨o,hq⟩
  obtain⟨p1,q1⟩:=key i o ho;obtain⟨p2,q2⟩:=key i2 o2 ho2;exact h1.inj i i2 p1 p2 b n m q1 q2 hgi hgi2
 ·rw[zD] at ho
  by_cases ei:i=id
  ·subst ei;exact h1.own i _ b n hl hgi
  ·rw[if_neg ei] at ho;exact h1.own i o b n ho hgi
end
end Go.Ep
namespace Go.Ep
theorem xO{P:Program}{ctx:Ctx}{Q:PQ}{s:PState}{ops:Array Oper}{rest:List Oper}{dst:Option Tmp}{ty:TypeId}{pos:String}{after:Array Edge}{gd:Option (Nat×Bool)}{x:Operand}{xs:List Operand}{ats:Array TypeId}{f:FuncId}{ps qs:List PV}{os os':List (Nat×Ob)}{pins:List Nat}{r:PV}(ρ:List (Nat×Nat))(js ks:List Nat)(hc:PObj P f ps os pins r (fun _:Unit=>os'))(he:∀ args w,(callFunc f args).run P w=.ok (.enter f args) w)(h:PWl P ctx ops Q rest ((s.callO ρ js os os').putD dst (r.ren ρ)))(hK:∀ b,ctx.K b->ctx.S b:=by assumption)(hx:s.ev x=some (.d (.v (.func (.func f) #[] #[]))):=by exact rfl)(hps:s.evs xs=some qs:=by exact rfl)(hq:qs.map PV.nilD=ps.map (PV.ren ρ):=by first | rfl | (simp;done) | (simp[PV.nilD,PV.ren,rn] <;> omega))(hos:AllOb s ρ os:=by repeat' first | constructor | (congr 1;first | (simp;done) | (simp;omega) | omega))(hks:os'.map (·.1)=ks:=by exact rfl)(hcl:os'.all (fun x=>x.2.named ks)=true:=by exact rfl)(hr:r.named ks=true:=by exact rfl)(hok:uz s ρ js (os.map (·.1)) pins ks=true:=by exact rfl)(hg:gd=none:=by exact rfl):PWl P ctx ops Q (⟨dst,.call ⟨.value x,xs.toArray,ats⟩,ty,pos,after,gd⟩::rest) s:=PWl.step (LR.callObj ρ js ks hc hK hx he hps hq hos hks hcl hr hok) hg h
end Go.Ep
namespace Go.Ep
open Go.RowKit
def UE(ρ:List (Nat×Nat))(js:List Nat)(dst:Option Nat)(r:PV)(os':List (Nat×Ob)):Ef:=⟨VM dst (r.ren ρ)++(js.map fun t=>(t,PV.junk)).reverse,os'.map fun x=>(rn ρ x.1,x.2.ren ρ)⟩
def calO(ρ:List (Nat×Nat))(js okeys pins ks:List Nat)(f:Ft):Bool:=
 ((okeys++ks).all fun i=>(okeys++ks).all fun j=>Nat.beq i j||!Nat.beq (rn ρ i) (rn ρ j))&&ks.all (fun i=>inL okeys i||inL f.fr (rn ρ i))&&okeys.all (inL ks)&&f.ao.all (inL (okeys.map (rn ρ))) &&
 (ks.all fun i=>inL pins i||inL f.fr (rn ρ i)||f.al.any fun a=>Nat.beq a.1 (rn ρ i)&&a.2==js)&&okeys.all fun i=>inL f.ro (rn ρ i)
section
variable{P:Program}{ctx:Ctx}{Q:PState->Prop}{s:PState}{ops:Array Oper}{rest:List Oper}{fs:List Ft}{f:Ft}
variable{dst:Option Tmp}{ty:TypeId}{pos:String}{after:Array Edge}{gd:Option (Nat×Bool)}
theorem AllOb.keep{ρ:List (Nat×Nat)}{os:List (Nat×Ob)}{s':PState}(h:AllOb s ρ os)(hk:∀ {id ob},inL f.ro id=true->look s.objs id=some ob->look s'.objs id=some ob)(hr:((os.map (·.1)).all fun i=>inL f.ro (rn ρ i))=true):AllOb s' ρ os:=by
 induction h with
 | nil=>exact .nil
 | cons h _ ih=>
  simp only[List.map_cons,List.all_cons,Bool.and_eq_true] at hr;exact .cons (hk hr.1 h) (ih hr.2)
theorem zTa{s:PState}{id:Nat}(js:List Nat)(h:s.fresh id=true):w3a id (s.junks js).sl (s.junks js).sl=true:=by
 simp only[PState.fresh,Bool.and_eq_true] at h;refine jX fun x hx hh q hq=>?_
 rcases zRa js s x hx with h2 | h2
 ·rw[h2] at hh;simp[PV.has] at hh
 ·rw[xj,VK] at hq
  cases hg:xt (js.map fun t=>(t,PV.junk)).reverse x.1 with
  | none=>rw[hg,Option.none_or] at hq;exact Xa h.1 h2 hq hh
  | some q2=>
   rw[hg,Option.some_or] at hq
   cases hq
   have:=Wy hg;rw[List.mem_reverse,List.mem_map] at this;obtain⟨t,_,h3⟩:=this
   cases h3
   rfl
theorem PQe.callObj{x:Operand}{xs:List Operand}{ats:Array TypeId}{fn:FuncId}{ps qs:List PV}{os os':List (Nat×Ob)}{pins:List Nat}{r:PV}(ρ:List (Nat×Nat))(js ks:List Nat)
  (hc:PObj P fn ps os pins r (fun _:Unit=>os')) (hK:∀ b,ctx.K b->ctx.S b)
  (hev:∀ s':PState,(∀ {y q},xC (⟨dst,.call ⟨.value x,xs.toArray,ats⟩,ty,pos,after,gd⟩:Oper) y=true->s.ev y=some q->s'.ev y=some q)->s'.ev x=some (.d (.v (.func (.func fn) #[] #[])))/\s'.evs xs=some qs)
  (he:∀ args w,(callFunc fn args).run P w=.ok (.enter fn args) w) (hq:qs.map PV.nilD=ps.map (PV.ren ρ)) (hos:AllOb s ρ os)
  (hks:os'.map (·.1)=ks) (hcl:os'.all (fun x=>x.2.named ks)=true) (hr:r.named ks=true) (hok:calO ρ js (os.map (·.1)) pins ks f=true)
  (hg:Wd ops (⟨dst,.call ⟨.value x,xs.toArray,ats⟩,ty,pos,after,gd⟩:Oper) s) (hk:okE f (UE ρ js dst r os')=true) (h:PQe P ctx ops Q rest fs (s.app (UE ρ js dst r os'))) :
  PQe P ctx ops Q (⟨dst,.call ⟨.value x,xs.toArray,ats⟩,ty,pos,after,gd⟩::rest) (f::fs) s:=by
 simp only[calO,Bool.and_eq_true] at hok;obtain⟨⟨⟨⟨⟨c1,c2⟩,c3⟩,c4⟩,c5⟩,c6⟩:=hok;refine .step (e:=UE ρ js dst r os') (fun s' hn hee ho hfr hal=>?_) hg hk h;obtain⟨h1,h2⟩:=hev s' (fun hx hq=>hee hx hq);have hok':uz s' ρ js (os.map (·.1)) pins ks=true:=by
  unfold uz;rw[Bool.and_eq_true,Bool.and_eq_true];refine⟨⟨c1,?_⟩,?_⟩
  ·rw[List.all_eq_true] at c2 ⊢;intro i hi;have:=c2 i hi;rw[Bool.or_eq_true] at this ⊢;exact this.imp (fun h=>h) fun h=>hfr _ (zS.1 h)
  ·rw[List.all_eq_true] at c5 ⊢;intro i hi;have:=c5 i hi;rw[Bool.or_eq_true,Bool.or_eq_true] at this;rw[Bool.or_eq_true];rcases this with(h | h) | h
   ·exact .inl h
   ·refine .inr ?_;have hf:=hfr _ (zS.1 h);rw[Bool.and_eq_true];refine⟨zTa js hf,?_⟩;simp only[PState.fresh,Bool.and_eq_true,List.all_eq_true] at hf;rw[List.all_eq_true];intro y hy;rw[Bool.or_eq_true];exact .inl (hf.2 y hy).2
   ·refine .inr ?_;obtain⟨a,ha1,ha2⟩:=List.any_eq_true.1 h;simp only[Bool.and_eq_true,beq_iff_eq] at ha2;have hx:=hal a ha1;rw[Nat.eq_of_beq_eq_true ha2.1,ha2.2] at hx;unfold PState.aloneX at hx;rw[Bool.and_eq_true,yO] at hx;rw[Bool.and_eq_true];refine⟨hx.1,?_⟩;rw[List.all_eq_true] at c4;have hx2:=hx.2;rw[List.all_eq_true] at hx2 ⊢;intro y hy;have:=hx2 y hy;rw[Bool.or_eq_true] at this ⊢;rcases this with h | h
    ·exact .inr (c4 _ (zS.1 h))
    ·exact .inl h
 have hl:=LR.callObj (P:=P) (ctx:=ctx) (dst:=dst) (ty:=ty) (pos:=pos) (after:=after) (gd:=gd) (ats:=ats) ρ js ks hc hK h1 he h2 hq (hos.keep (fun hi hl=>ho (zS.1 hi) hl) c6) hks hcl hr hok'
 suffices hs:Sub ctx ((s'.callO ρ js os os').putD dst (r.ren ρ)) (s'.app (UE ρ js dst r os')) from fun a w hr K Qx hK=>hl a w hr K Qx fun a' w' h'=>hK a' w' (hs a' w' h')
 refine Sub.drop ?_ ?_ ?_
 ·cases dst <;> rfl
 ·intro i p hp;have hat:=xL hp;have hlt:i < s'.n:=Zu (s:=s'.app (UE ρ js dst r os')) hp;refine Zn (by cases dst <;> exact hlt) ?_;simp only[PState.app,UE] at hat
  cases dst with
  | none=>simpa[VM,PState.putD,PState.callO,xj] using hat
  | some d=>simpa[VM,PState.putD,PState.put,PState.callO,xj] using hat
 ·intro id o hlo;have e1:(s'.app (UE ρ js dst r os')).objs=os'.foldr (fun x l=>yD (rn ρ x.1) (x.2.ren ρ) l) s'.objs:=by
   simp only[PState.app,UE,List.foldr_map]
  have e2:((s'.callO ρ js os os').putD dst (r.ren ρ)).objs=os'.foldr (fun x l=>yD (rn ρ x.1) (x.2.ren ρ) l) (os.foldr (fun x l=>vB (rn ρ x.1) l) s'.objs):=by cases dst <;> rfl
  rw[e1] at hlo;rw[e2];have hF:∀ (l:List (Nat×Ob)) (A B:List (Nat×Ob)),(∀ j,(∀ y∈l,rn ρ y.1≠j)->look A j=look B j)->∀ j,look (l.foldr (fun x l=>yD (rn ρ x.1) (x.2.ren ρ) l) A) j=look (l.foldr (fun x l=>yD (rn ρ x.1) (x.2.ren ρ) l) B) j:=by
   intro l
   induction l with
   | nil=>intro A B h j;exact h j (by simp)
   | cons y r ih=>
    intro A B h j;rw[List.foldr_cons,List.foldr_cons,zD,zD]
    by_cases hj:j=rn ρ y.1
    ·rw[if_pos hj,if_pos hj]
    ·rw[if_neg hj,if_neg hj];have gen:∀ (q:List (Nat×Ob)) (A B:List (Nat×Ob)) (j:Nat),(∀ y∈q,rn ρ y.1≠j)->look (q.foldr (fun x l=>yD (rn ρ x.1) (x.2.ren ρ) l) A) j=look A j:=by
      intro q A B j hq
      induction q with
      | nil=>rfl
      | cons z t iht=>
       rw[List.foldr_cons,zD,if_neg (fun e=>hq z (by simp) e.symm)];exact iht fun y hy=>hq y (by simp[hy])
     by_cases hr:∀ z∈r,rn ρ z.1≠j
     ·rw[gen r A B j hr,gen r B A j hr];exact h j fun z hz=>by
       rcases List.mem_cons.1 hz with rfl | hz
       ·exact fun e=>hj e.symm
       ·exact hr z hz
     ·obtain⟨z,hz,hzj⟩:∃ z∈r,rn ρ z.1=j:=by
       refine Classical.byContradiction fun hc=>hr fun z hz e=>hc ⟨z,hz,e⟩
      have hin:∀ (q:List (Nat×Ob)) (A B:List (Nat×Ob)),z∈q->look (q.foldr (fun x l=>yD (rn ρ x.1) (x.2.ren ρ) l) A) j=look (q.foldr (fun x l=>yD (rn ρ x.1) (x.2.ren ρ) l) B) j:=by
       intro q A B hq
       induction q with
       | nil=>cases hq
       | cons y t iht=>
        rw[List.foldr_cons,List.foldr_cons,zD,zD]
        by_cases hy:j=rn ρ y.1
        ·rw[if_pos hy,if_pos hy]
        ·rw[if_neg hy,if_neg hy];refine iht ?_;rcases List.mem_cons.1 hq with rfl | h
         ·exact absurd hzj.symm hy
         ·exact h
      exact hin r A B hz
  rw[hF os' _ s'.objs (fun j hj=>?_) id]
  ·exact hlo
  ·have hdel:∀ (q:List (Nat×Ob)),(∀ y∈q,rn ρ y.1≠j)->look (q.foldr (fun x l=>vB (rn ρ x.1) l) s'.objs) j=look s'.objs j:=by
    intro q hq
    induction q with
    | nil=>rfl
    | cons z t iht=>
     rw[List.foldr_cons,yJ,if_neg (fun e=>hq z (by simp) e.symm)];exact iht fun y hy=>hq y (by simp[hy])
   refine hdel os fun y hy e=>?_
   rw[List.all_eq_true] at c3;have:=zS.1 (c3 y.1 (List.mem_map.2 ⟨y,hy,rfl⟩));rw[<- hks] at this;obtain⟨z,hz,hze⟩:=List.mem_map.1 this;exact hj z hz (by rw[hze];exact e)
end
section
variable{ctx:Ctx}{s:PState}
theorem Sub.nilCell{id j:Nat}{T:TypeId}{cs:List PV}(hl:look s.objs id=some (.cells T cs))(hj:cs[j]?=some (.d (.v (.slice none 0 0)))):Sub ctx s { s with objs:=yD id (.cells T (cs.set j (.d (.sl [])))) s.objs }:=by
 rintro a w ⟨g,h1⟩;refine⟨g,?_⟩;have hF:∀ b,zk ctx g s.objs b->zk ctx g (yD id (.cells T (cs.set j (.d (.sl [])))) s.objs) b:=fun b hb=>⟨hb.1,fun i o n ho hgi=>by
  rw[zD] at ho
  by_cases ei:i=id
  ·subst ei;exact hb.2 i _ n hl hgi
  ·rw[if_neg ei] at ho;exact hb.2 i o n ho hgi⟩
 have hst:yV w w (zk ctx g s.objs):=⟨Nat.le_refl _,fun _ _ _=>rfl⟩
 refine⟨h1.defers,h1.size,fun i p hp=>(h1.slots i p hp).keep hst (fun b hb _=>hF b hb) (fun _ _=>rfl),fun i o ho=>?_,fun i i2 o o2 b n m ho ho2 hgi hgi2=>?_,fun i o b n ho hgi=>?_,h1.os,h1.tape,h1.output,h1.grows,h1.keep⟩
 ·rw[zD] at ho
  by_cases ei:i=id
  ·subst ei;rw[if_pos rfl] at ho
   cases ho
   cases h1.objs i _ hl with
   | cells _ _ blk n us hgi hh hlen hr h1'=>
    refine .cells T _ blk n us hgi hh (by simpa using hlen) (fun q p u hp hu=>?_) h1';rw[List.getElem?_set] at hp
    split at hp
    ·rename_i e
     subst e
     split at hp
     ·simp only[Option.some.injEq] at hp;subst hp;have:=(hr j _ u hj hu).of_v;subst this;exact .d (.nil none 0 (Nat.zero_le _) (fun _=>rfl))
     ·cases hp
    ·exact(hr q p u hp hu).keep hst (fun b hb _=>hF b hb) (fun _ _=>rfl)
  ·rw[if_neg ei] at ho;exact(h1.objs i o ho).keep hst (fun b hb _=>hF b hb) (fun _ _ _=>rfl) rfl (fun _ _=>rfl)
 ·have lk:∀ {i:Nat} {o:Ob},look (yD id (.cells T (cs.set j (.d (.sl [])))) s.objs) i=some o->∃ o',look s.objs i=some o':=fun {i o} h=>by
   rw[zD] at h
   by_cases ei:i=id
   ·subst ei;exact⟨_,hl⟩
   ·rw[if_neg ei] at h;exact⟨_,h⟩
  obtain⟨_,h5⟩:=lk ho;obtain⟨_,h6⟩:=lk ho2;exact h1.inj i i2 _ _ b n m h5 h6 hgi hgi2
 ·rw[zD] at ho
  by_cases ei:i=id
  ·subst ei;exact h1.own i _ b n hl hgi
  ·rw[if_neg ei] at ho;exact h1.own i o b n ho hgi
end
end Go.Ep

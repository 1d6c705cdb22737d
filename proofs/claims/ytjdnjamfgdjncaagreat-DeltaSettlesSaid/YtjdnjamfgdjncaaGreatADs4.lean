/- Side texts. -/
import Derived.Test.YtjdnjamfgdjncaaGreatADs2
set_option linter.unusedVariables false
set_option linter.unusedSimpArgs false
namespace Go.Ep
open Go.RowKit
structure Ef where
 U:List (Nat×PV)
 V:List (Nat×Ob)
def PState.app(s:PState)(e:Ef):PState:={ n:=s.n,sl:=e.U++s.sl,objs:=e.V.foldr (fun x l=>yF x.1 x.2 l) s.objs }
structure Ft where
 ws:List Nat
 wo:List Nat:=[]
 ro:List Nat:=[]
 fr:List Nat:=[]
 al:List (Nat×List Nat):=[]
 nm:List Nat:=[]
 no:List Nat:=[]
 ao:List Nat:=[]
def inL(l:List Nat)(i:Nat):Bool:=l.any (Nat.beq i)
theorem zd{l:List Nat}{i:Nat}:inL l i=true↔i∈l:=by
 unfold inL;rw[List.any_eq_true];exact⟨fun⟨x,h1,h2⟩=>(Nat.eq_of_beq_eq_true h2)▸h1,fun h=>⟨i,h,Nat.beq_refl i⟩⟩
def PV.named(nm:List Nat):PV->Bool
 | .ref i _ | .row i _ | .rp i _ _ _ | .pc i _ _ _ | .mp i | .pa i _ _=>inL nm i
 | .agg cs=>namedL nm cs
 | .tup cs=>namedL nm cs
 | _=>true
where namedL (nm:List Nat):List PV->Bool
 | []=>true
 | c::r=>c.named nm&&namedL nm r
def Ob.named(nm:List Nat):Ob->Bool
 | .cells _ cs=>PV.named.namedL nm cs
 | .iterO mid _ _ _=>inL nm mid
 | .pin tgt _=>inL nm tgt
 | .mapP _ _ ov _ _=>match ov with | some (_,p)=>p.named nm | none=>true
 | _=>true
mutual
theorem PV.named_has{nm:List Nat}{id:Nat}:∀ {p:PV},p.named nm=true->p.has id=true->id∈nm
 | .ref i _,h,h2=>by simp only[PV.named,zd,PV.has,beq_iff_eq] at h h2;exact h2▸h
 | .row i _,h,h2=>by simp only[PV.named,zd,PV.has,beq_iff_eq] at h h2;exact h2▸h
 | .rp i _ _ _,h,h2=>by simp only[PV.named,zd,PV.has,beq_iff_eq] at h h2;exact h2▸h
 | .pc i _ _ _,h,h2=>by simp only[PV.named,zd,PV.has,beq_iff_eq] at h h2;exact h2▸h
 | .mp i,h,h2=>by simp only[PV.named,zd,PV.has,beq_iff_eq] at h h2;exact h2▸h
 | .pa i _ _,h,h2=>by simp only[PV.named,zd,PV.has,beq_iff_eq] at h h2;exact h2▸h
 | .agg cs,h,h2=>PV.namedL_has (cs:=cs) h h2
 | .tup cs,h,h2=>PV.namedL_has (cs:=cs) h h2
 | .junk,_,h2=>by simp[PV.has] at h2
 | .und,_,h2=>by simp[PV.has] at h2
 | .d _,_,h2=>by simp[PV.has] at h2
 | .ep _ _,_,h2=>by simp[PV.has] at h2
 | .md _ _ _,_,h2=>by simp[PV.has] at h2
 | .clo _ _,_,h2=>by simp[PV.has] at h2
theorem PV.namedL_has{nm:List Nat}{id:Nat}:∀ {cs:List PV},PV.named.namedL nm cs=true->PV.has.hasL id cs=true->id∈nm
 | [],_,h2=>by simp[PV.has.hasL] at h2
 | c::r,h,h2=>by
  simp only[PV.named.namedL,Bool.and_eq_true] at h;simp only[PV.has.hasL,Bool.or_eq_true] at h2;rcases h2 with h2 | h2
  ·exact PV.named_has h.1 h2
  ·exact PV.namedL_has h.2 h2
end
theorem Ob.named_has{nm:List Nat}{id:Nat}{o:Ob}(h:o.named nm=true)(h2:o.has id=true):id∈nm:=by
 cases o with
 | cells T cs=>exact PV.namedL_has h h2
 | iterO mid bs ck L=>simp only[Ob.named,zd,Ob.has,beq_iff_eq] at h h2;exact h2▸h
 | pin tgt x=>simp only[Ob.named,zd,Ob.has,beq_iff_eq] at h h2;exact h2▸h
 | mapP ks m ov bs ck=>
  cases ov with
  | none=>cases h2
  | some x=>exact PV.named_has h h2
 | _=>simp[Ob.has] at h2
section
variable{β:Type}
def QE : List (Option β)->(Nat->Bool)->Nat->Option β->Option β
 | [],_,_,c=>c
 | x::r,E,b,c=>QE r E (b+1) (bif E b then x.or c else c)
theorem Zk : ∀ {l:List (Option β)} {E E':Nat->Bool} {b:Nat} {c:Option β},(∀ j x,l[j]?=some (some x)->E (b+j)=E' (b+j))->QE l E b c=QE l E' b c
 | [],_,_,_,_,_=>rfl
 | x::r,E,E',b,c,h=>by
  unfold QE;have h1:(bif E b then x.or c else c)=(bif E' b then x.or c else c):=by
   cases x with
   | none=>cases E b <;> cases E' b <;> rfl
   | some x=>rw[show E b=E' b from h 0 x rfl]
  rw[h1];exact Zk fun j y hj=>by have:=h (j+1) y (by simpa using hj);rwa [show b+(j+1)=b+1+j by omega] at this
theorem WS : ∀ {l:List (Option β)} {E:Nat->Bool} {b:Nat} {c:Option β},(∀ j x,l[j]?=some (some x)->E (b+j)=false)->QE l E b c=c
 | [],_,_,_,_=>rfl
 | x::r,E,b,c,h=>by
  unfold QE;have h1:(bif E b then x.or c else c)=c:=by
   cases x with
   | none=>cases E b <;> rfl
   | some x=>rw[show E b=false from h 0 x rfl];rfl
  rw[h1];exact WS fun j y hj=>by have:=h (j+1) y (by simpa using hj);rwa [show b+(j+1)=b+1+j by omega] at this
theorem Ja : ∀ {l:List (Option β)} {E E':Nat->Bool} {b:Nat} {c:Option β} {i:Nat} {x:Option β},l[i]?=some x->E' (b+i)=true->(∀ j,j≠b+i->E' j=E j)->(x.isSome=true->∀ j y,i < j->l[j]?=some (some y)->E (b+j)=false)->E (b+i)=false->QE l E' b c=x.or (QE l E b c)
 | [],_,_,_,_,_,_,h,_,_,_,_=>by simp at h
 | z::r,E,E',b,c,0,x,h,h1,h2,h3,h4=>by
  simp at h;subst h;unfold QE;simp only[Nat.add_zero] at h1 h4;rw[h1,h4,cond_true,cond_false];have e:QE r E' (b+1) (z.or c)=QE r E (b+1) (z.or c):=Zk fun j y _=>h2 _ (by omega)
  rw[e]
  cases z with
  | none=>rfl
  | some z=>
   have h5:=h3 rfl;have h6:∀ c,QE r E (b+1) c=c:=fun c=>WS fun j y hj=>by
    have:=h5 (j+1) y (by omega) (by simpa using hj)
    rwa [show b+(j+1)=b+1+j by omega] at this
   rw[h6,h6]
 | z::r,E,E',b,c,i+1,x,h,h1,h2,h3,h4=>by
  simp at h;unfold QE;rw[h2 b (by omega)];refine Ja h (by rw[<- h1];congr 1;omega) (fun j hj=>h2 j (by omega)) (fun hx j y hij hj=>?_) (by rw[<- h4];congr 1;omega);have:=h3 hx (j+1) y (by omega) (by simpa using hj)
  rwa [show b+(j+1)=b+1+j by omega] at this
end
theorem WT : ∀ (U l:List (Nat×PV)) (t:Nat),vQ (U++l) t=(vQ U t).or (vQ l t)
 | [],l,t=>by simp[vQ]
 | (k,p)::r,l,t=>by
  rw[List.cons_append,yq,yq]
  split
  ·rfl
  ·exact WT r l t
theorem look_app(V l:List (Nat×Ob))(id:Nat):look (V.foldr (fun x l=>yF x.1 x.2 l) l) id=(look V id).or (look l id):=by
 induction V with
 | nil=>simp[look]
 | cons x r ih=>
  obtain⟨k,o⟩:=x;rw[List.foldr_cons,zD];simp only[look]
  by_cases h:id=k
  ·simp[h]
  ·simp only[h,if_false];exact ih
theorem WU{U:List (Nat×PV)}{t:Nat}:(vQ U t).isSome=true↔t∈U.map (·.1):=by
 induction U with
 | nil=>simp[vQ]
 | cons x r ih=>
  obtain⟨k,p⟩:=x;rw[yq]
  by_cases h:k=t
  ·simp[h]
  ·simp[h,ih,Ne.symm h]
theorem WV{V:List (Nat×Ob)}{t:Nat}:(look V t).isSome=true↔t∈V.map (·.1):=by
 induction V with
 | nil=>simp[look]
 | cons x r ih=>
  obtain⟨k,p⟩:=x;simp only[look]
  by_cases h:t=k
  ·simp[h]
  ·simp[h,ih]
theorem Vq{id k:Nat}{o ob:Ob}:∀ {l:List (Nat×Ob)},(k,o)∈yF id ob l->(k,o)=(id,ob)\/(k,o)∈l
 | [],h=>by simp[yF] at h;exact .inl (by simp[h])
 | (j,p)::r,h=>by
  unfold yF at h
  split at h
  ·rename_i e
   subst e;rcases List.mem_cons.1 h with e2 | h2
   ·exact .inl e2
   ·exact .inr (List.mem_cons_of_mem _ h2)
  ·split at h
   ·rcases List.mem_cons.1 h with e2 | h2
    ·exact .inl e2
    ·exact .inr h2
   ·rcases List.mem_cons.1 h with e2 | h2
    ·exact .inr (by rw[e2];simp)
    ·rcases Vq h2 with h3 | h3
     ·exact .inl h3
     ·exact .inr (List.mem_cons_of_mem _ h3)
theorem app_mem{V l:List (Nat×Ob)}{k:Nat}{o:Ob}(h:(k,o)∈V.foldr (fun x l=>yF x.1 x.2 l) l):(k,o)∈V\/(k,o)∈l:=by
 induction V with
 | nil=>exact .inr h
 | cons x r ih=>
  rw[List.foldr_cons] at h;rcases Vq h with h1 | h1
  ·exact .inl (by rw[h1];simp)
  ·rcases ih h1 with h2 | h2
   ·exact .inl (List.mem_cons_of_mem _ h2)
   ·exact .inr h2
def PState.aloneX(s:PState)(id:Nat)(ao:List Nat):Bool:=xKa id s.sl s.sl&&s.objs.all (fun x=>inL ao x.1||!x.2.has id)
theorem yla{s:PState}{id:Nat}(h:s.aloneX id []=true):s.alone id=true:=by
 unfold PState.aloneX at h;unfold PState.alone;simpa[inL] using h
section
variable(P:Program)(ctx:Ctx)
def FLocal(o:Oper)(s:PState)(f:Ft)(e:Ef):Prop:=
 ∀ s':PState,s'.n=s.n->(∀ {x q},xy o x=true->s.ev x=some q->s'.ev x=some q)->(∀ {id ob},id∈f.ro->look s.objs id=some ob->look s'.objs id=some ob)->(∀ id∈f.fr,s'.fresh id=true)->(∀ a∈f.al,(s'.junks a.2).aloneX a.1 f.ao=true)->Local P ctx o s' (s'.app e)
def Wd(ops:Array Oper)(o:Oper)(s:PState):Prop:=o.guard=none\/∃ j b d,o.guard=some (j,b)/\(ops[j]?).bind (·.dst)=some d/\s.at d=some (.d (.v (.bool b)))
def Sk(ops:Array Oper)(o:Oper)(s:PState):Prop:=(∃ j b c d,o.guard=some (j,b)/\(ops[j]?).bind (·.dst)=some d/\s.at d=some (.d (.v (.bool c)))/\c≠b)\/∃ j b d,o.guard=some (j,b)/\(ops[j]?).bind (·.dst)=some d/\s.at d=some .und
def okE(f:Ft)(e:Ef):Bool:=(e.U.map (·.1)).all (inL f.ws)&&(e.V.map (·.1)).all (inL f.wo)&&e.U.all (fun x=>x.2.named f.nm)&&e.V.all (fun x=>x.2.named f.no)
def undE(o:Oper):Ef:=⟨match o.dst with | some d=>[(d,.und)] | none=>[],[]⟩
inductive PQe (ops:Array Oper) (Q:PState->Prop):List Oper->List Ft->PState->Prop
 | fin {s t:PState} (h:Q t) (hs:Sub ctx s t):PQe ops Q [] [] s
 | step {s:PState} {o:Oper} {rest:List Oper} {f:Ft} {fs:List Ft} {e:Ef} (hl:FLocal P ctx o s f e) (hg:Wd ops o s) (hk:okE f e=true) (h:PQe ops Q rest fs (s.app e)):PQe ops Q (o::rest) (f::fs) s
 | skip {s:PState} {o:Oper} {rest:List Oper} {f:Ft} {fs:List Ft} (hg:Sk ops o s) (hk:okE f (undE o)=true) (h:PQe ops Q rest fs (s.app (undE o))):PQe ops Q (o::rest) (f::fs) s
def Does(ops:Array Oper)(o:Oper)(s:PState)(f:Ft)(e:Ef):Prop:=okE f e=true/\((FLocal P ctx o s f e/\Wd ops o s)\/(Sk ops o s/\e=undE o))
inductive Run (ops:Array Oper):List Oper->List Ft->PState->List Ef->PState->Prop
 | nil {s:PState}:Run ops [] [] s [] s
 | cons {o:Oper} {rest:List Oper} {f:Ft} {fs:List Ft} {s t:PState} {e:Ef} {es:List Ef} (y:Does P ctx ops o s f e) (h:Run ops rest fs (s.app e) es t):Run ops (o::rest) (f::fs) s (e::es) t
end
section
variable{P:Program}{ctx:Ctx}{ops:Array Oper}
theorem PQe.run{Q:PState->Prop}{l:List Oper}{fs:List Ft}{s:PState}(h:PQe P ctx ops Q l fs s):∃ es t,Run P ctx ops l fs s es t/\∃ u,Q u/\Sub ctx t u:=by
 induction h with
 | fin h hs=>exact⟨[],_,.nil,_,h,hs⟩
 | step hl hg hk _ ih=>obtain⟨es,t,h1,h2⟩:=ih;exact⟨_,t,.cons ⟨hk,.inl ⟨hl,hg⟩⟩ h1,h2⟩
 | skip hg hk _ ih=>obtain⟨es,t,h1,h2⟩:=ih;exact⟨_,t,.cons ⟨hk,.inr ⟨hg,rfl⟩⟩ h1,h2⟩
def UW(ops:List Oper):List (List Nat):=ops.foldl (fun acc o=>acc++[o.after.toList.foldl (fun l e=>bif Region.binds .any e then e.on::((acc[e.on]?).getD []++l) else l) []]) []
def Xw(a b:List Nat):Bool:=a.any (inL b)
def YS(f g:Ft)(rf rg:List Nat):Bool:=
 Xw f.ws g.ws||Xw f.ws rg||Xw rf g.ws||Xw f.wo g.wo||Xw f.wo g.ro||Xw f.ro g.wo ||
 Xw f.fr g.nm||Xw f.fr g.no||Xw f.fr g.wo||Xw f.fr g.fr||(f.al.any fun a=>inL g.nm a.1)||(g.al.any fun a=>inL f.nm a.1)||(f.al.any fun a=>inL g.no a.1)
def zFa(f g:Ft):Bool:=Xw g.fr f.nm||Xw g.fr f.no||Xw g.fr f.wo||(g.al.any fun a=>inL f.no a.1||(inL f.nm a.1&&!f.ws.all (inL a.2)))
def xu(ops:Array Oper)(i:Nat):List Nat:=match ops[i]? with | some o=>o.looksAt ops | none=>[]
def drawE(ops:Array Oper)(fs:List Ft):Bool:=
 let pr:=UW ops.toList
 Nat.beq fs.length ops.size &&
 ((List.range ops.size).all fun j=>match ops[j]?,fs[j]? with
  | some o,some g=>o.after.toList.all (fun e=>Nat.blt e.on j||!Region.binds .any e)&&g.fr.all (fun id=>!inL g.ro id)&&(List.range j).all fun i=>match fs[i]? with
    | some f=>!zFa f g&&(!YS f g (xu ops i) (xu ops j)||inL ((pr[j]?).getD []) i)
    | none=>false
  | _,_=>false)
def xja(s:PState)(fs:List Ft):Bool:=fs.all fun f=>f.fr.all (fun id=>s.sl.all (fun x=>!x.2.has id)&&s.objs.all (fun x=>x.1 != id&&!x.2.has id)) &&
 f.al.all fun a=>s.sl.all (fun x=>!x.2.has a.1||inL a.2 x.1)&&s.objs.all (fun x=>inL f.ao x.1||!x.2.has a.1)
end
end Go.Ep
namespace Go.Ep
open Go.RowKit
section
variable{P:Program}{ctx:Ctx}{ops:Array Oper}
theorem xZ{a b:List Nat}:Xw a b=true↔∃ x,x∈a/\x∈b:=by
 unfold Xw;rw[List.any_eq_true];simp only[zd]
structure DrawFacts(ops:Array Oper)(fs:List Ft):Prop where
 len:fs.length=ops.size
 edge:∀ {i:Nat} {o:Oper},ops[i]?=some o->∀ e:Edge,e∈o.after->Region.binds .any e=true->e.on < i
 fro:∀ {j:Nat} {g:Ft},fs[j]?=some g->∀ id∈g.fr,id∉g.ro
 pair:∀ {i j:Nat} {f g:Ft},i < j->fs[i]?=some f->fs[j]?=some g->zFa f g=false/\(YS f g (xu ops i) (xu ops j)=true->i∈((UW ops.toList)[j]?).getD [])
theorem zGa{fs:List Ft}(h:drawE ops fs=true):DrawFacts ops fs:=by
 unfold drawE at h;simp only[Bool.and_eq_true,List.all_eq_true,List.mem_range] at h;obtain⟨h0,h1⟩:=h;have hlen:=Nat.eq_of_beq_eq_true h0;refine⟨hlen,fun {i o} hi e he hbe=>?_,fun {j g} hj id hid=>?_,fun {i j f g} hij hi hj=>?_⟩
 ·have hlt:=(Array.getElem?_eq_some_iff.1 hi).1;have:=h1 i hlt;rw[hi,List.getElem?_eq_getElem (by omega:i < fs.length)] at this;simp only[Bool.and_eq_true,List.all_eq_true] at this;simpa[Nat.blt_eq,hbe] using this.1.1 e (by simpa using he)
 ·have hlt:j < ops.size:=by have:=(List.getElem?_eq_some_iff.1 hj).1;omega
  have:=h1 j hlt;rw[hj,Array.getElem?_eq_getElem hlt] at this;simp only[Bool.and_eq_true,List.all_eq_true] at this;have:=this.1.2 id hid;simp only[Bool.not_eq_true',<- Bool.not_eq_true,zd] at this;exact this
 ·have hlt:j < ops.size:=by have:=(List.getElem?_eq_some_iff.1 hj).1;omega
  have:=h1 j hlt;rw[hj,Array.getElem?_eq_getElem hlt] at this;simp only[Bool.and_eq_true,List.all_eq_true,List.mem_range] at this;have:=this.2 i hij;rw[hi] at this;simp only[Bool.and_eq_true,Bool.or_eq_true,Bool.not_eq_true',zd] at this;refine⟨this.1,fun hc=>?_⟩;rcases this.2 with h2 | h2
  ·rw[hc] at h2;cases h2
  ·exact h2
def DownC(ops:Array Oper)(E:Nat->Bool):Prop:=∀ j,E j=true->∀ k∈((UW ops.toList)[j]?).getD [],E k=true
def zya(acc:List (List Nat))(o:Oper):List (List Nat):=acc++[o.after.toList.foldl (fun l e=>bif Region.binds .any e then e.on::((acc[e.on]?).getD []++l) else l) []]
theorem xka(l:List Oper):∀ (acc:List (List Nat)) (j:Nat),j < acc.length->(l.foldl zya acc)[j]?=acc[j]?:=by
 induction l with
 | nil=>intro acc j _;rfl
 | cons o r ih=>
  intro acc j hj;rw[List.foldl_cons,ih _ _ (by simp[zya];omega)];unfold zya;rw[List.getElem?_append_left hj]
theorem xla{acc:List (List Nat)}(es:List Edge):∀ (l:List Nat) (k:Nat),k∈es.foldl (fun l e=>bif Region.binds .any e then e.on::((acc[e.on]?).getD []++l) else l) l->k∈l\/∃ e∈es,Region.binds .any e=true/\(k=e.on\/k∈(acc[e.on]?).getD []):=by
 induction es with
 | nil=>intro l k h;exact .inl h
 | cons e r ih=>
  intro l k h;rw[List.foldl_cons] at h;rcases ih _ k h with h1 | ⟨e',he',h1⟩
  ·cases hb:Region.binds .any e with
   | false=>rw[hb] at h1;exact .inl h1
   | true=>
    rw[hb] at h1;simp only[cond_true,List.mem_cons,List.mem_append] at h1;rcases h1 with h1 | h1 | h1
    ·exact .inr ⟨e,by simp,hb,.inl h1⟩
    ·exact .inr ⟨e,by simp,hb,.inr h1⟩
    ·exact .inl h1
  ·exact .inr ⟨e',List.mem_cons_of_mem _ he',h1⟩
theorem jo : ∀ (l:List Oper) (acc:List (List Nat)),(∀ i o,l[i]?=some o->∀ e∈o.after,Region.binds .any e=true->e.on < acc.length+i)->∀ i o,l[i]?=some o->∀ k∈((l.foldl zya acc)[acc.length+i]?).getD [],∃ e∈o.after,Region.binds .any e=true/\(k=e.on\/k∈((l.foldl zya acc)[e.on]?).getD [])
 | [],_,_,i,o,h,_,_=>by simp at h
 | o0::r,acc,hed,0,o,h,k,hk=>by
  simp at h;subst h;rw[Nat.add_zero,List.foldl_cons,xka _ _ _ (by simp[zya])] at hk;have e1:(zya acc o0)[acc.length]?=some (o0.after.toList.foldl (fun l e=>bif Region.binds .any e then e.on::((acc[e.on]?).getD []++l) else l) []):=by simp[zya]
  rw[e1] at hk;rcases xla _ _ k hk with h1 | ⟨e,he,hb,h1⟩
  ·cases h1
  ·refine⟨e,by simpa using he,hb,?_⟩;rcases h1 with h1 | h1
   ·exact .inl h1
   ·right
    have hlt:e.on < acc.length:=by have:=hed 0 o0 rfl e (by simpa using he) hb;simpa using this
    rw[List.foldl_cons,xka _ _ _ (by simp[zya];omega)];unfold zya;rw[List.getElem?_append_left hlt];exact h1
 | o0::r,acc,hed,i+1,o,h,k,hk=>by
  have hl:(zya acc o0).length=acc.length+1:=by simp[zya]
  have:=jo r (zya acc o0) (fun j o' hj e he hbe=>by have:=hed (j+1) o' (by simpa using hj) e he hbe;rw[hl];omega) i o (by simpa using h) k (by
   rw[hl,show acc.length+1+i=acc.length+(i+1) by omega];exact hk)
  exact this
theorem preds_ok{fs:List Ft}(F:DrawFacts ops fs){E:Nat->Bool}(h:DownC ops E){i:Nat}{o:Oper}(ho:ops[i]?=some o)(hr:∀ e∈o.after,Region.binds .any e=true->E e.on=true):∀ k∈((UW ops.toList)[i]?).getD [],E k=true:=by
 intro k hk;have hf:UW ops.toList=ops.toList.foldl zya []:=rfl;rw[hf] at hk;obtain⟨e,he,hb,h1⟩:=jo ops.toList [] (fun i o hi e he hbe=>by have:=F.edge (i:=i) (o:=o) (by simpa using hi) e he hbe;simpa using this) i o (by simpa using ho) k (by rw[List.length_nil,Nat.zero_add];exact hk);rcases h1 with rfl | h1
 ·exact hr e he hb
 ·exact h e.on (hr e he hb) k h1
theorem WW{l:List Nat}{i:Nat}:inL l i=false↔i∉l:=by rw[<- Bool.not_eq_true,zd]
theorem Jb{id:Nat}{full:List (Nat×PV)}:∀ {l:List (Nat×PV)},(∀ x∈l,x.2.has id=true->∀ q,vQ full x.1=some q->q.has id=false)->xKa id full l=true
 | [],_=>rfl
 | (k,p)::r,h=>by
  unfold xKa;have ih:=Jb (l:=r) (full:=full) (id:=id) fun x hx=>h x (List.mem_cons_of_mem _ hx)
  cases hb:p.has id with
  | false=>exact ih
  | true=>
   rw[cond_true,ih,Bool.and_true]
   cases hg:vQ full k with
   | none=>rfl
   | some q=>simp[h (k,p) (by simp) hb q hg]
theorem QF(js:List Nat):∀ (s:PState) (x:Nat×PV),x∈(s.junks js).sl->x.2=.junk\/x∈s.sl:=by
 induction js with
 | nil=>intro s x h;exact .inr h
 | cons d r ih=>
  intro s x h;rcases ih _ x h with h1 | h1
  ·exact .inl h1
  ·rcases List.mem_cons.1 h1 with h2 | h2
   ·exact .inl (by rw[h2])
   ·exact .inr h2
theorem xma(js:List Nat):∀ (s:PState) (t:Nat),(t∈js->vQ (s.junks js).sl t=some PV.junk)/\(vQ s.sl t=some PV.junk->vQ (s.junks js).sl t=some PV.junk):=by
 induction js with
 | nil=>intro s t;exact⟨fun h=>absurd h List.not_mem_nil,fun h=>h⟩
 | cons d r ih=>
  intro s t;have h2:vQ s.sl t=some .junk->vQ (s.put d .junk).sl t=some .junk:=fun h=>by
   rw[PState.put,yq];split
   ·rfl
   ·exact h
  refine⟨fun h=>?_,fun h=>(ih _ t).2 (h2 h)⟩;rcases List.mem_cons.1 h with rfl | h
  ·exact(ih _ t).2 (by rw[PState.put,yq,if_pos rfl])
  ·exact(ih _ t).1 h
theorem alone_of{s:PState}{id:Nat}{js ao:List Nat}(h1:∀ x∈s.sl,x.2.has id=true->x.1∈js)(h2:∀ x∈s.objs,inL ao x.1=true\/x.2.has id=false):(s.junks js).aloneX id ao=true:=by
 unfold PState.aloneX;rw[Bool.and_eq_true];refine⟨Jb fun x hx hh q hq=>?_,List.all_eq_true.2 fun x hx=>?_⟩
 ·rcases QF js s x hx with h | h
  ·rw[h] at hh;simp[PV.has] at hh
  ·rw[(xma js s x.1).1 (h1 x h hh)] at hq
   cases hq
   rfl
 ·rw[yW] at hx;rcases h2 x hx with h | h <;> simp[h]
theorem fresh_of{s:PState}{id:Nat}(h1:∀ x∈s.sl,x.2.has id=false)(h2:∀ x∈s.objs,x.1≠id/\x.2.has id=false):s.fresh id=true:=by
 unfold PState.fresh;rw[Bool.and_eq_true];refine⟨Jb fun x hx hh=>?_,List.all_eq_true.2 fun x hx=>?_⟩
 ·rw[h1 x hx] at hh;cases hh
 ·simp[h2 x hx]
structure InvE(s0:PState)(es:List Ef)(E:Nat->Bool)(s:PState):Prop where
 n:s.n=s0.n
 sl:∀ t,vQ s.sl t=QE (es.map fun e=>vQ e.U t) E 0 (vQ s0.sl t)
 ob:∀ id,look s.objs id=QE (es.map fun e=>look e.V id) E 0 (look s0.objs id)
 ms:∀ x∈s.sl,x∈s0.sl\/∃ j e,E j=true/\es[j]?=some e/\x∈e.U
 mo:∀ x∈s.objs,x∈s0.objs\/∃ j e,E j=true/\es[j]?=some e/\x∈e.V
theorem InvE.zero{s0:PState}{es:List Ef}{E:Nat->Bool}(h:∀ j,E j=false):InvE s0 es E s0:=
 ⟨rfl,fun _=>(WS fun _ _ _=>h _).symm,fun _=>(WS fun _ _ _=>h _).symm,fun _ h=>.inl h,fun _ h=>.inl h⟩
theorem InvE.step{s0 s:PState}{es:List Ef}{E E':Nat->Bool}(h:InvE s0 es E s){i:Nat}{e:Ef}(hi:es[i]?=some e)(h0:E i=false)(h1:E' i=true)(hE:∀ j,j≠i->E' j=E j)
  (hU:∀ j e',i < j->es[j]?=some e'->E j=true->∀ t,t∈e.U.map (·.1)->t∉e'.U.map (·.1)) (hV:∀ j e',i < j->es[j]?=some e'->E j=true->∀ t,t∈e.V.map (·.1)->t∉e'.V.map (·.1)):InvE s0 es E' (s.app e):=by
 have hlt:∀ j,E j=true->j≠i:=fun j hj e=>by rw[e,h0] at hj;cases hj
 refine⟨h.n,fun t=>?_,fun id=>?_,fun x hx=>?_,fun x hx=>?_⟩
 ·show vQ (e.U++s.sl) t=_;rw[WT,h.sl];refine(Ja (i:=i) (by simp[hi]) (by simpa using h1) (fun j hj=>hE j (by simpa using hj)) (fun hx j y hij hj=>?_) (by simpa using h0)).symm;rw[Nat.zero_add]
  cases hb:E j with
  | false=>rfl
  | true=>
   rw[List.getElem?_map] at hj
   cases he:es[j]? with
   | none=>rw[he] at hj;cases hj
   | some e'=>
    rw[he] at hj;simp only[Option.map_some,Option.some.injEq] at hj;exact absurd (WU.1 (by rw[hj];rfl)) (hU j e' hij he hb t (WU.1 hx))
 ·show look (e.V.foldr _ s.objs) id=_;rw[look_app,h.ob];refine(Ja (i:=i) (by simp[hi]) (by simpa using h1) (fun j hj=>hE j (by simpa using hj)) (fun hx j y hij hj=>?_) (by simpa using h0)).symm;rw[Nat.zero_add]
  cases hb:E j with
  | false=>rfl
  | true=>
   rw[List.getElem?_map] at hj
   cases he:es[j]? with
   | none=>rw[he] at hj;cases hj
   | some e'=>
    rw[he] at hj;simp only[Option.map_some,Option.some.injEq] at hj;exact absurd (WV.1 (by rw[hj];rfl)) (hV j e' hij he hb id (WV.1 hx))
 ·rcases List.mem_append.1 hx with hx | hx
  ·exact .inr ⟨i,e,h1,hi,hx⟩
  ·rcases h.ms x hx with h2 | ⟨j,e',a,b,c⟩
   ·exact .inl h2
   ·exact .inr ⟨j,e',by rw[hE j (hlt j a)];exact a,b,c⟩
 ·rcases app_mem (k:=x.1) (o:=x.2) hx with hx | hx
  ·exact .inr ⟨i,e,h1,hi,hx⟩
  ·rcases h.mo x hx with h2 | ⟨j,e',a,b,c⟩
   ·exact .inl h2
   ·exact .inr ⟨j,e',by rw[hE j (hlt j a)];exact a,b,c⟩
theorem Does.run{o:Oper}{s s':PState}{f:Ft}{e:Ef}(y:Does P ctx ops o s f e)(hn:s'.n=s.n)(hl:∀ t,t∈o.looksAt ops->vQ s'.sl t=vQ s.sl t)(ho:∀ id∈f.ro,look s'.objs id=look s.objs id)
  (hf:∀ id∈f.fr,s'.fresh id=true) (ha:∀ a∈f.al,(s'.junks a.2).aloneX a.1 f.ao=true) {i:Nat} (hi:ops[i]?=some o) {a:Act} {w:World} (hr:Rel ctx s' a w) {K:Act->World->Prop} {Qx:Exit->Act->World->Prop}
  (hK:∀ a' w',Rel ctx (s'.app e) a' w'->K a' w'):wpOp P ops Qx i K a w:=by
 have hat:∀ t,t∈o.looksAt ops->s'.at t=s.at t:=fun t ht=>by rw[YZ,YZ,hn,hl t ht]
 have hund:s'.app (undE o)=s'.putD o.dst .und:=by unfold undE;cases o.dst <;> rfl
 unfold wpOp;simp only[hi];rcases y.2 with⟨hd,hg⟩ | ⟨hg,rfl⟩
 ·have hloc:Local P ctx o s' (s'.app e):=by
   refine hd s' hn (fun {x q} hx hq=>?_) (fun {id ob} hid h=>by rw[ho id hid];exact h) hf ha
   cases x with
   | tmp t=>
    show s'.at t=some q;rw[hat t ?_]
    ·exact hq
    ·simp only[xy,List.any_eq_true] at hx;obtain⟨x,hx1,hx2⟩:=hx;unfold Oper.looksAt;refine List.mem_append_left _ (List.mem_filterMap.2 ⟨x,hx1,?_⟩)
     cases x with
     | tmp u=>simp only at hx2;rw[Nat.eq_of_beq_eq_true hx2]
     | _=>simp at hx2
   | const v=>cases v <;> exact hq
   | func f=>exact hq
   | global g=>exact hq
  have hw:Region.wanted o (yielded ops a.tmps)=true:=by
   rcases hg with hg | ⟨j,b,d,hg,hd2,hs⟩
   ·simp[Region.wanted,hg]
   ·obtain⟨g,hrg⟩:=hr;have hs':s'.at d=some (.d (.v (.bool b))):=by
     rw[hat d (by unfold Oper.looksAt;rw[hg];refine List.mem_append_right _ ?_;simp[hd2])];exact hs
    simp[Region.wanted,hg,uZ hrg hd2 hs']
  rw[if_pos hw];exact .inl (hloc a w hr K Qx hK)
 ·rw[hund] at hK;obtain⟨g,hrg⟩:=hr;rcases hg with⟨j,b,c,d,hg,hd,hs,hbc⟩ | ⟨j,b,d,hg,hd,hs⟩
  ·have hs':s'.at d=some (.d (.v (.bool c))):=by
    rw[hat d (by unfold Oper.looksAt;rw[hg];refine List.mem_append_right _ ?_;simp[hd])];exact hs
   have hw:Region.wanted o (yielded ops a.tmps)=false:=by simp[Region.wanted,hg,uZ hrg hd hs',hbc]
   rw[hw];exact hK _ _ ⟨g,hrg.put o.dst Rd.und⟩
  ·have hs':s'.at d=some .und:=by
    rw[hat d (by unfold Oper.looksAt;rw[hg];refine List.mem_append_right _ ?_;simp[hd])];exact hs
   have hw:Region.wanted o (yielded ops a.tmps)=false:=by simp[Region.wanted,hg,Xq hrg hd hs']
   rw[hw];exact hK _ _ ⟨g,hrg.put o.dst Rd.und⟩
theorem Run.lens{l:List Oper}{fs:List Ft}{s t:PState}{es:List Ef}(h:Run P ctx ops l fs s es t):es.length=l.length/\fs.length=l.length:=by
 induction h with
 | nil=>exact⟨rfl,rfl⟩
 | cons _ _ ih=>exact⟨by simp[ih.1],by simp[ih.2]⟩
theorem Run.at_ : ∀ {rest:List Oper} {fs:List Ft} {s t s0:PState} {es pre all:List Ef} {b:Nat},Run P ctx ops rest fs s es t->all=pre++es->pre.length=b->InvE s0 all (fun j=>decide (j < b)) s ->
  (∀ (i:Nat) (o:Oper) (f:Ft),rest[i]?=some o->fs[i]?=some f->∃ S e,all[b+i]?=some e/\InvE s0 all (fun j=>decide (j < b+i)) S/\Does P ctx ops o S f e)/\InvE s0 all (fun j=>decide (j < b+rest.length)) t:=by
 intro rest
 induction rest with
 | nil=>
  intro fs s t s0 es pre all b h _ _ hh
  cases h
  exact⟨by simp,by simpa using hh⟩
 | cons o rest ih=>
  intro fs s t s0 es pre all b h hall hb hh
  cases h with
  | @cons _ _ f fs _ _ e es y h=>
   have he:all[b]?=some e:=by subst hall;subst hb;simp
   have hst:InvE s0 all (fun j=>decide (j < b+1)) (s.app e):=hh.step he (by simp) (by simp) (fun j hj=>by
    have:(j < b+1)=(j < b):=by apply propext;omega
    simp only[this]) (fun j _ hj _ hE=>by simp at hE;omega) (fun j _ hj _ hE=>by simp at hE;omega)
   obtain⟨h1,h2⟩:=ih (b:=b+1) (pre:=pre++[e]) h (by simp[hall]) (by simp[hb]) hst;refine⟨fun i o' f' ho hf=>?_,by rw[List.length_cons,show b+(rest.length+1)=b+1+rest.length by omega];exact h2⟩
   cases i with
   | zero=>simp at ho hf;subst ho;subst hf;exact⟨s,e,he,hh,y⟩
   | succ i=>
    simp at ho hf;obtain⟨S,q,e1,e2,e3⟩:=h1 i o' f' ho hf;exact⟨S,q,by rw[<- e1];congr 1;omega,by rw[show b+(i+1)=b+1+i by omega];exact e2,e3⟩
theorem DrawFacts.ahead{fs:List Ft}(F:DrawFacts ops fs){E:Nat->Bool}(h:DownC ops E){i j:Nat}{f g:Ft}(hij:i < j)(hi:fs[i]?=some f)(hj:fs[j]?=some g)(hc:YS f g (xu ops i) (xu ops j)=true)(hE:E j=true):E i=true:=
 h j hE i ((F.pair hij hi hj).2 hc)
theorem yma{s0 S:PState}{fs:List Ft}{es:List Ef}{Qx:Exit->Act->World->Prop}(F:DrawFacts ops fs)(hS0:xja s0 fs=true)(hlen:es.length=ops.size)
  (hY:∀ (i:Nat) (o:Oper) (f:Ft),ops[i]?=some o->fs[i]?=some f->∃ T e,es[i]?=some e/\InvE s0 es (fun j=>decide (j < i)) T/\Does P ctx ops o T f e) (hS:InvE s0 es (fun j=>decide (j < ops.size)) S)
  (hQ:∀ a w,Rel ctx S a w->Qx .normal a w):∀ (fuel:Nat) (listed:Array Bool) (s:PState) (a:Act) (w:World),listed.size=ops.size->listed.toList.count false<=fuel->InvE s0 es (fun j=>listed.getD j false) s->DownC ops (fun j=>listed.getD j false)->Rel ctx s a w ->
   wpAny P .any ops Qx fuel listed a w:=by
 have hfs:∀ i,i < ops.size->∃ f,fs[i]?=some f:=fun i hi=>⟨fs[i]'(by rw[F.len];exact hi),List.getElem?_eq_getElem _⟩
 have hok:∀ {i:Nat} {e:Ef},es[i]?=some e->∃ f,fs[i]?=some f/\okE f e=true:=fun {i e} he=>by
  have hi:i < ops.size:=by rw[<- hlen];exact(List.getElem?_eq_some_iff.1 he).1
  obtain⟨f,hf⟩:=hfs i hi;obtain⟨T,e',h1,_,h2⟩:=hY i ops[i] f (Array.getElem?_eq_getElem hi) hf;rw[he] at h1
  cases h1
  exact⟨f,hf,h2.1⟩
 have okU:∀ {f:Ft} {e:Ef},okE f e=true->(∀ t,t∈e.U.map (·.1)->t∈f.ws)/\(∀ t,t∈e.V.map (·.1)->t∈f.wo)/\(∀ x∈e.U,x.2.named f.nm=true)/\(∀ x∈e.V,x.2.named f.no=true):=fun {f e} h=>by
  simp only[okE,Bool.and_eq_true,List.all_eq_true] at h;exact⟨fun t ht=>zd.1 (h.1.1.1 t ht),fun t ht=>zd.1 (h.1.1.2 t ht),h.1.2,h.2⟩
 have hall:∀ listed:Array Bool,listed.size=ops.size->Region.ready .any ops listed=[]->∀ i,i < ops.size->listed.getD i false=true:=by
  intro listed hsz hr i
  induction i using Nat.strongRecOn with
  | _ i ih=>
   intro hi
   cases hb:listed.getD i false with
   | true=>rfl
   | false=>
    have hlt:i < listed.size:=by omega
    have hmem:i∈Region.ready .any ops listed:=by
     refine Za.2 ⟨hi,?_,ops[i],Array.getElem?_eq_getElem hi,fun e he hbe=>?_⟩
     ·simp[Array.getD,hlt] at hb ⊢;exact hb
     ·have:=F.edge (Array.getElem?_eq_getElem hi) e he hbe;exact ih e.on this (by omega)
    rw[hr] at hmem
    cases hmem
 have hfin:∀ (listed:Array Bool) (s:PState) (a:Act) (w:World),listed.size=ops.size->InvE s0 es (fun j=>listed.getD j false) s->Rel ctx s a w->Region.ready .any ops listed=[]->Qx .normal a w:=by
  intro listed s a w hsz hh hr hrdy;have ha:=hall listed hsz hrdy;have hlt:∀ {β:Type} {g:Ef->Option β} {k:Nat} {x:β},(es.map g)[k]?=some (some x)->k < ops.size:=fun {β g k x} hk=>by
   have:=(List.getElem?_eq_some_iff.1 hk).1;rw[List.length_map] at this;omega
  refine hQ a w (Sub.drop (s:=s) (t:=S) (by rw[hh.n,hS.n]) (fun i p hp=>?_) (fun id o ho=>?_) a w hr)
  ·rw[YZ] at hp ⊢;rw[hh.n,<- hS.n,hh.sl];rw[hS.sl] at hp;rw[<- hp]
   split
   ·exact Zk fun j x hj=>by have:=hlt hj;simp only[Nat.zero_add,ha j this,this,decide_true]
   ·rfl
  ·rw[hh.ob];rw[hS.ob] at ho;rw[<- ho];exact Zk fun j x hj=>by have:=hlt hj;simp only[Nat.zero_add,ha j this,this,decide_true]
 intro fuel
 induction fuel with
 | zero=>
  intro listed s a w hsz hc hh _ hr;have hrdy:Region.ready .any ops listed=[]:=by
   apply List.eq_nil_iff_forall_not_mem.2;intro i hi;obtain⟨h1,h2,_⟩:=Za.1 hi;have hlt:i < listed.size:=by omega
   have hm:false∈listed.toList:=by
    simp[Array.getD,hlt] at h2;rw[<- h2];simp
   have:=List.count_pos_iff.2 hm;omega
  exact⟨hrdy,hfin listed s a w hsz hh hr hrdy⟩
 | succ fuel ih=>
  intro listed s a w hsz hc hh hdn hr;refine⟨hfin listed s a w hsz hh hr,fun i hi=>?_⟩;obtain⟨h1,h2,o,ho,he⟩:=Za.1 hi;have hlt:i < listed.size:=by omega
  have hli:listed[i]=false:=by simpa[Array.getD,hlt] using h2
  have hi0:listed.getD i false=false:=by simp[Array.getD,hlt,hli]
  have hpr:=preds_ok F hdn ho he;obtain⟨f,hf⟩:=hfs i h1;obtain⟨T,e,hee,hT,y⟩:=hY i o f ho hf;have hre:xu ops i=o.looksAt ops:=by simp[xu,ho]
  -- how another operation stands to this one
  have hbef:∀ {j:Nat} {g:Ft},j < i->fs[j]?=some g->YS g f (xu ops j) (xu ops i)=true->listed.getD j false=true:=fun {j g} hji hg hcl=>hpr j ((F.pair hji hg hf).2 hcl)
  have haft:∀ {j:Nat} {g:Ft},i < j->fs[j]?=some g->YS f g (xu ops i) (xu ops j)=true->listed.getD j false=false:=fun {j g} hij hg hcl=>by
   cases hb:listed.getD j false with
   | false=>rfl
   | true=>have:=F.ahead hdn hij hf hg hcl hb;rw[hi0] at this;cases this
  have same:∀ {β:Type} (wr:Ef->Option β) (c:Option β),(∀ j e' g,j < i->es[j]?=some e'->(wr e').isSome=true->fs[j]?=some g->okE g e'=true->YS g f (xu ops j) (xu ops i)=true) ->
    (∀ j e' g,i < j->es[j]?=some e'->(wr e').isSome=true->fs[j]?=some g->okE g e'=true->YS f g (xu ops i) (xu ops j)=true) ->
    QE (es.map wr) (fun j=>listed.getD j false) 0 c=QE (es.map wr) (fun j=>decide (j < i)) 0 c:=fun {β} wr c hb ha=>by
   refine Zk fun j x hj=>?_
   rw[List.getElem?_map] at hj
   cases hej:es[j]? with
   | none=>rw[hej] at hj;cases hj
   | some e'=>
    rw[hej] at hj;simp only[Option.map_some,Option.some.injEq] at hj;obtain⟨g,hg,hk⟩:=hok hej;simp only[Nat.zero_add];rcases Nat.lt_trichotomy j i with hji | hji | hji
    ·rw[hbef hji hg (hb j e' g hji hej (by rw[hj];rfl) hg hk)];simp[hji]
    ·subst hji;rw[hi0];simp
    ·rw[haft hji hg (ha j e' g hji hej (by rw[hj];rfl) hg hk)];simp;omega
  have nm1:∀ {id j:Nat} {e':Ef} {g:Ft} {x:Nat×PV},fs[j]?=some g->okE g e'=true->x∈e'.U->x.2.has id=true->id∈g.nm:=fun {id j e' g x} _ hk hx hh=>PV.named_has ((okU hk).2.2.1 x hx) hh
  have nm2:∀ {id j:Nat} {e':Ef} {g:Ft} {x:Nat×Ob},fs[j]?=some g->okE g e'=true->x∈e'.V->x.2.has id=true->id∈g.no:=fun {id j e' g x} _ hk hx hh=>Ob.named_has ((okU hk).2.2.2 x hx) hh
  simp only[xja,List.all_eq_true,Bool.and_eq_true,Bool.or_eq_true,Bool.not_eq_true',bne_iff_ne,ne_eq,zd] at hS0;have hSf:=hS0 f (List.mem_of_getElem? hf);refine y.run (hh.n.trans hT.n.symm) (fun t ht=>?_) (fun id hid=>?_) (fun id hid=>?_) (fun al hal=>?_) ho hr fun a' w' hr'=>?_
  ·rw[hh.sl,hT.sl];rw[<- hre] at ht;exact same (fun e=>vQ e.U t) _ (fun j e' g _ _ hw _ hk=>by
    have:=xZ.2 ⟨t,(okU hk).1 t (WU.1 hw),ht⟩;simp[YS,this]) (fun j e' g _ _ hw _ hk=>by
    have:=xZ.2 ⟨t,ht,(okU hk).1 t (WU.1 hw)⟩;simp[YS,this])
  ·rw[hh.ob,hT.ob];exact same (fun e=>look e.V id) _ (fun j e' g _ _ hw _ hk=>by
    have:=xZ.2 ⟨id,(okU hk).2.1 id (WV.1 hw),hid⟩;simp[YS,this]) (fun j e' g _ _ hw _ hk=>by
    have:=xZ.2 ⟨id,hid,(okU hk).2.1 id (WV.1 hw)⟩;simp[YS,this])
  ·refine fresh_of (fun x hx=>?_) (fun x hx=>?_)
   ·rcases hh.ms x hx with h3 | ⟨j,e',hEj,hej,hxe⟩
    ·exact(hSf.1 id hid).1 x h3
    ·cases hb:x.2.has id with
     | false=>rfl
     | true=>
      exfalso;obtain⟨g,hg,hk⟩:=hok hej;have hn:=nm1 hg hk hxe hb;rcases Nat.lt_trichotomy j i with hji | hji | hji
      ·have:=(F.pair hji hg hf).1;simp[zFa,xZ.2 ⟨id,hid,hn⟩] at this
      ·subst hji;rw[hi0] at hEj;cases hEj
      ·rw[haft hji hg (by simp[YS,xZ.2 ⟨id,hid,hn⟩])] at hEj;cases hEj
   ·rcases hh.mo x hx with h3 | ⟨j,e',hEj,hej,hxe⟩
    ·exact(hSf.1 id hid).2 x h3
    ·obtain⟨g,hg,hk⟩:=hok hej
     constructor
     ·intro hid2;have hn:id∈g.wo:=(okU hk).2.1 id (List.mem_map.2 ⟨x,hxe,hid2⟩);rcases Nat.lt_trichotomy j i with hji | hji | hji
      ·have:=(F.pair hji hg hf).1;simp[zFa,xZ.2 ⟨id,hid,hn⟩] at this
      ·subst hji;rw[hi0] at hEj;cases hEj
      ·rw[haft hji hg (by simp[YS,xZ.2 ⟨id,hid,hn⟩])] at hEj;cases hEj
     ·cases hb:x.2.has id with
      | false=>rfl
      | true=>
       exfalso;have hn:=nm2 hg hk hxe hb;rcases Nat.lt_trichotomy j i with hji | hji | hji
       ·have:=(F.pair hji hg hf).1;simp[zFa,xZ.2 ⟨id,hid,hn⟩] at this
       ·subst hji;rw[hi0] at hEj;cases hEj
       ·rw[haft hji hg (by simp[YS,xZ.2 ⟨id,hid,hn⟩])] at hEj;cases hEj
  ·refine alone_of (fun x hx hb=>?_) (fun x hx=>?_)
   ·rcases hh.ms x hx with h3 | ⟨j,e',hEj,hej,hxe⟩
    ·rcases(hSf.2 al hal).1 x h3 with h4 | h4
     ·rw[hb] at h4;cases h4
     ·exact h4
    ·obtain⟨g,hg,hk⟩:=hok hej;have hn:=nm1 hg hk hxe hb;rcases Nat.lt_trichotomy j i with hji | hji | hji
     ·have:=(F.pair hji hg hf).1;simp only[zFa,Bool.or_eq_false_iff,List.any_eq_false] at this;have h5:=this.2 al hal;simp only[Bool.or_eq_true,Bool.and_eq_true,zd,Bool.not_eq_true',not_or,not_and,Bool.not_eq_false,List.all_eq_true] at h5;exact h5.2 hn _ ((okU hk).1 _ (List.mem_map.2 ⟨x,hxe,rfl⟩))
     ·subst hji;rw[hi0] at hEj;cases hEj
     ·have h6:(f.al.any fun a=>inL g.nm a.1)=true:=List.any_eq_true.2 ⟨al,hal,zd.2 hn⟩;rw[haft hji hg (by simp only[YS,h6,Bool.or_true,Bool.true_or])] at hEj;cases hEj
   ·rcases hh.mo x hx with h3 | ⟨j,e',hEj,hej,hxe⟩
    ·rcases(hSf.2 al hal).2 x h3 with h4 | h4
     ·exact .inl (zd.2 h4)
     ·exact .inr h4
    ·right
     cases hb:x.2.has al.1 with
     | false=>rfl
     | true=>
      exfalso;obtain⟨g,hg,hk⟩:=hok hej;have hn:=nm2 hg hk hxe hb;rcases Nat.lt_trichotomy j i with hji | hji | hji
      ·have:=(F.pair hji hg hf).1;simp only[zFa,Bool.or_eq_false_iff,List.any_eq_false] at this;have h5:=this.2 al hal;simp only[Bool.or_eq_true,zd,not_or] at h5;exact h5.1 hn
      ·subst hji;rw[hi0] at hEj;cases hEj
      ·have h6:(f.al.any fun a=>inL g.no a.1)=true:=List.any_eq_true.2 ⟨al,hal,zd.2 hn⟩;rw[haft hji hg (by simp only[YS,h6,Bool.or_true])] at hEj;cases hEj
  ·have hgt:∀ j,j≠i->(listed.setIfInBounds i true).getD j false=listed.getD j false:=fun j hj=>by
    simp[Array.getD_eq_getD_getElem?,Ne.symm hj]
   have hgi:(listed.setIfInBounds i true).getD i false=true:=by simp[Array.getD,hlt]
   refine ih _ _ a' w' (by simpa using hsz) ?_ (hh.step hee hi0 hgi hgt (fun j e' hij hej hEj t ht ht2=>?_) (fun j e' hij hej hEj t ht ht2=>?_)) (fun j hj k hk=>?_) hr'
   ·have:=qw (l:=listed.toList) (i:=i) (by simp[hlt,hli]);simp only[Array.toList_setIfInBounds];omega
   ·obtain⟨g,hg,hk⟩:=hok hej;rw[haft hij hg (by simp[YS,xZ.2 ⟨t,(okU y.1).1 t ht,(okU hk).1 t ht2⟩])] at hEj;cases hEj
   ·obtain⟨g,hg,hk⟩:=hok hej;rw[haft hij hg (by simp[YS,xZ.2 ⟨t,(okU y.1).2.1 t ht,(okU hk).2.1 t ht2⟩])] at hEj;cases hEj
   ·by_cases hki:k=i
    ·subst hki;exact hgi
    ·show(listed.setIfInBounds i true).getD k false=true;rw[hgt k hki]
     by_cases hji:j=i
     ·subst hji;exact hpr k hk
     ·exact hdn j (show listed.getD j false=true by rw[<- hgt j hji];exact hj) k hk
theorem PWc.regionE{Q:PQ}{s:PState}{id:Nat}{l:List Oper}(fs:List Ft)(hm:P.follows .mixedOrders=true)(hB:drawE l.toArray fs=true)(hS:xja s fs=true)(h:PQe P ctx l.toArray (Q .normal) l fs s):PWc P ctx (.region id l.toArray true) Q s:=by
 intro a w ⟨g,hr⟩;obtain⟨es,t,hrun,u,hu,hsub⟩:=h.run;have F:=zGa hB;have h0:InvE s es (fun j=>decide (j < 0)) s:=InvE.zero fun j=>by simp
 obtain⟨h1,h2⟩:=hrun.at_ (all:=es) (pre:=[]) (b:=0) (s0:=s) rfl rfl h0;refine wp_region_any hm ?_;refine yma (es:=es) (s0:=s) (S:=t) F hS (by simpa using hrun.lens.1) (fun i o f ho hf=>?_) (by simpa using h2) (fun a w hr=>⟨u,hu,hsub a w hr⟩) _ _ s a _ (by simp) ?_ ?_ ?_ ⟨g,hr.below (Below.refl _ w).drew⟩
 ·obtain⟨S,e,e1,e2,e3⟩:=h1 i o f (by simpa using ho) hf;exact⟨S,e,by simpa using e1,by simpa using e2,e3⟩
 ·simp
 ·exact InvE.zero fun j=>by simp[Array.getD]
 ·intro j hj;simp[Array.getD] at hj
end
end Go.Ep
namespace Go.Ep
open Go.RowKit
section
variable{P:Program}{ctx:Ctx}{ops:Array Oper}{Q:PState->Prop}
def Vr(d:Option Nat)(p:PV):List (Nat×PV):=match d with | some d=>[(d,p)] | none=>[]
theorem app_P(s:PState)(d:Option Nat)(p:PV):s.app ⟨Vr d p,[]⟩=s.putD d p:=by cases d <;> rfl
theorem app_SD(s:PState)(d:Option Nat)(p:PV)(id:Nat)(ob:Ob):s.app ⟨Vr d p,[(id,ob)]⟩=(s.setO id ob).putD d p:=by cases d <;> rfl
theorem wI(js:List Nat):∀ s:PState,(s.junks js).sl=(js.map fun t=>(t,PV.junk)).reverse++s.sl:=by
 induction js with
 | nil=>intro s;rfl
 | cons d r ih=>intro s;rw[PState.junks,ih];simp[PState.put]
theorem Yj(js:List Nat):∀ s:PState,(s.junks js).n=s.n:=by
 induction js with
 | nil=>intro s;rfl
 | cons d r ih=>intro s;rw[PState.junks,ih];rfl
theorem app_A(s:PState)(d:Option Nat)(p:PV)(js:List Nat)(id:Nat)(ob:Ob):s.app ⟨Vr d p++(js.map fun t=>(t,PV.junk)).reverse,[(id,ob)]⟩=((s.junks js).setO id ob).putD d p:=by
 cases d with
 | none=>simp only[PState.app,Vr,PState.putD,PState.setO,wI,Yj,yW,List.nil_append,List.foldr_cons,List.foldr_nil]
 | some d=>simp only[PState.app,Vr,PState.putD,PState.setO,PState.put,wI,Yj,yW,List.cons_append,List.nil_append,List.foldr_cons,List.foldr_nil]
variable{s:PState}{o:Oper}{rest:List Oper}{f:Ft}{fs:List Ft}
theorem PQe.nil(h:Q s):PQe P ctx ops Q [] [] s:=.fin h (Sub.refl _)
theorem PQe.stepP{p:PV}(hl:∀ s':PState,(∀ {x q},xy o x=true->s.ev x=some q->s'.ev x=some q)->(∀ {id ob},inL f.ro id=true->look s.objs id=some ob->look s'.objs id=some ob)->Local P ctx o s' (s'.putD o.dst p))
  (hg:Wd ops o s) (hk:okE f ⟨Vr o.dst p,[]⟩=true) (h:PQe P ctx ops Q rest fs (s.putD o.dst p)):PQe P ctx ops Q (o::rest) (f::fs) s:=
 .step (e:=⟨Vr o.dst p,[]⟩) (fun s' _ he ho _ _=>by rw[app_P];exact hl s' he fun hi=>ho (zd.1 hi)) hg hk (by rw[app_P];exact h)
theorem PQe.stepN{p:PV}{id:Nat}{ob:Ob}(hl:∀ s':PState,(∀ {x q},xy o x=true->s.ev x=some q->s'.ev x=some q)->(∀ {id ob},inL f.ro id=true->look s.objs id=some ob->look s'.objs id=some ob)->s'.fresh id=true->Local P ctx o s' (s'.newO id ob p))
  (hfr:inL f.fr id=true) (hg:Wd ops o s) (hk:okE f ⟨[(id,p)],[(id,ob)]⟩=true) (h:PQe P ctx ops Q rest fs (s.newO id ob p)):PQe P ctx ops Q (o::rest) (f::fs) s:=
 .step (e:=⟨[(id,p)],[(id,ob)]⟩) (fun s' _ he ho hf _=>hl s' he (fun hi=>ho (zd.1 hi)) (hf id (zd.1 hfr))) hg hk h
theorem PQe.stepS{id:Nat}{ob:Ob}(hl:∀ s':PState,(∀ {x q},xy o x=true->s.ev x=some q->s'.ev x=some q)->(∀ {id ob},inL f.ro id=true->look s.objs id=some ob->look s'.objs id=some ob)->Local P ctx o s' (s'.setO id ob))
  (hg:Wd ops o s) (hk:okE f ⟨[],[(id,ob)]⟩=true) (h:PQe P ctx ops Q rest fs (s.setO id ob)):PQe P ctx ops Q (o::rest) (f::fs) s:=
 .step (e:=⟨[],[(id,ob)]⟩) (fun s' _ he ho _ _=>hl s' he fun hi=>ho (zd.1 hi)) hg hk h
theorem PQe.stepSD{p:PV}{id:Nat}{ob:Ob}(hl:∀ s':PState,(∀ {x q},xy o x=true->s.ev x=some q->s'.ev x=some q)->(∀ {id ob},inL f.ro id=true->look s.objs id=some ob->look s'.objs id=some ob)->Local P ctx o s' ((s'.setO id ob).putD o.dst p))
  (hg:Wd ops o s) (hk:okE f ⟨Vr o.dst p,[(id,ob)]⟩=true) (h:PQe P ctx ops Q rest fs ((s.setO id ob).putD o.dst p)):PQe P ctx ops Q (o::rest) (f::fs) s:=
 .step (e:=⟨Vr o.dst p,[(id,ob)]⟩) (fun s' _ he ho _ _=>by rw[app_SD];exact hl s' he fun hi=>ho (zd.1 hi)) hg hk (by rw[app_SD];exact h)
def inAl(l:List (Nat×List Nat))(id:Nat)(js:List Nat):Bool:=l.any fun a=>Nat.beq a.1 id&&a.2==js
def inAo(f:Ft)(id:Nat)(js:List Nat):Bool:=f.ao.isEmpty&&inAl f.al id js
theorem PQe.stepA{p:PV}{id:Nat}{ob:Ob}(js:List Nat)(hl:∀ s':PState,(∀ {x q},xy o x=true->s.ev x=some q->s'.ev x=some q)->(∀ {id ob},inL f.ro id=true->look s.objs id=some ob->look s'.objs id=some ob)->(s'.junks js).alone id=true->Local P ctx o s' (((s'.junks js).setO id ob).putD o.dst p))
  (ha:inAo f id js=true) (hg:Wd ops o s) (hk:okE f ⟨Vr o.dst p++(js.map fun t=>(t,PV.junk)).reverse,[(id,ob)]⟩=true) (h:PQe P ctx ops Q rest fs (((s.junks js).setO id ob).putD o.dst p)):PQe P ctx ops Q (o::rest) (f::fs) s:=
 .step (e:=⟨Vr o.dst p++(js.map fun t=>(t,PV.junk)).reverse,[(id,ob)]⟩) (fun s' _ he ho _ hal=>by
  rw[app_A];refine hl s' he (fun hi=>ho (zd.1 hi)) ?_;unfold inAo at ha;rw[Bool.and_eq_true] at ha;obtain⟨h0,ha⟩:=ha;unfold inAl at ha;obtain⟨a,h1,h2⟩:=List.any_eq_true.1 ha;simp only[Bool.and_eq_true,beq_iff_eq] at h2;have:=hal a h1;rw[Nat.eq_of_beq_eq_true h2.1,h2.2,List.isEmpty_iff.1 h0] at this;exact yla this) hg hk (by rw[app_A];exact h)
theorem PQe.skipP(hg:Sk ops o s)(hk:okE f (undE o)=true)(h:PQe P ctx ops Q rest fs (s.putD o.dst .und)):PQe P ctx ops Q (o::rest) (f::fs) s:=
 .skip hg hk (by have:s.app (undE o)=s.putD o.dst .und:=app_P s o.dst .und;rw[this];exact h)
theorem Same.app{s t:PState}(h:Same s t)(e:Ef):Same (s.app e) (t.app e):=by
 refine⟨h.1,fun i=>?_,?_⟩
 ·have h2:=h.2.1 i;rw[YZ,YZ] at h2 ⊢;show(if i < s.n then vQ (e.U++s.sl) i else none)=if i < t.n then vQ (e.U++t.sl) i else none
  rw[WT,WT];rw[h.1] at h2 ⊢
  by_cases hi:i < t.n
  ·simp only[hi,if_true] at h2 ⊢;rw[h2]
  ·simp only[hi,if_false]
 ·show e.V.foldr _ s.objs=e.V.foldr _ t.objs;rw[h.2.2]
theorem PQe.same{l:List Oper}{fs:List Ft}{t:PState}(h:PQe P ctx ops Q l fs t):∀ {s:PState},Same s t->PQe P ctx ops Q l fs s:=by
 induction h with
 | fin h hs=>intro s he;exact .fin h (Sub.trans he.sub hs)
 | step hl hg hk _ ih=>
  intro s he;refine .step (fun s' hn h1 h2 h3 h4=>hl s' (hn.trans he.1) (fun hx hq=>h1 hx (by rw[he.ev];exact hq)) (fun hi ho=>h2 hi (by rw[he.2.2];exact ho)) h3 h4) ?_ hk (ih (he.app _));rcases hg with hg | ⟨j,b,d,h5,h6,h7⟩
  ·exact .inl hg
  ·exact .inr ⟨j,b,d,h5,h6,by rw[he.2.1];exact h7⟩
 | skip hg hk _ ih=>
  intro s he;refine .skip ?_ hk (ih (he.app _));rcases hg with⟨j,b,c,d,h5,h6,h7,h8⟩ | ⟨j,b,d,h5,h6,h7⟩
  ·exact .inl ⟨j,b,c,d,h5,h6,by rw[he.2.1];exact h7,h8⟩
  ·exact .inr ⟨j,b,d,h5,h6,by rw[he.2.1];exact h7⟩
theorem PQe.split{d:Nat}{b:Bool}(hs:s.at d=some (.d (.v (.bool b))))(ht:b=true->PQe P ctx ops Q rest fs (s.put d (.d (.v (.bool true)))))(hf:b=false->PQe P ctx ops Q rest fs (s.put d (.d (.v (.bool false))))):PQe P ctx ops Q rest fs s:=by
 have e:Same s (s.put d (.d (.v (.bool b)))):=by
  refine⟨rfl,fun i=>?_,rfl⟩;rw[WF]
  by_cases hi:i < s.n
  ·rw[if_pos hi]
   by_cases hd:d=i
   ·subst hd;rw[if_pos rfl];exact hs
   ·rw[if_neg hd]
  ·rw[if_neg hi,YZ,if_neg hi]
 cases b with
 | true=>exact(ht rfl).same e
 | false=>exact(hf rfl).same e
end
end Go.Ep
namespace Go.Ep
section
variable{P:Program}{ctx:Ctx}{ops:Array Oper}{Q:PState->Prop}{s:PState}{o:Oper}{rest:List Oper}{f:Ft}{fs:List Ft}
theorem kp{p:PV}(hl:∀ s':PState,(∀ {x:Operand} {q:PV} (_:xy o x=true:=by exact rfl) (_:s.ev x=some q:=by exact rfl),s'.ev x=some q)->(∀ {id ob},inL f.ro id=true->look s.objs id=some ob->look s'.objs id=some ob)->Local P ctx o s' (s'.putD o.dst p))(h:PQe P ctx ops Q rest fs (s.putD o.dst p))(hg:Wd ops o s:=by exact .inl rfl)(hk:okE f ⟨Vr o.dst p,[]⟩=true:=by exact rfl):PQe P ctx ops Q (o::rest) (f::fs) s:=PQe.stepP hl hg hk h
theorem km{dst:Option Tmp}{ty:TypeId}{pos:String}{after:Array Edge}{gd:Option (Nat×Bool)}{x:Operand}{p:PV}(h:PQe P ctx ops Q rest fs (s.putD dst p))(hx:s.ev x=some p:=by exact rfl)(hg:Wd ops ⟨dst,.move x,ty,pos,after,gd⟩ s:=by exact .inl rfl)(hk:okE f ⟨Vr dst p,[]⟩=true:=by exact rfl):PQe P ctx ops Q (⟨dst,.move x,ty,pos,after,gd⟩::rest) (f::fs) s:=PQe.stepP (fun _ he _=>LR.move (he rdM hx)) hg hk h
theorem ks{id:Nat}{ob:Ob}(hl:∀ s':PState,(∀ {x:Operand} {q:PV} (_:xy o x=true:=by exact rfl) (_:s.ev x=some q:=by exact rfl),s'.ev x=some q)->(∀ {id ob},inL f.ro id=true->look s.objs id=some ob->look s'.objs id=some ob)->Local P ctx o s' (s'.setO id ob))(h:PQe P ctx ops Q rest fs (s.setO id ob))(hg:Wd ops o s:=by exact .inl rfl)(hk:okE f ⟨[],[(id,ob)]⟩=true:=by exact rfl):PQe P ctx ops Q (o::rest) (f::fs) s:=PQe.stepS hl hg hk h
theorem kx(h:PQe P ctx ops Q rest fs (s.putD o.dst .und))(hg:Sk ops o s:=by exact .inl ⟨_,_,_,_,rfl,rfl,rfl,by decide⟩)(hk:okE f (undE o)=true:=by exact rfl):PQe P ctx ops Q (o::rest) (f::fs) s:=PQe.skipP hg hk h
end
end Go.Ep
namespace Go.Ep
open Go.RowKit
def uk(m:List (List Int×Value)):Mp:=m.map fun x=>(x.1,[])
theorem QG{m:List (List Int×Value)}{i:Nat}{ns:List Int}{c:List DV}(h:(uk m)[i]?=some (ns,c)):∃ p,m[i]?=some (ns,p):=by
 unfold uk at h;rw[List.getElem?_map] at h
 cases hm:m[i]? with
 | none=>rw[hm] at h;cases h
 | some x=>rw[hm] at h;simp only[Option.map_some,Option.some.injEq,Prod.mk.injEq] at h;exact⟨x.2,by rw[<- h.1]⟩
section
variable{P:Program}{ctx:Ctx}{Q:PQ}{s:PState}
variable{dst:Option Tmp}{ty:TypeId}{pos:String}{after:Array Edge}{gd:Option (Nat×Bool)}
theorem RelG.reread{g:ze}{a:Act}{w:World}(h1:RelG ctx g s a w){id:Nat}{o0 ob:Ob}(hl:look s.objs id=some o0){objs':List (Nat×Ob)}(ho':∀ i,look objs' i=if i=id then some ob else look s.objs i)
  (hr:∀ S,ObRd w g S id o0->ObRd w g S id ob):RelG ctx g { s with objs:=objs' } a w:=by
 have hF:∀ b,zq ctx g s.objs b->zq ctx g objs' b:=fun b hb=>⟨hb.1,fun i o n ho hgi=>by
  rw[ho'] at ho
  by_cases ei:i=id
  ·subst ei;exact hb.2 i _ n hl hgi
  ·rw[if_neg ei] at ho;exact hb.2 i o n ho hgi⟩
 have hst:yg w w (zq ctx g s.objs):=⟨Nat.le_refl _,fun _ _ _=>rfl⟩
 refine⟨h1.defers,h1.size,fun i p hp=>(h1.slots i p hp).keep hst (fun b hb _=>hF b hb) (fun _ _=>rfl),fun i o ho=>?_,fun i i2 o o2 b n m ho ho2 hgi hgi2=>?_,fun i o b n ho hgi=>?_,h1.os,h1.tape,h1.output,h1.grows,h1.keep⟩
 ·simp only[ho'] at ho
  by_cases ei:i=id
  ·subst ei;rw[if_pos rfl] at ho
   cases ho
   exact hr _ ((h1.objs i _ hl).keep hst (fun b hb _=>hF b hb) (fun _ _ _=>rfl) rfl (fun _ _=>rfl))
  ·rw[if_neg ei] at ho;exact(h1.objs i o ho).keep hst (fun b hb _=>hF b hb) (fun _ _ _=>rfl) rfl (fun _ _=>rfl)
 ·simp only[ho'] at ho ho2;have key:∀ q o,(if q=id then some ob else look s.objs q)=some o->∃ o',look s.objs q=some o':=fun q o hq=>by
   by_cases eq:q=id
   ·subst eq;exact⟨_,hl⟩
   ·rw[if_neg eq] at hq;exact⟨o,hq⟩
  obtain⟨p1,q1⟩:=key i o ho;obtain⟨p2,q2⟩:=key i2 o2 ho2;exact h1.inj i i2 p1 p2 b n m q1 q2 hgi hgi2
 ·simp only[ho'] at ho
  by_cases ei:i=id
  ·subst ei;exact h1.own i _ b n hl hgi
  ·rw[if_neg ei] at ho;exact h1.own i o b n ho hgi
theorem Xx(id:Nat)(ob:Ob)(l:List (Nat×Ob))(i:Nat):look (yF id ob (Zs id l)) i=if i=id then some ob else look l i:=by
 rw[zD,xM]
 by_cases h:i=id <;> simp[h]
theorem Jc{id:Nat}:∀ {l:List (Nat×Ob)} {x:Nat×Ob},x∈Zs id l->x.1≠id/\x∈l
 | [],x,h=>by simp[Zs] at h
 | (k,p)::r,x,h=>by
  unfold Zs at h
  by_cases e:id=k
  ·rw[if_pos e] at h;have:=Jc h;exact⟨this.1,List.mem_cons_of_mem _ this.2⟩
  ·rw[if_neg e] at h;rcases List.mem_cons.1 h with h | h
   ·subst h;exact⟨Ne.symm e,List.mem_cons_self⟩
   ·have:=Jc h;exact⟨this.1,List.mem_cons_of_mem _ this.2⟩
theorem ObRd.junkP{w:World}{g:ze}{S:Nat->Prop}{id:Nat}{ks:List IntKind}{m:List (List Int×Value)}{j:Nat}{p:PV}{bs:List Nat}{ck:Nat}(h:ObRd w g S id (.mapP ks m (some (j,p)) bs ck)):ObRd w g S id (.mapP ks m (some (j,.junk)) bs ck):=by
 cases h with
 | mapP _ _ _ _ _ blk n es h hh hsz hst hbl hnd hent hov=>
  refine .mapP ks m _ bs ck blk n es h hh hsz hst hbl hnd (fun i ns u hi=>?_) fun j' p' hj=>?_
  ·obtain⟨e,h1,h2,h3,h4,h5⟩:=hent i ns u hi;refine⟨e,h1,h2,h3,h4,fun hne=>h5 fun q hq=>?_⟩
   cases hq
   exact hne .junk rfl
  ·cases hj
   obtain⟨e,h1,h2⟩:=hov j p rfl;exact⟨e,h1,.junk _⟩
section
variable{x kx:Operand}{t kt et:TypeId}{ks:List IntKind}{m:List (List Int×Value)}{ns:List Int}{bs:List Nat}{ck id:Nat}{ov:Option (Nat×PV)}
theorem WX{es:Array MapEntry}
  (hent:∀ (i:Nat) (ns:List Int) (u:Value),m[i]?=some (ns,u)->∃ e,es[i]?=some e/\e.key=uY ks ns/\ns.length=ks.length/\e.val.oneCell'=true/\((∀ p,ov≠some (i,p))->e.val=u)) :
  ∀ (i:Nat) (e:MapEntry) (nn:List Int) (c:List DV),es.toList[i]?=some e->(uk m)[i]?=some (nn,c)->e.key=uY ks nn/\nn.length=ks.length:=fun i e nn c h1 h2=>by
 obtain⟨q,hq⟩:=QG h2;obtain⟨e',g1,g2,g3,_⟩:=hent i nn q hq;have:e'=e:=by simp at h1;rw[g1] at h1;cases h1;rfl
 subst this;exact⟨g2,g3⟩
variable(hu:P.underlying t=some (.map kt et))(K:KeyOK P kt ks)(hx:s.ev x=some (.mp id))(hl:look s.objs id=some (.mapP ks m ov bs ck))(hk:s.ev kx=some (qx ks ns))(hn:ns.length=ks.length)
include hu K hx hl hk hn
theorem LR.lookupP{j:Nat}{p:PV}(hj:yy ns (uk m) 0=some j)(hp:ov=some (j,p)):Local P ctx ⟨dst,.lookup t x kx false,ty,pos,after,gd⟩ s (s.putD dst p):=
 zG (o:=⟨dst,.lookup t x kx false,ty,pos,after,gd⟩) fun a w g hg=>by
  have h:=hg.ev hx
  generalize hv:a.eval x=v at h
  cases h with
  | mpNil _ hgn=>
   cases hg.objs id _ hl with
   | mapP _ _ _ _ _ blk' n' es h' hh hsz hst hbl hnd hent hov=>rw[hgn] at h';cases h'
  | mp _ blk n hgi=>
   cases hg.objs id _ hl with
   | mapP _ _ _ _ _ blk' n' es h' hh hsz hst hbl hnd hent hov=>
    rw[hgi] at h';cases h';have hf:=K.find w ns (uk m) es.toList hn (by simpa[uk] using hsz) (WX hent);obtain⟨e,g1,g5⟩:=hov j p hp;have he:es.toList[j]?=some e:=by simpa using g1
    rw[hj] at hf;simp only[Option.bind_some,he,Option.map_some] at hf;refine⟨e.val,?_,g5⟩;simp only[execOp,hv,uA (hg.ev hk),Instr.lookup,Sem.run_bind,run_underlying hu,Result.andThen_ok,MapKept.run_getObj_map hh,Sem.run_pure,K.check w _ ns hn,hf]
    rfl
theorem LR.lookupPN{z:Value}(hz:∀ w,(zeroValue et).run P w=.ok z w)(h1:z.oneCell'=true)(hj:yy ns (uk m) 0=none):Local P ctx ⟨dst,.lookup t x kx false,ty,pos,after,gd⟩ s (s.putD dst (.d (.v z))):=
 zG (o:=⟨dst,.lookup t x kx false,ty,pos,after,gd⟩) fun a w g hg=>by
  have h:=hg.ev hx
  generalize hv:a.eval x=v at h
  cases h with
  | mpNil _ hgn=>
   cases hg.objs id _ hl with
   | mapP _ _ _ _ _ blk' n' es h' hh hsz hst hbl hnd hent hov=>rw[hgn] at h';cases h'
  | mp _ blk n hgi=>
   cases hg.objs id _ hl with
   | mapP _ _ _ _ _ blk' n' es h' hh hsz hst hbl hnd hent hov=>
    rw[hgi] at h';cases h';have hf:=K.find w ns (uk m) es.toList hn (by simpa[uk] using hsz) (WX hent);rw[hj] at hf;simp only[Option.bind_none] at hf;refine⟨z,?_,.d (.v z h1)⟩;simp only[execOp,hv,uA (hg.ev hk),Instr.lookup,Sem.run_bind,run_underlying hu,Result.andThen_ok,MapKept.run_getObj_map hh,Sem.run_pure,K.check w _ ns hn,hf,hz]
    rfl
omit hu K hx hl hk hn in
theorem xna{w:World}{g:ze}{S:Nat->Prop}{q n:Nat}{u:Value}(h:Rd w g S (.row q n) u):u.oneCell'=true:=by cases h <;> rfl
theorem LR.mapUpdateP{vx:Operand}{j q nn:Nat}{p:PV}(hov:ov=some (j,p))(hv:s.ev vx=some (.row q nn))(hj:yy ns (uk m) 0=some j):Local P ctx ⟨none,.mapUpdate t x kx vx,ty,pos,after,gd⟩ s (s.setO id (.mapP ks m (some (j,.row q nn)) bs ck)):=by
 subst hov;refine XB (o:=⟨none,.mapUpdate t x kx vx,ty,pos,after,gd⟩) fun a w g hg=>?_
 have h:=hg.ev hx
 generalize hxv:a.eval x=v at h
 cases h with
 | mpNil _ hgn=>
  cases hg.objs id _ hl with
  | mapP _ _ _ _ _ blk' n' es h' hh hsz hst hbl hnd hent hov=>rw[hgn] at h';cases h'
 | mp _ blk n hgi=>
  cases hg.objs id _ hl with
  | mapP _ _ _ _ _ blk' n' es h' hh hsz hst hbl hnd hent hov=>
   rw[hgi] at h';cases h';have hf:=K.find w ns (uk m) es.toList hn (by simpa[uk] using hsz) (WX hent);obtain⟨k,hjk,cs0,h2,h3⟩:=Ya ns (uk m) 0 j hj;have:j=k:=by omega
   subst this;obtain⟨p0,hp0⟩:=QG h2;obtain⟨e0,g1,g2,g3,g4,g5⟩:=hent j ns p0 hp0;have he:es.toList[j]?=some e0:=by simpa using g1
   rw[hj] at hf;simp only[Option.bind_some,he,Option.map_some] at hf;have hvr:=hg.ev hv
   generalize hu':a.eval vx=u at hvr
   have hsame:(Instr.keyThatStays (((es[j]?).map (·.key)).getD (uY ks ns)) (uY ks ns)).run P w=.ok (uY ks ns) w:=by
    simp only[g1,Option.map_some,Option.getD_some,g2,Instr.keyThatStays,VT,if_true,Sem.run_pure]
   have hrun:(Instr.mapUpdate t (.map (some blk)) (uY ks ns) u).run P w=.ok () { w with heap:=w.heap.setIfInBounds blk (.map (es.modify j fun e=>{ e with key:=uY ks ns,val:=u }) ck) }:=by
    simp only[Instr.mapUpdate,Sem.run_bind,run_underlying hu,Result.andThen_ok,MapKept.run_getObj_map hh,K.check w _ ns hn,hf,hsame];exact MapKept.run_setObj_map _ hh
   refine⟨_,by simp only[execOp,hxv,uA (hg.ev hk),hu',Sem.run_bind,hrun,Result.andThen_ok,Sem.run_pure];rfl,g,?_⟩;have hown:=hg.own id _ blk n hl hgi;have hother:∀ k,k < w.heap.size->k≠blk->({ w with heap:=w.heap.setIfInBounds blk (.map (es.modify j fun e=>{ e with key:=uY ks ns,val:=u }) ck) }:World).heap[k]?=w.heap[k]?:=fun k _ hne=>Zb w blk k _ hne
   have hst':yg w { w with heap:=w.heap.setIfInBounds blk (.map (es.modify j fun e=>{ e with key:=uY ks ns,val:=u }) ck) } (zq ctx g s.objs):=⟨by simp,fun b ⟨_,h2⟩ hlt=>hother b hlt fun e=>by subst e;exact h2 id _ n hl hgi⟩
   refine hg.wrote hl hgi rfl rfl rfl (by simp) hother hown.2 (.mapP ks _ _ bs ck blk n (es.modify j fun e=>{ e with key:=uY ks ns,val:=u }) hgi (XD w blk _ hown.1) (by simp[hsz]) ?_ hbl hnd (fun i nn' u' hi=>?_) fun j' p' hj'=>?_)
   ·rw[hst];apply List.ext_getElem?;intro i;simp only[List.getElem?_map,Array.getElem?_toList,Array.getElem?_modify]
    by_cases hij:j=i
    ·subst hij;simp[g1]
    ·simp[hij]
   ·by_cases hij:i=j
    ·subst hij;rw[hp0] at hi
     cases hi
     exact⟨_,by rw[Array.getElem?_modify,if_pos rfl,g1];rfl,rfl,hn,xna hvr,fun hne=>(hne _ rfl).elim⟩
    ·obtain⟨e,q1,q2,q3,q4,q5⟩:=hent i nn' u' hi;exact⟨e,by rw[Array.getElem?_modify,if_neg (Ne.symm hij)];exact q1,q2,q3,q4,fun _=>q5 fun p hp=>by cases hp;exact hij rfl⟩
   ·cases hj'
    exact⟨_,by rw[Array.getElem?_modify,if_pos rfl,g1];rfl,hvr.keep hst' (fun b hb _=>xj hl b hb) (fun _ _=>rfl)⟩
theorem LR.mapUpdatePN{vx:Operand}{q nn:Nat}(hov:ov=none)(hv:s.ev vx=some (.row q nn))(hj:yy ns (uk m) 0=none):Local P ctx ⟨none,.mapUpdate t x kx vx,ty,pos,after,gd⟩ s (s.setO id (.mapP ks (m++[(ns,undef)]) (some (m.length,.row q nn)) (bs++[ck]) (ck+1))):=by
 subst hov;refine XB (o:=⟨none,.mapUpdate t x kx vx,ty,pos,after,gd⟩) fun a w g hg=>?_
 have h:=hg.ev hx
 generalize hxv:a.eval x=v at h
 cases h with
 | mpNil _ hgn=>
  cases hg.objs id _ hl with
  | mapP _ _ _ _ _ blk' n' es h' hh hsz hst hbl hnd hent hov=>rw[hgn] at h';cases h'
 | mp _ blk n hgi=>
  cases hg.objs id _ hl with
  | mapP _ _ _ _ _ blk' n' es h' hh hsz hst hbl hnd hent hov=>
   rw[hgi] at h';cases h';have hf:=K.find w ns (uk m) es.toList hn (by simpa[uk] using hsz) (WX hent);rw[hj] at hf;simp only[Option.bind_none] at hf;have hvr:=hg.ev hv
   generalize hu':a.eval vx=u at hvr
   have hrun:(Instr.mapUpdate t (.map (some blk)) (uY ks ns) u).run P w=.ok () { w with heap:=w.heap.setIfInBounds blk (.map (es.push { key:=uY ks ns,val:=u,born:=ck }) (ck+1)) }:=by
    simp only[Instr.mapUpdate,Sem.run_bind,run_underlying hu,Result.andThen_ok,MapKept.run_getObj_map hh,K.check w _ ns hn,hf];exact MapKept.run_setObj_map _ hh
   refine⟨_,by simp only[execOp,hxv,uA (hg.ev hk),hu',Sem.run_bind,hrun,Result.andThen_ok,Sem.run_pure];rfl,g,?_⟩;have hown:=hg.own id _ blk n hl hgi;have hother:∀ k,k < w.heap.size->k≠blk->({ w with heap:=w.heap.setIfInBounds blk (.map (es.push { key:=uY ks ns,val:=u,born:=ck }) (ck+1)) }:World).heap[k]?=w.heap[k]?:=fun k _ hne=>Zb w blk k _ hne
   have hst':yg w { w with heap:=w.heap.setIfInBounds blk (.map (es.push { key:=uY ks ns,val:=u,born:=ck }) (ck+1)) } (zq ctx g s.objs):=⟨by simp,fun b ⟨_,h2⟩ hlt=>hother b hlt fun e=>by subst e;exact h2 id _ n hl hgi⟩
   refine hg.wrote hl hgi rfl rfl rfl (by simp) hother hown.2 (.mapP ks _ _ (bs++[ck]) (ck+1) blk n (es.push { key:=uY ks ns,val:=u,born:=ck }) hgi (XD w blk _ hown.1) (by simp[hsz]) (by simp[hst]) ?_ ?_ (fun i nn' u' hi=>?_) fun j' p' hj'=>?_)
   ·intro b hb;rcases List.mem_append.1 hb with h | h
    ·have:=hbl b h;omega
    ·simp at h;omega
   ·rw[List.nodup_append];refine⟨hnd,by simp,fun b hb c hc=>?_⟩;simp at hc;have:=hbl b hb;omega
   ·rw[List.getElem?_append] at hi
    split at hi
    ·rename_i hlt
     obtain⟨e,q1,q2,q3,q4,q5⟩:=hent i nn' u' hi;exact⟨e,by rw[Array.getElem?_push,if_neg (by rw[hsz];omega)];exact q1,q2,q3,q4,fun _=>q5 fun p hp=>by cases hp⟩
    ·rename_i hge
     have hi0:i=m.length:=by
      have:i - m.length < 1:=by simpa using (List.getElem?_eq_some_iff.1 hi).1
      omega
     subst hi0;simp at hi;obtain⟨rfl,rfl⟩:=hi;exact⟨_,by rw[Array.getElem?_push,if_pos hsz.symm],rfl,hn,xna hvr,fun hne=>(hne _ rfl).elim⟩
   ·cases hj'
    exact⟨_,by rw[Array.getElem?_push,if_pos hsz.symm],hvr.keep hst' (fun b hb _=>xj hl b hb) (fun _ _=>rfl)⟩
end
end
section
variable{P:Program}{ctx:Ctx}{ops:Array Oper}{Q:PState->Prop}{s:PState}
variable{dst:Option Tmp}{ty:TypeId}{pos:String}{after:Array Edge}{gd:Option (Nat×Bool)}
theorem Local.post{o:Oper}{t u:PState}(h:Local P ctx o s t)(hs:Sub ctx t u):Local P ctx o s u:=fun a w hr K Qx hK=>h a w hr K Qx fun a' w' h'=>hK a' w' (hs a' w' h')
theorem Local.pre{o:Oper}{t u:PState}(hs:Sub ctx s t)(h:Local P ctx o t u):Local P ctx o s u:=fun a w hr K Qx hK=>h a w (hs a w hr) K Qx hK
section
variable{α:Type}{enc:α->List DV}{L R:List α}{x y:Operand}{id mid m k bs':Nat}{t t' e e':TypeId}{ks:List IntKind}{mm:List (List Int×Value)}{j:Nat}{p:PV}{bs:List Nat}{ck:Nat}
theorem LR.appP(js:List Nat)(hE:ElemOK P t e k bs')(hu':P.underlying t'=some (.slice e'))(hx:s.ev x=some (.row id m))(hm:m=L.length)(hl:look s.objs id=some (.row e k (L.map enc)))
  (hlm:look s.objs mid=some (.mapP ks mm (some (j,p)) bs ck)) (hne:Nat.beq id mid=false)
  (hy:∀ s':PState,s'.n=s.n->s'.sl=s.sl->Src ctx s' y (R.map enc) k) (hk:∀ x,(enc x).length=k) (hb:(L.length+R.length)*bs'<=140737488355328) (h1:Nat.ble 1 bs'=true) (ha:(s.junks js).aloneX id [mid]=true) :
  Local P ctx ⟨dst,.call ⟨.builtin .append,#[x,y],#[t,t']⟩,ty,pos,after,gd⟩ s ((((s.junks js).setO mid (.mapP ks mm (some (j,.junk)) bs ck)).setO id (.row e k ((L++R).map enc))).putD dst (.row id (L++R).length)):=by
 have hne':id≠mid:=fun e=>by rw[e] at hne;simp at hne
 let s2:PState:={ s with objs:=yF mid (.mapP ks mm (some (j,.junk)) bs ck) (Zs mid s.objs) }
 have hsub:Sub ctx s s2:=fun a w ⟨g,hg⟩=>⟨g,hg.reread hlm (Xx _ _ _) fun S h=>h.junkP⟩
 have hj2:∀ js,(s2.junks js).sl=(s.junks js).sl:=fun js=>by rw[wI,wI]
 have ha2:(s2.junks js).alone id=true:=by
  unfold PState.aloneX at ha;unfold PState.alone;rw[hj2 js];rw[Bool.and_eq_true] at ha ⊢;refine⟨ha.1,List.all_eq_true.2 fun q hq=>?_⟩;rw[yW] at hq;have h2:=List.all_eq_true.1 ha.2;obtain⟨qk,qo⟩:=q;rcases Vq hq with h3 | h3
  ·cases h3;rfl
  ·have h4:=Jc h3;have h5:=h2 (qk,qo) (by rw[yW];exact h4.2);have h6:inL [mid] qk=false:=by
    rw[WW];simpa using h4.1
   simpa[h6] using h5
 have hl2:look s2.objs id=some (.row e k (L.map enc)):=by
  show look (yF _ _ _) _=_;rw[Xx,if_neg hne'];exact hl
 refine Local.pre hsub ((LR.appT (enc:=enc) (L:=L) (R:=R) (s:=s2) js hE hu' (by cases x <;> exact hx) hm hl2 (hy s2 rfl rfl) hk hb h1 ha2).post ?_);refine Sub.drop ?_ (fun i q hq=>?_) (fun i o ho=>?_)
 ·simp only[ZH];show(s2.junks js).n=(s.junks js).n;rw[Yj,Yj]
 ·have hsl:(((s2.junks js).setO id (.row e k ((L++R).map enc))).putD dst (.row id (L++R).length)).sl=((((s.junks js).setO mid (.mapP ks mm (some (j,.junk)) bs ck)).setO id (.row e k ((L++R).map enc))).putD dst (.row id (L++R).length)).sl:=by
   cases dst <;> simp[PState.putD,PState.put,PState.setO,hj2]
  have hn:(((s2.junks js).setO id (.row e k ((L++R).map enc))).putD dst (.row id (L++R).length)).n=((((s.junks js).setO mid (.mapP ks mm (some (j,.junk)) bs ck)).setO id (.row e k ((L++R).map enc))).putD dst (.row id (L++R).length)).n:=by
   simp only[ZH];show(s2.junks js).n=(s.junks js).n;rw[Yj,Yj]
  rw[YZ] at hq ⊢;rw[hsl,hn];exact hq
 ·rw[xE] at ho ⊢;simp only[PState.setO,yW] at ho ⊢;rw[zD] at ho ⊢
  by_cases hi:i=id
  ·rw[if_pos hi] at ho ⊢;exact ho
  ·rw[if_neg hi] at ho ⊢;rw[zD] at ho;show look (yF _ _ (Zs _ _)) _=_;rw[Xx];exact ho
theorem PQe.stepX{o:Oper}{rest:List Oper}{f:Ft}{fs:List Ft}{p:PV}{id mid:Nat}{ob obm:Ob}(js:List Nat)(hl:∀ s':PState,(∀ {x q},xy o x=true->s.ev x=some q->s'.ev x=some q)->(∀ {id ob},inL f.ro id=true->look s.objs id=some ob->look s'.objs id=some ob)->(s'.junks js).aloneX id [mid]=true->Local P ctx o s' ((((s'.junks js).setO mid obm).setO id ob).putD o.dst p))
  (ha:inAl f.al id js=true) (hao:f.ao=[mid]) (hg:Wd ops o s) (hk:okE f ⟨Vr o.dst p++(js.map fun t=>(t,PV.junk)).reverse,[(id,ob),(mid,obm)]⟩=true) (h:PQe P ctx ops Q rest fs ((((s.junks js).setO mid obm).setO id ob).putD o.dst p)):PQe P ctx ops Q (o::rest) (f::fs) s:=by
 have happ:∀ s:PState,s.app ⟨Vr o.dst p++(js.map fun t=>(t,PV.junk)).reverse,[(id,ob),(mid,obm)]⟩=(((s.junks js).setO mid obm).setO id ob).putD o.dst p:=fun s=>by
  have h1:=wI js s;have h2:=Yj js s;have h3:=yW js s
  cases o.dst <;> simp[PState.app,Vr,PState.putD,PState.put,PState.setO,h1,h2,h3]
 refine .step (e:=⟨Vr o.dst p++(js.map fun t=>(t,PV.junk)).reverse,[(id,ob),(mid,obm)]⟩) (fun s' _ he ho _ hal=>?_) hg hk (by rw[happ];exact h);rw[happ];refine hl s' he (fun hi=>ho (zd.1 hi)) ?_;unfold inAl at ha;obtain⟨a,h1,h2⟩:=List.any_eq_true.1 ha;simp only[Bool.and_eq_true,beq_iff_eq] at h2;have:=hal a h1
 rwa [Nat.eq_of_beq_eq_true h2.1,h2.2,hao] at this
theorem LR.appNilX(hE:ElemOK P t e k bs')(hu':P.underlying t'=some (.slice e'))(hx:s.ev x=some (.d (.v (.slice none 0 0))))(hf:s.fresh id=true)
  (hy:Src ctx { s with objs:=yF id (.row e k []) s.objs } y (R.map enc) k) (hk:∀ x,(enc x).length=k) (hb:R.length*bs'<=140737488355328) (h1:Nat.ble 1 bs'=true) (ha:({ s with objs:=yF id (.row e k []) s.objs }:PState).alone id=true) :
  Local P ctx ⟨some id,.call ⟨.builtin .append,#[x,y],#[t,t']⟩,ty,pos,after,gd⟩ s (s.newO id (.row e k (R.map enc)) (.row id R.length)):=by
 rintro a w ⟨g,hg⟩ K Qx hK;have hn:=hg.new (Go.RowKit.Below.refl _ w) hf none (fun b n e=>by cases e) (.row e k []) (.rowNil e k (zF _ _ _));have h2:=Nat.le_of_ble_eq_true h1;have h3:R.length*1<=R.length*bs':=Nat.mul_le_mul_left _ h2;have hlk:look (yF id (Ob.row e k []) s.objs) id=some (.row e k []):=by rw[zD,if_pos rfl]
 have hxv:=hg.ev hx;have hxe:a.eval x=.slice none 0 0:=hxv.of_v;obtain⟨v,w',hrun,hr⟩:=UI (dst:=some id) (ty:=ty) (pos:=pos) (after:=after) (gd:=gd) (l:=[]) (n:=0) (x:=x) [] hE hu' hlk rfl hy (JN hk R) (by simpa using hb) (by simp;omega) ha hn (by rw[hxe];exact .rowNil id (zF _ _ _));unfold Oper.wp;rw[hrun];refine hK _ _ ?_;refine Sub.drop ?_ (fun i q hq=>?_) (fun i o ho=>?_) _ _ hr
 ·rfl
 ·rw[Nat.zero_add,List.length_map];exact hq
 ·simp only[PState.newO,zD] at ho;simp only[PState.putD,PState.put,PState.setO,PState.junks,zD,List.nil_append]
  by_cases hi:i=id
  ·rw[if_pos hi] at ho ⊢;exact ho
  ·rw[if_neg hi] at ho;rw[if_neg hi,if_neg hi];exact ho
end
end
end Go.Ep
namespace Go.Ep
open Go.RowKit
def RowAt(w:World)(e:TypeId)(k:Nat)(l:List (List DV)):Option (Nat×Nat)->Value->Prop
 | none,v=>l=[]/\v=.slice none 0 0
 | some (b,cap),v=>v=.slice (some ⟨b,0,none⟩) l.length cap/\∃ cur:List Value,w.heap[b]?=some (.cells cur.toArray e (0,0))/\l.length<=cap/\cap<=maxLen/\cur.length=cap*k/\(∀ (i:Nat) (cs:List DV),l[i]?=some cs->cs.length=k) /\
   ∀ (i:Nat) (cs:List DV) (j:Nat) (x:DV),l[i]?=some cs->cs[j]?=some x->∃ u,cur[i*k+j]?=some u/\x=.v u/\u.oneCell'=true
def zza(l:List (List DV)):Prop:=∀ cs∈l,∀ x∈cs,∃ u,x=DV.v u
abbrev Xe:=List (List Int×List (List DV))
def Jd(R:Xe):Mp:=R.map fun p=>(p.1,[DV.sl p.2])
def Dt(ctx:Ctx)(mb:Nat)(blk:Nat->Option (Nat×Nat))(b:Nat):Prop:=(ctx.S b\/ctx.w0.heap.size<=b)/\b≠mb/\∀ i c,blk i≠some (b,c)
structure RelT(ctx:Ctx)(ks:List IntKind)(e:TypeId)(k mid n:Nat)(sl:List (Nat×PV))(R:Xe)(a:Act)(w:World)(g:ze)(mb:Nat)(blk:Nat->Option (Nat×Nat))(es:Array MapEntry)(ck:Nat):Prop where
 defers:a.defers=[]
 size:a.tmps.size=n
 slots:∀ i p,(PState.mk n sl []).at i=some p->Rd w g (Dt ctx mb blk) p (a.tmps.getD i undef)
 gm:∃ q,g mid=some (mb,q)
 lt:mb < w.heap.size/\(ctx.w0.heap.size<=mb\/ctx.K mb)
 hh:w.heap[mb]?=some (.map es ck)
 sz:es.size=R.length
 below:∀ b∈es.toList.map (·.born),b < ck
 nodup:(es.toList.map (·.born)).Nodup
 ent:∀ (i:Nat) (ns:List Int) (l:List (List DV)),R[i]?=some (ns,l)->∃ x,es[i]?=some x/\x.key=uY ks ns/\ns.length=ks.length/\RowAt w e k l (blk i) x.val
 inj:∀ i j b c c',blk i=some (b,c)->blk j=some (b,c')->i=j
 own:∀ i b c,blk i=some (b,c)->b < w.heap.size/\(ctx.w0.heap.size<=b\/ctx.K b)/\b≠mb
 out:∀ i,R.length<=i->blk i=none
 os:w.os=ctx.w0.os
 tape:w.tape=ctx.w0.tape
 output:w.output=ctx.w0.output
 grows:ctx.w0.heap.size<=w.heap.size
 keep:∀ q,q < ctx.w0.heap.size->¬ ctx.K q->w.heap[q]?=ctx.w0.heap[q]?
theorem at_mem{n:Nat}{sl:List (Nat×PV)}{o:List (Nat×Ob)}{i:Nat}{p:PV}(h:(PState.mk n sl o).at i=some p):(i,p)∈sl:=Vf (uH h)
theorem rd_row{w:World}{g:ze}{S:Nat->Prop}{id n:Nat}{u:Value}(h:Rd w g S (.row id n) u):(∃ b c,g id=some (b,c)/\u=.slice (some ⟨b,0,none⟩) n c)\/(g id=none/\n=0/\u=.slice none 0 0):=by
 cases h with
 | row _ _ b c h=>exact .inl ⟨b,c,h,rfl⟩
 | rowNil _ h=>exact .inr ⟨h,rfl,rfl⟩
section
variable{ctx:Ctx}{ks:List IntKind}{e:TypeId}{k mid n:Nat}{sl:List (Nat×PV)}{a:Act}{w:World}{g:ze}
theorem RelT.start{bs0:List Nat}{ck0:Nat}(h:RelG ctx g ⟨n,sl,[(mid,.map ks false [] bs0 ck0)]⟩ a w):∃ mb es ck,RelT ctx ks e k mid n sl [] a w g mb (fun _=>none) es ck:=by
 have hl:look [(mid,Ob.map ks false [] bs0 ck0)] mid=some (.map ks false [] bs0 ck0):=by simp[look]
 cases h.objs mid _ hl with
 | map _ _ _ _ _ blk q es hg hh hm=>
  refine⟨blk,es,ck0,h.defers,h.size,fun i p hp=>?_,⟨q,hg⟩,h.own mid _ blk q hl hg,hh,hm.size,by rw[<- hm.stamps];exact hm.below,by rw[<- hm.stamps];exact hm.nodup,(fun i ns l hi=>by simp at hi),(fun i j b c c' hi=>by cases hi),(fun i b c hi=>by cases hi),fun _ _=>rfl,h.os,h.tape,h.output,h.grows,h.keep⟩;refine(h.slots i p hp).keep ⟨Nat.le_refl _,fun _ _ _=>rfl⟩ (fun b hb _=>⟨hb.1,fun eb=>?_,fun i c hc=>by cases hc⟩) (fun _ _=>rfl);subst eb;exact hb.2 mid _ q hl hg
theorem cell_cur{b:Nat}{cur:List Value}(hh:w.heap[b]?=some (.cells cur.toArray e (0,0)))(o:Nat):w.cell? ⟨b,o,none⟩=cur[o]?:=zj hh o
theorem RelT.done{R:Xe}{mb:Nat}{blk:Nat->Option (Nat×Nat)}{es:Array MapEntry}{ck:Nat}(hK:∀ b,ctx.K b->ctx.S b)(h:RelT ctx ks e k mid n sl R a w g mb blk es ck):RelG ctx g ⟨n,sl,[(mid,.map ks false (Jd R) (es.toList.map (·.born)) ck)]⟩ a w:=by
 obtain⟨q,hg⟩:=h.gm;have hlk:∀ id o,look [(mid,Ob.map ks false (Jd R) (es.toList.map (·.born)) ck)] id=some o->id=mid:=fun id o ho=>by
  simp only[look] at ho
  split at ho
  ·assumption
  ·cases ho
 have hfree:∀ b,(ctx.S b\/ctx.w0.heap.size<=b)->b≠mb->zq ctx g [(mid,Ob.map ks false (Jd R) (es.toList.map (·.born)) ck)] b:=fun b h1 h2=>⟨h1,fun id o m ho hgi=>by
  rw[hlk id o ho,hg] at hgi;cases hgi;exact h2 rfl⟩
 refine⟨h.defers,h.size,fun i p hp=>?_,fun id o ho=>?_,fun i j oi oj b m m' hi hj _ _=>by rw[hlk i oi hi,hlk j oj hj],fun id o b m ho hgi=>?_,h.os,h.tape,h.output,h.grows,h.keep⟩
 ·exact(h.slots i p hp).keep ⟨Nat.le_refl _,fun _ _ _=>rfl⟩ (fun b hb _=>hfree b hb.1 hb.2.1) (fun _ _=>rfl)
 ·have hid:=hlk id o ho;subst hid;simp only[look,if_true] at ho
  cases ho
  refine .map ks false _ _ ck mb q es hg h.hh ⟨by simp[Jd,h.sz],rfl,h.below,h.nodup,fun i ns cs hi=>?_⟩;unfold Jd at hi;rw[List.getElem?_map] at hi
  cases hR:R[i]? with
  | none=>rw[hR] at hi;cases hi
  | some r=>
   obtain⟨ns',l⟩:=r;rw[hR] at hi;simp only[Option.map_some,Option.some.injEq,Prod.mk.injEq] at hi;obtain⟨rfl,rfl⟩:=hi;obtain⟨x,h1,h2,h3,h4⟩:=h.ent i _ l hR;have hd:DRd w (zq ctx g [(id,Ob.map ks false (Jd R) (es.toList.map (·.born)) ck)]) (.sl l) x.val:=by
    cases hb:blk i with
    | none=>
     rw[hb] at h4;obtain⟨rfl,hv⟩:=h4;rw[hv];exact .nil none 0 (Nat.zero_le _) (fun _=>rfl)
    | some bc=>
     obtain⟨b,cap⟩:=bc;rw[hb] at h4;obtain⟨hv,cur,hc,hlc,hcap,hcl,hkk,hr⟩:=h4;rw[hv];obtain⟨o1,o2,o3⟩:=h.own i b cap hb;refine .sl l b 0 cap k (fun i j=>cur.getD (i*k+j) undef) hlc hcap (hfree b (o2.elim .inr fun q=>.inl (hK b q)) o3) o1 hkk (fun i' j' hi' hj'=>?_) fun i' cs j' x' hi' hx'=>?_
     ·rw[cell_cur hc,Nat.zero_add];have:i'*k+j' < cur.length:=by rw[hcl];exact ZZ (by omega) hj'
      simp[List.getD,this]
     ·obtain⟨u,hu,rfl,h1⟩:=hr i' cs j' x' hi' hx';simp only[List.getD,hu,Option.getD_some];exact .v u h1
   refine⟨x,[x.val],h1,h2,rfl,rfl,fun _=>rfl,fun u hu=>by rw[List.mem_singleton] at hu;rw[hu];exact hd.one,h3,fun j y u hy hu=>?_⟩
   cases j with
   | zero=>simp at hy hu;subst hy;subst hu;exact hd
   | succ j=>simp at hy
 ·rw[hlk id o ho,hg] at hgi
  cases hgi
  exact h.lt
def uD(R:Xe)(es:Array MapEntry):List (List Int×Value):=List.zipWith (fun r x=>(r.1,x.val)) R es.toList
theorem vG{R:Xe}{es:Array MapEntry}(h:es.size=R.length):(uD R es).length=R.length:=by simp[uD,h]
theorem QH{R:Xe}{es:Array MapEntry}(h:es.size=R.length):(uD R es).map (·.1)=R.map (·.1):=by
 apply List.ext_getElem?;intro i;simp only[uD,List.getElem?_map,List.getElem?_zipWith]
 cases hR:R[i]? with
 | none=>simp
 | some r=>
  have:i < es.toList.length:=by have:=(List.getElem?_eq_some_iff.1 hR).1;simp;omega
  simp[List.getElem?_eq_getElem this]
theorem QI{R:Xe}{es:Array MapEntry}{i:Nat}{ns:List Int}{u:Value}(h:(uD R es)[i]?=some (ns,u)):∃ l x,R[i]?=some (ns,l)/\es[i]?=some x/\x.val=u:=by
 simp only[uD,List.getElem?_zipWith] at h
 cases hR:R[i]? with
 | none=>rw[hR] at h;cases h
 | some r=>
  cases hx:es.toList[i]? with
  | none=>rw[hR,hx] at h;cases h
  | some x=>
   rw[hR,hx] at h;simp only[Option.some.injEq,Prod.mk.injEq] at h;exact⟨r.2,x,by rw[<- h.1],by simpa using hx,h.2⟩
theorem Vs{R:Xe}{es:Array MapEntry}{i:Nat}{ns:List Int}{l:List (List DV)}{x:MapEntry}(h:R[i]?=some (ns,l))(hx:es[i]?=some x):(uD R es)[i]?=some (ns,x.val):=by
 have hx':es.toList[i]?=some x:=by simpa using hx
 rw[uD,List.getElem?_zipWith,h,hx']
def ctxT(ctx:Ctx)(mb:Nat)(blk:Nat->Option (Nat×Nat))(j:Nat)(w:World):Ctx:=⟨w,Dt ctx mb blk,fun b=>b=mb\/∃ c,blk j=some (b,c)⟩
section
variable{R:Xe}{mb:Nat}{blk:Nat->Option (Nat×Nat)}{es:Array MapEntry}{ck:Nat}
theorem RelT.found(h:RelT ctx ks e k mid n sl R a w g mb blk es ck)(hnm:∀ x∈sl,∀ id,x.2.has id=true->id=mid)(hm:mid≠50){j:Nat}{ns:List Int}{l:List (List DV)}(hj:R[j]?=some (ns,l)) :
  RelG (ctxT ctx mb blk j w) (upd g 50 (blk j)) ⟨n,sl,[(mid,.mapP ks (uD R es) (some (j,.row 50 l.length)) (es.toList.map (·.born)) ck),(50,.row e k l)]⟩ a w:=by
 obtain⟨q,hg⟩:=h.gm;have hgm:upd g 50 (blk j) mid=some (mb,q):=by rw[yS hm];exact hg
 have hg5:upd g 50 (blk j) 50=blk j:=zF _ _ _;have hlk:∀ id o,look [(mid,Ob.mapP ks (uD R es) (some (j,.row 50 l.length)) (es.toList.map (·.born)) ck),(50,Ob.row e k l)] id=some o->(id=mid/\o=.mapP ks (uD R es) (some (j,.row 50 l.length)) (es.toList.map (·.born)) ck)\/(id=50/\o=.row e k l):=fun id o ho=>by
  simp only[look] at ho
  split at ho
  ·cases ho;exact .inl ⟨by assumption,rfl⟩
  ·split at ho
   ·cases ho;exact .inr ⟨by assumption,rfl⟩
   ·cases ho
 have hfree:∀ b,Dt ctx mb blk b->zq (ctxT ctx mb blk j w) (upd g 50 (blk j)) [(mid,Ob.mapP ks (uD R es) (some (j,.row 50 l.length)) (es.toList.map (·.born)) ck),(50,Ob.row e k l)] b:=fun b hb=>⟨.inl hb,fun id o m ho hgi=>by
  rcases hlk id o ho with⟨rfl,_⟩ | ⟨rfl,_⟩
  ·rw[hgm] at hgi;cases hgi;exact hb.2.1 rfl
  ·rw[hg5] at hgi;exact hb.2.2 j m hgi⟩
 obtain⟨x,h1,h2,h3,h4⟩:=h.ent j ns l hj;refine⟨h.defers,h.size,fun i p hp=>?_,fun id o ho=>?_,fun i i' oi oj b m m' hi hi' hgi hgj=>?_,fun id o b m ho hgi=>?_,rfl,rfl,rfl,Nat.le_refl _,fun _ _ _=>rfl⟩
 ·exact(h.slots i p hp).keep ⟨Nat.le_refl _,fun _ _ _=>rfl⟩ (fun b hb _=>hfree b hb) (fun id hid=>by rw[hnm _ (at_mem hp) id hid,hgm,hg])
 ·rcases hlk id o ho with⟨rfl,rfl⟩ | ⟨rfl,rfl⟩
  ·refine .mapP ks _ _ _ ck mb q es hgm h.hh (by rw[vG h.sz,h.sz]) rfl h.below h.nodup (fun i ns' u hi=>?_) fun j' p hjp=>?_
   ·obtain⟨l',x',r1,r2,r3⟩:=QI hi;obtain⟨x2,s1,s2,s3,s4⟩:=h.ent i ns' l' r1;rw[r2] at s1;cases s1;refine⟨x',r2,s2,s3,?_,fun _=>r3⟩
    cases hb:blk i with
    | none=>rw[hb] at s4;rw[s4.2];rfl
    | some bc=>obtain⟨b,c⟩:=bc;rw[hb] at s4;rw[s4.1];rfl
   ·cases hjp
    refine⟨x,h1,?_⟩
    cases hb:blk j with
    | none=>rw[hb] at h4;obtain⟨rfl,hv⟩:=h4;rw[hv];exact .rowNil 50 (zF _ _ _)
    | some bc=>obtain⟨b,c⟩:=bc;rw[hb] at h4;rw[h4.1];exact .row 50 _ b c (zF _ _ _)
  ·cases hb:blk j with
   | none=>rw[hb] at h4;obtain⟨rfl,hv⟩:=h4;exact .rowNil e k (zF _ _ _)
   | some bc=>
    obtain⟨b,c⟩:=bc;rw[hb] at h4;obtain⟨hv,cur,hc,hlc,hcap,hcl,hkk,hr⟩:=h4;refine .row e k l b c cur (zF _ _ _) hc hlc hcap hcl hkk fun i' cs j' x' hi' hx'=>?_
    obtain⟨u,hu,rfl,ho1⟩:=hr i' cs j' x' hi' hx';exact⟨u,hu,.v u ho1⟩
 ·rcases hlk i oi hi with⟨rfl,_⟩ | ⟨rfl,_⟩ <;> rcases hlk i' oj hi' with⟨rfl,_⟩ | ⟨rfl,_⟩
  ·rfl
  ·rw[hgm] at hgi;cases hgi;rw[hg5] at hgj;exact((h.own j _ _ hgj).2.2 rfl).elim
  ·rw[hgm] at hgj;cases hgj;rw[hg5] at hgi;exact((h.own j _ _ hgi).2.2 rfl).elim
  ·rfl
 ·rcases hlk id o ho with⟨rfl,_⟩ | ⟨rfl,_⟩
  ·rw[hgm] at hgi;cases hgi;exact⟨h.lt.1,.inr (.inl rfl)⟩
  ·rw[hg5] at hgi;exact⟨(h.own j _ _ hgi).1,.inr (.inr ⟨_,hgi⟩)⟩
theorem RelT.fresh(h:RelT ctx ks e k mid n sl R a w g mb blk es ck)(j:Nat) :
  RelG (ctxT ctx mb blk j w) g ⟨n,sl,[(mid,.mapP ks (uD R es) none (es.toList.map (·.born)) ck)]⟩ a w:=by
 obtain⟨q,hg⟩:=h.gm;have hlk:∀ id o,look [(mid,Ob.mapP ks (uD R es) none (es.toList.map (·.born)) ck)] id=some o->id=mid/\o=.mapP ks (uD R es) none (es.toList.map (·.born)) ck:=fun id o ho=>by
  simp only[look] at ho
  split at ho
  ·cases ho;exact⟨by assumption,rfl⟩
  ·cases ho
 have hfree:∀ b,Dt ctx mb blk b->zq (ctxT ctx mb blk j w) g [(mid,Ob.mapP ks (uD R es) none (es.toList.map (·.born)) ck)] b:=fun b hb=>⟨.inl hb,fun id o m ho hgi=>by
  rw[(hlk id o ho).1,hg] at hgi;cases hgi;exact hb.2.1 rfl⟩
 refine⟨h.defers,h.size,fun i p hp=>?_,fun id o ho=>?_,fun i i' oi oj b m m' hi hi' hgi hgj=>?_,fun id o b m ho hgi=>?_,rfl,rfl,rfl,Nat.le_refl _,fun _ _ _=>rfl⟩
 ·exact(h.slots i p hp).keep ⟨Nat.le_refl _,fun _ _ _=>rfl⟩ (fun b hb _=>hfree b hb) (fun _ _=>rfl)
 ·obtain⟨rfl,rfl⟩:=hlk id o ho;refine .mapP ks _ _ _ ck mb q es hg h.hh (by rw[vG h.sz,h.sz]) rfl h.below h.nodup (fun i ns' u hi=>?_) fun j' p hjp=>by cases hjp
  obtain⟨l',x',r1,r2,r3⟩:=QI hi;obtain⟨x2,s1,s2,s3,s4⟩:=h.ent i ns' l' r1;rw[r2] at s1;cases s1;refine⟨x',r2,s2,s3,?_,fun _=>r3⟩
  cases hb:blk i with
  | none=>rw[hb] at s4;rw[s4.2];rfl
  | some bc=>obtain⟨b,c⟩:=bc;rw[hb] at s4;rw[s4.1];rfl
 ·rw[(hlk i oi hi).1,(hlk i' oj hi').1]
 ·rw[(hlk id o ho).1,hg] at hgi;cases hgi;exact⟨h.lt.1,.inr (.inl rfl)⟩
theorem RelT.back(h:RelT ctx ks e k mid n sl R a w g mb blk es ck){j q:Nat}{ns:List Int}{l:List (List DV)}{R':Xe}{vm:List (List Int×Value)}{sl':List (Nat×PV)}{a':Act}{w':World}{g':ze}{bs':List Nat}{ck':Nat}(hq:mid≠q)(hle:R.length<=R'.length)
  (hvl:vm.length=R'.length) (hj:R'[j]?=some (ns,l)) (hjv:∃ u,vm[j]?=some (ns,u)) (hvm:∀ i ns' l',i≠j->R'[i]?=some (ns',l')->R[i]?=some (ns',l')/\∃ x,es[i]?=some x/\vm[i]?=some (ns',x.val)) (hpl:zza l)
  (hr:RelG (ctxT ctx mb blk j w) g' ⟨n,sl',[(mid,.mapP ks vm (some (j,.row q l.length)) bs' ck'),(q,.row e k l)]⟩ a' w') :
  ∃ mb' blk' es',RelT ctx ks e k mid n sl' R' a' w' g' mb' blk' es' ck':=by
 have hlm:look [(mid,Ob.mapP ks vm (some (j,.row q l.length)) bs' ck'),(q,Ob.row e k l)] mid=some (.mapP ks vm (some (j,.row q l.length)) bs' ck'):=by simp[look]
 have hlq:look [(mid,Ob.mapP ks vm (some (j,.row q l.length)) bs' ck'),(q,Ob.row e k l)] q=some (.row e k l):=by simp[look,Ne.symm hq]
 cases hr.objs mid _ hlm with
 | mapP _ _ _ _ _ mb' n' es' hgm hh hsz hst hbl hnd hent hov=>
  subst hst;have hgr:w.heap.size<=w'.heap.size:=hr.grows;have hbase:ctx.w0.heap.size<=w.heap.size:=h.grows;have hown:∀ id o b m,look [(mid,Ob.mapP ks vm (some (j,.row q l.length)) (es'.toList.map (·.born)) ck'),(q,Ob.row e k l)] id=some o->g' id=some (b,m)->b < w'.heap.size/\(w.heap.size<=b\/b=mb\/∃ c,blk j=some (b,c)):=fun id o b m ho hg=>hr.own id o b m ho hg
  have hnew:∀ b,(w.heap.size<=b\/b=mb\/∃ c,blk j=some (b,c))->ctx.w0.heap.size<=b\/ctx.K b:=fun b hb=>by
   rcases hb with hb | hb | ⟨c,hb⟩
   ·exact .inl (by omega)
   ·subst hb;exact h.lt.2
   ·exact(h.own j b c hb).2.1
  have hkeep:∀ i b c,i≠j->blk i=some (b,c)->w'.heap[b]?=w.heap[b]?:=fun i b c hij hb=>hr.keep b (h.own i b c hb).1 fun hk=>by
   rcases hk with hk | ⟨c',hk⟩
   ·exact(h.own i b c hb).2.2 hk
   ·exact hij (h.inj i j b c c' hb hk)
  have hdiff:∀ i b c,i≠j->blk i=some (b,c)->¬ (w.heap.size<=b\/b=mb\/∃ c,blk j=some (b,c)):=fun i b c hij hb hk=>by
   rcases hk with hk | hk | ⟨c',hk⟩
   ·have:=(h.own i b c hb).1;omega
   ·exact(h.own i b c hb).2.2 hk
   ·exact hij (h.inj i j b c c' hb hk)
  refine⟨mb',fun i=>if i=j then g' q else blk i,es',hr.defers,hr.size,fun i p hp=>?_,⟨n',hgm⟩,⟨(hown mid _ mb' n' hlm hgm).1,hnew mb' (hown mid _ mb' n' hlm hgm).2⟩,hh,by rw[hsz,hvl],hbl,hnd,fun i ns' l' hi=>?_,fun i i' b c c' hi hi'=>?_,fun i b c hi=>?_,fun i hi=>?_,?_,?_,?_,by omega,fun z hz hzK=>?_⟩
  ·refine(hr.slots i p hp).keep ⟨Nat.le_refl _,fun _ _ _=>rfl⟩ (fun b hb _=>⟨?_,fun eb=>?_,fun i' c hc=>?_⟩) (fun _ _=>rfl)
   ·rcases hb.1 with h1 | h1
    ·exact h1.1
    ·have h1':w.heap.size<=b:=h1;exact .inr (by omega)
   ·subst eb;exact hb.2 mid _ n' hlm hgm
   ·simp only at hc
    split at hc
    ·exact hb.2 q _ c hlq hc
    ·rcases hb.1 with h1 | h1
     ·exact h1.2.2 i' c hc
     ·have h1':w.heap.size<=b:=h1;have:=(h.own i' b c hc).1;omega
  ·by_cases hij:i=j
   ·subst hij;rw[hj] at hi
    cases hi
    obtain⟨u,hu⟩:=hjv;obtain⟨x,r1,r2,r3,_,_⟩:=hent i _ u hu;obtain⟨x',s1,s2⟩:=hov i _ rfl;rw[r1] at s1
    cases s1
    refine⟨x,r1,r2,r3,?_⟩;simp only[if_true];have h2:=rd_row s2
    generalize hL:l.length=L at h2
    cases hr.objs q _ hlq with
    | rowNil _ _ hgq=>
     rw[hgq];rcases h2 with⟨b,c,hgi,_⟩ | ⟨_,_,hv⟩
     ·rw[hgq] at hgi;cases hgi
     ·exact⟨rfl,hv⟩
    | row _ _ _ b c cur hgq hc hlc hcap hcl hkk hrr=>
     rw[hgq];rcases h2 with⟨b',c',hgi,hv⟩ | ⟨hgi,_,_⟩
     ·rw[hgq] at hgi
      cases hgi
      subst hL;refine⟨hv,cur,hc,hlc,hcap,hcl,hkk,fun i' cs j' y hi' hy=>?_⟩;obtain⟨u',hu',hd⟩:=hrr i' cs j' y hi' hy;obtain⟨u2,rfl⟩:=hpl cs (List.mem_of_getElem? hi') y (List.mem_of_getElem? hy)
      cases hd with
      | v _ h1=>exact⟨_,hu',rfl,h1⟩
     ·rw[hgq] at hgi;cases hgi
   ·obtain⟨r0,x0,e0,r1⟩:=hvm i ns' l' hij hi;obtain⟨x,s1,s2,s3,s4,s5⟩:=hent i _ _ r1;refine⟨x,s1,s2,s3,?_⟩;have hxv:=s5 fun p hp=>by cases hp;exact hij rfl
    simp only[if_neg hij];obtain⟨x',t1,_,_,t4⟩:=h.ent i ns' l' r0;rw[e0] at t1
    cases t1
    rw[hxv]
    cases hb:blk i with
    | none=>rw[hb] at t4;exact t4
    | some bc=>
     obtain⟨b,c⟩:=bc;rw[hb] at t4;obtain⟨hv,cur,hc,rest⟩:=t4;exact⟨hv,cur,by rw[hkeep i b c hij hb];exact hc,rest⟩
  ·have hi0:=hi;have hi0':=hi';clear hi hi';have hi:(if i=j then g' q else blk i)=some (b,c):=hi0;have hi':(if i'=j then g' q else blk i')=some (b,c'):=hi0'
   by_cases h1:i=j <;> by_cases h2:i'=j
   ·rw[h1,h2]
   ·rw[if_pos h1] at hi;rw[if_neg h2] at hi';exact(hdiff i' b c' h2 hi' (hown q _ b c hlq hi).2).elim
   ·rw[if_neg h1] at hi;rw[if_pos h2] at hi';exact(hdiff i b c h1 hi (hown q _ b c' hlq hi').2).elim
   ·rw[if_neg h1] at hi;rw[if_neg h2] at hi';exact h.inj i i' b c c' hi hi'
  ·replace hi:(if i=j then g' q else blk i)=some (b,c):=hi
   by_cases h1:i=j
   ·rw[if_pos h1] at hi;have:=hown q _ b c hlq hi;exact⟨this.1,hnew b this.2,fun eb=>by subst eb;exact hq (hr.inj mid q _ _ b n' c hlm hlq hgm hi)⟩
   ·rw[if_neg h1] at hi;have:=h.own i b c hi;exact⟨by omega,this.2.1,fun eb=>by subst eb;exact hdiff i b c h1 hi (hown mid _ b n' hlm hgm).2⟩
  ·have hjl:=(List.getElem?_eq_some_iff.1 hj).1;simp only[if_neg (show i≠j by omega)];exact h.out i (by omega)
  ·rw[<- h.os];exact hr.os
  ·rw[<- h.tape];exact hr.tape
  ·rw[<- h.output];exact hr.output
  ·rw[<- h.keep z hz hzK];refine hr.keep z (Nat.lt_of_lt_of_le hz hbase) fun hk=>?_
   rcases hk with hk | ⟨c,hk⟩
   ·subst hk;rcases h.lt.2 with h1 | h1
    ·omega
    ·exact hzK h1
   ·rcases(h.own j z c hk).2.1 with h1 | h1
    ·omega
    ·exact hzK h1
theorem RelT.back0(h:RelT ctx ks e k mid n sl R a w g mb blk es ck){j:Nat}(hjn:blk j=none){sl':List (Nat×PV)}{a':Act}{w':World}{g':ze}{bs':List Nat}{ck':Nat}
  (hr:RelG (ctxT ctx mb blk j w) g' ⟨n,sl',[(mid,.mapP ks (uD R es) none bs' ck')]⟩ a' w') :
  ∃ mb' es',RelT ctx ks e k mid n sl' R a' w' g' mb' blk es' ck':=by
 have hlm:look [(mid,Ob.mapP ks (uD R es) none bs' ck')] mid=some (.mapP ks (uD R es) none bs' ck'):=by simp[look]
 cases hr.objs mid _ hlm with
 | mapP _ _ _ _ _ mb' n' es' hgm hh hsz hst hbl hnd hent hov=>
  subst hst;have hgr:w.heap.size<=w'.heap.size:=hr.grows;have hbase:ctx.w0.heap.size<=w.heap.size:=h.grows;have hown:mb' < w'.heap.size/\(w.heap.size<=mb'\/mb'=mb\/∃ c,blk j=some (mb',c)):=hr.own mid _ mb' n' hlm hgm;have hown2:w.heap.size<=mb'\/mb'=mb:=by
   rcases hown.2 with h1 | h1 | ⟨c,h1⟩
   ·exact .inl h1
   ·exact .inr h1
   ·rw[hjn] at h1;cases h1
  have hkeep:∀ i b c,blk i=some (b,c)->w'.heap[b]?=w.heap[b]?:=fun i b c hb=>hr.keep b (h.own i b c hb).1 fun hk=>by
   rcases hk with hk | ⟨c',hk⟩
   ·exact(h.own i b c hb).2.2 hk
   ·rw[hjn] at hk;cases hk
  refine⟨mb',es',hr.defers,hr.size,fun i p hp=>?_,⟨n',hgm⟩,⟨hown.1,?_⟩,hh,by rw[hsz,vG h.sz],hbl,hnd,fun i ns' l' hi=>?_,h.inj,fun i b c hi=>?_,h.out,?_,?_,?_,by omega,fun z hz hzK=>?_⟩
  ·refine(hr.slots i p hp).keep ⟨Nat.le_refl _,fun _ _ _=>rfl⟩ (fun b hb _=>⟨?_,fun eb=>?_,fun i' c hc=>?_⟩) (fun _ _=>rfl)
   ·rcases hb.1 with h1 | h1
    ·exact h1.1
    ·have h1':w.heap.size<=b:=h1;exact .inr (by omega)
   ·subst eb;exact hb.2 mid _ n' hlm hgm
   ·rcases hb.1 with h1 | h1
    ·exact h1.2.2 i' c hc
    ·have h1':w.heap.size<=b:=h1;have:=(h.own i' b c hc).1;omega
  ·rcases hown2 with h1 | h1
   ·exact .inl (by omega)
   ·rw[h1];exact h.lt.2
  ·obtain⟨x',t1,t2,t3,t4⟩:=h.ent i ns' l' hi;obtain⟨x,s1,s2,s3,s4,s5⟩:=hent i _ _ (Vs hi t1);refine⟨x,s1,s2,s3,?_⟩;rw[s5 fun p hp=>by cases hp]
   cases hb:blk i with
   | none=>rw[hb] at t4;exact t4
   | some bc=>
    obtain⟨b,c⟩:=bc;rw[hb] at t4;obtain⟨hv,cur,hc,rest⟩:=t4;exact⟨hv,cur,by rw[hkeep i b c hb];exact hc,rest⟩
  ·have:=h.own i b c hi;refine⟨by omega,this.2.1,fun eb=>?_⟩;rcases hown2 with h1 | h1
   ·omega
   ·exact this.2.2 (by rw[eb,h1])
  ·rw[<- h.os];exact hr.os
  ·rw[<- h.tape];exact hr.tape
  ·rw[<- h.output];exact hr.output
  ·rw[<- h.keep z hz hzK];refine hr.keep z (Nat.lt_of_lt_of_le hz hbase) fun hk=>?_
   rcases hk with hk | ⟨c,hk⟩
   ·subst hk;rcases h.lt.2 with h1 | h1
    ·omega
    ·exact hzK h1
   ·rw[hjn] at hk;cases hk
end
end
section
variable{P:Program}{ctx:Ctx}{ks:List IntKind}{e:TypeId}{k mid n:Nat}{Q:PQ}{s:PState}{c:Code}
inductive RoundT (P:Program) (c:Code) (ks:List IntKind) (e:TypeId) (k mid n:Nat) (sl:List (Nat×PV)) (R:Xe) (sl':List (Nat×PV)) (R':Xe):Prop
 | found {j nl nl':Nat} {ns:List Int} {l l':List (List DV)} (hl:nl=l.length) (hl':nl'=l'.length) (hj:R[j]?=some (ns,l)) (hR:R'=R.set j (ns,l'))
   (h:∀ (ctx:Ctx) (vm:List (List Int×Value)) (bs:List Nat) (ck:Nat),vm.map (·.1)=R.map (·.1)->PWc P ctx c (fun x t=>x=.normal/\Sub ctx t ⟨n,sl',[(mid,.mapP ks vm (some (j,.row 50 nl')) bs ck),(50,.row e k l')]⟩) ⟨n,sl,[(mid,.mapP ks vm (some (j,.row 50 nl)) bs ck),(50,.row e k l)]⟩)
 | fresh {q nl':Nat} {ns:List Int} {l':List (List DV)} (hl':nl'=l'.length) (hq:mid≠q) (hR:R'=R++[(ns,l')])
   (h:∀ (ctx:Ctx) (vm:List (List Int×Value)) (bs:List Nat) (ck:Nat),vm.map (·.1)=R.map (·.1)->PWc P ctx c (fun x t=>x=.normal/\Sub ctx t ⟨n,sl',[(mid,.mapP ks (vm++[(ns,undef)]) (some (vm.length,.row q nl')) (bs++[ck]) (ck+1)),(q,.row e k l')]⟩) ⟨n,sl,[(mid,.mapP ks vm none bs ck)]⟩)
 | skip (hR:R'=R) (h:∀ (ctx:Ctx) (vm:List (List Int×Value)) (bs:List Nat) (ck:Nat),PWc P ctx c (fun x t=>x=.normal/\Sub ctx t ⟨n,sl',[(mid,.mapP ks vm none bs ck)]⟩) ⟨n,sl,[(mid,.mapP ks vm none bs ck)]⟩)
theorem RoundT.run{sl sl':List (Nat×PV)}{R R':Xe}(hr:RoundT P c ks e k mid n sl R sl' R')(hm:mid≠50)(hnm:∀ x∈sl,∀ id,x.2.has id=true->id=mid)(hpl:∀ p∈R',zza p.2)
  {a:Act} {w:World} {g:ze} {mb:Nat} {blk:Nat->Option (Nat×Nat)} {es:Array MapEntry} {ck:Nat} (h:RelT ctx ks e k mid n sl R a w g mb blk es ck) :
  c.wp P (fun x a' w'=>x=.normal/\∃ g' mb' blk' es' ck',RelT ctx ks e k mid n sl' R' a' w' g' mb' blk' es' ck') a w:=by
 cases hr with
 | @found j nl nl' ns l l' hl hl' hj hR hw=>
  subst hl hl';refine wp_mono (hw (ctxT ctx mb blk j w) (uD R es) (es.toList.map (·.born)) ck (QH h.sz) a w ⟨_,h.found hnm hm hj⟩) fun x a' w' ⟨t,⟨hx,hs⟩,ht⟩=>⟨hx,?_⟩
  obtain⟨g',hg'⟩:=hs a' w' ht;subst hR;have hjl:=(List.getElem?_eq_some_iff.1 hj).1;obtain⟨x0,e0,_,_,_⟩:=h.ent j ns l hj;have hj':(R.set j (ns,l'))[j]?=some (ns,l'):=by rw[List.getElem?_set_self hjl]
  obtain⟨mb',blk',es',hT⟩:=h.back (R':=R.set j (ns,l')) (vm:=uD R es) (q:=50) hm (by simp) (by rw[vG h.sz];simp) hj' ⟨x0.val,Vs hj e0⟩ (fun i ns' l2 hij hi=>by
   rw[List.getElem?_set_ne (Ne.symm hij)] at hi;obtain⟨x1,e1,_⟩:=h.ent i ns' l2 hi;exact⟨hi,x1,e1,Vs hi e1⟩) (hpl _ (List.mem_of_getElem? hj')) hg'
  exact⟨g',mb',blk',es',_,hT⟩
 | @fresh q nl' ns l' hl' hq hR hw=>
  subst hl';refine wp_mono (hw (ctxT ctx mb blk R.length w) (uD R es) (es.toList.map (·.born)) ck (QH h.sz) a w ⟨_,h.fresh R.length⟩) fun x a' w' ⟨t,⟨hx,hs⟩,ht⟩=>⟨hx,?_⟩
  obtain⟨g',hg'⟩:=hs a' w' ht;subst hR;have hj':(R++[(ns,l')])[R.length]?=some (ns,l'):=by simp
  rw[vG h.sz] at hg';obtain⟨mb',blk',es',hT⟩:=h.back (R':=R++[(ns,l')]) (j:=R.length) (vm:=uD R es++[(ns,undef)]) (q:=q) hq (by simp) (by simp[vG h.sz]) hj' ⟨undef,by rw[List.getElem?_append_right (by rw[vG h.sz];exact Nat.le_refl _)];simp[vG h.sz]⟩ (fun i ns' l2 hij hi=>by
   have hil:i < R.length:=by
    have:=(List.getElem?_eq_some_iff.1 hi).1;simp at this;omega
   rw[List.getElem?_append_left hil] at hi;obtain⟨x1,e1,_⟩:=h.ent i ns' l2 hi;exact⟨hi,x1,e1,by rw[List.getElem?_append_left (by rw[vG h.sz];exact hil)];exact Vs hi e1⟩) (hpl _ (List.mem_of_getElem? hj')) hg'
  exact⟨g',mb',blk',es',_,hT⟩
 | skip hR hw=>
  refine wp_mono (hw (ctxT ctx mb blk R.length w) (uD R es) (es.toList.map (·.born)) ck a w ⟨_,h.fresh R.length⟩) fun x a' w' ⟨t,⟨hx,hs⟩,ht⟩=>⟨hx,?_⟩
  obtain⟨g',hg'⟩:=hs a' w' ht;subst hR;obtain⟨mb',es',hT⟩:=h.back0 (h.out _ (Nat.le_refl _)) hg';exact⟨g',mb',blk,es',_,hT⟩
theorem PWc.loopRows{bid N:Nat}(J:Nat->List (Nat×PV))(R:Nat->Xe)(Jf:List (Nat×PV))(bs0:List Nat)(ck0:Nat)(hK:∀ b,ctx.K b->ctx.S b)(hm:mid≠50)(hJ:∀ i,∀ x∈J i,∀ id,x.2.has id=true->id=mid)
  (h0:R 0=[]) (hpl:∀ i,∀ p∈R i,zza p.2) (hs:Sub ctx s ⟨n,J 0,[(mid,.map ks false [] bs0 ck0)]⟩)
  (round:∀ i,i < N->RoundT P c ks e k mid n (J i) (R i) (J (i+1)) (R (i+1)))
  (mf:Mp) (hmf:Jd (R N)=mf) (last:∀ (ctx:Ctx) (vm:List (List Int×Value)) (bs:List Nat) (ck:Nat),PWc P ctx c (fun x t=>x=.exit bid/\Sub ctx t ⟨n,Jf,[(mid,.mapP ks vm none bs ck)]⟩) ⟨n,J N,[(mid,.mapP ks vm none bs ck)]⟩)
  (hQ:∀ bs ck,Q (.exit bid) ⟨n,Jf,[(mid,.map ks false mf bs ck)]⟩):PWc P ctx (.loop c) Q s:=by
 subst hmf;intro a w hr;refine LoopAt.loop ?_;have key:∀ d i,i+d=N->∀ a w g mb blk es ck,RelT ctx ks e k mid n (J i) (R i) a w g mb blk es ck->LoopAt P c (lift ctx Q) a w:=by
  intro d
  induction d with
  | zero=>
   intro i hi a w g mb blk es ck h;have:i=N:=by omega
   subst this;refine LoopAt.step (wp_mono (last (ctxT ctx mb blk (R i).length w) (uD (R i) es) (es.toList.map (·.born)) ck a w ⟨_,h.fresh (R i).length⟩) fun x a' w' ⟨t,⟨hx,hsb⟩,ht⟩=>?_);obtain⟨g',hg'⟩:=hsb a' w' ht;obtain⟨mb',es',hT⟩:=h.back0 (h.out _ (Nat.le_refl _)) hg';subst hx;exact⟨_,hQ _ _,g',hT.done hK⟩
  | succ d ih=>
   intro i hi a w g mb blk es ck h;refine LoopAt.step (wp_mono ((round i (by omega)).run hm (hJ i) (hpl (i+1)) h) fun x a' w' ⟨hx,g',mb',blk',es',ck',hT⟩=>?_);subst hx;exact ih (i+1) (by omega) a' w' g' mb' blk' es' ck' hT
 obtain⟨g,hg⟩:=hs a w hr;obtain⟨mb,es,ck,hT⟩:=RelT.start (e:=e) (k:=k) hg;rw[<- h0] at hT;exact key N 0 (by omega) a w g mb _ es ck hT
end
section
variable{κ α:Type}{eK:κ->List Int}{enc:α->List DV}
def vT(eK:κ->List Int)(enc:α->List DV)(m:List (κ×List α)):Xe:=m.map fun x=>(eK x.1,x.2.map enc)
theorem z0a(m:List (κ×List α)):Jd (vT eK enc m)=zC eK (eL enc) m:=by simp[Jd,vT,zC,eL]
theorem VV(h:∀ x,∀ d∈enc x,∃ u,d=DV.v u)(m:List (κ×List α)):∀ p∈vT eK enc m,zza p.2:=by
 intro p hp cs hcs d hd;simp only[vT,List.mem_map] at hp;obtain⟨x,_,rfl⟩:=hp;obtain⟨y,_,rfl⟩:=List.mem_map.1 hcs;exact h y d hd
variable[DecidableEq κ]
theorem WY{vm:List (List Int×Value)}{R:Xe}(h:vm.map (·.1)=R.map (·.1)):uk vm=R.map fun x=>(x.1,[]):=by
 have e1:uk vm=(vm.map (·.1)).map fun k=>(k,[]):=by simp[uk]
 rw[e1,h];simp
theorem Wz(inj:∀ a b,eK a=eK b->a=b)(q:κ):∀ m:List (κ×List α),
  (∃ j l,yy (eK q) ((vT eK enc m).map fun x=>(x.1,([]:List DV))) 0=some j/\(vT eK enc m)[j]?=some (eK q,l.map enc)/\AL.getZ m q []=l/\∀ l',vT eK enc (AL.set m q l')=(vT eK enc m).set j (eK q,l'.map enc)) \/
  (yy (eK q) ((vT eK enc m).map fun x=>(x.1,([]:List DV))) 0=none/\AL.getZ m q []=[]/\∀ l',vT eK enc (AL.set m q l')=vT eK enc m++[(eK q,l'.map enc)])
 | []=>.inr ⟨rfl,rfl,fun _=>rfl⟩
 | (k,v)::r=>by
  by_cases h:k=q
  ·subst h;refine .inl ⟨0,v,?_,rfl,?_,fun l'=>?_⟩
   ·show(if eK k=eK k then _ else _)=_;rw[if_pos rfl]
   ·simp[AL.getZ,AL.get]
   ·simp[vT,AL.set]
  ·have he:¬ eK k=eK q:=fun e=>h (inj _ _ e)
   have hp:yy (eK q) ((vT eK enc ((k,v)::r)).map fun x=>(x.1,([]:List DV))) 0=(yy (eK q) ((vT eK enc r).map fun x=>(x.1,([]:List DV))) 0).map (1+·):=by
    show(if eK k=eK q then _ else _)=_;rw[if_neg he,wV]
    rfl
   have hg:AL.getZ ((k,v)::r) q []=AL.getZ r q []:=by simp[AL.getZ,AL.get,h]
   rcases Wz inj q r with⟨j,l,h1,h2,h3,h4⟩ | ⟨h1,h2,h3⟩
   ·refine .inl ⟨1+j,l,by rw[hp,h1];rfl,?_,by rw[hg,h3],fun l'=>?_⟩
    ·rw[Nat.add_comm];exact h2
    ·rw[Nat.add_comm];have:=h4 l';simp only[AL.set,h,if_false];show _::vT eK enc (AL.set r q l')=_::_;rw[this];rfl
   ·refine .inr ⟨by rw[hp,h1];rfl,by rw[hg,h2],fun l'=>?_⟩;simp only[AL.set,h,if_false];show _::vT eK enc (AL.set r q l')=_::_;rw[h3 l'];rfl
end
namespace AL
variable{κ α β:Type}[DecidableEq κ]
theorem xoa{ν:Type}(m:List (κ×ν))(k q:κ)(v z:ν):getZ (set m k v) q z=if k=q then v else getZ m q z:=by
 induction m with
 | nil=>by_cases h:k=q <;> simp[getZ,set,get,h]
 | cons x r ih=>
  obtain⟨a,u⟩:=x
  by_cases ha:a=k
  ·subst ha
   by_cases h:a=q <;> simp[getZ,set,get,h]
  ·simp only[set,ha,if_false]
   by_cases h:a=q
   ·subst h;have:¬ k=a:=fun e=>ha e.symm
    simp[getZ,get,this]
   ·have e1:getZ ((a,u)::set r k v) q z=getZ (set r k v) q z:=by simp[getZ,get,h]
    have e2:getZ ((a,u)::r) q z=getZ r q z:=by simp[getZ,get,h]
    rw[e1,e2];exact ih
theorem zHa(m l l':List (κ×List α)):grow m (l++l')=grow (grow m l) l':=by simp[grow]
theorem grow_take{c:List β}{i:Nat}{p:β}(hp:c[i]?=some p)(f:β->Option (κ×List α)):grow ([]:List (κ×List α)) ((c.take (i+1)).filterMap f)=grow (grow [] ((c.take i).filterMap f)) (f p).toList:=by
 rw[List.take_add_one,hp,List.filterMap_append,zHa]
 cases h:f p <;> simp[h]
theorem grow_len(q:κ)(l:List (κ×List α)):∀ m:List (κ×List α),(getZ (grow m l) q []).length<=(getZ m q []).length+(l.map fun x=>x.2.length).sum:=by
 induction l with
 | nil=>intro m;simp[grow]
 | cons x r ih=>
  intro m;have h1:=ih (set m x.1 (getZ m x.1 []++x.2));rw[xoa] at h1;show(getZ (grow (set m x.1 (getZ m x.1 []++x.2)) r) q []).length<=_;simp only[List.map_cons,List.sum_cons]
  by_cases h:x.1=q
  ·subst h;rw[if_pos rfl,List.length_append] at h1;omega
  ·rw[if_neg h] at h1;omega
theorem grow_bound{c:List β}{i n bs:Nat}{p:β}{x:κ×List α}{f:β->Option (κ×List α)}(hB:growOK bs n (c.filterMap f))(hp:c[i]?=some p)(hf:f p=some x) :
  ((getZ (grow [] ((c.take i).filterMap f)) x.1 []).length+x.2.length)*bs<=140737488355328:=by
 have h1:=grow_len x.1 ((c.take i).filterMap f) [];have h2:c=c.take i++p::c.drop (i+1):=by
  have hlt:=(List.getElem?_eq_some_iff.1 hp).1;have:c[i]=p:=(List.getElem?_eq_some_iff.1 hp).2;rw[<- this,<- List.drop_eq_getElem_cons hlt,List.take_append_drop]
 have h3:((c.filterMap f).map fun x=>x.2.length).sum=(((c.take i).filterMap f).map fun x=>x.2.length).sum+(x.2.length+(((c.drop (i+1)).filterMap f).map fun x=>x.2.length).sum):=by
  conv=>lhs;rw[h2]
  simp[List.filterMap_append,List.filterMap_cons,hf]
 have h4:(getZ ([]:List (κ×List α)) x.1 []).length=0:=by simp[getZ,get]
 refine Nat.le_trans (Nat.mul_le_mul_right bs ?_) hB.2;omega
end AL
theorem xpa{s s':PState}(h1:s'.n=s.n)(h2:s'.sl=s.sl){y:Operand}{q:PV}(h:s.ev y=some q):s'.ev y=some q:=by
 cases y with
 | tmp t=>show s'.at t=_;unfold PState.at;rw[h1,h2];exact h
 | const v=>cases v <;> exact h
 | func f=>exact h
 | global g=>exact h
theorem evObjs{s:PState}{objs:List (Nat×Ob)}{y:Operand}{q:PV}(h:s.ev y=some q):({ s with objs:=objs }:PState).ev y=some q:=xpa (s:=s) rfl rfl h
theorem UX{s:PState}{id:Nat}{e k:Nat}{l:List (List DV)}(h:s.fresh id=true):({ s with objs:=yF id (.row e k l) s.objs }:PState).alone id=true:=by
 unfold PState.fresh at h;unfold PState.alone;rw[Bool.and_eq_true] at h ⊢;refine⟨h.1,List.all_eq_true.2 fun x hx=>?_⟩;obtain⟨xk,xo⟩:=x;rcases Vq hx with h3 | h3
 ·cases h3;rfl
 ·have:=List.all_eq_true.1 h.2 _ h3;simp only[Bool.and_eq_true] at this;exact this.2
theorem idxU{α:Type}{l:List α}{i:Int}{x y:α}(h1:0<=i/\l[i.toNat]?=some x)(h2:0<=i/\l[i.toNat]?=some y):x=y:=by have:=h1.2.symm.trans h2.2;cases this;rfl
theorem detU{α:Type}{m:M α}{x y:α}(h1:m.wp (·=x))(h2:m.wp (·=y)):x=y:=by obtain⟨z,h3,h4⟩:=m.meet h1 h2;rw[<- h3,h4]
theorem xqa{i:Nat}(h:i < 9223372036854775807):IntKind.i64.wrap ((i:Int)+1)=((i+1:Nat):Int):=by rw[zha (by omega) (by omega)];rfl
end Go.Ep
namespace Go.Ep
open Go.RowKit
theorem xra{α β : Type}(f : α->β){l l' : List β}(h : l'.Perm l) : ∀ Z : List α, Z.map f=l->∃ Z' : List α, Z'.Perm Z/\Z'.map f=l' := by
  induction h with
  | nil => intro Z hZ; exact ⟨[], by have : Z = [] := by simpa using hZ
                                     rw[this], rfl⟩
  | cons x _ ih =>
    intro Z hZ
    cases Z with
    | nil => cases hZ
    | cons z r =>
      simp only[List.map_cons, List.cons.injEq] at hZ;obtain⟨Z', h1, h2⟩ := ih r hZ.2;exact⟨z::Z', h1.cons z, by simp[hZ.1, h2]⟩
  | swap x y _ =>
    intro Z hZ
    match Z, hZ with
    | a::b::r, hZ =>
      simp only[List.map_cons, List.cons.injEq] at hZ;exact⟨b::a::r, List.Perm.swap a b r, by simp[hZ]⟩
    | [a], hZ => simp at hZ
    | [], hZ => cases hZ
  | trans _ _ ih1 ih2 =>
    intro Z hZ;obtain⟨Z1, h1, h2⟩ := ih2 Z hZ;obtain⟨Z2, h3, h4⟩ := ih1 Z1 h2;exact⟨Z2, h3.trans h1, h4⟩
section
variable{P:Program}{ctx:Ctx}{Q:PQ}{s:PState}
variable{dst:Option Tmp}{ty:TypeId}{pos:String}{after:Array Edge}{gd:Option (Nat×Bool)}
theorem raws{α X:Type}{enc:α->List Value}{encD:X->List DV}{R:X->α->Prop}{k:Nat}{w:World}{S:Nat->Prop}{cur:List Value}
  (hraw:∀ (x:X) (us:List Value),us.length=k->(∀ (j:Nat) (d:DV) (u:Value),(encD x)[j]?=some d->us[j]?=some u->DRd w S d u)->∃ r:α,enc r=us/\R x r) (hk:∀ y,(encD y).length=k) :
  ∀ (l:List X) (b:Nat),(∀ (i:Nat) (x:X) (j:Nat) (d:DV),l[i]?=some x->(encD x)[j]?=some d->∃ u,cur[(b+i)*k+j]?=some u/\DRd w S d u) ->
   ∃ Z:List (X×α),Z.map (·.1)=l/\∀ i z,Z[i]?=some z->R z.1 z.2/\(∀ (j:Nat) (u:Value),(enc z.2)[j]?=some u->cur[(b+i)*k+j]?=some u)/\∀ (j:Nat) (d:DV) (u:Value),(encD z.1)[j]?=some d->(enc z.2)[j]?=some u->DRd w S d u
 | [],b,_=>⟨[],rfl,fun i z h=>by simp at h⟩
 | x::r,b,h=>by
  obtain⟨Z,h1,h2⟩:=raws hraw hk r (b+1) fun i y j d hi hd=>by
   have:=h (i+1) y j d (by simpa using hi) hd
   rwa [show b+(i+1)=b+1+i by omega] at this
  let us:List Value:=(List.range k).map fun j=>cur.getD (b*k+j) undef
  have hget:∀ j d,(encD x)[j]?=some d->∃ u,us[j]?=some u/\cur[b*k+j]?=some u/\DRd w S d u:=fun j d hd=>by
   obtain⟨u,h3,h4⟩:=h 0 x j d rfl hd;rw[Nat.add_zero] at h3;have hj:j < k:=by rw[<- hk x];exact(List.getElem?_eq_some_iff.1 hd).1
   exact⟨u,by simp[us,hj,List.getD,h3],h3,h4⟩
  obtain⟨q,h3,h4⟩:=hraw x us (by simp[us]) fun j d u hd hu=>by
   obtain⟨u',h5,_,h6⟩:=hget j d hd;rw[h5] at hu;cases hu;exact h6
  refine⟨(x,q)::Z,by simp[h1],fun i z hz=>?_⟩
  cases i with
  | zero=>
   simp only[List.getElem?_cons_zero,Option.some.injEq] at hz;subst hz;refine⟨h4,fun j u hu=>?_,fun j d u hd hu=>?_⟩
   ·rw[Nat.add_zero];simp only[h3] at hu;have hj:j < k:=by have:=(List.getElem?_eq_some_iff.1 hu).1;simpa[us] using this
    have hj2:j < (encD x).length:=by rw[hk];exact hj
    obtain⟨u',h5,h6,_⟩:=hget j _ (List.getElem?_eq_getElem hj2);rw[h5] at hu;cases hu;exact h6
   ·simp only[h3] at hu;obtain⟨u',h5,_,h6⟩:=hget j d hd;rw[h5] at hu;cases hu;exact h6
  | succ i=>
   have:=h2 i z (by simpa using hz)
   rwa [show b+1+i=b+(i+1) by omega] at this
theorem PWl.sortFnR{α X:Type}{ops:Array Oper}{rest:List Oper}{id n k:Nat}{e:TypeId}{fx x gx:Operand}{ats:Array TypeId}{f g:FuncId}{enc:α->List Value}{encD:X->List DV}{ltR:α->α->Bool}{lt:X->X->Bool}{R:X->α->Prop}{l:List X}(hS:SortLaw P f g k enc ltR)
  (hraw:∀ (w:World) (S:Nat->Prop) (x:X) (us:List Value),us.length=k->(∀ (j:Nat) (d:DV) (u:Value),(encD x)[j]?=some d->us[j]?=some u->DRd w S d u)->∃ r:α,enc r=us/\R x r) (hlt:∀ x y r r',R x r->R y r'->ltR r r'=lt x y) (hk:∀ y,(encD y).length=k) (hk2:∀ y,(enc y).length=k)
  (hfx:s.ev fx=some (.d (.v (.func (.func f) #[] #[])))) (he:∀ args w,(callFunc f args).run P w=.ok (.enter f args) w) (hx:s.ev x=some (.row id n)) (hgx:s.ev gx=some (.d (.v (.func (.func g) #[] #[]))))
  (hl:look s.objs id=some (.row e k (l.map encD))) (hn:l.length=n) (hlen:l.length < 4611686018427387904) (hgd:gd=none)
  (h:∀ l':List X,l'.Perm l->l'.Pairwise (fun x y=>lt y x=false)->PWl P ctx ops Q rest ((s.setO id (.row e k (l'.map encD))).putD dst (.tup []))) :
  PWl P ctx ops Q (⟨dst,.call ⟨.value fx,#[x,gx],ats⟩,ty,pos,after,gd⟩::rest) s:=by
 rintro a w ⟨gh,hg⟩;refine wpList_plain hgd fun K hK=>?_
 have hxv:=hg.ev hx;have hob:=hg.objs id _ hl;unfold Oper.wp;rw[uf (o:=⟨dst,.call ⟨.value fx,#[x,gx],ats⟩,ty,pos,after,gd⟩) rfl (UF hg hfx) he w]
 generalize hv:a.eval x=v at hxv
 have hargs:(#[x,gx]:Array Operand).map a.eval=#[v,.func (.func g) #[] #[]]:=by simp[hv,UF hg hgx]
 rw[hargs]
 generalize hL:l.map encD=L at hob
 cases hob with
 | rowNil _ _ hgn=>
  have hl0:l=[]:=by simpa using hL
  subst hl0
  cases hxv with
  | row _ _ blk cap hgi=>rw[hgn] at hgi;cases hgi
  | rowNil=>
   refine(hS.nil w).mono fun en w' ⟨hen,hb⟩=>?_
   subst hen;have hsub:Sub ctx s (s.setO id (.row e k ([].map encD))):=Sub.drop rfl (fun i p hp=>hp) (fun j o hj=>by
    simp only[PState.setO,zD] at hj
    split at hj
    ·rename_i ej;subst ej;cases hj;rw[hl]
    ·exact hj)
   obtain⟨g2,hg2⟩:=hsub a w' ⟨gh,hg.below hb⟩;exact hK _ _ (h [] (List.Perm.refl _) List.Pairwise.nil _ _ ⟨g2,hg2.put dst (.tup [] [] rfl (by simp))⟩)
 | row _ _ _ blk' cap' cur hgi hh hlc hcap hcs hkk hr'=>
  cases hxv with
  | rowNil _ hgn=>rw[hgn] at hgi;cases hgi
  | row _ _ blk cap hgi'=>
   rw[hgi] at hgi'
   cases hgi'
   subst hL;subst hn;obtain⟨Z,hZ1,hZ2⟩:=raws (cur:=cur) (hraw w (zq ctx gh s.objs)) hk l 0 fun i y j d hi hd=>by
    rw[Nat.zero_add];exact hr' i (encD y) j d (by simp[hi]) hd
   have hZl:(Z.map (·.2)).length=l.length:=by rw[<- hZ1];simp
   have hcells:∀ (i:Nat) (y:α) (j:Nat) (u:Value),(Z.map (·.2))[i]?=some y->(enc y)[j]?=some u->cur[i*k+j]?=some u:=by
    intro i y j u hi hu;rw[List.getElem?_map] at hi
    cases hz:Z[i]? with
    | none=>rw[hz] at hi;cases hi
    | some z=>
     rw[hz] at hi;simp only[Option.map_some,Option.some.injEq] at hi;subst hi;have:=(hZ2 i z hz).2.1 j u hu
     rwa [Nat.zero_add] at this
   have hrow:=hS.row w blk' cap' (Z.map (·.2)) e cur hh (by rw[hZl];simpa using hlc) hcs (by rw[hZl];exact hlen) hcells;rw[hZl] at hrow;refine hrow.mono fun en w' ⟨hen,l2,cur',hperm,hsort,hh',hcl,hc',hos,htape,hout,hsz,hother⟩=>?_
   subst hen;obtain⟨Z',hP,hZ'⟩:=xra (·.2) hperm Z rfl;have hmem:∀ z∈Z',R z.1 z.2/\∀ (j:Nat) (d:DV) (u:Value),(encD z.1)[j]?=some d->(enc z.2)[j]?=some u->DRd w (zq ctx gh s.objs) d u:=fun z hz=>by
    obtain⟨i,hi⟩:=List.mem_iff_getElem?.1 (hP.subset hz);exact⟨(hZ2 i z hi).1,(hZ2 i z hi).2.2⟩
   let l':=Z'.map (·.1)
   have hl'p:l'.Perm l:=by rw[<- hZ1];exact hP.map _
   have hl's:l'.Pairwise (fun x y=>lt y x=false):=by
    rw[<- hZ'] at hsort;rw[List.pairwise_map] at hsort ⊢;refine List.Pairwise.imp_of_mem (fun {p q} hp hq hpq=>?_) hsort;rw[<- hlt _ _ _ _ (hmem q hq).1 (hmem p hp).1];exact hpq
   have hown:=hg.own id _ blk' cap' hl hgi;have hst:yg w w' (zq ctx gh s.objs):=⟨hsz,fun b ⟨_,h2⟩ hlt=>hother b hlt fun eb=>by subst eb;exact h2 id _ cap' hl hgi⟩
   have hpl:l'.length=l.length:=hl'p.length_eq;have hsetF:∀ b,zq ctx gh s.objs b->zq ctx gh s.objs b:=fun _ h=>h
   have hwr:=hg.wrote hl hgi (w':=w') hos htape hout hsz hother hown.2 (ob:=.row e k (l'.map encD)) (.row e k _ blk' cap' cur' hgi hh' (by simpa[hpl] using hlc) hcap (by rw[hcl];exact hcs)
    (fun i cs hi=>by
     rw[List.getElem?_map] at hi
     cases hy:l'[i]? with
     | none=>simp[hy] at hi
     | some y=>simp[hy] at hi;subst hi;exact hk y)
    (fun i cs j d hi hd=>by
     rw[List.getElem?_map] at hi
     cases hy:l'[i]? with
     | none=>simp[hy] at hi
     | some y=>
      simp[hy] at hi;subst hi;simp only[l',List.getElem?_map] at hy
      cases hz:Z'[i]? with
      | none=>rw[hz] at hy;cases hy
      | some z=>
       rw[hz] at hy;simp only[Option.map_some,Option.some.injEq] at hy;subst hy;have hj:j < (enc z.2).length:=by rw[hk2,<- hk z.1];exact(List.getElem?_eq_some_iff.1 hd).1
       have hu:(enc z.2)[j]?=some (enc z.2)[j]:=List.getElem?_eq_getElem hj;refine⟨_,hc' i z.2 j _ (by rw[<- hZ',List.getElem?_map,hz];rfl) hu,?_⟩;exact((hmem z (List.mem_of_getElem? hz)).2 j d _ hd hu).keep hst (fun b hb _=>xj hl b hb)))
   exact hK _ _ (h l' hl'p hl's _ _ ⟨gh,hwr.put dst (.tup [] [] rfl (by simp))⟩)
end
end Go.Ep

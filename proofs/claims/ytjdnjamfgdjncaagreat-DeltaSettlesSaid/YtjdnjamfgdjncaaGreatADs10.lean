/- Side texts. -/
import Derived.Test.YtjdnjamfgdjncaaGreatADs2
import Derived.Test.YtjdnjamfgdjncaaGreatADs3
set_option linter.unusedVariables false
set_option linter.unusedSimpArgs false
namespace Go.Ep
open Go
theorem Wc{n:Int}(h:-9223372036854775808<=n)(h':n<=9223372036854775807):IntKind.i64.wrap n=n:=by simp[IntKind.wrap,IntKind.bits,IntKind.signed];omega
theorem Qr{n:Int}(h:0<=n)(h':n<=18446744073709551615):IntKind.u64.wrap n=n:=by simp[IntKind.wrap,IntKind.bits,IntKind.signed];omega
theorem wU16{n:Int}(h:0<=n)(h':n<=65535):IntKind.u16.wrap n=n:=by simp[IntKind.wrap,IntKind.bits,IntKind.signed];omega
theorem wU8{n:Int}(h:0<=n)(h':n<=255):IntKind.u8.wrap n=n:=by simp[IntKind.wrap,IntKind.bits,IntKind.signed];omega
theorem yL{i:Nat}(h:i < 9223372036854775807):IntKind.i64.wrap ((i:Int)+1)=((i+1:Nat):Int):=by rw[Wc (by omega) (by omega)];rfl
namespace M
variable{α β σ ρ τ ε:Type}
theorem yw(p:Prop)[Decidable p](x y:M α):cond (decide p) x y=if p then x else y:=by by_cases h:p <;> simp[h]
theorem ZX{body:σ->M (Step σ ρ)}(l:List ε)(mk:Nat->τ->σ)(f:τ->ε->τ)(g:τ->M ρ)
  (I:Nat->τ->Prop) (h1:∀ (i:Nat) (x:ε) (t:τ),l[i]?=some x->i < l.length->I i t->body (mk i t)=pure (.next (mk (i+1) (f t x)))/\I (i+1) (f t x))
  (h2:∀ t,I l.length t->body (mk l.length t)=(g t).bind fun r=>pure (.done r)) (t0:τ) (h0:I 0 t0):loop body (mk 0 t0)=g (l.foldl f t0):=by
 have key:∀ k i t,i+k=l.length->I i t->loop body (mk i t)=g ((l.drop i).foldl f t):=by
  intro k
  induction k with
  | zero=>
   intro i t hi hI;have:i=l.length:=by omega
   subst this;rw[JQ,h2 t hI,List.drop_length]
   rfl
  | succ k ih=>
   intro i t hi hI;have hlt:i < l.length:=by omega
   obtain⟨h3,h4⟩:=h1 i l[i] t (List.getElem?_eq_getElem hlt) hlt hI;rw[yI h3,ih (i+1) _ (by omega) h4,List.drop_eq_getElem_cons hlt]
   rfl
 simpa using key l.length 0 t0 (by omega) h0
theorem loopF{body:σ->M (Step σ ρ)}(l:List ε)(mk:Nat->σ)(p:Nat->ε->Bool)(r:Nat->ε->ρ)(d:M ρ)
  (h1:∀ (i:Nat) (x:ε),l[i]?=some x->i < l.length->body (mk i)=if p i x then pure (.done (r i x)) else pure (.next (mk (i+1))))
  (h2:body (mk l.length)=d.bind fun r=>pure (.done r)):loop body (mk 0)=match (l.zipIdx).find? (fun y=>p y.2 y.1) with | some y=>pure (r y.2 y.1) | none=>d:=by
 have key:∀ k i,i+k=l.length->loop body (mk i)=match ((l.drop i).zipIdx i).find? (fun y=>p y.2 y.1) with | some y=>pure (r y.2 y.1) | none=>d:=by
  intro k
  induction k with
  | zero=>
   intro i hi;have:i=l.length:=by omega
   subst this;rw[JQ,h2,List.drop_length]
   rfl
  | succ k ih=>
   intro i hi;have hlt:i < l.length:=by omega
   have h3:=h1 i l[i] (List.getElem?_eq_getElem hlt) hlt;rw[List.drop_eq_getElem_cons hlt,List.zipIdx_cons,List.find?_cons]
   by_cases hp:p i l[i]=true
   ·rw[if_pos hp] at h3;rw[yJ h3];simp[hp]
   ·rw[if_neg hp] at h3;rw[yI h3,ih (i+1) (by omega)];simp[hp]
 simpa using key l.length 0 (by omega)
theorem vZ{body:σ->M (Step σ ρ)}(l:List ε)(mk:Nat->σ)(p:Nat->ε->Bool)(r1 r2:ρ)
  (h1:∀ (i:Nat) (x:ε),l[i]?=some x->i < l.length->body (mk i)=if p i x then pure (.next (mk (i+1))) else pure (.done r2))
  (h2:body (mk l.length)=pure (.done r1)):loop body (mk 0)=pure (if l.zipIdx.all (fun y=>p y.2 y.1) then r1 else r2):=by
 have key:∀ k i,i+k=l.length->loop body (mk i)=pure (if ((l.drop i).zipIdx i).all (fun y=>p y.2 y.1) then r1 else r2):=by
  intro k
  induction k with
  | zero=>
   intro i hi;have:i=l.length:=by omega
   subst this;rw[yJ h2,List.drop_length]
   rfl
  | succ k ih=>
   intro i hi;have hlt:i < l.length:=by omega
   have h3:=h1 i l[i] (List.getElem?_eq_getElem hlt) hlt;rw[List.drop_eq_getElem_cons hlt,List.zipIdx_cons,List.all_cons]
   by_cases hp:p i l[i]=true
   ·rw[if_pos hp] at h3;rw[yI h3,ih (i+1) (by omega),hp,Bool.true_and]
   ·rw[if_neg hp] at h3;rw[yJ h3];simp[hp]
 have:=key l.length 0 (by omega);rw[List.drop_zero] at this;exact this
def came{ε:Type}(m:List ε)(L:List Nat):List ε:=L.filterMap fun i=>m[i]?
theorem x2a{m:List ε}{L:List Nat}{i:Nat}{y:ε}(h:m[i]?=some y):came m (L++[i])=came m L++[y]:=by simp[came,h]
theorem Jr{n:Nat}{L:List Nat}(hn:L.Nodup)(hb:∀ i∈L,i < n)(ha:∀ i,i < n->i∈L):L.Perm (List.range n):=by
 refine(List.perm_ext_iff_of_nodup hn List.nodup_range).2 fun i=>?_
 rw[List.mem_range];exact⟨hb i,ha i⟩
theorem x3a{m:List ε}{L:List Nat}(hn:L.Nodup)(hb:∀ i∈L,i < m.length)(ha:∀ i,i < m.length->i∈L):(came m L).Perm m:=by
 have h1:=(Jr hn hb ha).filterMap fun i=>m[i]?
 have h2:(List.range m.length).filterMap (fun i=>m[i]?)=m:=by
  apply List.ext_getElem?;intro i;clear h1 hn hb ha;have:(List.range m.length).filterMap (fun i=>m[i]?)=m:=by
   induction m with
   | nil=>rfl
   | cons x r ih=>
    rw[List.length_cons,List.range_succ_eq_map,List.filterMap_cons];simp only[List.getElem?_cons_zero,List.filterMap_map]
    congr 1
  rw[this]
 rw[h2] at h1;exact h1
theorem ur{n:Nat}{L:List Nat}(hn:L.Nodup)(hb:∀ i∈L,i < n):L.length<=n:=by
 have:=List.Nodup.length_le_of_subset hn (l₂:=List.range n) (fun i hi=>List.mem_range.2 (hb i hi));simpa using this
theorem full{n:Nat}{L:List Nat}(hn:L.Nodup)(hb:∀ i∈L,i < n)(hl:n<=L.length):∀ i,i < n->i∈L:=by
 intro i hi;refine Classical.byContradiction fun hni=>?_
 have:=ur (n:=n) (L:=i::L) (List.nodup_cons.2 ⟨hni,hn⟩) (fun j hj=>by
  rcases List.mem_cons.1 hj with rfl | hj
  ·exact hi
  ·exact hb j hj)
 simp at this;omega
theorem loopM{body:σ->M (Step σ ρ)}(m:List ε)(mk:List Nat->τ->σ)(f:τ->ε->M τ)(g:τ->M ρ)(I:List ε->τ->Prop)(Q:ρ->Prop)
  (hb:∀ L t,(∀ i∈L,i < m.length)->body (mk L t)=yc (∀ i∈L,i < m.length) ((nxt m.length L).bind fun o=>match o with
   | none=>(g t).bind fun r=>pure (.done r)
   | some i=>(idx m (Int.ofNat i)).bind fun y=>(f t y).bind fun t'=>pure (.next (mk (L++[i]) t'))))
  (hs:∀ l t y,I l t->l.length < m.length->y∈m->∃ t',f t y=pure t'/\I (l++[y]) t') (he:∀ l t,l.Perm m->I l t->(g t).wp Q) (t0:τ) (h0:I [] t0):(loop body (mk [] t0)).wp Q:=by
 have key:∀ k L t,L.length+k=m.length->L.Nodup->(∀ i∈L,i < m.length)->I (came m L) t->jT body Q (mk L t):=by
  intro k
  induction k with
  | zero=>
   intro L t hk hn hlt hI;refine Zw ?_;rw[hb L t hlt];have hall:∀ i,i < m.length->i∈L:=fun i hi=>full hn hlt (by omega) i hi
   refine⟨hlt,⟨⟨none,hall⟩,fun o ho=>?_⟩⟩
   cases o with
   | none=>
    have:=he _ t (x3a hn hlt hall) hI;exact this
   | some i=>exact absurd (hall i ho.1) ho.2
  | succ k ih=>
   intro L t hk hn hlt hI;refine Zw ?_;rw[hb L t hlt];have hex:∃ i,i < m.length/\i∉L:=by
    refine Classical.byContradiction fun hno=>?_
    have hall:∀ i,i < m.length->i∈L:=fun i hi=>Classical.byContradiction fun h=>hno ⟨i,hi,h⟩
    have:=(Jr hn hlt hall).length_eq;simp at this;omega
   obtain⟨i0,hi0⟩:=hex;refine⟨hlt,⟨⟨some i0,hi0⟩,fun o ho=>?_⟩⟩
   cases o with
   | none=>exact absurd (ho i0 hi0.1) hi0.2
   | some i=>
    have hi:=List.getElem?_eq_getElem ho.1;obtain⟨t',h1,h2⟩:=hs (came m L) t m[i] hI (by have:=List.length_filterMap_le (fun i=>m[i]?) L;unfold came;omega) (List.getElem_mem ho.1);show((idx m (Int.ofNat i)).bind _).wp _;rw[show(Int.ofNat i)=(i:Int) from rfl,zK hi,zA,h1,zA];refine ih (L++[i]) t' (by simp;omega) ?_ ?_ (by rw[x2a hi];exact h2)
    ·rw[List.nodup_append];refine⟨hn,by simp,fun a ha b hb'=>?_⟩;rw[List.mem_singleton.1 hb'];intro e;exact ho.2 (e▸ha)
    ·intro j hj;rcases List.mem_append.1 hj with hj | hj
     ·exact hlt j hj
     ·rw[List.mem_singleton.1 hj];exact ho.1
 exact key m.length [] t0 (by simp) List.nodup_nil (by simp) h0
theorem loopN{body:σ->M (Step σ ρ)}(n:Nat)(mk:List Nat->τ->σ)(I:List Nat->τ->Prop)(Q:ρ->Prop)
  (h:∀ L t,I L t->L.Nodup->(∀ i∈L,i < n)->∃ K:Option Nat->M (Step σ ρ),body (mk L t)=yc (∀ i∈L,i < n) ((nxt n L).bind K)/\((∀ i,i < n->i∈L)->(K none).wp (Step.post (fun _=>False) Q)) /\
   ∀ i,i < n->i∉L->∃ t',K (some i)=pure (.next (mk (L++[i]) t'))/\I (L++[i]) t') (t0:τ) (h0:I [] t0):(loop body (mk [] t0)).wp Q:=by
 have key:∀ k L t,L.length+k=n->L.Nodup->(∀ i∈L,i < n)->I L t->jT body Q (mk L t):=by
  intro k
  induction k with
  | zero=>
   intro L t hk hn hlt hI;obtain⟨K,h1,h2,h3⟩:=h L t hI hn hlt;refine Zw ?_;rw[h1];have hall:∀ i,i < n->i∈L:=full hn hlt (by omega);refine⟨hlt,⟨⟨none,hall⟩,fun o ho=>?_⟩⟩
   cases o with
   | none=>exact(K none).mono (fun a ha=>by cases a with | next s=>exact ha.elim | done r=>exact ha) (h2 hall)
   | some i=>exact absurd (hall i ho.1) ho.2
  | succ k ih=>
   intro L t hk hn hlt hI;obtain⟨K,h1,h2,h3⟩:=h L t hI hn hlt;refine Zw ?_;rw[h1];have hex:∃ i,i < n/\i∉L:=by
    refine Classical.byContradiction fun hno=>?_
    have hall:∀ i,i < n->i∈L:=fun i hi=>Classical.byContradiction fun h=>hno ⟨i,hi,h⟩
    have:=(Jr hn hlt hall).length_eq;simp at this;omega
   obtain⟨i0,hi0⟩:=hex;refine⟨hlt,⟨⟨some i0,hi0⟩,fun o ho=>?_⟩⟩
   cases o with
   | none=>exact absurd (ho i0 hi0.1) hi0.2
   | some i=>
    obtain⟨t',h4,h5⟩:=h3 i ho.1 ho.2;show(K (some i)).wp _;rw[h4];refine ih (L++[i]) t' (by simp;omega) ?_ ?_ h5
    ·rw[List.nodup_append];refine⟨hn,by simp,fun a ha b hb'=>?_⟩;rw[List.mem_singleton.1 hb'];intro e;exact ho.2 (e▸ha)
    ·intro j hj;rcases List.mem_append.1 hj with hj | hj
     ·exact hlt j hj
     ·rw[List.mem_singleton.1 hj];exact ho.1
 exact key n [] t0 (by simp) List.nodup_nil (by simp) h0
end M
namespace AL
variable{κ ν:Type}[DecidableEq κ]
theorem x0a(m:List (κ×ν))(k q:κ)(v:ν):get (set m k v) q=if k=q then some v else get m q:=by
 induction m with
 | nil=>simp[set,get]
 | cons x r ih=>
  obtain⟨a,u⟩:=x
  by_cases h:a=k
  ·subst h;simp only[set,if_true,get];split <;> rfl
  ·simp only[set,h,if_false,get,ih]
   by_cases h2:a=q
   ·subst h2;simp[Ne.symm h]
   ·simp[h2]
theorem getZ_set(m:List (κ×ν))(k q:κ)(v z:ν):getZ (set m k v) q z=if k=q then v else getZ m q z:=by
 unfold getZ;rw[x0a];split <;> rfl
theorem keys_set(m:List (κ×ν))(k:κ)(v:ν):(set m k v).map (·.1)=if k∈m.map (·.1) then m.map (·.1) else m.map (·.1)++[k]:=by
 induction m with
 | nil=>simp[set]
 | cons x r ih=>
  obtain⟨a,u⟩:=x
  by_cases h:a=k
  ·subst h;simp[set]
  ·simp only[set,h,if_false,List.map_cons,ih,List.mem_cons,Ne.symm h,false_or]
   split <;> simp
theorem nodup_set{m:List (κ×ν)}(h:(m.map (·.1)).Nodup)(k:κ)(v:ν):((set m k v).map (·.1)).Nodup:=by
 rw[keys_set]
 split
 ·exact h
 ·rename_i hk
  rw[List.nodup_append];refine⟨h,by simp,fun a ha b hb=>?_⟩;rw[List.mem_singleton.1 hb];intro e;exact hk (e▸ha)
theorem get_none{m:List (κ×ν)}{k:κ}:get m k=none↔k∉m.map (·.1):=by
 induction m with
 | nil=>simp[get]
 | cons x r ih=>
  obtain⟨a,u⟩:=x
  by_cases h:a=k
  ·subst h;simp[get]
  ·simp[get,h,ih,Ne.symm h]
theorem get_mem{m:List (κ×ν)}{k:κ}{v:ν}(h:get m k=some v):(k,v)∈m:=by
 induction m with
 | nil=>simp[get] at h
 | cons x r ih=>
  obtain⟨a,u⟩:=x
  by_cases e:a=k
  ·subst e;simp[get] at h;subst h;simp
  ·simp only[get,e,if_false] at h;exact List.mem_cons_of_mem _ (ih h)
theorem mem_get{m:List (κ×ν)}(hn:(m.map (·.1)).Nodup){k:κ}{v:ν}(h:(k,v)∈m):get m k=some v:=by
 induction m with
 | nil=>simp at h
 | cons x r ih=>
  obtain⟨a,u⟩:=x;simp only[List.map_cons,List.nodup_cons] at hn;rcases List.mem_cons.1 h with e | h
  ·cases e;simp[get]
  ·have:a≠k:=fun e=>hn.1 (e▸List.mem_map.2 ⟨(k,v),h,rfl⟩)
   simp only[get,this,if_false];exact ih hn.2 h
theorem len_set(m:List (κ×ν))(k:κ)(v:ν):(set m k v).length<=m.length+1:=by
 induction m with
 | nil=>simp[set]
 | cons x r ih=>
  obtain⟨a,u⟩:=x;unfold set
  split
  ·simp
  ·simpa using ih
end AL
end Go.Ep
namespace Go.Ep
open Go
structure RB where
 ctx:List PT
 l:List EV
 deriving DecidableEq
def YF(d1:DT):M Bool:=
 M.bind (cond (decide (1<=d1.dev))
  (cond (decide (1<=d1.n))
   (M.pure (decide (d1.n < 281474976710656)))
   (M.pure false))
  (M.pure false)) (fun v2=>
 M.pure v2)
def Ys(c1:List PT)(d2:DT):M Bool:=
 M.bind (M.bind (M.det (YF d2)) fun v4=>
 cond v4
  (M.bind (M.det (WQ c1 d2.dev)) fun v7=>
  M.bind (M.det (US v7 d2.n)) fun v9=>
  M.pure v9)
  (M.pure false)) (fun v3=>
 M.pure v3)
def XS(l1:List DT)(d2:DT):Int->M (M.Step Int (M.Ex Unit Bool)):=fun i12=>
 cond ((decide (i12 < (l1.length:Int))))
  (M.bind (M.idx l1 i12) fun x14=>
  cond (((decide (x14.dev=d2.dev)&&decide (x14.n=d2.n))))
   (M.pure (.done (.ret true)))
   (M.pure (.next (IntKind.i64.wrap (i12+1)))))
  (M.pure (.done (.brk ())))
def Ug(l1:List DT)(d2:DT):M Bool:=
 M.bind (M.loop (XS l1 d2) 0) (M.exk (fun _=>
 M.pure false))
def Uh(v1:Int):M (Int×Int):=
 M.pure (((IntKind.u16.wrap (IntKind.u64.wrap (Int.tdiv v1 281474976710656))),(Int.tmod v1 281474976710656)))
def VA(v1:Int):M (DT×Bool):=
 M.bind (M.det (Uh v1)) fun v2=>
 M.bind (M.det (YF (⟨v2.1,v2.2⟩:DT))) fun v4=>
 cond (!v4)
  (M.pure ((⟨0,0⟩:DT),false))
  (M.pure ((⟨v2.1,v2.2⟩:DT),true))
def Js(f1:Int):M Bool:=
 M.bind (cond (decide (1<=f1))
  (M.pure (decide (f1<=5)))
  (M.pure false)) (fun v2=>
 M.pure v2)
def ut(s1:ByteArray):Int->M (M.Step Int (M.Ex Unit Bool)):=fun i19=>
 cond ((decide (i19 < (ByteArray.size s1:Int))))
  (M.bind (M.bind (M.idx (wg s1) i19) fun b22=>
  cond (decide (b22 < 32))
   (M.pure true)
   (M.bind (M.idx (wg s1) i19) fun b25=>
   M.pure (decide (126 < b25)))) (fun v21=>
  cond v21
   (M.pure (.done (.ret false)))
   (M.pure (.next (IntKind.i64.wrap (i19+1))))))
  (M.pure (.done (.brk ())))
def Jt(s1:ByteArray):M Bool:=
 M.bind (M.loop (ut s1) 0) (M.exk (fun _=>
 M.pure ((decide ((ByteArray.size s1:Int)<=60)))))
def xn(l1:List DT):Int->M (M.Step Int (M.Ex Unit Bool)):=fun i19=>
 cond ((decide (i19 < (l1.length:Int))))
  (M.bind (M.idx l1 (IntKind.i64.wrap (i19 - 1))) fun x21=>
  M.bind (M.idx l1 i19) fun x23=>
  M.bind (M.det (Wx x21 x23)) fun v25=>
  cond (decide (0<=v25))
   (M.pure (.done (.ret false)))
   (M.pure (.next (IntKind.i64.wrap (i19+1)))))
  (M.pure (.done (.brk ())))
def VB(l1:List DT):M Bool:=
 M.bind (M.loop (xn l1) 1) (M.exk (fun _=>
 M.pure true))
def uu(e1:EV):Int->M (M.Step Int (M.Ex Unit Bool)):=fun i37=>
 cond ((decide (i37 < (e1.kills.length:Int))))
  (M.bind (M.idx e1.kills i37) fun x39=>
  M.bind (M.det (YF x39)) fun v41=>
  cond (!v41)
   (M.pure (.done (.ret false)))
   (M.pure (.next (IntKind.i64.wrap (i37+1)))))
  (M.pure (.done (.brk ())))
def Vt(e1:EV):M Bool:=
 M.bind (M.det (VA e1.cid)) fun v2=>
 M.bind (cond (!v2.2)
  (M.pure true)
  (M.bind (M.det (YF e1.dot)) fun v6=>
  cond (!v6)
   (M.pure true)
   (cond (!decide (e1.kind=1))
    (M.pure (!decide (e1.kind=2)))
    (M.pure false)))) (fun v4=>
 cond v4
  (M.pure false)
  (M.bind (cond (decide (e1.kind=1))
   (M.bind (M.det (Js e1.field)) fun v13=>
   cond (!v13)
    (M.pure true)
    (M.bind (M.det (Jt e1.text)) fun v16=>
    cond (!v16)
     (M.pure true)
     (cond (decide (e1.kind=2))
      (cond (!decide (e1.field=0))
       (M.pure true)
       (M.pure ((!decide (e1.text=(⟨#[]⟩:ByteArray))))))
      (M.pure false))))
   (cond (decide (e1.kind=2))
    (cond (!decide (e1.field=0))
     (M.pure true)
     (M.pure ((!decide (e1.text=(⟨#[]⟩:ByteArray))))))
    (M.pure false))) (fun v11=>
  cond v11
   (M.pure false)
   (M.bind (M.loop (uu e1) 0) (M.exk (fun _=>
   M.bind (cond ((decide ((e1.kills.length:Int)<=256)))
    (M.bind (M.det (VB e1.kills)) fun v46=>
    cond v46
     (M.bind (M.det (Ug e1.kills e1.dot)) fun v49=>
     M.pure (!v49))
     (M.pure false))
    (M.pure false)) (fun v44=>
   M.pure v44)))))))
def XT(a1:List PT)(b2:List PT):M (List PT):=
 M.bind (M.det (zDa a1 b2 0)) fun v3=>
 M.pure v3
def We(l1:List DT):List PT×Int->M (M.Step (List PT×Int) (List PT)):=fun⟨out35,i36⟩=>
 cond ((decide (i36 < (l1.length:Int))))
  (M.bind (M.bind (M.idx l1 i36) fun x39=>
  M.bind (M.det (YF x39)) fun v41=>
  cond v41
   (M.bind (M.idx l1 i36) fun x44=>
   M.bind (M.idx l1 i36) fun x46=>
   M.bind (M.idx l1 i36) fun x48=>
   M.bind (M.det (XT out35 ([(⟨x44.dev,[(⟨x46.n,x48.n⟩:RN)]⟩:PT)]))) fun v50=>
   M.pure v50)
   (M.pure out35)) (fun out38=>
  M.pure (.next ((out38,(IntKind.i64.wrap (i36+1)))))))
  (M.pure (.done out35))
def x4a(l1:List DT):M (List PT):=
 M.bind (M.loop (We l1) (([]:List PT),0)) (fun out2=>
 M.pure out2)
def uv(l1:List EV)(i80:Int):List DT×Int->M (M.Step (List DT×Int) (List DT)):=fun⟨out107,k108⟩=>
 M.bind (M.idx l1 i80) fun x109=>
 cond ((decide (k108 < (x109.kills.length:Int))))
  (M.bind (M.idx l1 i80) fun x112=>
  M.bind (M.idx x112.kills k108) fun x114=>
  M.bind (M.det (Xv out107 x114)) fun v116=>
  M.pure (.next ((v116,(IntKind.i64.wrap (k108+1))))))
  (M.pure (.done out107))
def YG(l1:List EV):List DT×Int->M (M.Step (List DT×Int) (List DT)):=fun⟨out79,i80⟩=>
 cond ((decide (i80 < (l1.length:Int))))
  (M.bind (M.bind (M.idx l1 i80) fun x83=>
  M.bind (M.det (Xv out79 x83.dot)) fun v85=>
  M.loop (uv l1 i80) (v85,0)) (fun out82=>
  M.pure (.next ((out82,(IntKind.i64.wrap (i80+1)))))))
  (M.pure (.done out79))
def Wf(l1:List EV):M (List DT):=
 M.bind (M.loop (YG l1) (([]:List DT),0)) (fun out2=>
 M.pure out2)
def Zm(l1:List EV)(e2:EV):Bool×Int×List EV->M (M.Step (Bool×Int×List EV) (M.Ex (Bool×List EV) (List EV))):=fun⟨done38,i39,out40⟩=>
 cond ((decide (i39 < (l1.length:Int))))
  (M.bind (M.idx l1 i39) fun x42=>
  M.bind (M.det (Wx x42.dot e2.dot)) fun v44=>
  cond (decide (v44=0))
   (M.pure (.done (.ret l1)))
   (M.bind (cond (decide (0 < v44))
    (M.pure (!done38))
    (M.pure false)) (fun v47=>
   M.bind (cond v47
    (M.yc ((out40.length+List.length ([e2]))*80<=140737488355328) <|
    M.pure (true,(out40++[e2])))
    (M.pure (done38,out40))) (fun⟨done49,out50⟩=>
   M.bind (M.idx l1 i39) fun x53=>
   M.yc ((out50.length+List.length ([x53]))*80<=140737488355328) <|
   M.pure (.next ((done49,(IntKind.i64.wrap (i39+1)),(out50++[x53]))))))))
  (M.pure (.done (.brk (done38,out40))))
def zPa(l1:List EV)(e2:EV):M (List EV):=
 M.bind (M.loop (Zm l1 e2) (false,0,([]:List EV))) (M.exk (fun⟨done3,out4⟩=>
 M.bind (cond (!done3)
  (M.yc ((out4.length+List.length ([e2]))*80<=140737488355328) <|
  M.pure (out4++[e2]))
  (M.pure out4)) (fun out56=>
 M.pure out56)))
def Zn(b1:RB)(e2:EV):Int×List EV->M (M.Step (Int×List EV) (List EV)):=fun⟨i40,l41⟩=>
 cond ((decide (i40 < (b1.l.length:Int))))
  (M.bind (M.bind (M.bind (M.idx b1.l i40) fun x45=>
  cond (!decide (x45.kind=1))
   (M.pure true)
   (M.bind (M.idx b1.l i40) fun x48=>
   M.bind (M.det (Ug e2.kills x48.dot)) fun v50=>
   M.pure (!v50))) (fun v44=>
  cond v44
   (M.bind (M.idx b1.l i40) fun x53=>
   M.yc ((l41.length+List.length ([x53]))*80<=140737488355328) <|
   M.pure (l41++[x53]))
   (M.pure l41))) (fun l43=>
  M.pure (.next (((IntKind.i64.wrap (i40+1)),l43)))))
  (M.pure (.done l41))
def VC(b1:RB)(e2:EV):M (RB×Int):=
 M.bind (M.det (Vt e2)) fun v3=>
 cond (!v3)
  (M.pure (b1,1))
  (M.bind (M.det (Ys b1.ctx e2.dot)) fun v6=>
  cond v6
   (M.pure (b1,7))
   (M.bind (M.loop (Zn b1 e2) (0,([]:List EV))) (fun l9=>
   M.bind (M.det (Wf ([e2]))) fun v56=>
   M.bind (M.det (x4a v56)) fun v58=>
   M.bind (M.det (XT b1.ctx v58)) fun v60=>
   M.bind (M.det (zPa l9 e2)) fun v62=>
   M.pure ((⟨v60,v62⟩:RB),0))))
def YH(l1:List EV)(k2:Int):Int×List EV->M (M.Step (Int×List EV) (List EV)):=fun⟨i22,out23⟩=>
 cond ((decide (i22 < (l1.length:Int))))
  (M.bind (M.bind (M.idx l1 i22) fun x26=>
  cond (decide (x26.kind=k2))
   (M.bind (M.idx l1 i22) fun x29=>
   M.yc ((out23.length+List.length ([x29]))*80<=140737488355328) <|
   M.pure (out23++[x29]))
   (M.pure out23)) (fun out25=>
  M.pure (.next (((IntKind.i64.wrap (i22+1)),out25)))))
  (M.pure (.done out23))
def Ju(l1:List EV)(k2:Int):M (List EV):=
 M.bind (M.loop (YH l1 k2) (0,([]:List EV))) (fun out3=>
 M.pure out3)
def Vu(b1:RB):M (List EV):=
 M.bind (M.det (Ju b1.l 1)) fun v2=>
 M.pure v2
def uS(l1:List EV)(cid2:Int):Int×List EV->M (M.Step (Int×List EV) (List EV)):=fun⟨i30,some31⟩=>
 cond ((decide (i30 < (l1.length:Int))))
  (M.bind (M.bind (M.bind (M.idx l1 i30) fun x35=>
  cond (decide (x35.kind=1))
   (M.bind (M.idx l1 i30) fun x38=>
   M.pure (decide (x38.cid=cid2)))
   (M.pure false)) (fun v34=>
  cond v34
   (M.bind (M.idx l1 i30) fun x41=>
   M.yc ((some31.length+List.length ([x41]))*80<=140737488355328) <|
   M.pure (some31++[x41]))
   (M.pure some31))) (fun some33=>
  M.pure (.next (((IntKind.i64.wrap (i30+1)),some33)))))
  (M.pure (.done some31))
def VD(l1:List EV)(cid2:Int):M (List DT):=
 M.bind (M.loop (uS l1 cid2) (0,([]:List EV))) (fun some3=>
 M.bind (M.det (Wf some3)) fun v44=>
 M.pure v44)
def YI(l1:List EV)(cid2:Int)(f3:Int):Int×List EV->M (M.Step (Int×List EV) (List EV)):=fun⟨i37,some38⟩=>
 cond ((decide (i37 < (l1.length:Int))))
  (M.bind (M.bind (M.bind (M.idx l1 i37) fun x42=>
  cond (decide (x42.kind=1))
   (M.bind (M.idx l1 i37) fun x45=>
   cond (decide (x45.cid=cid2))
    (M.bind (M.idx l1 i37) fun x48=>
    M.pure (decide (x48.field=f3)))
    (M.pure false))
   (M.pure false)) (fun v41=>
  cond v41
   (M.bind (M.idx l1 i37) fun x51=>
   M.yc ((some38.length+List.length ([x51]))*80<=140737488355328) <|
   M.pure (some38++[x51]))
   (M.pure some38))) (fun some40=>
  M.pure (.next (((IntKind.i64.wrap (i37+1)),some40)))))
  (M.pure (.done some38))
def Jv(l1:List EV)(cid2:Int)(f3:Int):M (List DT):=
 M.bind (M.loop (YI l1 cid2 f3) (0,([]:List EV))) (fun some4=>
 M.bind (M.det (Wf some4)) fun v54=>
 M.pure v54)
def z6a(b1:RB)(e2:EV):M (EV×Int):=
 M.bind (M.det (Vt (⟨e2.dot,e2.kind,e2.cid,e2.field,e2.text,([]:List DT)⟩:EV))) fun v3=>
 cond (!v3)
  (M.pure (((⟨(⟨0,0⟩:DT),0,0,0,(⟨#[]⟩:ByteArray),([]:List DT)⟩:EV),1)))
  (M.bind (M.det (Ys b1.ctx e2.dot)) fun v6=>
  cond v6
   (M.pure (((⟨(⟨0,0⟩:DT),0,0,0,(⟨#[]⟩:ByteArray),([]:List DT)⟩:EV),7)))
   (M.bind (M.det (Vu b1)) fun v9=>
   M.bind (M.det (VD v9 e2.cid)) fun v11=>
   M.bind (cond (decide (e2.kind=1))
    (M.bind (M.det (Vu b1)) fun v15=>
    M.bind (M.det (Jv v15 e2.cid e2.field)) fun v17=>
    M.pure v17)
    (M.pure v11)) (fun e13=>
   cond ((decide (256 < (e13.length:Int))))
    (M.pure (((⟨(⟨0,0⟩:DT),0,0,0,(⟨#[]⟩:ByteArray),([]:List DT)⟩:EV),3)))
    (M.pure ((⟨e2.dot,e2.kind,e2.cid,e2.field,e2.text,e13⟩:EV),0)))))
def x5a(b1:RB)(c2:List PT):M RB:=
 M.bind (M.det (XT b1.ctx c2)) fun v3=>
 M.pure (⟨v3,b1.l⟩:RB)
def Ui(e1:EV)(c2:List PT):M EV:=
 M.bind (M.det (Ys c2 e1.dot)) fun v3=>
 M.bind (cond v3
  (M.pure ([]:List DT))
  (M.pure e1.kills)) (fun e5=>
 M.pure (⟨e1.dot,e1.kind,e1.cid,e1.field,e1.text,e5⟩:EV))
def vt(b1:RB)(c2:List PT):Int×List EV->M (M.Step (Int×List EV) (List EV)):=fun⟨i38,l39⟩=>
 cond ((decide (i38 < (b1.l.length:Int))))
  (M.bind (M.bind (M.bind (M.idx b1.l i38) fun x43=>
  cond (decide (x43.kind=1))
   (M.pure true)
   (M.bind (M.idx b1.l i38) fun x46=>
   M.bind (M.det (Ys c2 x46.dot)) fun v48=>
   M.pure (!v48))) (fun v42=>
  cond v42
   (M.bind (M.idx b1.l i38) fun x51=>
   M.bind (M.det (Ui x51 c2)) fun v53=>
   M.yc ((l39.length+List.length ([v53]))*80<=140737488355328) <|
   M.pure (l39++[v53]))
   (M.pure l39))) (fun l41=>
  M.pure (.next (((IntKind.i64.wrap (i38+1)),l41)))))
  (M.pure (.done l39))
def QQ(b1:RB)(c2:List PT):M (RB×Int):=
 M.bind (M.loop (vt b1 c2) (0,([]:List EV))) (fun l3=>
 M.pure (((⟨b1.ctx,l3⟩:RB),(IntKind.i64.wrap ((b1.l.length:Int) - (l3.length:Int))))))
end Go.Ep
namespace Go.Ep.M.V
open Go
def yC(d:DT):Bool:=decide (1<=d.dev)&&(decide (1<=d.n)&&decide (d.n<=281474976710655))
theorem xK{d:DT}:yC d=true↔1<=d.dev/\1<=d.n/\d.n<=281474976710655:=by simp[yC]
theorem WB(d:DT):xl d=pure (yC d):=by
 unfold xl;rw[zg,zg,zA];refine congrArg pure ?_;rw[Bool.eq_iff_iff,xK];simp only[Bool.and_eq_true,decide_eq_true_eq];omega
theorem uw(d:DT):YF d=pure (yC d):=by
 unfold YF;rw[zg,zg,zA];refine congrArg pure ?_;rw[Bool.eq_iff_iff,xK];simp only[Bool.and_eq_true,decide_eq_true_eq];omega
theorem Uj(a b:List DT)(h:a.length<=1000000000000):WR a b=pure (decide (a=b)):=by
 unfold WR
 by_cases hl:(a.length:Int)=b.length
 ·simp only[hl,decide_true,Bool.not_true,cond_false];have:=vZ (body:=YC a b) a (fun i=>(i:Int)) (fun i x=>decide (b[i]?=some x)) (.brk ()) (.ret false) (fun i x hx hi=>by
   have hb:i < b.length:=by omega
   unfold YC;rw[zK hx,zK (List.getElem?_eq_getElem hb),yL (by omega)];simp only[zA,List.getElem?_eq_getElem hb,Option.some.injEq];have:decide ((i:Int) < (a.length:Int))=true:=by simpa using hi
   rw[this,cond_true]
   by_cases he:b[i]=x
   ·subst he;simp
   ·rw[if_neg (by simpa using he)];have:(decide (x.dev=b[i].dev)&&decide (x.n=b[i].n))=false:=by
     rw[Bool.eq_false_iff];intro hc;simp at hc;apply he
     cases x;cases hh:b[i];simp_all
    rw[this];rfl) (by
   unfold YC;simp)
  rw[show(0:Int)=((0:Nat):Int) from rfl,this]
  by_cases he:a=b
  ·subst he;rw[if_pos]
   ·simp[zA,uh]
   ·rw[List.all_eq_true];intro ⟨x,i⟩ hx;rw[List.mk_mem_zipIdx_iff_getElem?] at hx;simpa using hx
  ·rw[if_neg]
   ·simp[he,zA,JP]
   ·intro hall;rw[List.all_eq_true] at hall;apply he;apply List.ext_getElem (by omega);intro i h1 h2;have:=hall (a[i],i) (by rw[List.mk_mem_zipIdx_iff_getElem?];exact List.getElem?_eq_getElem h1);simp[h2] at this;exact this.symm
 ·have hne:a≠b:=fun e=>hl (by rw[e])
  simp[hl,hne]
def ofV : List DT->Int->Int
 | [],_=>0
 | d::r,dev=>if d.dev=dev/\yC d=true then max d.n (ofV r dev) else ofV r dev
theorem x6a(v:List DT)(dev:Int):0<=ofV v dev/\ofV v dev<=281474976710655:=by
 induction v with
 | nil=>simp[ofV]
 | cons d r ih=>
  simp only[ofV]
  split
  ·rename_i h;have:=xK.1 h.2;omega
  ·exact ih
theorem ofV_pos{v:List DT}{dev:Int}:0 < ofV v dev↔∃ d∈v,d.dev=dev/\yC d=true:=by
 induction v with
 | nil=>simp[ofV]
 | cons d r ih=>
  simp only[ofV,List.mem_cons,exists_eq_or_imp]
  split
  ·rename_i h
   have:=xK.1 h.2
   constructor
   ·intro _;exact .inl h
   ·intro _;omega
  ·rename_i h
   rw[ih]
   constructor
   ·exact .inr
   ·rintro(hh | hh)
    ·exact absurd hh h
    ·exact hh
def jS : List Int->Int->List Int
 | [],k=>[k]
 | a::r,k=>if k < a then k::a::r else if k=a then a::r else a::jS r k
theorem Vv{l:List Int}{k q:Int}:q∈jS l k↔q=k\/q∈l:=by
 induction l with
 | nil=>simp[jS]
 | cons a r ih=>
  unfold jS
  split
  ·simp
  ·split
   ·rename_i h;subst h;simp
   ·simp only[List.mem_cons,ih];constructor
    ·rintro(h | h | h) <;> simp[h]
    ·rintro(h | h | h) <;> simp[h]
theorem ux{l:List Int}(h:l.Pairwise (· < ·))(k:Int):(jS l k).Pairwise (· < ·):=by
 induction l with
 | nil=>simp[jS]
 | cons a r ih=>
  obtain⟨h1,h2⟩:=List.pairwise_cons.1 h;unfold jS
  split
  ·rename_i hk
   refine List.pairwise_cons.2 ⟨fun x hx=>?_,h⟩;rcases List.mem_cons.1 hx with rfl | hx
   ·exact hk
   ·have:=h1 x hx;omega
  ·split
   ·exact h
   ·refine List.pairwise_cons.2 ⟨fun x hx=>?_,ih h2⟩;rcases Vv.1 hx with rfl | hx
    ·omega
    ·exact h1 x hx
theorem Wg(l : List Int)(k : Int) : (jS l k).length<=l.length+1 := by
  induction l with
  | nil => simp[jS]
  | cons a r ih => unfold jS; split <;> try split
                   all_goals simp_all
def YJ(l:List Int)(d:DT):List Int:=if yC d then jS l d.dev else l
def devsL(v:List DT):List Int:=v.foldl YJ []
theorem Wh(v:List DT):∀ l:List Int,l.Pairwise (· < ·)->(v.foldl YJ l).Pairwise (· < ·)/\(∀ k,k∈v.foldl YJ l↔k∈l\/∃ d∈v,d.dev=k/\yC d=true)/\(v.foldl YJ l).length<=l.length+v.length:=by
 induction v with
 | nil=>intro l h;simp[h]
 | cons d r ih=>
  intro l h;simp only[List.foldl_cons];unfold YJ
  split
  ·rename_i hg
   obtain⟨h1,h2,h3⟩:=ih _ (ux h d.dev);refine⟨h1,fun k=>?_,?_⟩
   ·have:=h2 k;unfold YJ at this;rw[this,Vv]
    constructor
    ·rintro((rfl | h) | ⟨e,he,h⟩)
     ·exact .inr ⟨d,by simp,rfl,hg⟩
     ·exact .inl h
     ·exact .inr ⟨e,by simp[he],h⟩
    ·rintro(h | ⟨e,he,h⟩)
     ·exact .inl (.inr h)
     ·rcases List.mem_cons.1 he with rfl | he
      ·exact .inl (.inl h.1.symm)
      ·exact .inr ⟨e,he,h⟩
   ·have:=Wg l d.dev;simp only[List.length_cons];unfold YJ at h3;omega
  ·rename_i hg
   obtain⟨h1,h2,h3⟩:=ih _ h;refine⟨h1,fun k=>?_,?_⟩
   ·have:=h2 k;unfold YJ at this;rw[this]
    constructor
    ·rintro(h | ⟨e,he,h⟩)
     ·exact .inl h
     ·exact .inr ⟨e,by simp[he],h⟩
    ·rintro(h | ⟨e,he,h⟩)
     ·exact .inl h
     ·rcases List.mem_cons.1 he with rfl | he
      ·exact absurd h.2 hg
      ·exact .inr ⟨e,he,h⟩
   ·simp only[List.length_cons];unfold YJ at h3;omega
theorem vJ{v:List DT}{k:Int}:k∈devsL v↔0 < ofV v k:=by rw[ofV_pos];simpa[devsL] using (Wh v [] List.Pairwise.nil).2.1 k
def uT(m:List (Int×Int))(d:DT):List (Int×Int):=if yC d then AL.set m d.dev (max (AL.getZ m d.dev 0) d.n) else m
def vR(v:List DT):List (Int×Int):=v.foldl uT []
theorem Jw(v:List DT):∀ m:List (Int×Int),(m.map (·.1)).Nodup->((v.foldl uT m).map (·.1)).Nodup/\((∀ k,0<=AL.getZ m k 0)->∀ k,AL.getZ (v.foldl uT m) k 0=max (AL.getZ m k 0) (ofV v k))/\(v.foldl uT m).length<=m.length+v.length/\(∀ k,k∈(v.foldl uT m).map (·.1)->k∈m.map (·.1)\/0 < ofV v k):=by
 induction v with
 | nil=>
  intro m h;refine⟨h,fun h0 k=>?_,by simp,fun k hk=>.inl hk⟩;have:=h0 k;simp only[List.foldl_nil,ofV];omega
 | cons d r ih=>
  intro m h;simp only[List.foldl_cons]
  by_cases hg:yC d=true
  ·have hd:=xK.1 hg;have e:uT m d=AL.set m d.dev (max (AL.getZ m d.dev 0) d.n):=by simp[uT,hg]
   rw[e];obtain⟨h1,h2,h3,h4⟩:=ih _ (AL.nodup_set h d.dev (max (AL.getZ m d.dev 0) d.n));refine⟨h1,fun h0 k=>?_,?_,fun k hk=>?_⟩
   ·rw[h2 (fun q=>by rw[AL.getZ_set];have:=h0 q;have:=h0 d.dev;split <;> omega),AL.getZ_set];simp only[ofV]
    by_cases hk:d.dev=k
    ·subst hk;simp only[if_true,hg,and_self];omega
    ·simp[hk]
   ·have:=AL.len_set m d.dev (max (AL.getZ m d.dev 0) d.n);simp only[List.length_cons];omega
   ·simp only[ofV];rcases h4 k hk with h5 | h5
    ·rw[AL.keys_set] at h5
     split at h5
     ·exact .inl h5
     ·rcases List.mem_append.1 h5 with h5 | h5
      ·exact .inl h5
      ·right
       rw[List.mem_singleton.1 h5,if_pos ⟨rfl,hg⟩];omega
    ·right;split <;> omega
  ·have e:uT m d=m:=by simp[uT,hg]
   rw[e];obtain⟨h1,h2,h3,h4⟩:=ih m h;have e2:∀ k,ofV (d::r) k=ofV r k:=fun k=>by simp only[ofV];rw[if_neg (fun hh=>hg hh.2)]
   exact⟨h1,fun h0 k=>by rw[h2 h0,e2],by simp only[List.length_cons];omega,fun k hk=>by rw[e2];exact h4 k hk⟩
theorem va(v:List DT):((vR v).map (·.1)).Nodup:=(Jw v [] (by simp)).1
theorem vK(v:List DT)(k:Int):AL.getZ (vR v) k 0=ofV v k:=by
 have:=(Jw v [] (by simp)).2.1 (fun _=>Int.le_refl _) k;have h2:=x6a v k;rw[vR,this];show max 0 (ofV v k)=_;omega
theorem ZP{v:List DT}{k n:Int}(h:(k,n)∈vR v):n=ofV v k/\0 < n:=by
 have h1:=AL.mem_get (va v) h;have h2:AL.getZ (vR v) k 0=n:=by simp[AL.getZ,h1]
 rw[vK] at h2;have h3:=(Jw v [] (by simp)).2.2.2 k (List.mem_map.2 ⟨_,h,rfl⟩);simp at h3;omega
def QR(h:Int×Int->Int)(m:List (Int×Int))(L:List Nat):List (Int×Int):=m.zipIdx.map fun y=>if y.2∈L then (y.1.1,h y.1) else y.1
theorem uU{h:Int×Int->Int}{m:List (Int×Int)}{L:List Nat}{i:Nat}:(QR h m L)[i]?=(m[i]?).map fun e=>if i∈L then (e.1,h e) else e:=by
 unfold QR;rw[List.getElem?_map,List.getElem?_zipIdx]
 cases m[i]? <;> simp
theorem Jx{h:Int×Int->Int}{m:List (Int×Int)}{L:List Nat}:(QR h m L).length=m.length:=by simp[QR]
theorem set_at{m:List (Int×Int)}(hn:(m.map (·.1)).Nodup){i:Nat}{e:Int×Int}(hi:m[i]?=some e)(v:Int):AL.set m e.1 v=m.set i (e.1,v):=by
 induction m generalizing i with
 | nil=>simp at hi
 | cons x r ih=>
  obtain⟨a,u⟩:=x;simp only[List.map_cons,List.nodup_cons] at hn
  cases i with
  | zero=>simp at hi;subst hi;simp[AL.set]
  | succ i=>
   simp only[List.getElem?_cons_succ] at hi;have:a≠e.1:=fun he=>hn.1 (he▸List.mem_map.2 ⟨e,List.mem_of_getElem? hi,rfl⟩)
   simp only[AL.set,this,if_false,List.set_cons_succ];rw[ih hn.2 hi]
theorem Uk{h:Int×Int->Int}{m:List (Int×Int)}{L:List Nat}:(QR h m L).map (·.1)=m.map (·.1):=by
 apply List.ext_getElem?;intro i;rw[List.getElem?_map,uU,List.getElem?_map]
 cases m[i]? with
 | none=>rfl
 | some e=>simp only[Option.map_some];split <;> rfl
def QS(a b:DT):Int:=if a=b then 0 else if zT a b then -1 else 1
theorem XU(a b:DT):Wx a b=pure (QS a b):=by
 unfold Wx QS;have h1:(decide (a.dev=b.dev)&&decide (a.n=b.n))=decide (a=b):=by
  rw[Bool.eq_iff_iff];cases a;cases b;simp
 have h2:(cond (decide (a.dev < b.dev)) (pure true) (cond (decide (a.dev=b.dev)) (pure (decide (a.n < b.n))) (pure false)):M Bool)=pure (zT a b):=by
  rw[zg,QB];rfl
 rw[h1,h2,yw,zA]
 split
 ·rfl
 ·cases zT a b <;> rfl
theorem XV{a b:DT}:QS a b < 0↔zT a b=true:=by
 unfold QS
 split
 ·rename_i h;subst h;simp[zT]
 ·split <;> simp_all
theorem cmpD_pos{a b:DT}:0 < QS a b↔zT b a=true:=by
 unfold QS
 by_cases h:a=b
 ·subst h;simp[zT]
 ·rw[if_neg h]
  cases a;cases b
  simp only[DT.mk.injEq] at h;simp only[zT,Bool.or_eq_true,Bool.and_eq_true,decide_eq_true_eq]
  split <;> omega
theorem VE(l:List DT)(d:DT)(h:l.length<=1000000000000):Xv l d=pure ((l.filter fun x=>zT x d)++[d]++(l.filter fun x=>zT d x)):=by
 unfold Xv;have c0:∀ o:List DT,o.length<=1000000000000->True:=fun _ _=>trivial
 have h1:=ZX (body:=XM l d) l (fun i (o:List DT)=>((i:Int),o)) (fun o x=>if zT x d then o++[x] else o) (fun o=>pure o) (fun i o=>o.length<=i) (fun i x o hx hi ho=>by
  have h1:decide ((i:Int) < (l.length:Int))=true:=by simpa using hi
  unfold XM;simp only[h1,cond_true,zK hx,zA,XU,zB,yL (show i < 9223372036854775807 by omega),yw,XV]
  split
  ·rw[zE (by simp;omega)];exact⟨rfl,by simp;omega⟩
  ·exact⟨rfl,by omega⟩) (fun o _=>by unfold XM;simp[zA]) [] (by simp)
 have h2:∀ o0:List DT,o0.length<=1000000000001->loop (Zj l d) (0,o0)=pure (l.foldl (fun o x=>if zT d x then o++[x] else o) o0):=fun o0 ho0=>by
  have:=ZX (body:=Zj l d) l (fun i (o:List DT)=>((i:Int),o)) (fun o x=>if zT d x then o++[x] else o) (fun o=>pure o) (fun i o=>o.length<=o0.length+i) (fun i x o hx hi ho=>by
   have h1:decide ((i:Int) < (l.length:Int))=true:=by simpa using hi
   unfold Zj;simp only[h1,cond_true,zK hx,zA,XU,zB,yL (show i < 9223372036854775807 by omega),yw,cmpD_pos]
   split
   ·rw[zE (by simp;omega)];exact⟨rfl,by simp;omega⟩
   ·exact⟨rfl,by omega⟩) (fun o _=>by unfold Zj;simp[zA]) o0 (by simp)
  exact this
 have hf:∀ (p:DT->Bool) (l o:List DT),l.foldl (fun o x=>if p x then o++[x] else o) o=o++l.filter p:=by
  intro p l
  induction l with
  | nil=>simp
  | cons x r ih=>
   intro o;rw[List.foldl_cons,ih,List.filter_cons]
   split <;> simp
 rw[show((0:Int),([]:List DT))=(((0:Nat):Int),[]) from rfl,h1,hf,zA,zE,h2,hf,zA]
 ·rfl
 ·have:=List.length_filter_le (fun x=>zT x d) l;simp;omega
 ·have:=List.length_filter_le (fun x=>zT x d) l;simp;omega
def Xg(l:List Int):List DT:=l.map fun k=>⟨k,1⟩
theorem z7a{l:List Int}(h:l.Pairwise (· < ·))(k:Int):((Xg l).filter fun x=>zT x ⟨k,1⟩)++[⟨k,1⟩]++((Xg l).filter fun x=>zT ⟨k,1⟩ x)=Xg (jS l k):=by
 induction l with
 | nil=>rfl
 | cons a r ih=>
  obtain⟨h1,h2⟩:=List.pairwise_cons.1 h;have i2:=ih h2;unfold jS
  by_cases c1:k < a
  ·rw[if_pos c1];have e1:(Xg (a::r)).filter (fun x=>zT x ⟨k,1⟩)=[]:=by
    rw[List.filter_eq_nil_iff];intro x hx;simp only[Xg,List.map_cons,List.mem_cons,List.mem_map] at hx;rcases hx with rfl | ⟨b,hb,rfl⟩
    ·simp[zT];omega
    ·have:=h1 b hb;simp[zT];omega
   have e2:(Xg (a::r)).filter (fun x=>zT ⟨k,1⟩ x)=Xg (a::r):=by
    rw[List.filter_eq_self];intro x hx;simp only[Xg,List.map_cons,List.mem_cons,List.mem_map] at hx;rcases hx with rfl | ⟨b,hb,rfl⟩
    ·simp[zT];omega
    ·have:=h1 b hb;simp[zT];omega
   rw[e1,e2];rfl
  ·rw[if_neg c1]
   by_cases c2:k=a
   ·subst c2;rw[if_pos rfl];have e1:(Xg (k::r)).filter (fun x=>zT x ⟨k,1⟩)=[]:=by
     rw[List.filter_eq_nil_iff];intro x hx;simp only[Xg,List.map_cons,List.mem_cons,List.mem_map] at hx;rcases hx with rfl | ⟨b,hb,rfl⟩
     ·simp[zT]
     ·have:=h1 b hb;simp[zT];omega
    have e2:(Xg (k::r)).filter (fun x=>zT ⟨k,1⟩ x)=Xg r:=by
     show List.filter _ (⟨k,1⟩::Xg r)=_;rw[List.filter_cons,if_neg (by simp[zT]),List.filter_eq_self];intro x hx;simp only[Xg,List.mem_map] at hx;obtain⟨b,hb,rfl⟩:=hx;have:=h1 b hb;simp[zT];omega
    rw[e1,e2];rfl
   ·rw[if_neg c2];show(List.filter _ (⟨a,1⟩::Xg r))++_++(List.filter _ (⟨a,1⟩::Xg r))=⟨a,1⟩::Xg (jS r k);rw[List.filter_cons,if_pos (by simp[zT];omega),List.filter_cons,if_neg (by simp[zT];omega),<- i2]
    rfl
theorem equal_eq(a b:List DT)(h:a.length<=1000000000000):ym a b=pure (decide (a=b)):=by
 have e:ym a b=WR a b:=rfl;rw[e,Uj a b h]
theorem zQa(a b:List DT)(h:a.length<=1000000000000):Vn a b=pure (decide (a=b)):=by
 unfold Vn;rw[equal_eq a b h,zB,zA]
end Go.Ep.M.V
namespace Go.Ep.M.R
open Go
def YP(x:RN):Bool:=decide (1<=x.lo)&&(decide (x.lo<=x.hi)&&decide (x.hi<=281474976710655))
theorem zk{x:RN}:YP x=true↔1<=x.lo/\x.lo<=x.hi/\x.hi<=281474976710655:=by simp[YP]
def inR(n:Int)(x:RN):Bool:=YP x&&(decide (x.lo<=n)&&decide (n<=x.hi))
theorem xB{n:Int}{x:RN}:inR n x=true↔(1<=x.lo/\x.lo<=x.hi/\x.hi<=281474976710655)/\x.lo<=n/\n<=x.hi:=by simp[inR,YP]
def yX(l:List RN)(n:Int):Bool:=l.any (inR n)
theorem wO{l:List RN}{n:Int}:yX l n=true↔∃ x∈l,YP x=true/\x.lo<=n/\n<=x.hi:=by
 unfold yX;rw[List.any_eq_true];simp[inR]
@[simp] theorem Jy(n:Int):yX [] n=false:=rfl
theorem xh(x:RN)(l:List RN)(n:Int):yX (x::l) n=(inR n x||yX l n):=rfl
theorem uV(a b:List RN)(n:Int):yX (a++b) n=(yX a n||yX b n):=by simp[yX]
theorem vL(x:RN)(n:Int):yX [x] n=inR n x:=by simp[yX]
theorem x7a{a b:List RN}(h:a.Perm b)(n:Int):yX a n=yX b n:=by
 rw[Bool.eq_iff_iff,wO,wO];simp only[h.mem_iff]
theorem zRa(l:List RN)(n:Int):yX (l.filter YP) n=yX l n:=by
 rw[Bool.eq_iff_iff,wO,wO];simp only[List.mem_filter];exact⟨fun⟨x,⟨h1,_⟩,h3⟩=>⟨x,h1,h3⟩,fun⟨x,h1,h2,h3⟩=>⟨x,⟨h1,h2⟩,h2,h3⟩⟩
theorem jr{l:List RN}{n:Int}(h:yX l n=true):1<=n/\n<=281474976710655:=by
 obtain⟨x,_,h2,h3,h4⟩:=wO.1 h;have:=zk.1 h2;omega
def Nf : List RN->Prop
 | []=>True
 | x::r=>YP x=true/\(∀ y∈r,x.hi+1 < y.lo)/\Nf r
theorem Nf.may{l:List RN}(h:Nf l):∀ x∈l,YP x=true:=by
 induction l with
 | nil=>simp
 | cons y r ih=>
  intro x hx;rcases List.mem_cons.1 hx with rfl | hx
  ·exact h.1
  ·exact ih h.2.2 x hx
theorem YK{l:List RN}{z:RN}:Nf (l++[z])↔Nf l/\YP z=true/\∀ p∈l,p.hi+1 < z.lo:=by
 induction l with
 | nil=>simp[Nf]
 | cons x r ih=>
  simp only[List.cons_append,Nf,ih,List.mem_append,List.mem_cons,List.not_mem_nil,or_false]
  constructor
  ·rintro⟨h1,h2,h3,h4,h5⟩;refine⟨⟨h1,fun y hy=>h2 y (.inl hy),h3⟩,h4,fun p hp=>?_⟩;rcases hp with rfl | hp
   ·exact h2 z (.inr rfl)
   ·exact h5 p hp
  ·rintro⟨⟨h1,h2,h3⟩,h4,h5⟩;refine⟨h1,fun y hy=>?_,h3,h4,fun p hp=>h5 p (.inr hp)⟩;rcases hy with hy | rfl
   ·exact h2 y hy
   ·exact h5 x (.inl rfl)
theorem Ul{x:RN}{r:List RN}(h:Nf (x::r)){n:Int}(hn:yX r n=true):x.hi+1 < n:=by
 obtain⟨y,h1,_,h3,_⟩:=wO.1 hn;have:=h.2.1 y h1;omega
theorem Jz{x:RN}{r:List RN}(h:Nf (x::r)):yX (x::r) x.lo=true:=by
 rw[xh];have:=zk.1 h.1;rw[Bool.or_eq_true];exact .inl (xB.2 ⟨this,by omega,by omega⟩)
theorem qA{x:RN}{r:List RN}(h:Nf (x::r)){n:Int}(hn:yX (x::r) n=true):x.lo<=n:=by
 rw[xh,Bool.or_eq_true] at hn;rcases hn with hn | hn
 ·exact(xB.1 hn).2.1
 ·have:=Ul h hn;have:=zk.1 h.1;omega
theorem zSa{x:RN}{r:List RN}(h:Nf (x::r)){n:Int}(h1:x.lo<=n):yX (x::r) n=true↔n<=x.hi\/yX r n=true:=by
 rw[xh,Bool.or_eq_true,xB];have:=zk.1 h.1
 constructor
 ·rintro(h2 | h2)
  ·exact .inl h2.2.2
  ·exact .inr h2
 ·rintro(h2 | h2)
  ·exact .inl ⟨this,h1,h2⟩
  ·exact .inr h2
theorem Wi : ∀ {a b:List RN},Nf a->Nf b->(∀ n,yX a n=yX b n)->a=b
 | [],[],_,_,_=>rfl
 | [],y::s,_,hb,h=>by have:=h y.lo;rw[Jz hb] at this;simp at this
 | x::r,[],ha,_,h=>by have:=h x.lo;rw[Jz ha] at this;simp at this
 | x::r,y::s,ha,hb,h=>by
  have h1:x.lo=y.lo:=by
   have h2:=qA hb (by rw[<- h];exact Jz ha);have h3:=qA ha (by rw[h];exact Jz hb);omega
  have hx:=zk.1 ha.1;have hy:=zk.1 hb.1;have hle:∀ {x y:RN} {r s:List RN},Nf (x::r)->Nf (y::s)->(∀ n,yX (x::r) n=yX (y::s) n)->x.lo=y.lo->y.hi<=x.hi:=by
   intro x y r s ha hb h h1;have hx:=zk.1 ha.1;refine Classical.byContradiction fun hc=>?_
   have h2:yX (y::s) (x.hi+1)=true:=(zSa hb (by omega)).2 (.inl (by omega));rw[<- h,zSa ha (by omega)] at h2;rcases h2 with h2 | h2
   ·omega
   ·have:=Ul ha h2;omega
  have h2:x.hi=y.hi:=by
   have:=hle ha hb h h1;have:=hle hb ha (fun n=>(h n).symm) h1.symm;omega
  have he:x=y:=by cases x;cases y;simp_all
  subst he;rw[Wi ha.2.2 hb.2.2 fun n=>?_];rw[Bool.eq_iff_iff];have h3:=h n
  constructor
  ·intro hn;have:=Ul ha hn;have h4:yX (x::r) n=true:=(zSa ha (by omega)).2 (.inr hn);rw[h3,zSa hb (by omega)] at h4;rcases h4 with h4 | h4
   ·omega
   ·exact h4
  ·intro hn;have:=Ul hb hn;have h4:yX (x::s) n=true:=(zSa hb (by omega)).2 (.inr hn);rw[<- h3,zSa ha (by omega)] at h4;rcases h4 with h4 | h4
   ·omega
   ·exact h4
def putS(n:Int)(s:Bool×List Int)(x:Int):Bool×List Int:=
 let t:=if s.1=false/\n<=x then (true,s.2++[n]) else s
 if x=n then t else (t.1,t.2++[x])
def putP(l:List Int)(n:Int):List Int:=let t:=l.foldl (putS n) (false,[]);if t.1 then t.2 else t.2++[n]
abbrev Up(l:List Int):Prop:=l.Pairwise (· < ·)
theorem Um{l:List Int}{z:Int}:Up (l++[z])↔Up l/\∀ p∈l,p < z:=by
 unfold Up;rw[List.pairwise_append];simp
theorem Wj(n:Int):∀ (l:List Int) (s:Bool×List Int),Up l->Up s.2->(∀ p∈s.2,∀ x∈l,p < x\/(p=n/\s.1=true/\p<=x))->(s.1=true->n∈s.2)->(s.1=false->∀ p∈s.2,p < n) ->
  Up (l.foldl (putS n) s).2/\(∀ m,m∈(l.foldl (putS n) s).2↔m∈s.2\/(m∈l/\m≠n)\/(m=n/\(l.foldl (putS n) s).1=true))/\((l.foldl (putS n) s).1=false->∀ p∈(l.foldl (putS n) s).2,p < n)/\(l.foldl (putS n) s).2.length<=s.2.length+l.length+(if s.1 then 0 else 1)/\((l.foldl (putS n) s).1=false->(l.foldl (putS n) s).2.length<=s.2.length+l.length)
 | [],s,_,hs,_,h2,h3=>by
  refine⟨hs,fun m=>?_,h3,by simp,by simp⟩;simp only[List.foldl_nil,List.not_mem_nil,false_and,false_or];exact⟨fun h=>.inl h,fun h=>h.elim id fun⟨e,h⟩=>e▸h2 h⟩
 | x::r,(d,out),hl,hs,h1,h2,h3=>by
  rw[List.foldl_cons];have hl':=List.pairwise_cons.1 hl;simp only at hs h1 h2 h3
  by_cases hc:d=false/\n<=x
  ·obtain⟨rfl,hnx⟩:=hc
   by_cases hx:x=n
   ·have e:putS n (false,out) x=(true,out++[n]):=by simp[putS,hx]
    rw[e];obtain⟨i1,i2,i3,i4,i5⟩:=Wj n r (true,out++[n]) hl'.2 (Um.2 ⟨hs,h3 rfl⟩) (fun p hp y hy=>by
     have:=hl'.1 y hy;rcases List.mem_append.1 hp with hp | hp
     ·have:=h3 rfl p hp;left;omega
     ·simp at hp;left;omega) (fun _=>by simp) (fun h=>by cases h)
    refine⟨i1,fun m=>?_,i3,?_,?_⟩
    ·rw[i2];simp only[List.mem_append,List.mem_cons,List.not_mem_nil,or_false]
     constructor
     ·rintro((h | h) | h | h)
      ·exact .inl h
      ·refine .inr (.inr ⟨h,?_⟩)
       cases hb:(r.foldl (putS n) (true,out++[n])).1 with
       | true=>rfl
       | false=>have:=i3 hb n ((i2 n).2 (.inl (by simp)));omega
      ·exact .inr (.inl ⟨.inr h.1,h.2⟩)
      ·exact .inr (.inr h)
     ·rintro(h | ⟨h | h,h'⟩ | h)
      ·exact .inl (.inl h)
      ·exact absurd (h.trans hx) h'
      ·exact .inr (.inl ⟨h,h'⟩)
      ·exact .inr (.inr h)
    ·simp at i4 ⊢;omega
    ·intro hf;have:=i5 hf;simp at this ⊢;omega
   ·have e:putS n (false,out) x=(true,out++[n]++[x]):=by simp[putS,hx,hnx]
    rw[e];obtain⟨i1,i2,i3,i4,i5⟩:=Wj n r (true,out++[n]++[x]) hl'.2 (Um.2 ⟨Um.2 ⟨hs,h3 rfl⟩,fun p hp=>by
     rcases List.mem_append.1 hp with hp | hp
     ·have:=h3 rfl p hp;omega
     ·simp at hp;omega⟩) (fun p hp y hy=>by
     have:=hl'.1 y hy;simp only[List.mem_append,List.mem_singleton] at hp;rcases hp with(hp | hp) | hp
     ·have:=h3 rfl p hp;left;omega
     ·left;omega
     ·left;omega) (fun _=>by simp) (fun h=>by cases h)
    refine⟨i1,fun m=>?_,i3,?_,?_⟩
    ·rw[i2];simp only[List.mem_append,List.mem_cons,List.not_mem_nil,or_false]
     constructor
     ·rintro(((h | h) | h) | h | h)
      ·exact .inl h
      ·refine .inr (.inr ⟨h,?_⟩)
       cases hb:(r.foldl (putS n) (true,out++[n]++[x])).1 with
       | true=>rfl
       | false=>have:=i3 hb n ((i2 n).2 (.inl (by simp)));omega
      ·exact .inr (.inl ⟨.inl h,fun e=>hx (h.symm.trans e)⟩)
      ·exact .inr (.inl ⟨.inr h.1,h.2⟩)
      ·exact .inr (.inr h)
     ·rintro(h | ⟨h | h,h'⟩ | h)
      ·exact .inl (.inl (.inl h))
      ·exact .inl (.inr h)
      ·exact .inr (.inl ⟨h,h'⟩)
      ·exact .inr (.inr h)
    ·simp at i4 ⊢;omega
    ·intro hf;have:=i5 hf;simp at this ⊢;exfalso;have:=i3 hf n ((i2 n).2 (.inl (by simp)));omega
  ·by_cases hx:x=n
   ·have hd:d=true:=by cases d with | true=>rfl | false=>exact absurd ⟨rfl,by omega⟩ hc
    subst hd;have e:putS n (true,out) x=(true,out):=by simp[putS,hx]
    rw[e];obtain⟨i1,i2,i3,i4,i5⟩:=Wj n r (true,out) hl'.2 hs (fun p hp y hy=>h1 p hp y (List.mem_cons_of_mem _ hy)) h2 h3;refine⟨i1,fun m=>?_,i3,?_,?_⟩
    ·rw[i2];simp only[List.mem_cons]
     constructor
     ·rintro(h | h | h)
      ·exact .inl h
      ·exact .inr (.inl ⟨.inr h.1,h.2⟩)
      ·exact .inr (.inr h)
     ·rintro(h | ⟨h | h,h'⟩ | h)
      ·exact .inl h
      ·exact absurd (h.trans hx) h'
      ·exact .inr (.inl ⟨h,h'⟩)
      ·exact .inr (.inr h)
    ·simp at i4 ⊢;omega
    ·intro hf;have:=i5 hf;simp at this ⊢;omega
   ·have e:putS n (d,out) x=(d,out++[x]):=by
     unfold putS;simp only[hc,if_false,hx]
    rw[e];have hlt:d=false->x < n:=fun h=>by
     have:¬ n<=x:=fun h'=>hc ⟨h,h'⟩
     omega
    obtain⟨i1,i2,i3,i4,i5⟩:=Wj n r (d,out++[x]) hl'.2 (Um.2 ⟨hs,fun p hp=>by
     rcases h1 p hp x (by simp) with h | h
     ·exact h
     ·omega⟩) (fun p hp y hy=>by
     rcases List.mem_append.1 hp with hp | hp
     ·exact h1 p hp y (List.mem_cons_of_mem _ hy)
     ·simp at hp;have:=hl'.1 y hy;left;omega) (fun h=>List.mem_append_left _ (h2 h)) (fun h p hp=>by
     rcases List.mem_append.1 hp with hp | hp
     ·exact h3 h p hp
     ·simp at hp;rw[hp];exact hlt h)
    refine⟨i1,fun m=>?_,i3,?_,?_⟩
    ·rw[i2];simp only[List.mem_append,List.mem_cons,List.not_mem_nil,or_false]
     constructor
     ·rintro((h | h) | h | h)
      ·exact .inl h
      ·exact .inr (.inl ⟨.inl h,fun e=>hx (h.symm.trans e)⟩)
      ·exact .inr (.inl ⟨.inr h.1,h.2⟩)
      ·exact .inr (.inr h)
     ·rintro(h | ⟨h | h,h'⟩ | h)
      ·exact .inl (.inl h)
      ·exact .inl (.inr h)
      ·exact .inr (.inl ⟨h,h'⟩)
      ·exact .inr (.inr h)
    ·simp at i4 ⊢;omega
    ·intro hf;have:=i5 hf;simp at this ⊢;omega
theorem VF{l:List Int}(h:Up l)(n:Int):Up (putP l n)/\(∀ m,m∈putP l n↔m∈l\/m=n)/\(putP l n).length<=l.length+1:=by
 obtain⟨i1,i2,i3,i4,i5⟩:=Wj n l (false,[]) h (by simp[Up]) (by simp) (by simp) (by simp);unfold putP;simp only
 cases hb:(l.foldl (putS n) (false,[])).1 with
 | true=>
  simp only[if_true];refine⟨i1,fun m=>?_,by simpa using i4⟩;rw[i2,hb];simp only[List.not_mem_nil,false_or,and_true]
  constructor
  ·rintro(h | h)
   ·exact .inl h.1
   ·exact .inr h
  ·rintro(h | h)
   ·by_cases e:m=n
    ·exact .inr e
    ·exact .inl ⟨h,e⟩
   ·exact .inr h
 | false=>
  have:=i5 hb;rw[if_neg (by simp)];refine⟨Um.2 ⟨i1,i3 hb⟩,fun m=>?_,by simp at this ⊢;omega⟩;simp only[List.mem_append,List.mem_singleton,i2,hb,List.not_mem_nil,false_or]
  constructor
  ·rintro((h | h) | h)
   ·exact .inl h.1
   ·cases h.2
   ·exact .inr h
  ·rintro(h | h)
   ·by_cases e:m=n
    ·exact .inr e
    ·exact .inl (.inl ⟨h,e⟩)
   ·exact .inr h
def ptS(out:List Int)(x:RN):List Int:=if YP x then putP (putP out x.lo) (x.hi+1) else out
def qB(l:List RN):List Int:=l.foldl ptS []
theorem qC : ∀ (l:List RN) (out:List Int),Up out->Up (l.foldl ptS out)/\(∀ m,m∈l.foldl ptS out↔m∈out\/∃ x∈l,YP x=true/\(m=x.lo\/m=x.hi+1))/\(l.foldl ptS out).length<=out.length+2*l.length
 | [],out,h=>⟨h,fun m=>by simp,by simp⟩
 | x::r,out,h=>by
  rw[List.foldl_cons];obtain⟨j1,j2,j3⟩:=VF h x.lo;obtain⟨k1,k2,k3⟩:=VF j1 (x.hi+1)
  by_cases hm:YP x=true
  ·have e:ptS out x=putP (putP out x.lo) (x.hi+1):=by simp[ptS,hm]
   rw[e];obtain⟨i1,i2,i3⟩:=qC r _ k1;refine⟨i1,fun m=>?_,by simp;omega⟩;rw[i2,k2,j2]
   constructor
   ·rintro(((h | h) | h) | ⟨y,h1,h2⟩)
    ·exact .inl h
    ·exact .inr ⟨x,by simp,hm,.inl h⟩
    ·exact .inr ⟨x,by simp,hm,.inr h⟩
    ·exact .inr ⟨y,by simp[h1],h2⟩
   ·rintro(h | ⟨y,h1,h2,h3⟩)
    ·exact .inl (.inl (.inl h))
    ·rcases List.mem_cons.1 h1 with rfl | h1
     ·rcases h3 with h3 | h3
      ·exact .inl (.inl (.inr h3))
      ·exact .inl (.inr h3)
     ·exact .inr ⟨y,h1,h2,h3⟩
  ·have e:ptS out x=out:=by simp[ptS,hm]
   rw[e];obtain⟨i1,i2,i3⟩:=qC r _ h;refine⟨i1,fun m=>?_,by simp;omega⟩;rw[i2]
   constructor
   ·rintro(h | ⟨y,h1,h2⟩)
    ·exact .inl h
    ·exact .inr ⟨y,by simp[h1],h2⟩
   ·rintro(h | ⟨y,h1,h2,h3⟩)
    ·exact .inl h
    ·rcases List.mem_cons.1 h1 with rfl | h1
     ·exact absurd h2 hm
     ·exact .inr ⟨y,h1,h2,h3⟩
theorem jt(l:List RN):Up (qB l)/\(∀ m,m∈qB l↔∃ x∈l,YP x=true/\(m=x.lo\/m=x.hi+1))/\(qB l).length<=2*l.length:=by
 obtain⟨h1,h2,h3⟩:=qC l [] (by simp[Up]);exact⟨h1,fun m=>by rw[qB,h2];simp,by simpa[qB] using h3⟩
def z8a(out:List RN)(p:Int)(z:RN->RN)(x:RN):List RN:=match out.getLast? with
 | some y=>if y.hi+1=p then out.dropLast++[z y] else out++[x]
 | none=>out++[x]
def z9a(op:Bool->Bool->Bool)(a b:List RN)(out:List RN)(pq:Int×Int):List RN:=
 if op (yX a pq.1) (yX b pq.1) then z8a out pq.1 (fun y=>⟨y.lo,pq.2 - 1⟩) ⟨pq.1,pq.2 - 1⟩ else out
def xx(l:List Int):List (Int×Int):=l.zip l.tail
def ZQ(op:Bool->Bool->Bool)(a b:List RN):List RN:=(xx (qB (a++b))).foldl (z9a op a b) []
theorem ysa(p:Int)(z:RN->RN)(x:RN):z8a [] p z x=[x]:=rfl
theorem Un(l:List RN)(y:RN)(p:Int)(z:RN->RN)(x:RN):z8a (l++[y]) p z x=if y.hi+1=p then l++[z y] else l++[y]++[x]:=by simp[z8a]
theorem xp{α:Type}(l:List α):l=[]\/∃ r y,l=r++[y]:=by
 rcases List.eq_nil_or_concat l with h | ⟨r,y,h⟩
 ·exact .inl h
 ·exact .inr ⟨r,y,by simpa using h⟩
theorem qD(op:Bool->Bool->Bool)(a b:List RN):∀ (P:List Int) (p:Int) (out:List RN),Up (p::P)->(∀ q∈p::P,1<=q/\q<=281474976710656)->Nf out->(∀ y∈out,y.hi < p) ->
  Nf ((xx (p::P)).foldl (z9a op a b) out)/\(∀ n,yX ((xx (p::P)).foldl (z9a op a b) out) n=true↔yX out n=true\/∃ pq∈xx (p::P),pq.1<=n/\n < pq.2/\op (yX a pq.1) (yX b pq.1)=true)/\((xx (p::P)).foldl (z9a op a b) out).length<=out.length+P.length
 | [],p,out,_,_,h,_=>by simp[xx,h]
 | q::P,p,out,hu,hr,h,hy=>by
  have e:xx (p::q::P)=(p,q)::xx (q::P):=rfl;rw[e,List.foldl_cons];have hu':=List.pairwise_cons.1 hu;have hpq:p < q:=hu'.1 q (by simp);have hp:=hr p (by simp);have hq:=hr q (by simp);have step:Nf (z9a op a b out (p,q))/\(∀ n,yX (z9a op a b out (p,q)) n=true↔yX out n=true\/(p<=n/\n < q/\op (yX a p) (yX b p)=true))/\(∀ y∈z9a op a b out (p,q),y.hi < q)/\(z9a op a b out (p,q)).length<=out.length+1:=by
   unfold z9a;simp only
   by_cases hop:op (yX a p) (yX b p)=true
   ·rw[if_pos hop];rcases xp out with rfl | ⟨l,y,rfl⟩
    ·rw[ysa];have hm:YP (⟨p,q - 1⟩:RN)=true:=zk.2 ⟨hp.1,by simp only;omega,by simp only;omega⟩;refine⟨⟨hm,by simp,trivial⟩,fun n=>?_,fun y hy=>?_,by simp⟩
     ·rw[vL,xB];have:=zk.1 hm;simp only at this ⊢;simp only[Jy,Bool.false_eq_true,false_or,hop,and_true];omega
     ·simp at hy;subst hy;simp only;omega
    ·rw[Un];obtain⟨n1,n2,n3⟩:=YK.1 h;have hym:=zk.1 n2;have hyp:=hy y (by simp)
     by_cases hadj:y.hi+1=p
     ·rw[if_pos hadj];have hm:YP (⟨y.lo,q - 1⟩:RN)=true:=zk.2 ⟨hym.1,by simp only;omega,by simp only;omega⟩;refine⟨YK.2 ⟨n1,hm,n3⟩,fun n=>?_,fun z hz=>?_,by simp⟩
      ·rw[uV,uV,vL,vL,Bool.or_eq_true,Bool.or_eq_true,xB,xB];have:=zk.1 hm;simp only at this ⊢;simp only[hop,and_true]
       constructor
       ·rintro(h | h)
        ·exact .inl (.inl h)
        ·by_cases hc:n<=y.hi
         ·exact .inl (.inr ⟨hym,h.2.1,hc⟩)
         ·right;omega
       ·rintro((h | h) | h)
        ·exact .inl h
        ·right;omega
        ·right;omega
      ·rcases List.mem_append.1 hz with hz | hz
       ·have:=hy z (by simp[hz]);omega
       ·simp at hz;subst hz;simp only;omega
     ·rw[if_neg hadj];have hm:YP (⟨p,q - 1⟩:RN)=true:=zk.2 ⟨hp.1,by simp only;omega,by simp only;omega⟩;refine⟨YK.2 ⟨h,hm,fun z hz=>?_⟩,fun n=>?_,fun z hz=>?_,by simp⟩
      ·simp only;rcases List.mem_append.1 hz with hz | hz
       ·have:=n3 z hz;omega
       ·simp at hz;subst hz;omega
      ·rw[uV (l++[y]),vL,Bool.or_eq_true,xB];have:=zk.1 hm;simp only at this ⊢;simp only[hop,and_true]
       constructor
       ·rintro(h | h)
        ·exact .inl h
        ·right;omega
       ·rintro(h | h)
        ·exact .inl h
        ·right;omega
      ·rcases List.mem_append.1 hz with hz | hz
       ·have:=hy z hz;omega
       ·simp at hz;subst hz;simp only;omega
   ·rw[if_neg hop];refine⟨h,fun n=>?_,fun y hy'=>by have:=hy y hy';omega,by omega⟩;exact⟨fun h=>.inl h,fun h=>h.elim id fun h=>absurd h.2.2 hop⟩
  obtain⟨s1,s2,s3,s4⟩:=step;obtain⟨i1,i2,i3⟩:=qD op a b P q _ hu'.2 (fun z hz=>hr z (List.mem_cons_of_mem _ hz)) s1 s3;refine⟨i1,fun n=>?_,by simp;omega⟩;rw[i2,s2];simp only[List.mem_cons,exists_eq_or_imp]
  constructor
  ·rintro((h | h) | h)
   ·exact .inl h
   ·exact .inr (.inl h)
   ·exact .inr (.inr h)
  ·rintro(h | h | h)
   ·exact .inl (.inl h)
   ·exact .inl (.inr h)
   ·exact .inr h
theorem VG : ∀ {P:List Int},Up P->∀ pq∈xx P,pq.1∈P/\pq.2∈P/\pq.1 < pq.2/\∀ m∈P,m<=pq.1\/pq.2<=m
 | [],_,pq,h=>by simp[xx] at h
 | [p],_,pq,h=>by simp[xx] at h
 | p::q::P,hu,pq,h=>by
  have e:xx (p::q::P)=(p,q)::xx (q::P):=rfl;rw[e] at h;have hu':=List.pairwise_cons.1 hu;rcases List.mem_cons.1 h with rfl | h
  ·refine⟨by simp,by simp,hu'.1 q (by simp),fun m hm=>?_⟩;rcases List.mem_cons.1 hm with rfl | hm
   ·simp
   ·right
    rcases List.mem_cons.1 hm with rfl | hm
    ·simp
    ·have:=(List.pairwise_cons.1 hu'.2).1 m hm;simp only;omega
  ·obtain⟨h1,h2,h3,h4⟩:=VG hu'.2 pq h;refine⟨List.mem_cons_of_mem _ h1,List.mem_cons_of_mem _ h2,h3,fun m hm=>?_⟩;rcases List.mem_cons.1 hm with rfl | hm
   ·left;have:=hu'.1 _ h1;omega
   ·exact h4 m hm
theorem ju : ∀ {P:List Int},Up P->∀ {u v n:Int},u∈P->v∈P->u<=n->n < v->∃ pq∈xx P,pq.1<=n/\n < pq.2
 | [],_,_,_,_,h,_,_,_=>by simp at h
 | [p],_,u,v,n,h1,h2,h3,h4=>by simp at h1 h2;omega
 | p::q::P,hu,u,v,n,h1,h2,h3,h4=>by
  have e:xx (p::q::P)=(p,q)::xx (q::P):=rfl;have hu':=List.pairwise_cons.1 hu
  by_cases hc:n < q
  ·refine⟨(p,q),by rw[e];simp,?_,hc⟩;rcases List.mem_cons.1 h1 with rfl | h1
   ·exact h3
   ·have:q<=u:=by
     rcases List.mem_cons.1 h1 with rfl | h1
     ·omega
     ·have:=(List.pairwise_cons.1 hu'.2).1 u h1;omega
    simp only;omega
  ·have hv:v∈q::P:=by
    rcases List.mem_cons.1 h2 with rfl | h2
    ·have:=hu'.1 q (by simp);omega
    ·exact h2
   obtain⟨pq,h5,h6⟩:=ju hu'.2 (u:=q) (by simp) hv (by omega) h4;exact⟨pq,by rw[e];exact List.mem_cons_of_mem _ h5,h6⟩
theorem x8a(P:List Int):(xx P).length=P.length - 1:=by simp[xx]
theorem YL{l:List RN}{P:List Int}(hP:∀ x∈l,YP x=true->x.lo∈P/\x.hi+1∈P){p q n:Int}(h1:∀ m∈P,m<=p\/q<=m)(h2:p<=n)(h3:n < q):yX l n=yX l p:=by
 rw[Bool.eq_iff_iff,wO,wO]
 constructor
 ·rintro⟨x,hx,hm,h4,h5⟩;obtain⟨h6,h7⟩:=hP x hx hm;have:=h1 _ h6;have:=h1 _ h7;exact⟨x,hx,hm,by omega,by omega⟩
 ·rintro⟨x,hx,hm,h4,h5⟩;obtain⟨h6,h7⟩:=hP x hx hm;have:=h1 _ h6;have:=h1 _ h7;exact⟨x,hx,hm,by omega,by omega⟩
theorem zr(op:Bool->Bool->Bool)(h0:op false false=false)(a b:List RN):Nf (ZQ op a b)/\(∀ n,yX (ZQ op a b) n=op (yX a n) (yX b n))/\(ZQ op a b).length<=2*(a.length+b.length):=by
 obtain⟨p1,p2,p3⟩:=jt (a++b);have hrange:∀ q∈qB (a++b),1<=q/\q<=281474976710656:=fun q hq=>by
  obtain⟨x,_,h2,h3⟩:=(p2 q).1 hq;have:=zk.1 h2;omega
 have main:Nf (ZQ op a b)/\(∀ n,yX (ZQ op a b) n=true↔∃ pq∈xx (qB (a++b)),pq.1<=n/\n < pq.2/\op (yX a pq.1) (yX b pq.1)=true)/\(ZQ op a b).length<=(qB (a++b)).length:=by
  unfold ZQ
  generalize hP:qB (a++b)=P at p1 hrange
  cases P with
  | nil=>simp[xx,Nf]
  | cons p P=>
   obtain⟨i1,i2,i3⟩:=qD op a b P p [] p1 hrange trivial (by simp);exact⟨i1,fun n=>by rw[i2];simp,by simp at i3 ⊢;omega⟩
 obtain⟨m1,m2,m3⟩:=main;refine⟨m1,fun n=>?_,by simp at p3;omega⟩;have hPa:∀ x∈a,YP x=true->x.lo∈qB (a++b)/\x.hi+1∈qB (a++b):=fun x hx hm=>⟨(p2 _).2 ⟨x,by simp[hx],hm,.inl rfl⟩,(p2 _).2 ⟨x,by simp[hx],hm,.inr rfl⟩⟩
 have hPb:∀ x∈b,YP x=true->x.lo∈qB (a++b)/\x.hi+1∈qB (a++b):=fun x hx hm=>⟨(p2 _).2 ⟨x,by simp[hx],hm,.inl rfl⟩,(p2 _).2 ⟨x,by simp[hx],hm,.inr rfl⟩⟩
 rw[Bool.eq_iff_iff,m2]
 constructor
 ·rintro⟨pq,h1,h2,h3,h4⟩;obtain⟨_,_,_,h5⟩:=VG p1 pq h1
  rwa [YL hPa h5 h2 h3,YL hPb h5 h2 h3]
 ·intro h;have hex:∃ u∈qB (a++b),∃ v∈qB (a++b),u<=n/\n < v:=by
   cases ha:yX a n with
   | true=>
    obtain⟨x,h1,h2,h3,h4⟩:=wO.1 ha;exact⟨_,(hPa x h1 h2).1,_,(hPa x h1 h2).2,h3,by omega⟩
   | false=>
    cases hb:yX b n with
    | true=>
     obtain⟨x,h1,h2,h3,h4⟩:=wO.1 hb;exact⟨_,(hPb x h1 h2).1,_,(hPb x h1 h2).2,h3,by omega⟩
    | false=>rw[ha,hb,h0] at h;cases h
  obtain⟨u,hu,v,hv,h1,h2⟩:=hex;obtain⟨pq,h3,h4,h5⟩:=ju p1 hu hv h1 h2;obtain⟨_,_,_,h6⟩:=VG p1 pq h3;exact⟨pq,h3,h4,h5,by rwa [<- YL hPa h6 h4 h5,<- YL hPb h6 h4 h5]⟩
def nrm(l:List RN):List RN:=ZQ (·||·) l []
theorem YQ(l:List RN):Nf (nrm l):=(zr _ rfl l []).1
theorem vM(l:List RN)(n:Int):yX (nrm l) n=yX l n:=by rw[nrm,(zr _ rfl l []).2.1];simp
theorem uy(l:List RN):(nrm l).length<=2*l.length:=by
 have:=(zr (·||·) rfl l []).2.2;rw[List.length_nil,Nat.add_zero] at this;exact this
theorem nrm_of{l r:List RN}(h:Nf r)(h2:∀ n,yX r n=yX l n):r=nrm l:=Wi h (YQ l) fun n=>by rw[h2,vM]
theorem qE{l:List RN}(h:Nf l):nrm l=l:=(nrm_of h fun _=>rfl).symm
theorem x9a(x y:RN):(decide (x.lo=y.lo)&&decide (x.hi=y.hi))=decide (x=y):=by
 rw[Bool.eq_iff_iff]
 cases x;cases y
 simp
theorem eqLoop{body:Int->M (Step Int (Ex Unit Bool))}(a b:List RN)(hl:a.length=b.length)(hn:a.length<=1000000000000)
  (hb:∀ i:Int,body i=cond (decide (i < (a.length:Int))) (M.bind (M.idx a i) fun x=>M.bind (M.idx b i) fun y=>cond (!(decide (x.lo=y.lo)&&decide (x.hi=y.hi))) (M.pure (.done (.ret false))) (M.pure (.next (IntKind.i64.wrap (i+1))))) (M.pure (.done (.brk ())))) :
  M.bind (M.loop body 0) (M.exk fun _=>M.pure true)=pure (decide (a=b)):=by
 have:=vZ (body:=body) a (fun i=>(i:Int)) (fun i x=>decide (b[i]?=some x)) (.brk ()) (.ret false) (fun i x hx hi=>by
  have hb':i < b.length:=by omega
  rw[hb,zK hx,zK (List.getElem?_eq_getElem hb'),yL (by omega)];simp only[zA,List.getElem?_eq_getElem hb',Option.some.injEq,x9a];have:decide ((i:Int) < (a.length:Int))=true:=by simpa using hi
  rw[this,cond_true]
  by_cases he:b[i]=x
  ·subst he;simp
  ·rw[if_neg (by simpa using he)];have:decide (x=b[i])=false:=by simpa using fun h=>he h.symm
   rw[this];rfl) (by rw[hb];simp)
 rw[show(0:Int)=((0:Nat):Int) from rfl,this]
 by_cases he:a=b
 ·subst he;rw[if_pos]
  ·simp[zA,uh]
  ·rw[List.all_eq_true];intro ⟨x,i⟩ hx;rw[List.mk_mem_zipIdx_iff_getElem?] at hx;simpa using hx
 ·rw[if_neg]
  ·simp[he,zA,JP]
  ·intro hall;rw[List.all_eq_true] at hall;apply he;apply List.ext_getElem (by omega);intro i h1 h2;have:=hall (a[i],i) (by rw[List.mk_mem_zipIdx_iff_getElem?];exact List.getElem?_eq_getElem h1);simp[h2] at this;exact this.symm
theorem seq_eq(a b:List RN)(h:a.length<=1000000000000):yl a b=pure (decide (a=b)):=by
 unfold yl
 by_cases hl:(a.length:Int)=b.length
 ·simp only[hl,decide_true,Bool.not_true,cond_false];exact eqLoop a b (by omega) h fun i=>rfl
 ·have hne:a≠b:=fun e=>hl (by rw[e])
  simp[hl,hne]
theorem wAa(x:RN):JV x=pure (YP x):=by
 unfold JV;rw[zg,zg,zA]
 rfl
theorem zTa(l:List RN)(n:Int)(h:l.length<=1000000000000):US l n=pure (yX l n):=by
 unfold US;have:=vZ (body:=XO l n) l (fun i=>(i:Int)) (fun _ x=>!inR n x) (.brk ()) (.ret true) (fun i x hx hi=>by
  unfold XO;have h1:decide ((i:Int) < (l.length:Int))=true:=by simpa using hi
  simp only[h1,cond_true,zK hx,zA,wAa,zB,yL (show i < 9223372036854775807 by omega),zg];unfold inR
  cases YP x <;> cases decide (x.lo<=n) <;> cases decide (n<=x.hi) <;> rfl) (by unfold XO;simp)
 rw[show(0:Int)=((0:Nat):Int) from rfl,this,zA];have e:l.zipIdx.all (fun y=>!inR n y.1)=!yX l n:=by
  unfold yX;rw[Bool.eq_iff_iff];simp only[List.all_eq_true,Bool.not_eq_true',List.any_eq_false]
  constructor
  ·intro h x hx;obtain⟨i,hi,he⟩:=List.getElem_of_mem hx;have:=h (x,i) (by rw[List.mk_mem_zipIdx_iff_getElem?];rw[List.getElem?_eq_getElem hi,he]);simpa using this
  ·intro h y hy;have:=List.fst_mem_of_mem_zipIdx hy;have:=h _ this;simpa using this
 simp only[e]
 cases yX l n <;> rfl
theorem wBa(l:List Int)(n:Int)(h:l.length<=100000000000):JW l n=pure (putP l n):=by
 unfold JW;have:=ZX (body:=XN l n) l (fun i (t:Bool×List Int)=>(t.1,(i:Int),t.2)) (putS n) (fun t=>pure t) (fun i t=>t.2.length<=2*i) (fun i x t hx hi hI=>by
  obtain⟨d,out⟩:=t;simp only at hI;have h1:decide ((i:Int) < (l.length:Int))=true:=by simpa using hi
  refine⟨?_,?_⟩
  ·unfold XN putS;simp only[h1,cond_true,zK hx,zA,yL (show i < 9223372036854775807 by omega)]
   cases d with
   | true=>
    by_cases hc:x=n
    ·simp[hc,zA]
    ·simp only[Bool.not_true,cond_false,zA,hc,decide_false,Bool.not_false,cond_true,if_false];rw[zE (by simp;omega)];simp[zA]
   | false=>
    by_cases hc1:n<=x
    ·simp only[Bool.not_false,cond_true,zA,hc1,decide_true];rw[zE (by simp;omega),zA]
     by_cases hc:x=n
     ·simp[hc,zA]
     ·simp only[hc,decide_false,Bool.not_false,cond_true];rw[zE (by simp;omega)];simp[zA]
    ·simp only[Bool.not_false,cond_true,zA,hc1,decide_false,cond_false];have hc:x≠n:=by omega
     simp only[hc,decide_false,Bool.not_false,cond_true];rw[zE (by simp;omega)];simp[zA]
  ·unfold putS;simp only
   split <;> split <;> simp <;> omega) (fun t _=>by unfold XN;simp[zA]) (false,[]) (by simp)
 rw[show((false,(0:Int),([]:List Int)):Bool×Int×List Int)=(false,((0:Nat):Int),[]) from rfl,this,zA];unfold putP;have hlen:(l.foldl (putS n) (false,[])).2.length<=2*l.length:=by
  have:∀ (l:List Int) (s:Bool×List Int),(l.foldl (putS n) s).2.length<=s.2.length+2*l.length:=by
   intro l
   induction l with
   | nil=>intro s;simp
   | cons x r ih=>
    intro s;rw[List.foldl_cons];have:=ih (putS n s x);have h2:(putS n s x).2.length<=s.2.length+2:=by
     unfold putS;simp only
     split <;> split <;> simp
    simp;omega
  simpa using this l (false,[])
 generalize l.foldl (putS n) (false,[])=t at hlen
 obtain⟨d,out⟩:=t
 cases d with
 | true=>rfl
 | false=>
  simp only[Bool.not_false,cond_true];rw[zE (by simp at hlen ⊢;omega)]
  rfl
theorem rpts_eq(a b:List RN)(h:a.length+b.length<=10000000000):Wy a b=pure (qB (a++b)):=by
 unfold Wy;rw[zE (by simp;omega),zE (by simp;omega)];have hup:∀ i,Up (((a++b).take i).foldl ptS [])/\(((a++b).take i).foldl ptS []).length<=2*(a++b).length:=fun i=>by
  obtain⟨h1,_,h3⟩:=qC ((a++b).take i) [] (by simp[Up]);refine⟨h1,?_⟩;have:((a++b).take i).length<=(a++b).length:=by simp;omega
  simp only[List.length_nil,Nat.zero_add] at h3;omega
 have:=ZX (body:=uQ a b) (a++b) (fun i (t:List Int)=>(t,(i:Int))) ptS (fun t=>pure t) (fun i t=>t=((a++b).take i).foldl ptS []) (fun i x t hx hi hI=>by
  have h1:decide ((i:Int) < ((a++b).length:Int))=true:=decide_eq_true (by omega);have hlen:(a++b).length<=10000000000:=by simp;omega
  obtain⟨u1,u2⟩:=hup i;rw[<- hI] at u1 u2;refine⟨?_,?_⟩
  ·unfold uQ ptS;simp only[List.nil_append,h1,cond_true,zK hx,zA,yL (show i < 9223372036854775807 by omega),wAa,zB]
   cases hm:YP x with
   | false=>simp[zA]
   | true=>
    have hm':=zk.1 hm;have hp:=VF u1 x.lo;rw[cond_true,wBa _ _ (by omega),zB,zA,Qr (by omega) (by omega),wBa _ _ (by omega),zB];simp[zA]
  ·rw[List.take_add_one,hx];simp[hI]) (fun t _=>by unfold uQ;simp[zA]) [] (by simp)
 rw[show(([]:List Int),(0:Int))=([],((0:Nat):Int)) from rfl,this];simp only[zA]
 rfl
theorem QT{P:List Int}{i:Nat}{pq:Int×Int}(h:(xx P)[i]?=some pq):P[i]?=some pq.1/\P[i+1]?=some pq.2:=by
 unfold xx at h;rw[List.getElem?_zip_eq_some] at h;obtain⟨h1,h2⟩:=h;rw[List.getElem?_tail] at h2;exact⟨h1,h2⟩
theorem Uo(op:Bool->Bool->Bool)(how:Int)(hop:∀ x y,op x y=if how=2 then (x&&!y) else if how=1 then (x&&y) else (x||y))(_h0:op false false=false)(a b:List RN)(h:a.length+b.length<=10000000000):UT a b how=pure (ZQ op a b):=by
 unfold UT;rw[rpts_eq a b h,zB,zA];obtain⟨p1,p2,p3⟩:=jt (a++b);have hrange:∀ q∈qB (a++b),1<=q/\q<=281474976710656:=fun q hq=>by
  obtain⟨x,_,h2,h3⟩:=(p2 q).1 hq;have:=zk.1 h2;omega
 unfold ZQ
 generalize qB (a++b)=P at p1 hrange p3
 simp only[List.length_append] at p3;have hinv:∀ i,i<=(xx P).length->Nf (((xx P).take i).foldl (z9a op a b) [])/\(((xx P).take i).foldl (z9a op a b) []).length<=P.length:=fun i hi=>by
  cases P with
  | nil=>simp[xx,Nf]
  | cons p P=>
   have key:(xx (p::P)).take i=xx (p::P.take i):=by
    unfold xx;simp only[List.tail_cons];clear hi p1 hrange p3
    induction i generalizing p P with
    | zero=>simp
    | succ i ih=>
     cases P with
     | nil=>simp
     | cons q P=>
      simp only[List.zip_cons_cons,List.take_succ_cons];rw[ih q P]
   rw[key];have hsub:(p::P.take i).Sublist (p::P):=List.Sublist.cons_cons _ (List.take_sublist _ _);obtain⟨i1,_,i3⟩:=qD op a b (P.take i) p [] (List.Pairwise.sublist hsub p1) (fun q hq=>hrange q (hsub.subset hq)) trivial (by simp);refine⟨i1,?_⟩;simp at i3 ⊢;omega
 have:=ZX (body:=XP P a b how) (xx P) (fun i (t:List RN)=>((i:Int),t)) (z9a op a b) (fun t=>pure t) (fun i t=>i<=(xx P).length/\t=((xx P).take i).foldl (z9a op a b) []) (fun i pq t hx hi hI=>by
  obtain⟨hI1,hI⟩:=hI;obtain⟨g1,g2⟩:=QT hx;have hlt:i+1 < P.length:=(List.getElem?_eq_some_iff.1 g2).1;have hPl:P.length<=20000000000:=by omega
  have h1:decide (((i+1:Nat):Int) < (P.length:Int))=true:=by rw[decide_eq_true_eq];omega
  obtain⟨v1,v2⟩:=hinv i hI1;rw[<- hI] at v1 v2;refine⟨?_,by omega,by rw[List.take_add_one,hx];simp[hI]⟩;unfold XP z9a;have e2:idx P ((i+1:Nat):Int)=pure pq.2:=zK g2;have hq:=hrange pq.2 (List.mem_of_getElem? g2);simp only[yL (show i < 9223372036854775807 by omega),h1,cond_true,zK g1,e2,zA,zTa a pq.1 (by omega),zTa b pq.1 (by omega),zB];rw[hop];have hin:∀ (x y:Bool),(M.bind (cond x (M.pure true) (M.pure y)) fun in97=>M.bind (cond (decide (how=1)) (M.bind (cond x (M.pure y) (M.pure false)) fun in101=>M.pure in101) (M.pure in97)) fun in99=>cond (decide (how=2)) (M.bind (cond x (M.pure (!y)) (M.pure false)) fun in105=>M.pure in105) (M.pure in99))=pure (if how=2 then (x&&!y) else if how=1 then (x&&y) else (x||y)):=by
   intro x y
   by_cases c2:how=2
   ·subst c2;cases x <;> cases y <;> rfl
   ·by_cases c1:how=1
    ·subst c1;cases x <;> cases y <;> rfl
    ·simp only[c1,c2,decide_false,cond_false,if_false]
     cases x <;> cases y <;> rfl
  have hin':=hin (yX a pq.1) (yX b pq.1)
  generalize (if how=2 then (yX a pq.1&&!yX b pq.1) else if how=1 then (yX a pq.1&&yX b pq.1) else (yX a pq.1||yX b pq.1))=inn at hin'
  -- the three steps are one
  have assoc:∀ (K:Bool->M (List RN)),(M.bind (cond (yX a pq.1) (M.pure true) (M.pure (yX b pq.1))) fun in97=>M.bind (cond (decide (how=1)) (M.bind (cond (yX a pq.1) (M.pure (yX b pq.1)) (M.pure false)) fun in101=>M.pure in101) (M.pure in97)) fun in99=>M.bind (cond (decide (how=2)) (M.bind (cond (yX a pq.1) (M.pure (!yX b pq.1)) (M.pure false)) fun in105=>M.pure in105) (M.pure in99)) K)=K inn:=by
   intro K;have:=congrArg (fun m=>M.bind m K) hin';exact this
  rw[assoc]
  cases inn with
  | false=>rfl
  | true=>
   simp only[cond_true,if_true];rcases xp t with rfl | ⟨l,y,rfl⟩
   ·have e:decide ((0:Int)<=IntKind.i64.wrap (((([]:List RN).length:Nat):Int) - 1))=false:=by
     rw[Wc (by simp) (by simp)];simp
    rw[e];simp only[cond_false,zA];rw[zE (by simp),Qr (by omega) (by omega)]
    rfl
   ·have hy:=(YK.1 v1).2.1;have hym:=zk.1 hy;have e0:IntKind.i64.wrap ((((l++[y]).length:Nat):Int) - 1)=(l.length:Int):=by
     simp only[List.length_append,List.length_singleton] at v2 ⊢;rw[Wc (by omega) (by omega)];omega
    have e1:idx (l++[y]) (l.length:Int)=pure y:=zK (by simp);have e3:decide ((0:Int)<=(l.length:Int))=true:=by simp
    rw[e0,e3];simp only[cond_true,e1,zA,Qr (show 0<=y.hi+1 by omega) (by omega),Qr (show 0<=pq.2 - 1 by omega) (by omega)];rw[Un]
    by_cases hc:y.hi+1=pq.1
    ·simp only[hc,decide_true,cond_true,if_true,Int.toNat_natCast];have:(l++[y]).set l.length (⟨y.lo,pq.2 - 1⟩:RN)=l++[⟨y.lo,pq.2 - 1⟩]:=by simp
     rw[this]
     rfl
    ·simp only[hc,decide_false,cond_false,if_false];rw[zE (by simp only[List.length_append,List.length_singleton] at v2 ⊢;omega)]
     rfl) (fun t _=>by
  unfold XP;have e:decide (IntKind.i64.wrap (((xx P).length:Int)+1) < (P.length:Int))=false:=by
   rw[x8a,Wc (by omega) (by omega)];simp;omega
  simp only[e,cond_false,zA]) [] ⟨Nat.zero_le _,by simp⟩
 rw[show((0:Int),([]:List RN))=(((0:Nat):Int),[]) from rfl,this];simp only[zA]
theorem yAa(a b:List RN)(h:a.length+b.length<=10000000000):Vo a b=pure (ZQ (·||·) a b):=by
 unfold Vo;rw[Uo (·||·) 0 (fun x y=>by simp) rfl a b h,zB,zA]
theorem rmeet_eq(a b:List RN)(h:a.length+b.length<=10000000000):JX a b=pure (ZQ (·&&·) a b):=by
 unfold JX;rw[Uo (·&&·) 1 (fun x y=>by simp) rfl a b h,zB,zA]
theorem wCa(a b:List RN)(h:a.length+b.length<=10000000000):UU a b=pure (ZQ (fun x y=>x&&!y) a b):=by
 unfold UU;rw[Uo (fun x y=>x&&!y) 2 (fun x y=>by simp) rfl a b h,zB,zA]
def QU(out:List RN)(x:RN):List RN:=match out.getLast? with
 | some y=>if x.lo<=y.hi+1 then out.dropLast++[⟨y.lo,max y.hi x.hi⟩] else out++[x]
 | none=>out++[x]
theorem qG(x:RN):QU [] x=[x]:=rfl
theorem Uq(l:List RN)(y x:RN):QU (l++[y]) x=if x.lo<=y.hi+1 then l++[⟨y.lo,max y.hi x.hi⟩] else l++[y]++[x]:=by simp[QU]
theorem yta{out:List RN}{x:RN}(h:Nf out)(hx:YP x=true)(hlo:∀ y∈out,y.lo<=x.lo):Nf (QU out x)/\(∀ n,yX (QU out x) n=(yX out n||inR n x))/\(∀ y∈QU out x,y.lo<=x.lo)/\(QU out x).length<=out.length+1:=by
 have hxm:=zk.1 hx;rcases xp out with rfl | ⟨l,y,rfl⟩
 ·rw[qG];exact⟨⟨hx,by simp,trivial⟩,fun n=>by rw[vL];simp,by simp,by simp⟩
 ·rw[Uq];obtain⟨n1,n2,n3⟩:=YK.1 h;have hym:=zk.1 n2;have hyx:=hlo y (by simp)
  by_cases hc:x.lo<=y.hi+1
  ·rw[if_pos hc];have hm:YP (⟨y.lo,max y.hi x.hi⟩:RN)=true:=zk.2 ⟨hym.1,by simp only;omega,by simp only;omega⟩;refine⟨YK.2 ⟨n1,hm,n3⟩,fun n=>?_,fun z hz=>?_,by simp⟩
   ·rw[uV,uV,vL,vL,Bool.or_assoc]
    congr 1
    rw[Bool.eq_iff_iff,Bool.or_eq_true,xB,xB,xB];have:=zk.1 hm;simp only at this ⊢;omega
   ·rcases List.mem_append.1 hz with hz | hz
    ·exact hlo z (by simp[hz])
    ·simp at hz;subst hz;exact hyx
  ·rw[if_neg hc];refine⟨YK.2 ⟨h,hx,fun z hz=>?_⟩,fun n=>by rw[uV (l++[y]),vL],fun z hz=>?_,by simp⟩
   ·rcases List.mem_append.1 hz with hz | hz
    ·have:=n3 z hz;omega
    ·simp at hz;subst hz;omega
   ·rcases List.mem_append.1 hz with hz | hz
    ·exact hlo z hz
    ·simp at hz;subst hz;exact Int.le_refl _
theorem Ur : ∀ (s out:List RN),Nf out->(∀ x∈s,YP x=true)->s.Pairwise (fun x y=>x.lo<=y.lo)->(∀ y∈out,∀ x∈s,y.lo<=x.lo)->Nf (s.foldl QU out)/\(∀ n,yX (s.foldl QU out) n=(yX out n||yX s n))/\(s.foldl QU out).length<=out.length+s.length
 | [],out,h,_,_,_=>⟨h,by simp,by simp⟩
 | x::r,out,h,hm,hp,hlo=>by
  obtain⟨a1,a2,a3,a4⟩:=yta h (hm x (by simp)) fun y hy=>hlo y hy x (by simp)
  obtain⟨p1,p2⟩:=List.pairwise_cons.1 hp;obtain⟨i1,i2,i3⟩:=Ur r _ a1 (fun y hy=>hm y (List.mem_cons_of_mem _ hy)) p2 fun y hy z hz=>by
   have:=a3 y hy;have:=p1 z hz;omega
  refine⟨i1,fun n=>?_,by simp;omega⟩;rw[List.foldl_cons,i2,a2,xh,Bool.or_assoc]
theorem wDa{l:List RN}{Q:List RN->Prop}(h:∀ s,s.Perm l->s.Pairwise (fun x y=>x.lo<=y.lo)->Q s):(srt jU l).wp Q:=by
 refine⟨⟨l.mergeSort (fun x y=>decide (x.lo<=y.lo)),List.mergeSort_perm _ _,?_⟩,fun s ⟨h1,h2⟩=>h s h1 (h2.imp fun {x y} h=>?_)⟩
 ·refine(List.pairwise_mergeSort (fun a b c h1 h2=>?_) (fun a b=>?_) l).imp fun {x y} h=>?_
  ·simp only[decide_eq_true_eq] at h1 h2 ⊢;omega
  ·simp only[Bool.or_eq_true,decide_eq_true_eq];omega
  ·simp only[decide_eq_true_eq] at h;unfold jU;simp only[decide_eq_false_iff_not];omega
 ·unfold jU at h;simp only[decide_eq_false_iff_not] at h;omega
theorem VH(l:List RN)(h:l.length<=1000000000000):xf l=pure (nrm l):=by
 unfold xf;have h1:=ZX (body:=vk l) l (fun i (t:List RN)=>((i:Int),t)) (fun t x=>if YP x then t++[x] else t) (fun t=>pure t) (fun i t=>t.length<=i) (fun i x t hx hi hI=>by
  have h1:decide ((i:Int) < (l.length:Int))=true:=by simpa using hi
  refine⟨?_,by split <;> (try simp only[List.length_append,List.length_singleton]) <;> omega⟩;unfold vk;simp only[h1,cond_true,zK hx,zA,yL (show i < 9223372036854775807 by omega)];have e:(cond (decide (0 < x.lo)) (cond (decide (x.lo<=x.hi)) (M.pure (decide (x.hi<=281474976710655))) (M.pure false)) (M.pure false):M Bool)=pure (YP x):=by
   rw[zg,zg];refine congrArg pure ?_;rw[Bool.eq_iff_iff,zk];simp only[Bool.and_eq_true,decide_eq_true_eq];omega
  rw[e,zA]
  cases hm:YP x with
  | false=>simp[zA]
  | true=>
   rw[cond_true,zE (by simp;omega)];simp[zA]) (fun t _=>by unfold vk;simp[zA]) [] (by simp)
 have hf:∀ (l t:List RN),l.foldl (fun t x=>if YP x then t++[x] else t) t=t++l.filter YP:=by
  intro l
  induction l with
  | nil=>simp
  | cons x r ih=>
   intro t;rw[List.foldl_cons,ih]
   cases hm:YP x <;> simp[hm]
 rw[hf,List.nil_append] at h1;have h1':loop (vk l) (0,[])=pure (l.filter YP):=h1;have hfl:(l.filter YP).length<=l.length:=List.length_filter_le _ _;rw[h1',zA,zE (by omega)];refine ug (wDa fun s hs hp=>?_);have hsl:=hs.length_eq;have hmay:∀ x∈s,YP x=true:=fun x hx=>(List.mem_filter.1 (hs.mem_iff.1 hx)).2
 have hpre:∀ i,Nf ((s.take i).foldl QU [])/\((s.take i).foldl QU []).length<=i/\∀ x,s[i]?=some x->∀ y∈(s.take i).foldl QU [],y.lo<=x.lo:=fun i=>by
  obtain⟨i1,i2,i3⟩:=Ur (s.take i) [] trivial (fun x hx=>hmay x (List.mem_of_mem_take hx)) (List.Pairwise.sublist (List.take_sublist _ _) hp) (by simp);refine⟨i1,by simp at i3;omega,fun x hx y hy=>?_⟩;have hmy:=zk.1 (i1.may y hy);have:yX ((s.take i).foldl QU []) y.lo=true:=wO.2 ⟨y,hy,i1.may y hy,by omega,by omega⟩;rw[i2] at this;simp only[Jy,Bool.false_or] at this;obtain⟨z,hz,_,h3,_⟩:=wO.1 this
  -- z is ahead of x; y begins where one of those ahead begins
  have hall:∀ (s out:List RN),(∀ y∈s.foldl QU out,(∃ z∈out,y.lo=z.lo)\/∃ z∈s,y.lo=z.lo):=by
   intro s
   induction s with
   | nil=>intro out y hy;exact .inl ⟨y,hy,rfl⟩
   | cons a r ih=>
    intro out y hy;rcases ih _ y hy with⟨z,hz,e⟩ | ⟨z,hz,e⟩
    ·rcases xp out with rfl | ⟨q,w,rfl⟩
     ·rw[qG] at hz;simp at hz;subst hz;exact .inr ⟨z,by simp,e⟩
     ·rw[Uq] at hz
      split at hz
      ·rcases List.mem_append.1 hz with hz | hz
       ·exact .inl ⟨z,by simp[hz],e⟩
       ·simp at hz;subst hz;exact .inl ⟨w,by simp,e⟩
      ·rcases List.mem_append.1 hz with hz | hz
       ·exact .inl ⟨z,hz,e⟩
       ·simp at hz;subst hz;exact .inr ⟨z,by simp,e⟩
    ·exact .inr ⟨z,by simp[hz],e⟩
  rcases hall _ _ y hy with⟨z,hz,_⟩ | ⟨z,hz,e⟩
  ·simp at hz
  ·obtain⟨j,hj,hje⟩:=List.getElem_of_mem hz;have hlt:=(List.getElem?_eq_some_iff.1 hx).1;have hji:j < i:=by simp at hj;omega
   have:=List.pairwise_iff_getElem.1 hp j i (by omega) hlt hji;rw[List.getElem_take] at hje;have hxe:s[i]=x:=by rw[List.getElem?_eq_getElem hlt] at hx;simpa using hx
   rw[hje,hxe] at this;omega
 have h2:=ZX (body:=vl (l.filter YP) s) s (fun i (t:List RN)=>((i:Int),t)) QU (fun t=>pure t) (fun i t=>t=(s.take i).foldl QU []) (fun i x t hx hi hI=>by
  obtain⟨v1,v2,v3⟩:=hpre i;have v3:=v3 x hx;rw[<- hI] at v1 v2 v3;have hxm:=zk.1 (hmay x (List.mem_of_getElem? hx));have h1:decide ((i:Int) < ((l.filter YP).length:Int))=true:=by simp;omega
  refine⟨?_,by rw[List.take_add_one,hx];simp[hI]⟩;unfold vl;simp only[h1,cond_true,zK hx,zA,yL (show i < 9223372036854775807 by omega)];rcases xp t with rfl | ⟨q,y,rfl⟩
  ·have e:decide ((0:Int)<=IntKind.i64.wrap (((([]:List RN).length:Nat):Int) - 1))=false:=by
    rw[Wc (by simp) (by simp)];simp
   rw[e];simp only[cond_false,zA];rw[zE (by simp),qG]
   rfl
  ·have hy:=(YK.1 v1).2.1;have hym:=zk.1 hy;have e0:IntKind.i64.wrap ((((q++[y]).length:Nat):Int) - 1)=(q.length:Int):=by
    simp only[List.length_append,List.length_singleton] at v2 ⊢;rw[Wc (by omega) (by omega)];omega
   have e1:idx (q++[y]) (q.length:Int)=pure y:=zK (by simp);have e3:decide ((0:Int)<=(q.length:Int))=true:=by simp
   rw[e0,e3];simp only[cond_true,e1,zA,Qr (show 0<=y.hi+1 by omega) (by omega)];rw[Uq]
   by_cases hc:x.lo<=y.hi+1
   ·simp only[hc,decide_true,cond_true,if_true,Int.toNat_natCast];have:(q++[y]).set q.length (⟨y.lo,max y.hi x.hi⟩:RN)=q++[⟨y.lo,max y.hi x.hi⟩]:=by simp
    rw[this]
    rfl
   ·simp only[hc,decide_false,cond_false,if_false];rw[zE (by simp only[List.length_append,List.length_singleton] at v2 ⊢;omega)]
    rfl) (fun t _=>by
  unfold vl;have e:decide ((s.length:Int) < ((l.filter YP).length:Int))=false:=by simp;omega
  simp only[e,cond_false,zA]) [] (by simp)
 show(M.bind (M.loop (vl (l.filter YP) s) (0,[])) fun out38=>M.pure out38).wp (·=nrm l);rw[show((0:Int),([]:List RN))=(((0:Nat):Int),[]) from rfl,h2];obtain⟨i1,i2,_⟩:=Ur s [] trivial hmay hp (by simp);exact nrm_of i1 fun n=>by rw[i2,x7a hs,zRa];simp
def Xg(nums:List Int):List RN:=nums.map fun n=>⟨n,n⟩
def wEa(x y:Int):Int:=if x < y then -1 else if y < x then 1 else 0
theorem wFa(x y:Int):xF x y=pure (wEa x y):=by
 unfold xF xz wEa;simp only[decide_true,Bool.not_true,zB,zA,cond_false,yw]
 split
 ·rfl
 ·split <;> rfl
theorem wGa(x:RN)(n:Int):ui x n=pure (wEa x.hi n):=by
 unfold ui;rw[wFa,zB,zA]
def qH : List RN->Int->Nat
 | [],_=>0
 | x::r,n=>if x.hi < n then qH r n+1 else 0
theorem QV : ∀ {v:List RN} {n:Int} {c:Nat},c<=v.length->(∀ (k:Nat) (x:RN),k < c->v[k]?=some x->x.hi < n)->(∀ (k:Nat) (x:RN),c<=k->v[k]?=some x->n<=x.hi)->c=qH v n
 | [],n,c,h,_,_=>by simp at h;simp[qH,h]
 | x::r,n,0,_,_,h2=>by
  have:=h2 0 x (by omega) rfl;simp only[qH];rw[if_neg (by omega)]
 | x::r,n,c+1,h,h1,h2=>by
  have:=h1 0 x (by omega) rfl;simp only[qH];rw[if_pos this,<- QV (v:=r) (n:=n) (c:=c) (by simpa using h) (fun k y hk hy=>h1 (k+1) y (by omega) (by simpa using hy)) (fun k y hk hy=>h2 (k+1) y (by omega) (by simpa using hy))]
theorem wHa{v:List RN}(h:Nf v):∀ {i j:Nat} {x y:RN},i < j->v[i]?=some x->v[j]?=some y->x.hi < y.hi:=by
 induction v with
 | nil=>intro i j x y _ hx;simp at hx
 | cons z r ih=>
  intro i j x y hij hx hy
  cases j with
  | zero=>omega
  | succ j=>
   have hyr:r[j]?=some y:=by simpa using hy
   have hym:=List.mem_of_getElem? hyr
   cases i with
   | zero=>
    simp at hx;subst hx;have:=h.2.1 y hym;have:=zk.1 (h.2.2.may y hym);omega
   | succ i=>exact ih h.2.2 (show i < j by omega) (by simpa using hx) hyr
theorem bs_loop(v:List RN)(n:Int)(hv:Nf v)(hl:v.length<=1000000000000):loop (za v n) (0,(v.length:Int))=pure (qH v n:Int):=by
 refine ug (zqa (fun s=>∃ i j:Nat,s=((i:Int),(j:Int))/\i<=j/\j<=v.length/\(∀ (k:Nat) (x:RN),k < i->v[k]?=some x->x.hi < n)/\(∀ (k:Nat) (x:RN),j<=k->v[k]?=some x->n<=x.hi)) (fun s=>(s.2 - s.1).toNat) ?_ _ ⟨0,v.length,rfl,Nat.zero_le _,Nat.le_refl _,fun k x hk=>absurd hk (Nat.not_lt_zero _),fun k x hk hx=>absurd (List.getElem?_eq_some_iff.1 hx).1 (Nat.not_lt.2 hk)⟩);rintro _ ⟨i,j,rfl,hij,hj,h1,h2⟩;unfold za;simp only[yw]
 by_cases hc:(i:Int) < j
 ·rw[if_pos hc];have e:IntKind.i64.wrap (Int.fdiv (IntKind.u64.wrap (IntKind.i64.wrap ((i:Int)+j))) (2 ^ 1))=(((i+j) / 2:Nat):Int):=by
   rw[Wc (n:=(i:Int)+j) (by omega) (by omega),Qr (by omega) (by omega),Int.fdiv_eq_ediv_of_nonneg _ (by decide)];have:((i:Int)+j) / 2 ^ 1=(((i+j) / 2:Nat):Int):=by omega
   rw[this,Wc (by omega) (by omega)]
  have hm:(i+j) / 2 < v.length:=by omega
  rw[e];simp only[zK (List.getElem?_eq_getElem hm),zA,wGa,zB,yL (show(i+j) / 2 < 9223372036854775807 by omega)]
  by_cases hlt:v[(i+j) / 2].hi < n
  ·have:wEa v[(i+j) / 2].hi n < 0:=by unfold wEa;rw[if_pos hlt];decide
   rw[if_pos this];refine⟨⟨(i+j) / 2+1,j,rfl,by omega,hj,fun k x hk hx=>?_,h2⟩,?_⟩
   ·by_cases e:k=(i+j) / 2
    ·subst e;rw[List.getElem?_eq_getElem hm] at hx;cases hx;exact hlt
    ·have:=wHa hv (show k < (i+j) / 2 by omega) hx (List.getElem?_eq_getElem hm);omega
   ·simp only;omega
  ·have:¬ wEa v[(i+j) / 2].hi n < 0:=by unfold wEa;rw[if_neg hlt];split <;> decide
   rw[if_neg this];refine⟨⟨i,(i+j) / 2,rfl,by omega,by omega,h1,fun k x hk hx=>?_⟩,?_⟩
   ·by_cases e:k=(i+j) / 2
    ·subst e;rw[List.getElem?_eq_getElem hm] at hx;cases hx;omega
    ·have:=wHa hv (show(i+j) / 2 < k by omega) (List.getElem?_eq_getElem hm) hx;omega
   ·simp only;omega
 ·rw[if_neg hc];have hij':i=j:=by omega
  subst hij';show(i:Int)=(qH v n:Int)
  rw[<- QV hj h1 h2]
def hitB(v:List RN)(n:Int):Bool:=match v[qH v n]? with | some x=>decide (wEa x.hi n=0) | none=>false
theorem bs_eq(v:List RN)(n:Int)(hv:Nf v)(hl:v.length<=1000000000000):zP v n=pure ((qH v n:Int),hitB v n):=by
 unfold zP hitB;rw[bs_loop v n hv hl,zA]
 by_cases hc:qH v n < v.length
 ·have:decide ((qH v n:Int) < (v.length:Int))=true:=by simpa using hc
  rw[this,cond_true,zK (List.getElem?_eq_getElem hc)];simp only[zA,wGa,zB,List.getElem?_eq_getElem hc]
 ·have:decide ((qH v n:Int) < (v.length:Int))=false:=by simpa using hc
  rw[this,cond_false,zA,List.getElem?_eq_none (by omega)]
theorem yBa : ∀ {v:List RN} (n:Int),Nf v->yX v n=(match v[qH v n]? with | some x=>decide (x.lo<=n) | none=>false)
 | [],n,_=>rfl
 | x::r,n,h=>by
  by_cases hc:x.hi < n
  ·simp only[qH,if_pos hc,List.getElem?_cons_succ];rw[<- yBa n h.2.2,xh];have:inR n x=false:=by
    rw[Bool.eq_false_iff];intro h;have:=(xB.1 h).2.2;omega
   rw[this,Bool.false_or]
  ·simp only[qH,if_neg hc,List.getElem?_cons_zero];rw[Bool.eq_iff_iff,decide_eq_true_eq]
   constructor
   ·exact qA h
   ·intro hle;exact(zSa h hle).2 (.inl (by omega))
theorem has_eq(l:List RN)(n:Int)(h:l.length<=100000000000):Vk l n=pure (yX l n):=by
 unfold Vk;have hl:=uy l;rw[VH l (by omega),zB,zA,bs_eq _ n (YQ l) (by omega),zB,zA,<- vM l n,yBa n (YQ l)]
 generalize nrm l=v
 by_cases hc:qH v n < v.length
 ·have:decide ((qH v n:Int) < (v.length:Int))=true:=by simpa using hc
  simp only[this,cond_true,zK (List.getElem?_eq_getElem hc),zA,List.getElem?_eq_getElem hc]
 ·have:decide ((qH v n:Int) < (v.length:Int))=false:=by simpa using hc
  simp only[this,cond_false,zA,List.getElem?_eq_none (show v.length<=qH v n by omega)]
theorem wIa(A B:List RN)(hA:Nf A)(hB:Nf B)(hl:A.length+B.length<=1000000000000):(loop ZK (A,B,[])).wp fun r=>Nf r/\∀ n,yX r n=(yX A n&&yX B n):=by
 refine zqa (fun s:List RN×List RN×List RN=>Nf s.1/\Nf s.2.1/\Nf s.2.2/\(∀ y∈s.2.2,∀ x∈s.1,∀ z∈s.2.1,y.hi+1 < max x.lo z.lo)/\(∀ n,(yX s.2.2 n||(yX s.1 n&&yX s.2.1 n))=(yX A n&&yX B n))/\s.2.2.length+s.1.length+s.2.1.length<=A.length+B.length) (fun s=>s.1.length+s.2.1.length) ?_ (A,B,[]) ⟨hA,hB,(trivial:Nf []),by simp,by simp,by simp⟩;rintro⟨a,b,out⟩ ⟨h1,h2,h3,h4,h5,h6⟩;simp only at h1 h2 h3 h4 h5 h6;unfold ZK
 cases a with
 | nil=>exact⟨h3,fun n=>by rw[<- h5];simp⟩
 | cons x r=>
  cases b with
  | nil=>
   have e1:decide ((0:Int) < ((x::r).length:Int))=true:=by simp only[List.length_cons,decide_eq_true_eq];omega
   simp only[e1,cond_true];exact⟨h3,fun n=>by rw[<- h5];simp⟩
  | cons z q=>
   have hx:=zk.1 h1.1;have hz:=zk.1 h2.1;have e1:decide ((0:Int) < ((x::r).length:Int))=true:=by simp only[List.length_cons,decide_eq_true_eq];omega
   have e2:decide ((0:Int) < ((z::q).length:Int))=true:=by simp only[List.length_cons,decide_eq_true_eq];omega
   simp only[e1,e2,cond_true,zA,Xn (l:=x::r) (i:=0) (y:=x) (by omega) rfl,Xn (l:=z::q) (i:=0) (y:=z) (by omega) rfl]
   -- the new list
   have hout:∃ out',(cond (decide (max x.lo z.lo<=min x.hi z.hi)) (M.yc ((out.length+List.length [(⟨max x.lo z.lo,min x.hi z.hi⟩:RN)])*16<=140737488355328) (M.pure (out++[⟨max x.lo z.lo,min x.hi z.hi⟩]))) (M.pure out))=M.pure out'/\Nf out'/\(∀ n,yX out' n=(yX out n||(inR n x&&inR n z)))/\(∀ y∈out',y∈out\/y.hi=min x.hi z.hi)/\out'.length<=out.length+1:=by
    by_cases hc:max x.lo z.lo<=min x.hi z.hi
    ·refine⟨out++[⟨max x.lo z.lo,min x.hi z.hi⟩],?_,YK.2 ⟨h3,zk.2 ⟨by simp only;omega,hc,by simp only;omega⟩,fun y hy=>h4 y hy x (by simp) z (by simp)⟩,fun n=>?_,fun y hy=>?_,by simp⟩
     ·rw[decide_eq_true hc,cond_true,zE];simp at h6 ⊢;omega
     ·rw[uV,vL]
      congr 1
      rw[Bool.eq_iff_iff,Bool.and_eq_true,xB,xB,xB];simp only;omega
     ·rcases List.mem_append.1 hy with hy | hy
      ·exact .inl hy
      ·simp at hy;subst hy;exact .inr rfl
    ·refine⟨out,by rw[decide_eq_false hc];rfl,h3,fun n=>?_,fun y hy=>.inl hy,by omega⟩;have:(inR n x&&inR n z)=false:=by
      rw[Bool.eq_false_iff];intro h;rw[Bool.and_eq_true,xB,xB] at h;omega
     rw[this,Bool.or_false]
   obtain⟨out',o1,o2,o3,o4,o5⟩:=hout;have hh:∀ n,yX out' n=(yX out n||(inR n x&&inR n z)):=o3;rw[o1];simp only[zA,yw]
   by_cases hc:x.hi < z.hi
   ·rw[if_pos hc,zE ⟨by omega,by simp only[List.length_cons];omega,by omega⟩];have ed:List.drop (Int.toNat 1) (List.take (Int.toNat ((x::r).length:Int)) (x::r))=r:=by simp
    rw[ed];refine⟨⟨h1.2.2,h2,o2,fun y hy x' hx' z' hz'=>?_,fun n=>?_,by simp at h6 ⊢;omega⟩,by simp only[List.length_cons];omega⟩
    ·rcases o4 y hy with hy | hy
     ·have:=h4 y hy x' (List.mem_cons_of_mem _ hx') z' hz';omega
     ·have:=h1.2.1 x' hx';omega
    ·simp only;rw[hh,<- h5,xh x,xh z,Bool.or_assoc]
     congr 1
     have hxq:(inR n x&&yX q n)=false:=by
      rw[Bool.eq_false_iff];intro h;rw[Bool.and_eq_true,xB] at h;have:=Ul h2 h.2;omega
     cases hv1:inR n x <;> cases hv2:inR n z <;> cases hv3:yX r n <;> cases hv4:yX q n <;> simp_all
   ·rw[if_neg hc,zE ⟨by omega,by simp only[List.length_cons];omega,by omega⟩];have ed:List.drop (Int.toNat 1) (List.take (Int.toNat ((z::q).length:Int)) (z::q))=q:=by simp
    rw[ed];refine⟨⟨h1,h2.2.2,o2,fun y hy x' hx' z' hz'=>?_,fun n=>?_,by simp at h6 ⊢;omega⟩,by simp only[List.length_cons];omega⟩
    ·rcases o4 y hy with hy | hy
     ·have:=h4 y hy x' hx' z' (List.mem_cons_of_mem _ hz');omega
     ·have:=h2.2.1 z' hz';omega
    ·simp only;rw[hh,<- h5,xh x,xh z,Bool.or_assoc]
     congr 1
     have hxq:(inR n z&&yX r n)=false:=by
      rw[Bool.eq_false_iff];intro h;rw[Bool.and_eq_true,xB] at h;have:=Ul h1 h.2;omega
     cases hv1:inR n x <;> cases hv2:inR n z <;> cases hv3:yX r n <;> cases hv4:yX q n <;> simp_all
theorem yCa(a b:List RN)(ha:a.length<=100000000000)(hb:b.length<=100000000000):Ze a b=pure (ZQ (·&&·) a b):=by
 unfold Ze;have la:=uy a;have lb:=uy b;rw[VH a (by omega),zB,zA,VH b (by omega),zB,zA];refine ug ((loop ZK (nrm a,nrm b,[])).mono (fun r ⟨h1,h2⟩=>?_) (wIa (nrm a) (nrm b) (YQ a) (YQ b) (by omega)));obtain⟨s1,s2,_⟩:=zr (·&&·) rfl a b;exact Wi h1 s1 fun n=>by rw[h2,s2,vM,vM]
def jZ : Int->List RN->List RN
 | at_,[]=>[⟨at_,281474976710655⟩]
 | at_,x::r=>⟨at_,x.lo - 1⟩::jZ (x.hi+1) r
theorem wJa(l:List RN)(p:Int):(jZ p l).length=l.length+1:=by
 induction l generalizing p with
 | nil=>rfl
 | cons x r ih=>simp[jZ,ih]
theorem QW : ∀ (l:List RN) (p:Int),Nf l->1<=p->(∀ x∈l,p<=x.lo)->∀ n,yX (jZ p l) n=true↔p<=n/\n<=281474976710655/\yX l n=false
 | [],p,_,hp,_,n=>by
  rw[jZ,vL,xB];simp only[Jy,and_true];omega
 | x::r,p,h,hp,hlo,n=>by
  have hx:=zk.1 h.1;have:=hlo x (by simp);rw[jZ,xh,Bool.or_eq_true,QW r (x.hi+1) h.2.2 (by omega) (fun y hy=>by have:=h.2.1 y hy;omega) n,xB];simp only;have hr:yX (x::r) n=false↔(n < x.lo\/x.hi < n)/\yX r n=false:=by
   rw[xh,Bool.or_eq_false_iff];refine and_congr_left fun _=>?_
   rw[Bool.eq_false_iff,ne_eq,xB];omega
  rw[hr];have hrl:n < x.lo->yX r n=false:=fun hn=>by
   rw[Bool.eq_false_iff];intro h2;have:=Ul h h2;omega
  constructor
  ·rintro(h2 | h2)
   ·exact⟨h2.2.1,by omega,.inl (by omega),hrl (by omega)⟩
   ·exact⟨by omega,h2.2.1,.inr (by omega),h2.2.2⟩
  ·rintro⟨h2,h3,h4,h5⟩;rcases h4 with h4 | h4
   ·left;omega
   ·right;exact⟨by omega,h3,h5⟩
theorem rest_eq(l:List RN)(h:l.length<=100000000000):WM l=pure (jZ 1 (nrm l)):=by
 unfold WM;have hl:=uy l;have hn:=YQ l;rw[VH l (by omega),zB,zA]
 generalize nrm l=v at hl hn
 have h1:=ZX (body:=ZL v) v (fun i (t:Int×List RN)=>(t.1,(i:Int),t.2)) (fun t x=>(x.hi+1,t.2++[⟨t.1,x.lo - 1⟩])) (fun t=>pure t) (fun i t=>t.2.length=i) (fun i x t hx hi hI=>by
  have h1:decide ((i:Int) < (v.length:Int))=true:=by simpa using hi
  have hm:=zk.1 (hn.may x (List.mem_of_getElem? hx));refine⟨?_,by simp[hI]⟩;unfold ZL;simp only[h1,cond_true,zK hx,zA,yL (show i < 9223372036854775807 by omega),Qr (show 0<=x.lo - 1 by omega) (by omega),Qr (show 0<=x.hi+1 by omega) (by omega)];rw[zE (by simp;omega)]) (fun t _=>by unfold ZL;simp[zA]) (1,[]) rfl
 rw[show((1:Int),(0:Int),([]:List RN))=(1,((0:Nat):Int),[]) from rfl,h1];simp only[zA];have hf:∀ (l:List RN) (t:Int×List RN),(l.foldl (fun(t:Int×List RN) x=>(x.hi+1,t.2++[(⟨t.1,x.lo - 1⟩:RN)])) t).2++[⟨(l.foldl (fun(t:Int×List RN) x=>(x.hi+1,t.2++[(⟨t.1,x.lo - 1⟩:RN)])) t).1,281474976710655⟩]=t.2++jZ t.1 l/\(l.foldl (fun(t:Int×List RN) x=>(x.hi+1,t.2++[(⟨t.1,x.lo - 1⟩:RN)])) t).2.length=t.2.length+l.length:=by
  intro l
  induction l with
  | nil=>intro t;exact⟨rfl,by simp⟩
  | cons x r ih=>
   intro t;rw[List.foldl_cons];obtain⟨i1,i2⟩:=ih (x.hi+1,t.2++[⟨t.1,x.lo - 1⟩]);exact⟨by rw[i1];simp[jZ],by rw[i2];simp;omega⟩
 obtain⟨f1,f2⟩:=hf v (1,[])
 generalize v.foldl (fun(t:Int×List RN) x=>(x.hi+1,t.2++[(⟨t.1,x.lo - 1⟩:RN)])) (1,[])=t at f1 f2
 obtain⟨p,out⟩:=t;simp only[List.length_nil] at f1 f2 ⊢;rw[zE (by simp;omega),f1]
 rfl
theorem minus_eq(a b:List RN)(ha:a.length<=10000000000)(hb:b.length<=10000000000):Zf a b=pure (ZQ (fun x y=>x&&!y) a b):=by
 unfold Zf;have lb:=uy b;have lr:=wJa (nrm b) 1;rw[rest_eq b (by omega),zB,zA,yCa a _ (by omega) (by omega),zB,zA];refine congrArg pure ?_;obtain⟨s1,s2,_⟩:=zr (·&&·) rfl a (jZ 1 (nrm b));obtain⟨t1,t2,_⟩:=zr (fun x y=>x&&!y) rfl a b;refine Wi s1 t1 fun n=>?_
 rw[s2,t2,<- vM b]
 cases hh:yX a n with
 | false=>rfl
 | true=>
  have:=jr hh;rw[Bool.true_and,Bool.true_and,Bool.eq_iff_iff,QW (nrm b) 1 (YQ b) (by omega) (fun x hx=>(zk.1 ((YQ b).may x hx)).1) n];simp only[Bool.not_eq_true'];exact⟨fun h=>h.2.2,fun h=>⟨this.1,this.2,h⟩⟩
theorem Wk(l:List Int):(Xg l).length=l.length:=by simp[Xg]
end Go.Ep.M.R

/- Side texts. -/
import Derived.Test.YtjdnjamfgdjncaaGreatADr11
set_option linter.unusedVariables false
set_option linter.unusedSimpArgs false
namespace Go.Ep.M.G
open Go
open E (OkE yJ wn)
open F (uC zw yE)
theorem ua : ∀ {l l':List EV},wn l->wn l'->(∀ d,d∈l↔d∈l')->l=l'
 | [],[],_,_,_=>rfl
 | [],y::r,_,_,h=>by have:=(h y).2 (by simp);simp at this
 | x::r,[],_,_,h=>by have:=(h x).1 (by simp);simp at this
 | x::r,y::t,h1,h2,h=>by
  have hx:=(h x).1 (by simp);have hy:=(h y).2 (by simp);have e:x=y:=by
   rcases List.mem_cons.1 hx with e | hx
   ·exact e
   ·rcases List.mem_cons.1 hy with e | hy
    ·exact e.symm
    ·have a1:=(List.pairwise_cons.1 h2).1 x hx;have a2:=(List.pairwise_cons.1 h1).1 y hy;rw[D.XG a1] at a2;cases a2
  subst e
  congr 1
  refine ua (List.pairwise_cons.1 h1).2 (List.pairwise_cons.1 h2).2 fun d=>?_
  have h3:=h d;simp only[List.mem_cons] at h3
  constructor
  ·intro hd;rcases h3.1 (.inr hd) with e | h4
   ·have:=(List.pairwise_cons.1 h1).1 d hd;rw[e,D.WA] at this;cases this
   ·exact h4
  ·intro hd;rcases h3.2 (.inr hd) with e | h4
   ·have:=(List.pairwise_cons.1 h2).1 d hd;rw[e,D.WA] at this;cases this
   ·exact h4
theorem Zw{l:List EV}(h:wn l):(l.map (·.dot)).Nodup:=by
 unfold List.Nodup;rw[List.pairwise_map];exact h.imp fun {a b} h e=>by rw[e,D.WA] at h;cases h
theorem srtE_one{l:List EV}(h:wn l){a b:EV}(ha:a∈l)(hb:b∈l)(e:a.dot=b.dot):a=b:=by
 induction l with
 | nil=>cases ha
 | cons x r ih=>
  obtain⟨h1,h2⟩:=List.pairwise_cons.1 h;rcases List.mem_cons.1 ha with ea | ea <;> rcases List.mem_cons.1 hb with eb | eb
  ·rw[ea,eb]
  ·have:=h1 b eb;rw[<- ea,e,D.WA] at this;cases this
  ·have:=h1 a ea;rw[<- eb,e,D.WA] at this;cases this
  ·exact ih h2 ea eb
theorem zN{l:List EV}(h:wn l)(p:EV->Bool):wn (l.filter p):=h.sublist List.filter_sublist
theorem vNa{s:List EV}(hn:(s.map (·.dot)).Nodup)(h:s.Pairwise fun x y=>YG y x=false):wn s:=by
 unfold List.Nodup at hn;rw[List.pairwise_map] at hn;refine(hn.and h).imp fun {a b} ⟨h1,h2⟩=>?_
 cases h3:zR a.dot b.dot with
 | true=>rfl
 | false=>exact absurd (D.JW h3 h2) h1
theorem vOa{l:List EV}{Q:List EV->Prop}(h:∀ s,s.Perm l->(s.Pairwise fun x y=>YG y x=false)->Q s):(srt YG l).wp Q:=by
 refine⟨⟨l.mergeSort (fun x y=>!zR y.dot x.dot),List.mergeSort_perm _ _,?_⟩,fun s ⟨h1,h2⟩=>h s h1 h2⟩;refine(List.pairwise_mergeSort (fun a b c h1 h2=>?_) (fun a b=>?_) l).imp fun {x y} h=>by show zR y.dot x.dot=false;simpa using h
 ·simp only[Bool.not_eq_true'] at h1 h2 ⊢
  cases h3:zR c.dot a.dot with
  | false=>rfl
  | true=>
   rw[D.Vq] at h3;have h4:¬ (zR b.dot a.dot=true):=by simp[h1]
   have h5:¬ (zR c.dot b.dot=true):=by simp[h2]
   rw[D.Vq] at h4 h5;omega
 ·cases h1:zR b.dot a.dot with
  | false=>rfl
  | true=>rw[D.XG h1];rfl
def ent(e:EV):DT×EV:=(e.dot,e)
theorem ent_inj{a b:EV}(h:ent a=ent b):a=b:=(Prod.mk.inj h).2
theorem vPa{l:List EV}{k:DT×EV}:k∈l.map ent↔k.2∈l/\k.1=k.2.dot:=by
 rw[List.mem_map]
 constructor
 ·rintro⟨e,h,rfl⟩;exact⟨h,rfl⟩
 ·rintro⟨h1,h2⟩;exact⟨k.2,h1,by unfold ent;rw[<- h2]⟩
def Holds(m:List (DT×EV))(l:List EV):Prop:=m.Perm (l.map ent)
theorem Holds.keys{m:List (DT×EV)}{l:List EV}(h:Holds m l)(hs:wn l):(m.map (·.1)).Nodup:=by
 have h1:=h.map (·.1);rw[List.map_map] at h1;exact h1.nodup_iff.2 (Zw hs)
theorem Holds.mem{m:List (DT×EV)}{l:List EV}(h:Holds m l){k:DT×EV}:k∈m↔k.2∈l/\k.1=k.2.dot:=by rw[h.mem_iff,vPa]
theorem Holds.len{m:List (DT×EV)}{l:List EV}(h:Holds m l):m.length=l.length:=by rw[h.length_eq,List.length_map]
theorem vQa{l:List EV}(h:wn l):(l.map ent).Nodup:=by
 unfold List.Nodup;rw[List.pairwise_map];exact h.imp fun {a b} h e=>by rw[ent_inj e,D.WA] at h;cases h
theorem QE{m:List (DT×EV)}{l:List EV}(hn:(m.map (·.1)).Nodup)(hs:wn l)(h:∀ k,k∈m↔k.2∈l/\k.1=k.2.dot):Holds m l:=by
 have hm:m.Nodup:=by
  unfold List.Nodup at hn ⊢;rw[List.pairwise_map] at hn;exact hn.imp fun {a b} h e=>h (by rw[e])
 exact(List.perm_ext_iff_of_nodup hm (vQa hs)).2 fun k=>by rw[h,vPa]
theorem QB(e:EV)(h:e.kills.length<=1000000000000):yy e=pure e:=by
 unfold yy;rw[D.qx e.kills h,zB,zA]
theorem jV{body:List Nat×List EV->M (Step (List Nat×List EV) (List EV))}(m:List (DT×EV))(hb:body=fun⟨seen,out⟩=>yR (∀ i∈seen,i < m.length)<|M.bind (nxt m.length seen) fun o=>match o with
  | none=>pure (.done out)
  | some j=>M.bind (idx m (Int.ofNat j)) fun kv=>M.bind (det (yy kv.2)) fun v=>yR ((out.length+List.length [v])*80<=140737488355328)<|pure (.next (seen++[j],out++[v])))
  (hl:m.length<=500000000000) (hk:∀ k∈m,k.2.kills.length<=1000000000000) (t0:List EV) (h0:t0.length<=500000000000) {Q:List EV->Prop} (hQ:∀ l:List (DT×EV),l.Perm m->Q (t0++l.map (·.2))):(loop body ([],t0)).wp Q:=by
 refine M.loopM (body:=body) m (fun L (t:List EV)=>(L,t)) (fun t e=>(yy e.2).det.bind fun v=>yR ((t.length+1)*80<=140737488355328) (pure (t++[v]))) (fun t=>pure t)
  (fun l t=>t=t0++l.map (·.2)) Q (fun L t hL=>?_) (fun l t y ht hlen hy=>?_) (fun l t hp ht=>?_) t0 (by simp)
 ·subst hb;show yR _ ((nxt _ _).bind _)=yR _ ((nxt _ _).bind _);refine congrArg (fun k=>yR _ ((nxt _ _).bind k)) (funext fun o=>?_)
  cases o with
  | none=>rfl
  | some i=>rfl
 ·rw[QB y.2 (hk y hy),zB,zA];subst ht;exact⟨_,zC (by simp;omega) _,by simp⟩
 ·subst ht;exact hQ l hp
theorem ypa{nl:Bool}{m:List (DT×EV)}{l:List EV}(hm:Holds m l)(hs:wn l)(hl:l.length<=500000000000)(hk:∀ e∈l,e.kills.length<=1000000000000):vv nl m=pure l:=by
 unfold vv;refine uk (jV (body:=Yq m) m rfl (by rw[hm.len];exact hl) (fun k h=>hk _ (hm.mem.1 h).1) [] (by simp) fun q hq=>?_);show(yR _ _).wp _;have hp:(q.map (·.2)).Perm l:=by
  have:=(hq.trans hm).map (·.2);rw[List.map_map] at this;simpa[Function.comp_def,ent] using this
 rw[List.nil_append,zC (by rw[hp.length_eq];omega)];refine vOa fun s h1 h2=>?_
 show s=l;have h3:=h1.trans hp;exact ua (vNa ((h3.map (·.dot)).nodup_iff.2 (Zw hs)) h2) hs fun d=>h3.mem_iff
theorem list2_eq{nl1 nl2:Bool}{m1 m2:List (DT×EV)}{l l1 l2:List EV}(h1:Holds m1 l1)(h2:Holds m2 l2)(hp:(l1++l2).Perm l)(hs:wn l)(hl:l.length<=200000000000)(hk:∀ e∈l,e.kills.length<=1000000000000):ZR nl1 m1 nl2 m2=pure l:=by
 have hll:=hp.length_eq;rw[List.length_append] at hll;have hk1:∀ k∈m1,k.2.kills.length<=1000000000000:=fun k h=>hk _ (hp.mem_iff.1 (List.mem_append_left _ (h1.mem.1 h).1))
 have hk2:∀ k∈m2,k.2.kills.length<=1000000000000:=fun k h=>hk _ (hp.mem_iff.1 (List.mem_append_right _ (h2.mem.1 h).1))
 unfold ZR;refine uk (jV (body:=Yo m1) m1 rfl (by rw[h1.len];omega) hk1 [] (by simp) fun q hq=>?_);have hq1:(q.map (·.2)).Perm l1:=by
  have:=(hq.trans h1).map (·.2);rw[List.map_map] at this;simpa[Function.comp_def,ent] using this
 refine jV (body:=Yp m2) m2 rfl (by rw[h2.len];omega) hk2 _ (by rw[List.nil_append,hq1.length_eq];omega) fun q2 hq2=>?_
 have hq3:(q2.map (·.2)).Perm l2:=by
  have:=(hq2.trans h2).map (·.2);rw[List.map_map] at this;simpa[Function.comp_def,ent] using this
 show(yR _ _).wp _;rw[List.nil_append];have hpp:(q.map (·.2)++q2.map (·.2)).Perm l:=(hq1.append hq3).trans hp;rw[zC (by rw[hpp.length_eq];omega)];refine vOa fun s h3 h4=>?_
 show s=l;have h5:=h3.trans hpp;exact ua (vNa ((h5.map (·.dot)).nodup_iff.2 (Zw hs)) h4) hs fun d=>h5.mem_iff
open E (OkE yJ wn)
open F (uC zw yE vS)
section
variable{κ ν:Type}[DecidableEq κ]
theorem del_sub(m:List (κ×ν))(x:κ):(AL.del m x).Sublist m:=by
 induction m with
 | nil=>exact List.Sublist.slnil
 | cons k r ih=>
  obtain⟨k,v⟩:=k;unfold AL.del
  split
  ·exact List.sublist_cons_self _ _
  ·exact ih.cons_cons _
theorem mem_del{m:List (κ×ν)}(hn:(m.map (·.1)).Nodup)(x:κ)(k:κ×ν):k∈AL.del m x↔k∈m/\k.1≠x:=by
 induction m with
 | nil=>simp[AL.del]
 | cons y r ih=>
  obtain⟨q,v⟩:=y;rw[List.map_cons,List.nodup_cons] at hn;unfold AL.del
  split
  ·rename_i e
   subst e;rw[List.mem_cons]
   constructor
   ·intro h;exact⟨.inr h,fun e=>hn.1 (e▸List.mem_map.2 ⟨k,h,rfl⟩)⟩
   ·rintro⟨h | h,h2⟩
    ·subst h;exact absurd rfl h2
    ·exact h
  ·rename_i e
   rw[List.mem_cons,List.mem_cons,ih hn.2]
   constructor
   ·rintro(h | ⟨h,h2⟩)
    ·subst h;exact⟨.inl rfl,e⟩
    ·exact⟨.inr h,h2⟩
   ·rintro⟨h | h,h2⟩
    ·exact .inl h
    ·exact .inr ⟨h,h2⟩
theorem vRa{m:List (κ×ν)}(hn:(m.map (·.1)).Nodup)(x:κ)(v:ν)(k:κ×ν):k∈AL.set m x v↔(k∈m/\k.1≠x)\/k=(x,v):=by
 induction m with
 | nil=>simp[AL.set]
 | cons y r ih=>
  obtain⟨q,u⟩:=y;rw[List.map_cons,List.nodup_cons] at hn;unfold AL.set
  split
  ·rename_i e
   subst e;rw[List.mem_cons,List.mem_cons]
   constructor
   ·rintro(h | h)
    ·exact .inr h
    ·exact .inl ⟨.inr h,fun e=>hn.1 (e▸List.mem_map.2 ⟨k,h,rfl⟩)⟩
   ·rintro(⟨h | h,h2⟩ | h)
    ·subst h;exact absurd rfl h2
    ·exact .inr h
    ·exact .inl h
  ·rename_i e
   rw[List.mem_cons,List.mem_cons,ih hn.2]
   constructor
   ·rintro(h | ⟨h,h2⟩ | h)
    ·subst h;exact .inl ⟨.inl rfl,e⟩
    ·exact .inl ⟨.inr h,h2⟩
    ·exact .inr h
   ·rintro(⟨h | h,h2⟩ | h)
    ·exact .inl h
    ·exact .inr (.inl ⟨h,h2⟩)
    ·exact .inr (.inr h)
end
theorem Holds.del{m:List (DT×EV)}{l:List EV}(h:Holds m l)(hs:wn l)(d:DT):Holds (AL.del m d) (l.filter fun e=>!decide (e.dot=d)):=
 QE ((h.keys hs).sublist ((del_sub m d).map _)) (zN hs _) fun k=>by
  rw[mem_del (h.keys hs),h.mem,List.mem_filter]
  constructor
  ·rintro⟨⟨h1,h2⟩,h3⟩;exact⟨⟨h1,by rw[h2] at h3;simp[h3]⟩,h2⟩
  ·rintro⟨⟨h1,h3⟩,h2⟩;exact⟨⟨h1,h2⟩,by rw[h2];simpa using h3⟩
theorem vT{l:List DT}{d:DT}:uC l d=true↔d∈l:=by
 unfold uC;rw[List.any_eq_true]
 constructor
 ·rintro⟨x,h1,h2⟩;rw[<- of_decide_eq_true h2];exact h1
 ·intro h;exact⟨d,h,by simp⟩
theorem vSa(x:DT)(r:List DT)(d:DT):uC (x::r) d=(decide (x=d)||uC r d):=rfl
theorem Holds.dels : ∀ (ks:List DT) {m:List (DT×EV)} {l:List EV},Holds m l->wn l->Holds (ks.foldl AL.del m) (l.filter fun e=>!uC ks e.dot)
 | [],m,l,h,_=>by
  have:(l.filter fun e=>!uC [] e.dot)=l:=List.filter_eq_self.2 fun _ _=>rfl
  rw[this];exact h
 | d::r,m,l,h,hs=>by
  have h1:=Holds.dels r (h.del hs d) (zN hs _);rw[List.filter_filter] at h1;rw[List.foldl_cons];have:(fun e:EV=>!uC (d::r) e.dot)=fun e=>(!uC r e.dot)&&!decide (e.dot=d):=funext fun e=>by
   rw[vSa,Bool.not_or,Bool.and_comm]
   congr 2
   exact decide_eq_decide.2 ⟨Eq.symm,Eq.symm⟩
  rw[this];exact h1
def jr(l:List EV)(e:EV):List EV:=(l.filter fun x=>zR x.dot e.dot)++[e]++(l.filter fun x=>zR e.dot x.dot)
theorem UR{l:List EV}(hs:wn l)(e:EV):wn (jr l e):=by
 unfold jr wn;rw[List.pairwise_append,List.pairwise_append];refine⟨⟨zN hs _,by simp,fun a ha b hb=>?_⟩,zN hs _,fun a ha b hb=>?_⟩
 ·rw[List.mem_singleton.1 hb];exact(List.mem_filter.1 ha).2
 ·have h2:=(List.mem_filter.1 hb).2;rcases List.mem_append.1 ha with h | h
  ·exact D.Xj (List.mem_filter.1 h).2 h2
  ·rw[List.mem_singleton.1 h];exact h2
theorem ub{l:List EV}{e:EV}(hn:∀ x∈l,x.dot≠e.dot){x:EV}:x∈jr l e↔x=e\/x∈l:=by
 unfold jr;rw[List.mem_append,List.mem_append,List.mem_filter,List.mem_filter,List.mem_singleton]
 constructor
 ·rintro((⟨h,_⟩ | h) | ⟨h,_⟩)
  ·exact .inr h
  ·exact .inl h
  ·exact .inr h
 ·rintro(h | h)
  ·exact .inl (.inr h)
  ·cases h1:zR x.dot e.dot with
   | true=>exact .inl (.inl ⟨h,rfl⟩)
   | false=>
    cases h2:zR e.dot x.dot with
    | true=>exact .inr ⟨h,rfl⟩
    | false=>exact absurd (D.JW h1 h2) (hn x h)
theorem insE_len(l:List EV)(e:EV)(hs:wn l):(jr l e).length<=l.length+1:=by
 unfold jr;have h:∀ q:List EV,(q.filter fun x=>zR x.dot e.dot).length+(q.filter fun x=>zR e.dot x.dot).length<=q.length:=by
  intro q
  induction q with
  | nil=>simp
  | cons x r ih=>
   rw[List.filter_cons,List.filter_cons]
   cases h1:zR x.dot e.dot with
   | true=>rw[D.XG h1];simp;omega
   | false=>simp only[Bool.false_eq_true,if_false];split <;> simp <;> omega
 have:=h l;simp;omega
theorem Holds.add{m:List (DT×EV)}{l:List EV}(h:Holds m l)(hs:wn l){e:EV}(hn:∀ x∈l,x.dot≠e.dot):Holds (AL.set m e.dot e) (jr l e):=
 QE (AL.nodup_set (h.keys hs) _ _) (UR hs e) fun k=>by
  rw[vRa (h.keys hs),h.mem,ub hn]
  constructor
  ·rintro(⟨⟨h1,h2⟩,h3⟩ | h1)
   ·exact⟨.inr h1,h2⟩
   ·rw[h1];exact⟨.inl rfl,rfl⟩
  ·rintro⟨h1 | h1,h2⟩
   ·refine .inr ?_;obtain⟨k1,k2⟩:=k;simp only at h1 h2;rw[h2,h1]
   ·exact .inl ⟨⟨h1,h2⟩,by rw[h2];exact hn _ h1⟩
theorem xWa{ρ:Type}{body:Int×List EV->M (Step (Int×List EV) ρ)}(l:List EV)(p:EV->Bool)(g:List EV->M ρ)
  (h1:∀ (i:Nat) (x:EV) (t:List EV),l[i]?=some x->i < l.length->t.length<=i->body ((i:Int),t)=pure (.next (((i+1:Nat):Int),if p x then t++[x] else t)))
  (h2:∀ t,body ((l.length:Int),t)=(g t).bind fun r=>pure (.done r)):loop body (0,[])=g (l.filter p):=by
 have h:=Zd (body:=body) l (fun i (t:List EV)=>((i:Int),t)) (fun t x=>if p x then t++[x] else t) g (fun i t=>t.length<=i)
  (fun i x t hx hi hI=>⟨h1 i x t hx hi hI,by split <;> (try rw[List.length_append,List.length_singleton]) <;> omega⟩) (fun t _=>h2 t) [] (Nat.le_refl _)
 have hf:∀ (q t:List EV),q.foldl (fun t x=>if p x then t++[x] else t) t=t++q.filter p:=by
  intro q
  induction q with
  | nil=>intro t;simp
  | cons x r ih=>intro t;rw[List.foldl_cons,ih,List.filter_cons];split <;> simp
 rw[hf,List.nil_append] at h;exact h
theorem rPutI_eq(l:List EV)(e:EV)(hs:wn l)(hn:∀ x∈l,x.dot≠e.dot)(hl:l.length<=1000000000):zma l e=pure (jr l e):=by
 unfold zma;have h:=Zd (body:=Zs l e) l (fun i (t:Bool×List EV)=>(t.1,(i:Int),t.2)) (fun t x=>((t.1||!zR x.dot e.dot),(if (!zR x.dot e.dot&&!t.1)=true then t.2++[e] else t.2)++[x])) (fun t=>pure (Ex.brk (t.1,t.2)))
  (fun i t=>t.2.length<=i+1/\(t.1=false->t.2.length<=i)) (fun i x t hx hi hI=>by
   obtain⟨dn,out⟩:=t;have c0:x.dot≠e.dot:=hn x (List.mem_of_getElem? hx);have hz:V.Qo x.dot e.dot≠0:=by
    unfold V.Qo;rw[if_neg c0];split <;> decide
   have hpos:decide (0 < V.Qo x.dot e.dot)=!zR x.dot e.dot:=by
    by_cases c1:zR x.dot e.dot=true
    ·have:=V.Xg.2 c1;rw[c1];simp;omega
    ·have h2:¬ V.Qo x.dot e.dot < 0:=fun h=>c1 (V.Xg.1 h)
     simp only[Bool.not_eq_true] at c1;rw[c1];simp;omega
   have hc:decide ((i:Int) < (l.length:Int))=true:=by simpa using hi
   have hI1:=hI.1;have hI2:=hI.2;simp only at hI1 hI2;refine⟨?_,?_⟩
   ·unfold Zs;simp only[hc,cond_true,zJ hx,zA,V.Xf,zB,decide_eq_false hz,cond_false,hpos]
    cases zR x.dot e.dot <;> cases dn <;> simp only[Bool.not_true,Bool.not_false,cond_true,cond_false,zA,Bool.and_true,Bool.and_false,Bool.or_true,Bool.or_false,Bool.false_eq_true,if_true,if_false]
    ·rw[zC (by simp;omega),zA];simp only[];rw[zC (by simp;omega),yH (show i < 9223372036854775807 by omega)]
    ·rw[zC (by simp;omega),yH (show i < 9223372036854775807 by omega)]
    ·rw[zC (by simp;omega),yH (show i < 9223372036854775807 by omega)]
    ·rw[zC (by simp;omega),yH (show i < 9223372036854775807 by omega)]
   ·cases zR x.dot e.dot <;> cases dn <;> simp_all <;> omega) (fun t _=>by
   unfold Zs;simp[zA]) (false,[]) (by simp)
 have hA:∀ (q acc:List EV),q.foldl (fun(t:Bool×List EV) x=>((t.1||!zR x.dot e.dot),(if (!zR x.dot e.dot&&!t.1)=true then t.2++[e] else t.2)++[x])) (true,acc)=(true,acc++q):=by
  intro q
  induction q with
  | nil=>intro acc;simp
  | cons x r ih=>intro acc;rw[List.foldl_cons];simp only[Bool.true_or,Bool.not_true,Bool.and_false,Bool.false_eq_true,if_false];rw[ih];simp
 have hB:∀ (q acc:List EV),wn q->(∀ x∈q,x.dot≠e.dot)->∃ r:Bool×List EV,q.foldl (fun(t:Bool×List EV) x=>((t.1||!zR x.dot e.dot),(if (!zR x.dot e.dot&&!t.1)=true then t.2++[e] else t.2)++[x])) (false,acc)=r/\(if r.1=true then r.2 else r.2++[e])=acc++jr q e/\(r.1=false->r.2.length=acc.length+q.length):=by
  intro q
  induction q with
  | nil=>intro acc _ _;exact⟨(false,acc),rfl,by simp[jr],fun _=>by simp⟩
  | cons x r ih=>
   intro acc hs hn;obtain⟨p1,p2⟩:=List.pairwise_cons.1 hs;rw[List.foldl_cons]
   cases c:zR x.dot e.dot with
   | true=>
    simp only[Bool.not_true,Bool.or_self,Bool.false_and,Bool.false_eq_true,if_false];obtain⟨y,h1,h2,h3⟩:=ih (acc++[x]) p2 fun z hz=>hn z (by simp[hz])
    refine⟨y,h1,?_,fun h=>by rw[h3 h];simp;omega⟩;rw[h2];unfold jr;rw[List.filter_cons,List.filter_cons,if_pos c,if_neg (by rw[D.XG c];simp)];simp
   | false=>
    have hgt:zR e.dot x.dot=true:=by
     cases hh:zR e.dot x.dot with
     | true=>rfl
     | false=>exact absurd (D.JW c hh) (hn x (by simp))
    simp only[Bool.not_false,Bool.or_true,Bool.and_self,if_true];rw[hA];refine⟨_,rfl,?_,fun h=>by cases h⟩;rw[if_pos rfl];unfold jr;have e1:((x::r).filter fun y=>zR y.dot e.dot)=[]:=List.filter_eq_nil_iff.2 fun y hy=>by
     rcases List.mem_cons.1 hy with rfl | hy
     ·rw[c];simp
     ·rw[D.XG (D.Xj hgt (p1 y hy))];simp
    have e2:((x::r).filter fun y=>zR e.dot y.dot)=x::r:=List.filter_eq_self.2 fun y hy=>by
     rcases List.mem_cons.1 hy with rfl | hy
     ·exact hgt
     ·exact D.Xj hgt (p1 y hy)
    rw[e1,e2];simp
 obtain⟨r,h1,h2,h3⟩:=hB l [] hs hn;rw[h1] at h;have h':loop (Zs l e) (false,0,[])=pure (Ex.brk (r.1,r.2)):=h;rw[h',zA,Za];obtain⟨r1,r2⟩:=r
 cases r1 with
 | true=>
  simp only[Bool.not_true,cond_false,zA];rw[if_pos rfl,List.nil_append] at h2;have h2:r2=jr l e:=h2;rw[h2]
 | false=>
  have:=h3 rfl;simp only[List.length_nil,Nat.zero_add] at this;simp only[Bool.not_false,cond_true];rw[zC (by simp;omega),zA];rw[if_neg (by simp),List.nil_append] at h2;have h2:r2++[e]=jr l e:=h2;rw[h2]
theorem zMa{e:EV}(h:yJ e=true):e.kind=1\/e.kind=2:=by
 simp only[yJ,E.vIa,Bool.and_eq_true,Bool.or_eq_true,decide_eq_true_eq] at h;rcases h.2.1 with h | h
 ·exact .inl h.1
 ·exact .inr h.1
theorem Xk{e:EV}(h:yJ e=true):e.kills.length<=256/\D.Srt e.kills/\∀ d∈e.kills,V.yD d=true/\d≠e.dot:=by
 simp only[yJ,E.xSa,Bool.and_eq_true,decide_eq_true_eq,List.all_eq_true,Bool.not_eq_true',decide_eq_false_iff_not] at h;exact⟨h.2.2.1,D.qz.1 h.2.2.2.1,fun d hd=>h.2.2.2.2 d hd⟩
theorem VB{e:EV}(h:yJ e=true):V.yD e.dot=true:=by
 simp only[yJ,Bool.and_eq_true] at h;exact h.1.2
open E (OkE yJ wn)
open F (uC zw yE vS)
def yx(L:List EV):List EV:=L.filter fun e=>decide (e.kind=1)
def vY(L:List EV):List EV:=L.filter fun e=>decide (e.kind=2)
theorem yC{L:List EV}{x:EV}:x∈yx L↔x∈L/\x.kind=1:=by simp[yx]
theorem vU{L:List EV}{x:EV}:x∈vY L↔x∈L/\x.kind=2:=by simp[vY]
theorem yU{l:List EV}{d:DT}:d∈zw l↔∃ e∈l,d=e.dot\/d∈e.kills:=by simp[zw]
theorem Xl{l:List EV}{d:DT}:vS l d=true↔∃ e∈l,d∈e.kills:=by
 unfold vS;rw[List.any_eq_true];exact⟨fun⟨e,h1,h2⟩=>⟨e,h1,vT.1 h2⟩,fun⟨e,h1,h2⟩=>⟨e,h1,vT.2 h2⟩⟩
structure Rep(n:Nat)(W c xc:List PT)(nl1:Bool)(m1:List (DT×EV))(nl2:Bool)(m2:List (DT×EV))(L:List EV):Prop where
 ctx:c=C.zU W
 xctx:∀ k n,C.yb xc k n=C.yb W k n
 xok:C.Ok xc
 live:Holds m1 (yx L)
 tomb:Holds m2 (vY L)
 n1:nl1=true->m1=[]
 n2:nl2=true->m2=[]
 srt:wn L
 good:∀ e∈L,yJ e=true/\OkE e
 dots:∀ d∈zw L,C.yb W d.dev d.n=true
 alive:∀ e∈L,e.kind=1->vS L e.dot=false
 wl:W.length<=n
 wt:C.uB W<=n
 ll:L.length<=n
theorem ZZ{W:List PT}(h1:W.length<=400000000)(h2:C.uB W<=400000000):C.Ok (C.zU W):=
 ⟨fun p hp=>by have:=((C.yo W).nf p hp).1;omega,by have:=C.vP W;omega,by have:=C.vQ W;omega⟩
section
variable{n:Nat}{W c xc:List PT}{nl1:Bool}{m1:List (DT×EV)}{nl2:Bool}{m2:List (DT×EV)}{L:List EV}
theorem Rep.mono(hR:Rep n W c xc nl1 m1 nl2 m2 L){k:Nat}(h:n<=k):Rep k W c xc nl1 m1 nl2 m2 L:=
 { hR with wl:=Nat.le_trans hR.wl h,wt:=Nat.le_trans hR.wt h,ll:=Nat.le_trans hR.ll h }
theorem Rep.okc(hR:Rep n W c xc nl1 m1 nl2 m2 L)(hn:n<=100000000):C.Ok c:=by
 rw[hR.ctx];exact ZZ (by have:=hR.wl;omega) (by have:=hR.wt;omega)
theorem Rep.has(hR:Rep n W c xc nl1 m1 nl2 m2 L)(hn:n<=100000000)(d:DT):uF c d=pure (C.yb W d.dev d.n):=by
 rw[C.Vo c d (hR.okc hn).sm,hR.ctx,C.zu]
theorem Rep.rhas(hR:Rep n W c xc nl1 m1 nl2 m2 L)(d:DT):XD xc d=pure (C.yb W d.dev d.n):=by
 rw[C.VY xc d hR.xok,hR.xctx]
theorem Rep.new : Rep 0 [] [] [] true [] true [] [] where
 ctx:=rfl
 xctx _ _:=rfl
 xok:=C.ok_nil
 live:=List.Perm.refl _
 tomb:=List.Perm.refl _
 n1 _:=rfl
 n2 _:=rfl
 srt:=List.Pairwise.nil
 good _ h:=by cases h
 dots _ h:=by cases h
 alive _ h:=by cases h
 wl:=Nat.le_refl _
 wt:=Nat.le_refl _
 ll:=Nat.le_refl _
theorem QF(ks:List DT):ks.foldl AL.del ([]:List (DT×EV))=[]:=by
 induction ks with
 | nil=>rfl
 | cons d r ih=>rw[List.foldl_cons];exact ih
theorem add_eq{e:EV}(hk:e.kills.length<=1000000000000){nl:Bool}{m:List (DT×EV)}(h:nl=true->m=[]):Zo e nl m=pure (false,AL.set m e.dot e):=by
 unfold Zo;have h1:(cond nl (M.pure ([]:List (DT×EV))) (M.pure m))=M.pure m:=by
  cases nl with
  | true=>rw[h rfl];rfl
  | false=>rfl
 rw[h1,zA,QB e hk,zB,zA]
def WB(L:List EV)(e:EV):List EV:=jr (L.filter fun x=>!decide (x.kind=1)||!uC e.kills x.dot) e
theorem zNa(e:EV)(hk:e.kills.length<=1000000000)(m:List (DT×EV)):loop (xE e) (0,m)=pure (e.kills.foldl AL.del m):=
 Zd (body:=xE e) e.kills (fun i (t:List (DT×EV))=>((i:Int),t)) AL.del (fun t=>pure t) (fun _ _=>True) (fun i x t hx hi _=>by
  have hd:decide ((i:Int) < (e.kills.length:Int))=true:=by simpa using hi
  refine⟨?_,trivial⟩;unfold xE;simp only[hd,cond_true,zJ hx,zA,yH (show i < 9223372036854775807 by omega)]) (fun t _=>by
  unfold xE;simp[zA]) m trivial
theorem vTa(e:EV)(hk:e.kills.length<=1000000000)(xc:List PT)(L:List EV)(hl:L.length<=1000000000):loop (Zt ⟨xc,L⟩ e) (0,[])=pure (L.filter fun x=>!decide (x.kind=1)||!uC e.kills x.dot):=
 xWa (body:=Zt ⟨xc,L⟩ e) L (fun x=>!decide (x.kind=1)||!uC e.kills x.dot) (fun t=>pure t) (fun i x t hx hi hI=>by
  have hd:decide ((i:Int) < (L.length:Int))=true:=by simpa using hi
  unfold Zt;have hh:Uv e.kills x.dot=pure (uC e.kills x.dot):=E.VY e.kills x.dot (by omega);simp only[hd,cond_true,zJ hx,zA,hh,zB,yH (show i < 9223372036854775807 by omega)]
  cases decide (x.kind=1) <;> cases uC e.kills x.dot <;> simp only[Bool.not_true,Bool.not_false,cond_true,cond_false,zA,Bool.or_true,Bool.or_false,Bool.true_or,Bool.false_or,if_true,if_false,Bool.false_eq_true]
  all_goals (try rw[zC (by simp;omega)])
  all_goals rfl) (fun t=>by
  unfold Zt;simp[zA])
theorem jW(hR:Rep n W c xc nl1 m1 nl2 m2 L){e:EV}(hc:C.yb W e.dot.dev e.dot.n=false){x:EV}:x∈WB L e↔x=e\/(x∈L/\(x.kind≠1\/x.dot∉e.kills)):=by
 unfold WB;rw[ub,List.mem_filter]
 ·simp only[Bool.or_eq_true,Bool.not_eq_true',decide_eq_false_iff_not,<- Bool.not_eq_true (b:=uC _ _),vT]
 ·intro x hx e1;have:=hR.dots x.dot (yU.2 ⟨x,(List.mem_filter.1 hx).1,.inl rfl⟩);rw[e1,hc] at this;cases this
theorem Rep.put(hR:Rep n W c xc nl1 m1 nl2 m2 L)(hn:n<=100000000){e:EV}(oe:OkE e)(g:yJ e=true)(hc:C.yb W e.dot.dev e.dot.n=false) :
  ∃ c' xc' nl1' m1' nl2' m2',zj e c nl1 m1 nl2 m2=pure (0,c',nl1',m1',nl2',m2')/\VQ ⟨xc,L⟩ e=pure (⟨xc',WB L e⟩,0)/\Rep (n+600) (W++C.yF (yE [e])) c' xc' nl1' m1' nl2' m2' (WB L e):=by
 obtain⟨k1,k2,k3⟩:=Xk g;have hdl:(zw [e]).length<=300:=by simp[zw];omega
 have hde:(yE [e]).length<=300:=Nat.le_trans (D.qw _) hdl;have hne:∀ x∈L,x.dot≠e.dot:=fun x hx e1=>by
  have:=hR.dots x.dot (yU.2 ⟨x,hx,.inl rfl⟩);rw[e1,hc] at this;cases this
 have hadd:Ue c (yE [e])=pure (C.zU (W++C.yF (yE [e]))):=by
  have h:=hR.okc hn;rw[C.Add_eq c (yE [e]) (by omega) h.len h.tot,hR.ctx,C.qq]
 have hxok:C.Ok (C.zU (C.yF (yE [e]))):=C.qr (by omega);have hjoin:Xe xc (C.zU (C.yF (yE [e])))=pure (C.opC (·||·) xc (C.zU (C.yF (yE [e])))):=C.qp _ _ hR.xok hxok;have hxe:C.opC (·||·) xc (C.zU (C.yF (yE [e])))=C.zU (W++C.yF (yE [e])):=(C.xn rfl _ _).ext (C.yo _) fun k n=>by
  rw[C.xx rfl,C.zu,C.zu,C.vl,hR.xctx]
 have hW1:(W++C.yF (yE [e])).length<=n+600:=by have:=hR.wl;have:=C.vR (yE [e]);rw[List.length_append];omega
 have hW2:C.uB (W++C.yF (yE [e]))<=n+600:=by have:=hR.wt;have:=C.Xi (yE [e]);rw[C.Xh];omega
 have hsP:wn (WB L e):=UR (zN hR.srt _) e;have hmem:=fun x=>jW (x:=x) hR hc
 -- the document
 have hr:VQ ⟨xc,L⟩ e=pure (⟨C.zU (W++C.yF (yE [e])),WB L e⟩,0):=by
  unfold VQ;rw[E.UQ oe,zB,zA,g,Bool.not_true,cond_false];rw[show(⟨xc,L⟩:RB).ctx=xc from rfl,hR.rhas,zB,zA,hc,cond_false,vTa e (by omega) xc L (by have:=hR.ll;omega),zA];rw[F.QC [e] (by simp) (fun x hx=>by rw[List.mem_singleton.1 hx];omega),zB,zA,C.rOf_eq _ (by omega),zB,zA,hjoin,zB,zA,hxe];rw[rPutI_eq _ e (zN hR.srt _) (fun x hx=>hne x (List.mem_filter.1 hx).1) (by have:=List.length_filter_le (fun x:EV=>!decide (x.kind=1)||!uC e.kills x.dot) L;have:=hR.ll;omega),zB,zA]
  rfl
 have hdots:∀ d∈zw (WB L e),C.yb (W++C.yF (yE [e])) d.dev d.n=true:=fun d hd=>by
  rw[C.vl];obtain⟨x,hx,h⟩:=yU.1 hd;rcases(hmem x).1 hx with rfl | ⟨hx,_⟩
  ·rw[Bool.or_eq_true];refine .inr ((C.qj _ _ _).2 ⟨d,D.ZX.2 (yU.2 ⟨x,by simp,h⟩),?_,rfl,rfl⟩);rcases h with rfl | h
   ·exact VB g
   ·exact(k3 d h).1
  ·rw[hR.dots d (yU.2 ⟨x,hx,h⟩)];rfl
 have halive:∀ x∈WB L e,x.kind=1->vS (WB L e) x.dot=false:=fun x hx h1=>by
  rw[<- Bool.not_eq_true,Xl];rintro⟨y,hy,h2⟩;rcases(hmem x).1 hx with rfl | ⟨hx,h3⟩ <;> rcases(hmem y).1 hy with rfl | ⟨hy,_⟩
  ·exact(k3 _ h2).2 rfl
  ·have:=hR.dots _ (yU.2 ⟨y,hy,.inr h2⟩);rw[hc] at this;cases this
  ·exact h3.elim (fun h=>h h1) (fun h=>h h2)
  ·have:=hR.alive x hx h1;rw[<- Bool.not_eq_true,Xl] at this;exact this ⟨y,hy,h2⟩
 have base:∀ {a b:Bool} {p q:List (DT×EV)},Holds p (yx (WB L e))->Holds q (vY (WB L e))->(a=true->p=[])->(b=true->q=[]) ->
   Rep (n+600) (W++C.yF (yE [e])) (C.zU (W++C.yF (yE [e]))) (C.zU (W++C.yF (yE [e]))) a p b q (WB L e):=fun h1 h2 h3 h4=>
  ⟨rfl,fun k n=>C.zu _ _ _,ZZ (by omega) (by omega),h1,h2,h3,h4,hsP,fun x hx=>by
   rcases(hmem x).1 hx with rfl | ⟨hx,_⟩
   ·exact⟨g,oe⟩
   ·exact hR.good x hx,hdots,halive,hW1,hW2,by
   have h5:=insE_len (L.filter fun x=>!decide (x.kind=1)||!uC e.kills x.dot) e (zN hR.srt _);have h6:=List.length_filter_le (fun x:EV=>!decide (x.kind=1)||!uC e.kills x.dot) L;have:=hR.ll;unfold WB;omega⟩
 have hL1:=Holds.dels e.kills hR.live (zN hR.srt _);have hst1:wn ((yx L).filter fun x=>!uC e.kills x.dot):=zN (zN hR.srt _) _;rcases zMa g with hk | hk
 ·have h1:yx (WB L e)=jr ((yx L).filter fun x=>!uC e.kills x.dot) e:=ua (zN hsP _) (UR hst1 e) fun x=>by
   rw[yC,hmem,ub (fun x hx=>hne x (yC.1 (List.mem_filter.1 hx).1).1),List.mem_filter,yC,Bool.not_eq_true',<- Bool.not_eq_true,vT]
   constructor
   ·rintro⟨rfl | ⟨h1,h2⟩,h3⟩
    ·exact .inl rfl
    ·exact .inr ⟨⟨h1,h3⟩,h2.resolve_left (fun h=>h h3)⟩
   ·rintro(rfl | ⟨⟨h1,h2⟩,h3⟩)
    ·exact⟨.inl rfl,hk⟩
    ·exact⟨.inr ⟨h1,.inr h3⟩,h2⟩
  have h2:vY (WB L e)=vY L:=ua (zN hsP _) (zN hR.srt _) fun x=>by
   rw[vU,hmem,vU]
   constructor
   ·rintro⟨rfl | ⟨h1,h2⟩,h3⟩
    ·omega
    ·exact⟨h1,h3⟩
   ·rintro⟨h1,h2⟩;exact⟨.inr ⟨h1,.inl (by omega)⟩,h2⟩
  refine⟨_,_,false,AL.set (e.kills.foldl AL.del m1) e.dot e,nl2,m2,?_,hr,base ?_ ?_ (fun h=>by cases h) hR.n2⟩
  ·unfold zj;rw[E.YZ oe,zB,zA,g,Bool.not_true,cond_false,hR.has hn,zB,zA,hc,cond_false,F.jU [e] (by simp) (by omega),zB,zA,hadd,zB,zA,zNa e (by omega),zA,decide_eq_true hk,cond_true];rw[add_eq (by omega) (fun h=>by rw[hR.n1 h];exact QF _),zB,zA]
   rfl
  ·rw[h1];exact hL1.add hst1 fun x hx=>hne x (yC.1 (List.mem_filter.1 hx).1).1
  ·rw[h2];exact hR.tomb
 ·have h1:yx (WB L e)=(yx L).filter fun x=>!uC e.kills x.dot:=ua (zN hsP _) hst1 fun x=>by
   rw[yC,hmem,List.mem_filter,yC,Bool.not_eq_true',<- Bool.not_eq_true,vT]
   constructor
   ·rintro⟨rfl | ⟨h1,h2⟩,h3⟩
    ·omega
    ·exact⟨⟨h1,h3⟩,h2.resolve_left (fun h=>h h3)⟩
   ·rintro⟨⟨h1,h2⟩,h3⟩;exact⟨.inr ⟨h1,.inr h3⟩,h2⟩
  have h2:vY (WB L e)=jr (vY L) e:=ua (zN hsP _) (UR (zN hR.srt _) e) fun x=>by
   rw[vU,hmem,ub (fun x hx=>hne x (vU.1 hx).1),vU]
   constructor
   ·rintro⟨rfl | ⟨h1,h2⟩,h3⟩
    ·exact .inl rfl
    ·exact .inr ⟨h1,h3⟩
   ·rintro(rfl | ⟨h1,h2⟩)
    ·exact⟨.inl rfl,hk⟩
    ·exact⟨.inr ⟨h1,.inl (by omega)⟩,h2⟩
  refine⟨_,_,nl1,e.kills.foldl AL.del m1,false,AL.set m2 e.dot e,?_,hr,base ?_ ?_ (fun h=>by rw[hR.n1 h];exact QF _) (fun h=>by cases h)⟩
  ·unfold zj;rw[E.YZ oe,zB,zA,g,Bool.not_true,cond_false,hR.has hn,zB,zA,hc,cond_false,F.jU [e] (by simp) (by omega),zB,zA,hadd,zB,zA,zNa e (by omega),zA,decide_eq_false (show ¬ e.kind=1 by omega),cond_false];rw[add_eq (by omega) hR.n2,zB,zA]
   rfl
  ·rw[h1];exact hL1
  ·rw[h2];exact hR.tomb.add (zN hR.srt _) fun x hx=>hne x (vU.1 hx).1
end
open E (OkE yJ wn)
open F (uC zw yE vS)
section
variable{n:Nat}{W c xc:List PT}{nl1:Bool}{m1:List (DT×EV)}{nl2:Bool}{m2:List (DT×EV)}{L:List EV}
theorem Xm(L:List EV):(yx L).length<=L.length:=List.length_filter_le _ _
theorem yqa(L:List EV):(vY L).length<=L.length:=List.length_filter_le _ _
theorem Rep.kl(hR:Rep n W c xc nl1 m1 nl2 m2 L):∀ e∈L,e.kills.length<=256:=fun e he=>(Xk (hR.good e he).1).1
theorem Rep.Live(hR:Rep n W c xc nl1 m1 nl2 m2 L)(hn:n<=100000000):zZ c nl1 m1 nl2 m2=pure (yx L):=by
 unfold zZ;rw[ypa hR.live (zN hR.srt _) (by have:=Xm L;have:=hR.ll;omega) (fun e he=>by have:=hR.kl e (yC.1 he).1;omega),zB,zA]
theorem Rep.Tombs(hR:Rep n W c xc nl1 m1 nl2 m2 L)(hn:n<=100000000):xh c nl1 m1 nl2 m2=pure (vY L):=by
 unfold xh;rw[ypa hR.tomb (zN hR.srt _) (by have:=yqa L;have:=hR.ll;omega) (fun e he=>by have:=hR.kl e (vU.1 he).1;omega),zB,zA]
theorem xXa(L:List EV)(h:∀ e∈L,e.kind=1\/e.kind=2):(yx L++vY L).Perm L:=by
 induction L with
 | nil=>exact List.Perm.refl _
 | cons x r ih=>
  have ih:=ih fun e he=>h e (by simp[he])
  rcases h x (by simp) with h1 | h1
  ·have e1:yx (x::r)=x::yx r:=by unfold yx;rw[List.filter_cons,if_pos (by simp[h1])]
   have e2:vY (x::r)=vY r:=by unfold vY;rw[List.filter_cons,if_neg (by simp[h1])]
   rw[e1,e2];exact ih.cons x
  ·have e1:yx (x::r)=yx r:=by unfold yx;rw[List.filter_cons,if_neg (by simp[h1])]
   have e2:vY (x::r)=x::vY r:=by unfold vY;rw[List.filter_cons,if_pos (by simp[h1])]
   rw[e1,e2];exact List.perm_middle.trans (ih.cons x)
theorem Rep.kinds(hR:Rep n W c xc nl1 m1 nl2 m2 L):∀ e∈L,e.kind=1\/e.kind=2:=fun e he=>zMa (hR.good e he).1
theorem Rep.All(hR:Rep n W c xc nl1 m1 nl2 m2 L)(hn:n<=100000000):xL c nl1 m1 nl2 m2=pure L:=by
 unfold xL;rw[list2_eq hR.live hR.tomb (xXa L hR.kinds) hR.srt (by have:=hR.ll;omega) (fun e he=>by have:=hR.kl e he;omega),zB,zA]
theorem Rep.Ctx(hR:Rep n W c xc nl1 m1 nl2 m2 L)(hn:n<=100000000):zH c nl1 m1 nl2 m2=pure (C.zU W):=by
 unfold zH;rw[C.jL c (hR.okc hn).sm,zB,zA,hR.ctx,C.ug (C.yo W)]
theorem rkind_eq(l:List EV)(k:Int)(hl:l.length<=1000000000):qP l k=pure (l.filter fun e=>decide (e.kind=k)):=by
 unfold qP;rw[xWa (body:=YT l k) l (fun e=>decide (e.kind=k)) (fun t=>pure t) (fun i x t hx hi hI=>by
  have hd:decide ((i:Int) < (l.length:Int))=true:=by simpa using hi
  unfold YT;simp only[hd,cond_true,zJ hx,zA,yH (show i < 9223372036854775807 by omega)]
  cases decide (x.kind=k) <;> simp only[cond_true,cond_false,zA,if_true,if_false,Bool.false_eq_true]
  rw[zC (by simp;omega)]
  rfl) (fun t=>by unfold YT;simp[zA]),zA]
theorem Rep.rLive(hR:Rep n W c xc nl1 m1 nl2 m2 L)(hn:n<=100000000)(y:List PT):UJ ⟨y,L⟩=pure (yx L):=by
 unfold UJ;rw[rkind_eq L 1 (by have:=hR.ll;omega),zB,zA]
 rfl
theorem Rep.see(hR:Rep n W c xc nl1 m1 nl2 m2 L)(hn:n<=100000000){y:List PT}(hy:C.Ok y){k:Nat}(h1:y.length<=k)(h2:C.uB y<=k)(hk:k<=100000000) :
  ∃ c' xc',vC y c nl1 m1 nl2 m2=pure c'/\wXa ⟨xc,L⟩ y=pure ⟨xc',L⟩/\Rep (n+k) (W++y) c' xc' nl1 m1 nl2 m2 L:=by
 have hc:=hR.okc hn;have hwl:=hR.wl;have hwt:=hR.wt;have hl:=C.vP W;have ht:=C.vQ W;have e1:C.opC (·||·) xc y=C.zU (W++y):=(C.xn rfl _ _).ext (C.yo _) fun k n=>by rw[C.xx rfl,C.zu,C.vl,hR.xctx]
 refine⟨C.zU (W++y),C.zU (W++y),?_,?_,?_⟩
 ·unfold vC;rw[C.wra c y (C.sm_app (by rw[hR.ctx];omega) (by rw[hR.ctx];omega)),zB,zA,hR.ctx,C.qq]
 ·unfold wXa;rw[show(⟨xc,L⟩:RB).ctx=xc from rfl,C.qp xc y hR.xok hy,zB,zA,e1]
 ·exact⟨rfl,fun k n=>C.zu _ _ _,ZZ (by rw[List.length_append];omega) (by rw[C.Xh];omega),hR.live,hR.tomb,hR.n1,hR.n2,hR.srt,hR.good,fun d hd=>by rw[C.vl,hR.dots d hd];rfl,hR.alive,by rw[List.length_append];omega,by rw[C.Xh];omega,by have:=hR.ll;omega⟩
def wj(e:EV):EV:=⟨e.dot,e.kind,e.cid,e.field,e.text,[]⟩
def wk(L:List EV)(e:EV):List DT:=yE ((yx L).filter fun x=>if e.kind=1 then decide (x.cid=e.cid)&&decide (x.field=e.field) else decide (x.cid=e.cid))
theorem ofE_eq(l:List EV)(cid f:Int)(hl:l.length<=1000000)(hk:∀ e∈l,e.kind=1/\e.kills.length<=300):Zp l cid f=pure (yE (l.filter fun x=>decide (x.cid=cid)&&decide (x.field=f))):=by
 unfold Zp xW;have hf:=List.length_filter_le (fun x:EV=>decide (x.cid=cid)&&decide (x.field=f)) l;have hd:=F.vR (l.filter fun x=>decide (x.cid=cid)&&decide (x.field=f)) 300 fun e he=>(hk e (List.mem_filter.1 he).1).2
 rw[xWa (body:=yZ l cid f) l (fun x=>decide (x.cid=cid)&&decide (x.field=f)) (fun t=>pure t) (fun i x t hx hi hI=>by
  have hd:decide ((i:Int) < (l.length:Int))=true:=by simpa using hi
  unfold yZ uG;simp only[hd,cond_true,zJ hx,zA,(hk x (List.mem_of_getElem? hx)).1,decide_true,zd,zB,yH (show i < 9223372036854775807 by omega)]
  cases decide (x.cid=cid) <;> cases decide (x.field=f) <;> simp only[cond_true,cond_false,zA,if_true,if_false,Bool.false_eq_true,Bool.and_true,Bool.and_false,Bool.true_and,Bool.false_and]
  rw[zC (by simp;omega)]
  rfl) (fun t=>by unfold yZ;simp[zA]),zA,F.jU _ (by omega) (by omega),zB,zA,zB,zA]
theorem ofD_eq(l:List EV)(cid:Int)(hl:l.length<=1000000)(hk:∀ e∈l,e.kind=1/\e.kills.length<=300):vw l cid=pure (yE (l.filter fun x=>decide (x.cid=cid))):=by
 unfold vw xP;have hf:=List.length_filter_le (fun x:EV=>decide (x.cid=cid)) l;have hd:=F.vR (l.filter fun x=>decide (x.cid=cid)) 300 fun e he=>(hk e (List.mem_filter.1 he).1).2
 rw[xWa (body:=yN l cid) l (fun x=>decide (x.cid=cid)) (fun t=>pure t) (fun i x t hx hi hI=>by
  have hd:decide ((i:Int) < (l.length:Int))=true:=by simpa using hi
  unfold yN vD;simp only[hd,cond_true,zJ hx,zA,(hk x (List.mem_of_getElem? hx)).1,decide_true,zB,yH (show i < 9223372036854775807 by omega)]
  cases decide (x.cid=cid) <;> simp only[cond_true,cond_false,zA,if_true,if_false,Bool.false_eq_true]
  rw[zC (by simp;omega)]
  rfl) (fun t=>by unfold yN;simp[zA]),zA,F.jU _ (by omega) (by omega),zB,zA,zB,zA]
theorem rofE_eq(l:List EV)(cid f:Int)(hl:l.length<=1000000)(hk:∀ e∈l,e.kind=1/\e.kills.length<=300):qQ l cid f=pure (yE (l.filter fun x=>decide (x.cid=cid)&&decide (x.field=f))):=by
 unfold qQ;have hf:=List.length_filter_le (fun x:EV=>decide (x.cid=cid)&&decide (x.field=f)) l;rw[xWa (body:=YU l cid f) l (fun x=>decide (x.cid=cid)&&decide (x.field=f)) (fun t=>pure t) (fun i x t hx hi hI=>by
  have hd:decide ((i:Int) < (l.length:Int))=true:=by simpa using hi
  unfold YU;simp only[hd,cond_true,zJ hx,zA,(hk x (List.mem_of_getElem? hx)).1,decide_true,yH (show i < 9223372036854775807 by omega)]
  cases decide (x.cid=cid) <;> cases decide (x.field=f) <;> simp only[cond_true,cond_false,zA,if_true,if_false,Bool.false_eq_true,Bool.and_true,Bool.and_false,Bool.true_and,Bool.false_and]
  rw[zC (by simp;omega)]
  rfl) (fun t=>by unfold YU;simp[zA]),zA,F.QC _ (by omega) (fun e he=>(hk e (List.mem_filter.1 he).1).2),zB,zA]
theorem rofD_eq(l:List EV)(cid:Int)(hl:l.length<=1000000)(hk:∀ e∈l,e.kind=1/\e.kills.length<=300):VR l cid=pure (yE (l.filter fun x=>decide (x.cid=cid))):=by
 unfold VR;have hf:=List.length_filter_le (fun x:EV=>decide (x.cid=cid)) l;rw[xWa (body:=uV l cid) l (fun x=>decide (x.cid=cid)) (fun t=>pure t) (fun i x t hx hi hI=>by
  have hd:decide ((i:Int) < (l.length:Int))=true:=by simpa using hi
  unfold uV;simp only[hd,cond_true,zJ hx,zA,(hk x (List.mem_of_getElem? hx)).1,decide_true,yH (show i < 9223372036854775807 by omega)]
  cases decide (x.cid=cid) <;> simp only[cond_true,cond_false,zA,if_true,if_false,Bool.false_eq_true]
  rw[zC (by simp;omega)]
  rfl) (fun t=>by unfold uV;simp[zA]),zA,F.QC _ (by omega) (fun e he=>(hk e (List.mem_filter.1 he).1).2),zB,zA]
def jX(W:List PT)(L:List EV)(e:EV):EV×Int:=
 if yJ (wj e)=false then (⟨⟨0,0⟩,0,0,0,⟨#[]⟩,[]⟩,1) else if C.yb W e.dot.dev e.dot.n=true then (⟨⟨0,0⟩,0,0,0,⟨#[]⟩,[]⟩,7)
 else if 256 < (wk L e).length then (⟨⟨0,0⟩,0,0,0,⟨#[]⟩,[]⟩,3) else (⟨e.dot,e.kind,e.cid,e.field,e.text,wk L e⟩,0)
theorem zza{e:EV}(h:OkE e):OkE (wj e):=⟨h.dot,h.kind,h.cid,h.field,h.text,(fun d hd=>nomatch hd),by simp[wj]⟩
theorem Rep.make(hR:Rep n W c xc nl1 m1 nl2 m2 L)(hn:n<=1000000){e:EV}(oe:OkE e) :
  yg e c nl1 m1 nl2 m2=pure (jX W L e)/\yVa ⟨xc,L⟩ e=pure (jX W L e):=by
 have hll:=Xm L;have hL:=hR.ll;have hk:∀ x∈yx L,x.kind=1/\x.kills.length<=300:=fun x hx=>⟨(yC.1 hx).2,by have:=hR.kl x (yC.1 hx).1;omega⟩
 have h1:=E.YZ (zza oe);have h2:=E.UQ (zza oe);have h3:=hR.has (by omega) e.dot;have h4:=hR.rhas e.dot;have a1:=ofE_eq (yx L) e.cid e.field (by omega) hk;have a2:=ofD_eq (yx L) e.cid (by omega) hk;have a3:=rofE_eq (yx L) e.cid e.field (by omega) hk;have a4:=rofD_eq (yx L) e.cid (by omega) hk;unfold jX
 constructor
 ·unfold yg;rw[show(⟨e.dot,e.kind,e.cid,e.field,e.text,([]:List DT)⟩:EV)=wj e from rfl,h1,zB,zA]
  cases yJ (wj e) with
  | false=>rfl
  | true=>
   rw[Bool.not_true,cond_false,h3,zB,zA]
   cases C.yb W e.dot.dev e.dot.n with
   | true=>rfl
   | false=>
    rw[cond_false,if_neg (by simp),if_neg (by simp)];have hq:(cond (decide (e.kind=1))
      (M.bind (M.det (zZ c nl1 m1 nl2 m2)) fun y15=>M.bind (M.det (Zp y15 e.cid e.field)) fun v17=>M.pure (Ex.brk v17))
      (M.bind (M.det (zZ c nl1 m1 nl2 m2)) fun y19=>M.bind (M.det (vw y19 e.cid)) fun v21=>M.pure (Ex.brk v21)):M (Ex (List DT) (EV×Int)))=pure (Ex.brk (wk L e)):=by
     rw[hR.Live (by omega),zB,zA,zA,a1,a2,zB,zB,zA,zA,WV];unfold wk
     by_cases h:e.kind=1 <;> simp[h]
    rw[hq,zA,Za,yr]
    by_cases h:256 < (wk L e).length
    ·rw[if_pos h,if_pos (by omega)]
    ·rw[if_neg h,if_neg (by omega)]
 ·unfold yVa;rw[show(⟨e.dot,e.kind,e.cid,e.field,e.text,([]:List DT)⟩:EV)=wj e from rfl,h2,zB,zA]
  cases yJ (wj e) with
  | false=>rfl
  | true=>
   rw[Bool.not_true,cond_false,show(⟨xc,L⟩:RB).ctx=xc from rfl,h4,zB,zA]
   cases C.yb W e.dot.dev e.dot.n with
   | true=>rfl
   | false=>
    rw[cond_false,if_neg (by simp),if_neg (by simp),hR.rLive (by omega),zB,zA,a4,zB,zA];simp only[zA,a3,zB];rw[WV,zA];have hq:(cond (decide (e.kind=1)) (yE ((yx L).filter fun x=>decide (x.cid=e.cid)&&decide (x.field=e.field))) (yE ((yx L).filter fun x=>decide (x.cid=e.cid))))=wk L e:=by
     unfold wk
     by_cases h:e.kind=1 <;> simp[h]
    rw[hq,yr]
    by_cases h:256 < (wk L e).length
    ·rw[if_pos h,if_pos (by omega)]
    ·rw[if_neg h,if_neg (by omega)]
end
open E (OkE yJ wn)
open F (uC zw yE vS)
theorem yra{l:List EV}:wn l↔D.Srt (l.map (·.dot)):=by
 unfold wn D.Srt;rw[List.pairwise_map]
theorem XI{l l':List EV}(h:wn l)(e:l'.map (·.dot)=l.map (·.dot)):wn l':=by rw[yra,e,<- yra];exact h
def yI(y:List PT)(x:EV):EV:=if C.yb y x.dot.dev x.dot.n=true then wj x else x
theorem ZF(y:List PT)(x:EV):(yI y x).dot=x.dot:=by unfold yI;split <;> rfl
theorem Zx(y:List PT)(x:EV):(yI y x).kind=x.kind:=by unfold yI;split <;> rfl
theorem jY(y:List PT)(x:EV):∀ d∈(yI y x).kills,d∈x.kills:=by
 unfold yI
 split
 ·intro d hd;cases hd
 ·intro d hd;exact hd
theorem xYa{y:List PT}{x:EV}(h:yJ x=true/\OkE x):yJ (yI y x)=true/\OkE (yI y x):=by
 unfold yI
 split
 ·refine⟨?_,zza h.2⟩;have:=h.1;simp only[yJ,Bool.and_eq_true] at this ⊢;exact⟨this.1,this.2.1,rfl⟩
 ·exact h
theorem vn(y:List PT)(l:List EV):(l.map (yI y)).map (·.dot)=l.map (·.dot):=by
 rw[List.map_map];exact List.map_congr_left fun x _=>ZF y x
theorem Strip_eq(x:EV){y:List PT}(hy:C.Ok y)(hk:x.kills.length<=1000000000):YJ x y=pure (yI y x):=by
 unfold YJ;rw[QB x (by omega),zB,zA,C.Vo y x.dot hy.sm,zB,zA,WV,zA];unfold yI wj
 cases C.yb y x.dot.dev x.dot.n <;> rfl
theorem vUa(x:EV){y:List PT}(hy:C.Ok y):Ux x y=pure (yI y x):=by
 unfold Ux;rw[C.VY y x.dot hy,zB,zA,WV,zA];unfold yI wj
 cases C.yb y x.dot.dev x.dot.n <;> rfl
def zr(y:List PT)(x:EV):Bool:=C.yb y x.dot.dev x.dot.n
def xd(y:List PT)(L:List EV):List EV:=(L.filter fun x=>decide (x.kind=1)||!zr y x).map (yI y)
theorem ysa{m:List (DT×EV)}{A B:List EV}{x x':EV}(h:Holds m (A++x::B))(hs:wn (A++x::B))(hd:x'.dot=x.dot):Holds (AL.set m x.dot x') (A++x'::B):=by
 have hs':wn (A++x'::B):=XI hs (by simp[hd]);refine QE (AL.nodup_set (h.keys hs) _ _) hs' fun k=>?_
 rw[vRa (h.keys hs),h.mem];have hne:∀ z,z∈A\/z∈B->z.dot≠x.dot:=fun z hz e=>by
  have hz':z∈A++x::B:=by rw[List.mem_append,List.mem_cons];exact hz.imp (fun h=>h) .inr
  have e2:=srtE_one hs hz' (by simp) e;subst e2;have h2:=Zw hs;rw[List.map_append,List.map_cons,List.nodup_append,List.nodup_cons] at h2;rcases hz with hz | hz
  ·exact h2.2.2 _ (List.mem_map.2 ⟨z,hz,rfl⟩) _ (by simp) rfl
  ·exact h2.2.1.1 (List.mem_map.2 ⟨z,hz,rfl⟩)
 simp only[List.mem_append,List.mem_cons]
 constructor
 ·rintro(⟨⟨h1,h2⟩,h3⟩ | h1)
  ·refine⟨?_,h2⟩;rcases h1 with h1 | h1 | h1
   ·exact .inl h1
   ·exact absurd (by rw[h2,h1]) h3
   ·exact .inr (.inr h1)
  ·rw[h1];exact⟨.inr (.inl rfl),hd.symm⟩
 ·rintro⟨h1 | h1 | h1,h2⟩
  ·exact .inl ⟨⟨.inl h1,h2⟩,by rw[h2];exact hne _ (.inl h1)⟩
  ·refine .inr ?_;obtain⟨k1,k2⟩:=k;simp only at h1 h2;rw[h2,h1,hd]
  ·exact .inl ⟨⟨.inr (.inr h1),h2⟩,by rw[h2];exact hne _ (.inr h1)⟩
theorem has_of{m:List (DT×EV)}{l:List EV}(h:Holds m l)(hs:wn l){x:EV}(hx:x∈l):AL.has m x.dot=true:=by
 unfold AL.has;have:=AL.mem_get (h.keys hs) ((Holds.mem h (k:=(x.dot,x))).2 ⟨hx,rfl⟩);rw[this];rfl
theorem xZa{y:List PT}(hy:C.Ok y)(l:List EV)(hl:l.length<=1000000000)(hk:∀ e∈l,e.kills.length<=300)(hs:wn l){nl:Bool}{m:List (DT×EV)}(h:Holds m l) :
  ∃ m',ZS l y nl m=pure (nl,m')/\Holds m' (l.map (yI y))/\(m=[]->m'=[]):=by
 have h1:=Zd (body:=vF l y nl) l (fun i (t:List (DT×EV))=>((i:Int),t)) (fun t x=>AL.set t x.dot (yI y x)) (fun t=>pure (nl,t))
  (fun i t=>Holds t ((l.take i).map (yI y)++l.drop i)) (fun i x t hx hi hI=>by
   have hd:decide ((i:Int) < (l.length:Int))=true:=by simpa using hi
   have hdr:l.drop i=x::l.drop (i+1):=by
    rw[List.drop_eq_getElem_cons hi]
    congr 1
    rw[List.getElem?_eq_getElem hi] at hx;exact Option.some.inj hx
   have htk:l.take (i+1)=l.take i++[x]:=by rw[List.take_add_one,hx];rfl
   have hss:wn ((l.take i).map (yI y)++x::l.drop (i+1)):=by
    rw[<- hdr];refine XI hs ?_;rw[List.map_append,vn,<- List.map_append,List.take_append_drop]
   rw[hdr] at hI;refine⟨?_,?_⟩
   ·unfold vF;have hh:=has_of hI hss (x:=x) (by simp);simp only[hd,cond_true,zJ hx,zA,hh,Strip_eq x hy (by have:=hk x (List.mem_of_getElem? hx);omega),zB,yH (show i < 9223372036854775807 by omega)];rw[zC trivial,zA]
   ·rw[htk,List.map_append,List.append_assoc];exact ysa hI hss (ZF y x)) (fun t _=>by
   unfold vF;simp[zA]) m (by simpa using h)
 have hinv:∀ (k i:Nat) (t:List (DT×EV)),i+k=l.length->Holds t ((l.take i).map (yI y)++l.drop i)->Holds ((l.drop i).foldl (fun t x=>AL.set t x.dot (yI y x)) t) (l.map (yI y)):=by
  intro k
  induction k with
  | zero=>
   intro i t hi ht;have:i=l.length:=by omega
   subst this;rw[List.drop_length,List.take_length,List.append_nil] at ht;rw[List.drop_length];exact ht
  | succ k ih=>
   intro i t hi ht;have hlt:i < l.length:=by omega
   have hdr:=List.drop_eq_getElem_cons hlt;have htk:l.take (i+1)=l.take i++[l[i]]:=by rw[List.take_add_one,List.getElem?_eq_getElem hlt];rfl
   have hss:wn ((l.take i).map (yI y)++l[i]::l.drop (i+1)):=by
    rw[<- hdr];refine XI hs ?_;rw[List.map_append,vn,<- List.map_append,List.take_append_drop]
   rw[hdr,List.foldl_cons];refine ih (i+1) _ (by omega) ?_;rw[htk,List.map_append,List.append_assoc];rw[hdr] at ht;exact ysa ht hss (ZF y _)
 refine⟨l.foldl (fun(t:List (DT×EV)) (x:EV)=>AL.set t x.dot (yI y x)) m,by unfold ZS;exact h1,by simpa using hinv l.length 0 m (by omega) (by simpa using h),fun hm=>?_⟩;subst hm;have:l=[]:=by
  have:=h.len;simpa using this.symm
 rw[this];rfl
section
variable{n:Nat}{W c xc:List PT}{nl1:Bool}{m1:List (DT×EV)}{nl2:Bool}{m2:List (DT×EV)}{L:List EV}
theorem Rep.Live'(hR:Rep n W c xc nl1 m1 nl2 m2 L)(hn:n<=100000000)(c':List PT)(b:Bool)(m':List (DT×EV)):zZ c' nl1 m1 b m'=pure (yx L):=hR.Live hn
theorem vVa{y:List PT}(hy:C.Ok y)(T:List EV)(hl:T.length<=1000000000)(m:List (DT×EV)) :
  loop (yi T y) (0,0,m)=pure (((T.filter (zr y)).length:Int),((T.filter (zr y)).map (·.dot)).foldl AL.del m):=by
 have h1:=Zd (body:=yi T y) T (fun i (t:List EV×List (DT×EV))=>((t.1.length:Int),(i:Int),t.2)) (fun t x=>if zr y x=true then (t.1++[x],AL.del t.2 x.dot) else t) (fun t=>pure ((t.1.length:Int),t.2))
  (fun i t=>t.1.length<=i) (fun i x t hx hi hI=>by
   have hd:decide ((i:Int) < (T.length:Int))=true:=by simpa using hi
   refine⟨?_,?_⟩
   ·unfold yi;have hh:uF y x.dot=pure (zr y x):=C.Vo y x.dot hy.sm;simp only[hd,cond_true,zJ hx,zA,hh,zB,yH (show i < 9223372036854775807 by omega)]
    cases zr y x with
    | true=>
     simp only[cond_true,if_true,zA];rw[yH (by omega)];simp
    | false=>simp[zA]
   ·split
    ·simp only[List.length_append,List.length_singleton];omega
    ·omega) (fun t _=>by
   unfold yi;simp[zA]) ([],m) (Nat.le_refl _)
 have hf:∀ (q:List EV) (t:List EV×List (DT×EV)),q.foldl (fun t x=>if zr y x=true then (t.1++[x],AL.del t.2 x.dot) else t) t=(t.1++q.filter (zr y),((q.filter (zr y)).map (·.dot)).foldl AL.del t.2):=by
  intro q
  induction q with
  | nil=>intro t;simp
  | cons x r ih=>
   intro t;rw[List.foldl_cons,ih,List.filter_cons]
   split <;> simp_all
 rw[hf] at h1;exact h1
theorem z0a{y:List PT}(hy:C.Ok y)(xc:List PT)(L:List EV)(hl:L.length<=1000000000):loop (uA ⟨xc,L⟩ y) (0,[])=pure (xd y L):=by
 have h1:=Zd (body:=uA ⟨xc,L⟩ y) L (fun i (t:List EV)=>((i:Int),t)) (fun t x=>if (decide (x.kind=1)||!zr y x)=true then t++[yI y x] else t) (fun t=>pure t)
  (fun i t=>t.length<=i) (fun i x t hx hi hI=>by
   have hd:decide ((i:Int) < (L.length:Int))=true:=by simpa using hi
   refine⟨?_,by split <;> (try rw[List.length_append,List.length_singleton]) <;> omega⟩;unfold uA;have hh:XD y x.dot=pure (zr y x):=C.VY y x.dot hy;simp only[hd,cond_true,zJ hx,zA,hh,zB,vUa x hy,yH (show i < 9223372036854775807 by omega)]
   cases decide (x.kind=1) <;> cases zr y x <;> simp only[Bool.not_true,Bool.not_false,cond_true,cond_false,zA,Bool.or_true,Bool.or_false,Bool.true_or,Bool.false_or,if_true,if_false,Bool.false_eq_true]
   all_goals (try rw[zC (by simp;omega)])
   all_goals rfl) (fun t _=>by unfold uA;simp[zA]) [] (Nat.le_refl _)
 have hf:∀ (q t:List EV),q.foldl (fun t x=>if (decide (x.kind=1)||!zr y x)=true then t++[yI y x] else t) t=t++(q.filter fun x=>decide (x.kind=1)||!zr y x).map (yI y):=by
  intro q
  induction q with
  | nil=>intro t;simp
  | cons x r ih=>intro t;rw[List.foldl_cons,ih,List.filter_cons];split <;> simp
 rw[hf,List.nil_append] at h1;exact h1
theorem Rep.prune(hR:Rep n W c xc nl1 m1 nl2 m2 L)(hn:n<=100000000){y:List PT}(hy:C.Ok y) :
  ∃ k nl1' m1' nl2' m2',yW y c nl1 m1 nl2 m2=pure (k,nl1',m1',nl2',m2')/\Qm ⟨xc,L⟩ y=pure (⟨xc,xd y L⟩,k)/\Rep n W c xc nl1' m1' nl2' m2' (xd y L)/\k=((vY L).filter (zr y)).length:=by
 have hll:=hR.ll;have hl1:=Xm L;have ht1:=yqa L;obtain⟨m1',h1,h2,h3⟩:=xZa (nl:=nl1) hy (yx L) (by omega) (fun e he=>by have:=hR.kl e (yC.1 he).1;omega) (zN hR.srt _) hR.live;have hdel:=Holds.dels ((vY L).filter (zr y) |>.map (·.dot)) hR.tomb (zN hR.srt _);have hP:∀ x∈L,(decide (x.kind=1)||!zr y x)=true↔(x.kind=1\/zr y x=false):=fun x _=>by simp
 have hsP:wn (xd y L):=XI (zN hR.srt (fun x=>decide (x.kind=1)||!zr y x)) (vn y _);have mem_p:∀ z,z∈xd y L↔∃ x∈L,(x.kind=1\/zr y x=false)/\yI y x=z:=fun z=>by
  unfold xd;rw[List.mem_map]
  constructor
  ·rintro⟨x,hx,e⟩;rw[List.mem_filter] at hx;exact⟨x,hx.1,(hP x hx.1).1 hx.2,e⟩
  ·rintro⟨x,hx,hp,e⟩;exact⟨x,List.mem_filter.2 ⟨hx,(hP x hx).2 hp⟩,e⟩
 have hlive:yx (xd y L)=(yx L).map (yI y):=by
  refine ua (zN hsP _) (XI (zN hR.srt _) (vn y _)) fun z=>?_
  rw[yC,mem_p,List.mem_map]
  constructor
  ·rintro⟨⟨x,hx,hp,rfl⟩,hz⟩;exact⟨x,yC.2 ⟨hx,by rw[<- Zx y x];exact hz⟩,rfl⟩
  ·rintro⟨x,hx,rfl⟩;obtain⟨h4,h5⟩:=yC.1 hx;exact⟨⟨x,h4,.inl h5,rfl⟩,by rw[Zx];exact h5⟩
 have htomb:vY (xd y L)=(vY L).filter fun e=>!uC ((vY L).filter (zr y) |>.map (·.dot)) e.dot:=by
  refine ua (zN hsP _) (zN (zN hR.srt _) _) fun z=>?_
  rw[vU,mem_p,List.mem_filter,vU,Bool.not_eq_true',<- Bool.not_eq_true,vT];have hsn:∀ x:EV,zr y x=false->yI y x=x:=fun x h=>by
   unfold yI;rw[if_neg];show ¬ zr y x=true;rw[h];simp
  constructor
  ·rintro⟨⟨x,hx,hp,rfl⟩,hz⟩;rw[Zx] at hz;have hs:zr y x=false:=hp.resolve_left (by omega);rw[hsn x hs];refine⟨⟨hx,hz⟩,fun h=>?_⟩;obtain⟨w,hw,e⟩:=List.mem_map.1 h;have h4:=(List.mem_filter.1 hw).2;unfold zr at h4 hs;rw[e,hs] at h4;cases h4
  ·rintro⟨⟨hx,hz⟩,h⟩;have hs:zr y z=false:=by
    cases h4:zr y z with
    | false=>rfl
    | true=>exact absurd (List.mem_map.2 ⟨z,List.mem_filter.2 ⟨vU.2 ⟨hx,hz⟩,h4⟩,rfl⟩) h
   exact⟨⟨z,hx,.inr hs,hsn z hs⟩,hz⟩
 have hlen:(L.length:Int) - ((xd y L).length:Int)=((vY L).filter (zr y)).length:=by
  have e1:(xd y L).length=(L.filter fun x=>decide (x.kind=1)||!zr y x).length:=by unfold xd;rw[List.length_map]
  have e2:(vY L).filter (zr y)=L.filter fun x=>!(decide (x.kind=1)||!zr y x):=by
   unfold vY;rw[List.filter_filter];refine List.filter_congr fun x hx=>?_
   rcases hR.kinds x hx with h | h <;> simp[h]
  have e3:∀ (q:List EV) (p:EV->Bool),q.length=(q.filter p).length+(q.filter fun x=>!p x).length:=by
   intro q p
   induction q with
   | nil=>rfl
   | cons x r ih=>rw[List.filter_cons,List.filter_cons];cases p x <;> simp <;> omega
  have:=e3 L fun x=>decide (x.kind=1)||!zr y x
  rw[e1,e2];omega
 have hle:(xd y L).length<=L.length:=by unfold xd;rw[List.length_map];exact List.length_filter_le _ _
 refine⟨_,nl1,m1',nl2,((vY L).filter (zr y) |>.map (·.dot)).foldl AL.del m2,?_,?_,?_,rfl⟩
 ·unfold yW;rw[hR.Tombs hn,zB,zA,vVa hy (vY L) (by omega),zA];simp only[];rw[hR.Live' hn,zB,zA,h1,zB,zA]
 ·unfold Qm;rw[z0a hy xc L (by omega),zA];simp only[];rw[Wp (by omega) (by omega),hlen]
 ·refine⟨hR.ctx,hR.xctx,hR.xok,by rw[hlive];exact h2,by rw[htomb];exact hdel,fun h=>h3 (hR.n1 h),fun h=>by rw[hR.n2 h];exact QF _,hsP,fun z hz=>?_,fun d hd=>?_,fun z hz hk=>?_,hR.wl,hR.wt,by omega⟩
  ·obtain⟨x,hx,_,rfl⟩:=(mem_p z).1 hz;exact xYa (hR.good x hx)
  ·obtain⟨z,hz,h⟩:=yU.1 hd;obtain⟨x,hx,_,rfl⟩:=(mem_p z).1 hz;refine hR.dots d (yU.2 ⟨x,hx,?_⟩);rw[ZF] at h;exact h.imp (fun h=>h) (jY y x d)
  ·obtain⟨x,hx,_,rfl⟩:=(mem_p z).1 hz;rw[Zx] at hk;rw[ZF,<- Bool.not_eq_true,Xl];rintro⟨w,hw,h⟩;obtain⟨v,hv,_,rfl⟩:=(mem_p w).1 hw;have:=hR.alive x hx hk;rw[<- Bool.not_eq_true,Xl] at this;exact this ⟨v,hv,jY y v _ h⟩
theorem Rep.Same(hR:Rep n W c xc nl1 m1 nl2 m2 L)(hn:n<=100000000){n':Nat}{W' c' xc':List PT}{a b:Bool}{p q:List (DT×EV)}{L':List EV}(hR':Rep n' W' c' xc' a p b q L')(hn':n'<=100000000) :
  YI c c' nl1 m1 nl2 m2 a p b q=pure (decide (C.zU W=C.zU W')&&decide (L=L')):=by
 unfold YI;have o1:C.Ok (C.zU W):=hR.ctx▸hR.okc hn;have o2:C.Ok (C.zU W'):=hR'.ctx▸hR'.okc hn';have hA:=F.eAll_eq L L' (by have:=hR.ll;omega) (fun e he=>by have:=hR.kl e he;omega);rw[hR.Ctx hn,zB,zA,hR'.Ctx hn',zB,zA,C.Same_eq _ _ o1.sm o2.sm,zB,zA,C.ug (C.yo W),C.ug (C.yo W'),hR.All hn,zB,zA,hR'.All hn',zB,zA,hA,zB,zA,zd,zA]
end
open E (OkE yJ wn)
open F (uC zw yE vS)
theorem delF{body:Int×Int×List EV->M (Step (Int×Int×List EV) (Int×List EV))}(p:EV->Bool)(l:List EV)(hl:l.length<=1000000000)
  (hb1:∀ (i j:Nat) (v:List EV) (x:EV),v[j]?=some x->j < v.length->i < j->v.length<=1000000000->body ((i:Int),(j:Int),v)=pure (.next (if p x=true then ((i:Int),((j+1:Nat):Int),v) else (((i+1:Nat):Int),((j+1:Nat):Int),v.set i x))))
  (hb2:∀ (i:Int) (v:List EV),body (i,(v.length:Int),v)=pure (.done (i,v))) :
  ∀ (k i j:Nat) (v:List EV),j+k=l.length->v.length=l.length->i < j->i=((l.take j).filter fun x=>!p x).length->v.take i=(l.take j).filter (fun x=>!p x)->v.drop j=l.drop j ->
   ∃ v',loop body ((i:Int),(j:Int),v)=pure (((l.filter fun x=>!p x).length:Int),v')/\v'.length=l.length/\v'.take (l.filter fun x=>!p x).length=l.filter fun x=>!p x:=by
 intro k
 induction k with
 | zero=>
  intro i j v hj hv hij hi ht hd;have e:j=v.length:=by omega
  subst e;rw[yL (hb2 _ _)];rw[hv,List.take_length] at hi ht;exact⟨v,by rw[hi],hv,by rw[<- hi];exact ht⟩
 | succ k ih=>
  intro i j v hj hv hij hi ht hd;have hlt:j < v.length:=by omega
  have hx:=List.getElem?_eq_getElem hlt;have hlx:l[j]?=some v[j]:=by
   have:=congrArg (fun q:List EV=>q[0]?) hd;simp only[List.getElem?_drop,Nat.add_zero] at this;rw[<- this];exact hx
  have htk:l.take (j+1)=l.take j++[v[j]]:=by rw[List.take_add_one,hlx];rfl
  rw[yS (hb1 i j v _ hx hlt hij (by omega))];have hd1:v.drop (j+1)=l.drop (j+1):=by
   have:=congrArg (fun q:List EV=>q.drop 1) hd;simpa[List.drop_drop,Nat.add_comm] using this
  by_cases c:p v[j]=true
  ·rw[if_pos c];refine ih i (j+1) v (by omega) hv (by omega) ?_ ?_ hd1
   ·rw[htk,List.filter_append,List.filter_cons,if_neg (by simp[c])];simpa using hi
   ·rw[htk,List.filter_append,List.filter_cons,if_neg (by simp[c])];simpa using ht
  ·rw[if_neg c];have hf:(l.take (j+1)).filter (fun x=>!p x)=(l.take j).filter (fun x=>!p x)++[v[j]]:=by
    rw[htk,List.filter_append,List.filter_cons,if_pos (by simp[c])];rfl
   refine ih (i+1) (j+1) (v.set i v[j]) (by omega) (by rw[List.length_set];exact hv) (by omega) ?_ ?_ ?_
   ·rw[hf,List.length_append,List.length_singleton,<- hi]
   ·have hls:i < (v.set i v[j]).length:=by rw[List.length_set];omega
    rw[hf,List.take_add_one,List.take_set,List.getElem?_set_self (by omega),ht];have:((l.take j).filter fun x=>!p x).set i v[j]=(l.take j).filter fun x=>!p x:=List.set_eq_of_length_le (by omega)
    rw[this];rfl
   ·rw[List.drop_set,if_pos (by omega)];exact hd1
theorem xaa(l:List EV)(p:EV->Bool):∀ b:Nat,match (l.zipIdx b).find? (fun y=>p y.1) with
  | some y=>b<=y.2/\y.2 - b < l.length/\(l.take (y.2 - b)).all (fun x=>!p x)=true/\∃ x,l[y.2 - b]?=some x/\p x=true
  | none=>l.filter (fun x=>!p x)=l:=by
 induction l with
 | nil=>intro b;simp
 | cons x r ih=>
  intro b;rw[List.zipIdx_cons,List.find?_cons]
  cases hp:p x with
  | true=>simp[hp]
  | false=>
   simp only[];have h:=ih (b+1)
   revert h
   cases (r.zipIdx (b+1)).find? (fun y=>p y.1) with
   | none=>intro h;rw[List.filter_cons,if_pos (by simp[hp]),h]
   | some y=>
    rintro⟨h1,h2,h3,z,h4,h5⟩;have e:y.2 - b=(y.2 - (b+1))+1:=by omega
    refine⟨by omega,by simp;omega,?_,z,?_,h5⟩
    ·rw[e,List.take_succ_cons,List.all_cons,hp];exact h3
    ·rw[e,List.getElem?_cons_succ];exact h4
theorem xba{l:List EV}{p:EV->Bool}(h:l.all (fun x=>!p x)=true):l.filter (fun x=>!p x)=l:=List.filter_eq_self.2 fun x hx=>List.all_eq_true.1 h x hx
theorem xca(p:EV->Bool)(l:List EV)(hl:l.length<=1000000000)(ask:M Int)(body:Int×Int×List EV->M (Step (Int×Int×List EV) (Int×List EV)))(z:EV)
  (hask:ask=match l.zipIdx.find? (fun y=>p y.1) with | some y=>pure (y.2:Int) | none=>pure (-1))
  (hb1:∀ (i j:Nat) (v:List EV) (x:EV),v[j]?=some x->j < v.length->i < j->v.length<=1000000000->body ((i:Int),(j:Int),v)=pure (.next (if p x=true then ((i:Int),((j+1:Nat):Int),v) else (((i+1:Nat):Int),((j+1:Nat):Int),v.set i x))))
  (hb2:∀ (i:Int) (v:List EV),body (i,(v.length:Int),v)=pure (.done (i,v))) :
  (M.bind (M.det ask) fun v3=>cond (decide (v3=(-1))) (M.pure l) (M.bind (M.loop body (v3,(IntKind.i64.wrap (v3+1)),l)) (fun⟨i6,v7⟩=>
   M.yR ((0:Int)<=i6/\i6<=(v7.length:Int))<|M.yR ((Int.toNat i6)+(v7.length - Int.toNat i6)<=v7.length) <|
   M.yR ((0:Int)<=0/\(0:Int)<=i6/\i6<=(List.length ((List.take (Int.toNat i6) v7++List.replicate (v7.length - Int.toNat i6) z++List.drop ((Int.toNat i6)+(v7.length - Int.toNat i6)) v7)):Int)) <|
   M.pure ((List.take (Int.toNat i6) ((List.take (Int.toNat i6) v7++List.replicate (v7.length - Int.toNat i6) z++List.drop ((Int.toNat i6)+(v7.length - Int.toNat i6)) v7)))))):M (List EV))=pure (l.filter fun x=>!p x):=by
 have hf:=xaa l p 0
 revert hf
 rw[hask]
 cases l.zipIdx.find? (fun y=>p y.1) with
 | none=>intro hf;rw[hf];simp[zB,zA]
 | some y=>
  rintro⟨h1,h2,h3,x,h4,h5⟩;simp only[Nat.sub_zero] at h2 h3 h4;have hne:decide ((y.2:Int)=-1)=false:=decide_eq_false (by omega);have hall:=xba h3;have hlen:(l.take y.2).length=y.2:=by rw[List.length_take];omega
  have htk:l.take (y.2+1)=l.take y.2++[x]:=by rw[List.take_add_one,h4];rfl
  have hft:(l.take (y.2+1)).filter (fun x=>!p x)=l.take y.2:=by rw[htk,List.filter_append,hall,List.filter_cons,if_neg (by simp[h5])];simp
  obtain⟨v',e1,e2,e3⟩:=delF (body:=body) p l hl hb1 hb2 (l.length - (y.2+1)) y.2 (y.2+1) l (by omega) rfl (by omega) (by rw[hft,hlen]) (by rw[hft]) rfl;have hle:=List.length_filter_le (fun x=>!p x) l;simp only[zB,zA,hne,cond_false,yH (show y.2 < 9223372036854775807 by omega),e1,Int.toNat_natCast];rw[zC (by omega),zC (by omega),zC (by simp;omega)];rw[List.append_assoc,List.take_append_of_le_length (by rw[List.length_take];omega),List.take_take,Nat.min_self,e3]
section
variable{n:Nat}{W c xc:List PT}{nl1:Bool}{m1:List (DT×EV)}{nl2:Bool}{m2:List (DT×EV)}{L:List EV}
def ofL(L:List EV)(cid:Int):List EV:=(yx L).filter fun x=>decide (x.cid=cid)
theorem make_ok(hR:Rep n W c xc nl1 m1 nl2 m2 L){e:EV}(oe:OkE e):OkE (jX W L e).1:=by
 have hz:OkE ⟨⟨0,0⟩,0,0,0,⟨#[]⟩,[]⟩:=⟨⟨by decide,by decide,by decide,by decide⟩,by decide,by decide,by decide,by decide,(fun d hd=>nomatch hd),by decide⟩
 unfold jX
 split
 ·exact hz
 ·split
  ·exact hz
  ·split
   ·exact hz
   ·rename_i h
    refine⟨oe.dot,oe.kind,oe.cid,oe.field,oe.text,fun d hd=>?_,by show(wk L e).length<=_;omega⟩;have hd':d∈wk L e:=hd;unfold wk at hd';obtain⟨x,hx,h2⟩:=yU.1 (D.ZX.1 hd');have hxL:=(yC.1 (List.mem_filter.1 hx).1).1;rcases h2 with rfl | h2
    ·exact(hR.good x hxL).2.dot
    ·exact(hR.good x hxL).2.kills d h2
end
open E (OkE yJ wn)
open F (uC zw yE vS)
def exA : EV:=⟨⟨1,1⟩,1,281474976710657,1,⟨#[97]⟩,[]⟩
def exB : EV:=⟨⟨1,2⟩,2,281474976710657,0,⟨#[]⟩,[]⟩
theorem okA : OkE exA:=⟨⟨by decide,by decide,by decide,by decide⟩,by decide,by decide,by decide,by decide,(fun d hd=>nomatch hd),by decide⟩
theorem okB : OkE exB:=⟨⟨by decide,by decide,by decide,by decide⟩,by decide,by decide,by decide,by decide,(fun d hd=>nomatch hd),by decide⟩
theorem putA : WB [] exA=[exA]:=by decide
theorem gA : yJ exA=true:=by decide
def wA : List PT:=[]++C.yF (yE [exA])
open E (OkE yJ wn)
open F (uC zw yE vS Ye zKa)
open E (OkE yJ wn)
open F (uC zw yE vS Ye zKa)
theorem z1a{l:List EV}(hs:wn l){i:Nat}{x:EV}(hx:l[i]?=some x):Ye l i x=false:=by
 unfold Ye
 by_cases h:0 < i
 ·have hl:=(List.getElem?_eq_some_iff.1 hx).1;obtain⟨y,hy⟩:∃ y,l[i - 1]?=some y:=⟨_,List.getElem?_eq_getElem (by omega)⟩
  have h3:=List.pairwise_iff_getElem.1 hs (i - 1) i (by omega) hl (by omega);rw[(List.getElem?_eq_some_iff.1 hy).2,(List.getElem?_eq_some_iff.1 hx).2] at h3;have:=V.Xg.2 h3;rw[hy];simp;omega
 ·simp[h]
section
variable{n:Nat}{W c xc:List PT}{nl1:Bool}{m1:List (DT×EV)}{nl2:Bool}{m2:List (DT×EV)}{L:List EV}
end
open E (OkE yJ wn)
open F (uC zw yE vS)
section
variable{n:Nat}{W c xc:List PT}{nl1:Bool}{m1:List (DT×EV)}{nl2:Bool}{m2:List (DT×EV)}{L:List EV}
def Vs(s:List PT×List EV)(e:EV):List PT×List EV:=if yJ e=true/\C.yb s.1 e.dot.dev e.dot.n=false then (s.1++C.yF (yE [e]),WB s.2 e) else s
theorem Rep.putS(hR:Rep n W c xc nl1 m1 nl2 m2 L)(hn:n<=100000000){e:EV}(oe:OkE e) :
  ∃ k c' xc' nl1' m1' nl2' m2',zj e c nl1 m1 nl2 m2=pure (k,c',nl1',m1',nl2',m2')/\VQ ⟨xc,L⟩ e=pure (⟨xc',(Vs (W,L) e).2⟩,k)/\Rep (n+600) (Vs (W,L) e).1 c' xc' nl1' m1' nl2' m2' (Vs (W,L) e).2/\(k≠0->xc'=xc/\(Vs (W,L) e).2=L):=by
 unfold Vs
 cases g:yJ e with
 | false=>
  rw[if_neg (by simp)];refine⟨1,c,xc,nl1,m1,nl2,m2,?_,?_,hR.mono (by omega),fun _=>⟨rfl,rfl⟩⟩
  ·unfold zj;rw[E.YZ oe,zB,zA,g];rfl
  ·unfold VQ;rw[E.UQ oe,zB,zA,g];rfl
 | true=>
  cases hc:C.yb W e.dot.dev e.dot.n with
  | true=>
   rw[if_neg (by simp)];refine⟨7,c,xc,nl1,m1,nl2,m2,?_,?_,hR.mono (by omega),fun _=>⟨rfl,rfl⟩⟩
   ·unfold zj;rw[E.YZ oe,zB,zA,g,Bool.not_true,cond_false,hR.has hn,zB,zA,hc];rfl
   ·unfold VQ;rw[E.UQ oe,zB,zA,g,Bool.not_true,cond_false,show(⟨xc,L⟩:RB).ctx=xc from rfl,hR.rhas,zB,zA,hc];rfl
  | false=>
   rw[if_pos (by simp)];obtain⟨c',xc',a,p,b,q,h1,h2,h3⟩:=hR.put hn oe g hc;exact⟨0,c',xc',a,p,b,q,h1,h2,h3,fun h=>absurd rfl h⟩
end
section
variable{n:Nat}{W c xc:List PT}{nl1:Bool}{m1:List (DT×EV)}{nl2:Bool}{m2:List (DT×EV)}{L:List EV}
end
open E (OkE yJ wn)
open F (uC zw yE vS ZY OkD)
theorem JX(x:EV){y:List PT}(hy:C.Ok y):xM x y=pure (zr y x):=by
 unfold xM;rw[C.Vo y x.dot hy.sm,zB,zA]
 rfl
theorem z2a(l:List EV){y:List PT}(hy:C.Ok y)(hl:l.length<=1000000000):zT y l=pure (l.filter fun x=>!zr y x):=by
 unfold zT;refine xca (zr y) l hl (zX l y) (zO y) ⟨⟨0,0⟩,0,0,0,⟨#[]⟩,[]⟩ ?_ (fun i j v x hx hj hij hv=>?_) (fun i v=>?_)
 ·unfold zX;have:=loopF (body:=zS l y) l (fun i=>(i:Int)) (fun _ x=>zr y x) (fun i _=>Ex.ret (i:Int)) (pure (Ex.brk ())) (fun i x hx hi=>by
   have hd:decide ((i:Int) < (l.length:Int))=true:=by simpa using hi
   unfold zS;simp only[hd,cond_true,zJ hx,zA,JX x hy,zB,yH (show i < 9223372036854775807 by omega)]
   cases zr y x <;> rfl) (by
   unfold zS;simp[zA])
  rw[show(0:Int)=((0:Nat):Int) from rfl,this]
  cases l.zipIdx.find? (fun z=>zr y z.1) <;> rfl
 ·have hd:decide ((j:Int) < (v.length:Int))=true:=by simpa using hj
  obtain⟨w,hw⟩:∃ w,v[i]?=some w:=⟨_,List.getElem?_eq_getElem (by omega)⟩
  unfold zO;simp only[hd,cond_true,zJ hx,zJ hw,zA,JX x hy,zB,yH (show j < 9223372036854775807 by omega),yH (show i < 9223372036854775807 by omega),Int.toNat_natCast]
  cases zr y x <;> rfl
 ·unfold zO;simp
def ZG(W:List PT)(L:List EV)(from_:List PT):DL:=⟨C.opC (·&&·) from_ W,C.zU W,L.filter fun x=>!zr from_ x⟩
section
variable{n:Nat}{W c xc:List PT}{nl1:Bool}{m1:List (DT×EV)}{nl2:Bool}{m2:List (DT×EV)}{L:List EV}
theorem meet_ext(y:List PT){a b:List PT}(h:∀ k m,C.yb a k m=C.yb b k m):C.opC (·&&·) y a=C.opC (·&&·) y b:=
 (C.xn rfl _ _).ext (C.xn rfl _ _) fun k m=>by rw[C.xx rfl,C.xx rfl,h]
theorem vWa(y:List PT){a b:List PT}(h:∀ k m,C.yb a k m=C.yb b k m):C.opC (fun x y=>x&&!y) y a=C.opC (fun x y=>x&&!y) y b:=
 (C.xn rfl _ _).ext (C.xn rfl _ _) fun k m=>by rw[C.xx rfl,C.xx rfl,h]
theorem Rep.Since(hR:Rep n W c xc nl1 m1 nl2 m2 L)(hn:n<=100000000){y:List PT}(hy:C.Ok y):zt y c nl1 m1 nl2 m2=pure (ZG W L y):=by
 have hwl:=hR.wl;have hwt:=hR.wt;have hll:=hR.ll;unfold zt;rw[hR.Ctx hn,zB,zA,C.Meet_eq _ _ hy.sm (ZZ (by omega) (by omega)).sm,zB,zA,hR.All hn,zB,zA,z2a L hy (by omega),zB,zA,meet_ext y (fun k m=>C.zu W k m)]
 rfl
end
theorem xda(d:DL)(hd:OkD d) :
  ∀ (q k n:Nat) (W c xc:List PT) (a:Bool) (p:List (DT×EV)) (b:Bool) (r:List (DT×EV)) (L:List EV),k+q=d.events.length->n+600*q<=100000000->Rep n W c xc a p b r L ->
   ∃ c' xc' a' p' b' r',loop (xU d) ((k:Int),c,b,r,a,p)=pure (c',b',r',a',p') /\
    Rep (n+600*q) ((d.events.drop k).foldl Vs (W,L)).1 c' xc' a' p' b' r' ((d.events.drop k).foldl Vs (W,L)).2:=by
 have hel:=hd.len;intro q
 induction q with
 | zero=>
  intro k n W c xc a p b r L hk hn hR;have hkl:k=d.events.length:=by omega
  subst hkl;rw[List.drop_length];refine⟨c,xc,a,p,b,r,yL ?_,hR⟩;unfold xU;simp
 | succ q ih=>
  intro k n W c xc a p b r L hk hn hR;have hlt:k < d.events.length:=by omega
  obtain⟨x,hx⟩:∃ x,d.events[k]?=some x:=⟨_,List.getElem?_eq_getElem hlt⟩
  have hdr:d.events.drop k=x::d.events.drop (k+1):=by
   rw[List.drop_eq_getElem_cons hlt]
   congr 1
   rw[List.getElem?_eq_getElem hlt] at hx;exact Option.some.inj hx
  obtain⟨cd,c1,xc1,a1,p1,b1,r1,e1,e2,R1,h0⟩:=hR.putS (by omega) (hd.evs x (List.mem_of_getElem? hx));have hdc:decide ((k:Int) < (d.events.length:Int))=true:=by simpa using hlt
  have s1:xU d ((k:Int),c,b,r,a,p)=pure (.next (((k+1:Nat):Int),c1,b1,r1,a1,p1)):=by
   unfold xU;simp only[hdc,cond_true,zJ hx,zA,e1,zB,yH (show k < 9223372036854775807 by omega)]
  obtain⟨c',xc',a',p',b',r',f1,R2⟩:=ih (k+1) (n+600) _ c1 xc1 a1 p1 b1 r1 _ (by omega) (by omega) R1;rw[yS s1,hdr,List.foldl_cons];exact⟨c',xc',a',p',b',r',f1,R2.mono (by omega)⟩
def zOa(d:DL)(W:List PT):Bool:=decide (C.opC (fun x y=>x&&!y) d.from_ W=[])
def uO(s:List PT×List EV)(d:DL):List PT×List EV:=if ZY d=true/\zOa d s.1=true then ((d.events.foldl Vs s).1++d.to_,(d.events.foldl Vs s).2) else s
def WC(W:List PT)(d:DL):Int:=if ZY d=true then (if zOa d W=true then 0 else 12) else 1
section
variable{n:Nat}{W c xc:List PT}{nl1:Bool}{m1:List (DT×EV)}{nl2:Bool}{m2:List (DT×EV)}{L:List EV}
theorem Rep.ApplyP(hR:Rep n W c xc nl1 m1 nl2 m2 L){d:DL}(hd:OkD d){j:Nat}(hj:d.to_.length<=j/\C.uB d.to_<=j)(hn:n+600*d.events.length+j<=50000000) :
  ∃ c' xc' a p b q,ze d c nl1 m1 nl2 m2=pure (WC W d,c',a,p,b,q) /\
   Rep (n+600*d.events.length+j) (uO (W,L) d).1 c' xc' a p b q (uO (W,L) d).2:=by
 have hwl:=hR.wl;have hwt:=hR.wt;have hw1:=C.Qy d.from_ (C.zU W) hd.from_.sm (ZZ (by omega) (by omega)).sm;rw[vWa d.from_ (fun k m=>C.zu W k m)] at hw1;unfold ze WC uO;rw[F.QD hd,zB,zA]
 cases g:ZY d with
 | false=>
  rw[if_neg (by simp),if_neg (by simp),Bool.not_false,cond_true];exact⟨c,xc,nl1,m1,nl2,m2,rfl,hR.mono (by omega)⟩
 | true=>
  rw[if_pos rfl,Bool.not_true,cond_false,hR.Ctx (by omega),zB,zA,hw1,zB,zA];have hwb:decide (C.opC (fun x y=>x&&!y) d.from_ W=[])=zOa d W:=rfl;rw[hwb]
  cases w:zOa d W with
  | false=>
   rw[if_neg (by simp),if_neg (by simp),Bool.not_false,cond_true];exact⟨c,xc,nl1,m1,nl2,m2,rfl,hR.mono (by omega)⟩
  | true=>
   obtain⟨c',xc',a',p',b',r',f1,R2⟩:=xda d hd d.events.length 0 n W c xc nl1 m1 nl2 m2 L (by omega) (by omega) hR;obtain⟨c3,x3,e1,e2,R3⟩:=R2.see (by omega) hd.to_ hj.1 hj.2 (by omega);rw[List.drop_zero] at R3;rw[if_pos rfl,if_pos (by simp),Bool.not_true,cond_false,show(0:Int)=((0:Nat):Int) from rfl,f1,zA];refine⟨c3,x3,a',p',b',r',?_,R3⟩;show(M.bind _ _:M _)=_;rw[e1,zB,zA]
end
open E (OkE yJ wn)
open F (uC zw yE vS ZY OkD)
section
variable{n:Nat}{W c xc:List PT}{nl1:Bool}{m1:List (DT×EV)}{nl2:Bool}{m2:List (DT×EV)}{L:List EV}
theorem Rep.okSince(hR:Rep n W c xc nl1 m1 nl2 m2 L)(hn:n<=1000000){y:List PT}(hy:y.length<=10000/\C.uB y<=10000):OkD (ZG W L y) where
 from_:=C.zta rfl ⟨by omega,by omega⟩ ⟨by have:=hR.wl;omega,by have:=hR.wt;omega⟩
 to_:=ZZ (by have:=hR.wl;omega) (by have:=hR.wt;omega)
 evs e he:=(hR.good e (List.mem_filter.1 he).1).2
 len:=by
  have:=hR.ll;have h:=List.length_filter_le (fun x=>!zr y x) L;show(L.filter fun x=>!zr y x).length<=_;omega
 kills e he:=by have:=hR.kl e (List.mem_filter.1 he).1;omega
end
def dA : DL:=ZG wA [exA] []
theorem vXa : Yr=pure true:=by
 obtain⟨c1,x1,a1,p1,b1,q1,hp1,_,R1⟩:=Rep.new.put (by omega) okA gA (by decide);rw[putA] at R1;have hs:=R1.Since (by omega) C.ok_nil;have od:=R1.okSince (by omega) (y:=[]) (by decide);have R1':Rep 600 wA c1 x1 a1 p1 b1 q1 [exA]:=R1.mono (by omega);obtain⟨c2,x2,a2,p2,b2,q2,e2,R2⟩:=Rep.new.ApplyP (d:=dA) od (j:=600) (by decide) (by decide);obtain⟨c3,x3,a3,p3,b3,q3,e3,R3⟩:=R2.ApplyP (d:=dA) od (j:=600) (by decide) (by decide);have k1:WC [] dA=0:=by decide
 have k2:WC (uO ([],[]) dA).1 dA=0:=by decide
 have hL:(uO ((uO ([],[]) dA).1,(uO ([],[]) dA).2) dA).2=[exA]:=by decide
 have hW:C.zU wA=C.zU (uO ((uO ([],[]) dA).1,(uO ([],[]) dA).2) dA).1:=by decide
 rw[k1] at e2;rw[k2] at e3;rw[hL] at R3;have hl:=R3.Live (by decide);have hsm:=R1'.Same (by omega) R3 (by decide);rw[decide_eq_true hW,decide_eq_true rfl] at hsm;unfold Yr we;rw[show(⟨(⟨1,1⟩:DT),1,281474976710657,1,(⟨#[97]⟩:ByteArray),([]:List DT)⟩:EV)=exA from rfl];simp only[zB,zA,hp1];rw[hs,zB,zA];show(M.bind (M.det (ze dA [] true [] true [])) _:M Bool)=_;rw[e2,zB,zA];show(M.bind (M.det (ze dA c2 a2 p2 b2 q2)) _:M Bool)=_;rw[e3,zB,zA];simp only[decide_true,cond_true,hl,hsm,zB,zA,show(yx [exA]).length=1 by decide,show((1:Nat):Int)=1 from rfl,Bool.and_self]
 rfl
open E (OkE yJ wn)
open F (uC zw yE vS ZY OkD)
section
variable{n:Nat}{W c xc:List PT}{nl1:Bool}{m1:List (DT×EV)}{nl2:Bool}{m2:List (DT×EV)}{L:List EV}
end
end Go.Ep.M.G
namespace Go.Ep.M.G
open Go
open E (OkE yJ wn)
open F (uC zw yE)
def hD(e:EV)(k n:Int):Bool:=C.yb (C.yF (yE [e])) k n
theorem Vr{e:EV}{k n:Int}:hD e k n=true↔∃ d,(d=e.dot\/d∈e.kills)/\V.yD d=true/\d.dev=k/\d.n=n:=by
 unfold hD;rw[C.qj]
 constructor
 ·rintro⟨d,hd,h⟩;obtain⟨x,hx,h1⟩:=yU.1 (D.ZX.1 hd);rw[List.mem_singleton.1 hx] at h1;exact⟨d,h1,h⟩
 ·rintro⟨d,h1,h⟩;exact⟨d,D.ZX.2 (yU.2 ⟨e,List.mem_singleton.2 rfl,h1⟩),h⟩
open E (OkE yJ wn)
open F (uC zw yE)
theorem xea{ε σ ρ τ:Type}{body:σ->M (Step σ ρ)}(l:List ε)(mk:Nat->τ->σ)(I:Nat->τ->Prop)(Q:ρ->Prop)
  (h1:∀ (i:Nat) (x:ε) (t:τ),l[i]?=some x->i < l.length->I i t->∃ t',body (mk i t)=pure (.next (mk (i+1) t'))/\I (i+1) t')
  (h2:∀ t,I l.length t->∃ r,body (mk l.length t)=pure (.done r)/\Q r) (t0:τ) (h0:I 0 t0):∃ r,loop body (mk 0 t0)=pure r/\Q r:=by
 have key:∀ k i t,i+k=l.length->I i t->∃ r,loop body (mk i t)=pure r/\Q r:=by
  intro k
  induction k with
  | zero=>
   intro i t hi hI;have:i=l.length:=by omega
   subst this;obtain⟨r,h3,h4⟩:=h2 t hI;exact⟨r,yL h3,h4⟩
  | succ k ih=>
   intro i t hi hI;have hlt:i < l.length:=by omega
   obtain⟨t',h3,h4⟩:=h1 i l[i] t (List.getElem?_eq_getElem hlt) hlt hI;rw[yS h3];exact ih (i+1) t' (by omega) h4
 exact key l.length 0 t0 (by omega) h0
end Go.Ep.M.G
namespace Go.Ep.M.T
open Go
open E (OkE yJ wn)
open F (uC zw yE vS)
open G (yx WB yC wj wk xd yI zr hD Vr yU jr ub vT)
structure yz where
 e:EV
 ks:List DT
 saw:Nat->Bool
def jZ(f g:yz):Bool:=decide (f.e.cid=g.e.cid)&&(decide (f.e.kind=2)||decide (f.e.field=g.e.field))
theorem Xn{f g:yz}:jZ f g=true↔f.e.cid=g.e.cid/\(f.e.kind=2\/f.e.field=g.e.field):=by simp[jZ]
def Out(Y:List yz)(j i:Nat):Prop:=∃ f g,Y[j]?=some f/\Y[i]?=some g/\f.saw i=true/\jZ f g=true
def Zy(Y:List yz)(s:Nat->Bool)(i:Nat):Prop:=∃ g,Y[i]?=some g/\s i=true/\g.e.kind=1/\∀ j,s j=true->¬ Out Y j i
def full(f:yz):EV:=⟨f.e.dot,f.e.kind,f.e.cid,f.e.field,f.e.text,f.ks⟩
structure Facts(Y:List yz):Prop where
 dots:∀ (i j:Nat) (f g:yz),Y[i]?=some f->Y[j]?=some g->f.e.dot=g.e.dot->i=j
 kind:∀ (i:Nat) (f:yz),Y[i]?=some f->f.e.kind=1\/f.e.kind=2
 bare:∀ (i:Nat) (f:yz),Y[i]?=some f->f.e.kills=[]
 lt:∀ (j:Nat) (f:yz) (i:Nat),Y[j]?=some f->f.saw i=true->i < j
 clo:∀ (j:Nat) (f:yz) (i:Nat) (g:yz) (k:Nat),Y[j]?=some f->f.saw i=true->Y[i]?=some g->g.saw k=true->f.saw k=true
 snd:∀ (j:Nat) (f:yz) (d:DT),Y[j]?=some f->d∈f.ks->∃ (i:Nat) (g:yz),Y[i]?=some g/\g.e.dot=d/\g.e.kind=1/\Out Y j i
theorem Facts.same{Y:List yz}(h:Facts Y){i j:Nat}{f g:yz}(hi:Y[i]?=some f)(hj:Y[j]?=some g)(e:f.e.dot=g.e.dot):i=j/\f=g:=by
 have:=h.dots i j f g hi hj e;subst this;rw[hi] at hj;exact⟨rfl,Option.some.inj hj⟩
def Dead(Y:List yz)(A:Nat->Prop)(d:DT):Prop:=∃ (i:Nat) (h:yz) (x:Nat),Y[i]?=some h/\h.e.dot=d/\A x/\Out Y x i
structure Bk(Y:List yz)(A:Nat->Prop)(s:Nat->Bool)(W:List PT)(L:List EV):Prop where
 low:∀ i,s i=true->i < Y.length
 clo:∀ (j:Nat) (f:yz) (i:Nat),s j=true->Y[j]?=some f->f.saw i=true->s i=true
 has:∀ k n,C.yb W k n=true↔∃ (i:Nat) (f:yz),Y[i]?=some f/\s i=true/\f.e.dot=⟨k,n⟩
 ev:∀ e∈L,∃ (i:Nat) (f:yz),Y[i]?=some f/\s i=true/\wj e=f.e/\(e.kills=f.ks\/(e.kills=[]/\A i))
 shown:∀ (i:Nat) (f:yz),Y[i]?=some f->Zy Y s i->∃ e∈L,e.dot=f.e.dot
 live:∀ e∈L,e.kind=1->∀ (i:Nat) (f:yz),Y[i]?=some f->e.dot=f.e.dot->Zy Y s i
 dead:∀ (i:Nat) (f:yz),Y[i]?=some f->s i=true->f.e.kind=1->¬ Zy Y s i->(∃ e∈L,f.e.dot∈e.kills)\/Dead Y A f.e.dot
def Tr(Y:List yz)(A:Nat->Prop):Prop:=∀ (k:Nat) (f:yz) (j:Nat) (g:yz) (d:DT),Y[k]?=some f->Y[j]?=some g->g.e.dot∈f.ks->d∈g.ks->d∈f.ks\/Dead Y A d
theorem ye{e:EV}{f:yz}(h:wj e=f.e):e.dot=f.e.dot:=by rw[<- h];rfl
theorem Zz{e:EV}{f:yz}(h:wj e=f.e):e.kind=f.e.kind:=by rw[<- h];rfl
theorem Dead.mono{Y:List yz}{A A':Nat->Prop}(hA:∀ i,A i->A' i){d:DT}(h:Dead Y A d):Dead Y A' d:=by
 obtain⟨i,h1,x,h2,h3,h4,h5⟩:=h;exact⟨i,h1,x,h2,h3,hA x h4,h5⟩
theorem Bk.mono{Y:List yz}{A A':Nat->Prop}(hA:∀ i,A i->A' i){s:Nat->Bool}{W:List PT}{L:List EV}(h:Bk Y A s W L):Bk Y A' s W L:=
 { h with
  ev:=fun e he=>by obtain⟨i,f,h1,h2,h3,h4⟩:=h.ev e he;exact⟨i,f,h1,h2,h3,h4.imp id fun⟨q,r⟩=>⟨q,hA i r⟩⟩
  dead:=fun i f h1 h2 h3 h4=>(h.dead i f h1 h2 h3 h4).imp id (Dead.mono hA) }
theorem Tr.mono{Y:List yz}{A A':Nat->Prop}(hA:∀ i,A i->A' i)(h:Tr Y A):Tr Y A':=fun k f j g d h1 h2 h3 h4=>(h k f j g d h1 h2 h3 h4).imp id (Dead.mono hA)
section
variable{Y:List yz}{A:Nat->Prop}{s:Nat->Bool}{W:List PT}{L:List EV}
theorem Bk.kill(hF:Facts Y)(h:Bk Y A s W L){e:EV}(he:e∈L){d:DT}(hd:d∈e.kills) :
  ∃ (j:Nat) (f:yz) (i:Nat) (g:yz),Y[j]?=some f/\s j=true/\wj e=f.e/\e.kills=f.ks/\Y[i]?=some g/\g.e.dot=d/\g.e.kind=1/\Out Y j i/\s i=true:=by
 obtain⟨j,f,h1,h2,h3,h4⟩:=h.ev e he;have hk:e.kills=f.ks:=by
  rcases h4 with h4 | ⟨h4,_⟩
  ·exact h4
  ·rw[h4] at hd;cases hd
 obtain⟨i,g,h5,h6,h7,h8⟩:=hF.snd j f d h1 (hk▸hd);refine⟨j,f,i,g,h1,h2,h3,hk,h5,h6,h7,h8,?_⟩;obtain⟨f',_,hf',_,h9,_⟩:=h8;rw[h1] at hf';cases hf';exact h.clo j f i h2 h1 h9
theorem Bk.unseen(hF:Facts Y)(h:Bk Y A s W L){i:Nat}{f:yz}(hi:Y[i]?=some f):C.yb W f.e.dot.dev f.e.dot.n=s i:=by
 rw[Bool.eq_iff_iff,h.has]
 constructor
 ·rintro⟨j,g,h1,h2,h3⟩;obtain⟨rfl,_⟩:=hF.same hi h1 (by rw[h3]);exact h2
 ·intro h1;exact⟨i,f,hi,h1,rfl⟩
theorem Bk.seen(h:Bk Y A s W L){e:EV}(he:e∈L):C.yb W e.dot.dev e.dot.n=true:=by
 obtain⟨i,f,h1,h2,h3,_⟩:=h.ev e he;exact(h.has _ _).2 ⟨i,f,h1,h2,by rw[<- ye h3]⟩
end
theorem zP{Y:List yz}{f:yz}{i:Nat}{g:yz}:(Y++[f])[i]?=some g↔Y[i]?=some g\/(i=Y.length/\g=f):=by
 rw[List.getElem?_append]
 by_cases h:i < Y.length
 ·rw[if_pos h];exact⟨.inl,fun h2=>h2.resolve_right fun h3=>by omega⟩
 ·rw[if_neg h];have h0:Y[i]?=none:=List.getElem?_eq_none (by omega);rw[h0]
  by_cases h2:i=Y.length
  ·subst h2;simp[eq_comm]
  ·have:([f]:List yz)[i - Y.length]?=none:=List.getElem?_eq_none (by simp;omega);rw[this];simp[h2]
theorem uM{Y:List yz}{i:Nat}{g:yz}(h:Y[i]?=some g):i < Y.length:=(List.getElem?_eq_some_iff.1 h).1
theorem VC{Y:List yz}{f:yz}{j i:Nat}(h:Out Y j i):Out (Y++[f]) j i:=by
 obtain⟨a,b,h1,h2,h3⟩:=h;exact⟨a,b,zP.2 (.inl h1),zP.2 (.inl h2),h3⟩
theorem vYa{Y:List yz}(hF:Facts Y){f:yz}{j i:Nat}(h:Out (Y++[f]) j i)(hj:j < Y.length):Out Y j i:=by
 obtain⟨a,b,h1,h2,h3,h4⟩:=h;have h1':=(zP.1 h1).resolve_right (by omega);have:=hF.lt j a i h1' h3;exact⟨a,b,h1',(zP.1 h2).resolve_right (by omega),h3,h4⟩
theorem jW{L:List EV}{e:EV}(hn:∀ x∈L,x.dot≠e.dot){x:EV}:x∈WB L e↔x=e\/(x∈L/\(x.kind≠1\/x.dot∉e.kills)):=by
 unfold WB;rw[ub (fun x hx=>hn x (List.mem_filter.1 hx).1),List.mem_filter];simp only[Bool.or_eq_true,Bool.not_eq_true',decide_eq_false_iff_not,<- Bool.not_eq_true (b:=uC _ _),vT]
theorem vo{L:List EV}{e:EV}(hk:e.kind=1\/e.kind=2){d:DT}:d∈wk L e↔∃ y∈L,y.kind=1/\y.cid=e.cid/\(e.kind=2\/y.field=e.field)/\(d=y.dot\/d∈y.kills):=by
 unfold wk;rw[show yE _=D.Ze (zw _) from rfl,D.ZX,yU]
 constructor
 ·rintro⟨y,hy,h⟩;obtain⟨h1,h2⟩:=List.mem_filter.1 hy;obtain⟨h3,h4⟩:=yC.1 h1;refine⟨y,h3,h4,?_⟩;rcases hk with hk | hk
  ·rw[if_pos hk] at h2;simp only[Bool.and_eq_true,decide_eq_true_eq] at h2;exact⟨h2.1,.inr h2.2,h⟩
  ·rw[if_neg (by omega)] at h2;exact⟨by simpa using h2,.inl hk,h⟩
 ·rintro⟨y,h3,h4,h5,h6,h⟩;refine⟨y,List.mem_filter.2 ⟨yC.2 ⟨h3,h4⟩,?_⟩,h⟩;rcases hk with hk | hk
  ·rw[if_pos hk];simp[h5,h6.resolve_left (by omega)]
  ·rw[if_neg (by omega)];simp[h5]
section
variable{Y:List yz}{A A':Nat->Prop}{s s2:Nat->Bool}{W W2:List PT}{L L2:List EV}{e:EV}
def XJ(L:List EV)(s:Nat->Bool)(e:EV):yz:=⟨e,wk L e,s⟩
theorem Xo(hF:Facts Y)(h:Bk Y A s W L)(hk:e.kind=1\/e.kind=2){d:DT}(hd:d∈wk L e) :
  ∃ (i:Nat) (g:yz),Y[i]?=some g/\g.e.dot=d/\g.e.kind=1/\s i=true/\jZ (XJ L s e) g=true:=by
 obtain⟨y,hy,h1,h2,h3,h4⟩:=(vo hk).1 hd;obtain⟨j,f,a1,a2,a3,a4⟩:=h.ev y hy;have hp:jZ (XJ L s e) f=true:=by
  rw[Xn,<- a3];exact⟨h2.symm,h3.imp id Eq.symm⟩
 rcases h4 with rfl | h4
 ·exact⟨j,f,a1,(ye a3).symm,by rw[<- Zz a3];exact h1,a2,hp⟩
 ·obtain⟨j',f',i,g,b1,b2,b3,b4,b5,b6,b7,b8,b9⟩:=h.kill hF hy h4;obtain⟨rfl,rfl⟩:=hF.same a1 b1 (by rw[<- a3,<- b3]);refine⟨i,g,b5,b6,b7,b9,?_⟩;obtain⟨f',g',c1,c2,c3,c4⟩:=b8;rw[a1] at c1;cases c1;rw[b5] at c2;cases c2;rw[Xn] at hp c4 ⊢;have hf1:f.e.kind=1:=by rw[<- Zz a3];exact h1
  exact⟨hp.1.trans c4.1,hp.2.imp id fun q=>q.trans (c4.2.resolve_left (by omega))⟩
theorem JY(hF:Facts Y)(h:Bk Y A s W L)(hk:e.kind=1\/e.kind=2)(hb:e.kills=[])(hnew:∀ (i:Nat) (f:yz),Y[i]?=some f->f.e.dot≠e.dot):Facts (Y++[XJ L s e]) where
 dots i j f g hi hj he:=by
  rcases zP.1 hi with hi | ⟨rfl,rfl⟩ <;> rcases zP.1 hj with hj | ⟨rfl,rfl⟩
  ·exact hF.dots i j f g hi hj he
  ·exact(hnew i f hi he).elim
  ·exact(hnew j g hj he.symm).elim
  ·rfl
 kind i f hi:=by
  rcases zP.1 hi with hi | ⟨rfl,rfl⟩
  ·exact hF.kind i f hi
  ·exact hk
 bare i f hi:=by
  rcases zP.1 hi with hi | ⟨rfl,rfl⟩
  ·exact hF.bare i f hi
  ·exact hb
 lt j f i hj hi:=by
  rcases zP.1 hj with hj | ⟨rfl,rfl⟩
  ·exact hF.lt j f i hj hi
  ·exact h.low i hi
 clo j f i g k hj hi hg hk:=by
  rcases zP.1 hj with hj | ⟨rfl,rfl⟩
  ·have:=hF.lt j f i hj hi;have:=uM hj;exact hF.clo j f i g k hj hi ((zP.1 hg).resolve_right (by omega)) hk
  ·have:=h.low i hi;exact h.clo i g k hi ((zP.1 hg).resolve_right (by omega)) hk
 snd j f d hj hd:=by
  rcases zP.1 hj with hj | ⟨rfl,rfl⟩
  ·obtain⟨i,g,h1,h2,h3,h4⟩:=hF.snd j f d hj hd;exact⟨i,g,zP.2 (.inl h1),h2,h3,VC h4⟩
  ·obtain⟨i,g,h1,h2,h3,h4,h5⟩:=Xo hF h hk hd;exact⟨i,g,zP.2 (.inl h1),h2,h3,_,g,hj,zP.2 (.inl h1),h4,h5⟩
theorem VD{f:yz}{d:DT}(hA:∀ i,A i->A' i)(h:Dead Y A d):Dead (Y++[f]) A' d:=by
 obtain⟨i,g,x,h1,h2,h3,h4⟩:=h;exact⟨i,g,x,zP.2 (.inl h1),h2,hA x h3,VC h4⟩
theorem tr_snoc(hF:Facts Y)(ht:Tr Y A)(h:Bk Y A s W L)(hA:∀ i,A i->A' i)(hk:e.kind=1\/e.kind=2)(hnew:∀ (i:Nat) (f:yz),Y[i]?=some f->f.e.dot≠e.dot):Tr (Y++[XJ L s e]) A':=by
 intro k f j g d h1 h2 h3 h4;have hj:Y[j]?=some g:=by
  rcases zP.1 h2 with h2 | ⟨rfl,rfl⟩
  ·exact h2
  ·exfalso;rcases zP.1 h1 with h1 | ⟨rfl,rfl⟩
   ·obtain⟨i,q,a1,a2,_⟩:=hF.snd k f _ h1 h3;exact hnew i q a1 a2
   ·obtain⟨i,q,a1,a2,_⟩:=Xo hF h hk h3;exact hnew i q a1 a2
 rcases zP.1 h1 with h1 | ⟨rfl,rfl⟩
 ·exact(ht k f j g d h1 hj h3 h4).imp id (VD hA)
 ·obtain⟨y,hy,a1,a2,a3,a4⟩:=(vo hk).1 h3;obtain⟨q,x,b1,b2,b3,b4⟩:=h.ev y hy;rcases a4 with a4 | a4
  ·obtain⟨rfl,rfl⟩:=hF.same hj b1 (by rw[a4,ye b3]);rcases b4 with b4 | ⟨_,b4⟩
   ·exact .inl ((vo hk).2 ⟨y,hy,a1,a2,a3,.inr (by rw[b4];exact h4)⟩)
   ·obtain⟨i,r,c1,c2,_,c4⟩:=hF.snd j g d hj h4;exact .inr ⟨i,r,j,zP.2 (.inl c1),c2,hA j b4,VC c4⟩
  ·have hyk:y.kills=x.ks:=b4.resolve_right fun⟨q,_⟩=>by rw[q] at a4;cases a4
   rcases ht q x j g d b1 hj (hyk▸a4) h4 with h5 | h5
   ·exact .inl ((vo hk).2 ⟨y,hy,a1,a2,a3,.inr (by rw[hyk];exact h5)⟩)
   ·exact .inr (VD hA h5)
theorem Vd(hF:Facts Y){f:yz}(hl:∀ i,s i=true->i < Y.length){i:Nat}:Zy (Y++[f]) s i↔Zy Y s i:=by
 constructor
 ·rintro⟨g,h1,h2,h3,h4⟩;have:=hl i h2;exact⟨g,(zP.1 h1).resolve_right (by omega),h2,h3,fun j hj ho=>h4 j hj (VC ho)⟩
 ·rintro⟨g,h1,h2,h3,h4⟩;exact⟨g,zP.2 (.inl h1),h2,h3,fun j hj ho=>h4 j hj (vYa hF ho (hl j hj))⟩
theorem bk_snoc(hF:Facts Y)(h:Bk Y A s W L)(hA:∀ i,A i->A' i)(f:yz)(hnew:∀ (i:Nat) (g:yz),Y[i]?=some g->g.e.dot≠f.e.dot):Bk (Y++[f]) A' s W L where
 low i hi:=by have:=h.low i hi;simp;omega
 clo j g i hj hg hi:=by
  have:=h.low j hj;exact h.clo j g i hj ((zP.1 hg).resolve_right (by omega)) hi
 has k n:=by
  rw[h.has]
  constructor
  ·rintro⟨i,g,h1,h2⟩;exact⟨i,g,zP.2 (.inl h1),h2⟩
  ·rintro⟨i,g,h1,h2,h3⟩;have:=h.low i h2;exact⟨i,g,(zP.1 h1).resolve_right (by omega),h2,h3⟩
 ev e he:=by
  obtain⟨i,g,h1,h2,h3,h4⟩:=h.ev e he;exact⟨i,g,zP.2 (.inl h1),h2,h3,h4.imp id fun⟨q,r⟩=>⟨q,hA i r⟩⟩
 shown i g hi hs:=by
  have hs2:=(Vd hF h.low).1 hs;obtain⟨g',h1,h2,_⟩:=id hs2;have:=h.low i h2;exact h.shown i g ((zP.1 hi).resolve_right (by omega)) hs2
 live e he hk i g hi hd:=by
  obtain⟨j,q,h1,h2,h3,_⟩:=h.ev e he;have hi':Y[i]?=some g\/(i=Y.length/\g=f):=zP.1 hi;rcases hi' with hi' | ⟨rfl,rfl⟩
  ·exact(Vd hF h.low).2 (h.live e he hk i g hi' hd)
  ·exact(hnew j q h1 ((ye h3).symm.trans hd)).elim
 dead i g hi hs hk hn:=by
  have:=h.low i hs;exact(h.dead i g ((zP.1 hi).resolve_right (by omega)) hs hk fun q=>hn ((Vd hF h.low).2 q)).imp id (VD hA)
theorem bk_make(hF:Facts Y)(h:Bk Y A s W L)(hA:∀ i,A i->A' i)(hk:e.kind=1\/e.kind=2)(hb:e.kills=[])(hg:V.yD e.dot=true)(hnew:∀ (i:Nat) (f:yz),Y[i]?=some f->f.e.dot≠e.dot)
  (halive:∀ x∈L,x.kind=1->∀ y∈L,x.dot∉y.kills) (hgood:∀ x∈L,yJ x=true) (hs2:∀ i,s2 i=(s i||decide (i=Y.length))) :
  Bk (Y++[XJ L s e]) A' s2 (W++C.yF (yE [full (XJ L s e)])) (WB L (full (XJ L s e))):=by
 have hF':=JY (Y:=Y) hF h hk hb hnew;have hne:∀ x∈L,x.dot≠(full (XJ L s e)).dot:=fun x hx he=>by
  obtain⟨i,f,h1,_,h3,_⟩:=h.ev x hx;exact hnew i f h1 ((ye h3).symm.trans he)
 have hmem:=fun x=>jW (L:=L) (e:=full (XJ L s e)) hne (x:=x)
 have hlast:(Y++[XJ L s e])[Y.length]?=some (XJ L s e):=zP.2 (.inr ⟨rfl,rfl⟩);have s2i:∀ {i},s2 i=true↔s i=true\/i=Y.length:=fun {i}=>by rw[hs2];simp
 have hgk:∀ d∈wk L e,V.yD d=true:=fun d hd=>by
  obtain⟨y,hy,_,_,_,h4⟩:=(vo hk).1 hd;rcases h4 with rfl | h4
  ·exact G.VB (hgood y hy)
  ·exact((G.Xk (hgood y hy)).2.2 d h4).1
 -- what the new one puts out
 have hout:∀ {i:Nat} {g:yz},Y[i]?=some g->(Out (Y++[XJ L s e]) Y.length i↔s i=true/\jZ (XJ L s e) g=true):=fun {i g} hi=>by
  constructor
  ·rintro⟨a,b,h1,h2,h3,h4⟩;rw[hlast] at h1;cases h1;have:=uM hi;have h2':=(zP.1 h2).resolve_right (by omega);rw[hi] at h2';cases h2';exact⟨h3,h4⟩
  ·rintro⟨h1,h2⟩;exact⟨_,g,hlast,zP.2 (.inl hi),h1,h2⟩
 have hshown:∀ {i:Nat} {g:yz},Y[i]?=some g->(Zy (Y++[XJ L s e]) s2 i↔Zy Y s i/\jZ (XJ L s e) g=false):=fun {i g} hi=>by
  have hlt:=uM hi
  constructor
  ·rintro⟨g',h1,h2,h3,h4⟩;have h1':=(zP.1 h1).resolve_right (by omega);rw[hi] at h1';cases h1';have hsi:=(s2i.1 h2).resolve_right (by omega);refine⟨⟨g,hi,hsi,h3,fun j hj ho=>h4 j (s2i.2 (.inl hj)) (VC ho)⟩,?_⟩
   cases hp:jZ (XJ L s e) g with
   | false=>rfl
   | true=>exact(h4 _ (s2i.2 (.inr rfl)) ((hout hi).2 ⟨hsi,hp⟩)).elim
  ·rintro⟨⟨g',h1,h2,h3,h4⟩,h5⟩;rw[hi] at h1;cases h1;refine⟨g,zP.2 (.inl hi),s2i.2 (.inl h2),h3,fun j hj ho=>?_⟩;rcases s2i.1 hj with hj | rfl
   ·exact h4 j hj (vYa hF ho (h.low j hj))
   ·rw[((hout hi).1 ho).2] at h5;cases h5
 have hlastShown:e.kind=1->Zy (Y++[XJ L s e]) s2 Y.length:=fun h1=>⟨_,hlast,s2i.2 (.inr rfl),h1,fun j hj ⟨a,b,g1,g2,g3,_⟩=>by
  have:=hF'.lt j a _ g1 g3;have:=uM g1;simp at this;omega⟩
 refine⟨fun i hi=>?_,fun j f i hj hf hi=>?_,fun k n=>?_,fun z hz=>?_,fun i f hi hs=>?_,fun z hz h1 i f hi hd=>?_,fun i f hi hsi h1 hn=>?_⟩
 ·rcases s2i.1 hi with hi | rfl
  ·have:=h.low i hi;simp;omega
  ·simp
 ·rcases s2i.1 hj with hj | rfl
  ·have:=h.low j hj;exact s2i.2 (.inl (h.clo j f i hj ((zP.1 hf).resolve_right (by omega)) hi))
  ·rw[hlast] at hf;cases hf;exact s2i.2 (.inl hi)
 ·rw[C.vl,Bool.or_eq_true,h.has,show C.yb (C.yF (yE [full (XJ L s e)])) k n=hD (full (XJ L s e)) k n from rfl,Vr]
  constructor
  ·rintro(⟨i,f,h1,h2,h3⟩ | ⟨d,h1,_,rfl,rfl⟩)
   ·exact⟨i,f,zP.2 (.inl h1),s2i.2 (.inl h2),h3⟩
   ·rcases h1 with rfl | h1
    ·exact⟨_,_,hlast,s2i.2 (.inr rfl),rfl⟩
    ·obtain⟨i,g,a1,a2,_,a4,_⟩:=Xo hF h hk h1;exact⟨i,g,zP.2 (.inl a1),s2i.2 (.inl a4),a2⟩
  ·rintro⟨i,f,h1,h2,h3⟩;rcases zP.1 h1 with h1 | ⟨rfl,rfl⟩
   ·have:=uM h1;exact .inl ⟨i,f,h1,(s2i.1 h2).resolve_right (by omega),h3⟩
   ·exact .inr ⟨e.dot,.inl rfl,hg,by rw[show e.dot=_ from h3],by rw[show e.dot=_ from h3]⟩
 ·rcases(hmem z).1 hz with rfl | ⟨hz,_⟩
  ·refine⟨_,_,hlast,s2i.2 (.inr rfl),?_,.inl rfl⟩;show wj (full (XJ L s e))=e;simp only[wj,full,XJ]
   cases e;simp at hb;subst hb;rfl
  ·obtain⟨i,f,h1,h2,h3,h4⟩:=h.ev z hz;exact⟨i,f,zP.2 (.inl h1),s2i.2 (.inl h2),h3,h4.imp id fun⟨q,r⟩=>⟨q,hA i r⟩⟩
 ·rcases zP.1 hi with hi | ⟨rfl,rfl⟩
  ·obtain⟨h1,h2⟩:=(hshown hi).1 hs;obtain⟨z,hz,hd⟩:=h.shown i f hi h1;refine⟨z,(hmem z).2 (.inr ⟨hz,?_⟩),hd⟩
   by_cases hzk:z.kind=1
   ·right
    intro hc;obtain⟨i',g,a1,a2,_,_,a5⟩:=Xo hF h hk (show z.dot∈wk L e from hc);obtain⟨rfl,rfl⟩:=hF.same a1 hi (a2.trans hd);rw[a5] at h2;cases h2
   ·exact .inl hzk
  ·exact⟨_,(hmem _).2 (.inl rfl),rfl⟩
 ·rcases(hmem z).1 hz with rfl | ⟨hz,h2⟩
  ·rcases zP.1 hi with hi | ⟨rfl,rfl⟩
   ·exact(hnew i f hi hd.symm).elim
   ·exact hlastShown h1
  ·rcases zP.1 hi with hi | ⟨rfl,rfl⟩
   ·refine(hshown hi).2 ⟨h.live z hz h1 i f hi hd,?_⟩
    cases hp:jZ (XJ L s e) f with
    | false=>rfl
    | true=>
     exfalso;refine h2.elim (fun q=>q h1) fun q=>q ((vo hk).2 ⟨z,hz,h1,?_⟩)
     obtain⟨j,g,a1,a2,a3,_⟩:=h.ev z hz;obtain⟨rfl,rfl⟩:=hF.same a1 hi ((ye a3).symm.trans hd);rw[Xn,<- a3] at hp;exact⟨hp.1.symm,hp.2.imp id Eq.symm,.inl rfl⟩
   ·exact(hne z hz hd).elim
 ·rcases zP.1 hi with hi | ⟨rfl,rfl⟩
  ·have hlt:=uM hi;have hsi':=(s2i.1 hsi).resolve_right (by omega);have keep:∀ z∈L,f.e.dot∈z.kills->(∃ e'∈WB L (full (XJ L s e)),f.e.dot∈e'.kills)\/Dead (Y++[XJ L s e]) A' f.e.dot:=fun z hz hzk=>by
    by_cases hq:z.kind≠1\/z.dot∉wk L e
    ·exact .inl ⟨z,(hmem z).2 (.inr ⟨hz,hq⟩),hzk⟩
    ·have hq1:z.kind=1:=Classical.byContradiction fun q=>hq (.inl q)
     have hq2:z.dot∈wk L e:=Classical.byContradiction fun q=>hq (.inr q)
     obtain⟨y,hy,a1,a2,a3,a4⟩:=(vo hk).1 hq2;rcases a4 with a4 | a4
     ·obtain⟨jz,fz,b1,_,b3,_⟩:=h.ev z hz;obtain⟨jy,fy,c1,_,c3,_⟩:=h.ev y hy;obtain⟨rfl,rfl⟩:=hF.same b1 c1 ((ye b3).symm.trans (a4.trans (ye c3)));refine .inl ⟨_,(hmem _).2 (.inl rfl),(vo hk).2 ⟨z,hz,hq1,?_,?_,.inr hzk⟩⟩
      ·have:wj z=wj y:=b3.trans c3.symm;simp only[wj,EV.mk.injEq] at this;rw[this.2.2.1];exact a2
      ·have:wj z=wj y:=b3.trans c3.symm;simp only[wj,EV.mk.injEq] at this;rw[this.2.2.2.1];exact a3
     ·exact(halive z hz hq1 y hy a4).elim
   by_cases hsh:Zy Y s i
   ·have hp:jZ (XJ L s e) f=true:=by
     cases hp:jZ (XJ L s e) f with
     | true=>rfl
     | false=>exact(hn ((hshown hi).2 ⟨hsh,hp⟩)).elim
    obtain⟨z,hz,hd⟩:=h.shown i f hi hsh;refine .inl ⟨_,(hmem _).2 (.inl rfl),(vo hk).2 ⟨z,hz,?_⟩⟩;obtain⟨j,g,a1,a2,a3,_⟩:=h.ev z hz;obtain⟨rfl,rfl⟩:=hF.same a1 hi ((ye a3).symm.trans hd);rw[Xn,<- a3] at hp;exact⟨by rw[Zz a3];exact h1,hp.1.symm,hp.2.imp id Eq.symm,.inl hd.symm⟩
   ·rcases h.dead i f hi hsi' h1 hsh with⟨z,hz,hzk⟩ | hdd
    ·exact keep z hz hzk
    ·exact .inr (VD hA hdd)
  ·exact(hn (hlastShown h1)).elim
end
open E (OkE yJ wn)
open F (uC zw yE vS)
open G (yx WB Vs yC wj wk xd yI zr hD Vr yU jr ub vT)
section
variable{Y:List yz}{A A':Nat->Prop}{s sv sw s2:Nat->Bool}{W Wv Ww W2:List PT}{L Lv Lw L2:List EV}{e:EV}
theorem bk_tell(hF:Facts Y)(ht:Tr Y A)(hv:Bk Y A sv Wv Lv)(hw:Bk Y A sw Ww Lw)(hA:∀ i,A i->A' i)(hAv:∀ i,A i->sv i=true){P:List EV}(hP:∀ x,x∈P↔x∈Lw/\C.yb Wv x.dot.dev x.dot.n=false)
  (hs2:∀ i,s2 i=(sv i||sw i)) (hL:∀ x,x∈L2↔x∈P\/(x∈Lv/\(x.kind≠1\/∀ y∈P,x.dot∉y.kills))) (hW:∀ k n,C.yb W2 k n=true↔C.yb Wv k n=true\/C.yb Ww k n=true\/∃ y∈P,hD y k n=true):Bk Y A' s2 W2 L2:=by
 have s2i:∀ {i},s2 i=true↔sv i=true\/sw i=true:=fun {i}=>by rw[hs2];simp
 have seenE:∀ {x:EV} {i:Nat} {f:yz},Y[i]?=some f->x.dot=f.e.dot->C.yb Wv x.dot.dev x.dot.n=sv i:=fun {x i f} hi hd=>by rw[hd];exact hv.unseen hF hi
 have outClo:∀ {t:Nat->Bool} {Wt:List PT} {Lt:List EV},Bk Y A t Wt Lt->∀ {j i:Nat},t j=true->Out Y j i->t i=true:=fun {t Wt Lt} hb {j i} hj ⟨a,b,h1,_,h3,_⟩=>hb.clo j a i hj h1 h3
 -- a fact of v's that is not shown there
 have X:∀ (i:Nat) (f:yz),Y[i]?=some f->sv i=true->f.e.kind=1->¬ Zy Y sv i->(∃ e∈L2,f.e.dot∈e.kills)\/Dead Y A' f.e.dot:=fun i f hi hs h1 hn=>by
  rcases hv.dead i f hi hs h1 hn with⟨z,hz,hzk⟩ | hd
  ·by_cases hq:z.kind≠1\/∀ y∈P,z.dot∉y.kills
   ·exact .inl ⟨z,(hL z).2 (.inr ⟨hz,hq⟩),hzk⟩
   ·have hq2:∃ y∈P,z.dot∈y.kills:=Classical.byContradiction fun q=>hq (.inr fun y hy hc=>q ⟨y,hy,hc⟩)
    obtain⟨y,hy,hyk⟩:=hq2;obtain⟨jy,fy,i',g',a1,_,_,a4,a5,a6,_,_,_⟩:=hw.kill hF ((hP y).1 hy).1 hyk;obtain⟨jz,fz,i2,g2,b1,_,b3,b4,b5,b6,_,_,_⟩:=hv.kill hF hz hzk;have hzd:fz.e.dot∈fy.ks:=by rw[<- ye b3,<- a4];exact hyk
    rcases ht jy fy jz fz f.e.dot a1 b1 hzd (b4▸hzk) with h5 | h5
    ·exact .inl ⟨y,(hL y).2 (.inl hy),by rw[a4];exact h5⟩
    ·exact .inr (h5.mono hA)
  ·exact .inr (hd.mono hA)
 have notShown:∀ {t:Nat->Bool} {j i:Nat},t j=true->Out Y j i->¬ Zy Y t i:=fun {t j i} hj ho ⟨_,_,_,_,h4⟩=>h4 j hj ho
 have YY:∀ (i:Nat) (f:yz),Y[i]?=some f->sw i=true->f.e.kind=1->¬ Zy Y sw i->(∃ e∈L2,f.e.dot∈e.kills)\/Dead Y A' f.e.dot:=fun i f hi hs h1 hn=>by
  rcases hw.dead i f hi hs h1 hn with⟨z,hz,hzk⟩ | hd
  ·obtain⟨jz,fz,i2,g2,b1,_,b3,b4,b5,b6,_,b8,_⟩:=hw.kill hF hz hzk;obtain⟨rfl,rfl⟩:=hF.same b5 hi b6
   cases hc:C.yb Wv z.dot.dev z.dot.n with
   | false=>exact .inl ⟨z,(hL z).2 (.inl ((hP z).2 ⟨hz,hc⟩)),hzk⟩
   | true=>
    have hsv:sv jz=true:=by rw[<- seenE b1 (ye b3)];exact hc
    exact X _ _ hi (outClo hv hsv b8) h1 (notShown hsv b8)
  ·exact .inr (hd.mono hA)
 refine⟨fun i hi=>?_,fun j f i hj hf hi=>?_,fun k n=>?_,fun z hz=>?_,fun i f hi hs=>?_,fun z hz h1 i f hi hd=>?_,fun i f hi hsi h1 hn=>?_⟩
 ·exact(s2i.1 hi).elim (hv.low i) (hw.low i)
 ·exact s2i.2 ((s2i.1 hj).imp (fun q=>hv.clo j f i q hf hi) (fun q=>hw.clo j f i q hf hi))
 ·rw[hW,hv.has,hw.has]
  constructor
  ·rintro(⟨i,f,h1,h2,h3⟩ | ⟨i,f,h1,h2,h3⟩ | ⟨y,hy,hd⟩)
   ·exact⟨i,f,h1,s2i.2 (.inl h2),h3⟩
   ·exact⟨i,f,h1,s2i.2 (.inr h2),h3⟩
   ·obtain⟨d,h1,_,rfl,rfl⟩:=Vr.1 hd;have hyL:=((hP y).1 hy).1;rcases h1 with rfl | h1
    ·obtain⟨i,f,a1,a2,a3,_⟩:=hw.ev y hyL;exact⟨i,f,a1,s2i.2 (.inr a2),(ye a3).symm⟩
    ·obtain⟨_,_,i,g,_,_,_,_,b5,b6,_,_,b9⟩:=hw.kill hF hyL h1;exact⟨i,g,b5,s2i.2 (.inr b9),b6⟩
  ·rintro⟨i,f,h1,h2,h3⟩;rcases s2i.1 h2 with h2 | h2
   ·exact .inl ⟨i,f,h1,h2,h3⟩
   ·exact .inr (.inl ⟨i,f,h1,h2,h3⟩)
 ·rcases(hL z).1 hz with hz | ⟨hz,_⟩
  ·obtain⟨i,f,h1,h2,h3,h4⟩:=hw.ev z ((hP z).1 hz).1;exact⟨i,f,h1,s2i.2 (.inr h2),h3,h4.imp id fun⟨q,r⟩=>⟨q,hA i r⟩⟩
  ·obtain⟨i,f,h1,h2,h3,h4⟩:=hv.ev z hz;exact⟨i,f,h1,s2i.2 (.inl h2),h3,h4.imp id fun⟨q,r⟩=>⟨q,hA i r⟩⟩
 ·obtain⟨g,h1,h2,h3,h4⟩:=hs;rw[hi] at h1;cases h1
  cases hsv:sv i with
  | true=>
   obtain⟨z,hz,hd⟩:=hv.shown i f hi ⟨f,hi,hsv,h3,fun j hj=>h4 j (s2i.2 (.inl hj))⟩;refine⟨z,(hL z).2 (.inr ⟨hz,.inr fun y hy hc=>?_⟩),hd⟩;obtain⟨jy,fy,i',g',a1,a2,_,_,a5,a6,_,a8,_⟩:=hw.kill hF ((hP y).1 hy).1 hc;obtain⟨rfl,rfl⟩:=hF.same a5 hi (a6.trans hd);exact h4 jy (s2i.2 (.inr a2)) a8
  | false=>
   have hsw:=(s2i.1 h2).resolve_left (by rw[hsv];simp);obtain⟨z,hz,hd⟩:=hw.shown i f hi ⟨f,hi,hsw,h3,fun j hj=>h4 j (s2i.2 (.inr hj))⟩;exact⟨z,(hL z).2 (.inl ((hP z).2 ⟨hz,by rw[seenE hi hd];exact hsv⟩)),hd⟩
 ·rcases(hL z).1 hz with hz | ⟨hz,h2⟩
  ·obtain⟨hzw,hzs⟩:=(hP z).1 hz;obtain⟨g,a1,a2,a3,a4⟩:=hw.live z hzw h1 i f hi hd;refine⟨g,a1,s2i.2 (.inr a2),a3,fun j hj ho=>?_⟩;rcases s2i.1 hj with hj | hj
   ·have:=outClo hv hj ho;rw[seenE hi hd,this] at hzs;cases hzs
   ·exact a4 j hj ho
  ·obtain⟨g,a1,a2,a3,a4⟩:=hv.live z hz h1 i f hi hd;rw[hi] at a1;cases a1;refine⟨f,hi,s2i.2 (.inl a2),a3,fun j hj ho=>?_⟩;rcases s2i.1 hj with hj | hj
   ·exact a4 j hj ho
   ·rcases hw.dead i f hi (outClo hw hj ho) a3 (notShown hj ho) with⟨y,hy,hyk⟩ | ⟨i',g,x,b1,b2,b3,b4⟩
    ·cases hc:C.yb Wv y.dot.dev y.dot.n with
     | false=>exact h2.elim (fun q=>q h1) fun q=>q y ((hP y).2 ⟨hy,hc⟩) (by rw[hd];exact hyk)
     | true=>
      obtain⟨jy,fy,i',g',c1,_,c3,_,c5,c6,_,c8,_⟩:=hw.kill hF hy hyk;obtain⟨rfl,rfl⟩:=hF.same c5 hi c6;exact a4 jy (by rw[<- seenE c1 (ye c3)];exact hc) c8
    ·obtain⟨rfl,rfl⟩:=hF.same b1 hi b2;exact a4 x (hAv x b3) b4
 ·rcases s2i.1 hsi with hsv | hsw
  ·by_cases hsh:Zy Y sv i
   ·have:∃ j,s2 j=true/\Out Y j i:=Classical.byContradiction fun q=>hn ⟨f,hi,hsi,h1,fun j hj ho=>q ⟨j,hj,ho⟩⟩
    obtain⟨j,hj,ho⟩:=this;rcases s2i.1 hj with hj | hj
    ·exact(notShown hj ho hsh).elim
    ·exact YY i f hi (outClo hw hj ho) h1 (notShown hj ho)
   ·exact X i f hi hsv h1 hsh
  ·by_cases hsh:Zy Y sw i
   ·have:∃ j,s2 j=true/\Out Y j i:=Classical.byContradiction fun q=>hn ⟨f,hi,hsi,h1,fun j hj ho=>q ⟨j,hj,ho⟩⟩
    obtain⟨j,hj,ho⟩:=this;rcases s2i.1 hj with hj | hj
    ·exact X i f hi (outClo hv hj ho) h1 (notShown hj ho)
    ·exact(notShown hj ho hsh).elim
   ·exact YY i f hi hsw h1 hsh
theorem bk_prune(hF:Facts Y)(h:Bk Y A s W L){y:List PT}(hy:∀ (i:Nat) (f:yz),Y[i]?=some f->(C.yb y f.e.dot.dev f.e.dot.n=true↔A i)):Bk Y A s W (xd y L):=by
 have mem_p:∀ z,z∈xd y L↔∃ x∈L,(x.kind=1\/zr y x=false)/\yI y x=z:=fun z=>by
  unfold xd;rw[List.mem_map]
  constructor
  ·rintro⟨x,hx,e⟩;rw[List.mem_filter] at hx;exact⟨x,hx.1,by simpa using hx.2,e⟩
  ·rintro⟨x,hx,hp,e⟩;exact⟨x,List.mem_filter.2 ⟨hx,by simpa using hp⟩,e⟩
 have hbare:∀ x,wj (yI y x)=wj x:=fun x=>by unfold yI;split <;> rfl
 have hseen:∀ {x:EV} {i:Nat} {f:yz},Y[i]?=some f->wj x=f.e->(zr y x=true↔A i):=fun {x i f} hi hb=>by
  rw[<- hy i f hi,<- ye hb];rfl
 refine { h with ev:=fun z hz=>?_,shown:=fun i f hi hs=>?_,live:=fun z hz h1 i f hi hd=>?_,dead:=fun i f hi hs h1 hn=>?_ }
 ·obtain⟨x,hx,_,rfl⟩:=(mem_p z).1 hz;obtain⟨i,f,a1,a2,a3,a4⟩:=h.ev x hx;refine⟨i,f,a1,a2,(hbare x).trans a3,?_⟩;unfold yI
  by_cases hc:C.yb y x.dot.dev x.dot.n=true
  ·rw[if_pos hc];exact .inr ⟨rfl,(hseen a1 a3).1 hc⟩
  ·rw[if_neg hc];exact a4
 ·obtain⟨z,hz,hd⟩:=h.shown i f hi hs;obtain⟨g,b1,_,b3,_⟩:=id hs;rw[hi] at b1;cases b1;obtain⟨j,q,a1,a2,a3,a4⟩:=h.ev z hz;obtain⟨rfl,rfl⟩:=hF.same a1 hi ((ye a3).symm.trans hd);exact⟨_,(mem_p _).2 ⟨z,hz,.inl (by rw[Zz a3];exact b3),rfl⟩,(G.ZF y z).trans hd⟩
 ·obtain⟨x,hx,_,rfl⟩:=(mem_p z).1 hz;exact h.live x hx (by rw[<- G.Zx y x];exact h1) i f hi (by rw[<- G.ZF y x];exact hd)
 ·rcases h.dead i f hi hs h1 hn with⟨z,hz,hzk⟩ | hd
  ·obtain⟨j,q,i2,g,a1,a2,a3,a4,a5,a6,a7,a8,a9⟩:=h.kill hF hz hzk
   by_cases hc:zr y z=true
   ·exact .inr ⟨i2,g,j,a5,a6,(hseen a1 a3).1 hc,a8⟩
   ·have hc':zr y z=false:=by simpa using hc
    have hst:yI y z=z:=by unfold yI;rw[if_neg];exact hc
    exact .inl ⟨z,(mem_p z).2 ⟨z,hz,.inr hc',hst⟩,hzk⟩
  ·exact .inr hd
end
theorem yta : ∀ (P:List EV) (W:List PT) (L:List EV),(∀ x∈L,C.yb W x.dot.dev x.dot.n=true)->(∀ x∈P,yJ x=true)->(∀ x∈P,C.yb W x.dot.dev x.dot.n=false) ->
  P.Pairwise (fun x y=>x.dot≠y.dot/\y.dot∉x.kills/\x.dot∉y.kills) ->
  (∀ x,x∈(P.foldl Vs (W,L)).2↔x∈P\/(x∈L/\(x.kind≠1\/∀ y∈P,x.dot∉y.kills)))/\(∀ k n,C.yb (P.foldl Vs (W,L)).1 k n=true↔C.yb W k n=true\/∃ y∈P,hD y k n=true)
 | [],W,L,_,_,_,_=>⟨fun x=>by simp,fun k n=>by simp⟩
 | e::P,W,L,hd,hg,hu,hp=>by
  obtain⟨hp1,hp2⟩:=List.pairwise_cons.1 hp;have h1:Vs (W,L) e=(W++C.yF (yE [e]),WB L e):=by
   unfold Vs;rw[if_pos ⟨hg e (by simp),hu e (by simp)⟩]
  have hne:∀ x∈L,x.dot≠e.dot:=fun x hx he=>by
   have:=hd x hx;rw[he,hu e (by simp)] at this;cases this
  have hW':∀ k n,C.yb (W++C.yF (yE [e])) k n=(C.yb W k n||hD e k n):=fun k n=>by rw[C.vl];rfl
  have hge:=hg e (by simp);obtain⟨i1,i2⟩:=yta P (W++C.yF (yE [e])) (WB L e) (fun x hx=>by
    rw[hW',Bool.or_eq_true];rcases(jW hne).1 hx with rfl | ⟨hx,_⟩
    ·exact .inr (Vr.2 ⟨x.dot,.inl rfl,G.VB hge,rfl,rfl⟩)
    ·exact .inl (hd x hx)) (fun x hx=>hg x (by simp[hx])) (fun x hx=>by
    rw[hW',hu x (by simp[hx]),Bool.false_or,<- Bool.not_eq_true,Vr];rintro⟨d,h2,_,h3,h4⟩;have hdx:d=x.dot:=by cases d;cases hq:x.dot;rw[hq] at h3 h4;simp at h3 h4;simp[h3,h4]
    subst hdx;have:=hp1 x hx;exact h2.elim (fun q=>this.1 q.symm) this.2.1) hp2
  rw[List.foldl_cons,h1];refine⟨fun x=>?_,fun k n=>?_⟩
  ·rw[i1,jW hne,List.mem_cons]
   constructor
   ·rintro(h | ⟨h | ⟨h,h2⟩,h3⟩)
    ·exact .inl (.inr h)
    ·exact .inl (.inl h)
    ·refine .inr ⟨h,?_⟩
     by_cases hk:x.kind=1
     ·right
      intro y hy;rcases List.mem_cons.1 hy with rfl | hy
      ·exact h2.resolve_left fun q=>q hk
      ·exact h3.resolve_left (fun q=>q hk) y hy
     ·exact .inl hk
   ·rintro((h | h) | ⟨h,h2⟩)
    ·subst h;exact .inr ⟨.inl rfl,.inr fun y hy=>(hp1 y hy).2.2⟩
    ·exact .inl h
    ·exact .inr ⟨.inr ⟨h,h2.imp id fun q=>q e (by simp)⟩,h2.imp id fun q y hy=>q y (by simp[hy])⟩
  ·rw[i2,hW',Bool.or_eq_true]
   constructor
   ·rintro((h | h) | ⟨y,hy,h⟩)
    ·exact .inl h
    ·exact .inr ⟨e,by simp,h⟩
    ·exact .inr ⟨y,by simp[hy],h⟩
   ·rintro(h | ⟨y,hy,h⟩)
    ·exact .inl (.inl h)
    ·rcases List.mem_cons.1 hy with rfl | hy
     ·exact .inl (.inr h)
     ·exact .inr ⟨y,hy,h⟩
open E (OkE yJ wn)
open F (uC zw yE vS ZY bad1 Ye zKa)
open G (yx WB Vs yC wj wk jX xd yI zr hD Vr yU jr ub vT ZG uO WC zOa)
theorem uw{α:Type}[DecidableEq α]:∀ {l m:List α},l.Nodup->(∀ x∈l,x∈m)->l.length<=m.length
 | [],_,_,_=>Nat.zero_le _
 | x::r,m,hn,h=>by
  obtain⟨h1,h2⟩:=List.nodup_cons.1 hn;have hx:=h x (by simp);have:=uw (l:=r) (m:=m.erase x) h2 fun y hy=>(List.mem_erase_of_ne (fun e=>h1 (by subst e;exact hy))).2 (h y (by simp[hy]))
  rw[List.length_erase_of_mem hx] at this;have:=List.length_pos_of_mem hx;rw[List.length_cons];omega
theorem xfa{l:List DT}(h:D.Srt l):l.Nodup:=by
 refine List.Pairwise.imp ?_ h;intro a b hab e;rw[e,D.WA] at hab;cases hab
structure Okb(W:List PT)(L:List EV):Prop where
 srt:wn L
 good:∀ e∈L,yJ e=true
 dots:∀ d∈zw L,C.yb W d.dev d.n=true
 alive:∀ e∈L,e.kind=1->vS L e.dot=false
theorem Okb.aliveM{W:List PT}{L:List EV}(h:Okb W L){x:EV}(hx:x∈L)(h1:x.kind=1){y:EV}(hy:y∈L):x.dot∉y.kills:=fun hc=>by
 have:=h.alive x hx h1;rw[<- Bool.not_eq_true,G.Xl] at this;exact this ⟨y,hy,hc⟩
section
variable{Y:List yz}{A A':Nat->Prop}{s sv sw s2:Nat->Bool}{W Wv Ww W2:List PT}{L Lv Lw L2:List EV}{e:EV}
theorem ja(h:Bk Y A s W L)(ho:Okb W L):L.length<=Y.length:=by
 have h1:(L.map (·.dot)).Nodup:=G.Zw ho.srt;have:=uw (m:=Y.map (·.e.dot)) h1 fun d hd=>by
  obtain⟨x,hx,rfl⟩:=List.mem_map.1 hd;obtain⟨i,f,a1,_,a3,_⟩:=h.ev x hx;exact List.mem_map.2 ⟨f,List.mem_of_getElem? a1,(ye a3).symm⟩
 simpa using this
theorem yua(hF:Facts Y)(h:Bk Y A s W L)(hk:e.kind=1\/e.kind=2):(wk L e).length<=Y.length:=by
 have h1:(wk L e).Nodup:=xfa (D.UO _);have:=uw (m:=Y.map (·.e.dot)) h1 fun d hd=>by
  obtain⟨i,g,a1,a2,_⟩:=Xo hF h hk hd;exact List.mem_map.2 ⟨g,List.mem_of_getElem? a1,a2⟩
 simpa using this
theorem vZa(hF:Facts Y)(h:Bk Y A s W L)(ho:Okb W L)(hk:e.kind=1\/e.kind=2)(hg:yJ e=true)(hl:Y.length<=200)(hnew:∀ (i:Nat) (f:yz),Y[i]?=some f->f.e.dot≠e.dot):yJ (full (XJ L s e))=true:=by
 have h1:=yua (e:=e) hF h hk;have h2:D.Yb (wk L e)=true:=D.qz.2 (D.UO _);have h3:((wk L e).all fun d=>V.yD d&&!decide (d=e.dot))=true:=List.all_eq_true.2 fun d hd=>by
  rw[Bool.and_eq_true];refine⟨?_,?_⟩
  ·obtain⟨y,hy,_,_,_,h4⟩:=(vo hk).1 hd;rcases h4 with rfl | h4
   ·exact G.VB (ho.good y hy)
   ·exact((G.Xk (ho.good y hy)).2.2 d h4).1
  ·obtain⟨i,g,a1,a2,_⟩:=Xo hF h hk hd;have:=hnew i g a1;rw[a2] at this;simp[this]
 unfold yJ at hg ⊢;rw[Bool.and_eq_true,Bool.and_eq_true,Bool.and_eq_true] at hg ⊢;refine⟨hg.1,hg.2.1,?_⟩;show(decide ((wk L e).length<=256)&&(D.Yb (wk L e)&&(wk L e).all fun d=>V.yD d&&!decide (d=e.dot)))=true;rw[h2,h3,Bool.and_true,Bool.and_true,decide_eq_true_eq];omega
theorem vaa(hF:Facts Y)(h:Bk Y A s W L)(hk:e.kind=1\/e.kind=2)(hb:e.kills=[])(hg:yJ e=true)(hl:Y.length<=200)(hnew:∀ (i:Nat) (f:yz),Y[i]?=some f->f.e.dot≠e.dot) :
  C.yb W e.dot.dev e.dot.n=false/\jX W L e=(full (XJ L s e),0):=by
 have h1:=yua (e:=e) hF h hk;have h2:C.yb W e.dot.dev e.dot.n=false:=by
  rw[<- Bool.not_eq_true,h.has];rintro⟨i,f,a1,_,a3⟩;exact hnew i f a1 a3
 have h3:wj e=e:=by cases e;simp at hb;subst hb;rfl
 refine⟨h2,?_⟩;unfold jX;rw[h3,hg,h2,if_neg (by simp),if_neg (by simp),if_neg (by omega)]
 rfl
theorem xga(hF:Facts Y)(hw:Bk Y A sw Ww Lw)(ho:Okb Ww Lw)(hl:Y.length<=4000)(y:List PT):ZY (ZG Ww Lw y)=true:=by
 have hlen:=ja hw ho;have hf:=List.length_filter_le (fun x=>!zr y x) Lw;unfold ZY;rw[Bool.and_eq_true,Bool.and_eq_true,Bool.and_eq_true,Bool.and_eq_true,Bool.and_eq_true];refine⟨?_,?_,?_,?_,?_,?_⟩
 ·exact(C.XE _).2 (C.xn rfl _ _)
 ·exact(C.XE _).2 (C.yo _)
 ·rw[decide_eq_true_eq];refine C.JV fun k n h=>?_
  show C.yb (C.zU Ww) k n=true;rw[C.zu];have:C.yb (C.opC (·&&·) y Ww) k n=true:=h;rw[C.xx rfl,Bool.and_eq_true] at this;exact this.2
 ·rw[decide_eq_true_eq];show(Lw.filter fun x=>!zr y x).length<=4096;omega
 ·refine List.all_eq_true.2 fun z hz=>?_
  have hx:(Lw.filter fun x=>!zr y x)[z.2]?=some z.1:=List.mem_zipIdx_iff_getElem?.1 hz;have hm:=List.mem_of_getElem? hx;obtain⟨hm1,hm2⟩:=List.mem_filter.1 hm;unfold bad1;rw[ho.good _ hm1,show Ye (ZG Ww Lw y).events z.2 z.1=false from G.z1a (G.zN ho.srt _) hx];have h1:C.yb (ZG Ww Lw y).from_ z.1.dot.dev z.1.dot.n=false:=by
   show C.yb (C.opC (·&&·) y Ww) _ _=false;rw[C.xx rfl];have:zr y z.1=false:=by simpa using hm2
   have h5:C.yb y z.1.dot.dev z.1.dot.n=false:=this;rw[h5,Bool.false_and]
  rw[h1]
  by_cases hk:z.1.kind=1
  ·have:vS (ZG Ww Lw y).events z.1.dot=false:=by
    rw[<- Bool.not_eq_true,G.Xl];rintro⟨q,hq,hc⟩;exact ho.aliveM hm1 hk (List.mem_filter.1 hq).1 hc
   rw[this];simp
  ·simp[hk]
 ·rw[decide_eq_true_eq];unfold zKa;rw[List.filter_eq_nil_iff.2 fun d hd=>?_]
  ·rfl
  ·have:d∈zw (Lw.filter fun x=>!zr y x):=D.ZX.1 hd;obtain⟨q,hq,h4⟩:=yU.1 this;show ¬ (!C.yb (C.zU Ww) d.dev d.n)=true;rw[C.zu,ho.dots d (yU.2 ⟨q,(List.mem_filter.1 hq).1,h4⟩)];simp
theorem xha(Wv Ww:List PT)(Lw:List EV):zOa (ZG Ww Lw (C.zU Wv)) Wv=true:=by
 unfold zOa;rw[decide_eq_true_eq];refine C.JV fun k n h=>?_
 have:C.yb (C.opC (·&&·) (C.zU Wv) Ww) k n=true:=h;rw[C.xx rfl,Bool.and_eq_true,C.zu] at this;exact this.1
theorem xia(hF:Facts Y)(hw:Bk Y A sw Ww Lw)(ho:Okb Ww Lw)(hl:Y.length<=4000):WC Wv (ZG Ww Lw (C.zU Wv))=0 /\
  uO (Wv,Lv) (ZG Ww Lw (C.zU Wv))=(((Lw.filter fun x=>!zr (C.zU Wv) x).foldl Vs (Wv,Lv)).1++C.zU Ww,((Lw.filter fun x=>!zr (C.zU Wv) x).foldl Vs (Wv,Lv)).2):=by
 have h1:=xga hF hw ho hl (C.zU Wv);have h2:=xha Wv Ww Lw;unfold WC uO;rw[if_pos h1,if_pos h2,if_pos ⟨h1,h2⟩];exact⟨rfl,rfl⟩
theorem tell_mem(hF:Facts Y)(hv:Bk Y A sv Wv Lv)(hw:Bk Y A sw Ww Lw)(ho:Okb Ww Lw) :
  (∀ x,x∈((Lw.filter fun x=>!zr (C.zU Wv) x).foldl Vs (Wv,Lv)).2↔x∈(Lw.filter fun x=>!zr (C.zU Wv) x)\/(x∈Lv/\(x.kind≠1\/∀ y∈(Lw.filter fun x=>!zr (C.zU Wv) x),x.dot∉y.kills))) /\
  (∀ k n,C.yb (((Lw.filter fun x=>!zr (C.zU Wv) x).foldl Vs (Wv,Lv)).1++C.zU Ww) k n=true↔C.yb Wv k n=true\/C.yb Ww k n=true\/∃ y∈(Lw.filter fun x=>!zr (C.zU Wv) x),hD y k n=true):=by
 have hP:∀ x∈(Lw.filter fun x=>!zr (C.zU Wv) x),x∈Lw/\C.yb Wv x.dot.dev x.dot.n=false:=fun x hx=>by
  obtain⟨h1,h2⟩:=List.mem_filter.1 hx;refine⟨h1,?_⟩;have:C.yb (C.zU Wv) x.dot.dev x.dot.n=false:=by simpa[zr] using h2
  rwa [C.zu] at this
 have hnk:∀ x∈Lw,∀ y∈Lw,x.dot∉y.kills:=fun x hx y hy hc=>by
  obtain⟨_,_,i,g,_,_,_,_,a5,a6,a7,_,_⟩:=hw.kill hF hy hc;obtain⟨j,f,b1,_,b3,_⟩:=hw.ev x hx;obtain⟨rfl,rfl⟩:=hF.same a5 b1 (a6.trans (ye b3));exact ho.aliveM hx (by rw[Zz b3];exact a7) hy hc
 have hsrt:wn (Lw.filter fun x=>!zr (C.zU Wv) x):=G.zN ho.srt _;obtain⟨i1,i2⟩:=yta (Lw.filter fun x=>!zr (C.zU Wv) x) Wv Lv (fun x hx=>hv.seen hx) (fun x hx=>ho.good x (hP x hx).1) (fun x hx=>(hP x hx).2) (List.Pairwise.imp_of_mem (fun {a b} ha hb h=>by
  refine⟨fun e=>?_,hnk b (hP b hb).1 a (hP a ha).1,hnk a (hP a ha).1 b (hP b hb).1⟩;rw[e,D.WA] at h;cases h) hsrt)
 refine⟨i1,fun k n=>?_⟩;rw[C.vl,Bool.or_eq_true,i2,C.zu]
 constructor
 ·rintro((h | h) | h)
  ·exact .inl h
  ·exact .inr (.inr h)
  ·exact .inr (.inl h)
 ·rintro(h | h | h)
  ·exact .inl (.inl h)
  ·exact .inr h
  ·exact .inl (.inr h)
theorem US(hF:Facts Y)(h:Bk Y A s W L){i:Nat}{f:yz}(hi:Y[i]?=some f):(∃ x∈yx L,x.dot=f.e.dot)↔Zy Y s i:=by
 constructor
 ·rintro⟨x,hx,hd⟩;obtain⟨h1,h2⟩:=yC.1 hx;exact h.live x h1 h2 i f hi hd
 ·intro hs;obtain⟨z,hz,hd⟩:=h.shown i f hi hs;obtain⟨g,b1,_,b3,_⟩:=hs;rw[hi] at b1;cases b1;obtain⟨j,q,a1,_,a3,_⟩:=h.ev z hz;obtain⟨rfl,rfl⟩:=hF.same a1 hi ((ye a3).symm.trans hd);exact⟨z,yC.2 ⟨hz,by rw[Zz a3];exact b3⟩,hd⟩
theorem Xm(hF:Facts Y)(h:Bk Y A s W L)(ho:Okb W L){p:Nat->Bool}{n:Nat}(hn:Y.length<=n)(hp:∀ i,p i=true↔Zy Y s i):(yx L).length=((List.range n).filter p).length:=by
 have h1:((yx L).map (·.dot)).Nodup:=G.Zw (G.zN ho.srt _)
 let dt:Nat->DT:=fun i=>(Y[i]?.map fun f=>f.e.dot).getD ⟨0,0⟩
 have hdt:∀ {i:Nat} {f:yz},Y[i]?=some f->dt i=f.e.dot:=fun {i f} hi=>by simp[dt,hi]
 have h2:(((List.range n).filter p).map dt).Nodup:=by
  refine List.pairwise_map.2 (List.Pairwise.imp_of_mem (fun {a b} ha hb hab e=>?_) (List.nodup_range.filter p));obtain⟨f,hf,_⟩:=(hp a).1 (List.mem_filter.1 ha).2;obtain⟨g,hg,_⟩:=(hp b).1 (List.mem_filter.1 hb).2;rw[hdt hf,hdt hg] at e;exact hab (hF.same hf hg e).1
 have e1:=uw h1 (m:=((List.range n).filter p).map dt) fun d hd=>by
  obtain⟨x,hx,rfl⟩:=List.mem_map.1 hd;obtain⟨i,f,a1,_,a3,_⟩:=h.ev x (yC.1 hx).1;have hs:=(US hF h a1).1 ⟨x,hx,ye a3⟩;have:=uM a1;exact List.mem_map.2 ⟨i,List.mem_filter.2 ⟨List.mem_range.2 (by omega),(hp i).2 hs⟩,by rw[hdt a1];exact(ye a3).symm⟩
 have e2:=uw h2 (m:=(yx L).map (·.dot)) fun d hd=>by
  obtain⟨i,hi,rfl⟩:=List.mem_map.1 hd;have hs:=(hp i).1 (List.mem_filter.1 hi).2;obtain⟨f,hf,_⟩:=id hs;obtain⟨x,hx,hxd⟩:=(US hF h hf).2 hs;exact List.mem_map.2 ⟨x,hx,by rw[hdt hf];exact hxd⟩
 rw[List.length_map,List.length_map] at e1 e2;omega
end
def All(S:Nat->Nat->Bool)(i:Nat):Prop:=∀ k,k < 3->S k i=true
def upd{α:Type}(g:Nat->α)(w:Nat)(v:α):Nat->α:=fun k=>if k=w then v else g k
theorem zF{α:Type}(g:Nat->α)(w:Nat)(v:α):upd g w v w=v:=if_pos rfl
theorem yA{α:Type}(g:Nat->α){w k:Nat}(v:α)(h:k≠w):upd g w v k=g k:=if_neg h
structure St(Y:List yz)(S:Nat->Nat->Bool)(W:Nat->List PT)(L:Nat->List EV):Prop where
 facts:Facts Y
 tr:Tr Y (All S)
 bk:∀ k,k < 3->Bk Y (All S) (S k) (W k) (L k)
theorem St.nil : St [] (fun _ _=>false) (fun _=>[]) (fun _=>[]) where
 facts:=⟨fun _ _ _ _ h=>by simp at h,fun _ _ h=>by simp at h,fun _ _ h=>by simp at h,fun _ _ _ h=>by simp at h,fun _ _ _ _ _ h=>by simp at h,fun _ _ _ h=>by simp at h⟩
 tr _ _ _ _ _ h:=by simp at h
 bk _ _:=⟨fun _ h=>(by cases h),fun _ _ _ h=>(by cases h),fun k n=>by simp[C.hasC_nil],fun _ h=>(by cases h),fun _ _ h=>by simp at h,fun _ h=>(by cases h),fun _ _ h=>by simp at h⟩
section
variable{Y:List yz}{S:Nat->Nat->Bool}{W:Nat->List PT}{L:Nat->List EV}{e:EV}{w v:Nat}
theorem Xp{s2:Nat->Bool}(h:∀ i,S v i=true->s2 i=true):∀ i,All S i->All (upd S v s2) i:=fun i ha k hk=>by
 by_cases e:k=v
 ·subst e;rw[zF];exact h i (ha k hk)
 ·rw[yA _ _ e];exact ha k hk
theorem St.make(h:St Y S W L)(hw:w < 3)(ho:Okb (W w) (L w))(hk:e.kind=1\/e.kind=2)(hb:e.kills=[])(hg:V.yD e.dot=true)(hnew:∀ (i:Nat) (f:yz),Y[i]?=some f->f.e.dot≠e.dot) :
  St (Y++[XJ (L w) (S w) e]) (upd S w fun i=>S w i||decide (i=Y.length)) (upd W w (W w++C.yF (yE [full (XJ (L w) (S w) e)]))) (upd L w (WB (L w) (full (XJ (L w) (S w) e)))) where
 facts:=JY h.facts (h.bk w hw) hk hb hnew
 tr:=tr_snoc h.facts h.tr (h.bk w hw) (Xp fun i hi=>by rw[hi];rfl) hk hnew
 bk k hk3:=by
  by_cases e1:k=w
  ·subst e1;rw[zF,zF,zF];exact bk_make h.facts (h.bk k hk3) (Xp fun i hi=>by rw[hi];rfl) hk hb hg hnew (fun x hx h1 y hy=>ho.aliveM hx h1 hy) ho.good fun _=>rfl
  ·rw[yA _ _ e1,yA _ _ e1,yA _ _ e1];exact bk_snoc h.facts (h.bk k hk3) (Xp fun i hi=>by rw[hi];rfl) _ hnew
theorem St.tell(h:St Y S W L)(hw:w < 3)(hv:v < 3)(ho:Okb (W w) (L w)) :
  St Y (upd S v fun i=>S v i||S w i) (upd W v ((((L w).filter fun x=>!zr (C.zU (W v)) x).foldl Vs (W v,L v)).1++C.zU (W w))) (upd L v (((L w).filter fun x=>!zr (C.zU (W v)) x).foldl Vs (W v,L v)).2) where
 facts:=h.facts
 tr:=h.tr.mono (Xp fun i hi=>by rw[hi];rfl)
 bk k hk3:=by
  by_cases e1:k=v
  ·subst e1;rw[zF,zF,zF];obtain⟨t1,t2⟩:=tell_mem h.facts (h.bk k hk3) (h.bk w hw) ho;refine bk_tell h.facts h.tr (h.bk k hk3) (h.bk w hw) (Xp fun i hi=>by rw[hi];rfl) (fun i hi=>hi k hk3) (fun x=>?_) (fun _=>rfl) t1 t2;rw[List.mem_filter];simp only[zr,C.zu,Bool.not_eq_true']
  ·rw[yA _ _ e1,yA _ _ e1,yA _ _ e1];exact(h.bk k hk3).mono (Xp fun i hi=>by rw[hi];rfl)
theorem St.prune(h:St Y S W L)(hw:w < 3){y:List PT}(hy:∀ k n,C.yb y k n=(C.yb (W 0) k n&&(C.yb (W 1) k n&&C.yb (W 2) k n))):St Y S W (upd L w (xd y (L w))) where
 facts:=h.facts
 tr:=h.tr
 bk k hk3:=by
  by_cases e1:k=w
  ·subst e1;rw[zF];refine bk_prune h.facts (h.bk k hk3) fun i f hi=>?_
   rw[hy,(h.bk 0 (by omega)).unseen h.facts hi,(h.bk 1 (by omega)).unseen h.facts hi,(h.bk 2 (by omega)).unseen h.facts hi,Bool.and_eq_true,Bool.and_eq_true]
   constructor
   ·rintro⟨h0,h1,h2⟩ q hq;rcases q with _ | _ | _ | q
    ·exact h0
    ·exact h1
    ·exact h2
    ·omega
   ·intro ha;exact⟨ha 0 (by omega),ha 1 (by omega),ha 2 (by omega)⟩
  ·rw[yA _ _ e1];exact h.bk k hk3
end
open E (OkE yJ wn)
open F (uC zw yE vS ZY bad1 Ye zKa)
open G (yx vY WB Vs yC vU wj wk jX xd yI zr hD Vr yU jr ub vT ZG uO WC zOa)
section
variable{Y:List yz}{A A':Nat->Prop}{s sv sw s2:Nat->Bool}{W Wv Ww W2:List PT}{L Lv Lw L2:List EV}{e:EV}
end
end Go.Ep.M.T

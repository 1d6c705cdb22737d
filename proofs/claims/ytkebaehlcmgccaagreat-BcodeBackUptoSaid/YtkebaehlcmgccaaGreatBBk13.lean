/- Side texts. -/
import Derived.ProofKit
import Derived.Deep.Slices
import Derived.Test.YtkebaehlcmgccaaGreatProg
import Derived.KernelRfl
import Derived.Test.YtkebaehlcmgccaaGreatBBk2
import Derived.Test.YtkebaehlcmgccaaGreatBBk12
set_option linter.unusedVariables false
set_option linter.unusedSimpArgs false
namespace Go.Ep.M.G
open Go
open E (OkE yG vC)
open F (ua zy yN)

theorem ZC : ∀ {l l':List EV},vC l -> vC l' -> (∀ d,d ∈ l ↔ d ∈ l') -> l = l'
 | [],[],_,_,_=>rfl
 | [],y :: r,_,_,h=>by have:=(h y).2 (by simp);simp at this
 | x :: r,[],_,_,h=>by have:=(h x).1 (by simp);simp at this
 | x :: r,y :: t,h1,h2,h=>by
  have hx:=(h x).1 (by simp);have hy:=(h y).2 (by simp);have e:x = y:=by
   rcases List.mem_cons.1 hx with e | hx
   ·exact e
   ·rcases List.mem_cons.1 hy with e | hy
    ·exact e.symm
    ·have a1:=(List.pairwise_cons.1 h2).1 x hx;have a2:=(List.pairwise_cons.1 h1).1 y hy;rw [D.XT a1] at a2;cases a2
  subst e
  congr 1
  refine ZC (List.pairwise_cons.1 h1).2 (List.pairwise_cons.1 h2).2 fun d=>?_
  have h3:=h d;simp only [List.mem_cons] at h3
  constructor
  ·intro hd;rcases h3.1 (.inr hd) with e | h4
   ·have:=(List.pairwise_cons.1 h1).1 d hd;rw [e,D.Wy] at this;cases this
   ·exact h4
  ·intro hd;rcases h3.2 (.inr hd) with e | h4
   ·have:=(List.pairwise_cons.1 h2).1 d hd;rw [e,D.Wy] at this;cases this
   ·exact h4
theorem UW {l:List EV} (h:vC l):(l.map (·.dot)).Nodup:=by
 unfold List.Nodup;rw [List.pairwise_map];exact h.imp fun {a b} h e=>by rw [e,D.Wy] at h;cases h
theorem srtE_one {l:List EV} (h:vC l) {a b:EV} (ha:a ∈ l) (hb:b ∈ l) (e:a.dot = b.dot):a = b:=by
 induction l with
 | nil=>cases ha
 | cons x r ih=>
  obtain ⟨h1,h2⟩:=List.pairwise_cons.1 h;rcases List.mem_cons.1 ha with ea | ea <;> rcases List.mem_cons.1 hb with eb | eb
  ·rw [ea,eb]
  ·have:=h1 b eb;rw [<- ea,e,D.Wy] at this;cases this
  ·have:=h1 a ea;rw [<- eb,e,D.Wy] at this;cases this
  ·exact ih h2 ea eb
theorem zO {l:List EV} (h:vC l) (p:EV -> Bool):vC (l.filter p):=h.sublist List.filter_sublist
theorem Z0a {s:List EV} (hn:(s.map (·.dot)).Nodup) (h:s.Pairwise fun x y=>Xn y x = false):vC s:=by
 unfold List.Nodup at hn;rw [List.pairwise_map] at hn;refine (hn.and h).imp fun {a b} ⟨h1,h2⟩=>?_
 cases h3:zP a.dot b.dot with
 | true=>rfl
 | false=>exact absurd (D.QN h3 h2) h1
theorem Z1a {l:List EV} {Q:List EV -> Prop} (h:∀ s,s.Perm l -> (s.Pairwise fun x y=>Xn y x = false) -> Q s):(srt Xn l).wp Q:=by
 refine ⟨⟨l.mergeSort (fun x y=>!zP y.dot x.dot),List.mergeSort_perm _ _,?_⟩,fun s ⟨h1,h2⟩=>h s h1 h2⟩;refine (List.pairwise_mergeSort (fun a b c h1 h2=>?_) (fun a b=>?_) l).imp fun {x y} h=>by show zP y.dot x.dot = false;simpa using h
 ·simp only [Bool.not_eq_true'] at h1 h2 ⊢
  cases h3:zP c.dot a.dot with
  | false=>rfl
  | true=>
   rw [D.jI] at h3;have h4:¬ (zP b.dot a.dot = true):=by simp [h1]
   have h5:¬ (zP c.dot b.dot = true):=by simp [h2]
   rw [D.jI] at h4 h5;omega
 ·cases h1:zP b.dot a.dot with
  | false=>rfl
  | true=>rw [D.XT h1];rfl

def ent (e:EV):DT × EV:=(e.dot,e)
theorem ent_inj {a b:EV} (h:ent a = ent b):a = b:=(Prod.mk.inj h).2
theorem Z2a {l:List EV} {k:DT × EV}:k ∈ l.map ent ↔ k.2 ∈ l /\ k.1 = k.2.dot:=by
 rw [List.mem_map]
 constructor
 ·rintro ⟨e,h,rfl⟩;exact ⟨h,rfl⟩
 ·rintro ⟨h1,h2⟩;exact ⟨k.2,h1,by unfold ent;rw [<- h2]⟩
def Holds (m:List (DT × EV)) (l:List EV):Prop:=m.Perm (l.map ent)
theorem Holds.keys {m:List (DT × EV)} {l:List EV} (h:Holds m l) (hs:vC l):(m.map (·.1)).Nodup:=by
 have h1:=h.map (·.1);rw [List.map_map] at h1;exact h1.nodup_iff.2 (UW hs)
theorem Holds.mem {m:List (DT × EV)} {l:List EV} (h:Holds m l) {k:DT × EV}:k ∈ m ↔ k.2 ∈ l /\ k.1 = k.2.dot:=by rw [h.mem_iff,Z2a]
theorem Holds.len {m:List (DT × EV)} {l:List EV} (h:Holds m l):m.length = l.length:=by rw [h.length_eq,List.length_map]
theorem Z3a {l:List EV} (h:vC l):(l.map ent).Nodup:=by
 unfold List.Nodup;rw [List.pairwise_map];exact h.imp fun {a b} h e=>by rw [ent_inj e,D.Wy] at h;cases h
theorem z3a {m:List (DT × EV)} {l:List EV} (hn:(m.map (·.1)).Nodup) (hs:vC l) (h:∀ k,k ∈ m ↔ k.2 ∈ l /\ k.1 = k.2.dot):Holds m l:=by
 have hm:m.Nodup:=by
  unfold List.Nodup at hn ⊢;rw [List.pairwise_map] at hn;exact hn.imp fun {a b} h e=>h (by rw [e])
 exact (List.perm_ext_iff_of_nodup hm (Z3a hs)).2 fun k=>by rw [h,Z2a]
theorem z0a (e:EV) (h:e.kills.length <= 1000000000000):yk e = pure e:=by
 unfold yk;rw [D.zqa e.kills h,zB,zA]
theorem qM {body:List Nat × List EV -> M (Step (List Nat × List EV) (List EV))} (m:List (DT × EV)) (hb:body = fun ⟨seen,out⟩=>yW (∀ i ∈ seen,i < m.length)<|M.bind (nxt m.length seen) fun o=>match o with
  | none=>pure (.done out)
  | some j=>M.bind (idx m (Int.ofNat j)) fun kv=>M.bind (det (yk kv.2)) fun v=>yW ((out.length + List.length [v]) * 80 <= 140737488355328)<|pure (.next (seen ++ [j],out ++ [v])))
  (hl:m.length <= 500000000000) (hk:∀ k ∈ m,k.2.kills.length <= 1000000000000) (t0:List EV) (h0:t0.length <= 500000000000) {Q:List EV -> Prop} (hQ:∀ l:List (DT × EV),l.Perm m -> Q (t0 ++ l.map (·.2))):(loop body ([],t0)).wp Q:=by
 refine M.loopM (body:=body) m (fun L (t:List EV)=>(L,t)) (fun t e=>(yk e.2).det.bind fun v=>yW ((t.length + 1) * 80 <= 140737488355328) (pure (t ++ [v]))) (fun t=>pure t)
  (fun l t=>t = t0 ++ l.map (·.2)) Q (fun L t hL=>?_) (fun l t y ht hlen hy=>?_) (fun l t hp ht=>?_) t0 (by simp)
 ·subst hb;show yW _ ((nxt _ _).bind _) = yW _ ((nxt _ _).bind _);refine congrArg (fun k=>yW _ ((nxt _ _).bind k)) (funext fun o=>?_)
  cases o with
  | none=>rfl
  | some i=>rfl
 ·rw [z0a y.2 (hk y hy),zB,zA];subst ht;exact ⟨_,zD (by simp;omega) _,by simp⟩
 ·subst ht;exact hQ l hp
theorem vLa {nl:Bool} {m:List (DT × EV)} {l:List EV} (hm:Holds m l) (hs:vC l) (hl:l.length <= 500000000000) (hk:∀ e ∈ l,e.kills.length <= 1000000000000):YB nl m = pure l:=by
 unfold YB;refine ZJ (qM (body:=Xy m) m rfl (by rw [hm.len];exact hl) (fun k h=>hk _ (hm.mem.1 h).1) [] (by simp) fun q hq=>?_);show (yW _ _).wp _;have hp:(q.map (·.2)).Perm l:=by
  have:=(hq.trans hm).map (·.2);rw [List.map_map] at this;simpa [Function.comp_def,ent] using this
 rw [List.nil_append,zD (by rw [hp.length_eq];omega)];refine Z1a fun s h1 h2=>?_
 show s = l;have h3:=h1.trans hp;exact ZC (Z0a ((h3.map (·.dot)).nodup_iff.2 (UW hs)) h2) hs fun d=>h3.mem_iff
theorem list2_eq {nl1 nl2:Bool} {m1 m2:List (DT × EV)} {l l1 l2:List EV} (h1:Holds m1 l1) (h2:Holds m2 l2) (hp:(l1 ++ l2).Perm l) (hs:vC l) (hl:l.length <= 200000000000) (hk:∀ e ∈ l,e.kills.length <= 1000000000000):Zu nl1 m1 nl2 m2 = pure l:=by
 have hll:=hp.length_eq;rw [List.length_append] at hll;have hk1:∀ k ∈ m1,k.2.kills.length <= 1000000000000:=fun k h=>hk _ (hp.mem_iff.1 (List.mem_append_left _ (h1.mem.1 h).1))
 have hk2:∀ k ∈ m2,k.2.kills.length <= 1000000000000:=fun k h=>hk _ (hp.mem_iff.1 (List.mem_append_right _ (h2.mem.1 h).1))
 unfold Zu;refine ZJ (qM (body:=Xo m1) m1 rfl (by rw [h1.len];omega) hk1 [] (by simp) fun q hq=>?_);have hq1:(q.map (·.2)).Perm l1:=by
  have:=(hq.trans h1).map (·.2);rw [List.map_map] at this;simpa [Function.comp_def,ent] using this
 refine qM (body:=Xp m2) m2 rfl (by rw [h2.len];omega) hk2 _ (by rw [List.nil_append,hq1.length_eq];omega) fun q2 hq2=>?_
 have hq3:(q2.map (·.2)).Perm l2:=by
  have:=(hq2.trans h2).map (·.2);rw [List.map_map] at this;simpa [Function.comp_def,ent] using this
 show (yW _ _).wp _;rw [List.nil_append];have hpp:(q.map (·.2) ++ q2.map (·.2)).Perm l:=(hq1.append hq3).trans hp;rw [zD (by rw [hpp.length_eq];omega)];refine Z1a fun s h3 h4=>?_
 show s = l;have h5:=h3.trans hpp;exact ZC (Z0a ((h5.map (·.dot)).nodup_iff.2 (UW hs)) h4) hs fun d=>h5.mem_iff

open E (OkE yG vC)
open F (ua zy yN vQ)

section
variable {κ ν:Type} [DecidableEq κ]
theorem del_sub (m:List (κ × ν)) (x:κ):(AL.del m x).Sublist m:=by
 induction m with
 | nil=>exact List.Sublist.slnil
 | cons k r ih=>
  obtain ⟨k,v⟩:=k;unfold AL.del
  split
  ·exact List.sublist_cons_self _ _
  ·exact ih.cons_cons _
theorem mem_del {m:List (κ × ν)} (hn:(m.map (·.1)).Nodup) (x:κ) (k:κ × ν):k ∈ AL.del m x ↔ k ∈ m /\ k.1 ≠ x:=by
 induction m with
 | nil=>simp [AL.del]
 | cons y r ih=>
  obtain ⟨q,v⟩:=y;rw [List.map_cons,List.nodup_cons] at hn;unfold AL.del
  split
  ·rename_i e
   subst e;rw [List.mem_cons]
   constructor
   ·intro h;exact ⟨.inr h,fun e=>hn.1 (e ▸ List.mem_map.2 ⟨k,h,rfl⟩)⟩
   ·rintro ⟨h | h,h2⟩
    ·subst h;exact absurd rfl h2
    ·exact h
  ·rename_i e
   rw [List.mem_cons,List.mem_cons,ih hn.2]
   constructor
   ·rintro (h | ⟨h,h2⟩)
    ·subst h;exact ⟨.inl rfl,e⟩
    ·exact ⟨.inr h,h2⟩
   ·rintro ⟨h | h,h2⟩
    ·exact .inl h
    ·exact .inr ⟨h,h2⟩
theorem Z4a {m:List (κ × ν)} (hn:(m.map (·.1)).Nodup) (x:κ) (v:ν) (k:κ × ν):k ∈ AL.set m x v ↔ (k ∈ m /\ k.1 ≠ x) \/ k = (x,v):=by
 induction m with
 | nil=>simp [AL.set]
 | cons y r ih=>
  obtain ⟨q,u⟩:=y;rw [List.map_cons,List.nodup_cons] at hn;unfold AL.set
  split
  ·rename_i e
   subst e;rw [List.mem_cons,List.mem_cons]
   constructor
   ·rintro (h | h)
    ·exact .inr h
    ·exact .inl ⟨.inr h,fun e=>hn.1 (e ▸ List.mem_map.2 ⟨k,h,rfl⟩)⟩
   ·rintro (⟨h | h,h2⟩ | h)
    ·subst h;exact absurd rfl h2
    ·exact .inr h
    ·exact .inl h
  ·rename_i e
   rw [List.mem_cons,List.mem_cons,ih hn.2]
   constructor
   ·rintro (h | ⟨h,h2⟩ | h)
    ·subst h;exact .inl ⟨.inl rfl,e⟩
    ·exact .inl ⟨.inr h,h2⟩
    ·exact .inr h
   ·rintro (⟨h | h,h2⟩ | h)
    ·exact .inl h
    ·exact .inr (.inl ⟨h,h2⟩)
    ·exact .inr (.inr h)
end
theorem Holds.del {m:List (DT × EV)} {l:List EV} (h:Holds m l) (hs:vC l) (d:DT):Holds (AL.del m d) (l.filter fun e=>!decide (e.dot = d)):=
 z3a ((h.keys hs).sublist ((del_sub m d).map _)) (zO hs _) fun k=>by
  rw [mem_del (h.keys hs),h.mem,List.mem_filter]
  constructor
  ·rintro ⟨⟨h1,h2⟩,h3⟩;exact ⟨⟨h1,by rw [h2] at h3;simp [h3]⟩,h2⟩
  ·rintro ⟨⟨h1,h3⟩,h2⟩;exact ⟨⟨h1,h2⟩,by rw [h2];simpa using h3⟩
theorem Wo {l:List DT} {d:DT}:ua l d = true ↔ d ∈ l:=by
 unfold ua;rw [List.any_eq_true]
 constructor
 ·rintro ⟨x,h1,h2⟩;rw [<- of_decide_eq_true h2];exact h1
 ·intro h;exact ⟨d,h,by simp⟩
theorem Z5a (x:DT) (r:List DT) (d:DT):ua (x :: r) d = (decide (x = d) || ua r d):=rfl
theorem Holds.dels : ∀ (ks:List DT) {m:List (DT × EV)} {l:List EV},Holds m l -> vC l -> Holds (ks.foldl AL.del m) (l.filter fun e=>!ua ks e.dot)
 | [],m,l,h,_=>by
  have:(l.filter fun e=>!ua [] e.dot) = l:=List.filter_eq_self.2 fun _ _=>rfl
  rw [this];exact h
 | d :: r,m,l,h,hs=>by
  have h1:=Holds.dels r (h.del hs d) (zO hs _);rw [List.filter_filter] at h1;rw [List.foldl_cons];have:(fun e:EV=>!ua (d :: r) e.dot) = fun e=>(!ua r e.dot) && !decide (e.dot = d):=funext fun e=>by
   rw [Z5a,Bool.not_or,Bool.and_comm]
   congr 2
   exact decide_eq_decide.2 ⟨Eq.symm,Eq.symm⟩
  rw [this];exact h1
def z4a (l:List EV) (e:EV):List EV:=(l.filter fun x=>zP x.dot e.dot) ++ [e] ++ (l.filter fun x=>zP e.dot x.dot)
theorem jz {l:List EV} (hs:vC l) (e:EV):vC (z4a l e):=by
 unfold z4a vC;rw [List.pairwise_append,List.pairwise_append];refine ⟨⟨zO hs _,by simp,fun a ha b hb=>?_⟩,zO hs _,fun a ha b hb=>?_⟩
 ·rw [List.mem_singleton.1 hb];exact (List.mem_filter.1 ha).2
 ·have h2:=(List.mem_filter.1 hb).2;rcases List.mem_append.1 ha with h | h
  ·exact D.XS (List.mem_filter.1 h).2 h2
  ·rw [List.mem_singleton.1 h];exact h2
theorem JA {l:List EV} {e:EV} (hn:∀ x ∈ l,x.dot ≠ e.dot) {x:EV}:x ∈ z4a l e ↔ x = e \/ x ∈ l:=by
 unfold z4a;rw [List.mem_append,List.mem_append,List.mem_filter,List.mem_filter,List.mem_singleton]
 constructor
 ·rintro ((⟨h,_⟩ | h) | ⟨h,_⟩)
  ·exact .inr h
  ·exact .inl h
  ·exact .inr h
 ·rintro (h | h)
  ·exact .inl (.inr h)
  ·cases h1:zP x.dot e.dot with
   | true=>exact .inl (.inl ⟨h,rfl⟩)
   | false=>
    cases h2:zP e.dot x.dot with
    | true=>exact .inr ⟨h,rfl⟩
    | false=>exact absurd (D.QN h1 h2) (hn x h)
theorem vMa (l:List EV) (e:EV) (hs:vC l):(z4a l e).length <= l.length + 1:=by
 unfold z4a;have h:∀ q:List EV,(q.filter fun x=>zP x.dot e.dot).length + (q.filter fun x=>zP e.dot x.dot).length <= q.length:=by
  intro q
  induction q with
  | nil=>simp
  | cons x r ih=>
   rw [List.filter_cons,List.filter_cons]
   cases h1:zP x.dot e.dot with
   | true=>rw [D.XT h1];simp;omega
   | false=>simp only [Bool.false_eq_true,if_false];split <;> simp <;> omega
 have:=h l;simp;omega
theorem Holds.add {m:List (DT × EV)} {l:List EV} (h:Holds m l) (hs:vC l) {e:EV} (hn:∀ x ∈ l,x.dot ≠ e.dot):Holds (AL.set m e.dot e) (z4a l e):=
 z3a (AL.nodup_set (h.keys hs) _ _) (jz hs e) fun k=>by
  rw [Z4a (h.keys hs),h.mem,JA hn]
  constructor
  ·rintro (⟨⟨h1,h2⟩,h3⟩ | h1)
   ·exact ⟨.inr h1,h2⟩
   ·rw [h1];exact ⟨.inl rfl,rfl⟩
  ·rintro ⟨h1 | h1,h2⟩
   ·refine .inr ?_;obtain ⟨k1,k2⟩:=k;simp only at h1 h2;rw [h2,h1]
   ·exact .inl ⟨⟨h1,h2⟩,by rw [h2];exact hn _ h1⟩

theorem v9a {ρ:Type} {body:Int × List EV -> M (Step (Int × List EV) ρ)} (l:List EV) (p:EV -> Bool) (g:List EV -> M ρ)
  (h1:∀ (i:Nat) (x:EV) (t:List EV),l[i]? = some x -> i < l.length -> t.length <= i -> body ((i:Int),t) = pure (.next (((i + 1:Nat):Int),if p x then t ++ [x] else t)))
  (h2:∀ t,body ((l.length:Int),t) = (g t).bind fun r=>pure (.done r)):loop body (0,[]) = g (l.filter p):=by
 have h:=uu (body:=body) l (fun i (t:List EV)=>((i:Int),t)) (fun t x=>if p x then t ++ [x] else t) g (fun i t=>t.length <= i)
  (fun i x t hx hi hI=>⟨h1 i x t hx hi hI,by split <;> (try rw [List.length_append,List.length_singleton]) <;> omega⟩) (fun t _=>h2 t) [] (Nat.le_refl _)
 have hf:∀ (q t:List EV),q.foldl (fun t x=>if p x then t ++ [x] else t) t = t ++ q.filter p:=by
  intro q
  induction q with
  | nil=>intro t;simp
  | cons x r ih=>intro t;rw [List.foldl_cons,ih,List.filter_cons];split <;> simp
 rw [hf,List.nil_append] at h;exact h
theorem rPutI_eq (l:List EV) (e:EV) (hs:vC l) (hn:∀ x ∈ l,x.dot ≠ e.dot) (hl:l.length <= 1000000000):Qo l e = pure (z4a l e):=by
 unfold Qo;have h:=uu (body:=YS l e) l (fun i (t:Bool × List EV)=>(t.1,(i:Int),t.2)) (fun t x=>((t.1 || !zP x.dot e.dot),(if (!zP x.dot e.dot && !t.1) = true then t.2 ++ [e] else t.2) ++ [x])) (fun t=>pure (Ex.brk (t.1,t.2)))
  (fun i t=>t.2.length <= i + 1 /\ (t.1 = false -> t.2.length <= i)) (fun i x t hx hi hI=>by
   obtain ⟨dn,out⟩:=t;have c0:x.dot ≠ e.dot:=hn x (List.mem_of_getElem? hx);have hz:V.QH x.dot e.dot ≠ 0:=by
    unfold V.QH;rw [if_neg c0];split <;> decide
   have hpos:decide (0 < V.QH x.dot e.dot) = !zP x.dot e.dot:=by
    by_cases c1:zP x.dot e.dot = true
    ·have:=V.XM.2 c1;rw [c1];simp;omega
    ·have h2:¬ V.QH x.dot e.dot < 0:=fun h=>c1 (V.XM.1 h)
     simp only [Bool.not_eq_true] at c1;rw [c1];simp;omega
   have hc:decide ((i:Int) < (l.length:Int)) = true:=by simpa using hi
   have hI1:=hI.1;have hI2:=hI.2;simp only at hI1 hI2;refine ⟨?_,?_⟩
   ·unfold YS;simp only [hc,cond_true,zF hx,zA,V.Yb,zB,decide_eq_false hz,cond_false,hpos]
    cases zP x.dot e.dot <;> cases dn <;> simp only [Bool.not_true,Bool.not_false,cond_true,cond_false,zA,Bool.and_true,Bool.and_false,Bool.or_true,Bool.or_false,Bool.false_eq_true,if_true,if_false]
    ·rw [zD (by simp;omega),zA];simp only [];rw [zD (by simp;omega),zo (show i < 9223372036854775807 by omega)]
    ·rw [zD (by simp;omega),zo (show i < 9223372036854775807 by omega)]
    ·rw [zD (by simp;omega),zo (show i < 9223372036854775807 by omega)]
    ·rw [zD (by simp;omega),zo (show i < 9223372036854775807 by omega)]
   ·cases zP x.dot e.dot <;> cases dn <;> simp_all <;> omega) (fun t _=>by
   unfold YS;simp [zA]) (false,[]) (by simp)
 have hA:∀ (q acc:List EV),q.foldl (fun (t:Bool × List EV) x=>((t.1 || !zP x.dot e.dot),(if (!zP x.dot e.dot && !t.1) = true then t.2 ++ [e] else t.2) ++ [x])) (true,acc) = (true,acc ++ q):=by
  intro q
  induction q with
  | nil=>intro acc;simp
  | cons x r ih=>intro acc;rw [List.foldl_cons];simp only [Bool.true_or,Bool.not_true,Bool.and_false,Bool.false_eq_true,if_false];rw [ih];simp
 have hB:∀ (q acc:List EV),vC q -> (∀ x ∈ q,x.dot ≠ e.dot) -> ∃ r:Bool × List EV,q.foldl (fun (t:Bool × List EV) x=>((t.1 || !zP x.dot e.dot),(if (!zP x.dot e.dot && !t.1) = true then t.2 ++ [e] else t.2) ++ [x])) (false,acc) = r /\ (if r.1 = true then r.2 else r.2 ++ [e]) = acc ++ z4a q e /\ (r.1 = false -> r.2.length = acc.length + q.length):=by
  intro q
  induction q with
  | nil=>intro acc _ _;exact ⟨(false,acc),rfl,by simp [z4a],fun _=>by simp⟩
  | cons x r ih=>
   intro acc hs hn;obtain ⟨p1,p2⟩:=List.pairwise_cons.1 hs;rw [List.foldl_cons]
   cases c:zP x.dot e.dot with
   | true=>
    simp only [Bool.not_true,Bool.or_self,Bool.false_and,Bool.false_eq_true,if_false];obtain ⟨y,h1,h2,h3⟩:=ih (acc ++ [x]) p2 fun z hz=>hn z (by simp [hz])
    refine ⟨y,h1,?_,fun h=>by rw [h3 h];simp;omega⟩;rw [h2];unfold z4a;rw [List.filter_cons,List.filter_cons,if_pos c,if_neg (by rw [D.XT c];simp)];simp
   | false=>
    have hgt:zP e.dot x.dot = true:=by
     cases hh:zP e.dot x.dot with
     | true=>rfl
     | false=>exact absurd (D.QN c hh) (hn x (by simp))
    simp only [Bool.not_false,Bool.or_true,Bool.and_self,if_true];rw [hA];refine ⟨_,rfl,?_,fun h=>by cases h⟩;rw [if_pos rfl];unfold z4a;have e1:((x :: r).filter fun y=>zP y.dot e.dot) = []:=List.filter_eq_nil_iff.2 fun y hy=>by
     rcases List.mem_cons.1 hy with rfl | hy
     ·rw [c];simp
     ·rw [D.XT (D.XS hgt (p1 y hy))];simp
    have e2:((x :: r).filter fun y=>zP e.dot y.dot) = x :: r:=List.filter_eq_self.2 fun y hy=>by
     rcases List.mem_cons.1 hy with rfl | hy
     ·exact hgt
     ·exact D.XS hgt (p1 y hy)
    rw [e1,e2];simp
 obtain ⟨r,h1,h2,h3⟩:=hB l [] hs hn;rw [h1] at h;have h':loop (YS l e) (false,0,[]) = pure (Ex.brk (r.1,r.2)):=h;rw [h',zA,YF];obtain ⟨r1,r2⟩:=r
 cases r1 with
 | true=>
  simp only [Bool.not_true,cond_false,zA];rw [if_pos rfl,List.nil_append] at h2;have h2:r2 = z4a l e:=h2;rw [h2]
 | false=>
  have:=h3 rfl;simp only [List.length_nil,Nat.zero_add] at this;simp only [Bool.not_false,cond_true];rw [zD (by simp;omega),zA];rw [if_neg (by simp),List.nil_append] at h2;have h2:r2 ++ [e] = z4a l e:=h2;rw [h2]
theorem qO {e:EV} (h:yG e = true):e.kind = 1 \/ e.kind = 2:=by
 simp only [yG,E.wGa,Bool.and_eq_true,Bool.or_eq_true,decide_eq_true_eq] at h;rcases h.2.1 with h | h
 ·exact .inl h.1
 ·exact .inr h.1
theorem QS {e:EV} (h:yG e = true):e.kills.length <= 256 /\ D.Srt e.kills /\ ∀ d ∈ e.kills,V.zt d = true /\ d ≠ e.dot:=by
 simp only [yG,E.wHa,Bool.and_eq_true,decide_eq_true_eq,List.all_eq_true,Bool.not_eq_true',decide_eq_false_iff_not] at h;exact ⟨h.2.2.1,D.zxa.1 h.2.2.2.1,fun d hd=>h.2.2.2.2 d hd⟩
theorem good_dot {e:EV} (h:yG e = true):V.zt e.dot = true:=by
 simp only [yG,Bool.and_eq_true] at h;exact h.1.2

open E (OkE yG vC)
open F (ua zy yN vQ)

def xl (L:List EV):List EV:=L.filter fun e=>decide (e.kind = 1)
def wb (L:List EV):List EV:=L.filter fun e=>decide (e.kind = 2)
theorem xE {L:List EV} {x:EV}:x ∈ xl L ↔ x ∈ L /\ x.kind = 1:=by simp [xl]
theorem vD {L:List EV} {x:EV}:x ∈ wb L ↔ x ∈ L /\ x.kind = 2:=by simp [wb]
theorem wj {l:List EV} {d:DT}:d ∈ zy l ↔ ∃ e ∈ l,d = e.dot \/ d ∈ e.kills:=by simp [zy]
theorem JB {l:List EV} {d:DT}:vQ l d = true ↔ ∃ e ∈ l,d ∈ e.kills:=by
 unfold vQ;rw [List.any_eq_true];exact ⟨fun ⟨e,h1,h2⟩=>⟨e,h1,Wo.1 h2⟩,fun ⟨e,h1,h2⟩=>⟨e,h1,Wo.2 h2⟩⟩
structure Rep (n:Nat) (W c xc:List PT) (nl1:Bool) (m1:List (DT × EV)) (nl2:Bool) (m2:List (DT × EV)) (L:List EV):Prop where
 ctx:c = C.zQ W
 xctx:∀ k n,C.ve xc k n = C.ve W k n
 xok:C.Ok xc
 live:Holds m1 (xl L)
 tomb:Holds m2 (wb L)
 n1:nl1 = true -> m1 = []
 n2:nl2 = true -> m2 = []
 srt:vC L
 good:∀ e ∈ L,yG e = true /\ OkE e
 dots:∀ d ∈ zy L,C.ve W d.dev d.n = true
 alive:∀ e ∈ L,e.kind = 1 -> vQ L e.dot = false
 wl:W.length <= n
 wt:C.xC W <= n
 ll:L.length <= n
theorem UX {W:List PT} (h1:W.length <= 400000000) (h2:C.xC W <= 400000000):C.Ok (C.zQ W):=
 ⟨fun p hp=>by have:=((C.yM W).nf p hp).1;omega,by have:=C.yw W;omega,by have:=C.yx W;omega⟩
section
variable {n:Nat} {W c xc:List PT} {nl1:Bool} {m1:List (DT × EV)} {nl2:Bool} {m2:List (DT × EV)} {L:List EV}
theorem Rep.mono (hR:Rep n W c xc nl1 m1 nl2 m2 L) {k:Nat} (h:n <= k):Rep k W c xc nl1 m1 nl2 m2 L:=
 { hR with wl:=Nat.le_trans hR.wl h,wt:=Nat.le_trans hR.wt h,ll:=Nat.le_trans hR.ll h }
theorem Rep.okc (hR:Rep n W c xc nl1 m1 nl2 m2 L) (hn:n <= 100000000):C.Ok c:=by
 rw [hR.ctx];exact UX (by have:=hR.wl;omega) (by have:=hR.wt;omega)
theorem Rep.has (hR:Rep n W c xc nl1 m1 nl2 m2 L) (hn:n <= 100000000) (d:DT):ZN c d = pure (C.ve W d.dev d.n):=by
 rw [C.Jt c d (hR.okc hn).sm,hR.ctx,C.xx]
theorem Rep.rhas (hR:Rep n W c xc nl1 m1 nl2 m2 L) (d:DT):uc xc d = pure (C.ve W d.dev d.n):=by
 rw [C.XR xc d hR.xok,hR.xctx]
theorem Rep.new : Rep 0 [] [] [] true [] true [] [] where
 ctx:=rfl
 xctx _ _:=rfl
 xok:=C.ok_nil
 live:=List.Perm.refl _
 tomb:=List.Perm.refl _
 n1 _:=rfl
 n2 _:=rfl
 srt:=List.Pairwise.nil
 good _ h:=by cases h
 dots _ h:=by cases h
 alive _ h:=by cases h
 wl:=Nat.le_refl _
 wt:=Nat.le_refl _
 ll:=Nat.le_refl _
theorem z5a (ks:List DT):ks.foldl AL.del ([]:List (DT × EV)) = []:=by
 induction ks with
 | nil=>rfl
 | cons d r ih=>rw [List.foldl_cons];exact ih
theorem vNa {e:EV} (hk:e.kills.length <= 1000000000000) {nl:Bool} {m:List (DT × EV)} (h:nl = true -> m = []):vv e nl m = pure (false,AL.set m e.dot e):=by
 unfold vv;have h1:(cond nl (M.pure ([]:List (DT × EV))) (M.pure m)) = M.pure m:=by
  cases nl with
  | true=>rw [h rfl];rfl
  | false=>rfl
 rw [h1,zA,z0a e hk,zB,zA]
def QT (L:List EV) (e:EV):List EV:=z4a (L.filter fun x=>!decide (x.kind = 1) || !ua e.kills x.dot) e
theorem xGa (e:EV) (hk:e.kills.length <= 1000000000) (m:List (DT × EV)):loop (yv e) (0,m) = pure (e.kills.foldl AL.del m):=
 uu (body:=yv e) e.kills (fun i (t:List (DT × EV))=>((i:Int),t)) AL.del (fun t=>pure t) (fun _ _=>True) (fun i x t hx hi _=>by
  have hd:decide ((i:Int) < (e.kills.length:Int)) = true:=by simpa using hi
  refine ⟨?_,trivial⟩;unfold yv;simp only [hd,cond_true,zF hx,zA,zo (show i < 9223372036854775807 by omega)]) (fun t _=>by
  unfold yv;simp [zA]) m trivial
theorem Z6a (e:EV) (hk:e.kills.length <= 1000000000) (xc:List PT) (L:List EV) (hl:L.length <= 1000000000):loop (YT ⟨xc,L⟩ e) (0,[]) = pure (L.filter fun x=>!decide (x.kind = 1) || !ua e.kills x.dot):=
 v9a (body:=YT ⟨xc,L⟩ e) L (fun x=>!decide (x.kind = 1) || !ua e.kills x.dot) (fun t=>pure t) (fun i x t hx hi hI=>by
  have hd:decide ((i:Int) < (L.length:Int)) = true:=by simpa using hi
  unfold YT;have hh:VG e.kills x.dot = pure (ua e.kills x.dot):=E.XR e.kills x.dot (by omega);simp only [hd,cond_true,zF hx,zA,hh,zB,zo (show i < 9223372036854775807 by omega)]
  cases decide (x.kind = 1) <;> cases ua e.kills x.dot <;> simp only [Bool.not_true,Bool.not_false,cond_true,cond_false,zA,Bool.or_true,Bool.or_false,Bool.true_or,Bool.false_or,if_true,if_false,Bool.false_eq_true]
  all_goals (try rw [zD (by simp;omega)])
  all_goals rfl) (fun t=>by
  unfold YT;simp [zA])
theorem put_mem (hR:Rep n W c xc nl1 m1 nl2 m2 L) {e:EV} (hc:C.ve W e.dot.dev e.dot.n = false) {x:EV}:x ∈ QT L e ↔ x = e \/ (x ∈ L /\ (x.kind ≠ 1 \/ x.dot ∉ e.kills)):=by
 unfold QT;rw [JA,List.mem_filter]
 ·simp only [Bool.or_eq_true,Bool.not_eq_true',decide_eq_false_iff_not,<- Bool.not_eq_true (b:=ua _ _),Wo]
 ·intro x hx e1;have:=hR.dots x.dot (wj.2 ⟨x,(List.mem_filter.1 hx).1,.inl rfl⟩);rw [e1,hc] at this;cases this
theorem Rep.put (hR:Rep n W c xc nl1 m1 nl2 m2 L) (hn:n <= 100000000) {e:EV} (oe:OkE e) (g:yG e = true) (hc:C.ve W e.dot.dev e.dot.n = false) :
  ∃ c' xc' nl1' m1' nl2' m2',xS e c nl1 m1 nl2 m2 = pure (0,c',nl1',m1',nl2',m2') /\ Yy ⟨xc,L⟩ e = pure (⟨xc',QT L e⟩,0) /\ Rep (n + 600) (W ++ C.yU (yN [e])) c' xc' nl1' m1' nl2' m2' (QT L e):=by
 obtain ⟨k1,k2,k3⟩:=QS g;have hdl:(zy [e]).length <= 300:=by simp [zy];omega
 have hde:(yN [e]).length <= 300:=Nat.le_trans (D.Wn _) hdl;have hne:∀ x ∈ L,x.dot ≠ e.dot:=fun x hx e1=>by
  have:=hR.dots x.dot (wj.2 ⟨x,hx,.inl rfl⟩);rw [e1,hc] at this;cases this
 have hadd:zQa c (yN [e]) = pure (C.zQ (W ++ C.yU (yN [e]))):=by
  have h:=hR.okc hn;rw [C.Add_eq c (yN [e]) (by omega) h.len h.tot,hR.ctx,C.zka]
 have hxok:C.Ok (C.zQ (C.yU (yN [e]))):=C.zla (by omega);have hjoin:Yx xc (C.zQ (C.yU (yN [e]))) = pure (C.opC (· || ·) xc (C.zQ (C.yU (yN [e])))):=C.zia _ _ hR.xok hxok;have hxe:C.opC (· || ·) xc (C.zQ (C.yU (yN [e]))) = C.zQ (W ++ C.yU (yN [e])):=(C.Wm rfl _ _).ext (C.yM _) fun k n=>by
  rw [C.Uw rfl,C.xx,C.xx,C.XP,hR.xctx]
 have hW1:(W ++ C.yU (yN [e])).length <= n + 600:=by have:=hR.wl;have:=C.vg (yN [e]);rw [List.length_append];omega
 have hW2:C.xC (W ++ C.yU (yN [e])) <= n + 600:=by have:=hR.wt;have:=C.UL (yN [e]);rw [C.XQ];omega
 have hsP:vC (QT L e):=jz (zO hR.srt _) e;have hmem:=fun x=>put_mem (x:=x) hR hc
 -- the document
 have hr:Yy ⟨xc,L⟩ e = pure (⟨C.zQ (W ++ C.yU (yN [e])),QT L e⟩,0):=by
  unfold Yy;rw [E.YD oe,zB,zA,g,Bool.not_true,cond_false];rw [show (⟨xc,L⟩:RB).ctx = xc from rfl,hR.rhas,zB,zA,hc,cond_false,Z6a e (by omega) xc L (by have:=hR.ll;omega),zA];rw [F.jy [e] (by simp) (fun x hx=>by rw [List.mem_singleton.1 hx];omega),zB,zA,C.rOf_eq _ (by omega),zB,zA,hjoin,zB,zA,hxe];rw [rPutI_eq _ e (zO hR.srt _) (fun x hx=>hne x (List.mem_filter.1 hx).1) (by have:=List.length_filter_le (fun x:EV=>!decide (x.kind = 1) || !ua e.kills x.dot) L;have:=hR.ll;omega),zB,zA]
  rfl
 have hdots:∀ d ∈ zy (QT L e),C.ve (W ++ C.yU (yN [e])) d.dev d.n = true:=fun d hd=>by
  rw [C.XP];obtain ⟨x,hx,h⟩:=wj.1 hd;rcases (hmem x).1 hx with rfl | ⟨hx,_⟩
  ·rw [Bool.or_eq_true];refine .inr ((C.has_dots _ _ _).2 ⟨d,D.ZA.2 (wj.2 ⟨x,by simp,h⟩),?_,rfl,rfl⟩);rcases h with rfl | h
   ·exact good_dot g
   ·exact (k3 d h).1
  ·rw [hR.dots d (wj.2 ⟨x,hx,h⟩)];rfl
 have halive:∀ x ∈ QT L e,x.kind = 1 -> vQ (QT L e) x.dot = false:=fun x hx h1=>by
  rw [<- Bool.not_eq_true,JB];rintro ⟨y,hy,h2⟩;rcases (hmem x).1 hx with rfl | ⟨hx,h3⟩ <;> rcases (hmem y).1 hy with rfl | ⟨hy,_⟩
  ·exact (k3 _ h2).2 rfl
  ·have:=hR.dots _ (wj.2 ⟨y,hy,.inr h2⟩);rw [hc] at this;cases this
  ·exact h3.elim (fun h=>h h1) (fun h=>h h2)
  ·have:=hR.alive x hx h1;rw [<- Bool.not_eq_true,JB] at this;exact this ⟨y,hy,h2⟩
 have base:∀ {a b:Bool} {p q:List (DT × EV)},Holds p (xl (QT L e)) -> Holds q (wb (QT L e)) -> (a = true -> p = []) -> (b = true -> q = []) ->
   Rep (n + 600) (W ++ C.yU (yN [e])) (C.zQ (W ++ C.yU (yN [e]))) (C.zQ (W ++ C.yU (yN [e]))) a p b q (QT L e):=fun h1 h2 h3 h4=>
  ⟨rfl,fun k n=>C.xx _ _ _,UX (by omega) (by omega),h1,h2,h3,h4,hsP,fun x hx=>by
   rcases (hmem x).1 hx with rfl | ⟨hx,_⟩
   ·exact ⟨g,oe⟩
   ·exact hR.good x hx,hdots,halive,hW1,hW2,by
   have h5:=vMa (L.filter fun x=>!decide (x.kind = 1) || !ua e.kills x.dot) e (zO hR.srt _);have h6:=List.length_filter_le (fun x:EV=>!decide (x.kind = 1) || !ua e.kills x.dot) L;have:=hR.ll;unfold QT;omega⟩
 have hL1:=Holds.dels e.kills hR.live (zO hR.srt _);have hst1:vC ((xl L).filter fun x=>!ua e.kills x.dot):=zO (zO hR.srt _) _;rcases qO g with hk | hk
 ·have h1:xl (QT L e) = z4a ((xl L).filter fun x=>!ua e.kills x.dot) e:=ZC (zO hsP _) (jz hst1 e) fun x=>by
   rw [xE,hmem,JA (fun x hx=>hne x (xE.1 (List.mem_filter.1 hx).1).1),List.mem_filter,xE,Bool.not_eq_true',<- Bool.not_eq_true,Wo]
   constructor
   ·rintro ⟨rfl | ⟨h1,h2⟩,h3⟩
    ·exact .inl rfl
    ·exact .inr ⟨⟨h1,h3⟩,h2.resolve_left (fun h=>h h3)⟩
   ·rintro (rfl | ⟨⟨h1,h2⟩,h3⟩)
    ·exact ⟨.inl rfl,hk⟩
    ·exact ⟨.inr ⟨h1,.inr h3⟩,h2⟩
  have h2:wb (QT L e) = wb L:=ZC (zO hsP _) (zO hR.srt _) fun x=>by
   rw [vD,hmem,vD]
   constructor
   ·rintro ⟨rfl | ⟨h1,h2⟩,h3⟩
    ·omega
    ·exact ⟨h1,h3⟩
   ·rintro ⟨h1,h2⟩;exact ⟨.inr ⟨h1,.inl (by omega)⟩,h2⟩
  refine ⟨_,_,false,AL.set (e.kills.foldl AL.del m1) e.dot e,nl2,m2,?_,hr,base ?_ ?_ (fun h=>by cases h) hR.n2⟩
  ·unfold xS;rw [E.uF oe,zB,zA,g,Bool.not_true,cond_false,hR.has hn,zB,zA,hc,cond_false,F.WE [e] (by simp) (by omega),zB,zA,hadd,zB,zA,xGa e (by omega),zA,decide_eq_true hk,cond_true];rw [vNa (by omega) (fun h=>by rw [hR.n1 h];exact z5a _),zB,zA]
   rfl
  ·rw [h1];exact hL1.add hst1 fun x hx=>hne x (xE.1 (List.mem_filter.1 hx).1).1
  ·rw [h2];exact hR.tomb
 ·have h1:xl (QT L e) = (xl L).filter fun x=>!ua e.kills x.dot:=ZC (zO hsP _) hst1 fun x=>by
   rw [xE,hmem,List.mem_filter,xE,Bool.not_eq_true',<- Bool.not_eq_true,Wo]
   constructor
   ·rintro ⟨rfl | ⟨h1,h2⟩,h3⟩
    ·omega
    ·exact ⟨⟨h1,h3⟩,h2.resolve_left (fun h=>h h3)⟩
   ·rintro ⟨⟨h1,h2⟩,h3⟩;exact ⟨.inr ⟨h1,.inr h3⟩,h2⟩
  have h2:wb (QT L e) = z4a (wb L) e:=ZC (zO hsP _) (jz (zO hR.srt _) e) fun x=>by
   rw [vD,hmem,JA (fun x hx=>hne x (vD.1 hx).1),vD]
   constructor
   ·rintro ⟨rfl | ⟨h1,h2⟩,h3⟩
    ·exact .inl rfl
    ·exact .inr ⟨h1,h3⟩
   ·rintro (rfl | ⟨h1,h2⟩)
    ·exact ⟨.inl rfl,hk⟩
    ·exact ⟨.inr ⟨h1,.inl (by omega)⟩,h2⟩
  refine ⟨_,_,nl1,e.kills.foldl AL.del m1,false,AL.set m2 e.dot e,?_,hr,base ?_ ?_ (fun h=>by rw [hR.n1 h];exact z5a _) (fun h=>by cases h)⟩
  ·unfold xS;rw [E.uF oe,zB,zA,g,Bool.not_true,cond_false,hR.has hn,zB,zA,hc,cond_false,F.WE [e] (by simp) (by omega),zB,zA,hadd,zB,zA,xGa e (by omega),zA,decide_eq_false (show ¬ e.kind = 1 by omega),cond_false];rw [vNa (by omega) hR.n2,zB,zA]
   rfl
  ·rw [h1];exact hL1
  ·rw [h2];exact hR.tomb.add (zO hR.srt _) fun x hx=>hne x (vD.1 hx).1
end

open E (OkE yG vC)
open F (ua zy yN vQ)

section
variable {n:Nat} {W c xc:List PT} {nl1:Bool} {m1:List (DT × EV)} {nl2:Bool} {m2:List (DT × EV)} {L:List EV}
theorem z6a (L:List EV):(xl L).length <= L.length:=List.length_filter_le _ _
theorem vOa (L:List EV):(wb L).length <= L.length:=List.length_filter_le _ _
theorem Rep.kl (hR:Rep n W c xc nl1 m1 nl2 m2 L):∀ e ∈ L,e.kills.length <= 256:=fun e he=>(QS (hR.good e he).1).1
theorem Rep.Live (hR:Rep n W c xc nl1 m1 nl2 m2 L) (hn:n <= 100000000):yP c nl1 m1 nl2 m2 = pure (xl L):=by
 unfold yP;rw [vLa hR.live (zO hR.srt _) (by have:=z6a L;have:=hR.ll;omega) (fun e he=>by have:=hR.kl e (xE.1 he).1;omega),zB,zA]
theorem Rep.Tombs (hR:Rep n W c xc nl1 m1 nl2 m2 L) (hn:n <= 100000000):uC c nl1 m1 nl2 m2 = pure (wb L):=by
 unfold uC;rw [vLa hR.tomb (zO hR.srt _) (by have:=vOa L;have:=hR.ll;omega) (fun e he=>by have:=hR.kl e (vD.1 he).1;omega),zB,zA]
theorem uAa (L:List EV) (h:∀ e ∈ L,e.kind = 1 \/ e.kind = 2):(xl L ++ wb L).Perm L:=by
 induction L with
 | nil=>exact List.Perm.refl _
 | cons x r ih=>
  have ih:=ih fun e he=>h e (by simp [he])
  rcases h x (by simp) with h1 | h1
  ·have e1:xl (x :: r) = x :: xl r:=by unfold xl;rw [List.filter_cons,if_pos (by simp [h1])]
   have e2:wb (x :: r) = wb r:=by unfold wb;rw [List.filter_cons,if_neg (by simp [h1])]
   rw [e1,e2];exact ih.cons x
  ·have e1:xl (x :: r) = xl r:=by unfold xl;rw [List.filter_cons,if_neg (by simp [h1])]
   have e2:wb (x :: r) = x :: wb r:=by unfold wb;rw [List.filter_cons,if_pos (by simp [h1])]
   rw [e1,e2];exact List.perm_middle.trans (ih.cons x)
theorem Rep.kinds (hR:Rep n W c xc nl1 m1 nl2 m2 L):∀ e ∈ L,e.kind = 1 \/ e.kind = 2:=fun e he=>qO (hR.good e he).1
theorem Rep.All (hR:Rep n W c xc nl1 m1 nl2 m2 L) (hn:n <= 100000000):xK c nl1 m1 nl2 m2 = pure L:=by
 unfold xK;rw [list2_eq hR.live hR.tomb (uAa L hR.kinds) hR.srt (by have:=hR.ll;omega) (fun e he=>by have:=hR.kl e he;omega),zB,zA]
theorem Rep.Ctx (hR:Rep n W c xc nl1 m1 nl2 m2 L) (hn:n <= 100000000):xJ c nl1 m1 nl2 m2 = pure (C.zQ W):=by
 unfold xJ;rw [C.VR c (hR.okc hn).sm,zB,zA,hR.ctx,C.xg (C.yM W)]
theorem rkind_eq (l:List EV) (k:Int) (hl:l.length <= 1000000000):jd l k = pure (l.filter fun e=>decide (e.kind = k)):=by
 unfold jd;rw [v9a (body:=Yz l k) l (fun e=>decide (e.kind = k)) (fun t=>pure t) (fun i x t hx hi hI=>by
  have hd:decide ((i:Int) < (l.length:Int)) = true:=by simpa using hi
  unfold Yz;simp only [hd,cond_true,zF hx,zA,zo (show i < 9223372036854775807 by omega)]
  cases decide (x.kind = k) <;> simp only [cond_true,cond_false,zA,if_true,if_false,Bool.false_eq_true]
  rw [zD (by simp;omega)]
  rfl) (fun t=>by unfold Yz;simp [zA]),zA]
theorem Rep.rLive (hR:Rep n W c xc nl1 m1 nl2 m2 L) (hn:n <= 100000000) (y:List PT):Vt ⟨y,L⟩ = pure (xl L):=by
 unfold Vt;rw [rkind_eq L 1 (by have:=hR.ll;omega),zB,zA]
 rfl
theorem Rep.see (hR:Rep n W c xc nl1 m1 nl2 m2 L) (hn:n <= 100000000) {y:List PT} (hy:C.Ok y) {k:Nat} (h1:y.length <= k) (h2:C.xC y <= k) (hk:k <= 100000000) :
  ∃ c' xc',WA y c nl1 m1 nl2 m2 = pure c' /\ Qp ⟨xc,L⟩ y = pure ⟨xc',L⟩ /\ Rep (n + k) (W ++ y) c' xc' nl1 m1 nl2 m2 L:=by
 have hc:=hR.okc hn;have hwl:=hR.wl;have hwt:=hR.wt;have hl:=C.yw W;have ht:=C.yx W;have e1:C.opC (· || ·) xc y = C.zQ (W ++ y):=(C.Wm rfl _ _).ext (C.yM _) fun k n=>by rw [C.Uw rfl,C.xx,C.XP,hR.xctx]
 refine ⟨C.zQ (W ++ y),C.zQ (W ++ y),?_,?_,?_⟩
 ·unfold WA;rw [C.ZOa c y (C.sm_app (by rw [hR.ctx];omega) (by rw [hR.ctx];omega)),zB,zA,hR.ctx,C.zka]
 ·unfold Qp;rw [show (⟨xc,L⟩:RB).ctx = xc from rfl,C.zia xc y hR.xok hy,zB,zA,e1]
 ·exact ⟨rfl,fun k n=>C.xx _ _ _,UX (by rw [List.length_append];omega) (by rw [C.XQ];omega),hR.live,hR.tomb,hR.n1,hR.n2,hR.srt,hR.good,fun d hd=>by rw [C.XP,hR.dots d hd];rfl,hR.alive,by rw [List.length_append];omega,by rw [C.XQ];omega,by have:=hR.ll;omega⟩
def ql (e:EV):EV:=⟨e.dot,e.kind,e.cid,e.field,e.text,[]⟩
def qP (L:List EV) (e:EV):List DT:=yN ((xl L).filter fun x=>if e.kind = 1 then decide (x.cid = e.cid) && decide (x.field = e.field) else decide (x.cid = e.cid))
theorem ofE_eq (l:List EV) (cid f:Int) (hl:l.length <= 1000000) (hk:∀ e ∈ l,e.kind = 1 /\ e.kills.length <= 300):Wl l cid f = pure (yN (l.filter fun x=>decide (x.cid = cid) && decide (x.field = f))):=by
 unfold Wl vo;have hf:=List.length_filter_le (fun x:EV=>decide (x.cid = cid) && decide (x.field = f)) l;have hd:=F.vg (l.filter fun x=>decide (x.cid = cid) && decide (x.field = f)) 300 fun e he=>(hk e (List.mem_filter.1 he).1).2
 rw [v9a (body:=yT l cid f) l (fun x=>decide (x.cid = cid) && decide (x.field = f)) (fun t=>pure t) (fun i x t hx hi hI=>by
  have hd:decide ((i:Int) < (l.length:Int)) = true:=by simpa using hi
  unfold yT XZ;simp only [hd,cond_true,zF hx,zA,(hk x (List.mem_of_getElem? hx)).1,decide_true,zh,zB,zo (show i < 9223372036854775807 by omega)]
  cases decide (x.cid = cid) <;> cases decide (x.field = f) <;> simp only [cond_true,cond_false,zA,if_true,if_false,Bool.false_eq_true,Bool.and_true,Bool.and_false,Bool.true_and,Bool.false_and]
  rw [zD (by simp;omega)]
  rfl) (fun t=>by unfold yT;simp [zA]),zA,F.WE _ (by omega) (by omega),zB,zA,zB,zA]
theorem ofD_eq (l:List EV) (cid:Int) (hl:l.length <= 1000000) (hk:∀ e ∈ l,e.kind = 1 /\ e.kills.length <= 300):YA l cid = pure (yN (l.filter fun x=>decide (x.cid = cid))):=by
 unfold YA vP;have hf:=List.length_filter_le (fun x:EV=>decide (x.cid = cid)) l;have hd:=F.vg (l.filter fun x=>decide (x.cid = cid)) 300 fun e he=>(hk e (List.mem_filter.1 he).1).2
 rw [v9a (body:=yK l cid) l (fun x=>decide (x.cid = cid)) (fun t=>pure t) (fun i x t hx hi hI=>by
  have hd:decide ((i:Int) < (l.length:Int)) = true:=by simpa using hi
  unfold yK Zz;simp only [hd,cond_true,zF hx,zA,(hk x (List.mem_of_getElem? hx)).1,decide_true,zB,zo (show i < 9223372036854775807 by omega)]
  cases decide (x.cid = cid) <;> simp only [cond_true,cond_false,zA,if_true,if_false,Bool.false_eq_true]
  rw [zD (by simp;omega)]
  rfl) (fun t=>by unfold yK;simp [zA]),zA,F.WE _ (by omega) (by omega),zB,zA,zB,zA]
theorem rofE_eq (l:List EV) (cid f:Int) (hl:l.length <= 1000000) (hk:∀ e ∈ l,e.kind = 1 /\ e.kills.length <= 300):je l cid f = pure (yN (l.filter fun x=>decide (x.cid = cid) && decide (x.field = f))):=by
 unfold je;have hf:=List.length_filter_le (fun x:EV=>decide (x.cid = cid) && decide (x.field = f)) l;rw [v9a (body:=XA l cid f) l (fun x=>decide (x.cid = cid) && decide (x.field = f)) (fun t=>pure t) (fun i x t hx hi hI=>by
  have hd:decide ((i:Int) < (l.length:Int)) = true:=by simpa using hi
  unfold XA;simp only [hd,cond_true,zF hx,zA,(hk x (List.mem_of_getElem? hx)).1,decide_true,zo (show i < 9223372036854775807 by omega)]
  cases decide (x.cid = cid) <;> cases decide (x.field = f) <;> simp only [cond_true,cond_false,zA,if_true,if_false,Bool.false_eq_true,Bool.and_true,Bool.and_false,Bool.true_and,Bool.false_and]
  rw [zD (by simp;omega)]
  rfl) (fun t=>by unfold XA;simp [zA]),zA,F.jy _ (by omega) (fun e he=>(hk e (List.mem_filter.1 he).1).2),zB,zA]
theorem rofD_eq (l:List EV) (cid:Int) (hl:l.length <= 1000000) (hk:∀ e ∈ l,e.kind = 1 /\ e.kills.length <= 300):Wj l cid = pure (yN (l.filter fun x=>decide (x.cid = cid))):=by
 unfold Wj;have hf:=List.length_filter_le (fun x:EV=>decide (x.cid = cid)) l;rw [v9a (body:=up l cid) l (fun x=>decide (x.cid = cid)) (fun t=>pure t) (fun i x t hx hi hI=>by
  have hd:decide ((i:Int) < (l.length:Int)) = true:=by simpa using hi
  unfold up;simp only [hd,cond_true,zF hx,zA,(hk x (List.mem_of_getElem? hx)).1,decide_true,zo (show i < 9223372036854775807 by omega)]
  cases decide (x.cid = cid) <;> simp only [cond_true,cond_false,zA,if_true,if_false,Bool.false_eq_true]
  rw [zD (by simp;omega)]
  rfl) (fun t=>by unfold up;simp [zA]),zA,F.jy _ (by omega) (fun e he=>(hk e (List.mem_filter.1 he).1).2),zB,zA]
def uBa (W:List PT) (L:List EV) (e:EV):EV × Int:=
 if yG (ql e) = false then (⟨⟨0,0⟩,0,0,0,⟨#[]⟩,[]⟩,1) else if C.ve W e.dot.dev e.dot.n = true then (⟨⟨0,0⟩,0,0,0,⟨#[]⟩,[]⟩,7)
 else if 256 < (qP L e).length then (⟨⟨0,0⟩,0,0,0,⟨#[]⟩,[]⟩,3) else (⟨e.dot,e.kind,e.cid,e.field,e.text,qP L e⟩,0)
theorem wLa {e:EV} (h:OkE e):OkE (ql e):=⟨h.dot,h.kind,h.cid,h.field,h.text,(fun d hd=>nomatch hd),by simp [ql]⟩
theorem Rep.make (hR:Rep n W c xc nl1 m1 nl2 m2 L) (hn:n <= 1000000) {e:EV} (oe:OkE e) :
  Xa e c nl1 m1 nl2 m2 = pure (uBa W L e) /\ jf ⟨xc,L⟩ e = pure (uBa W L e):=by
 have hll:=z6a L;have hL:=hR.ll;have hk:∀ x ∈ xl L,x.kind = 1 /\ x.kills.length <= 300:=fun x hx=>⟨(xE.1 hx).2,by have:=hR.kl x (xE.1 hx).1;omega⟩
 have h1:=E.uF (wLa oe);have h2:=E.YD (wLa oe);have h3:=hR.has (by omega) e.dot;have h4:=hR.rhas e.dot;have a1:=ofE_eq (xl L) e.cid e.field (by omega) hk;have a2:=ofD_eq (xl L) e.cid (by omega) hk;have a3:=rofE_eq (xl L) e.cid e.field (by omega) hk;have a4:=rofD_eq (xl L) e.cid (by omega) hk;unfold uBa
 constructor
 ·unfold Xa;rw [show (⟨e.dot,e.kind,e.cid,e.field,e.text,([]:List DT)⟩:EV) = ql e from rfl,h1,zB,zA]
  cases yG (ql e) with
  | false=>rfl
  | true=>
   rw [Bool.not_true,cond_false,h3,zB,zA]
   cases C.ve W e.dot.dev e.dot.n with
   | true=>rfl
   | false=>
    rw [cond_false,if_neg (by simp),if_neg (by simp)];have hq:(cond (decide (e.kind = 1))
      (M.bind (M.det (yP c nl1 m1 nl2 m2)) fun y15=>M.bind (M.det (Wl y15 e.cid e.field)) fun v17=>M.pure (Ex.brk v17))
      (M.bind (M.det (yP c nl1 m1 nl2 m2)) fun y19=>M.bind (M.det (YA y19 e.cid)) fun v21=>M.pure (Ex.brk v21)):M (Ex (List DT) (EV × Int))) = pure (Ex.brk (qP L e)):=by
     rw [hR.Live (by omega),zB,zA,zA,a1,a2,zB,zB,zA,zA,Vd];unfold qP
     by_cases h:e.kind = 1 <;> simp [h]
    rw [hq,zA,YF,yb]
    by_cases h:256 < (qP L e).length
    ·rw [if_pos h,if_pos (by omega)]
    ·rw [if_neg h,if_neg (by omega)]
 ·unfold jf;rw [show (⟨e.dot,e.kind,e.cid,e.field,e.text,([]:List DT)⟩:EV) = ql e from rfl,h2,zB,zA]
  cases yG (ql e) with
  | false=>rfl
  | true=>
   rw [Bool.not_true,cond_false,show (⟨xc,L⟩:RB).ctx = xc from rfl,h4,zB,zA]
   cases C.ve W e.dot.dev e.dot.n with
   | true=>rfl
   | false=>
    rw [cond_false,if_neg (by simp),if_neg (by simp),hR.rLive (by omega),zB,zA,a4,zB,zA];simp only [zA,a3,zB];rw [Vd,zA];have hq:(cond (decide (e.kind = 1)) (yN ((xl L).filter fun x=>decide (x.cid = e.cid) && decide (x.field = e.field))) (yN ((xl L).filter fun x=>decide (x.cid = e.cid)))) = qP L e:=by
     unfold qP
     by_cases h:e.kind = 1 <;> simp [h]
    rw [hq,yb]
    by_cases h:256 < (qP L e).length
    ·rw [if_pos h,if_pos (by omega)]
    ·rw [if_neg h,if_neg (by omega)]
end

open E (OkE yG vC)
open F (ua zy yN vQ)

theorem vPa {l:List EV}:vC l ↔ D.Srt (l.map (·.dot)):=by
 unfold vC D.Srt;rw [List.pairwise_map]
theorem WG {l l':List EV} (h:vC l) (e:l'.map (·.dot) = l.map (·.dot)):vC l':=by rw [vPa,e,<- vPa];exact h
def yh (y:List PT) (x:EV):EV:=if C.ve y x.dot.dev x.dot.n = true then ql x else x
theorem WH (y:List PT) (x:EV):(yh y x).dot = x.dot:=by unfold yh;split <;> rfl
theorem Wp (y:List PT) (x:EV):(yh y x).kind = x.kind:=by unfold yh;split <;> rfl
theorem qQ (y:List PT) (x:EV):∀ d ∈ (yh y x).kills,d ∈ x.kills:=by
 unfold yh
 split
 ·intro d hd;cases hd
 ·intro d hd;exact hd
theorem uCa {y:List PT} {x:EV} (h:yG x = true /\ OkE x):yG (yh y x) = true /\ OkE (yh y x):=by
 unfold yh
 split
 ·refine ⟨?_,wLa h.2⟩;have:=h.1;simp only [yG,Bool.and_eq_true] at this ⊢;exact ⟨this.1,this.2.1,rfl⟩
 ·exact h
theorem uM (y:List PT) (l:List EV):(l.map (yh y)).map (·.dot) = l.map (·.dot):=by
 rw [List.map_map];exact List.map_congr_left fun x _=>WH y x
theorem Strip_eq (x:EV) {y:List PT} (hy:C.Ok y) (hk:x.kills.length <= 1000000000):VP x y = pure (yh y x):=by
 unfold VP;rw [z0a x (by omega),zB,zA,C.Jt y x.dot hy.sm,zB,zA,Vd,zA];unfold yh ql
 cases C.ve y x.dot.dev x.dot.n <;> rfl
theorem Z7a (x:EV) {y:List PT} (hy:C.Ok y):Vu x y = pure (yh y x):=by
 unfold Vu;rw [C.XR y x.dot hy,zB,zA,Vd,zA];unfold yh ql
 cases C.ve y x.dot.dev x.dot.n <;> rfl
def wc (y:List PT) (x:EV):Bool:=C.ve y x.dot.dev x.dot.n
def Zh (y:List PT) (L:List EV):List EV:=(L.filter fun x=>decide (x.kind = 1) || !wc y x).map (yh y)
theorem vQa {m:List (DT × EV)} {A B:List EV} {x x':EV} (h:Holds m (A ++ x :: B)) (hs:vC (A ++ x :: B)) (hd:x'.dot = x.dot):Holds (AL.set m x.dot x') (A ++ x' :: B):=by
 have hs':vC (A ++ x' :: B):=WG hs (by simp [hd]);refine z3a (AL.nodup_set (h.keys hs) _ _) hs' fun k=>?_
 rw [Z4a (h.keys hs),h.mem];have hne:∀ z,z ∈ A \/ z ∈ B -> z.dot ≠ x.dot:=fun z hz e=>by
  have hz':z ∈ A ++ x :: B:=by rw [List.mem_append,List.mem_cons];exact hz.imp (fun h=>h) .inr
  have e2:=srtE_one hs hz' (by simp) e;subst e2;have h2:=UW hs;rw [List.map_append,List.map_cons,List.nodup_append,List.nodup_cons] at h2;rcases hz with hz | hz
  ·exact h2.2.2 _ (List.mem_map.2 ⟨z,hz,rfl⟩) _ (by simp) rfl
  ·exact h2.2.1.1 (List.mem_map.2 ⟨z,hz,rfl⟩)
 simp only [List.mem_append,List.mem_cons]
 constructor
 ·rintro (⟨⟨h1,h2⟩,h3⟩ | h1)
  ·refine ⟨?_,h2⟩;rcases h1 with h1 | h1 | h1
   ·exact .inl h1
   ·exact absurd (by rw [h2,h1]) h3
   ·exact .inr (.inr h1)
  ·rw [h1];exact ⟨.inr (.inl rfl),hd.symm⟩
 ·rintro ⟨h1 | h1 | h1,h2⟩
  ·exact .inl ⟨⟨.inl h1,h2⟩,by rw [h2];exact hne _ (.inl h1)⟩
  ·refine .inr ?_;obtain ⟨k1,k2⟩:=k;simp only at h1 h2;rw [h2,h1,hd]
  ·exact .inl ⟨⟨.inr (.inr h1),h2⟩,by rw [h2];exact hne _ (.inr h1)⟩
theorem has_of {m:List (DT × EV)} {l:List EV} (h:Holds m l) (hs:vC l) {x:EV} (hx:x ∈ l):AL.has m x.dot = true:=by
 unfold AL.has;have:=AL.mem_get (h.keys hs) ((Holds.mem h (k:=(x.dot,x))).2 ⟨hx,rfl⟩);rw [this];rfl
theorem uDa {y:List PT} (hy:C.Ok y) (l:List EV) (hl:l.length <= 1000000000) (hk:∀ e ∈ l,e.kills.length <= 300) (hs:vC l) {nl:Bool} {m:List (DT × EV)} (h:Holds m l) :
  ∃ m',Xz l y nl m = pure (nl,m') /\ Holds m' (l.map (yh y)) /\ (m = [] -> m' = []):=by
 have h1:=uu (body:=vb l y nl) l (fun i (t:List (DT × EV))=>((i:Int),t)) (fun t x=>AL.set t x.dot (yh y x)) (fun t=>pure (nl,t))
  (fun i t=>Holds t ((l.take i).map (yh y) ++ l.drop i)) (fun i x t hx hi hI=>by
   have hd:decide ((i:Int) < (l.length:Int)) = true:=by simpa using hi
   have hdr:l.drop i = x :: l.drop (i + 1):=by
    rw [List.drop_eq_getElem_cons hi]
    congr 1
    rw [List.getElem?_eq_getElem hi] at hx;exact Option.some.inj hx
   have htk:l.take (i + 1) = l.take i ++ [x]:=by rw [List.take_add_one,hx];rfl
   have hss:vC ((l.take i).map (yh y) ++ x :: l.drop (i + 1)):=by
    rw [<- hdr];refine WG hs ?_;rw [List.map_append,uM,<- List.map_append,List.take_append_drop]
   rw [hdr] at hI;refine ⟨?_,?_⟩
   ·unfold vb;have hh:=has_of hI hss (x:=x) (by simp);simp only [hd,cond_true,zF hx,zA,hh,Strip_eq x hy (by have:=hk x (List.mem_of_getElem? hx);omega),zB,zo (show i < 9223372036854775807 by omega)];rw [zD trivial,zA]
   ·rw [htk,List.map_append,List.append_assoc];exact vQa hI hss (WH y x)) (fun t _=>by
   unfold vb;simp [zA]) m (by simpa using h)
 have hinv:∀ (k i:Nat) (t:List (DT × EV)),i + k = l.length -> Holds t ((l.take i).map (yh y) ++ l.drop i) -> Holds ((l.drop i).foldl (fun t x=>AL.set t x.dot (yh y x)) t) (l.map (yh y)):=by
  intro k
  induction k with
  | zero=>
   intro i t hi ht;have:i = l.length:=by omega
   subst this;rw [List.drop_length,List.take_length,List.append_nil] at ht;rw [List.drop_length];exact ht
  | succ k ih=>
   intro i t hi ht;have hlt:i < l.length:=by omega
   have hdr:=List.drop_eq_getElem_cons hlt;have htk:l.take (i + 1) = l.take i ++ [l[i]]:=by rw [List.take_add_one,List.getElem?_eq_getElem hlt];rfl
   have hss:vC ((l.take i).map (yh y) ++ l[i] :: l.drop (i + 1)):=by
    rw [<- hdr];refine WG hs ?_;rw [List.map_append,uM,<- List.map_append,List.take_append_drop]
   rw [hdr,List.foldl_cons];refine ih (i + 1) _ (by omega) ?_;rw [htk,List.map_append,List.append_assoc];rw [hdr] at ht;exact vQa ht hss (WH y _)
 refine ⟨l.foldl (fun (t:List (DT × EV)) (x:EV)=>AL.set t x.dot (yh y x)) m,by unfold Xz;exact h1,by simpa using hinv l.length 0 m (by omega) (by simpa using h),fun hm=>?_⟩;subst hm;have:l = []:=by
  have:=h.len;simpa using this.symm
 rw [this];rfl
section
variable {n:Nat} {W c xc:List PT} {nl1:Bool} {m1:List (DT × EV)} {nl2:Bool} {m2:List (DT × EV)} {L:List EV}
theorem Rep.Live' (hR:Rep n W c xc nl1 m1 nl2 m2 L) (hn:n <= 100000000) (c':List PT) (b:Bool) (m':List (DT × EV)):yP c' nl1 m1 b m' = pure (xl L):=hR.Live hn
theorem Z8a {y:List PT} (hy:C.Ok y) (T:List EV) (hl:T.length <= 1000000000) (m:List (DT × EV)) :
  loop (yY T y) (0,0,m) = pure (((T.filter (wc y)).length:Int),((T.filter (wc y)).map (·.dot)).foldl AL.del m):=by
 have h1:=uu (body:=yY T y) T (fun i (t:List EV × List (DT × EV))=>((t.1.length:Int),(i:Int),t.2)) (fun t x=>if wc y x = true then (t.1 ++ [x],AL.del t.2 x.dot) else t) (fun t=>pure ((t.1.length:Int),t.2))
  (fun i t=>t.1.length <= i) (fun i x t hx hi hI=>by
   have hd:decide ((i:Int) < (T.length:Int)) = true:=by simpa using hi
   refine ⟨?_,?_⟩
   ·unfold yY;have hh:ZN y x.dot = pure (wc y x):=C.Jt y x.dot hy.sm;simp only [hd,cond_true,zF hx,zA,hh,zB,zo (show i < 9223372036854775807 by omega)]
    cases wc y x with
    | true=>
     simp only [cond_true,if_true,zA];rw [zo (by omega)];simp
    | false=>simp [zA]
   ·split
    ·simp only [List.length_append,List.length_singleton];omega
    ·omega) (fun t _=>by
   unfold yY;simp [zA]) ([],m) (Nat.le_refl _)
 have hf:∀ (q:List EV) (t:List EV × List (DT × EV)),q.foldl (fun t x=>if wc y x = true then (t.1 ++ [x],AL.del t.2 x.dot) else t) t = (t.1 ++ q.filter (wc y),((q.filter (wc y)).map (·.dot)).foldl AL.del t.2):=by
  intro q
  induction q with
  | nil=>intro t;simp
  | cons x r ih=>
   intro t;rw [List.foldl_cons,ih,List.filter_cons]
   split <;> simp_all
 rw [hf] at h1;exact h1
theorem wMa {y:List PT} (hy:C.Ok y) (xc:List PT) (L:List EV) (hl:L.length <= 1000000000):loop (uR ⟨xc,L⟩ y) (0,[]) = pure (Zh y L):=by
 have h1:=uu (body:=uR ⟨xc,L⟩ y) L (fun i (t:List EV)=>((i:Int),t)) (fun t x=>if (decide (x.kind = 1) || !wc y x) = true then t ++ [yh y x] else t) (fun t=>pure t)
  (fun i t=>t.length <= i) (fun i x t hx hi hI=>by
   have hd:decide ((i:Int) < (L.length:Int)) = true:=by simpa using hi
   refine ⟨?_,by split <;> (try rw [List.length_append,List.length_singleton]) <;> omega⟩;unfold uR;have hh:uc y x.dot = pure (wc y x):=C.XR y x.dot hy;simp only [hd,cond_true,zF hx,zA,hh,zB,Z7a x hy,zo (show i < 9223372036854775807 by omega)]
   cases decide (x.kind = 1) <;> cases wc y x <;> simp only [Bool.not_true,Bool.not_false,cond_true,cond_false,zA,Bool.or_true,Bool.or_false,Bool.true_or,Bool.false_or,if_true,if_false,Bool.false_eq_true]
   all_goals (try rw [zD (by simp;omega)])
   all_goals rfl) (fun t _=>by unfold uR;simp [zA]) [] (Nat.le_refl _)
 have hf:∀ (q t:List EV),q.foldl (fun t x=>if (decide (x.kind = 1) || !wc y x) = true then t ++ [yh y x] else t) t = t ++ (q.filter fun x=>decide (x.kind = 1) || !wc y x).map (yh y):=by
  intro q
  induction q with
  | nil=>intro t;simp
  | cons x r ih=>intro t;rw [List.foldl_cons,ih,List.filter_cons];split <;> simp
 rw [hf,List.nil_append] at h1;exact h1
theorem Rep.prune (hR:Rep n W c xc nl1 m1 nl2 m2 L) (hn:n <= 100000000) {y:List PT} (hy:C.Ok y) :
  ∃ k nl1' m1' nl2' m2',Ya y c nl1 m1 nl2 m2 = pure (k,nl1',m1',nl2',m2') /\ Vv ⟨xc,L⟩ y = pure (⟨xc,Zh y L⟩,k) /\ Rep n W c xc nl1' m1' nl2' m2' (Zh y L) /\ k = ((wb L).filter (wc y)).length:=by
 have hll:=hR.ll;have hl1:=z6a L;have ht1:=vOa L;obtain ⟨m1',h1,h2,h3⟩:=uDa (nl:=nl1) hy (xl L) (by omega) (fun e he=>by have:=hR.kl e (xE.1 he).1;omega) (zO hR.srt _) hR.live;have hdel:=Holds.dels ((wb L).filter (wc y) |>.map (·.dot)) hR.tomb (zO hR.srt _);have hP:∀ x ∈ L,(decide (x.kind = 1) || !wc y x) = true ↔ (x.kind = 1 \/ wc y x = false):=fun x _=>by simp
 have hsP:vC (Zh y L):=WG (zO hR.srt (fun x=>decide (x.kind = 1) || !wc y x)) (uM y _);have mem_p:∀ z,z ∈ Zh y L ↔ ∃ x ∈ L,(x.kind = 1 \/ wc y x = false) /\ yh y x = z:=fun z=>by
  unfold Zh;rw [List.mem_map]
  constructor
  ·rintro ⟨x,hx,e⟩;rw [List.mem_filter] at hx;exact ⟨x,hx.1,(hP x hx.1).1 hx.2,e⟩
  ·rintro ⟨x,hx,hp,e⟩;exact ⟨x,List.mem_filter.2 ⟨hx,(hP x hx).2 hp⟩,e⟩
 have hlive:xl (Zh y L) = (xl L).map (yh y):=by
  refine ZC (zO hsP _) (WG (zO hR.srt _) (uM y _)) fun z=>?_
  rw [xE,mem_p,List.mem_map]
  constructor
  ·rintro ⟨⟨x,hx,hp,rfl⟩,hz⟩;exact ⟨x,xE.2 ⟨hx,by rw [<- Wp y x];exact hz⟩,rfl⟩
  ·rintro ⟨x,hx,rfl⟩;obtain ⟨h4,h5⟩:=xE.1 hx;exact ⟨⟨x,h4,.inl h5,rfl⟩,by rw [Wp];exact h5⟩
 have htomb:wb (Zh y L) = (wb L).filter fun e=>!ua ((wb L).filter (wc y) |>.map (·.dot)) e.dot:=by
  refine ZC (zO hsP _) (zO (zO hR.srt _) _) fun z=>?_
  rw [vD,mem_p,List.mem_filter,vD,Bool.not_eq_true',<- Bool.not_eq_true,Wo];have hsn:∀ x:EV,wc y x = false -> yh y x = x:=fun x h=>by
   unfold yh;rw [if_neg];show ¬ wc y x = true;rw [h];simp
  constructor
  ·rintro ⟨⟨x,hx,hp,rfl⟩,hz⟩;rw [Wp] at hz;have hs:wc y x = false:=hp.resolve_left (by omega);rw [hsn x hs];refine ⟨⟨hx,hz⟩,fun h=>?_⟩;obtain ⟨w,hw,e⟩:=List.mem_map.1 h;have h4:=(List.mem_filter.1 hw).2;unfold wc at h4 hs;rw [e,hs] at h4;cases h4
  ·rintro ⟨⟨hx,hz⟩,h⟩;have hs:wc y z = false:=by
    cases h4:wc y z with
    | false=>rfl
    | true=>exact absurd (List.mem_map.2 ⟨z,List.mem_filter.2 ⟨vD.2 ⟨hx,hz⟩,h4⟩,rfl⟩) h
   exact ⟨⟨z,hx,.inr hs,hsn z hs⟩,hz⟩
 have hlen:(L.length:Int) - ((Zh y L).length:Int) = ((wb L).filter (wc y)).length:=by
  have e1:(Zh y L).length = (L.filter fun x=>decide (x.kind = 1) || !wc y x).length:=by unfold Zh;rw [List.length_map]
  have e2:(wb L).filter (wc y) = L.filter fun x=>!(decide (x.kind = 1) || !wc y x):=by
   unfold wb;rw [List.filter_filter];refine List.filter_congr fun x hx=>?_
   rcases hR.kinds x hx with h | h <;> simp [h]
  have e3:∀ (q:List EV) (p:EV -> Bool),q.length = (q.filter p).length + (q.filter fun x=>!p x).length:=by
   intro q p
   induction q with
   | nil=>rfl
   | cons x r ih=>rw [List.filter_cons,List.filter_cons];cases p x <;> simp <;> omega
  have:=e3 L fun x=>decide (x.kind = 1) || !wc y x
  rw [e1,e2];omega
 have hle:(Zh y L).length <= L.length:=by unfold Zh;rw [List.length_map];exact List.length_filter_le _ _
 refine ⟨_,nl1,m1',nl2,((wb L).filter (wc y) |>.map (·.dot)).foldl AL.del m2,?_,?_,?_,rfl⟩
 ·unfold Ya;rw [hR.Tombs hn,zB,zA,Z8a hy (wb L) (by omega),zA];simp only [];rw [hR.Live' hn,zB,zA,h1,zB,zA]
 ·unfold Vv;rw [wMa hy xc L (by omega),zA];simp only [];rw [Xi (by omega) (by omega),hlen]
 ·refine ⟨hR.ctx,hR.xctx,hR.xok,by rw [hlive];exact h2,by rw [htomb];exact hdel,fun h=>h3 (hR.n1 h),fun h=>by rw [hR.n2 h];exact z5a _,hsP,fun z hz=>?_,fun d hd=>?_,fun z hz hk=>?_,hR.wl,hR.wt,by omega⟩
  ·obtain ⟨x,hx,_,rfl⟩:=(mem_p z).1 hz;exact uCa (hR.good x hx)
  ·obtain ⟨z,hz,h⟩:=wj.1 hd;obtain ⟨x,hx,_,rfl⟩:=(mem_p z).1 hz;refine hR.dots d (wj.2 ⟨x,hx,?_⟩);rw [WH] at h;exact h.imp (fun h=>h) (qQ y x d)
  ·obtain ⟨x,hx,_,rfl⟩:=(mem_p z).1 hz;rw [Wp] at hk;rw [WH,<- Bool.not_eq_true,JB];rintro ⟨w,hw,h⟩;obtain ⟨v,hv,_,rfl⟩:=(mem_p w).1 hw;have:=hR.alive x hx hk;rw [<- Bool.not_eq_true,JB] at this;exact this ⟨v,hv,qQ y v _ h⟩
theorem Rep.Same (hR:Rep n W c xc nl1 m1 nl2 m2 L) (hn:n <= 100000000) {n':Nat} {W' c' xc':List PT} {a b:Bool} {p q:List (DT × EV)} {L':List EV} (hR':Rep n' W' c' xc' a p b q L') (hn':n' <= 100000000) :
  ZS c c' nl1 m1 nl2 m2 a p b q = pure (decide (C.zQ W = C.zQ W') && decide (L = L')):=by
 unfold ZS;have o1:C.Ok (C.zQ W):=hR.ctx ▸ hR.okc hn;have o2:C.Ok (C.zQ W'):=hR'.ctx ▸ hR'.okc hn';have hA:=F.eAll_eq L L' (by have:=hR.ll;omega) (fun e he=>by have:=hR.kl e he;omega);rw [hR.Ctx hn,zB,zA,hR'.Ctx hn',zB,zA,C.Same_eq _ _ o1.sm o2.sm,zB,zA,C.xg (C.yM W),C.xg (C.yM W'),hR.All hn,zB,zA,hR'.All hn',zB,zA,hA,zB,zA,zh,zA]
end

open E (OkE yG vC)
open F (ua zy yN vQ)

section
variable {n:Nat} {W c xc:List PT} {nl1:Bool} {m1:List (DT × EV)} {nl2:Bool} {m2:List (DT × EV)} {L:List EV}
theorem Z9a (hR:Rep n W c xc nl1 m1 nl2 m2 L) {e:EV} (oe:OkE e):OkE (uBa W L e).1:=by
 have hz:OkE ⟨⟨0,0⟩,0,0,0,⟨#[]⟩,[]⟩:=⟨⟨by decide,by decide,by decide,by decide⟩,by decide,by decide,by decide,by decide,(fun d hd=>nomatch hd),by decide⟩
 unfold uBa
 split
 ·exact hz
 ·split
  ·exact hz
  ·split
   ·exact hz
   ·rename_i h
    refine ⟨oe.dot,oe.kind,oe.cid,oe.field,oe.text,fun d hd=>?_,by show (qP L e).length <= _;omega⟩;have hd':d ∈ qP L e:=hd;unfold qP at hd';obtain ⟨x,hx,h2⟩:=wj.1 (D.ZA.1 hd');have hxL:=(xE.1 (List.mem_filter.1 hx).1).1;rcases h2 with rfl | h2
    ·exact (hR.good x hxL).2.dot
    ·exact (hR.good x hxL).2.kills d h2
end
structure InA (a:LA):Prop where
 ev:a.event.kills.length <= 300 /\ a.event.text.size <= 200 -> OkE a.event
 dev:∀ p ∈ a.ctx,0 <= p.dev
def xHa (a:LA):Bool:=E.fewE [a.event] 1 && (decide (a.ctx.length <= 30) && a.ctx.all fun p=>decide (p.runs.length <= 30))
def fewA (l:List LA) (most:Nat):Bool:=decide (l.length <= most) && l.all xHa
theorem rFewA_eq (l:List LA) (most:Nat) (hm:most <= 1000000):Qn l (most:Int) = pure (if fewA l most = true then 1 else 0):=by
 unfold Qn fewA
 by_cases h:l.length <= most
 ·have hd:decide ((most:Int) < (l.length:Int)) = false:=by simp;omega
  have:=xX (body:=Wc l) l (fun i=>(i:Int)) (fun _ x=>xHa x) (Ex.brk ()) (Ex.ret (0:Int)) (fun i x hx hi=>by
   have hd:decide ((i:Int) < (l.length:Int)) = true:=by simpa using hi
   unfold Wc;have h1:=E.Ux [x.event] 1 (by decide);have h1':VF [x.event] 1 = pure (E.fewE [x.event] 1):=h1;simp only [hd,cond_true,zF hx,zA,h1',zB,C.Ux,zo (show i < 9223372036854775807 by omega)];unfold xHa
   cases E.fewE [x.event] 1 with
   | false=>rfl
   | true=>
    simp only [Bool.not_true,cond_false,zA,Bool.true_and]
    cases (decide (x.ctx.length <= 30) && x.ctx.all fun p=>decide (p.runs.length <= 30)) <;> rfl) (by
   unfold Wc;simp [zA])
  rw [hd,cond_false,show (0:Int) = ((0:Nat):Int) from rfl,this,zA,decide_eq_true h,Bool.true_and];have hz:(l.zipIdx.all fun y=>xHa y.1) = l.all xHa:=E.XX l xHa;rw [hz]
  cases l.all xHa <;> rfl
 ·have hd:decide ((most:Int) < (l.length:Int)) = true:=by simp;omega
  rw [hd,cond_true,decide_eq_false h,Bool.false_and]
  rfl
theorem fewA_mem {l:List LA} {most:Nat} (h:fewA l most = true) (hi:∀ a ∈ l,InA a):l.length <= most /\ ∀ a ∈ l,OkE a.event /\ C.Ok a.ctx /\ a.ctx.length <= 30 /\ C.xC a.ctx <= 900:=by
 unfold fewA at h;rw [Bool.and_eq_true,decide_eq_true_eq,List.all_eq_true] at h;refine ⟨h.1,fun a ha=>?_⟩;have h2:=h.2 a ha;unfold xHa at h2;rw [Bool.and_eq_true] at h2;have h3:=(E.wIa h2.1).2 a.event (by simp);have h4:=C.zja h2.2;exact ⟨(hi a ha).ev h3,C.ZTa (hi a ha).dev h4,h4⟩

open E (OkE yG vC)
open F (ua zy yN vQ)

def exB : EV:=⟨⟨1,2⟩,2,281474976710657,0,⟨#[]⟩,[]⟩
theorem okB : OkE exB:=⟨⟨by decide,by decide,by decide,by decide⟩,by decide,by decide,by decide,by decide,(fun d hd=>nomatch hd),by decide⟩
open E (OkE yG vC)
open F (ua zy yN vQ vp UV)

def badF (l:List EV) (i:Nat) (e:EV):Bool:=!yG e || (vp l i e || (decide (e.kind = 1) && vQ l e.dot))
def fromB (c:List PT) (l:List EV):Bool:=(l.zipIdx.all fun y=>!badF l y.2 y.1) && (decide (c = C.zQ c) && decide (UV (yN l) c = []))
theorem xIa {l:List EV} {e:EV} (h:∀ x ∈ l,zP x.dot e.dot = true):z4a l e = l ++ [e]:=by
 unfold z4a;rw [List.filter_eq_self.2 h,List.filter_eq_nil_iff.2 fun x hx=>by rw [D.XT (h x hx)];simp];simp
theorem vRa {l:List EV} {i:Nat} {x:EV} (hx:l[i]? = some x) (hs:vC (l.take i)) (hp:vp l i x = false):vC (l.take (i + 1)) /\ ∀ z ∈ l.take i,zP z.dot x.dot = true:=by
 have htk:l.take (i + 1) = l.take i ++ [x]:=by rw [List.take_add_one,hx];rfl
 have hlt:i < l.length:=(List.getElem?_eq_some_iff.1 hx).1;have hall:∀ z ∈ l.take i,zP z.dot x.dot = true:=by
  intro z hz;obtain ⟨j,hj⟩:=List.getElem?_of_mem hz;have hji:j < (l.take i).length:=(List.getElem?_eq_some_iff.1 hj).1;rw [List.length_take] at hji;obtain ⟨y,hy⟩:∃ y,l[i - 1]? = some y:=⟨_,List.getElem?_eq_getElem (by omega)⟩
  unfold vp at hp;rw [decide_eq_true (show 0 < i by omega),Bool.true_and,hy] at hp;have hyx:zP y.dot x.dot = true:=V.XM.1 (by simpa using hp)
  by_cases e:j = i - 1
  ·have:(l.take i)[j]? = l[j]?:=by rw [List.getElem?_take,if_pos (by omega)]
   rw [this,e,hy] at hj
   cases hj;exact hyx
  ·have h2:(l.take i)[i - 1]? = some y:=by rw [List.getElem?_take,if_pos (by omega)];exact hy
   have h3:=List.pairwise_iff_getElem.1 hs j (i - 1) (by rw [List.length_take];omega) (by rw [List.length_take];omega) (by omega);rw [(List.getElem?_eq_some_iff.1 hj).2,(List.getElem?_eq_some_iff.1 h2).2] at h3;exact D.XS h3 hyx
 refine ⟨?_,hall⟩;rw [htk];unfold vC;rw [List.pairwise_append];exact ⟨hs,by simp,fun a ha b hb=>by rw [List.mem_singleton.1 hb];exact hall a ha⟩
theorem xJa (l:List EV) (x:EV):xl (l ++ [x]) = xl l ++ (if x.kind = 1 then [x] else []):=by
 unfold xl;rw [List.filter_append,List.filter_cons];by_cases h:x.kind = 1 <;> simp [h]
theorem xKa (l:List EV) (x:EV):wb (l ++ [x]) = wb l ++ (if x.kind = 2 then [x] else []):=by
 unfold wb;rw [List.filter_append,List.filter_cons];by_cases h:x.kind = 2 <;> simp [h]
theorem from_bad {l:List EV} (hl:l.length <= 1000000) (hk:∀ e ∈ l,OkE e /\ e.kills.length <= 300) {i:Nat} {x:EV} (hx:l[i]? = some x) :
  (M.bind (M.det (wH x)) fun v84=>cond (!v84) (M.pure true) (cond (decide (0 < (i:Int)))
   (M.bind (M.idx l (IntKind.i64.wrap ((i:Int) - 1))) fun x88=>M.bind (M.det (vR x88.dot x.dot)) fun v90=>cond (decide (0 <= v90)) (M.pure true) (cond (decide (x.kind = 1)) (M.bind (M.det (vM l x.dot)) fun v94=>M.pure v94) (M.pure false)))
   (cond (decide (x.kind = 1)) (M.bind (M.det (vM l x.dot)) fun v97=>M.pure v97) (M.pure false))):M Bool) = pure (badF l i x):=by
 have hm:=List.mem_of_getElem? hx;have hi:i < l.length:=(List.getElem?_eq_some_iff.1 hx).1;rw [E.uF (hk x hm).1,zB,zA,F.Zwa l x.dot (by omega) (fun e he=>by have:=(hk e he).2;omega),zB,zA];have hp:=F.z1a (x:=x) hi (by omega) vR D.QO (fun b=>(cond b (M.pure true) (cond (decide (x.kind = 1)) (M.pure (vQ l x.dot)) (M.pure false)):M Bool));simp only [cond_false] at hp;rw [hp];unfold badF
 cases yG x <;> cases vp l i x <;> cases decide (x.kind = 1) <;> rfl
theorem YAa {l:List EV} (hl:l.length <= 1000000) (hk:∀ e ∈ l,OkE e /\ e.kills.length <= 300) :
  ∀ (k i:Nat) (nl2:Bool) (m2:List (DT × EV)) (nl1:Bool) (m1:List (DT × EV)),i + k = l.length -> vC (l.take i) -> (∀ e ∈ l.take i,yG e = true) -> Holds m1 (xl (l.take i)) -> Holds m2 (wb (l.take i)) -> (nl1 = true -> m1 = []) -> (nl2 = true -> m2 = []) ->
   if ((l.drop i).zipIdx i).all (fun y=>!badF l y.2 y.1) = true then ∃ b q a p,loop (yD l) ((i:Int),nl2,m2,nl1,m1) = pure (Ex.brk (b,q,a,p)) /\ vC l /\ (∀ e ∈ l,yG e = true) /\ Holds p (xl l) /\ Holds q (wb l) /\ (a = true -> p = []) /\ (b = true -> q = [])
   else loop (yD l) ((i:Int),nl2,m2,nl1,m1) = pure (Ex.ret (.inl ())):=by
 intro k
 induction k with
 | zero=>
  intro i nl2 m2 nl1 m1 hi hs hg h1 h2 h3 h4;have e:i = l.length:=by omega
  subst e;rw [List.drop_length,if_pos (by simp)];rw [List.take_length] at hs hg h1 h2;refine ⟨nl2,m2,nl1,m1,?_,hs,hg,h1,h2,h3,h4⟩;refine zY ?_;unfold yD;simp
 | succ k ih=>
  intro i nl2 m2 nl1 m1 hi hs hg h1 h2 h3 h4;obtain ⟨x,hx⟩:∃ x,l[i]? = some x:=⟨_,List.getElem?_eq_getElem (by omega)⟩
  have hm:=List.mem_of_getElem? hx;have hdr:l.drop i = x :: l.drop (i + 1):=by
   rw [List.drop_eq_getElem_cons (by omega)]
   congr 1
   rw [List.getElem?_eq_getElem (by omega)] at hx;exact Option.some.inj hx
  have htk:l.take (i + 1) = l.take i ++ [x]:=by rw [List.take_add_one,hx];rfl
  have hd:decide ((i:Int) < (l.length:Int)) = true:=by simp;omega
  have hb:=from_bad hl hk hx;rw [hdr,List.zipIdx_cons,List.all_cons]
  cases hbad:badF l i x with
  | true=>
   simp only [Bool.not_true,Bool.false_and,Bool.false_eq_true,if_false];refine zY ?_;unfold yD;simp only [hd,cond_true,zF hx,zA];rw [hb,zA,hbad]
   rfl
  | false=>
   simp only [Bool.not_false,Bool.true_and];have hgx:yG x = true:=by
    unfold badF at hbad;simp only [Bool.or_eq_false_iff,Bool.not_eq_false'] at hbad;exact hbad.1
   have hpx:vp l i x = false:=by
    unfold badF at hbad;simp only [Bool.or_eq_false_iff] at hbad;exact hbad.2.1
   obtain ⟨hs',hall⟩:=vRa hx hs hpx;have hg':∀ e ∈ l.take (i + 1),yG e = true:=fun e he=>by
    rw [htk] at he;rcases List.mem_append.1 he with h | h
    ·exact hg e h
    ·rw [List.mem_singleton.1 h];exact hgx
   have hxk:=(hk x hm).2;rcases qO hgx with hkd | hkd
   ·have hb2:yD l ((i:Int),nl2,m2,nl1,m1) = pure (.next (((i + 1:Nat):Int),nl2,m2,false,AL.set m1 x.dot x)):=by
     unfold yD;simp only [hd,cond_true,zF hx,zA];rw [hb,zA,hbad,decide_eq_true hkd];simp only [cond_false,cond_true,vNa (show x.kills.length <= 1000000000000 by omega) h3,zB,zA,YF,zo (show i < 9223372036854775807 by omega)]
    rw [zl hb2];refine ih (i + 1) nl2 m2 false _ (by omega) hs' hg' ?_ ?_ (fun h=>by cases h) h4
    ·rw [htk,xJa,if_pos hkd,<- xIa (fun z hz=>hall z (xE.1 hz).1)];exact h1.add (zO hs _) fun z hz e=>by have:=hall z (xE.1 hz).1;rw [e,D.Wy] at this;cases this
    ·rw [htk,xKa,if_neg (by omega),List.append_nil];exact h2
   ·have hb2:yD l ((i:Int),nl2,m2,nl1,m1) = pure (.next (((i + 1:Nat):Int),false,AL.set m2 x.dot x,nl1,m1)):=by
     unfold yD;simp only [hd,cond_true,zF hx,zA];rw [hb,zA,hbad,decide_eq_false (show ¬ x.kind = 1 by omega)];simp only [cond_false,vNa (show x.kills.length <= 1000000000000 by omega) h4,zB,zA,YF,zo (show i < 9223372036854775807 by omega)]
    rw [zl hb2];refine ih (i + 1) false _ nl1 m1 (by omega) hs' hg' ?_ ?_ h3 (fun h=>by cases h)
    ·rw [htk,xJa,if_neg (by omega),List.append_nil];exact h1
    ·rw [htk,xKa,if_pos hkd,<- xIa (fun z hz=>hall z (vD.1 hz).1)];exact h2.add (zO hs _) fun z hz e=>by have:=hall z (vD.1 hz).1;rw [e,D.Wy] at this;cases this
theorem drop_nil {l:List DT} {c:List PT} (h:UV l c = []):∀ d ∈ l,C.ve c d.dev d.n = true:=fun d hd=>by
 cases hc:C.ve c d.dev d.n with
 | true=>rfl
 | false=>
  have:d ∈ UV l c:=D.ZA.2 (List.mem_filter.2 ⟨hd,by simp [hc]⟩);rw [h] at this;cases this
theorem From_eq {c:List PT} {l:List EV} (hc:C.Ok c) {n:Nat} (h1:c.length <= n) (h2:C.xC c <= n) (hl:l.length <= n) (hn:n <= 1000000) (hk:∀ e ∈ l,OkE e /\ e.kills.length <= 300) :
  if fromB c l = true then ∃ a p b q,xW c l = pure (.inr (C.zQ c,a,p,b,q)) /\ Rep n c (C.zQ c) c a p b q l else xW c l = pure (.inl ()):=by
 have hlen:=F.vg l 300 fun e he=>(hk e he).2
 have hdl:(yN l).length <= (zy l).length:=D.Wn _;have key:=YAa (l:=l) (by omega) hk l.length 0 true [] true [] (by omega) (by simp [vC]) (by simp) (by simp [Holds,xl]) (by simp [Holds,wb]) (fun _=>rfl) (fun _=>rfl);rw [List.drop_zero] at key;have h0:loop (yD l) (((0:Nat):Int),true,[],true,[]) = loop (yD l) (0,true,[],true,[]):=rfl;rw [h0] at key;unfold fromB;unfold xW;rw [C.VR c hc.sm,zB,zA]
 cases ha:(l.zipIdx.all fun y=>!badF l y.2 y.1) with
 | false=>
  rw [ha,if_neg (by simp)] at key;rw [Bool.false_and,if_neg (by simp),key,zA,JJ]
 | true=>
  rw [ha,if_pos rfl] at key;obtain ⟨b,q,a,p,e1,hs,hg,g1,g2,g3,g4⟩:=key;rw [e1,zA,YF,Bool.true_and];simp only [];rw [C.uF c hc.sm,zB,zA,F.WE l (by omega) (by omega),zB,zA,F.Zxa (yN l) c (by omega) hc.sm,zB,zA];have hdec:decide (0 < ((UV (yN l) c).length:Int)) = !decide (UV (yN l) c = []):=by
   cases UV (yN l) c with
   | nil=>rfl
   | cons x r=>simp <;> omega
  rw [hdec]
  cases hcn:decide (c = C.zQ c) with
  | false=>rw [Bool.false_and,if_neg (by simp)];rfl
  | true=>
   rw [Bool.true_and,Bool.not_true,cond_false,zA]
   cases hdn:decide (UV (yN l) c = []) with
   | false=>rw [if_neg (by simp)];rfl
   | true=>
    rw [if_pos rfl];refine ⟨a,p,b,q,rfl,⟨rfl,fun _ _=>rfl,hc,g1,g2,g3,g4,hs,fun e he=>⟨hg e he,(hk e he).1⟩,fun d hd=>drop_nil (of_decide_eq_true hdn) d (D.ZA.2 hd),fun e he h1=>?_,h1,h2,hl⟩⟩;rw [List.all_eq_true] at ha;obtain ⟨i,hi⟩:=List.getElem?_of_mem he;have:=ha (e,i) (by rw [List.mem_zipIdx_iff_getElem?];exact hi);simp only [Bool.not_eq_true',badF,Bool.or_eq_false_iff,Bool.and_eq_false_iff] at this;rcases this.2.2 with h | h
    ·exact absurd h1 (of_decide_eq_false h)
    ·exact h
open E (OkE yG vC)
open F (ua zy yN vQ vp UV)

theorem wNa {l:List EV} (hs:vC l) {i:Nat} {x:EV} (hx:l[i]? = some x):vp l i x = false:=by
 unfold vp
 by_cases h:0 < i
 ·have hl:=(List.getElem?_eq_some_iff.1 hx).1;obtain ⟨y,hy⟩:∃ y,l[i - 1]? = some y:=⟨_,List.getElem?_eq_getElem (by omega)⟩
  have h3:=List.pairwise_iff_getElem.1 hs (i - 1) i (by omega) hl (by omega);rw [(List.getElem?_eq_some_iff.1 hy).2,(List.getElem?_eq_some_iff.1 hx).2] at h3;have:=V.XM.2 h3;rw [hy];simp;omega
 ·simp [h]
section
variable {n:Nat} {W c xc:List PT} {nl1:Bool} {m1:List (DT × EV)} {nl2:Bool} {m2:List (DT × EV)} {L:List EV}
theorem Rep.fromB (hR:Rep n W c xc nl1 m1 nl2 m2 L):fromB (C.zQ W) L = true:=by
 unfold G.fromB;rw [Bool.and_eq_true,Bool.and_eq_true];refine ⟨List.all_eq_true.2 fun y hy=>?_,by rw [C.xg (C.yM W)];simp,?_⟩
 ·have hx:L[y.2]? = some y.1:=List.mem_zipIdx_iff_getElem?.1 hy;have hm:=List.mem_of_getElem? hx;unfold badF;rw [(hR.good _ hm).1,wNa hR.srt hx]
  by_cases hk:y.1.kind = 1
  ·rw [hR.alive _ hm hk];simp
  ·simp [hk]
 ·rw [decide_eq_true_eq];unfold UV;rw [List.filter_eq_nil_iff.2 fun d hd=>by rw [C.xx,hR.dots d (D.ZA.1 hd)];simp]
  rfl
theorem Rep.From (hR:Rep n W c xc nl1 m1 nl2 m2 L) (hn:n <= 500000) :
  ∃ a p b q,xW (C.zQ W) L = pure (.inr (C.zQ W,a,p,b,q)) /\ Rep (2 * n) (C.zQ W) (C.zQ W) (C.zQ W) a p b q L:=by
 have hwl:=hR.wl;have hwt:=hR.wt;have hll:=hR.ll;have h1:=C.yw W;have h2:=C.yx W;have h:=From_eq (c:=C.zQ W) (l:=L) (UX (by omega) (by omega)) (n:=2 * n) (by omega) (by omega) (by omega) (by omega) (fun e he=>⟨(hR.good e he).2,by have:=hR.kl e he;omega⟩);rw [hR.fromB,if_pos rfl,C.xg (C.yM W)] at h;exact h
end
open E (OkE yG vC)
open F (ua zy yN vQ)

section
variable {n:Nat} {W c xc:List PT} {nl1:Bool} {m1:List (DT × EV)} {nl2:Bool} {m2:List (DT × EV)} {L:List EV}
def putW (s:List PT × List EV) (e:EV):List PT × List EV:=if yG e = true /\ C.ve s.1 e.dot.dev e.dot.n = false then (s.1 ++ C.yU (yN [e]),QT s.2 e) else s
theorem Rep.putS (hR:Rep n W c xc nl1 m1 nl2 m2 L) (hn:n <= 100000000) {e:EV} (oe:OkE e) :
  ∃ k c' xc' nl1' m1' nl2' m2',xS e c nl1 m1 nl2 m2 = pure (k,c',nl1',m1',nl2',m2') /\ Yy ⟨xc,L⟩ e = pure (⟨xc',(putW (W,L) e).2⟩,k) /\ Rep (n + 600) (putW (W,L) e).1 c' xc' nl1' m1' nl2' m2' (putW (W,L) e).2 /\ (k ≠ 0 -> xc' = xc /\ (putW (W,L) e).2 = L):=by
 unfold putW
 cases g:yG e with
 | false=>
  rw [if_neg (by simp)];refine ⟨1,c,xc,nl1,m1,nl2,m2,?_,?_,hR.mono (by omega),fun _=>⟨rfl,rfl⟩⟩
  ·unfold xS;rw [E.uF oe,zB,zA,g];rfl
  ·unfold Yy;rw [E.YD oe,zB,zA,g];rfl
 | true=>
  cases hc:C.ve W e.dot.dev e.dot.n with
  | true=>
   rw [if_neg (by simp)];refine ⟨7,c,xc,nl1,m1,nl2,m2,?_,?_,hR.mono (by omega),fun _=>⟨rfl,rfl⟩⟩
   ·unfold xS;rw [E.uF oe,zB,zA,g,Bool.not_true,cond_false,hR.has hn,zB,zA,hc];rfl
   ·unfold Yy;rw [E.YD oe,zB,zA,g,Bool.not_true,cond_false,show (⟨xc,L⟩:RB).ctx = xc from rfl,hR.rhas,zB,zA,hc];rfl
  | false=>
   rw [if_pos (by simp)];obtain ⟨c',xc',a,p,b,q,h1,h2,h3⟩:=hR.put hn oe g hc;exact ⟨0,c',xc',a,p,b,q,h1,h2,h3,fun h=>absurd rfl h⟩
end
section
variable {n:Nat} {W c xc:List PT} {nl1:Bool} {m1:List (DT × EV)} {nl2:Bool} {m2:List (DT × EV)} {L:List EV}
theorem Rep.again (hR:Rep n W c xc nl1 m1 nl2 m2 L) (hn:n <= 500000) :
  ∃ a p b q,ul xc = pure (C.zQ W) /\ xW (C.zQ W) L = pure (.inr (C.zQ W,a,p,b,q)) /\ Rep (2 * n) W (C.zQ W) xc a p b q L:=by
 obtain ⟨a,p,b,q,e,R1⟩:=hR.From hn;refine ⟨a,p,b,q,?_,e,{ R1 with ctx:=rfl,xctx:=hR.xctx,xok:=hR.xok,dots:=hR.dots,wl:=by have:=hR.wl;omega,wt:=by have:=hR.wt;omega }⟩;rw [C.jq xc hR.xok,C.Js hR.xctx]
end
open E (OkE yG vC)
open F (ua zy yN vQ Zg OkD)

section
variable {n:Nat} {W c xc:List PT} {nl1:Bool} {m1:List (DT × EV)} {nl2:Bool} {m2:List (DT × EV)} {L:List EV}
end
section
variable {n:Nat} {W c xc:List PT} {nl1:Bool} {m1:List (DT × EV)} {nl2:Bool} {m2:List (DT × EV)} {L:List EV}
end

open E (OkE yG vC)
open F (ua zy yN vQ Zg OkD)

def fewD (d:DL):Bool:=F.fewC d.from_ && (F.fewC d.to_ && E.fewE d.events 30)
theorem fewD_eq (d:DL):Qm d = pure (fewD d):=by
 unfold Qm fewD F.fewC;rw [C.Ux,C.Ux,show VF d.events 30 = pure (E.fewE d.events 30) from E.Ux d.events 30 (by decide)];simp only [zB,zA,zh]
structure InD (d:DL):Prop where
 from_:∀ p ∈ d.from_,0 <= p.dev
 to_:∀ p ∈ d.to_,0 <= p.dev
 evs:∀ e ∈ d.events,e.kills.length <= 300 /\ e.text.size <= 200 -> OkE e
theorem okD_few {d:DL} (h:InD d) (hf:fewD d = true):OkD d /\ d.events.length <= 30 /\ d.to_.length <= 30 /\ C.xC d.to_ <= 900:=by
 unfold fewD at hf;simp only [Bool.and_eq_true] at hf;obtain ⟨f1,f2,f3⟩:=hf;obtain ⟨g1,g2⟩:=E.wIa f3;have t1:=C.zja (c:=d.from_) f1;have t2:=C.zja (c:=d.to_) f2;exact ⟨⟨C.ZTa h.from_ t1,C.ZTa h.to_ t2,fun e he=>h.evs e he (g2 e he),by omega,fun e he=>(g2 e he).1⟩,g1,t2.1,t2.2⟩
section
variable {n:Nat} {W c xc:List PT} {nl1:Bool} {m1:List (DT × EV)} {nl2:Bool} {m2:List (DT × EV)} {L:List EV}
end
open E (OkE yG vC yy)
open D (vl)
open F (ua zy yN vQ Zg OkD)

theorem xLa {e:EV} (h:yG e = true):e.text.size <= 60:=by
 simp only [yG,E.wGa,E.zya,E.xCa,Bool.and_eq_true,Bool.or_eq_true,decide_eq_true_eq] at h;rcases h.2.1 with h | h
 ·exact h.2.2.1
 ·rw [h.2.2];decide
theorem ZG {c:List PT} (h:∀ p ∈ c,p.dev <= 65535) (h1:c.length <= 1000000) (h2:C.xC c <= 1000000):(vl c).length <= 60000000:=by
 have hn:=C.yw c;have ht:=C.yx c;have hl:=D.w7a (D.XU h) (by omega) (by omega);rw [vl];omega
theorem YBa {a b:List PT} (h:C.zQ a = C.zQ b):vl a = vl b:=by unfold vl;rw [h]
section
variable {n:Nat} {W c xc:List PT} {nl1:Bool} {m1:List (DT × EV)} {nl2:Bool} {m2:List (DT × EV)} {L:List EV}
theorem Rep.encode (hR:Rep n W c xc nl1 m1 nl2 m2 L) (hn:n <= 130000) (hd:∀ p ∈ W,p.dev <= 65535) :
  xd c nl1 m1 nl2 m2 = pure (vl W ++ yy L):=by
 have hwl:=hR.wl;have hwt:=hR.wt;have hll:=hR.ll;have hn1:=C.yw W;have hn2:=C.yx W;have hdn:∀ p ∈ C.zQ W,p.dev <= 65535:=fun p hp=>(D.XU hd p hp).d1
 have on:=UX (W:=W) (by omega) (by omega);have e1:=ZG hd (by omega) (by omega);have e3:=E.UU (l:=L) (fun e he=>(hR.good e he).2) (fun e he=>⟨by have:=hR.kl e he;omega,by have:=xLa (hR.good e he).1;omega⟩);have e4:=N.yL (v:=(L.length:Int)) (by omega);have hc:vl (C.zQ W) = vl W:=YBa (C.xg (C.yM W));have hx:C.zQ xc = C.zQ (C.zQ W):=by rw [C.Js hR.xctx,C.xg (C.yM W)]
 unfold xd;rw [hR.Ctx (by omega),zB,zA,D.UO on hdn (by omega) [] (by simp),zB,zA,List.nil_append,hc,hR.All (by omega),zB,zA,E.qK (fun e he=>(hR.good e he).2) (by omega) _ (by omega),zB,zA,
  N.w2a _ (by unfold yy;simp only [List.length_append];omega),zB,zA]
end
theorem equal21 {a b:List Int}:Ve a b = pure (decide (Qh a = Qh b)):=rfl
theorem JC : vl [] = [0] /\ yy [] = [0]:=by
 have e0:N.vk 0 = [0]:=by show (N.VS 0:Int) :: N.be 0 (N.VS 0) = _;rw [N.WB];rfl
 refine ⟨?_,?_⟩
 ·show N.vk 0 ++ [] = _;rw [e0];rfl
 ·show N.vk 0 ++ [] = _;rw [e0];rfl
theorem works21 : Xq = pure true:=by
 have h1:=Rep.new.encode (by omega) (fun p hp=>absurd hp (List.not_mem_nil));have hc:=D.UO C.ok_nil (fun p hp=>absurd hp (List.not_mem_nil)) (by decide) [] (by simp);have he:=E.qK (l:=[]) (fun p hp=>absurd hp (List.not_mem_nil)) (by simp) [0] (by decide);rw [JC.1,JC.2] at h1;rw [JC.1] at hc;rw [JC.2] at he;have h2:ww = pure [0,0]:=by
  unfold ww;rw [show vt = pure [] from rfl,zB,zA,hc,zB,zA,show vu = pure [] from rfl,zB,zA,List.nil_append,he,zB,zA,N.w2a _ (by decide),zB,zA]
  rfl
 have h1':xd [] true [] true [] = pure [0,0]:=h1;unfold Xq Ud;simp only [zB,zA,h1',h2,equal21,decide_true,cond_true]
end Go.Ep.M.G

namespace Go.Ep.M.G
open Go
open E (OkE yG vC yy allS)
open D (vl UQ qX fin)
open F (ua zy yN vQ Zg OkD)
open N (RS ZZa Sim)

def Wz (s:RS):DL:=⟨(UQ s).1,(UQ (UQ s).2).1,(allS 4096 (UQ (UQ s).2).2).1⟩
def YCa (s:RS):RS:=qX (!Zg (Wz s)) (allS 4096 (UQ (UQ s).2).2).2
def YDa (s:RS):DL × RS:=fin ⟨[],[],[]⟩ (Wz s) (YCa s)
theorem same20 {d:DL} (h:OkD d):jV d d = pure true:=by
 unfold jV;rw [C.jr _ _ h.from_ h.from_,zB,zA,decide_eq_true rfl,cond_true,C.jr _ _ h.to_ h.to_,zB,zA,decide_eq_true rfl,cond_true,E.rAll_eq _ _ (by have:=h.len;omega) (fun e he=>by have:=h.kills e he;omega),zB,zA,decide_eq_true rfl,zA]
open E (OkE yG vC yy allS)
open D (vl UQ qX fin)
open F (ua zy yN vQ Zg OkD vp)
open N (RS ZZa Sim)

theorem vSa (W:List PT) (L:List EV) (hs:vC L) (e:EV):(putW (W,L) e).2.length <= L.length + 1:=by
 unfold putW
 split
 ·have h1:=vMa (L.filter fun x=>!decide (x.kind = 1) || !ua e.kills x.dot) e (zO hs _);have h2:(L.filter fun x=>!decide (x.kind = 1) || !ua e.kills x.dot).length <= L.length:=List.length_filter_le _ _;show (QT L e).length <= _;unfold QT;omega
 ·exact Nat.le_succ _
theorem YEa (y:List PT) (L:List EV):(Zh y L).length <= L.length:=by unfold Zh;rw [List.length_map];exact List.length_filter_le _ _
section
variable {n:Nat} {W c xc:List PT} {nl1:Bool} {m1:List (DT × EV)} {nl2:Bool} {m2:List (DT × EV)} {L:List EV}
theorem do_loopB (l:List LA) (hlen:l.length <= 25) (hA:∀ a ∈ l,OkE a.event /\ C.Ok a.ctx /\ a.ctx.length <= 30 /\ C.xC a.ctx <= 900)
  {P:List PT -> Prop} (hP1:∀ W e,OkE e -> P W -> P (W ++ C.yU (yN [e]))) (hP2:∀ W,∀ a ∈ l,P W -> P (W ++ a.ctx)) :
  ∀ (q k:Nat) (W c xc:List PT) (a:Bool) (p:List (DT × EV)) (b:Bool) (r:List (DT × EV)) (L:List EV),k + q = l.length -> Rep (3000 * k) W c xc a p b r L -> P W -> L.length <= k ->
   ∃ W c xc' a p b r L',loop (Xr l) ((k:Int),xc,L) = pure (xc',L') /\ Rep (3000 * l.length) W c xc' a p b r L' /\ P W /\ L'.length <= l.length:=by
 have hP3:∀ W L e,OkE e -> P W -> P (putW (W,L) e).1:=fun W L e he hw=>by
  unfold putW
  split
  ·exact hP1 W e he hw
  ·exact hw
 intro q
 induction q with
 | zero=>
  intro k W c xc a p b r L hk hR hp hL;have hkl:k = l.length:=by omega
  subst hkl;refine ⟨W,c,xc,a,p,b,r,L,zY ?_,hR,hp,hL⟩;unfold Xr;simp
 | succ q ih=>
  intro k W c xc a p b r L hk hR hp hL;have hlt:k < l.length:=by omega
  obtain ⟨x,hx⟩:∃ x,l[k]? = some x:=⟨_,List.getElem?_eq_getElem hlt⟩
  obtain ⟨oe,oc,hc1,hc2⟩:=hA x (List.mem_of_getElem? hx);have hd:decide ((k:Int) < (l.length:Int)) = true:=by simpa using hlt
  have hn:3000 * k <= 75000:=by omega
  have step:∃ W' c' xc' a' p' b' r' L',Xr l ((k:Int),xc,L) = pure (.next (((k + 1:Nat):Int),xc',L')) /\ Rep (3000 * (k + 1)) W' c' xc' a' p' b' r' L' /\ P W' /\ L'.length <= k + 1:=by
   unfold Xr
   by_cases k0:x.kind = 0
   ·obtain ⟨cd,c',xc',a,p,b,q,_,e2,hR',_⟩:=hR.putS (by omega) oe;refine ⟨_,c',xc',a,p,b,q,_,?_,hR'.mono (by omega),hP3 W L _ oe hp,by have:=vSa W _ hR.srt x.event;omega⟩;simp only [hd,cond_true,zF hx,zA,decide_eq_true k0,e2,zB,zo (show k < 9223372036854775807 by omega)]
   ·by_cases k1:x.kind = 1
    ·obtain ⟨_,hm2⟩:=hR.make (by omega) oe;obtain ⟨cd,c',xc',a,p,b,q,_,e2,hR',_⟩:=hR.putS (by omega) (Z9a hR oe);refine ⟨_,c',xc',a,p,b,q,_,?_,hR'.mono (by omega),hP3 W L _ (Z9a hR oe) hp,by have:=vSa W _ hR.srt (uBa W L x.event).1;omega⟩;simp only [hd,cond_true,cond_false,zF hx,zA,decide_eq_false k0,decide_eq_true k1,hm2,e2,zB,zo (show k < 9223372036854775807 by omega)]
    ·by_cases k2:x.kind = 2
     ·obtain ⟨c',xc',_,e2,hR'⟩:=hR.see (by omega) oc (k:=900) (by omega) hc2 (by omega);refine ⟨_,c',xc',_,_,_,_,_,?_,hR'.mono (by omega),hP2 W x (List.mem_of_getElem? hx) hp,by omega⟩;simp only [hd,cond_true,cond_false,zF hx,zA,decide_eq_false k0,decide_eq_false k1,decide_eq_true k2,e2,zB,zo (show k < 9223372036854775807 by omega)]
     ·by_cases k3:x.kind = 3
      ·obtain ⟨kk,a,p,b,q,_,e2,hR',_⟩:=hR.prune (by omega) oc;refine ⟨_,_,_,a,p,b,q,_,?_,hR'.mono (by omega),hp,by have:=YEa x.ctx L;omega⟩;simp only [hd,cond_true,cond_false,zF hx,zA,decide_eq_false k0,decide_eq_false k1,decide_eq_false k2,decide_eq_true k3,e2,zB,zo (show k < 9223372036854775807 by omega)]
      ·refine ⟨_,_,_,_,_,_,_,_,?_,hR.mono (by omega),hp,by omega⟩;simp only [hd,cond_true,cond_false,zF hx,zA,decide_eq_false k0,decide_eq_false k1,decide_eq_false k2,decide_eq_false k3,zo (show k < 9223372036854775807 by omega)]
  obtain ⟨W',c',xc',a',p',b',r',L',e1,hR',hp',hL'⟩:=step;rw [zl e1];exact ih (k + 1) W' c' xc' a' p' b' r' L' (by omega) hR' hp' hL'
theorem Do_genB (l:List LA) (hlen:l.length <= 25) (hA:∀ a ∈ l,OkE a.event /\ C.Ok a.ctx /\ a.ctx.length <= 30 /\ C.xC a.ctx <= 900)
  {P:List PT -> Prop} (hP0:P []) (hP1:∀ W e,OkE e -> P W -> P (W ++ C.yU (yN [e]))) (hP2:∀ W,∀ a ∈ l,P W -> P (W ++ a.ctx)) :
  ∃ W c xc a p b r L,wba l = pure ⟨xc,L⟩ /\ Rep (3000 * l.length) W c xc a p b r L /\ P W /\ L.length <= l.length:=by
 obtain ⟨W,c,xc,a,p,b,r,L,e,hR,hp,hL⟩:=do_loopB l hlen hA hP1 hP2 l.length 0 [] [] [] true [] true [] [] (by omega) Rep.new hP0 (by simp);refine ⟨W,c,xc,a,p,b,r,L,?_,hR,hp,hL⟩;unfold wba;rw [show (0:Int) = ((0:Nat):Int) from rfl,e,zA]
end
theorem srt_prev {l:List EV} (h:∀ (i:Nat) (x:EV),l[i]? = some x -> vp l i x = false):vC l:=by
 have key:∀ i,i <= l.length -> vC (l.take i):=by
  intro i
  induction i with
  | zero=>intro _;simp [vC]
  | succ i ih=>
   intro hi;have hx:=List.getElem?_eq_getElem (show i < l.length by omega);exact (vRa hx (ih (by omega)) (h i _ hx)).1
 have:=key l.length (Nat.le_refl _)
 rwa [List.take_length] at this
theorem QU {d:DL} (h:Zg d = true):d.from_ = C.zQ d.from_ /\ d.to_ = C.zQ d.to_ /\ d.events.length <= 4096 /\ vC d.events /\ ∀ e ∈ d.events,yG e = true:=by
 unfold Zg at h;simp only [Bool.and_eq_true,decide_eq_true_eq,List.all_eq_true] at h;obtain ⟨h1,h2,_,h4,h5,_⟩:=h;have hb:∀ (i:Nat) (x:EV),d.events[i]? = some x -> F.uIa d i x = false:=fun i x hx=>by
  have:=h5 (x,i) (by rw [List.mem_zipIdx_iff_getElem?];exact hx);simpa using this
 refine ⟨h1,h2,h4,srt_prev fun i x hx=>?_,fun e he=>?_⟩
 ·have:=hb i x hx;simp only [F.uIa,Bool.or_eq_false_iff] at this;exact this.2.1
 ·obtain ⟨i,hi⟩:=List.getElem?_of_mem he;have:=hb i e hi;simp only [F.uIa,Bool.or_eq_false_iff,Bool.not_eq_false'] at this;exact this.1
theorem uEa {d:DL} (od:OkD d) (h1:∀ p ∈ d.from_,p.dev <= 65535) (h2:∀ p ∈ d.to_,p.dev <= 65535) (s1:d.from_.length <= 10000 /\ C.xC d.from_ <= 10000) (s2:d.to_.length <= 10000 /\ C.xC d.to_ <= 10000) (hg:Zg d = true) (r:List Int) :
  YDa (vl d.from_ ++ vl d.to_ ++ yy d.events ++ r,0) = (d,(r,0)):=by
 obtain ⟨g1,g2,g3,g4,g5⟩:=QU hg;have e1:=D.qE h1 (by omega) (vl d.to_ ++ (yy d.events ++ r));have e2:=D.qE h2 (by omega) (yy d.events ++ r);have e3:=E.wJa g4 (fun e he=>⟨od.evs e he,g5 e he⟩) (most:=4096) (by omega) (by omega) r;rw [<- g1] at e1;rw [<- g2] at e2;have hs:(vl d.from_ ++ vl d.to_ ++ yy d.events ++ r,(0:Int)) = (vl d.from_ ++ (vl d.to_ ++ (yy d.events ++ r)),(0:Int)):=by simp only [List.append_assoc]
 rw [hs];have hr:Wz (vl d.from_ ++ (vl d.to_ ++ (yy d.events ++ r)),0) = d:=by
  unfold Wz;rw [e1];dsimp only;rw [e2];dsimp only;rw [e3]
 unfold YDa YCa;rw [hr,hg,e1];dsimp only;rw [e2];dsimp only;rw [e3]
 rfl
theorem uFa {d:DL} (hd:OkD d) (h1:∀ p ∈ d.from_,p.dev <= 65535) (h2:∀ p ∈ d.to_,p.dev <= 65535) (s1:d.from_.length <= 10000 /\ C.xC d.from_ <= 10000) (s2:d.to_.length <= 10000 /\ C.xC d.to_ <= 10000) (hl:d.events.length <= 10000) (ht:∀ e ∈ d.events,e.text.size <= 200) :
  wx d [] = pure (vl d.from_ ++ vl d.to_ ++ yy d.events):=by
 have e1:=ZG h1 (by omega) (by omega);have e2:=ZG h2 (by omega) (by omega);have e3:=E.UU hd.evs (fun e he=>⟨hd.kills e he,ht e he⟩);unfold wx;rw [D.UO hd.from_ h1 (by omega) [] (by simp),zB,zA,List.nil_append,D.UO hd.to_ h2 (by omega) _ (by omega),zB,zA,E.qK hd.evs (by omega) _ (by rw [List.length_append];omega),zB,zA]
theorem YFa {s:RS} (hO:N.Ok s) (hd:OkD (Wz s)):vW s.1 s.2 = pure (YDa s):=by
 obtain ⟨a1,_⟩:=D.qD hO;obtain ⟨b1,_⟩:=D.qD a1;have hg:YR ⟨(UQ s).1,(UQ (UQ s).2).1,(allS 4096 (UQ (UQ s).2).2).1⟩ = pure (Zg (Wz s)):=F.z2a hd;unfold vW;rw [D.Zja hO,zB,zA,D.Zja a1,zB,zA,E.xEa b1 (by omega),zB,zA,hg,zB,zA,D.zua,zA];exact D.wEa ⟨[],[],[]⟩ (Wz s) (YCa s)
theorem xMa (d:DL) (l:List LA) (rest:List Int) (hi:∀ a ∈ l,InA a) (hv:∀ a ∈ l,∀ p ∈ a.ctx,p.dev <= 65535) (hd:InD d) (h1:∀ p ∈ d.from_,p.dev <= 65535) (h2:∀ p ∈ d.to_,p.dev <= 65535) (hb:∀ x ∈ rest,0 <= x /\ x <= 255) (hl:rest.length <= 1048576):uq d l rest = pure true:=by
 unfold uq;rw [fewD_eq,zB,zA,works21]
 cases g1:fewD d with
 | false=>rw [Bool.not_false,cond_true,zA,cond_true,zB,zA]
 | true=>
 have ha:=rFewA_eq l 20 (by omega);rw [show ((20:Nat):Int) = 20 from rfl] at ha;rw [Bool.not_true,cond_false,ha,zB,zA]
 cases g2:fewA l 20 with
 | false=>rw [if_neg (by simp),show decide ((0:Int) = 0) = true by decide,cond_true,zA,cond_true,zB,zA]
 | true=>
 obtain ⟨od,hd1,hd2,hd3⟩:=okD_few hd g1;rw [if_pos rfl,show decide ((1:Int) = 0) = false by decide,cond_false,F.qj od,zB,zA,zA]
 cases hg:Zg d with
 | false=>rw [Bool.not_false,cond_true,zB,zA]
 | true=>
 rw [Bool.not_true,cond_false];obtain ⟨hlen,hA⟩:=fewA_mem g2 hi;have hfd:=g1;unfold fewD at hfd;simp only [Bool.and_eq_true] at hfd;have hd4:=C.zja (c:=d.from_) hfd.1;have htx:=(E.wIa hfd.2.2).2;obtain ⟨W,c,xc,a,p,b,q,L,e1,hR,hW,hLl⟩:=Do_genB l (by omega) hA (P:=fun W=>∀ p ∈ W,p.dev <= 65535) (fun p hp=>nomatch hp)
  (fun W e oe hw p hp=>by
   rcases List.mem_append.1 hp with h | h
   ·exact hw p h
   ·unfold C.yU at h;obtain ⟨d',hd',rfl⟩:=List.mem_map.1 h;obtain ⟨x,hx,h3⟩:=wj.1 (D.ZA.1 (List.mem_filter.1 hd').1);rw [List.mem_singleton.1 hx] at h3;rcases h3 with rfl | h3
    ·exact oe.dot.d1
    ·exact (oe.kills _ h3).d1)
  (fun W a ha hw p hp=>by
   rcases List.mem_append.1 hp with h | h
   ·exact hw p h
   ·exact hv a ha p h)
 obtain ⟨a2,p2,b2,q2,e2,e3,R2⟩:=hR.again (by omega);have hwl:=R2.wl;have hwt:=R2.wt;have f4:=R2.encode (by omega) hW
 -- the book's bytes, read
 have n1:=ZG hW (by omega) (by omega);have n2:=E.UU (l:=L) (fun e he=>(R2.good e he).2) (fun e he=>⟨by have:=R2.kl e he;omega,by have:=xLa (R2.good e he).1;omega⟩);have n3:=N.yL (v:=(L.length:Int)) (by omega);have n4:(vl W ++ yy L).length <= 1000000000:=by rw [List.length_append,yy,List.length_append];omega
 have hn1:=C.yw W;have hn2:=C.yx W;have hBy:N.By (vl W ++ yy L):=fun x hx=>by
  rcases List.mem_append.1 hx with h | h
  ·exact D.wCa W (D.XU hW) (by omega) x h
  ·exact E.vKa (fun e he=>⟨(R2.good e he).2,(R2.good e he).1⟩) (by omega) x h
 have hO:N.Ok (vl W ++ yy L,0):=⟨hBy,n4,fun h=>absurd rfl h⟩
 have k1:=D.qE (c:=W) hW (by omega) (yy L);have k2:=E.wJa R2.srt (fun e he=>⟨(R2.good e he).2,(R2.good e he).1⟩) (most:=4096) (by omega) (by omega) [];rw [List.append_nil] at k2;have p3:vF (vl W ++ yy L) 0 = pure (C.zQ W,(yy L,0)):=by have:=D.Zja hO;rw [k1] at this;exact this
 have hO2:N.Ok (yy L,0):=by have:=(D.qD hO).1;rw [k1] at this;exact this
 have p4:xf 4096 (yy L) 0 = pure (L,([],0)):=by have:=E.xEa hO2 (most:=4096) (by omega);rw [k2] at this;exact this
 have p5:xP [] 0 = pure (0,([],0)):=by have:=N.End_eq ([],0);rw [D.end_nil] at this;exact this
 have hdec:uJ (vl W ++ yy L) = pure (.inr (0,C.zQ W,a2,p2,b2,q2)):=by
  unfold uJ;rw [N.New_eq _ n4];simp only [zB,zA,p3,p4,p5,decide_true,Bool.not_true,cond_false,e3,M.sum]
 -- the delta's bytes, read
 have f1:=uFa od h1 h2 (by omega) (by omega) (by omega) (fun e he=>(htx e he).2);have m1:=ZG h1 (by omega) (by omega);have m2:=ZG h2 (by omega) (by omega);have m3:=E.UU od.evs (fun e he=>⟨od.kills e he,(htx e he).2⟩);have m4:=N.yL (v:=(d.events.length:Int)) (by omega);have m5:(vl d.from_ ++ vl d.to_ ++ yy d.events).length <= 200000000:=by unfold yy;simp only [List.length_append];omega
 obtain ⟨g3,g4,g5,g6,g7⟩:=QU hg;have hf1:=C.yw d.from_;have hf2:=C.yx d.from_;have ht1:=C.yw d.to_;have ht2:=C.yx d.to_;have hBy2:N.By (vl d.from_ ++ vl d.to_ ++ yy d.events ++ rest):=fun x hx=>by
  rcases List.mem_append.1 hx with hx | hx
  ·rcases List.mem_append.1 hx with hx | hx
   ·rcases List.mem_append.1 hx with hx | hx
    ·exact D.wCa _ (D.XU h1) (by omega) x hx
    ·exact D.wCa _ (D.XU h2) (by omega) x hx
   ·exact E.vKa (fun e he=>⟨od.evs e he,g7 e he⟩) (by omega) x hx
  ·exact hb x hx
 have m6:(vl d.from_ ++ vl d.to_ ++ yy d.events ++ rest).length <= 1000000000:=by rw [List.length_append];omega
 have hO3:N.Ok (vl d.from_ ++ vl d.to_ ++ yy d.events ++ rest,0):=⟨hBy2,m6,fun h=>absurd rfl h⟩
 have k3:=uEa od h1 h2 (by omega) (by omega) hg rest;have k4:OkD (Wz (vl d.from_ ++ vl d.to_ ++ yy d.events ++ rest,0)):=by
  have e4:=D.qE h1 (by omega) (vl d.to_ ++ (yy d.events ++ rest));have e5:=D.qE h2 (by omega) (yy d.events ++ rest);have e6:=E.wJa g6 (fun e he=>⟨od.evs e he,g7 e he⟩) (most:=4096) (by omega) (by omega) rest;rw [<- g3] at e4;rw [<- g4] at e5;have hs:(vl d.from_ ++ vl d.to_ ++ yy d.events ++ rest,(0:Int)) = (vl d.from_ ++ (vl d.to_ ++ (yy d.events ++ rest)),(0:Int)):=by simp only [List.append_assoc]
  have hr:Wz (vl d.from_ ++ vl d.to_ ++ yy d.events ++ rest,0) = d:=by
   rw [hs];unfold Wz;rw [e4];dsimp only;rw [e5];dsimp only;rw [e6]
  rw [hr];exact od
 have k5:vW (vl d.from_ ++ vl d.to_ ++ yy d.events ++ rest) 0 = pure (d,(rest,0)):=by have:=YFa hO3 k4;rw [k3] at this;exact this
 have k6:=R2.Same (by omega) R2 (by omega);have hl6:yB rest 0 = pure ((rest.length:Int),(rest,0)):=N.zoa (rest,0);rw [e1,zB,zA];show M.bind (M.det (ul xc)) _ = _;rw [e2,zB,zA];show M.bind (M.det (xW (C.zQ W) L)) _ = _;rw [e3,zB,zA];simp only [M.sum,f4,hdec,f1,zB,zA];rw [show zr (vl d.from_ ++ vl d.to_ ++ yy d.events) = pure (vl d.from_ ++ vl d.to_ ++ yy d.events,vl d.from_ ++ vl d.to_ ++ yy d.events) by unfold zr;rw [zD (by omega)]];simp only [zB,zA];rw [zD (by omega),N.New_eq _ m6];simp only [zB,zA,decide_true,cond_true];have k7:ZS (C.zQ W) (C.zQ W) a2 p2 b2 q2 a2 p2 b2 q2 = pure (decide (C.zQ W = C.zQ W) && decide (L = L)):=k6;rw [k7,k5];simp only [decide_true,Bool.and_self,zB,zA,cond_true,same20 od,N.WC,hl6]
end Go.Ep.M.G

namespace Go.Ep
open Go.RowKit Go.ChangeShapes Go.WideShapes

abbrev All : Nat -> Prop:=fun _=>True

mutual
def Xj {H:Type}:DataW H -> Nat
 | .lit (.string bytes)=>bytes.length + 1
 | .lit _=>1
 | .nil=>1
 | .ptr d=>Xj d + 1
 | .slice elems spare=>xy elems + xy spare + 1
 | .agg parts=>xy parts + 1
 | .iface _ d=>Xj d + 1
 | .map entries=>Zi entries + 1
 | .held _=>1
def xy {H:Type}:List (DataW H) -> Nat
 | []=>0
 | d :: r=>Xj d + xy r
def Zi {H:Type}:List (Lit × DataW H) -> Nat
 | []=>0
 | x :: r=>Zj x + Zi r
def Zj {H:Type}:Lit × DataW H -> Nat
 | (.string bytes,d)=>bytes.length + Xj d + 1
 | (_,d)=>Xj d + 1
end
theorem vTa {H:Type} (d:DataW H):1 <= Xj d:=by
 cases d with
 | lit l=>cases l <;> simp [Xj]
 | nil=>simp [Xj]
 | ptr d=>simp [Xj]
 | slice elems spare=>simp [Xj]
 | agg parts=>simp [Xj]
 | iface t d=>simp [Xj]
 | map entries=>simp [Xj]
 | held h=>simp [Xj]
theorem wOa {H:Type} (l r:List (DataW H)):xy (l ++ r) = xy l + xy r:=by
 induction l with
 | nil=>simp [xy]
 | cons x l ih=>simp only [List.cons_append,xy,ih];omega
def szL {α:Type} (sz:α -> Nat):List α -> Nat
 | []=>0
 | a :: r=>sz a + szL sz r
theorem szL_app {α:Type} (sz:α -> Nat) (l r:List α):szL sz (l ++ r) = szL sz l + szL sz r:=by
 induction l with
 | nil=>simp [szL]
 | cons x l ih=>simp only [List.cons_append,szL,ih];omega
theorem szL_len {α:Type} {sz:α -> Nat} (h:∀ a,1 <= sz a) (l:List α):l.length <= szL sz l:=by
 induction l with
 | nil=>simp [szL]
 | cons x l ih=>have:=h x;simp only [List.length_cons,szL];omega
structure Opn (P:Program) (t:TypeId) (k:Nat) {α:Type} (enc:α -> List DV) (ok:α -> Prop) (sz:α -> Nat):Prop where
 cells:P.cellsOf t = k
 op:∀ {H:Type} {en:TypeId × Value -> H} {w:World} {fuel:Nat} {cs:List Value} {x:DataW H × List MemPlace},DataW.trod en P w 0 (fun _=>true) true fuel t cs = some x ->
  ∃ a,ok a /\ cs.length = k /\ (enc a).length = k /\ (∀ (j:Nat) (y:DV) (u:Value),(enc a)[j]? = some y -> cs[j]? = some u -> DRd w All y u) /\ sz a <= Xj x.1

section
variable {P:Program} {t:TypeId}

theorem Opn.map {k:Nat} {α β:Type} {enc:α -> List DV} {enc':β -> List DV} {ok:α -> Prop} {ok':β -> Prop} {sz:α -> Nat} {sz':β -> Nat} (h:Opn P t k enc ok sz) (f:α -> β) (he:∀ a,ok a -> enc' (f a) = enc a) (ho:∀ a,ok a -> ok' (f a)) (hz:∀ a,sz' (f a) <= sz a):Opn P t k enc' ok' sz':=
 ⟨h.cells,fun hx=>let ⟨a,h1,h2,h3,h4,h5⟩:=h.op hx;⟨f a,ho a h1,h2,by rw [he a h1];exact h3,by rw [he a h1];exact h4,Nat.le_trans (hz a) h5⟩⟩

theorem z7a {w:World} {y:DV} {u:Value} (h:DRd w All y u):∀ (j:Nat) (y':DV) (u':Value),[y][j]? = some y' -> [u][j]? = some u' -> DRd w All y' u':=by
 intro j y' u' h1 h2
 cases j with
 | zero=>simp at h1 h2;subst h1;subst h2;exact h
 | succ j=>simp at h1

def okK (k:IntKind) (n:Int):Prop:=(Lit.int k n).wf = true
theorem Opn.int {k:IntKind} (hu:P.underlying t = some (.int k)) (hc:P.cellsOf t = 1):Opn P t 1 (eK k) (okK k) (fun _=>1):=by
 refine ⟨hc,fun {H en w fuel cs x} h=>?_⟩
 cases fuel with
 | zero=>simp [DataW.trod] at h
 | succ fuel=>
  unfold DataW.trod at h;rw [hu] at h
  split at h <;> simp_all
  case h_2 n _=>
   obtain ⟨⟨h1,h2⟩,_⟩:=h;subst h1;refine ⟨n,h2,rfl,?_,vTa _⟩;intro j y u h1 h3;exact z7a (.v _ rfl) j y u h1 h3
theorem uGa {n:Int} (h:okK .u64 n):0 <= n /\ n < 18446744073709551616:=by
 simp [okK,Lit.wf,IntKind.min,IntKind.max,IntKind.signed,IntKind.bits] at h;omega
theorem qp {n:Int} (h:okK .u16 n):0 <= n /\ n < 65536:=by
 simp [okK,Lit.wf,IntKind.min,IntKind.max,IntKind.signed,IntKind.bits] at h;omega
theorem okU8 {n:Int} (h:okK .u8 n):0 <= n /\ n < 256:=by
 simp [okK,Lit.wf,IntKind.min,IntKind.max,IntKind.signed,IntKind.bits] at h;omega
theorem Opn.str (hu:P.underlying t = some .string) (hc:P.cellsOf t = 1):Opn P t 1 eS (fun s=>s.size <= 9223372036854775807) (fun s=>s.size + 1):=by
 refine ⟨hc,fun {H en w fuel cs x} h=>?_⟩
 cases fuel with
 | zero=>simp [DataW.trod] at h
 | succ fuel=>
  unfold DataW.trod at h;rw [hu] at h
  split at h <;> simp_all
  case h_4=>
   rename_i s
   obtain ⟨h1,h2⟩:=h;refine ⟨s,by have:=h1;unfold maxLen at this;exact this,rfl,?_,?_⟩
   ·intro j y u h1 h2;exact z7a (.v _ rfl) j y u h1 h2
   ·subst h2;have e:s.data.toList.length = s.size:=Array.length_toList;show s.size + 1 <= Xj (DataW.lit (Lit.string s.data.toList));unfold Xj;omega

theorem Opn.slice {e:TypeId} {k:Nat} {α:Type} {enc:α -> List DV} {ok:α -> Prop} {sz:α -> Nat} (h:Opn P e k enc ok sz) (hu:P.underlying t = some (.slice e)) (hc:P.cellsOf t = 1) (hk:0 < k) :
  Opn P t 1 (eL enc) (fun l=>l.length <= 9223372036854775807 /\ ∀ a ∈ l,ok a) (fun l=>szL sz l + 1):=by
 refine ⟨hc,fun {H en w fuel cs x} hx=>?_⟩;rcases Deep.open_slice hu hx with ⟨rfl,_⟩ | ⟨a,len,cap,m,n,D,Pl,rfl,_,hl,hm,hmm,hxD,hel⟩
 ·exact ⟨[],⟨Nat.zero_le _,by simp⟩,rfl,rfl,z7a (.nil none 0 (Nat.zero_le _) (fun _=>rfl)),vTa _⟩
 simp only [if_true] at hmm;subst hmm;rw [h.cells] at hel;have hcut:∀ n0,n0 <= len -> ∃ l:List α,l.length = n0 /\ (∀ a ∈ l,ok a) /\ szL sz l <= xy ((List.range n0).map D) /\ ∀ (i:Nat) (b:α),l[i]? = some b -> (enc b).length = k /\ ∀ (j:Nat) (y:DV),(enc b)[j]? = some y -> ∃ u,w.cell? (a.add (i * k + j)) = some u /\ DRd w All y u:=by
  intro n0
  induction n0 with
  | zero=>intro _;exact ⟨[],rfl,by simp,by simp [szL],by simp⟩
  | succ n0 ih=>
   intro hn;obtain ⟨l,h1,h2,hz,h3⟩:=ih (by omega);obtain ⟨cs',hc',ht'⟩:=hel n0 (by omega);obtain ⟨b,hb1,hb2,hb3,hb4,hb5⟩:=h.op ht';obtain ⟨_,_,hcell⟩:=World.cells?_some hc';refine ⟨l ++ [b],by simp [h1],?_,by rw [szL_app,List.range_succ,List.map_append,wOa];simp only [szL,List.map_cons,List.map_nil,xy];simp only at hb5;omega,?_⟩
   ·intro a ha;rcases List.mem_append.1 ha with ha | ha
    ·exact h2 a ha
    ·simp at ha;subst ha;exact hb1
   ·intro i b' hi;rw [List.getElem?_append] at hi
    split at hi
    ·exact h3 i b' hi
    ·rename_i hge
     have hi0:i = n0:=by
      have:i - l.length < 1:=by simpa using (List.getElem?_eq_some_iff.1 hi).1
      omega
     subst hi0;simp [h1] at hi;subst hi;refine ⟨hb3,fun j y hy=>?_⟩;have hj:j < k:=by rw [<- hb3];exact (List.getElem?_eq_some_iff.1 hy).1
     have hcj:=hcell j hj;rw [Deep.add_add] at hcj;have hu':cs'[j]? = some (cs'[j]'(by omega)):=List.getElem?_eq_getElem (by omega);exact ⟨_,by rw [hcj,hu'],hb4 j y _ hy hu'⟩
 obtain ⟨l,h1,h2,hz,h3⟩:=hcut len (Nat.le_refl _);refine ⟨l,⟨by unfold maxLen at hm;omega,h2⟩,rfl,rfl,z7a ?_,?_⟩
 rotate_left
 ·rw [hxD];simp only [Xj];omega
 by_cases h0:len = 0
 ·have:l = []:=List.eq_nil_of_length_eq_zero (by omega);subst this;subst h0;exact .nil _ _ hm (fun e=>by cases e)
 ·-- the first cell tells that the address is a plain one
  have hl0:0 < l.length:=by omega
  obtain ⟨hk0,hc0⟩:=h3 0 _ (List.getElem?_eq_getElem hl0);obtain ⟨u0,hu0,_⟩:=hc0 0 _ (List.getElem?_eq_getElem (by omega:0 < (enc l[0]).length));have hspot:a.spot = none:=by simpa [Addr.add] using World.cell?_spot hu0
  obtain ⟨b,off,spot⟩:=a;simp only at hspot;subst hspot;have hb:b < w.heap.size:=by
   rw [Addr.add_lit] at hu0;unfold World.cell? at hu0
   cases hh:w.heap[b]? with
   | none=>simp [hh] at hu0
   | some o=>exact (Array.getElem?_eq_some_iff.1 hh).1
  have hlen:(l.map enc).length = len:=by simp [h1]
  rw [<- hlen];refine .sl _ b off m k (fun i j=>(w.cell? ⟨b,off + (i * k + j),none⟩).getD undef) (by omega) hm trivial hb ?_ ?_ ?_
  ·intro i cs hi;rw [List.getElem?_map] at hi
   cases hx:l[i]? with
   | none=>simp [hx] at hi
   | some y=>simp [hx] at hi;subst hi;exact (h3 i y hx).1
  ·intro i j hi hj;have hil:i < l.length:=by simpa using hi
   obtain ⟨e1,e2⟩:=h3 i _ (List.getElem?_eq_getElem hil);obtain ⟨u,hu,_⟩:=e2 j _ (List.getElem?_eq_getElem (by omega:j < (enc l[i]).length));rw [Addr.add_lit] at hu;simp [hu]
  ·intro i cs j x hi hx;rw [List.getElem?_map] at hi
   cases hy:l[i]? with
   | none=>simp [hy] at hi
   | some y=>
    simp [hy] at hi;subst hi;obtain ⟨u,hu,hd⟩:=(h3 i y hy).2 j x hx;rw [Addr.add_lit] at hu;simpa [hu] using hd

structure OpnF (P:Program) (fs:List Field) (off k:Nat) {α:Type} (enc:α -> List DV) (ok:α -> Prop) (sz:α -> Nat):Prop where
 op:∀ {H:Type} {en:TypeId × Value -> H} {w:World} {n:Nat} {cs:List Value} {xs:List (DataW H × List MemPlace)},xs.length = fs.length ->
  (∀ (i:Nat) (f:Field),fs[i]? = some f -> DataW.trod en P w 0 (fun _=>true) true n f.type ((cs.drop f.offset).take (P.cellsOf f.type)) = xs[i]?) ->
  ∃ a,ok a /\ (enc a).length = k /\ (∀ (j:Nat) (y:DV) (u:Value),(enc a)[j]? = some y -> cs[off + j]? = some u -> DRd w All y u) /\ sz a <= xy (xs.map (·.1))

theorem OpnF.nil (off:Nat):OpnF P [] off 0 (fun _:Unit=>[]) (fun _=>True) (fun _=>0):=⟨fun _ _=>⟨(),trivial,rfl,by simp,Nat.zero_le _⟩⟩
theorem OpnF.cons {f:Field} {fs:List Field} {off k1 k2:Nat} {α β:Type} {e1:α -> List DV} {o1:α -> Prop} {e2:β -> List DV} {o2:β -> Prop} {z1:α -> Nat} {z2:β -> Nat} (h1:Opn P f.type k1 e1 o1 z1) (ho:f.offset = off) (h2:OpnF P fs (off + k1) k2 e2 o2 z2) :
  OpnF P (f :: fs) off (k1 + k2) (fun p:α × β=>e1 p.1 ++ e2 p.2) (fun p=>o1 p.1 /\ o2 p.2) (fun p=>z1 p.1 + z2 p.2):=by
 refine ⟨fun {H en w n cs xs} hlen hx=>?_⟩
 cases xs with
 | nil=>simp at hlen
 | cons x xs=>
  have hx0:=hx 0 f rfl;simp only [List.getElem?_cons_zero] at hx0;obtain ⟨a,ha1,ha2,ha3,ha4,ha5⟩:=h1.op hx0;obtain ⟨b,hb1,hb2,hb3,hb4⟩:=h2.op (xs:=xs) (by simpa using hlen) (fun i f' hf=>by have:=hx (i + 1) f' (by simpa using hf);simpa using this);refine ⟨(a,b),⟨ha1,hb1⟩,by simp [ha3,hb2],?_,by simp only [List.map_cons,xy];omega⟩;intro j y u hy hu;simp only [List.getElem?_append] at hy
  by_cases hj:j < k1
  ·rw [if_pos (by omega)] at hy;refine ha4 j y u hy ?_;rw [List.getElem?_take,h1.cells,if_pos hj,List.getElem?_drop,ho];exact hu
  ·rw [if_neg (by omega),ha3] at hy;refine hb3 (j - k1) y u hy ?_;rw [<- hu]
   congr 1
   omega
theorem Opn.struct {fs:List Field} {k:Nat} {α:Type} {enc:α -> List DV} {ok:α -> Prop} {sz:α -> Nat} (hu:P.underlying t = some (.struct fs.toArray)) (hc:P.cellsOf t = k) (h:OpnF P fs 0 k enc ok sz):Opn P t k enc ok (fun a=>sz a + 1):=by
 refine ⟨hc,fun {H en w fuel cs x} hx=>?_⟩;obtain ⟨xs,n,_,hxe,hlen,hxl,hf⟩:=DataW.trod_struct hu hx;obtain ⟨a,h1,h2,h3,h4⟩:=h.op (cs:=cs) (xs:=xs) (by simpa using hxl) (fun i f hi=>hf i f (by simpa using hi));exact ⟨a,h1,by rw [hlen,hc],h2,fun j y u hy hu=>h3 j y u hy (by simpa using hu),by rw [hxe];simp only [Xj];omega⟩

theorem Opn.arg {H:Type} {en:TypeId × Value -> H} {w:World} {v:Value} {d:DataW H} {ps:List MemPlace} {α:Type} {enc:α -> DV} {ok:α -> Prop} {sz:α -> Nat} (h:Opn P t 1 (fun a=>[enc a]) ok sz)
  (hx:DataW.Trod en P w 0 (fun _=>true) true t v d ps) (h1:v.oneCell' = true):∃ a,ok a /\ Rd w g0 All (.d (enc a)) v /\ sz a <= Xj d:=by
 obtain ⟨fuel,hf⟩:=hx;obtain ⟨a,ha,_,_,hr,hz⟩:=h.op hf;have hcs:v.cells.toList = [v]:=by cases v <;> first | rfl | (simp [Value.oneCell'] at h1;done)
 exact ⟨a,ha,.d (hr 0 _ v rfl (by rw [hcs];rfl)),hz⟩
theorem Opn.argAgg {H:Type} {en:TypeId × Value -> H} {w:World} {us:Array Value} {d:DataW H} {ps:List MemPlace} {k:Nat} {α:Type} {enc:α -> List DV} {ok:α -> Prop} {sz:α -> Nat} (h:Opn P t k enc ok sz)
  (hx:DataW.Trod en P w 0 (fun _=>true) true t (.agg us) d ps):∃ a,ok a /\ Rd w g0 All (.agg (List.map .d (enc a))) (.agg us) /\ sz a <= Xj d:=by
 obtain ⟨fuel,hf⟩:=hx;obtain ⟨a,ha,hl,hel,hr,hz⟩:=h.op hf;have hcs:(Value.agg us).cells.toList = us.toList:=rfl;rw [hcs] at hl hr;refine ⟨a,ha,?_,hz⟩;have key:∀ (i:Nat) (y:DV) (u:Value),(enc a)[i]? = some y -> us.toList[i]? = some u -> DRd w All y u:=hr;have:=Rd.agg (w:=w) (g:=g0) (S:=All) ((enc a).map .d) us.toList (by simp [hel,hl]) (fun i p u hp hu=>by
  rw [List.getElem?_map] at hp
  cases hy:(enc a)[i]? with
  | none=>simp [hy] at hp
  | some y=>simp [hy] at hp;subst hp;exact .d (key i y u hy hu)) (fun u hu=>by
  obtain ⟨i,hi,rfl⟩:=List.getElem_of_mem hu;have hi2:i < (enc a).length:=by omega
  exact (key i _ _ (List.getElem?_eq_getElem hi2) (List.getElem?_eq_getElem hi)).one)
 simpa using this

theorem UY {H:Type} {en:TypeId × Value -> H} (hl:laidOutB P = true) {W W':World} (hb:Below W.heap.size W W'):∀ {ts:List TypeId} {vs:List Value} {ds:List (DataW H)} {ps:List MemPlace},
  (∀ t ∈ ts,P.readableRec t = true /\ t < P.types.size) -> DataW.TrodAll en P W 0 (fun _=>true) true ts vs ds ps -> (∀ x ∈ ps,x.block < W.heap.size) -> DataW.TrodAll en P W' 0 (fun b=>decide (b < W.heap.size)) true ts vs ds ps
 | [],[],[],ps,_,h,_=>h
 | t :: ts,v :: vs,d :: ds,ps,hr,h,hlt=>by
  obtain ⟨p,q,h1,h2,rfl⟩:=h;have hrt:=hr t (by simp);exact ⟨p,q,Below.trod hl hrt.1 hrt.2 h1 hb (fun x hx=>hlt x (List.mem_append.2 (.inl hx))),UY hl hb (fun t ht=>hr t (by simp [ht])) h2 (fun x hx=>hlt x (List.mem_append.2 (.inr hx))),rfl⟩
 | [],[],_ :: _,_,_,h,_=>h.elim
 | [],_ :: _,_,_,_,h,_=>h.elim
 | _ :: _,[],_,_,_,h,_=>h.elim
 | _ :: _,_ :: _,[],_,_,h,_=>h.elim
theorem qR {H:Type} {en:TypeId × Value -> H} {w:World} {base:Nat} {sp:Nat -> Bool} {hd:Bool}:∀ {ts:List TypeId} {vs:List Value} {ds:List (DataW H)} {ps:List MemPlace},DataW.TrodAll en P w base sp hd ts vs ds ps -> ds.length = ts.length
 | [],[],[],_,_=>rfl
 | _ :: _,_ :: _,_ :: _,_,h=>by
  obtain ⟨_,_,_,h2,_⟩:=h;simp [qR h2]
 | [],[],_ :: _,_,h=>h.elim
 | [],_ :: _,_,_,h=>h.elim
 | _ :: _,[],_,_,h=>h.elim
 | _ :: _,_ :: _,[],_,h=>h.elim

theorem YGa {H:Type} {en:TypeId × Value -> H} {fn:Func} {s:ChangeSpec} {tb:TypeId} {W W':World} {args:Array Value} {ds gs:List (DataW H)} {before:List MemPlace} (hl:laidOutB P = true)
  (hW:DataW.Whole en P fn.params.toList s.vars false W args.toList ds gs before) (hv:s.vars = []) (hs:∀ ds:List (DataW H),ds.length = fn.params.size -> (s.fn H ds).results = [.lit (.bool true)] /\ (s.fn H ds).args = ds /\ (s.fn H ds).vars = [])
  (hres:fn.resultTypes = #[tb]) (htb:P.underlying tb = some .bool) (hr:∀ t ∈ fn.params.toList,P.readableRec t = true /\ t < P.types.size) (hb:Below W.heap.size W W') :
  s.post en P fn false true false false W args (.bool true) W':=by
 have hW':=hW;obtain ⟨p,q,hA,hV,hpq,hfz,hnd⟩:=hW;rw [hv] at hV;obtain ⟨rfl,rfl⟩:=trodVars_none hV;simp only [List.append_nil] at hpq;subst hpq;have hlt:∀ x ∈ before,x.block < W.heap.size:=fun x hx=>by simpa using hW'.lt x hx
 have hlen:ds.length = fn.params.size:=by simpa using qR hA
 obtain ⟨e1,e2,e3⟩:=hs (ds ++ []) (by simpa using hlen);refine ⟨ds,[],before,[],before,[],hW',?_,?_,?_,hb.frame _,fun h=>by cases h⟩
 ·rw [e1,hres];exact trodAll_mk1 (shut_bool htb true)
 ·rw [e2,List.append_nil];exact UY hl hb hr hA hlt
 ·rw [e3,hv];rfl
end
end Go.Ep

namespace Go.Ep
set_option linter.unusedVariables false

def DT.ok (x:DT):Prop:=okK .u16 x.dev /\ okK .u64 x.n
def DT.sz (x:DT):Nat:=(1 + (1 + 0)) + 1
def RN.ok (x:RN):Prop:=okK .u64 x.lo /\ okK .u64 x.hi
def RN.sz (x:RN):Nat:=(1 + (1 + 0)) + 1
def PT.ok (x:PT):Prop:=okK .u16 x.dev /\ (x.runs.length <= 9223372036854775807 /\ ∀ a ∈ x.runs,RN.ok a)
def PT.sz (x:PT):Nat:=(1 + ((szL RN.sz x.runs + 1) + 0)) + 1
def EV.ok (x:EV):Prop:=DT.ok x.dot /\ okK .u8 x.kind /\ okK .u64 x.cid /\ okK .u8 x.field /\ ByteArray.size x.text <= 9223372036854775807 /\ (x.kills.length <= 9223372036854775807 /\ ∀ a ∈ x.kills,DT.ok a)
def EV.sz (x:EV):Nat:=(DT.sz x.dot + (1 + (1 + (1 + ((ByteArray.size x.text + 1) + ((szL DT.sz x.kills + 1) + 0)))))) + 1
def DL.ok (x:DL):Prop:=(x.from_.length <= 9223372036854775807 /\ ∀ a ∈ x.from_,PT.ok a) /\ (x.to_.length <= 9223372036854775807 /\ ∀ a ∈ x.to_,PT.ok a) /\ (x.events.length <= 9223372036854775807 /\ ∀ a ∈ x.events,EV.ok a)
def DL.sz (x:DL):Nat:=((szL PT.sz x.from_ + 1) + ((szL PT.sz x.to_ + 1) + ((szL EV.sz x.events + 1) + 0))) + 1
def LA.ok (x:LA):Prop:=okK .u8 x.kind /\ EV.ok x.event /\ (x.ctx.length <= 9223372036854775807 /\ ∀ a ∈ x.ctx,PT.ok a)
def LA.sz (x:LA):Nat:=(1 + (EV.sz x.event + ((szL PT.sz x.ctx + 1) + 0))) + 1
end Go.Ep
namespace Go.Proofs
open Go.Ep
set_option maxRecDepth 100000
theorem opnTDot : Opn Tryz.prog 87 2 DT.e DT.ok DT.sz:=(Opn.struct Tryz.underlying87 (by kernel_rfl) (OpnF.cons (Opn.int Tryz.underlying84 (by kernel_rfl)) rfl (OpnF.cons (Opn.int Tryz.underlying85 (by kernel_rfl)) rfl (OpnF.nil _)))).map (fun p=>⟨p.1,p.2.1⟩) (fun _ _=>rfl) (fun p h=>⟨h.1,h.2.1⟩) (fun _=>Nat.le_refl _)
theorem opnTRun : Opn Tryz.prog 119 2 RN.e RN.ok RN.sz:=(Opn.struct Tryz.underlying119 (by kernel_rfl) (OpnF.cons (Opn.int Tryz.underlying85 (by kernel_rfl)) rfl (OpnF.cons (Opn.int Tryz.underlying85 (by kernel_rfl)) rfl (OpnF.nil _)))).map (fun p=>⟨p.1,p.2.1⟩) (fun _ _=>rfl) (fun p h=>⟨h.1,h.2.1⟩) (fun _=>Nat.le_refl _)
theorem opnTPart : Opn Tryz.prog 114 2 PT.e PT.ok PT.sz:=(Opn.struct Tryz.underlying114 (by kernel_rfl) (OpnF.cons (Opn.int Tryz.underlying84 (by kernel_rfl)) rfl (OpnF.cons (opnTRun.slice Tryz.underlying112 (by kernel_rfl) (by decide)) rfl (OpnF.nil _)))).map (fun p=>⟨p.1,p.2.1⟩) (fun _ _=>rfl) (fun p h=>⟨h.1,h.2.1⟩) (fun _=>Nat.le_refl _)
theorem opnTEvent : Opn Tryz.prog 90 7 EV.e EV.ok EV.sz:=(Opn.struct Tryz.underlying90 (by kernel_rfl) (OpnF.cons opnTDot rfl (OpnF.cons (Opn.int Tryz.underlying5 (by kernel_rfl)) rfl (OpnF.cons (Opn.int Tryz.underlying85 (by kernel_rfl)) rfl (OpnF.cons (Opn.int Tryz.underlying5 (by kernel_rfl)) rfl (OpnF.cons (Opn.str Tryz.underlying9 (by kernel_rfl)) rfl (OpnF.cons (opnTDot.slice Tryz.underlying88 (by kernel_rfl) (by decide)) rfl (OpnF.nil _)))))))).map (fun p=>⟨p.1,p.2.1,p.2.2.1,p.2.2.2.1,p.2.2.2.2.1,p.2.2.2.2.2.1⟩) (fun _ _=>rfl) (fun p h=>⟨h.1,h.2.1,h.2.2.1,h.2.2.2.1,h.2.2.2.2.1,h.2.2.2.2.2.1⟩) (fun _=>Nat.le_refl _)
theorem YHa : Opn Tryz.prog 34 3 DL.e DL.ok DL.sz:=(Opn.struct Tryz.underlying34 (by kernel_rfl) (OpnF.cons (opnTPart.slice Tryz.underlying31 (by kernel_rfl) (by decide)) rfl (OpnF.cons (opnTPart.slice Tryz.underlying31 (by kernel_rfl) (by decide)) rfl (OpnF.cons (opnTEvent.slice Tryz.underlying32 (by kernel_rfl) (by decide)) rfl (OpnF.nil _))))).map (fun p=>⟨p.1,p.2.1,p.2.2.1⟩) (fun _ _=>rfl) (fun p h=>⟨h.1,h.2.1,h.2.2.1⟩) (fun _=>Nat.le_refl _)
theorem opnL18Act : Opn Tryz.prog 92 9 LA.e LA.ok LA.sz:=(Opn.struct Tryz.underlying92 (by kernel_rfl) (OpnF.cons (Opn.int Tryz.underlying5 (by kernel_rfl)) rfl (OpnF.cons opnTEvent rfl (OpnF.cons (opnTPart.slice Tryz.underlying31 (by kernel_rfl) (by decide)) rfl (OpnF.nil _))))).map (fun p=>⟨p.1,p.2.1,p.2.2.1⟩) (fun _ _=>rfl) (fun p h=>⟨h.1,h.2.1,h.2.2.1⟩) (fun _=>Nat.le_refl _)
end Go.Proofs


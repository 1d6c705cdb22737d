/- Texts that the walks and laws lean on, side by side. -/
import Derived.ProofKit
import Derived.Deep.Slices
import Derived.Test.YtipkoiklahndlaaGreatProg
import Derived.KernelRfl
import Derived.Test.YtipkoiklahndlaaGreatMUn2
import Derived.Test.YtipkoiklahndlaaGreatMUn12
set_option linter.unusedVariables false
set_option linter.unusedSimpArgs false
namespace Go.Ep.M.G
open Go
open E (OkE ya SrtE)
open F (hasD yC yD)

theorem vk : ∀ {l l':List TEvent},SrtE l → SrtE l' → (∀ d,d ∈ l ↔ d ∈ l') → l = l'
 | [],[],_,_,_=>rfl
 | [],y :: r,_,_,h=>by have:=(h y).2 (by simp);simp at this
 | x :: r,[],_,_,h=>by have:=(h x).1 (by simp);simp at this
 | x :: r,y :: t,h1,h2,h=>by
  have hx:=(h x).1 (by simp);have hy:=(h y).2 (by simp);have e:x = y:=by
   rcases List.mem_cons.1 hx with e | hx
   ·exact e
   ·rcases List.mem_cons.1 hy with e | hy
    ·exact e.symm
    ·have a1:=(List.pairwise_cons.1 h2).1 x hx;have a2:=(List.pairwise_cons.1 h1).1 y hy;rw [D.Ze a1] at a2;cases a2
  subst e
  congr 1
  refine vk (List.pairwise_cons.1 h1).2 (List.pairwise_cons.1 h2).2 fun d=>?_
  have h3:=h d;simp only [List.mem_cons] at h3
  constructor
  ·intro hd;rcases h3.1 (.inr hd) with e | h4
   ·have:=(List.pairwise_cons.1 h1).1 d hd;rw [e,D.XI] at this;cases this
   ·exact h4
  ·intro hd;rcases h3.2 (.inr hd) with e | h4
   ·have:=(List.pairwise_cons.1 h2).1 d hd;rw [e,D.XI] at this;cases this
   ·exact h4
theorem Wb {l:List TEvent} (h:SrtE l):(l.map (·.dot)).Nodup:=by
 unfold List.Nodup;rw [List.pairwise_map];exact h.imp fun {a b} h e=>by rw [e,D.XI] at h;cases h
theorem srtE_one {l:List TEvent} (h:SrtE l) {a b:TEvent} (ha:a ∈ l) (hb:b ∈ l) (e:a.dot = b.dot):a = b:=by
 induction l with
 | nil=>cases ha
 | cons x r ih=>
  obtain ⟨h1,h2⟩:=List.pairwise_cons.1 h;rcases List.mem_cons.1 ha with ea | ea <;> rcases List.mem_cons.1 hb with eb | eb
  ·rw [ea,eb]
  ·have:=h1 b eb;rw [← ea,e,D.XI] at this;cases this
  ·have:=h1 a ea;rw [← eb,e,D.XI] at this;cases this
  ·exact ih h2 ea eb
theorem zO {l:List TEvent} (h:SrtE l) (p:TEvent → Bool):SrtE (l.filter p):=h.sublist List.filter_sublist
theorem w4a {s:List TEvent} (hn:(s.map (·.dot)).Nodup) (h:s.Pairwise fun x y=>Zr y x = false):SrtE s:=by
 unfold List.Nodup at hn;rw [List.pairwise_map] at hn;refine (hn.and h).imp fun {a b} ⟨h1,h2⟩=>?_
 cases h3:zK a.dot b.dot with
 | true=>rfl
 | false=>exact absurd (D.jp h3 h2) h1
theorem w5a {l:List TEvent} {Q:List TEvent → Prop} (h:∀ s,s.Perm l → (s.Pairwise fun x y=>Zr y x = false) → Q s):(srt Zr l).wp Q:=by
 refine ⟨⟨l.mergeSort (fun x y=>!zK y.dot x.dot),List.mergeSort_perm _ _,?_⟩,fun s ⟨h1,h2⟩=>h s h1 h2⟩;refine (List.pairwise_mergeSort (fun a b c h1 h2=>?_) (fun a b=>?_) l).imp fun {x y} h=>by show zK y.dot x.dot = false;simpa using h
 ·simp only [Bool.not_eq_true'] at h1 h2 ⊢
  cases h3:zK c.dot a.dot with
  | false=>rfl
  | true=>
   rw [D.VM] at h3;have h4:¬ (zK b.dot a.dot = true):=by simp [h1]
   have h5:¬ (zK c.dot b.dot = true):=by simp [h2]
   rw [D.VM] at h4 h5;omega
 ·cases h1:zK b.dot a.dot with
  | false=>rfl
  | true=>rw [D.Ze h1];rfl

def ent (e:TEvent):TDot × TEvent:=(e.dot,e)
theorem ent_inj {a b:TEvent} (h:ent a = ent b):a = b:=(Prod.mk.inj h).2
theorem w6a {l:List TEvent} {k:TDot × TEvent}:k ∈ l.map ent ↔ k.2 ∈ l ∧ k.1 = k.2.dot:=by
 rw [List.mem_map]
 constructor
 ·rintro ⟨e,h,rfl⟩;exact ⟨h,rfl⟩
 ·rintro ⟨h1,h2⟩;exact ⟨k.2,h1,by unfold ent;rw [← h2]⟩
def Holds (m:List (TDot × TEvent)) (l:List TEvent):Prop:=m.Perm (l.map ent)
theorem Holds.keys {m:List (TDot × TEvent)} {l:List TEvent} (h:Holds m l) (hs:SrtE l):(m.map (·.1)).Nodup:=by
 have h1:=h.map (·.1);rw [List.map_map] at h1;exact h1.nodup_iff.2 (Wb hs)
theorem Holds.mem {m:List (TDot × TEvent)} {l:List TEvent} (h:Holds m l) {k:TDot × TEvent}:k ∈ m ↔ k.2 ∈ l ∧ k.1 = k.2.dot:=by rw [h.mem_iff,w6a]
theorem Holds.len {m:List (TDot × TEvent)} {l:List TEvent} (h:Holds m l):m.length = l.length:=by rw [h.length_eq,List.length_map]
theorem Qf {l:List TEvent} (h:SrtE l):(l.map ent).Nodup:=by
 unfold List.Nodup;rw [List.pairwise_map];exact h.imp fun {a b} h e=>by rw [ent_inj e,D.XI] at h;cases h
theorem Holds.nodup {m:List (TDot × TEvent)} {l:List TEvent} (h:Holds m l) (hs:SrtE l):m.Nodup:=h.nodup_iff.2 (Qf hs)
theorem qM {m:List (TDot × TEvent)} {l:List TEvent} (hn:(m.map (·.1)).Nodup) (hs:SrtE l) (h:∀ k,k ∈ m ↔ k.2 ∈ l ∧ k.1 = k.2.dot):Holds m l:=by
 have hm:m.Nodup:=by
  unfold List.Nodup at hn ⊢;rw [List.pairwise_map] at hn;exact hn.imp fun {a b} h e=>h (by rw [e])
 exact (List.perm_ext_iff_of_nodup hm (Qf hs)).2 fun k=>by rw [h,w6a]
theorem Uv (e:TEvent) (h:e.kills.length ≤ 1000000000000):yM e = pure e:=by
 unfold yM;rw [D.qG e.kills h,zB,zA]
theorem Uy {body:List Nat × List TEvent → M (Step (List Nat × List TEvent) (List TEvent))} (m:List (TDot × TEvent)) (hb:body = fun ⟨seen,out⟩=>need (∀ i ∈ seen,i < m.length)<|M.bind (nxt m.length seen) fun o=>match o with
  | none=>pure (.done out)
  | some j=>M.bind (idx m (Int.ofNat j)) fun kv=>M.bind (det (yM kv.2)) fun v=>need ((List.length out + List.length [v]) * 80 ≤ 140737488355328)<|pure (.next (seen ++ [j],out ++ [v])))
  (hl:m.length ≤ 500000000000) (hk:∀ k ∈ m,k.2.kills.length ≤ 1000000000000) (t0:List TEvent) (h0:t0.length ≤ 500000000000) {Q:List TEvent → Prop} (hQ:∀ l:List (TDot × TEvent),l.Perm m → Q (t0 ++ l.map (·.2))):(loop body ([],t0)).wp Q:=by
 refine M.loopM (body:=body) m (fun L (t:List TEvent)=>(L,t)) (fun t e=>(yM e.2).det.bind fun v=>need ((t.length + 1) * 80 ≤ 140737488355328) (pure (t ++ [v]))) (fun t=>pure t)
  (fun l t=>t = t0 ++ l.map (·.2)) Q (fun L t hL=>?_) (fun l t y ht hlen hy=>?_) (fun l t hp ht=>?_) t0 (by simp)
 ·subst hb;show need _ ((nxt _ _).bind _) = need _ ((nxt _ _).bind _);refine congrArg (fun k=>need _ ((nxt _ _).bind k)) (funext fun o=>?_)
  cases o with
  | none=>rfl
  | some i=>rfl
 ·rw [Uv y.2 (hk y hy),zB,zA];subst ht;exact ⟨_,zC (by simp;omega) _,by simp⟩
 ·subst ht;exact hQ l hp
theorem yfa {nl:Bool} {m:List (TDot × TEvent)} {l:List TEvent} (hm:Holds m l) (hs:SrtE l) (hl:l.length ≤ 500000000000) (hk:∀ e ∈ l,e.kills.length ≤ 1000000000000):uY nl m = pure l:=by
 unfold uY;refine vR (Uy (body:=Zx m) m rfl (by rw [hm.len];exact hl) (fun k h=>hk _ (hm.mem.1 h).1) [] (by simp) fun q hq=>?_);show (need _ _).wp _;have hp:(q.map (·.2)).Perm l:=by
  have:=(hq.trans hm).map (·.2);rw [List.map_map] at this;simpa [Function.comp_def,ent] using this
 rw [List.nil_append,zC (by rw [hp.length_eq];omega)];refine w5a fun s h1 h2=>?_
 show s = l;have h3:=h1.trans hp;exact vk (w4a ((h3.map (·.dot)).nodup_iff.2 (Wb hs)) h2) hs fun d=>h3.mem_iff
theorem list2_eq {nl1 nl2:Bool} {m1 m2:List (TDot × TEvent)} {l l1 l2:List TEvent} (h1:Holds m1 l1) (h2:Holds m2 l2) (hp:(l1 ++ l2).Perm l) (hs:SrtE l) (hl:l.length ≤ 200000000000) (hk:∀ e ∈ l,e.kills.length ≤ 1000000000000):uQ nl1 m1 nl2 m2 = pure l:=by
 have hll:=hp.length_eq;rw [List.length_append] at hll;have hk1:∀ k ∈ m1,k.2.kills.length ≤ 1000000000000:=fun k h=>hk _ (hp.mem_iff.1 (List.mem_append_left _ (h1.mem.1 h).1))
 have hk2:∀ k ∈ m2,k.2.kills.length ≤ 1000000000000:=fun k h=>hk _ (hp.mem_iff.1 (List.mem_append_right _ (h2.mem.1 h).1))
 unfold uQ;refine vR (Uy (body:=Zs m1) m1 rfl (by rw [h1.len];omega) hk1 [] (by simp) fun q hq=>?_);have hq1:(q.map (·.2)).Perm l1:=by
  have:=(hq.trans h1).map (·.2);rw [List.map_map] at this;simpa [Function.comp_def,ent] using this
 refine Uy (body:=Zt m2) m2 rfl (by rw [h2.len];omega) hk2 _ (by rw [List.nil_append,hq1.length_eq];omega) fun q2 hq2=>?_
 have hq3:(q2.map (·.2)).Perm l2:=by
  have:=(hq2.trans h2).map (·.2);rw [List.map_map] at this;simpa [Function.comp_def,ent] using this
 show (need _ _).wp _;rw [List.nil_append];have hpp:(q.map (·.2) ++ q2.map (·.2)).Perm l:=(hq1.append hq3).trans hp;rw [zC (by rw [hpp.length_eq];omega)];refine w5a fun s h3 h4=>?_
 show s = l;have h5:=h3.trans hpp;exact vk (w4a ((h5.map (·.dot)).nodup_iff.2 (Wb hs)) h4) hs fun d=>h5.mem_iff

open E (OkE ya SrtE)
open F (hasD yC yD uN)

section
variable {κ ν:Type} [DecidableEq κ]
theorem del_sub (m:List (κ × ν)) (x:κ):(AL.del m x).Sublist m:=by
 induction m with
 | nil=>exact List.Sublist.slnil
 | cons k r ih=>
  obtain ⟨k,v⟩:=k;unfold AL.del
  split
  ·exact List.sublist_cons_self _ _
  ·exact ih.cons_cons _
theorem mem_del {m:List (κ × ν)} (hn:(m.map (·.1)).Nodup) (x:κ) (k:κ × ν):k ∈ AL.del m x ↔ k ∈ m ∧ k.1 ≠ x:=by
 induction m with
 | nil=>simp [AL.del]
 | cons y r ih=>
  obtain ⟨q,v⟩:=y;rw [List.map_cons,List.nodup_cons] at hn;unfold AL.del
  split
  ·rename_i e
   subst e;rw [List.mem_cons]
   constructor
   ·intro h;exact ⟨.inr h,fun e=>hn.1 (e ▸ List.mem_map.2 ⟨k,h,rfl⟩)⟩
   ·rintro ⟨h | h,h2⟩
    ·subst h;exact absurd rfl h2
    ·exact h
  ·rename_i e
   rw [List.mem_cons,List.mem_cons,ih hn.2]
   constructor
   ·rintro (h | ⟨h,h2⟩)
    ·subst h;exact ⟨.inl rfl,e⟩
    ·exact ⟨.inr h,h2⟩
   ·rintro ⟨h | h,h2⟩
    ·exact .inl h
    ·exact .inr ⟨h,h2⟩
theorem w7a {m:List (κ × ν)} (hn:(m.map (·.1)).Nodup) (x:κ) (v:ν) (k:κ × ν):k ∈ AL.set m x v ↔ (k ∈ m ∧ k.1 ≠ x) ∨ k = (x,v):=by
 induction m with
 | nil=>simp [AL.set]
 | cons y r ih=>
  obtain ⟨q,u⟩:=y;rw [List.map_cons,List.nodup_cons] at hn;unfold AL.set
  split
  ·rename_i e
   subst e;rw [List.mem_cons,List.mem_cons]
   constructor
   ·rintro (h | h)
    ·exact .inr h
    ·exact .inl ⟨.inr h,fun e=>hn.1 (e ▸ List.mem_map.2 ⟨k,h,rfl⟩)⟩
   ·rintro (⟨h | h,h2⟩ | h)
    ·subst h;exact absurd rfl h2
    ·exact .inr h
    ·exact .inl h
  ·rename_i e
   rw [List.mem_cons,List.mem_cons,ih hn.2]
   constructor
   ·rintro (h | ⟨h,h2⟩ | h)
    ·subst h;exact .inl ⟨.inl rfl,e⟩
    ·exact .inl ⟨.inr h,h2⟩
    ·exact .inr h
   ·rintro (⟨h | h,h2⟩ | h)
    ·exact .inl h
    ·exact .inr (.inl ⟨h,h2⟩)
    ·exact .inr (.inr h)
end
theorem Holds.del {m:List (TDot × TEvent)} {l:List TEvent} (h:Holds m l) (hs:SrtE l) (d:TDot):Holds (AL.del m d) (l.filter fun e=>!decide (e.dot = d)):=
 qM ((h.keys hs).sublist ((del_sub m d).map _)) (zO hs _) fun k=>by
  rw [mem_del (h.keys hs),h.mem,List.mem_filter]
  constructor
  ·rintro ⟨⟨h1,h2⟩,h3⟩;exact ⟨⟨h1,by rw [h2] at h3;simp [h3]⟩,h2⟩
  ·rintro ⟨⟨h1,h3⟩,h2⟩;exact ⟨⟨h1,h2⟩,by rw [h2];simpa using h3⟩
theorem Yu {l:List TDot} {d:TDot}:hasD l d = true ↔ d ∈ l:=by
 unfold hasD;rw [List.any_eq_true]
 constructor
 ·rintro ⟨x,h1,h2⟩;rw [← of_decide_eq_true h2];exact h1
 ·intro h;exact ⟨d,h,by simp⟩
theorem w8a (x:TDot) (r:List TDot) (d:TDot):hasD (x :: r) d = (decide (x = d) || hasD r d):=rfl
theorem Holds.dels : ∀ (ks:List TDot) {m:List (TDot × TEvent)} {l:List TEvent},Holds m l → SrtE l → Holds (ks.foldl AL.del m) (l.filter fun e=>!hasD ks e.dot)
 | [],m,l,h,_=>by
  have:(l.filter fun e=>!hasD [] e.dot) = l:=List.filter_eq_self.2 fun _ _=>rfl
  rw [this];exact h
 | d :: r,m,l,h,hs=>by
  have h1:=Holds.dels r (h.del hs d) (zO hs _);rw [List.filter_filter] at h1;rw [List.foldl_cons];have:(fun e:TEvent=>!hasD (d :: r) e.dot) = fun e=>(!hasD r e.dot) && !decide (e.dot = d):=funext fun e=>by
   rw [w8a,Bool.not_or,Bool.and_comm]
   congr 2
   exact decide_eq_decide.2 ⟨Eq.symm,Eq.symm⟩
  rw [this];exact h1
def insE (l:List TEvent) (e:TEvent):List TEvent:=(l.filter fun x=>zK x.dot e.dot) ++ [e] ++ (l.filter fun x=>zK e.dot x.dot)
theorem Vq {l:List TEvent} (hs:SrtE l) (e:TEvent):SrtE (insE l e):=by
 unfold insE SrtE;rw [List.pairwise_append,List.pairwise_append];refine ⟨⟨zO hs _,by simp,fun a ha b hb=>?_⟩,zO hs _,fun a ha b hb=>?_⟩
 ·rw [List.mem_singleton.1 hb];exact (List.mem_filter.1 ha).2
 ·have h2:=(List.mem_filter.1 hb).2;rcases List.mem_append.1 ha with h | h
  ·exact D.Yt (List.mem_filter.1 h).2 h2
  ·rw [List.mem_singleton.1 h];exact h2
theorem Vr {l:List TEvent} {e:TEvent} (hn:∀ x ∈ l,x.dot ≠ e.dot) {x:TEvent}:x ∈ insE l e ↔ x = e ∨ x ∈ l:=by
 unfold insE;rw [List.mem_append,List.mem_append,List.mem_filter,List.mem_filter,List.mem_singleton]
 constructor
 ·rintro ((⟨h,_⟩ | h) | ⟨h,_⟩)
  ·exact .inr h
  ·exact .inl h
  ·exact .inr h
 ·rintro (h | h)
  ·exact .inl (.inr h)
  ·cases h1:zK x.dot e.dot with
   | true=>exact .inl (.inl ⟨h,rfl⟩)
   | false=>
    cases h2:zK e.dot x.dot with
    | true=>exact .inr ⟨h,rfl⟩
    | false=>exact absurd (D.jp h1 h2) (hn x h)
theorem insE_len (l:List TEvent) (e:TEvent) (hs:SrtE l):(insE l e).length ≤ l.length + 1:=by
 unfold insE;have h:∀ q:List TEvent,(q.filter fun x=>zK x.dot e.dot).length + (q.filter fun x=>zK e.dot x.dot).length ≤ q.length:=by
  intro q
  induction q with
  | nil=>simp
  | cons x r ih=>
   rw [List.filter_cons,List.filter_cons]
   cases h1:zK x.dot e.dot with
   | true=>rw [D.Ze h1];simp;omega
   | false=>simp only [Bool.false_eq_true,if_false];split <;> simp <;> omega
 have:=h l;simp;omega
theorem Holds.add {m:List (TDot × TEvent)} {l:List TEvent} (h:Holds m l) (hs:SrtE l) {e:TEvent} (hn:∀ x ∈ l,x.dot ≠ e.dot):Holds (AL.set m e.dot e) (insE l e):=
 qM (AL.nodup_set (h.keys hs) _ _) (Vq hs e) fun k=>by
  rw [w7a (h.keys hs),h.mem,Vr hn]
  constructor
  ·rintro (⟨⟨h1,h2⟩,h3⟩ | h1)
   ·exact ⟨.inr h1,h2⟩
   ·rw [h1];exact ⟨.inl rfl,rfl⟩
  ·rintro ⟨h1 | h1,h2⟩
   ·refine .inr ?_;obtain ⟨k1,k2⟩:=k;simp only at h1 h2;rw [h2,h1]
   ·exact .inl ⟨⟨h1,h2⟩,by rw [h2];exact hn _ h1⟩

theorem zna {ρ:Type} {body:Int × List TEvent → M (Step (Int × List TEvent) ρ)} (l:List TEvent) (p:TEvent → Bool) (g:List TEvent → M ρ)
  (h1:∀ (i:Nat) (x:TEvent) (t:List TEvent),l[i]? = some x → i < l.length → t.length ≤ i → body ((i:Int),t) = pure (.next (((i + 1:Nat):Int),if p x then t ++ [x] else t)))
  (h2:∀ t,body ((l.length:Int),t) = (g t).bind fun r=>pure (.done r)):loop body (0,[]) = g (l.filter p):=by
 have h:=ww (body:=body) l (fun i (t:List TEvent)=>((i:Int),t)) (fun t x=>if p x then t ++ [x] else t) g (fun i t=>t.length ≤ i)
  (fun i x t hx hi hI=>⟨h1 i x t hx hi hI,by split <;> (try rw [List.length_append,List.length_singleton]) <;> omega⟩) (fun t _=>h2 t) [] (Nat.le_refl _)
 have hf:∀ (q t:List TEvent),q.foldl (fun t x=>if p x then t ++ [x] else t) t = t ++ q.filter p:=by
  intro q
  induction q with
  | nil=>intro t;simp
  | cons x r ih=>intro t;rw [List.foldl_cons,ih,List.filter_cons];split <;> simp
 rw [hf,List.nil_append] at h;exact h
theorem rPutI_eq (l:List TEvent) (e:TEvent) (hs:SrtE l) (hn:∀ x ∈ l,x.dot ≠ e.dot) (hl:l.length ≤ 1000000000):JJ l e = pure (insE l e):=by
 unfold JJ;have h:=ww (body:=uk l e) l (fun i (t:Bool × List TEvent)=>(t.1,(i:Int),t.2)) (fun t x=>((t.1 || !zK x.dot e.dot),(if (!zK x.dot e.dot && !t.1) = true then t.2 ++ [e] else t.2) ++ [x])) (fun t=>pure (Ex.brk (t.1,t.2)))
  (fun i t=>t.2.length ≤ i + 1 ∧ (t.1 = false → t.2.length ≤ i)) (fun i x t hx hi hI=>by
   obtain ⟨dn,out⟩:=t;have c0:x.dot ≠ e.dot:=hn x (List.mem_of_getElem? hx);have hz:V.cmpD x.dot e.dot ≠ 0:=by
    unfold V.cmpD;rw [if_neg c0];split <;> decide
   have hpos:decide (0 < V.cmpD x.dot e.dot) = !zK x.dot e.dot:=by
    by_cases c1:zK x.dot e.dot = true
    ·have:=V.ZZ.2 c1;rw [c1];simp;omega
    ·have h2:¬ V.cmpD x.dot e.dot < 0:=fun h=>c1 (V.ZZ.1 h)
     simp only [Bool.not_eq_true] at c1;rw [c1];simp;omega
   have hc:decide ((i:Int) < (l.length:Int)) = true:=by simpa using hi
   have hI1:=hI.1;have hI2:=hI.2;simp only at hI1 hI2;refine ⟨?_,?_⟩
   ·unfold uk;simp only [hc,cond_true,zF hx,zA,V.Yo,zB,decide_eq_false hz,cond_false,hpos]
    cases zK x.dot e.dot <;> cases dn <;> simp only [Bool.not_true,Bool.not_false,cond_true,cond_false,zA,Bool.and_true,Bool.and_false,Bool.or_true,Bool.or_false,Bool.false_eq_true,if_true,if_false]
    ·rw [zC (by simp;omega),zA];simp only [];rw [zC (by simp;omega),zf (show i < 9223372036854775807 by omega)]
    ·rw [zC (by simp;omega),zf (show i < 9223372036854775807 by omega)]
    ·rw [zC (by simp;omega),zf (show i < 9223372036854775807 by omega)]
    ·rw [zC (by simp;omega),zf (show i < 9223372036854775807 by omega)]
   ·cases zK x.dot e.dot <;> cases dn <;> simp_all <;> omega) (fun t _=>by
   unfold uk;simp [zA]) (false,[]) (by simp)
 have hA:∀ (q acc:List TEvent),q.foldl (fun (t:Bool × List TEvent) x=>((t.1 || !zK x.dot e.dot),(if (!zK x.dot e.dot && !t.1) = true then t.2 ++ [e] else t.2) ++ [x])) (true,acc) = (true,acc ++ q):=by
  intro q
  induction q with
  | nil=>intro acc;simp
  | cons x r ih=>intro acc;rw [List.foldl_cons];simp only [Bool.true_or,Bool.not_true,Bool.and_false,Bool.false_eq_true,if_false];rw [ih];simp
 have hB:∀ (q acc:List TEvent),SrtE q → (∀ x ∈ q,x.dot ≠ e.dot) → ∃ r:Bool × List TEvent,q.foldl (fun (t:Bool × List TEvent) x=>((t.1 || !zK x.dot e.dot),(if (!zK x.dot e.dot && !t.1) = true then t.2 ++ [e] else t.2) ++ [x])) (false,acc) = r ∧ (if r.1 = true then r.2 else r.2 ++ [e]) = acc ++ insE q e ∧ (r.1 = false → r.2.length = acc.length + q.length):=by
  intro q
  induction q with
  | nil=>intro acc _ _;exact ⟨(false,acc),rfl,by simp [insE],fun _=>by simp⟩
  | cons x r ih=>
   intro acc hs hn;obtain ⟨p1,p2⟩:=List.pairwise_cons.1 hs;rw [List.foldl_cons]
   cases c:zK x.dot e.dot with
   | true=>
    simp only [Bool.not_true,Bool.or_self,Bool.false_and,Bool.false_eq_true,if_false];obtain ⟨y,h1,h2,h3⟩:=ih (acc ++ [x]) p2 fun z hz=>hn z (by simp [hz])
    refine ⟨y,h1,?_,fun h=>by rw [h3 h];simp;omega⟩;rw [h2];unfold insE;rw [List.filter_cons,List.filter_cons,if_pos c,if_neg (by rw [D.Ze c];simp)];simp
   | false=>
    have hgt:zK e.dot x.dot = true:=by
     cases hh:zK e.dot x.dot with
     | true=>rfl
     | false=>exact absurd (D.jp c hh) (hn x (by simp))
    simp only [Bool.not_false,Bool.or_true,Bool.and_self,if_true];rw [hA];refine ⟨_,rfl,?_,fun h=>by cases h⟩;rw [if_pos rfl];unfold insE;have e1:((x :: r).filter fun y=>zK y.dot e.dot) = []:=List.filter_eq_nil_iff.2 fun y hy=>by
     rcases List.mem_cons.1 hy with rfl | hy
     ·rw [c];simp
     ·rw [D.Ze (D.Yt hgt (p1 y hy))];simp
    have e2:((x :: r).filter fun y=>zK e.dot y.dot) = x :: r:=List.filter_eq_self.2 fun y hy=>by
     rcases List.mem_cons.1 hy with rfl | hy
     ·exact hgt
     ·exact D.Yt hgt (p1 y hy)
    rw [e1,e2];simp
 obtain ⟨r,h1,h2,h3⟩:=hB l [] hs hn;rw [h1] at h;have h':loop (uk l e) (false,0,[]) = pure (Ex.brk (r.1,r.2)):=h;rw [h',zA,ud];obtain ⟨r1,r2⟩:=r
 cases r1 with
 | true=>
  simp only [Bool.not_true,cond_false,zA];rw [if_pos rfl,List.nil_append] at h2;have h2:r2 = insE l e:=h2;rw [h2]
 | false=>
  have:=h3 rfl;simp only [List.length_nil,Nat.zero_add] at this;simp only [Bool.not_false,cond_true];rw [zC (by simp;omega),zA];rw [if_neg (by simp),List.nil_append] at h2;have h2:r2 ++ [e] = insE l e:=h2;rw [h2]
theorem Uz {e:TEvent} (h:ya e = true):e.kind = 1 ∨ e.kind = 2:=by
 simp only [ya,E.goodK,Bool.and_eq_true,Bool.or_eq_true,decide_eq_true_eq] at h;rcases h.2.1 with h | h
 ·exact .inl h.1
 ·exact .inr h.1
theorem jt {e:TEvent} (h:ya e = true):e.kills.length ≤ 256 ∧ D.Srt e.kills ∧ ∀ d ∈ e.kills,V.zp d = true ∧ d ≠ e.dot:=by
 simp only [ya,E.xOa,Bool.and_eq_true,decide_eq_true_eq,List.all_eq_true,Bool.not_eq_true',decide_eq_false_iff_not] at h;exact ⟨h.2.2.1,D.yea.1 h.2.2.2.1,fun d hd=>h.2.2.2.2 d hd⟩
theorem yga {e:TEvent} (h:ya e = true):V.zp e.dot = true:=by
 simp only [ya,Bool.and_eq_true] at h;exact h.1.2

open E (OkE ya SrtE)
open F (hasD yC yD uN)

def yr (L:List TEvent):List TEvent:=L.filter fun e=>decide (e.kind = 1)
def yz (L:List TEvent):List TEvent:=L.filter fun e=>decide (e.kind = 2)
theorem yb {L:List TEvent} {x:TEvent}:x ∈ yr L ↔ x ∈ L ∧ x.kind = 1:=by simp [yr]
theorem xM {L:List TEvent} {x:TEvent}:x ∈ yz L ↔ x ∈ L ∧ x.kind = 2:=by simp [yz]
theorem wI {l:List TEvent} {d:TDot}:d ∈ yC l ↔ ∃ e ∈ l,d = e.dot ∨ d ∈ e.kills:=by simp [yC]
theorem Vs {l:List TEvent} {d:TDot}:uN l d = true ↔ ∃ e ∈ l,d ∈ e.kills:=by
 unfold uN;rw [List.any_eq_true];exact ⟨fun ⟨e,h1,h2⟩=>⟨e,h1,Yu.1 h2⟩,fun ⟨e,h1,h2⟩=>⟨e,h1,Yu.2 h2⟩⟩
structure Rep (n:Nat) (W c xc:List TPart) (nl1:Bool) (m1:List (TDot × TEvent)) (nl2:Bool) (m2:List (TDot × TEvent)) (L:List TEvent):Prop where
 ctx:c = C.zW W
 xctx:∀ k n,C.hasC xc k n = C.hasC W k n
 xok:C.Ok xc
 live:Holds m1 (yr L)
 tomb:Holds m2 (yz L)
 n1:nl1 = true → m1 = []
 n2:nl2 = true → m2 = []
 srt:SrtE L
 good:∀ e ∈ L,ya e = true ∧ OkE e
 dots:∀ d ∈ yC L,C.hasC W d.dev d.n = true
 alive:∀ e ∈ L,e.kind = 1 → uN L e.dot = false
 wl:W.length ≤ n
 wt:C.totC W ≤ n
 ll:L.length ≤ n
theorem Wc {W:List TPart} (h1:W.length ≤ 400000000) (h2:C.totC W ≤ 400000000):C.Ok (C.zW W):=
 ⟨fun p hp=>by have:=((C.yI W).nf p hp).1;omega,by have:=C.uG W;omega,by have:=C.uH W;omega⟩
section
variable {n:Nat} {W c xc:List TPart} {nl1:Bool} {m1:List (TDot × TEvent)} {nl2:Bool} {m2:List (TDot × TEvent)} {L:List TEvent}
theorem Rep.mono (hR:Rep n W c xc nl1 m1 nl2 m2 L) {k:Nat} (h:n ≤ k):Rep k W c xc nl1 m1 nl2 m2 L:=
 { hR with wl:=Nat.le_trans hR.wl h,wt:=Nat.le_trans hR.wt h,ll:=Nat.le_trans hR.ll h }
theorem Rep.okc (hR:Rep n W c xc nl1 m1 nl2 m2 L) (hn:n ≤ 100000000):C.Ok c:=by
 rw [hR.ctx];exact Wc (by have:=hR.wl;omega) (by have:=hR.wt;omega)
theorem Rep.has (hR:Rep n W c xc nl1 m1 nl2 m2 L) (hn:n ≤ 100000000) (d:TDot):vv c d = pure (C.hasC W d.dev d.n):=by
 rw [C.Uo c d (hR.okc hn).sm,hR.ctx,C.yK]
theorem Rep.rhas (hR:Rep n W c xc nl1 m1 nl2 m2 L) (d:TDot):ue xc d = pure (C.hasC W d.dev d.n):=by
 rw [C.Xa xc d hR.xok,hR.xctx]
theorem Rep.new : Rep 0 [] [] [] true [] true [] [] where
 ctx:=rfl
 xctx _ _:=rfl
 xok:=C.ok_nil
 live:=List.Perm.refl _
 tomb:=List.Perm.refl _
 n1 _:=rfl
 n2 _:=rfl
 srt:=List.Pairwise.nil
 good _ h:=by cases h
 dots _ h:=by cases h
 alive _ h:=by cases h
 wl:=Nat.le_refl _
 wt:=Nat.le_refl _
 ll:=Nat.le_refl _
theorem qO (ks:List TDot):ks.foldl AL.del ([]:List (TDot × TEvent)) = []:=by
 induction ks with
 | nil=>rfl
 | cons d r ih=>rw [List.foldl_cons];exact ih
theorem yha {e:TEvent} (hk:e.kills.length ≤ 1000000000000) {nl:Bool} {m:List (TDot × TEvent)} (h:nl = true → m = []):wk e nl m = pure (false,AL.set m e.dot e):=by
 unfold wk;have h1:(cond nl (M.pure ([]:List (TDot × TEvent))) (M.pure m)) = M.pure m:=by
  cases nl with
  | true=>rw [h rfl];rfl
  | false=>rfl
 rw [h1,zA,Uv e hk,zB,zA]
def putL (L:List TEvent) (e:TEvent):List TEvent:=insE (L.filter fun x=>!decide (x.kind = 1) || !hasD e.kills x.dot) e
theorem Qg (e:TEvent) (hk:e.kills.length ≤ 1000000000) (m:List (TDot × TEvent)):loop (yZ e) (0,m) = pure (e.kills.foldl AL.del m):=
 ww (body:=yZ e) e.kills (fun i (t:List (TDot × TEvent))=>((i:Int),t)) AL.del (fun t=>pure t) (fun _ _=>True) (fun i x t hx hi _=>by
  have hd:decide ((i:Int) < (e.kills.length:Int)) = true:=by simpa using hi
  refine ⟨?_,trivial⟩;unfold yZ;simp only [hd,cond_true,zF hx,zA,zf (show i < 9223372036854775807 by omega)]) (fun t _=>by
  unfold yZ;simp [zA]) m trivial
theorem w9a (e:TEvent) (hk:e.kills.length ≤ 1000000000) (xc:List TPart) (L:List TEvent) (hl:L.length ≤ 1000000000):loop (ul ⟨xc,L⟩ e) (0,[]) = pure (L.filter fun x=>!decide (x.kind = 1) || !hasD e.kills x.dot):=
 zna (body:=ul ⟨xc,L⟩ e) L (fun x=>!decide (x.kind = 1) || !hasD e.kills x.dot) (fun t=>pure t) (fun i x t hx hi hI=>by
  have hd:decide ((i:Int) < (L.length:Int)) = true:=by simpa using hi
  unfold ul;have hh:Wk e.kills x.dot = pure (hasD e.kills x.dot):=E.Xa e.kills x.dot (by omega);simp only [hd,cond_true,zF hx,zA,hh,zB,zf (show i < 9223372036854775807 by omega)]
  cases decide (x.kind = 1) <;> cases hasD e.kills x.dot <;> simp only [Bool.not_true,Bool.not_false,cond_true,cond_false,zA,Bool.or_true,Bool.or_false,Bool.true_or,Bool.false_or,if_true,if_false,Bool.false_eq_true]
  all_goals (try rw [zC (by simp;omega)])
  all_goals rfl) (fun t=>by
  unfold ul;simp [zA])
theorem put_mem (hR:Rep n W c xc nl1 m1 nl2 m2 L) {e:TEvent} (hc:C.hasC W e.dot.dev e.dot.n = false) {x:TEvent}:x ∈ putL L e ↔ x = e ∨ (x ∈ L ∧ (x.kind ≠ 1 ∨ x.dot ∉ e.kills)):=by
 unfold putL;rw [Vr,List.mem_filter]
 ·simp only [Bool.or_eq_true,Bool.not_eq_true',decide_eq_false_iff_not,← Bool.not_eq_true (b:=hasD _ _),Yu]
 ·intro x hx e1;have:=hR.dots x.dot (wI.2 ⟨x,(List.mem_filter.1 hx).1,.inl rfl⟩);rw [e1,hc] at this;cases this
theorem Rep.put (hR:Rep n W c xc nl1 m1 nl2 m2 L) (hn:n ≤ 100000000) {e:TEvent} (oe:OkE e) (g:ya e = true) (hc:C.hasC W e.dot.dev e.dot.n = false) :
  ∃ c' xc' nl1' m1' nl2' m2',ym e c nl1 m1 nl2 m2 = pure (0,c',nl1',m1',nl2',m2') ∧ ZN ⟨xc,L⟩ e = pure (⟨xc',putL L e⟩,0) ∧ Rep (n + 600) (W ++ C.zo (yD [e])) c' xc' nl1' m1' nl2' m2' (putL L e):=by
 obtain ⟨k1,k2,k3⟩:=jt g;have hdl:(yC [e]).length ≤ 300:=by simp [yC];omega
 have hde:(yD [e]).length ≤ 300:=Nat.le_trans (D.Vp _) hdl;have hne:∀ x ∈ L,x.dot ≠ e.dot:=fun x hx e1=>by
  have:=hR.dots x.dot (wI.2 ⟨x,hx,.inl rfl⟩);rw [e1,hc] at this;cases this
 have hadd:JO c (yD [e]) = pure (C.zW (W ++ C.zo (yD [e]))):=by
  have h:=hR.okc hn;rw [C.Add_eq c (yD [e]) (by omega) h.len h.tot,hR.ctx,C.qB]
 have hxok:C.Ok (C.zW (C.zo (yD [e]))):=C.Ur (by omega);have hjoin:ZL xc (C.zW (C.zo (yD [e]))) = pure (C.opC (· || ·) xc (C.zW (C.zo (yD [e])))):=C.Jy _ _ hR.xok hxok;have hxe:C.opC (· || ·) xc (C.zW (C.zo (yD [e]))) = C.zW (W ++ C.zo (yD [e])):=(C.yq rfl _ _).ext (C.yI _) fun k n=>by
  rw [C.wG rfl,C.yK,C.yK,C.ub,hR.xctx]
 have hW1:(W ++ C.zo (yD [e])).length ≤ n + 600:=by have:=hR.wl;have:=C.wH (yD [e]);rw [List.length_append];omega
 have hW2:C.totC (W ++ C.zo (yD [e])) ≤ n + 600:=by have:=hR.wt;have:=C.Ys (yD [e]);rw [C.Yr];omega
 have hsP:SrtE (putL L e):=Vq (zO hR.srt _) e;have hmem:=fun x=>put_mem (x:=x) hR hc
 -- the document
 have hr:ZN ⟨xc,L⟩ e = pure (⟨C.zW (W ++ C.zo (yD [e])),putL L e⟩,0):=by
  unfold ZN;rw [E.Wa oe,zB,zA,g,Bool.not_true,cond_false];rw [show (⟨xc,L⟩:R18Book).ctx = xc from rfl,hR.rhas,zB,zA,hc,cond_false,w9a e (by omega) xc L (by have:=hR.ll;omega),zA];rw [F.qK [e] (by simp) (fun x hx=>by rw [List.mem_singleton.1 hx];omega),zB,zA,C.rOf_eq _ (by omega),zB,zA,hjoin,zB,zA,hxe];rw [rPutI_eq _ e (zO hR.srt _) (fun x hx=>hne x (List.mem_filter.1 hx).1) (by have:=List.length_filter_le (fun x:TEvent=>!decide (x.kind = 1) || !hasD e.kills x.dot) L;have:=hR.ll;omega),zB,zA]
  rfl
 have hdots:∀ d ∈ yC (putL L e),C.hasC (W ++ C.zo (yD [e])) d.dev d.n = true:=fun d hd=>by
  rw [C.ub];obtain ⟨x,hx,h⟩:=wI.1 hd;rcases (hmem x).1 hx with rfl | ⟨hx,_⟩
  ·rw [Bool.or_eq_true];refine .inr ((C.has_dots _ _ _).2 ⟨d,D.Zf.2 (wI.2 ⟨x,by simp,h⟩),?_,rfl,rfl⟩);rcases h with rfl | h
   ·exact yga g
   ·exact (k3 d h).1
  ·rw [hR.dots d (wI.2 ⟨x,hx,h⟩)];rfl
 have halive:∀ x ∈ putL L e,x.kind = 1 → uN (putL L e) x.dot = false:=fun x hx h1=>by
  rw [← Bool.not_eq_true,Vs];rintro ⟨y,hy,h2⟩;rcases (hmem x).1 hx with rfl | ⟨hx,h3⟩ <;> rcases (hmem y).1 hy with rfl | ⟨hy,_⟩
  ·exact (k3 _ h2).2 rfl
  ·have:=hR.dots _ (wI.2 ⟨y,hy,.inr h2⟩);rw [hc] at this;cases this
  ·exact h3.elim (fun h=>h h1) (fun h=>h h2)
  ·have:=hR.alive x hx h1;rw [← Bool.not_eq_true,Vs] at this;exact this ⟨y,hy,h2⟩
 have base:∀ {a b:Bool} {p q:List (TDot × TEvent)},Holds p (yr (putL L e)) → Holds q (yz (putL L e)) → (a = true → p = []) → (b = true → q = []) →
   Rep (n + 600) (W ++ C.zo (yD [e])) (C.zW (W ++ C.zo (yD [e]))) (C.zW (W ++ C.zo (yD [e]))) a p b q (putL L e):=fun h1 h2 h3 h4=>
  ⟨rfl,fun k n=>C.yK _ _ _,Wc (by omega) (by omega),h1,h2,h3,h4,hsP,fun x hx=>by
   rcases (hmem x).1 hx with rfl | ⟨hx,_⟩
   ·exact ⟨g,oe⟩
   ·exact hR.good x hx,hdots,halive,hW1,hW2,by
   have h5:=insE_len (L.filter fun x=>!decide (x.kind = 1) || !hasD e.kills x.dot) e (zO hR.srt _);have h6:=List.length_filter_le (fun x:TEvent=>!decide (x.kind = 1) || !hasD e.kills x.dot) L;have:=hR.ll;unfold putL;omega⟩
 have hL1:=Holds.dels e.kills hR.live (zO hR.srt _);have hst1:SrtE ((yr L).filter fun x=>!hasD e.kills x.dot):=zO (zO hR.srt _) _;rcases Uz g with hk | hk
 ·have h1:yr (putL L e) = insE ((yr L).filter fun x=>!hasD e.kills x.dot) e:=vk (zO hsP _) (Vq hst1 e) fun x=>by
   rw [yb,hmem,Vr (fun x hx=>hne x (yb.1 (List.mem_filter.1 hx).1).1),List.mem_filter,yb,Bool.not_eq_true',← Bool.not_eq_true,Yu]
   constructor
   ·rintro ⟨rfl | ⟨h1,h2⟩,h3⟩
    ·exact .inl rfl
    ·exact .inr ⟨⟨h1,h3⟩,h2.resolve_left (fun h=>h h3)⟩
   ·rintro (rfl | ⟨⟨h1,h2⟩,h3⟩)
    ·exact ⟨.inl rfl,hk⟩
    ·exact ⟨.inr ⟨h1,.inr h3⟩,h2⟩
  have h2:yz (putL L e) = yz L:=vk (zO hsP _) (zO hR.srt _) fun x=>by
   rw [xM,hmem,xM]
   constructor
   ·rintro ⟨rfl | ⟨h1,h2⟩,h3⟩
    ·omega
    ·exact ⟨h1,h3⟩
   ·rintro ⟨h1,h2⟩;exact ⟨.inr ⟨h1,.inl (by omega)⟩,h2⟩
  refine ⟨_,_,false,AL.set (e.kills.foldl AL.del m1) e.dot e,nl2,m2,?_,hr,base ?_ ?_ (fun h=>by cases h) hR.n2⟩
  ·unfold ym;rw [E.YF oe,zB,zA,g,Bool.not_true,cond_false,hR.has hn,zB,zA,hc,cond_false,F.Ux [e] (by simp) (by omega),zB,zA,hadd,zB,zA,Qg e (by omega),zA,decide_eq_true hk,cond_true];rw [yha (by omega) (fun h=>by rw [hR.n1 h];exact qO _),zB,zA]
   rfl
  ·rw [h1];exact hL1.add hst1 fun x hx=>hne x (yb.1 (List.mem_filter.1 hx).1).1
  ·rw [h2];exact hR.tomb
 ·have h1:yr (putL L e) = (yr L).filter fun x=>!hasD e.kills x.dot:=vk (zO hsP _) hst1 fun x=>by
   rw [yb,hmem,List.mem_filter,yb,Bool.not_eq_true',← Bool.not_eq_true,Yu]
   constructor
   ·rintro ⟨rfl | ⟨h1,h2⟩,h3⟩
    ·omega
    ·exact ⟨⟨h1,h3⟩,h2.resolve_left (fun h=>h h3)⟩
   ·rintro ⟨⟨h1,h2⟩,h3⟩;exact ⟨.inr ⟨h1,.inr h3⟩,h2⟩
  have h2:yz (putL L e) = insE (yz L) e:=vk (zO hsP _) (Vq (zO hR.srt _) e) fun x=>by
   rw [xM,hmem,Vr (fun x hx=>hne x (xM.1 hx).1),xM]
   constructor
   ·rintro ⟨rfl | ⟨h1,h2⟩,h3⟩
    ·exact .inl rfl
    ·exact .inr ⟨h1,h3⟩
   ·rintro (rfl | ⟨h1,h2⟩)
    ·exact ⟨.inl rfl,hk⟩
    ·exact ⟨.inr ⟨h1,.inl (by omega)⟩,h2⟩
  refine ⟨_,_,nl1,e.kills.foldl AL.del m1,false,AL.set m2 e.dot e,?_,hr,base ?_ ?_ (fun h=>by rw [hR.n1 h];exact qO _) (fun h=>by cases h)⟩
  ·unfold ym;rw [E.YF oe,zB,zA,g,Bool.not_true,cond_false,hR.has hn,zB,zA,hc,cond_false,F.Ux [e] (by simp) (by omega),zB,zA,hadd,zB,zA,Qg e (by omega),zA,decide_eq_false (show ¬ e.kind = 1 by omega),cond_false];rw [yha (by omega) hR.n2,zB,zA]
   rfl
  ·rw [h1];exact hL1
  ·rw [h2];exact hR.tomb.add (zO hR.srt _) fun x hx=>hne x (xM.1 hx).1
end

open E (OkE ya SrtE)
open F (hasD yC yD uN)

section
variable {n:Nat} {W c xc:List TPart} {nl1:Bool} {m1:List (TDot × TEvent)} {nl2:Bool} {m2:List (TDot × TEvent)} {L:List TEvent}
theorem Vt (L:List TEvent):(yr L).length ≤ L.length:=List.length_filter_le _ _
theorem qP (L:List TEvent):(yz L).length ≤ L.length:=List.length_filter_le _ _
theorem Rep.kl (hR:Rep n W c xc nl1 m1 nl2 m2 L):∀ e ∈ L,e.kills.length ≤ 256:=fun e he=>(jt (hR.good e he).1).1
theorem Rep.Live (hR:Rep n W c xc nl1 m1 nl2 m2 L) (hn:n ≤ 100000000):zn c nl1 m1 nl2 m2 = pure (yr L):=by
 unfold zn;rw [yfa hR.live (zO hR.srt _) (by have:=Vt L;have:=hR.ll;omega) (fun e he=>by have:=hR.kl e (yb.1 he).1;omega),zB,zA]
theorem Rep.Tombs (hR:Rep n W c xc nl1 m1 nl2 m2 L) (hn:n ≤ 100000000):xH c nl1 m1 nl2 m2 = pure (yz L):=by
 unfold xH;rw [yfa hR.tomb (zO hR.srt _) (by have:=qP L;have:=hR.ll;omega) (fun e he=>by have:=hR.kl e (xM.1 he).1;omega),zB,zA]
theorem xRa (L:List TEvent) (h:∀ e ∈ L,e.kind = 1 ∨ e.kind = 2):(yr L ++ yz L).Perm L:=by
 induction L with
 | nil=>exact List.Perm.refl _
 | cons x r ih=>
  have ih:=ih fun e he=>h e (by simp [he])
  rcases h x (by simp) with h1 | h1
  ·have e1:yr (x :: r) = x :: yr r:=by unfold yr;rw [List.filter_cons,if_pos (by simp [h1])]
   have e2:yz (x :: r) = yz r:=by unfold yz;rw [List.filter_cons,if_neg (by simp [h1])]
   rw [e1,e2];exact ih.cons x
  ·have e1:yr (x :: r) = yr r:=by unfold yr;rw [List.filter_cons,if_neg (by simp [h1])]
   have e2:yz (x :: r) = x :: yz r:=by unfold yz;rw [List.filter_cons,if_pos (by simp [h1])]
   rw [e1,e2];exact List.perm_middle.trans (ih.cons x)
theorem Rep.kinds (hR:Rep n W c xc nl1 m1 nl2 m2 L):∀ e ∈ L,e.kind = 1 ∨ e.kind = 2:=fun e he=>Uz (hR.good e he).1
theorem Rep.All (hR:Rep n W c xc nl1 m1 nl2 m2 L) (hn:n ≤ 100000000):yQ c nl1 m1 nl2 m2 = pure L:=by
 unfold yQ;rw [list2_eq hR.live hR.tomb (xRa L hR.kinds) hR.srt (by have:=hR.ll;omega) (fun e he=>by have:=hR.kl e he;omega),zB,zA]
theorem Rep.Ctx (hR:Rep n W c xc nl1 m1 nl2 m2 L) (hn:n ≤ 100000000):yP c nl1 m1 nl2 m2 = pure (C.zW W):=by
 unfold yP;rw [C.XZ c (hR.okc hn).sm,zB,zA,hR.ctx,C.xi (C.yI W)]
theorem yia (l:List TEvent) (k:Int) (hl:l.length ≤ 1000000000):Xr l k = pure (l.filter fun e=>decide (e.kind = k)):=by
 unfold Xr;rw [zna (body:=ZO l k) l (fun e=>decide (e.kind = k)) (fun t=>pure t) (fun i x t hx hi hI=>by
  have hd:decide ((i:Int) < (l.length:Int)) = true:=by simpa using hi
  unfold ZO;simp only [hd,cond_true,zF hx,zA,zf (show i < 9223372036854775807 by omega)]
  cases decide (x.kind = k) <;> simp only [cond_true,cond_false,zA,if_true,if_false,Bool.false_eq_true]
  rw [zC (by simp;omega)]
  rfl) (fun t=>by unfold ZO;simp [zA]),zA]
theorem Rep.rLive (hR:Rep n W c xc nl1 m1 nl2 m2 L) (hn:n ≤ 100000000) (y:List TPart):YZ ⟨y,L⟩ = pure (yr L):=by
 unfold YZ;rw [yia L 1 (by have:=hR.ll;omega),zB,zA]
 rfl
theorem Rep.rTombs (hR:Rep n W c xc nl1 m1 nl2 m2 L) (hn:n ≤ 100000000) (y:List TPart):UK ⟨y,L⟩ = pure (yz L):=by
 unfold UK;rw [yia L 2 (by have:=hR.ll;omega),zB,zA]
 rfl
theorem Rep.Is (hR:Rep n W c xc nl1 m1 nl2 m2 L) (hn:n ≤ 100000000):z5a ⟨xc,L⟩ c nl1 m1 nl2 m2 = pure 1:=by
 unfold z5a;have hx:C.zW xc = C.zW W:=C.Um hR.xctx;have hll:=hR.ll;have hk:=hR.kl;have hE:=C.yTa (C.zW W) (C.zW W) ((hR.ctx ▸ hR.okc hn:C.Ok (C.zW W)).sm);have a1:=E.qJ (yr L) (yr L) (by have:=Vt L;omega) (fun e he=>by have:=hk e (yb.1 he).1;omega);have a2:=E.qJ (yz L) (yz L) (by have:=qP L;omega) (fun e he=>by have:=hk e (xM.1 he).1;omega);have a3:=E.qJ L L (by omega) (fun e he=>by have:=hk e he;omega);rw [hR.Ctx hn,zB,zA,show (⟨xc,L⟩:R18Book).ctx = xc from rfl,C.WZ xc hR.xok,zB,zA,hx,hE,zB,zA,decide_eq_true rfl,cond_true,hR.Live hn,zB,zA,hR.rLive hn,zB,zA,a1,zB,zA,decide_eq_true rfl,cond_true,
  hR.Tombs hn,zB,zA,hR.rTombs hn,zB,zA,a2,zB,zA,decide_eq_true rfl,cond_true,hR.All hn,zB,zA,show (⟨xc,L⟩:R18Book).l = L from rfl,a3,zB,zA,decide_eq_true rfl]
 rfl
theorem Rep.see (hR:Rep n W c xc nl1 m1 nl2 m2 L) (hn:n ≤ 100000000) {y:List TPart} (hy:C.Ok y) {k:Nat} (h1:y.length ≤ k) (h2:C.totC y ≤ k) (hk:k ≤ 100000000) :
  ∃ c' xc',Zz y c nl1 m1 nl2 m2 = pure c' ∧ JK ⟨xc,L⟩ y = pure ⟨xc',L⟩ ∧ Rep (n + k) (W ++ y) c' xc' nl1 m1 nl2 m2 L:=by
 have hc:=hR.okc hn;have hwl:=hR.wl;have hwt:=hR.wt;have hl:=C.uG W;have ht:=C.uH W;have e1:C.opC (· || ·) xc y = C.zW (W ++ y):=(C.yq rfl _ _).ext (C.yI _) fun k n=>by rw [C.wG rfl,C.yK,C.ub,hR.xctx]
 refine ⟨C.zW (W ++ y),C.zW (W ++ y),?_,?_,?_⟩
 ·unfold Zz;rw [C.wea c y (C.sm_app (by rw [hR.ctx];omega) (by rw [hR.ctx];omega)),zB,zA,hR.ctx,C.qB]
 ·unfold JK;rw [show (⟨xc,L⟩:R18Book).ctx = xc from rfl,C.Jy xc y hR.xok hy,zB,zA,e1]
 ·exact ⟨rfl,fun k n=>C.yK _ _ _,Wc (by rw [List.length_append];omega) (by rw [C.Yr];omega),hR.live,hR.tomb,hR.n1,hR.n2,hR.srt,hR.good,fun d hd=>by rw [C.ub,hR.dots d hd];rfl,hR.alive,by rw [List.length_append];omega,by rw [C.Yr];omega,by have:=hR.ll;omega⟩
def jP (e:TEvent):TEvent:=⟨e.dot,e.kind,e.cid,e.field,e.text,[]⟩
def jA (L:List TEvent) (e:TEvent):List TDot:=yD ((yr L).filter fun x=>if e.kind = 1 then decide (x.cid = e.cid) && decide (x.field = e.field) else decide (x.cid = e.cid))
theorem ofE_eq (l:List TEvent) (cid f:Int) (hl:l.length ≤ 1000000) (hk:∀ e ∈ l,e.kind = 1 ∧ e.kills.length ≤ 300):Yk l cid f = pure (yD (l.filter fun x=>decide (x.cid = cid) && decide (x.field = f))):=by
 unfold Yk wV;have hf:=List.length_filter_le (fun x:TEvent=>decide (x.cid = cid) && decide (x.field = f)) l;have hd:=F.wH (l.filter fun x=>decide (x.cid = cid) && decide (x.field = f)) 300 fun e he=>(hk e (List.mem_filter.1 he).1).2
 rw [zna (body:=yB l cid f) l (fun x=>decide (x.cid = cid) && decide (x.field = f)) (fun t=>pure t) (fun i x t hx hi hI=>by
  have hd:decide ((i:Int) < (l.length:Int)) = true:=by simpa using hi
  unfold yB Zg;simp only [hd,cond_true,zF hx,zA,(hk x (List.mem_of_getElem? hx)).1,decide_true,zV,zB,zf (show i < 9223372036854775807 by omega)]
  cases decide (x.cid = cid) <;> cases decide (x.field = f) <;> simp only [cond_true,cond_false,zA,if_true,if_false,Bool.false_eq_true,Bool.and_true,Bool.and_false,Bool.true_and,Bool.false_and]
  rw [zC (by simp;omega)]
  rfl) (fun t=>by unfold yB;simp [zA]),zA,F.Ux _ (by omega) (by omega),zB,zA,zB,zA]
theorem ofD_eq (l:List TEvent) (cid:Int) (hl:l.length ≤ 1000000) (hk:∀ e ∈ l,e.kind = 1 ∧ e.kills.length ≤ 300):uX l cid = pure (yD (l.filter fun x=>decide (x.cid = cid))):=by
 unfold uX xf;have hf:=List.length_filter_le (fun x:TEvent=>decide (x.cid = cid)) l;have hd:=F.wH (l.filter fun x=>decide (x.cid = cid)) 300 fun e he=>(hk e (List.mem_filter.1 he).1).2
 rw [zna (body:=zr l cid) l (fun x=>decide (x.cid = cid)) (fun t=>pure t) (fun i x t hx hi hI=>by
  have hd:decide ((i:Int) < (l.length:Int)) = true:=by simpa using hi
  unfold zr uW;simp only [hd,cond_true,zF hx,zA,(hk x (List.mem_of_getElem? hx)).1,decide_true,zB,zf (show i < 9223372036854775807 by omega)]
  cases decide (x.cid = cid) <;> simp only [cond_true,cond_false,zA,if_true,if_false,Bool.false_eq_true]
  rw [zC (by simp;omega)]
  rfl) (fun t=>by unfold zr;simp [zA]),zA,F.Ux _ (by omega) (by omega),zB,zA,zB,zA]
theorem rofE_eq (l:List TEvent) (cid f:Int) (hl:l.length ≤ 1000000) (hk:∀ e ∈ l,e.kind = 1 ∧ e.kills.length ≤ 300):VX l cid f = pure (yD (l.filter fun x=>decide (x.cid = cid) && decide (x.field = f))):=by
 unfold VX;have hf:=List.length_filter_le (fun x:TEvent=>decide (x.cid = cid) && decide (x.field = f)) l;rw [zna (body:=ZP l cid f) l (fun x=>decide (x.cid = cid) && decide (x.field = f)) (fun t=>pure t) (fun i x t hx hi hI=>by
  have hd:decide ((i:Int) < (l.length:Int)) = true:=by simpa using hi
  unfold ZP;simp only [hd,cond_true,zF hx,zA,(hk x (List.mem_of_getElem? hx)).1,decide_true,zf (show i < 9223372036854775807 by omega)]
  cases decide (x.cid = cid) <;> cases decide (x.field = f) <;> simp only [cond_true,cond_false,zA,if_true,if_false,Bool.false_eq_true,Bool.and_true,Bool.and_false,Bool.true_and,Bool.false_and]
  rw [zC (by simp;omega)]
  rfl) (fun t=>by unfold ZP;simp [zA]),zA,F.qK _ (by omega) (fun e he=>(hk e (List.mem_filter.1 he).1).2),zB,zA]
theorem rofD_eq (l:List TEvent) (cid:Int) (hl:l.length ≤ 1000000) (hk:∀ e ∈ l,e.kind = 1 ∧ e.kills.length ≤ 300):Ya l cid = pure (yD (l.filter fun x=>decide (x.cid = cid))):=by
 unfold Ya;have hf:=List.length_filter_le (fun x:TEvent=>decide (x.cid = cid)) l;rw [zna (body:=vZ l cid) l (fun x=>decide (x.cid = cid)) (fun t=>pure t) (fun i x t hx hi hI=>by
  have hd:decide ((i:Int) < (l.length:Int)) = true:=by simpa using hi
  unfold vZ;simp only [hd,cond_true,zF hx,zA,(hk x (List.mem_of_getElem? hx)).1,decide_true,zf (show i < 9223372036854775807 by omega)]
  cases decide (x.cid = cid) <;> simp only [cond_true,cond_false,zA,if_true,if_false,Bool.false_eq_true]
  rw [zC (by simp;omega)]
  rfl) (fun t=>by unfold vZ;simp [zA]),zA,F.qK _ (by omega) (fun e he=>(hk e (List.mem_filter.1 he).1).2),zB,zA]
def vAa (W:List TPart) (L:List TEvent) (e:TEvent):TEvent × Int:=
 if ya (jP e) = false then (⟨⟨0,0⟩,0,0,0,⟨#[]⟩,[]⟩,1) else if C.hasC W e.dot.dev e.dot.n = true then (⟨⟨0,0⟩,0,0,0,⟨#[]⟩,[]⟩,7)
 else if 256 < (jA L e).length then (⟨⟨0,0⟩,0,0,0,⟨#[]⟩,[]⟩,3) else (⟨e.dot,e.kind,e.cid,e.field,e.text,jA L e⟩,0)
theorem zoa {e:TEvent} (h:OkE e):OkE (jP e):=⟨h.dot,h.kind,h.cid,h.field,h.text,(fun d hd=>nomatch hd),by simp [jP]⟩
theorem Rep.make (hR:Rep n W c xc nl1 m1 nl2 m2 L) (hn:n ≤ 1000000) {e:TEvent} (oe:OkE e) :
  Zh e c nl1 m1 nl2 m2 = pure (vAa W L e) ∧ VY ⟨xc,L⟩ e = pure (vAa W L e):=by
 have hll:=Vt L;have hL:=hR.ll;have hk:∀ x ∈ yr L,x.kind = 1 ∧ x.kills.length ≤ 300:=fun x hx=>⟨(yb.1 hx).2,by have:=hR.kl x (yb.1 hx).1;omega⟩
 have h1:=E.YF (zoa oe);have h2:=E.Wa (zoa oe);have h3:=hR.has (by omega) e.dot;have h4:=hR.rhas e.dot;have a1:=ofE_eq (yr L) e.cid e.field (by omega) hk;have a2:=ofD_eq (yr L) e.cid (by omega) hk;have a3:=rofE_eq (yr L) e.cid e.field (by omega) hk;have a4:=rofD_eq (yr L) e.cid (by omega) hk;unfold vAa
 constructor
 ·unfold Zh;rw [show (⟨e.dot,e.kind,e.cid,e.field,e.text,([]:List TDot)⟩:TEvent) = jP e from rfl,h1,zB,zA]
  cases ya (jP e) with
  | false=>rfl
  | true=>
   rw [Bool.not_true,cond_false,h3,zB,zA]
   cases C.hasC W e.dot.dev e.dot.n with
   | true=>rfl
   | false=>
    rw [cond_false,if_neg (by simp),if_neg (by simp)];have hq:(cond (decide (e.kind = 1))
      (M.bind (M.det (zn c nl1 m1 nl2 m2)) fun y15=>M.bind (M.det (Yk y15 e.cid e.field)) fun v17=>M.pure (Ex.brk v17))
      (M.bind (M.det (zn c nl1 m1 nl2 m2)) fun y19=>M.bind (M.det (uX y19 e.cid)) fun v21=>M.pure (Ex.brk v21)):M (Ex (List TDot) (TEvent × Int))) = pure (Ex.brk (jA L e)):=by
     rw [hR.Live (by omega),zB,zA,zA,a1,a2,zB,zB,zA,zA,Xj];unfold jA
     by_cases h:e.kind = 1 <;> simp [h]
    rw [hq,zA,ud,yH]
    by_cases h:256 < (jA L e).length
    ·rw [if_pos h,if_pos (by omega)]
    ·rw [if_neg h,if_neg (by omega)]
 ·unfold VY;rw [show (⟨e.dot,e.kind,e.cid,e.field,e.text,([]:List TDot)⟩:TEvent) = jP e from rfl,h2,zB,zA]
  cases ya (jP e) with
  | false=>rfl
  | true=>
   rw [Bool.not_true,cond_false,show (⟨xc,L⟩:R18Book).ctx = xc from rfl,h4,zB,zA]
   cases C.hasC W e.dot.dev e.dot.n with
   | true=>rfl
   | false=>
    rw [cond_false,if_neg (by simp),if_neg (by simp),hR.rLive (by omega),zB,zA,a4,zB,zA];simp only [zA,a3,zB];rw [Xj,zA];have hq:(cond (decide (e.kind = 1)) (yD ((yr L).filter fun x=>decide (x.cid = e.cid) && decide (x.field = e.field))) (yD ((yr L).filter fun x=>decide (x.cid = e.cid)))) = jA L e:=by
     unfold jA
     by_cases h:e.kind = 1 <;> simp [h]
    rw [hq,yH]
    by_cases h:256 < (jA L e).length
    ·rw [if_pos h,if_pos (by omega)]
    ·rw [if_neg h,if_neg (by omega)]
end

open E (OkE ya SrtE)
open F (hasD yC yD uN)

theorem yja {l:List TEvent}:SrtE l ↔ D.Srt (l.map (·.dot)):=by
 unfold SrtE D.Srt;rw [List.pairwise_map]
theorem YJ {l l':List TEvent} (h:SrtE l) (e:l'.map (·.dot) = l.map (·.dot)):SrtE l':=by rw [yja,e,← yja];exact h
def yU (y:List TPart) (x:TEvent):TEvent:=if C.hasC y x.dot.dev x.dot.n = true then jP x else x
theorem YK (y:List TPart) (x:TEvent):(yU y x).dot = x.dot:=by unfold yU;split <;> rfl
theorem Yv (y:List TPart) (x:TEvent):(yU y x).kind = x.kind:=by unfold yU;split <;> rfl
theorem jB (y:List TPart) (x:TEvent):∀ d ∈ (yU y x).kills,d ∈ x.kills:=by
 unfold yU
 split
 ·intro d hd;cases hd
 ·intro d hd;exact hd
theorem xSa {y:List TPart} {x:TEvent} (h:ya x = true ∧ OkE x):ya (yU y x) = true ∧ OkE (yU y x):=by
 unfold yU
 split
 ·refine ⟨?_,zoa h.2⟩;have:=h.1;simp only [ya,Bool.and_eq_true] at this ⊢;exact ⟨this.1,this.2.1,rfl⟩
 ·exact h
theorem vF (y:List TPart) (l:List TEvent):(l.map (yU y)).map (·.dot) = l.map (·.dot):=by
 rw [List.map_map];exact List.map_congr_left fun x _=>YK y x
theorem Strip_eq (x:TEvent) {y:List TPart} (hy:C.Ok y) (hk:x.kills.length ≤ 1000000000):XT x y = pure (yU y x):=by
 unfold XT;rw [Uv x (by omega),zB,zA,C.Uo y x.dot hy.sm,zB,zA,Xj,zA];unfold yU jP
 cases C.hasC y x.dot.dev x.dot.n <;> rfl
theorem vBa (x:TEvent) {y:List TPart} (hy:C.Ok y):Xs x y = pure (yU y x):=by
 unfold Xs;rw [C.Xa y x.dot hy,zB,zA,Xj,zA];unfold yU jP
 cases C.hasC y x.dot.dev x.dot.n <;> rfl
def xR (y:List TPart) (x:TEvent):Bool:=C.hasC y x.dot.dev x.dot.n
def ZA (y:List TPart) (L:List TEvent):List TEvent:=(L.filter fun x=>decide (x.kind = 1) || !xR y x).map (yU y)
theorem yka {m:List (TDot × TEvent)} {A B:List TEvent} {x x':TEvent} (h:Holds m (A ++ x :: B)) (hs:SrtE (A ++ x :: B)) (hd:x'.dot = x.dot):Holds (AL.set m x.dot x') (A ++ x' :: B):=by
 have hs':SrtE (A ++ x' :: B):=YJ hs (by simp [hd]);refine qM (AL.nodup_set (h.keys hs) _ _) hs' fun k=>?_
 rw [w7a (h.keys hs),h.mem];have hne:∀ z,z ∈ A ∨ z ∈ B → z.dot ≠ x.dot:=fun z hz e=>by
  have hz':z ∈ A ++ x :: B:=by rw [List.mem_append,List.mem_cons];exact hz.imp (fun h=>h) .inr
  have e2:=srtE_one hs hz' (by simp) e;subst e2;have h2:=Wb hs;rw [List.map_append,List.map_cons,List.nodup_append,List.nodup_cons] at h2;rcases hz with hz | hz
  ·exact h2.2.2 _ (List.mem_map.2 ⟨z,hz,rfl⟩) _ (by simp) rfl
  ·exact h2.2.1.1 (List.mem_map.2 ⟨z,hz,rfl⟩)
 simp only [List.mem_append,List.mem_cons]
 constructor
 ·rintro (⟨⟨h1,h2⟩,h3⟩ | h1)
  ·refine ⟨?_,h2⟩;rcases h1 with h1 | h1 | h1
   ·exact .inl h1
   ·exact absurd (by rw [h2,h1]) h3
   ·exact .inr (.inr h1)
  ·rw [h1];exact ⟨.inr (.inl rfl),hd.symm⟩
 ·rintro ⟨h1 | h1 | h1,h2⟩
  ·exact .inl ⟨⟨.inl h1,h2⟩,by rw [h2];exact hne _ (.inl h1)⟩
  ·refine .inr ?_;obtain ⟨k1,k2⟩:=k;simp only at h1 h2;rw [h2,h1,hd]
  ·exact .inl ⟨⟨.inr (.inr h1),h2⟩,by rw [h2];exact hne _ (.inr h1)⟩
theorem has_of {m:List (TDot × TEvent)} {l:List TEvent} (h:Holds m l) (hs:SrtE l) {x:TEvent} (hx:x ∈ l):AL.has m x.dot = true:=by
 unfold AL.has;have:=AL.mem_get (h.keys hs) ((Holds.mem h (k:=(x.dot,x))).2 ⟨hx,rfl⟩);rw [this];rfl
theorem xTa {y:List TPart} (hy:C.Ok y) (l:List TEvent) (hl:l.length ≤ 1000000000) (hk:∀ e ∈ l,e.kills.length ≤ 300) (hs:SrtE l) {nl:Bool} {m:List (TDot × TEvent)} (h:Holds m l) :
  ∃ m',Zy l y nl m = pure (nl,m') ∧ Holds m' (l.map (yU y)) ∧ (m = [] → m' = []):=by
 have h1:=ww (body:=xu l y nl) l (fun i (t:List (TDot × TEvent))=>((i:Int),t)) (fun t x=>AL.set t x.dot (yU y x)) (fun t=>pure (nl,t))
  (fun i t=>Holds t ((l.take i).map (yU y) ++ l.drop i)) (fun i x t hx hi hI=>by
   have hd:decide ((i:Int) < (l.length:Int)) = true:=by simpa using hi
   have hdr:l.drop i = x :: l.drop (i + 1):=by
    rw [List.drop_eq_getElem_cons hi]
    congr 1
    rw [List.getElem?_eq_getElem hi] at hx;exact Option.some.inj hx
   have htk:l.take (i + 1) = l.take i ++ [x]:=by rw [List.take_add_one,hx];rfl
   have hss:SrtE ((l.take i).map (yU y) ++ x :: l.drop (i + 1)):=by
    rw [← hdr];refine YJ hs ?_;rw [List.map_append,vF,← List.map_append,List.take_append_drop]
   rw [hdr] at hI;refine ⟨?_,?_⟩
   ·unfold xu;have hh:=has_of hI hss (x:=x) (by simp);simp only [hd,cond_true,zF hx,zA,hh,Strip_eq x hy (by have:=hk x (List.mem_of_getElem? hx);omega),zB,zf (show i < 9223372036854775807 by omega)];rw [zC trivial,zA]
   ·rw [htk,List.map_append,List.append_assoc];exact yka hI hss (YK y x)) (fun t _=>by
   unfold xu;simp [zA]) m (by simpa using h)
 have hinv:∀ (k i:Nat) (t:List (TDot × TEvent)),i + k = l.length → Holds t ((l.take i).map (yU y) ++ l.drop i) → Holds ((l.drop i).foldl (fun t x=>AL.set t x.dot (yU y x)) t) (l.map (yU y)):=by
  intro k
  induction k with
  | zero=>
   intro i t hi ht;have:i = l.length:=by omega
   subst this;rw [List.drop_length,List.take_length,List.append_nil] at ht;rw [List.drop_length];exact ht
  | succ k ih=>
   intro i t hi ht;have hlt:i < l.length:=by omega
   have hdr:=List.drop_eq_getElem_cons hlt;have htk:l.take (i + 1) = l.take i ++ [l[i]]:=by rw [List.take_add_one,List.getElem?_eq_getElem hlt];rfl
   have hss:SrtE ((l.take i).map (yU y) ++ l[i] :: l.drop (i + 1)):=by
    rw [← hdr];refine YJ hs ?_;rw [List.map_append,vF,← List.map_append,List.take_append_drop]
   rw [hdr,List.foldl_cons];refine ih (i + 1) _ (by omega) ?_;rw [htk,List.map_append,List.append_assoc];rw [hdr] at ht;exact yka ht hss (YK y _)
 refine ⟨l.foldl (fun (t:List (TDot × TEvent)) (x:TEvent)=>AL.set t x.dot (yU y x)) m,by unfold Zy;exact h1,by simpa using hinv l.length 0 m (by omega) (by simpa using h),fun hm=>?_⟩;subst hm;have:l = []:=by
  have:=h.len;simpa using this.symm
 rw [this];rfl
section
variable {n:Nat} {W c xc:List TPart} {nl1:Bool} {m1:List (TDot × TEvent)} {nl2:Bool} {m2:List (TDot × TEvent)} {L:List TEvent}
theorem Rep.Live' (hR:Rep n W c xc nl1 m1 nl2 m2 L) (hn:n ≤ 100000000) (c':List TPart) (b:Bool) (m':List (TDot × TEvent)):zn c' nl1 m1 b m' = pure (yr L):=hR.Live hn
theorem vCa {y:List TPart} (hy:C.Ok y) (T:List TEvent) (hl:T.length ≤ 1000000000) (m:List (TDot × TEvent)) :
  loop (yJ T y) (0,0,m) = pure (((T.filter (xR y)).length:Int),((T.filter (xR y)).map (·.dot)).foldl AL.del m):=by
 have h1:=ww (body:=yJ T y) T (fun i (t:List TEvent × List (TDot × TEvent))=>((t.1.length:Int),(i:Int),t.2)) (fun t x=>if xR y x = true then (t.1 ++ [x],AL.del t.2 x.dot) else t) (fun t=>pure ((t.1.length:Int),t.2))
  (fun i t=>t.1.length ≤ i) (fun i x t hx hi hI=>by
   have hd:decide ((i:Int) < (T.length:Int)) = true:=by simpa using hi
   refine ⟨?_,?_⟩
   ·unfold yJ;have hh:vv y x.dot = pure (xR y x):=C.Uo y x.dot hy.sm;simp only [hd,cond_true,zF hx,zA,hh,zB,zf (show i < 9223372036854775807 by omega)]
    cases xR y x with
    | true=>
     simp only [cond_true,if_true,zA];rw [zf (by omega)];simp
    | false=>simp [zA]
   ·split
    ·simp only [List.length_append,List.length_singleton];omega
    ·omega) (fun t _=>by
   unfold yJ;simp [zA]) ([],m) (Nat.le_refl _)
 have hf:∀ (q:List TEvent) (t:List TEvent × List (TDot × TEvent)),q.foldl (fun t x=>if xR y x = true then (t.1 ++ [x],AL.del t.2 x.dot) else t) t = (t.1 ++ q.filter (xR y),((q.filter (xR y)).map (·.dot)).foldl AL.del t.2):=by
  intro q
  induction q with
  | nil=>intro t;simp
  | cons x r ih=>
   intro t;rw [List.foldl_cons,ih,List.filter_cons]
   split <;> simp_all
 rw [hf] at h1;exact h1
theorem zpa {y:List TPart} (hy:C.Ok y) (xc:List TPart) (L:List TEvent) (hl:L.length ≤ 1000000000):loop (vM ⟨xc,L⟩ y) (0,[]) = pure (ZA y L):=by
 have h1:=ww (body:=vM ⟨xc,L⟩ y) L (fun i (t:List TEvent)=>((i:Int),t)) (fun t x=>if (decide (x.kind = 1) || !xR y x) = true then t ++ [yU y x] else t) (fun t=>pure t)
  (fun i t=>t.length ≤ i) (fun i x t hx hi hI=>by
   have hd:decide ((i:Int) < (L.length:Int)) = true:=by simpa using hi
   refine ⟨?_,by split <;> (try rw [List.length_append,List.length_singleton]) <;> omega⟩;unfold vM;have hh:ue y x.dot = pure (xR y x):=C.Xa y x.dot hy;simp only [hd,cond_true,zF hx,zA,hh,zB,vBa x hy,zf (show i < 9223372036854775807 by omega)]
   cases decide (x.kind = 1) <;> cases xR y x <;> simp only [Bool.not_true,Bool.not_false,cond_true,cond_false,zA,Bool.or_true,Bool.or_false,Bool.true_or,Bool.false_or,if_true,if_false,Bool.false_eq_true]
   all_goals (try rw [zC (by simp;omega)])
   all_goals rfl) (fun t _=>by unfold vM;simp [zA]) [] (Nat.le_refl _)
 have hf:∀ (q t:List TEvent),q.foldl (fun t x=>if (decide (x.kind = 1) || !xR y x) = true then t ++ [yU y x] else t) t = t ++ (q.filter fun x=>decide (x.kind = 1) || !xR y x).map (yU y):=by
  intro q
  induction q with
  | nil=>intro t;simp
  | cons x r ih=>intro t;rw [List.foldl_cons,ih,List.filter_cons];split <;> simp
 rw [hf,List.nil_append] at h1;exact h1
theorem Rep.prune (hR:Rep n W c xc nl1 m1 nl2 m2 L) (hn:n ≤ 100000000) {y:List TPart} (hy:C.Ok y) :
  ∃ k nl1' m1' nl2' m2',ut y c nl1 m1 nl2 m2 = pure (k,nl1',m1',nl2',m2') ∧ Xt ⟨xc,L⟩ y = pure (⟨xc,ZA y L⟩,k) ∧ Rep n W c xc nl1' m1' nl2' m2' (ZA y L) ∧ k = ((yz L).filter (xR y)).length:=by
 have hll:=hR.ll;have hl1:=Vt L;have ht1:=qP L;obtain ⟨m1',h1,h2,h3⟩:=xTa (nl:=nl1) hy (yr L) (by omega) (fun e he=>by have:=hR.kl e (yb.1 he).1;omega) (zO hR.srt _) hR.live;have hdel:=Holds.dels ((yz L).filter (xR y) |>.map (·.dot)) hR.tomb (zO hR.srt _);have hP:∀ x ∈ L,(decide (x.kind = 1) || !xR y x) = true ↔ (x.kind = 1 ∨ xR y x = false):=fun x _=>by simp
 have hsP:SrtE (ZA y L):=YJ (zO hR.srt (fun x=>decide (x.kind = 1) || !xR y x)) (vF y _);have mem_p:∀ z,z ∈ ZA y L ↔ ∃ x ∈ L,(x.kind = 1 ∨ xR y x = false) ∧ yU y x = z:=fun z=>by
  unfold ZA;rw [List.mem_map]
  constructor
  ·rintro ⟨x,hx,e⟩;rw [List.mem_filter] at hx;exact ⟨x,hx.1,(hP x hx.1).1 hx.2,e⟩
  ·rintro ⟨x,hx,hp,e⟩;exact ⟨x,List.mem_filter.2 ⟨hx,(hP x hx).2 hp⟩,e⟩
 have hlive:yr (ZA y L) = (yr L).map (yU y):=by
  refine vk (zO hsP _) (YJ (zO hR.srt _) (vF y _)) fun z=>?_
  rw [yb,mem_p,List.mem_map]
  constructor
  ·rintro ⟨⟨x,hx,hp,rfl⟩,hz⟩;exact ⟨x,yb.2 ⟨hx,by rw [← Yv y x];exact hz⟩,rfl⟩
  ·rintro ⟨x,hx,rfl⟩;obtain ⟨h4,h5⟩:=yb.1 hx;exact ⟨⟨x,h4,.inl h5,rfl⟩,by rw [Yv];exact h5⟩
 have htomb:yz (ZA y L) = (yz L).filter fun e=>!hasD ((yz L).filter (xR y) |>.map (·.dot)) e.dot:=by
  refine vk (zO hsP _) (zO (zO hR.srt _) _) fun z=>?_
  rw [xM,mem_p,List.mem_filter,xM,Bool.not_eq_true',← Bool.not_eq_true,Yu];have hsn:∀ x:TEvent,xR y x = false → yU y x = x:=fun x h=>by
   unfold yU;rw [if_neg];show ¬ xR y x = true;rw [h];simp
  constructor
  ·rintro ⟨⟨x,hx,hp,rfl⟩,hz⟩;rw [Yv] at hz;have hs:xR y x = false:=hp.resolve_left (by omega);rw [hsn x hs];refine ⟨⟨hx,hz⟩,fun h=>?_⟩;obtain ⟨w,hw,e⟩:=List.mem_map.1 h;have h4:=(List.mem_filter.1 hw).2;unfold xR at h4 hs;rw [e,hs] at h4;cases h4
  ·rintro ⟨⟨hx,hz⟩,h⟩;have hs:xR y z = false:=by
    cases h4:xR y z with
    | false=>rfl
    | true=>exact absurd (List.mem_map.2 ⟨z,List.mem_filter.2 ⟨xM.2 ⟨hx,hz⟩,h4⟩,rfl⟩) h
   exact ⟨⟨z,hx,.inr hs,hsn z hs⟩,hz⟩
 have hlen:(L.length:Int) - ((ZA y L).length:Int) = ((yz L).filter (xR y)).length:=by
  have e1:(ZA y L).length = (L.filter fun x=>decide (x.kind = 1) || !xR y x).length:=by unfold ZA;rw [List.length_map]
  have e2:(yz L).filter (xR y) = L.filter fun x=>!(decide (x.kind = 1) || !xR y x):=by
   unfold yz;rw [List.filter_filter];refine List.filter_congr fun x hx=>?_
   rcases hR.kinds x hx with h | h <;> simp [h]
  have e3:∀ (q:List TEvent) (p:TEvent → Bool),q.length = (q.filter p).length + (q.filter fun x=>!p x).length:=by
   intro q p
   induction q with
   | nil=>rfl
   | cons x r ih=>rw [List.filter_cons,List.filter_cons];cases p x <;> simp <;> omega
  have:=e3 L fun x=>decide (x.kind = 1) || !xR y x
  rw [e1,e2];omega
 have hle:(ZA y L).length ≤ L.length:=by unfold ZA;rw [List.length_map];exact List.length_filter_le _ _
 refine ⟨_,nl1,m1',nl2,((yz L).filter (xR y) |>.map (·.dot)).foldl AL.del m2,?_,?_,?_,rfl⟩
 ·unfold ut;rw [hR.Tombs hn,zB,zA,vCa hy (yz L) (by omega),zA];simp only [];rw [hR.Live' hn,zB,zA,h1,zB,zA]
 ·unfold Xt;rw [zpa hy xc L (by omega),zA];simp only [];rw [wI64 (by omega) (by omega),hlen]
 ·refine ⟨hR.ctx,hR.xctx,hR.xok,by rw [hlive];exact h2,by rw [htomb];exact hdel,fun h=>h3 (hR.n1 h),fun h=>by rw [hR.n2 h];exact qO _,hsP,fun z hz=>?_,fun d hd=>?_,fun z hz hk=>?_,hR.wl,hR.wt,by omega⟩
  ·obtain ⟨x,hx,_,rfl⟩:=(mem_p z).1 hz;exact xSa (hR.good x hx)
  ·obtain ⟨z,hz,h⟩:=wI.1 hd;obtain ⟨x,hx,_,rfl⟩:=(mem_p z).1 hz;refine hR.dots d (wI.2 ⟨x,hx,?_⟩);rw [YK] at h;exact h.imp (fun h=>h) (jB y x d)
  ·obtain ⟨x,hx,_,rfl⟩:=(mem_p z).1 hz;rw [Yv] at hk;rw [YK,← Bool.not_eq_true,Vs];rintro ⟨w,hw,h⟩;obtain ⟨v,hv,_,rfl⟩:=(mem_p w).1 hw;have:=hR.alive x hx hk;rw [← Bool.not_eq_true,Vs] at this;exact this ⟨v,hv,jB y v _ h⟩
theorem Rep.Same (hR:Rep n W c xc nl1 m1 nl2 m2 L) (hn:n ≤ 100000000) {n':Nat} {W' c' xc':List TPart} {a b:Bool} {p q:List (TDot × TEvent)} {L':List TEvent} (hR':Rep n' W' c' xc' a p b q L') (hn':n' ≤ 100000000) :
  UM c c' nl1 m1 nl2 m2 a p b q = pure (decide (C.zW W = C.zW W') && decide (L = L')):=by
 unfold UM;have o1:C.Ok (C.zW W):=hR.ctx ▸ hR.okc hn;have o2:C.Ok (C.zW W'):=hR'.ctx ▸ hR'.okc hn';have hA:=F.eAll_eq L L' (by have:=hR.ll;omega) (fun e he=>by have:=hR.kl e he;omega);rw [hR.Ctx hn,zB,zA,hR'.Ctx hn',zB,zA,C.Same_eq _ _ o1.sm o2.sm,zB,zA,C.xi (C.yI W),C.xi (C.yI W'),hR.All hn,zB,zA,hR'.All hn',zB,zA,hA,zB,zA,zV,zA]
end

open E (OkE ya SrtE)
open F (hasD yC yD uN)

theorem delF {body:Int × Int × List TEvent → M (Step (Int × Int × List TEvent) (Int × List TEvent))} (p:TEvent → Bool) (l:List TEvent) (hl:l.length ≤ 1000000000)
  (hb1:∀ (i j:Nat) (v:List TEvent) (x:TEvent),v[j]? = some x → j < v.length → i < j → v.length ≤ 1000000000 → body ((i:Int),(j:Int),v) = pure (.next (if p x = true then ((i:Int),((j + 1:Nat):Int),v) else (((i + 1:Nat):Int),((j + 1:Nat):Int),v.set i x))))
  (hb2:∀ (i:Int) (v:List TEvent),body (i,(v.length:Int),v) = pure (.done (i,v))) :
  ∀ (k i j:Nat) (v:List TEvent),j + k = l.length → v.length = l.length → i < j → i = ((l.take j).filter fun x=>!p x).length → v.take i = (l.take j).filter (fun x=>!p x) → v.drop j = l.drop j →
   ∃ v',loop body ((i:Int),(j:Int),v) = pure (((l.filter fun x=>!p x).length:Int),v') ∧ v'.length = l.length ∧ v'.take (l.filter fun x=>!p x).length = l.filter fun x=>!p x:=by
 intro k
 induction k with
 | zero=>
  intro i j v hj hv hij hi ht hd;have e:j = v.length:=by omega
  subst e;rw [zj (hb2 _ _)];rw [hv,List.take_length] at hi ht;exact ⟨v,by rw [hi],hv,by rw [← hi];exact ht⟩
 | succ k ih=>
  intro i j v hj hv hij hi ht hd;have hlt:j < v.length:=by omega
  have hx:=List.getElem?_eq_getElem hlt;have hlx:l[j]? = some v[j]:=by
   have:=congrArg (fun q:List TEvent=>q[0]?) hd;simp only [List.getElem?_drop,Nat.add_zero] at this;rw [← this];exact hx
  have htk:l.take (j + 1) = l.take j ++ [v[j]]:=by rw [List.take_add_one,hlx];rfl
  rw [zi (hb1 i j v _ hx hlt hij (by omega))];have hd1:v.drop (j + 1) = l.drop (j + 1):=by
   have:=congrArg (fun q:List TEvent=>q.drop 1) hd;simpa [List.drop_drop,Nat.add_comm] using this
  by_cases c:p v[j] = true
  ·rw [if_pos c];refine ih i (j + 1) v (by omega) hv (by omega) ?_ ?_ hd1
   ·rw [htk,List.filter_append,List.filter_cons,if_neg (by simp [c])];simpa using hi
   ·rw [htk,List.filter_append,List.filter_cons,if_neg (by simp [c])];simpa using ht
  ·rw [if_neg c];have hf:(l.take (j + 1)).filter (fun x=>!p x) = (l.take j).filter (fun x=>!p x) ++ [v[j]]:=by
    rw [htk,List.filter_append,List.filter_cons,if_pos (by simp [c])];rfl
   refine ih (i + 1) (j + 1) (v.set i v[j]) (by omega) (by rw [List.length_set];exact hv) (by omega) ?_ ?_ ?_
   ·rw [hf,List.length_append,List.length_singleton,← hi]
   ·have hls:i < (v.set i v[j]).length:=by rw [List.length_set];omega
    rw [hf,List.take_add_one,List.take_set,List.getElem?_set_self (by omega),ht];have:((l.take j).filter fun x=>!p x).set i v[j] = (l.take j).filter fun x=>!p x:=List.set_eq_of_length_le (by omega)
    rw [this];rfl
   ·rw [List.drop_set,if_pos (by omega)];exact hd1
theorem xUa (l:List TEvent) (p:TEvent → Bool):∀ b:Nat,match (l.zipIdx b).find? (fun y=>p y.1) with
  | some y=>b ≤ y.2 ∧ y.2 - b < l.length ∧ (l.take (y.2 - b)).all (fun x=>!p x) = true ∧ ∃ x,l[y.2 - b]? = some x ∧ p x = true
  | none=>l.filter (fun x=>!p x) = l:=by
 induction l with
 | nil=>intro b;simp
 | cons x r ih=>
  intro b;rw [List.zipIdx_cons,List.find?_cons]
  cases hp:p x with
  | true=>simp [hp]
  | false=>
   simp only [];have h:=ih (b + 1)
   revert h
   cases (r.zipIdx (b + 1)).find? (fun y=>p y.1) with
   | none=>intro h;rw [List.filter_cons,if_pos (by simp [hp]),h]
   | some y=>
    rintro ⟨h1,h2,h3,z,h4,h5⟩;have e:y.2 - b = (y.2 - (b + 1)) + 1:=by omega
    refine ⟨by omega,by simp;omega,?_,z,?_,h5⟩
    ·rw [e,List.take_succ_cons,List.all_cons,hp];exact h3
    ·rw [e,List.getElem?_cons_succ];exact h4
theorem xVa {l:List TEvent} {p:TEvent → Bool} (h:l.all (fun x=>!p x) = true):l.filter (fun x=>!p x) = l:=List.filter_eq_self.2 fun x hx=>List.all_eq_true.1 h x hx
theorem xWa (p:TEvent → Bool) (l:List TEvent) (hl:l.length ≤ 1000000000) (ask:M Int) (body:Int × Int × List TEvent → M (Step (Int × Int × List TEvent) (Int × List TEvent))) (z:TEvent)
  (hask:ask = match l.zipIdx.find? (fun y=>p y.1) with | some y=>pure (y.2:Int) | none=>pure (-1))
  (hb1:∀ (i j:Nat) (v:List TEvent) (x:TEvent),v[j]? = some x → j < v.length → i < j → v.length ≤ 1000000000 → body ((i:Int),(j:Int),v) = pure (.next (if p x = true then ((i:Int),((j + 1:Nat):Int),v) else (((i + 1:Nat):Int),((j + 1:Nat):Int),v.set i x))))
  (hb2:∀ (i:Int) (v:List TEvent),body (i,(v.length:Int),v) = pure (.done (i,v))) :
  (M.bind (M.det ask) fun v3=>cond (decide (v3 = (-1))) (M.pure l) (M.bind (M.loop body (v3,(IntKind.i64.wrap (v3 + 1)),l)) (fun ⟨i6,v7⟩=>
   M.need ((0:Int) ≤ i6 ∧ i6 ≤ (List.length v7:Int))<|M.need ((Int.toNat i6) + (List.length v7 - Int.toNat i6) ≤ List.length v7) <|
   M.need ((0:Int) ≤ 0 ∧ (0:Int) ≤ i6 ∧ i6 ≤ (List.length ((List.take (Int.toNat i6) v7 ++ List.replicate (List.length v7 - Int.toNat i6) z ++ List.drop ((Int.toNat i6) + (List.length v7 - Int.toNat i6)) v7)):Int)) <|
   M.pure ((List.take (Int.toNat i6) ((List.take (Int.toNat i6) v7 ++ List.replicate (List.length v7 - Int.toNat i6) z ++ List.drop ((Int.toNat i6) + (List.length v7 - Int.toNat i6)) v7)))))):M (List TEvent)) = pure (l.filter fun x=>!p x):=by
 have hf:=xUa l p 0
 revert hf
 rw [hask]
 cases l.zipIdx.find? (fun y=>p y.1) with
 | none=>intro hf;rw [hf];simp [zB,zA]
 | some y=>
  rintro ⟨h1,h2,h3,x,h4,h5⟩;simp only [Nat.sub_zero] at h2 h3 h4;have hne:decide ((y.2:Int) = -1) = false:=decide_eq_false (by omega);have hall:=xVa h3;have hlen:(l.take y.2).length = y.2:=by rw [List.length_take];omega
  have htk:l.take (y.2 + 1) = l.take y.2 ++ [x]:=by rw [List.take_add_one,h4];rfl
  have hft:(l.take (y.2 + 1)).filter (fun x=>!p x) = l.take y.2:=by rw [htk,List.filter_append,hall,List.filter_cons,if_neg (by simp [h5])];simp
  obtain ⟨v',e1,e2,e3⟩:=delF (body:=body) p l hl hb1 hb2 (l.length - (y.2 + 1)) y.2 (y.2 + 1) l (by omega) rfl (by omega) (by rw [hft,hlen]) (by rw [hft]) rfl;have hle:=List.length_filter_le (fun x=>!p x) l;simp only [zB,zA,hne,cond_false,zf (show y.2 < 9223372036854775807 by omega),e1,Int.toNat_natCast];rw [zC (by omega),zC (by omega),zC (by simp;omega)];rw [List.append_assoc,List.take_append_of_le_length (by rw [List.length_take];omega),List.take_take,Nat.min_self,e3]
section
variable {n:Nat} {W c xc:List TPart} {nl1:Bool} {m1:List (TDot × TEvent)} {nl2:Bool} {m2:List (TDot × TEvent)} {L:List TEvent}
theorem vDa (hR:Rep n W c xc nl1 m1 nl2 m2 L) {e:TEvent} (oe:OkE e):OkE (vAa W L e).1:=by
 have hz:OkE ⟨⟨0,0⟩,0,0,0,⟨#[]⟩,[]⟩:=⟨⟨by decide,by decide,by decide,by decide⟩,by decide,by decide,by decide,by decide,(fun d hd=>nomatch hd),by decide⟩
 unfold vAa
 split
 ·exact hz
 ·split
  ·exact hz
  ·split
   ·exact hz
   ·rename_i h
    refine ⟨oe.dot,oe.kind,oe.cid,oe.field,oe.text,fun d hd=>?_,by show (jA L e).length ≤ _;omega⟩;have hd':d ∈ jA L e:=hd;unfold jA at hd';obtain ⟨x,hx,h2⟩:=wI.1 (D.Zf.1 hd');have hxL:=(yb.1 (List.mem_filter.1 hx).1).1;rcases h2 with rfl | h2
    ·exact (hR.good x hxL).2.dot
    ·exact (hR.good x hxL).2.kills d h2
end
structure InA (a:L18Act):Prop where
 ev:a.event.kills.length ≤ 300 ∧ a.event.text.size ≤ 200 → OkE a.event
 dev:∀ p ∈ a.ctx,0 ≤ p.dev
def Qh (a:L18Act):Bool:=E.fewE [a.event] 1 && (decide (a.ctx.length ≤ 30) && a.ctx.all fun p=>decide (p.runs.length ≤ 30))
def fewA (l:List L18Act) (most:Nat):Bool:=decide (l.length ≤ most) && l.all Qh
theorem rFewA_eq (l:List L18Act) (most:Nat) (hm:most ≤ 1000000):JI l (most:Int) = pure (if fewA l most = true then 1 else 0):=by
 unfold JI fewA
 by_cases h:l.length ≤ most
 ·have hd:decide ((most:Int) < (l.length:Int)) = false:=by simp;omega
  have:=xP (body:=YO l) l (fun i=>(i:Int)) (fun _ x=>Qh x) (Ex.brk ()) (Ex.ret (0:Int)) (fun i x hx hi=>by
   have hd:decide ((i:Int) < (l.length:Int)) = true:=by simpa using hi
   unfold YO;have h1:=E.qA [x.event] 1 (by decide);have h1':UF [x.event] 1 = pure (E.fewE [x.event] 1):=h1;simp only [hd,cond_true,zF hx,zA,h1',zB,C.qA,zf (show i < 9223372036854775807 by omega)];unfold Qh
   cases E.fewE [x.event] 1 with
   | false=>rfl
   | true=>
    simp only [Bool.not_true,cond_false,zA,Bool.true_and]
    cases (decide (x.ctx.length ≤ 30) && x.ctx.all fun p=>decide (p.runs.length ≤ 30)) <;> rfl) (by
   unfold YO;simp [zA])
  rw [hd,cond_false,show (0:Int) = ((0:Nat):Int) from rfl,this,zA,decide_eq_true h,Bool.true_and];have hz:(l.zipIdx.all fun y=>Qh y.1) = l.all Qh:=E.YI l Qh;rw [hz]
  cases l.all Qh <;> rfl
 ·have hd:decide ((most:Int) < (l.length:Int)) = true:=by simp;omega
  rw [hd,cond_true,decide_eq_false h,Bool.false_and]
  rfl
theorem fewA_mem {l:List L18Act} {most:Nat} (h:fewA l most = true) (hi:∀ a ∈ l,InA a):l.length ≤ most ∧ ∀ a ∈ l,OkE a.event ∧ C.Ok a.ctx ∧ a.ctx.length ≤ 30 ∧ C.totC a.ctx ≤ 900:=by
 unfold fewA at h;rw [Bool.and_eq_true,decide_eq_true_eq,List.all_eq_true] at h;refine ⟨h.1,fun a ha=>?_⟩;have h2:=h.2 a ha;unfold Qh at h2;rw [Bool.and_eq_true] at h2;have h3:=(E.few_mem h2.1).2 a.event (by simp);have h4:=C.wga h2.2;exact ⟨(hi a ha).ev h3,C.ok_few (hi a ha).dev h4,h4⟩

open E (OkE ya SrtE)
open F (hasD yC yD uN)

def exB : TEvent:=⟨⟨1,2⟩,2,281474976710657,0,⟨#[]⟩,[]⟩
theorem okB : OkE exB:=⟨⟨by decide,by decide,by decide,by decide⟩,by decide,by decide,by decide,by decide,(fun d hd=>nomatch hd),by decide⟩
open E (OkE ya SrtE)
open F (hasD yC yD uN Zj VA)

def badF (l:List TEvent) (i:Nat) (e:TEvent):Bool:=!ya e || (Zj l i e || (decide (e.kind = 1) && uN l e.dot))
def fromB (c:List TPart) (l:List TEvent):Bool:=(l.zipIdx.all fun y=>!badF l y.2 y.1) && (decide (c = C.zW c) && decide (VA (yD l) c = []))
theorem Qi {l:List TEvent} {e:TEvent} (h:∀ x ∈ l,zK x.dot e.dot = true):insE l e = l ++ [e]:=by
 unfold insE;rw [List.filter_eq_self.2 h,List.filter_eq_nil_iff.2 fun x hx=>by rw [D.Ze (h x hx)];simp];simp
theorem prev_srt {l:List TEvent} {i:Nat} {x:TEvent} (hx:l[i]? = some x) (hs:SrtE (l.take i)) (hp:Zj l i x = false):SrtE (l.take (i + 1)) ∧ ∀ z ∈ l.take i,zK z.dot x.dot = true:=by
 have htk:l.take (i + 1) = l.take i ++ [x]:=by rw [List.take_add_one,hx];rfl
 have hlt:i < l.length:=(List.getElem?_eq_some_iff.1 hx).1;have hall:∀ z ∈ l.take i,zK z.dot x.dot = true:=by
  intro z hz;obtain ⟨j,hj⟩:=List.getElem?_of_mem hz;have hji:j < (l.take i).length:=(List.getElem?_eq_some_iff.1 hj).1;rw [List.length_take] at hji;obtain ⟨y,hy⟩:∃ y,l[i - 1]? = some y:=⟨_,List.getElem?_eq_getElem (by omega)⟩
  unfold Zj at hp;rw [decide_eq_true (show 0 < i by omega),Bool.true_and,hy] at hp;have hyx:zK y.dot x.dot = true:=V.ZZ.1 (by simpa using hp)
  by_cases e:j = i - 1
  ·have:(l.take i)[j]? = l[j]?:=by rw [List.getElem?_take,if_pos (by omega)]
   rw [this,e,hy] at hj
   cases hj;exact hyx
  ·have h2:(l.take i)[i - 1]? = some y:=by rw [List.getElem?_take,if_pos (by omega)];exact hy
   have h3:=List.pairwise_iff_getElem.1 hs j (i - 1) (by rw [List.length_take];omega) (by rw [List.length_take];omega) (by omega);rw [(List.getElem?_eq_some_iff.1 hj).2,(List.getElem?_eq_some_iff.1 h2).2] at h3;exact D.Yt h3 hyx
 refine ⟨?_,hall⟩;rw [htk];unfold SrtE;rw [List.pairwise_append];exact ⟨hs,by simp,fun a ha b hb=>by rw [List.mem_singleton.1 hb];exact hall a ha⟩
theorem Qj (l:List TEvent) (x:TEvent):yr (l ++ [x]) = yr l ++ (if x.kind = 1 then [x] else []):=by
 unfold yr;rw [List.filter_append,List.filter_cons];by_cases h:x.kind = 1 <;> simp [h]
theorem Qk (l:List TEvent) (x:TEvent):yz (l ++ [x]) = yz l ++ (if x.kind = 2 then [x] else []):=by
 unfold yz;rw [List.filter_append,List.filter_cons];by_cases h:x.kind = 2 <;> simp [h]
theorem from_bad {l:List TEvent} (hl:l.length ≤ 1000000) (hk:∀ e ∈ l,OkE e ∧ e.kills.length ≤ 300) {i:Nat} {x:TEvent} (hx:l[i]? = some x) :
  (M.bind (M.det (we x)) fun v84=>cond (!v84) (M.pure true) (cond (decide (0 < (i:Int)))
   (M.bind (M.idx l (IntKind.i64.wrap ((i:Int) - 1))) fun x88=>M.bind (M.det (XM x88.dot x.dot)) fun v90=>cond (decide (0 ≤ v90)) (M.pure true) (cond (decide (x.kind = 1)) (M.bind (M.det (wg l x.dot)) fun v94=>M.pure v94) (M.pure false)))
   (cond (decide (x.kind = 1)) (M.bind (M.det (wg l x.dot)) fun v97=>M.pure v97) (M.pure false))):M Bool) = pure (badF l i x):=by
 have hm:=List.mem_of_getElem? hx;have hi:i < l.length:=(List.getElem?_eq_some_iff.1 hx).1;rw [E.YF (hk x hm).1,zB,zA,F.Dead_eq l x.dot (by omega) (fun e he=>by have:=(hk e he).2;omega),zB,zA];have hp:=F.prev_eq (x:=x) hi (by omega) XM D.Cmp_eq (fun b=>(cond b (M.pure true) (cond (decide (x.kind = 1)) (M.pure (uN l x.dot)) (M.pure false)):M Bool));simp only [cond_false] at hp;rw [hp];unfold badF
 cases ya x <;> cases Zj l i x <;> cases decide (x.kind = 1) <;> rfl
theorem vEa {l:List TEvent} (hl:l.length ≤ 1000000) (hk:∀ e ∈ l,OkE e ∧ e.kills.length ≤ 300) :
  ∀ (k i:Nat) (nl2:Bool) (m2:List (TDot × TEvent)) (nl1:Bool) (m1:List (TDot × TEvent)),i + k = l.length → SrtE (l.take i) → (∀ e ∈ l.take i,ya e = true) → Holds m1 (yr (l.take i)) → Holds m2 (yz (l.take i)) → (nl1 = true → m1 = []) → (nl2 = true → m2 = []) →
   if ((l.drop i).zipIdx i).all (fun y=>!badF l y.2 y.1) = true then ∃ b q a p,loop (zm l) ((i:Int),nl2,m2,nl1,m1) = pure (Ex.brk (b,q,a,p)) ∧ SrtE l ∧ (∀ e ∈ l,ya e = true) ∧ Holds p (yr l) ∧ Holds q (yz l) ∧ (a = true → p = []) ∧ (b = true → q = [])
   else loop (zm l) ((i:Int),nl2,m2,nl1,m1) = pure (Ex.ret (.inl ())):=by
 intro k
 induction k with
 | zero=>
  intro i nl2 m2 nl1 m1 hi hs hg h1 h2 h3 h4;have e:i = l.length:=by omega
  subst e;rw [List.drop_length,if_pos (by simp)];rw [List.take_length] at hs hg h1 h2;refine ⟨nl2,m2,nl1,m1,?_,hs,hg,h1,h2,h3,h4⟩;refine zj ?_;unfold zm;simp
 | succ k ih=>
  intro i nl2 m2 nl1 m1 hi hs hg h1 h2 h3 h4;obtain ⟨x,hx⟩:∃ x,l[i]? = some x:=⟨_,List.getElem?_eq_getElem (by omega)⟩
  have hm:=List.mem_of_getElem? hx;have hdr:l.drop i = x :: l.drop (i + 1):=by
   rw [List.drop_eq_getElem_cons (by omega)]
   congr 1
   rw [List.getElem?_eq_getElem (by omega)] at hx;exact Option.some.inj hx
  have htk:l.take (i + 1) = l.take i ++ [x]:=by rw [List.take_add_one,hx];rfl
  have hd:decide ((i:Int) < (l.length:Int)) = true:=by simp;omega
  have hb:=from_bad hl hk hx;rw [hdr,List.zipIdx_cons,List.all_cons]
  cases hbad:badF l i x with
  | true=>
   simp only [Bool.not_true,Bool.false_and,Bool.false_eq_true,if_false];refine zj ?_;unfold zm;simp only [hd,cond_true,zF hx,zA];rw [hb,zA,hbad]
   rfl
  | false=>
   simp only [Bool.not_false,Bool.true_and];have hgx:ya x = true:=by
    unfold badF at hbad;simp only [Bool.or_eq_false_iff,Bool.not_eq_false'] at hbad;exact hbad.1
   have hpx:Zj l i x = false:=by
    unfold badF at hbad;simp only [Bool.or_eq_false_iff] at hbad;exact hbad.2.1
   obtain ⟨hs',hall⟩:=prev_srt hx hs hpx;have hg':∀ e ∈ l.take (i + 1),ya e = true:=fun e he=>by
    rw [htk] at he;rcases List.mem_append.1 he with h | h
    ·exact hg e h
    ·rw [List.mem_singleton.1 h];exact hgx
   have hxk:=(hk x hm).2;rcases Uz hgx with hkd | hkd
   ·have hb2:zm l ((i:Int),nl2,m2,nl1,m1) = pure (.next (((i + 1:Nat):Int),nl2,m2,false,AL.set m1 x.dot x)):=by
     unfold zm;simp only [hd,cond_true,zF hx,zA];rw [hb,zA,hbad,decide_eq_true hkd];simp only [cond_false,cond_true,yha (show x.kills.length ≤ 1000000000000 by omega) h3,zB,zA,ud,zf (show i < 9223372036854775807 by omega)]
    rw [zi hb2];refine ih (i + 1) nl2 m2 false _ (by omega) hs' hg' ?_ ?_ (fun h=>by cases h) h4
    ·rw [htk,Qj,if_pos hkd,← Qi (fun z hz=>hall z (yb.1 hz).1)];exact h1.add (zO hs _) fun z hz e=>by have:=hall z (yb.1 hz).1;rw [e,D.XI] at this;cases this
    ·rw [htk,Qk,if_neg (by omega),List.append_nil];exact h2
   ·have hb2:zm l ((i:Int),nl2,m2,nl1,m1) = pure (.next (((i + 1:Nat):Int),false,AL.set m2 x.dot x,nl1,m1)):=by
     unfold zm;simp only [hd,cond_true,zF hx,zA];rw [hb,zA,hbad,decide_eq_false (show ¬ x.kind = 1 by omega)];simp only [cond_false,yha (show x.kills.length ≤ 1000000000000 by omega) h4,zB,zA,ud,zf (show i < 9223372036854775807 by omega)]
    rw [zi hb2];refine ih (i + 1) false _ nl1 m1 (by omega) hs' hg' ?_ ?_ h3 (fun h=>by cases h)
    ·rw [htk,Qj,if_neg (by omega),List.append_nil];exact h1
    ·rw [htk,Qk,if_pos hkd,← Qi (fun z hz=>hall z (xM.1 hz).1)];exact h2.add (zO hs _) fun z hz e=>by have:=hall z (xM.1 hz).1;rw [e,D.XI] at this;cases this
theorem drop_nil {l:List TDot} {c:List TPart} (h:VA l c = []):∀ d ∈ l,C.hasC c d.dev d.n = true:=fun d hd=>by
 cases hc:C.hasC c d.dev d.n with
 | true=>rfl
 | false=>
  have:d ∈ VA l c:=D.Zf.2 (List.mem_filter.2 ⟨hd,by simp [hc]⟩);rw [h] at this;cases this
theorem From_eq {c:List TPart} {l:List TEvent} (hc:C.Ok c) {n:Nat} (h1:c.length ≤ n) (h2:C.totC c ≤ n) (hl:l.length ≤ n) (hn:n ≤ 1000000) (hk:∀ e ∈ l,OkE e ∧ e.kills.length ≤ 300) :
  if fromB c l = true then ∃ a p b q,xC c l = pure (.inr (C.zW c,a,p,b,q)) ∧ Rep n c (C.zW c) c a p b q l else xC c l = pure (.inl ()):=by
 have hlen:=F.wH l 300 fun e he=>(hk e he).2
 have hdl:(yD l).length ≤ (yC l).length:=D.Vp _;have key:=vEa (l:=l) (by omega) hk l.length 0 true [] true [] (by omega) (by simp [SrtE]) (by simp) (by simp [Holds,yr]) (by simp [Holds,yz]) (fun _=>rfl) (fun _=>rfl);rw [List.drop_zero] at key;have h0:loop (zm l) (((0:Nat):Int),true,[],true,[]) = loop (zm l) (0,true,[],true,[]):=rfl;rw [h0] at key;unfold fromB;unfold xC;rw [C.XZ c hc.sm,zB,zA]
 cases ha:(l.zipIdx.all fun y=>!badF l y.2 y.1) with
 | false=>
  rw [ha,if_neg (by simp)] at key;rw [Bool.false_and,if_neg (by simp),key,zA,UA]
 | true=>
  rw [ha,if_pos rfl] at key;obtain ⟨b,q,a,p,e1,hs,hg,g1,g2,g3,g4⟩:=key;rw [e1,zA,ud,Bool.true_and];simp only [];rw [C.YF c hc.sm,zB,zA,F.Ux l (by omega) (by omega),zB,zA,F.Drop_eq (yD l) c (by omega) hc.sm,zB,zA];have hdec:decide (0 < ((VA (yD l) c).length:Int)) = !decide (VA (yD l) c = []):=by
   cases VA (yD l) c with
   | nil=>rfl
   | cons x r=>simp <;> omega
  rw [hdec]
  cases hcn:decide (c = C.zW c) with
  | false=>rw [Bool.false_and,if_neg (by simp)];rfl
  | true=>
   rw [Bool.true_and,Bool.not_true,cond_false,zA]
   cases hdn:decide (VA (yD l) c = []) with
   | false=>rw [if_neg (by simp)];rfl
   | true=>
    rw [if_pos rfl];refine ⟨a,p,b,q,rfl,⟨rfl,fun _ _=>rfl,hc,g1,g2,g3,g4,hs,fun e he=>⟨hg e he,(hk e he).1⟩,fun d hd=>drop_nil (of_decide_eq_true hdn) d (D.Zf.2 hd),fun e he h1=>?_,h1,h2,hl⟩⟩;rw [List.all_eq_true] at ha;obtain ⟨i,hi⟩:=List.getElem?_of_mem he;have:=ha (e,i) (by rw [List.mem_zipIdx_iff_getElem?];exact hi);simp only [Bool.not_eq_true',badF,Bool.or_eq_false_iff,Bool.and_eq_false_iff] at this;rcases this.2.2 with h | h
    ·exact absurd h1 (of_decide_eq_false h)
    ·exact h
open E (OkE ya SrtE)
open F (hasD yC yD uN Zj VA)

theorem zqa {l:List TEvent} (hs:SrtE l) {i:Nat} {x:TEvent} (hx:l[i]? = some x):Zj l i x = false:=by
 unfold Zj
 by_cases h:0 < i
 ·have hl:=(List.getElem?_eq_some_iff.1 hx).1;obtain ⟨y,hy⟩:∃ y,l[i - 1]? = some y:=⟨_,List.getElem?_eq_getElem (by omega)⟩
  have h3:=List.pairwise_iff_getElem.1 hs (i - 1) i (by omega) hl (by omega);rw [(List.getElem?_eq_some_iff.1 hy).2,(List.getElem?_eq_some_iff.1 hx).2] at h3;have:=V.ZZ.2 h3;rw [hy];simp;omega
 ·simp [h]
section
variable {n:Nat} {W c xc:List TPart} {nl1:Bool} {m1:List (TDot × TEvent)} {nl2:Bool} {m2:List (TDot × TEvent)} {L:List TEvent}
theorem Rep.fromB (hR:Rep n W c xc nl1 m1 nl2 m2 L):fromB (C.zW W) L = true:=by
 unfold G.fromB;rw [Bool.and_eq_true,Bool.and_eq_true];refine ⟨List.all_eq_true.2 fun y hy=>?_,by rw [C.xi (C.yI W)];simp,?_⟩
 ·have hx:L[y.2]? = some y.1:=List.mem_zipIdx_iff_getElem?.1 hy;have hm:=List.mem_of_getElem? hx;unfold badF;rw [(hR.good _ hm).1,zqa hR.srt hx]
  by_cases hk:y.1.kind = 1
  ·rw [hR.alive _ hm hk];simp
  ·simp [hk]
 ·rw [decide_eq_true_eq];unfold VA;rw [List.filter_eq_nil_iff.2 fun d hd=>by rw [C.yK,hR.dots d (D.Zf.1 hd)];simp]
  rfl
theorem Rep.From (hR:Rep n W c xc nl1 m1 nl2 m2 L) (hn:n ≤ 500000) :
  ∃ a p b q,xC (C.zW W) L = pure (.inr (C.zW W,a,p,b,q)) ∧ Rep (2 * n) (C.zW W) (C.zW W) (C.zW W) a p b q L:=by
 have hwl:=hR.wl;have hwt:=hR.wt;have hll:=hR.ll;have h1:=C.uG W;have h2:=C.uH W;have h:=From_eq (c:=C.zW W) (l:=L) (Wc (by omega) (by omega)) (n:=2 * n) (by omega) (by omega) (by omega) (by omega) (fun e he=>⟨(hR.good e he).2,by have:=hR.kl e he;omega⟩);rw [hR.fromB,if_pos rfl,C.xi (C.yI W)] at h;exact h
end
open E (OkE ya SrtE)
open F (hasD yC yD uN)

section
variable {n:Nat} {W c xc:List TPart} {nl1:Bool} {m1:List (TDot × TEvent)} {nl2:Bool} {m2:List (TDot × TEvent)} {L:List TEvent}
def putW (s:List TPart × List TEvent) (e:TEvent):List TPart × List TEvent:=if ya e = true ∧ C.hasC s.1 e.dot.dev e.dot.n = false then (s.1 ++ C.zo (yD [e]),putL s.2 e) else s
theorem Rep.putS (hR:Rep n W c xc nl1 m1 nl2 m2 L) (hn:n ≤ 100000000) {e:TEvent} (oe:OkE e) :
  ∃ k c' xc' nl1' m1' nl2' m2',ym e c nl1 m1 nl2 m2 = pure (k,c',nl1',m1',nl2',m2') ∧ ZN ⟨xc,L⟩ e = pure (⟨xc',(putW (W,L) e).2⟩,k) ∧ Rep (n + 600) (putW (W,L) e).1 c' xc' nl1' m1' nl2' m2' (putW (W,L) e).2 ∧ (k ≠ 0 → xc' = xc ∧ (putW (W,L) e).2 = L):=by
 unfold putW
 cases g:ya e with
 | false=>
  rw [if_neg (by simp)];refine ⟨1,c,xc,nl1,m1,nl2,m2,?_,?_,hR.mono (by omega),fun _=>⟨rfl,rfl⟩⟩
  ·unfold ym;rw [E.YF oe,zB,zA,g];rfl
  ·unfold ZN;rw [E.Wa oe,zB,zA,g];rfl
 | true=>
  cases hc:C.hasC W e.dot.dev e.dot.n with
  | true=>
   rw [if_neg (by simp)];refine ⟨7,c,xc,nl1,m1,nl2,m2,?_,?_,hR.mono (by omega),fun _=>⟨rfl,rfl⟩⟩
   ·unfold ym;rw [E.YF oe,zB,zA,g,Bool.not_true,cond_false,hR.has hn,zB,zA,hc];rfl
   ·unfold ZN;rw [E.Wa oe,zB,zA,g,Bool.not_true,cond_false,show (⟨xc,L⟩:R18Book).ctx = xc from rfl,hR.rhas,zB,zA,hc];rfl
  | false=>
   rw [if_pos (by simp)];obtain ⟨c',xc',a,p,b,q,h1,h2,h3⟩:=hR.put hn oe g hc;exact ⟨0,c',xc',a,p,b,q,h1,h2,h3,fun h=>absurd rfl h⟩
end
theorem do_loop (l:List L18Act) (hlen:l.length ≤ 25) (hA:∀ a ∈ l,OkE a.event ∧ C.Ok a.ctx ∧ a.ctx.length ≤ 30 ∧ C.totC a.ctx ≤ 900)
  {P:List TPart → Prop} (hP1:∀ W e,OkE e → P W → P (W ++ C.zo (yD [e]))) (hP2:∀ W,∀ a ∈ l,P W → P (W ++ a.ctx)) :
  ∀ (q k:Nat) (W c xc:List TPart) (a:Bool) (p:List (TDot × TEvent)) (b:Bool) (r:List (TDot × TEvent)) (L:List TEvent),k + q = l.length → Rep (3000 * k) W c xc a p b r L → P W →
   ∃ W c xc' a p b r L',loop (Zu l) ((k:Int),xc,L) = pure (xc',L') ∧ Rep (3000 * l.length) W c xc' a p b r L' ∧ P W:=by
 have hP3:∀ W L e,OkE e → P W → P (putW (W,L) e).1:=fun W L e he hw=>by
  unfold putW
  split
  ·exact hP1 W e he hw
  ·exact hw
 intro q
 induction q with
 | zero=>
  intro k W c xc a p b r L hk hR hp;have hkl:k = l.length:=by omega
  subst hkl;refine ⟨W,c,xc,a,p,b,r,L,zj ?_,hR,hp⟩;unfold Zu;simp
 | succ q ih=>
  intro k W c xc a p b r L hk hR hp;have hlt:k < l.length:=by omega
  obtain ⟨x,hx⟩:∃ x,l[k]? = some x:=⟨_,List.getElem?_eq_getElem hlt⟩
  obtain ⟨oe,oc,hc1,hc2⟩:=hA x (List.mem_of_getElem? hx);have hd:decide ((k:Int) < (l.length:Int)) = true:=by simpa using hlt
  have hn:3000 * k ≤ 75000:=by omega
  have step:∃ W' c' xc' a' p' b' r' L',Zu l ((k:Int),xc,L) = pure (.next (((k + 1:Nat):Int),xc',L')) ∧ Rep (3000 * (k + 1)) W' c' xc' a' p' b' r' L' ∧ P W':=by
   unfold Zu
   by_cases k0:x.kind = 0
   ·obtain ⟨cd,c',xc',a,p,b,q,_,e2,hR',_⟩:=hR.putS (by omega) oe;refine ⟨_,c',xc',a,p,b,q,_,?_,hR'.mono (by omega),hP3 W L _ oe hp⟩;simp only [hd,cond_true,zF hx,zA,decide_eq_true k0,e2,zB,zf (show k < 9223372036854775807 by omega)]
   ·by_cases k1:x.kind = 1
    ·obtain ⟨_,hm2⟩:=hR.make (by omega) oe;obtain ⟨cd,c',xc',a,p,b,q,_,e2,hR',_⟩:=hR.putS (by omega) (vDa hR oe);refine ⟨_,c',xc',a,p,b,q,_,?_,hR'.mono (by omega),hP3 W L _ (vDa hR oe) hp⟩;simp only [hd,cond_true,cond_false,zF hx,zA,decide_eq_false k0,decide_eq_true k1,hm2,e2,zB,zf (show k < 9223372036854775807 by omega)]
    ·by_cases k2:x.kind = 2
     ·obtain ⟨c',xc',_,e2,hR'⟩:=hR.see (by omega) oc (k:=900) (by omega) hc2 (by omega);refine ⟨_,c',xc',_,_,_,_,_,?_,hR'.mono (by omega),hP2 W x (List.mem_of_getElem? hx) hp⟩;simp only [hd,cond_true,cond_false,zF hx,zA,decide_eq_false k0,decide_eq_false k1,decide_eq_true k2,e2,zB,zf (show k < 9223372036854775807 by omega)]
     ·by_cases k3:x.kind = 3
      ·obtain ⟨kk,a,p,b,q,_,e2,hR',_⟩:=hR.prune (by omega) oc;refine ⟨_,_,_,a,p,b,q,_,?_,hR'.mono (by omega),hp⟩;simp only [hd,cond_true,cond_false,zF hx,zA,decide_eq_false k0,decide_eq_false k1,decide_eq_false k2,decide_eq_true k3,e2,zB,zf (show k < 9223372036854775807 by omega)]
      ·refine ⟨_,_,_,_,_,_,_,_,?_,hR.mono (by omega),hp⟩;simp only [hd,cond_true,cond_false,zF hx,zA,decide_eq_false k0,decide_eq_false k1,decide_eq_false k2,decide_eq_false k3,zf (show k < 9223372036854775807 by omega)]
  obtain ⟨W',c',xc',a',p',b',r',L',e1,hR',hp'⟩:=step;rw [zi e1];exact ih (k + 1) W' c' xc' a' p' b' r' L' (by omega) hR' hp'
theorem Do_gen (l:List L18Act) (hlen:l.length ≤ 25) (hA:∀ a ∈ l,OkE a.event ∧ C.Ok a.ctx ∧ a.ctx.length ≤ 30 ∧ C.totC a.ctx ≤ 900)
  {P:List TPart → Prop} (hP0:P []) (hP1:∀ W e,OkE e → P W → P (W ++ C.zo (yD [e]))) (hP2:∀ W,∀ a ∈ l,P W → P (W ++ a.ctx)) :
  ∃ W c xc a p b r L,qj l = pure ⟨xc,L⟩ ∧ Rep (3000 * l.length) W c xc a p b r L ∧ P W:=by
 obtain ⟨W,c,xc,a,p,b,r,L,e,hR,hp⟩:=do_loop l hlen hA hP1 hP2 l.length 0 [] [] [] true [] true [] [] (by omega) Rep.new hP0;refine ⟨W,c,xc,a,p,b,r,L,?_,hR,hp⟩;unfold qj;rw [show (0:Int) = ((0:Nat):Int) from rfl,e,zA]
theorem Do_eq (l:List L18Act) (hlen:l.length ≤ 25) (hA:∀ a ∈ l,OkE a.event ∧ C.Ok a.ctx ∧ a.ctx.length ≤ 30 ∧ C.totC a.ctx ≤ 900) :
  ∃ W c xc a p b r L,qj l = pure ⟨xc,L⟩ ∧ Rep (3000 * l.length) W c xc a p b r L:=by
 obtain ⟨W,c,xc,a,p,b,r,L,e,hR,_⟩:=Do_gen l hlen hA (P:=fun _=>True) trivial (fun _ _ _ _=>trivial) (fun _ _ _ _=>trivial);exact ⟨W,c,xc,a,p,b,r,L,e,hR⟩
section
variable {n:Nat} {W c xc:List TPart} {nl1:Bool} {m1:List (TDot × TEvent)} {nl2:Bool} {m2:List (TDot × TEvent)} {L:List TEvent}
theorem Rep.again (hR:Rep n W c xc nl1 m1 nl2 m2 L) (hn:n ≤ 500000) :
  ∃ a p b q,vD xc = pure (C.zW W) ∧ xC (C.zW W) L = pure (.inr (C.zW W,a,p,b,q)) ∧ Rep (2 * n) W (C.zW W) xc a p b q L:=by
 obtain ⟨a,p,b,q,e,R1⟩:=hR.From hn;refine ⟨a,p,b,q,?_,e,{ R1 with ctx:=rfl,xctx:=hR.xctx,xok:=hR.xok,dots:=hR.dots,wl:=by have:=hR.wl;omega,wt:=by have:=hR.wt;omega }⟩;rw [C.WZ xc hR.xok,C.Um hR.xctx]
def unL (L:List TEvent) (dev:Int) (had:List TPart):List TEvent:=L.filter fun x=>decide (x.dot.dev = dev) && !C.hasC had x.dot.dev x.dot.n
theorem vFa (x:TEvent) (dev:Int) {had:List TPart} (hh:C.Ok had):yR x dev had = pure (!(decide (x.dot.dev = dev) && !C.hasC had x.dot.dev x.dot.n)):=by
 unfold yR;rw [C.Uo had x.dot hh.sm,zB,zA]
 cases decide (x.dot.dev = dev) <;> cases C.hasC had x.dot.dev x.dot.n <;> rfl
theorem yla (l:List TEvent) (dev:Int) {had:List TPart} (hh:C.Ok had) (hl:l.length ≤ 1000000000):zH dev had l = pure (unL l dev had):=by
 unfold zH;have h:=xWa (fun x=>!(decide (x.dot.dev = dev) && !C.hasC had x.dot.dev x.dot.n)) l hl (zP l dev had) (zL dev had) ⟨⟨0,0⟩,0,0,0,⟨#[]⟩,[]⟩ (by
  unfold zP;have:=loopF (body:=zN l dev had) l (fun i=>(i:Int)) (fun _ x=>!(decide (x.dot.dev = dev) && !C.hasC had x.dot.dev x.dot.n)) (fun i _=>Ex.ret (i:Int)) (pure (Ex.brk ())) (fun i x hx hi=>by
   have hd:decide ((i:Int) < (l.length:Int)) = true:=by simpa using hi
   unfold zN;simp only [hd,cond_true,zF hx,zA,vFa x dev hh,zB,zf (show i < 9223372036854775807 by omega)]
   cases (!(decide (x.dot.dev = dev) && !C.hasC had x.dot.dev x.dot.n)) <;> rfl) (by
   unfold zN;simp [zA])
  rw [show (0:Int) = ((0:Nat):Int) from rfl,this]
  cases l.zipIdx.find? (fun y=>!(decide (y.1.dot.dev = dev) && !C.hasC had y.1.dot.dev y.1.dot.n)) <;> rfl) (fun i j v x hx hj hij hv=>by
  have hd:decide ((j:Int) < (v.length:Int)) = true:=by simpa using hj
  obtain ⟨w,hw⟩:∃ w,v[i]? = some w:=⟨_,List.getElem?_eq_getElem (by omega)⟩
  unfold zL;simp only [hd,cond_true,zF hx,zF hw,zA,vFa x dev hh,zB,zf (show j < 9223372036854775807 by omega),zf (show i < 9223372036854775807 by omega),Int.toNat_natCast]
  cases (!(decide (x.dot.dev = dev) && !C.hasC had x.dot.dev x.dot.n)) <;> rfl) (fun i v=>by
  unfold zL;simp)
 rw [h];unfold unL
 congr 1
 exact List.filter_congr fun x _=>Bool.not_not _
theorem Rep.Unsent (hR:Rep n W c xc nl1 m1 nl2 m2 L) (hn:n ≤ 100000000) (dev:Int) {had:List TPart} (hh:C.Ok had):xD dev had c nl1 m1 nl2 m2 = pure (unL L dev had):=by
 unfold xD;rw [hR.All hn,zB,zA,yla _ _ hh (by have:=hR.ll;omega),zB,zA]
theorem unNil (dev:Int) {had:List TPart} (hh:C.Ok had):yk dev had = pure []:=by
 unfold yk;rw [show wd = pure [] from rfl,zB,zA,yla _ _ hh (by simp),zB,zA]
 rfl
theorem ju (xc:List TPart) (L:List TEvent) (hl:L.length ≤ 1000000000) (dev:Int) {had:List TPart} (hh:C.Ok had):uq ⟨xc,L⟩ dev had = pure (unL L dev had):=by
 unfold uq;rw [zna (body:=ve ⟨xc,L⟩ dev had) L (fun x=>decide (x.dot.dev = dev) && !C.hasC had x.dot.dev x.dot.n) (fun t=>pure t) (fun i x t hx hi hI=>by
  have hd:decide ((i:Int) < (L.length:Int)) = true:=by simpa using hi
  unfold ve;simp only [hd,cond_true,zF hx,zA,C.Xa had x.dot hh,zB,zf (show i < 9223372036854775807 by omega)]
  cases decide (x.dot.dev = dev) <;> cases C.hasC had x.dot.dev x.dot.n <;> simp only [cond_true,cond_false,zA,if_true,if_false,Bool.false_eq_true,Bool.and_true,Bool.and_false,Bool.not_true,Bool.not_false]
  rw [zC (by simp;omega)]
  rfl) (fun t=>by unfold ve;simp [zA]),zA]
 rfl
theorem vGa (a b:List TDot):C.zo (a ++ b) = C.zo a ++ C.zo b:=by simp [C.zo]
def VB (v:List TPart) (ds:List TDot):List TPart:=C.opC (fun x y=>x && !y) v (C.zo ds)
theorem Ql (v:List TPart) (ds:List TDot) (d:TDot):C.opC (fun x y=>x && !y) (VB v ds) (C.zW (C.zo [d])) = VB v (ds ++ [d]):=by
 refine (C.yq rfl _ _).ext (C.yq rfl _ _) fun k m=>?_
 unfold VB;rw [C.wG rfl,C.wG rfl,C.wG rfl,C.yK,vGa,C.ub]
 cases C.hasC v k m <;> cases C.hasC (C.zo ds) k m <;> rfl
theorem Qm (v:List TPart):∀ (q:List TEvent) (ds:List TDot),q.foldl (fun c e=>C.opC (fun x y=>x && !y) c (C.zW (C.zo [e.dot]))) (VB v ds) = VB v (ds ++ q.map (·.dot))
 | [],ds=>by simp
 | e :: q,ds=>by
  rw [List.foldl_cons,Ql,Qm v q];simp
theorem yma {v:List TPart} (hv:C.Canon v):VB v [] = v:=(C.yq rfl _ _).ext hv fun k m=>by
 rw [C.wG rfl,show C.hasC (C.zo []) k m = false from rfl]
 cases C.hasC v k m <;> rfl
theorem vHa {v:List TPart} (h1:v.length ≤ 10000000) (h2:C.totC v ≤ 10000000) {ds:List TDot} (h3:ds.length ≤ 10000000):C.Ok (VB v ds):=
 C.ok_mono rfl ⟨by omega,by omega⟩ ⟨by have:=C.wH ds;omega,by have:=C.Ys ds;omega⟩
theorem zra {body : List TPart × Int → M (Step (List TPart × Int) (List TPart))} (U : List TEvent) (hb : body = fun ⟨c, i⟩ => cond (decide (i < (U.length : Int)))
      (M.bind (M.idx U i) fun x => M.bind (M.det (UJ [x.dot])) fun v => M.bind (M.det (uo c v)) fun w => M.pure (.next (w, IntKind.i64.wrap (i + 1)))) (M.pure (.done c)))
    {v : List TPart} (hv : C.Canon v) (h1 : v.length ≤ 10000000) (h2 : C.totC v ≤ 10000000) (h3 : U.length ≤ 10000000) : loop body (v, 0) = pure (VB v (U.map (·.dot))) := by
  have h := ww (body := body) U (fun i (t : List TPart) => (t, (i : Int))) (fun c e => C.opC (fun x y => x && !y) c (C.zW (C.zo [e.dot]))) (fun t => pure t) (fun i t => t = VB v ((U.take i).map (·.dot)))
    (fun i x t hx hi hI => by
      have hd : decide ((i : Int) < (U.length : Int)) = true := by simpa using hi
      have htk : U.take (i + 1) = U.take i ++ [x] := by rw [List.take_add_one, hx]; rfl
      subst hI;have ho : C.Ok (VB v ((U.take i).map (·.dot))) := vHa h1 h2 (by rw [List.length_map, List.length_take]; omega);refine ⟨?_, by rw [htk, List.map_append, Ql]; rfl⟩;rw [hb];simp only [hd, cond_true, zF hx, zA, C.Of_eq [x.dot] (by simp), zB, C.Minus_eq _ _ ho.sm (C.Ur (l := [x.dot]) (by simp)).sm, zf (show i < 9223372036854775807 by omega)])
    (fun t _ => by rw [hb]; simp [zA]) v (by rw [List.take_zero]; exact (yma hv).symm)
  rw [show ((v, (0 : Int)) : List TPart × Int) = (v, ((0 : Nat) : Int)) from rfl, h];have := Qm v U [];rw [yma hv, List.nil_append] at this;rw [this]
theorem yna {c:List TPart} (ht:C.totC c ≤ 400000000) {d:Int} (hd:0 ≤ d):C.Ok (C.uI c d):=by
 have h2:=R.xz (C.rawC c d);have h3:=C.yf c d;rw [C.Us]
 split
 ·exact C.ok_nil
 ·exact ⟨fun p hp=>by rw [List.mem_singleton.1 hp];exact hd,by simp,by simp [C.totC];omega⟩
theorem only_tot (c:List TPart) (d:Int):(C.uI c d).length ≤ 1 ∧ C.totC (C.uI c d) ≤ 2 * C.totC c:=by
 have h2:=R.xz (C.rawC c d);have h3:=C.yf c d;rw [C.Us]
 split
 ·exact ⟨by simp,by simp [C.totC]⟩
 ·refine ⟨by simp,?_⟩;show C.totC [_] ≤ _;rw [show C.totC [(⟨d,R.nrm (C.rawC c d)⟩:TPart)] = (R.nrm (C.rawC c d)).length by simp [C.totC]];omega
theorem jv (c:List TPart) (d:Int):C.Canon (C.uI c d):=by unfold C.uI;exact C.yI _
theorem yoa {a b:List TPart} (h:∀ k m,C.hasC a k m = C.hasC b k m) (d:Int):C.uI a d = C.uI b d:=(jv a d).ext (jv b d) fun k m=>by rw [F.qL,F.qL,h]
def qQ (d m:Int):List TPart:=[⟨d,[⟨1,m⟩]⟩]
def jC (W:List TPart) (dev m:Int):List TPart:=C.opC (· && ·) (C.uI W dev) (qQ dev m)
def jD (W:List TPart) (L:List TEvent) (dev:Int) (had:List TPart) (l:List TEvent):List TPart:=
 match l.getLast? with | none=>[] | some e=>VB (jC W dev e.dot.n) ((unL L dev had).map (·.dot))
theorem xXa (W:List TPart) {dev m:Int} (hm:0 < m ∧ m ≤ 281474976710655):C.opC (· && ·) (C.uI W dev) (C.QZ [⟨dev,m⟩]) = jC W dev m:=by
 refine (C.yq rfl _ _).ext (C.yq rfl _ _) fun k x=>?_
 unfold jC;rw [C.wG rfl,C.wG rfl];unfold C.QZ;rw [C.wha (List.pairwise_singleton _ _)]
 by_cases h0:0 < dev
 ·rw [List.filter_cons,if_pos (by rw [V.yT];exact ⟨h0,hm.1,hm.2⟩)];rfl
 ·rw [F.qL]
  by_cases hk:dev = k
  ·subst hk;rw [show C.hasC W dev x = false by unfold C.hasC;rw [C.Yq h0];rfl];simp
  ·simp [hk]
theorem jw (W:List TPart) (dev m:Int):C.Canon (jC W dev m):=C.yq rfl _ _
theorem jE (W:List TPart) (dev m:Int) (hw:C.totC W ≤ 1000000):(jC W dev m).length ≤ 10000000 ∧ C.totC (jC W dev m) ≤ 10000000:=by
 have h1:=only_tot W dev;have h2:=C.wZa (· && ·) (C.uI W dev) (qQ dev m);have h3:=C.wba (op:=(· && ·)) rfl (C.uI W dev) (qQ dev m);unfold jC;simp only [qQ,C.totC,List.map_cons,List.map_nil,List.sum_cons,List.sum_nil,List.length_cons,List.length_nil] at h2 h3 ⊢;simp only [C.totC] at h1 hw
 constructor <;> omega
theorem qI {l:List TEvent} {e:TEvent} (h:l.getLast? = some e) (hl:l.length ≤ 1000000000):idx l (IntKind.i64.wrap ((l.length:Int) - 1)) = pure e ∧ decide ((l.length:Int) = 0) = false:=by
 rw [List.getLast?_eq_getElem?] at h;have hlt:=(List.getElem?_eq_some_iff.1 h).1;refine ⟨?_,decide_eq_false (by omega)⟩;rw [show IntKind.i64.wrap ((l.length:Int) - 1) = ((l.length - 1:Nat):Int) by rw [wI64 (by omega) (by omega)];omega];exact zF h
theorem OkE.nGood {e:TEvent} (h:ya e = true):0 < e.dot.n ∧ e.dot.n ≤ 281474976710655:=(V.yT.1 (yga h)).2
theorem qR (L:List TEvent) (dev:Int) (had:List TPart):(unL L dev had).length ≤ L.length:=List.length_filter_le _ _
theorem Rep.Claims (hR:Rep n W c xc nl1 m1 nl2 m2 L) (hn:n ≤ 1000000) {dev:Int} (hd:0 ≤ dev) {had:List TPart} (hh:C.Ok had) {l:List TEvent} (hl:∀ e ∈ l,e ∈ L) (hll:l.length ≤ 1000000) :
  xE dev had l c nl1 m1 nl2 m2 = pure (jD W L dev had l):=by
 unfold xE jD;have hwl:=hR.wl;have hwt:=hR.wt;have hLl:=hR.ll
 cases he:l.getLast? with
 | none=>rw [List.getLast?_eq_none_iff.1 he];rfl
 | some e=>
  obtain ⟨h1,h2⟩:=qI he (by omega);have hg:=(hR.good e (hl e (List.mem_of_getLast? he))).1;have hN:C.uI (C.zW W) dev = C.uI W dev:=yoa (fun k m=>C.yK W k m) dev;have ho:=yna (c:=W) (by omega) hd;have hps:C.Sm (C.QZ [⟨dev,e.dot.n⟩]):=by
   unfold C.QZ;have:=C.Qa [⟨dev,e.dot.n⟩];refine ⟨by rw [List.length_map];simp at this ⊢;omega,?_⟩;unfold C.totC;rw [List.map_map,show ((fun p:TPart=>p.runs.length) ∘ fun d:TDot=>(⟨d.dev,[⟨1,d.n⟩]⟩:TPart)) = fun _=>1 from rfl,List.map_const',List.sum_replicate_nat];simp at this ⊢;omega
  obtain ⟨b1,b2⟩:=jE W dev e.dot.n (by omega);have hul:=qR L dev had;rw [h2,cond_false,hR.Ctx (by omega),zB,zA,C.Only_eq _ _ (Wc (by omega) (by omega)),zB,zA,hN,h1,zA,C.Plain_eq _ (by simp),zB,zA,C.Meet_eq _ _ ho.sm hps,zB,zA,xXa W (OkE.nGood hg),hR.Unsent (by omega) dev hh,zB,zA,
   zra (body:=uV (unL L dev had)) (unL L dev had) rfl (jw W dev e.dot.n) b1 b2 (by omega),zA]
theorem Rep.rClaims (hR:Rep n W c xc nl1 m1 nl2 m2 L) (hn:n ≤ 1000000) {dev:Int} (hd:0 ≤ dev) {had:List TPart} (hh:C.Ok had) {l:List TEvent} (hl:∀ e ∈ l,e ∈ L) (hll:l.length ≤ 1000000) :
  wn ⟨xc,L⟩ dev had l = pure (jD W L dev had l):=by
 unfold wn jD;have hwl:=hR.wl;have hwt:=hR.wt;have hLl:=hR.ll
 cases he:l.getLast? with
 | none=>rw [List.getLast?_eq_none_iff.1 he];rfl
 | some e=>
  obtain ⟨h1,h2⟩:=qI he (by omega);have hN:C.uI xc dev = C.uI W dev:=yoa hR.xctx dev;have ho:=yna (c:=W) (by omega) hd;obtain ⟨b1,b2⟩:=jE W dev e.dot.n (by omega);have hul:=qR L dev had;have hds:loop (xt (unL L dev had)) (0,([]:List TDot)) = pure ((unL L dev had).map (·.dot)):=by
   have h:=ww (body:=xt (unL L dev had)) (unL L dev had) (fun i (t:List TDot)=>((i:Int),t)) (fun t x=>t ++ [x.dot]) (fun t=>pure t) (fun i t=>t.length ≤ i) (fun i x t hx hi hI=>by
    have hd:decide ((i:Int) < ((unL L dev had).length:Int)) = true:=by simpa using hi
    refine ⟨?_,by rw [List.length_append,List.length_singleton];omega⟩;unfold xt;simp only [hd,cond_true,zF hx,zA,zf (show i < 9223372036854775807 by omega)];rw [zC (by simp;omega)]) (fun t _=>by unfold xt;simp [zA]) [] (Nat.le_refl _)
   rw [show ((0:Int),([]:List TDot)) = (((0:Nat):Int),[]) from rfl,h];have hf:∀ (q:List TEvent) (t:List TDot),q.foldl (fun t x=>t ++ [x.dot]) t = t ++ q.map (·.dot):=by
    intro q
    induction q with
    | nil=>intro t;simp
    | cons x r ih=>intro t;rw [List.foldl_cons,ih];simp
   rw [hf];rfl
  have hup:C.Ok (qQ dev e.dot.n):=⟨fun p hp=>by rw [List.mem_singleton.1 hp];exact hd,by simp [qQ],by simp [qQ,C.totC]⟩
  have hbo:C.Ok (jC W dev e.dot.n):=⟨fun p hp=>by have:=((jw W dev e.dot.n).nf p hp).1;omega,by omega,by omega⟩
  rw [h2,cond_false,ju xc L (by omega) dev hh,zB,zA,hds,zA];show (M.bind (M.det (WB xc dev)) _:M (List TPart)) = _;rw [C.rOnly_eq xc dev hd hR.xok,zB,zA,hN,h1,zA,show ([(⟨dev,[(⟨1,e.dot.n⟩:TRun)]⟩:TPart)]) = qQ dev e.dot.n from rfl,C.rMeet_eq _ _ ho hup,zB,zA,
   C.rOf_eq _ (by rw [List.length_map];omega),zB,zA,show C.opC (· && ·) (C.uI W dev) (qQ dev e.dot.n) = jC W dev e.dot.n from rfl,C.wfa _ _ hbo (C.Ur (by rw [List.length_map];omega)),zB,zA]
  have hq:C.opC (fun x y=>x && !y) (jC W dev e.dot.n) (C.zW (C.zo ((unL L dev had).map (·.dot)))) = VB (jC W dev e.dot.n) ((unL L dev had).map (·.dot)):=
   (C.yq rfl _ _).ext (C.yq rfl _ _) fun k m=>by
    unfold VB;rw [C.wG rfl,C.wG rfl,C.yK]
  rw [hq]
theorem claim_ok (W:List TPart) (L:List TEvent) (dev:Int) (had:List TPart) (l:List TEvent) (hw:C.totC W ≤ 1000000) (hL:L.length ≤ 1000000):C.Ok (jD W L dev had l):=by
 unfold jD;have hul:=qR L dev had
 cases l.getLast? with
 | none=>exact C.ok_nil
 | some e=>
  obtain ⟨b1,b2⟩:=jE W dev e.dot.n hw;exact vHa b1 b2 (by rw [List.length_map];omega)
end
theorem zsa {xc : List TPart} {L : List TEvent} {dev : Int} {had : List TPart} (f : List TEvent → M (List TPart)) (g : List TEvent → List TPart) (body : Int → M (Step Int (Ex Unit Bool))) (hL : L.length ≤ 1000000)
    (hb : body = fun i => cond (decide (i ≤ (L.length : Int)))
      (M.need ((0 : Int) ≤ 0 ∧ (0 : Int) ≤ i ∧ i ≤ (L.length : Int)) <| M.bind (M.det (f ((List.drop (Int.toNat 0) (List.take (Int.toNat i) L))))) fun v =>
       M.need ((0 : Int) ≤ 0 ∧ (0 : Int) ≤ i ∧ i ≤ (L.length : Int)) <| M.bind (M.det (wn ⟨xc, L⟩ dev had ((List.drop (Int.toNat 0) (List.take (Int.toNat i) L))))) fun w =>
       M.bind (M.det (XF v w)) fun e => cond (!e) (M.pure (.done (.ret false))) (M.pure (.next (IntKind.i64.wrap (i + 1))))) (M.pure (.done (.brk ()))))
    (h1 : ∀ l, (∀ e ∈ l, e ∈ L) → l.length ≤ 1000000 → f l = pure (g l) ∧ wn ⟨xc, L⟩ dev had l = pure (g l) ∧ C.Ok (g l)) :
    ∀ (q k : Nat), k + q = L.length + 1 → loop body (k : Int) = pure (Ex.brk ()) := by
  intro q
  induction q with
  | zero =>
    intro k hk;refine zj ?_;rw [hb];show (cond (decide ((k : Int) ≤ (L.length : Int))) _ _ : M (Step Int (Ex Unit Bool))) = _;rw [show decide ((k : Int) ≤ (L.length : Int)) = false by simp; omega]; rfl
  | succ q ih =>
    intro k hk;obtain ⟨e1, e2, e3⟩ := h1 (L.take k) (fun e he => List.mem_of_mem_take he) (by rw [List.length_take]; omega);have hs : body (k : Int) = pure (.next ((k + 1 : Nat) : Int)) := by
      rw [hb];show (cond (decide ((k : Int) ≤ (L.length : Int))) _ _ : M (Step Int (Ex Unit Bool))) = _;rw [show decide ((k : Int) ≤ (L.length : Int)) = true by simp; omega, cond_true, zC (by omega), show List.drop (Int.toNat 0) (List.take (Int.toNat (k : Int)) L) = L.take k from rfl, e1, zB, zA, zC (by omega), e2, zB, zA, C.yTa _ _ e3.sm, zB, zA, decide_eq_true rfl, Bool.not_true, cond_false, zf (by omega)]
    rw [zi hs];exact ih (k + 1) (by omega)
theorem jF (l:List L18Act) (dev:Int) (had:List TPart) (hi:∀ a ∈ l,InA a) (hd:0 ≤ dev) (hc:∀ p ∈ had,0 ≤ p.dev):xX l dev had = pure true:=by
 unfold xX;have ha:=rFewA_eq l 20 (by omega);rw [show ((20:Nat):Int) = 20 from rfl] at ha;rw [ha,zB,zA,E.works29]
 cases h1:fewA l 20 with
 | false=>rw [if_neg (by simp),show decide ((0:Int) = 0) = true by decide,cond_true,zA,cond_true,zB,zA]
 | true=>
  rw [if_pos rfl,show decide ((1:Int) = 0) = false by decide,cond_false,C.qA,zB,zA]
  cases h2:(decide (had.length ≤ 30) && had.all fun p=>decide (p.runs.length ≤ 30)) with
  | false=>rw [Bool.not_false,zA,cond_true,zB,zA]
  | true=>
   obtain ⟨hlen,hA⟩:=fewA_mem h1 hi;have hh:=C.ok_few hc (C.wga h2);obtain ⟨W,c,xc,a,p,b,q,L,e1,hR⟩:=Do_eq l (by omega) hA;obtain ⟨a2,p2,b2,q2,e2,e3,R2⟩:=hR.again (by omega);have hwt:=R2.wt;have hll:=R2.ll;have hUL:=qR L dev had;rw [Bool.not_true,zA,cond_false,e1,zB,zA];show (M.bind (M.det (vD xc)) _:M Bool) = _;rw [e2,zB,zA];show (M.bind (M.det (xC (C.zW W) L)) _:M Bool) = _;rw [e3,zB,zA];show (M.bind _ _:M Bool) = _;rw [show (0:Int) = ((0:Nat):Int) from rfl,zsa (xc:=xc) (L:=L) (dev:=dev) (had:=had) (fun l=>xE dev had l (C.zW W) a2 p2 b2 q2) (jD W L dev had) (vw ⟨xc,L⟩ dev had (C.zW W,a2,p2,b2,q2)) (by omega) rfl
    (fun l hl hll=>⟨R2.Claims (by omega) hd hh hl hll,R2.rClaims (by omega) hd hh hl hll,claim_ok W L dev had l (by omega) (by omega)⟩) (L.length + 1) 0 (by omega),zA]
   show (M.bind _ _:M Bool) = _;have hA2:=E.qJ (unL L dev had) (unL L dev had) (by omega) (fun e he=>by have:=R2.kl e (List.mem_filter.1 he).1;omega);rw [R2.Unsent (by omega) dev hh,zB,zA,ju xc L (by omega) dev hh,zB,zA,hA2,zB,zA,decide_eq_true rfl,cond_true,unNil dev hh,zB,zA,show decide ((([]:List TEvent).length:Int) = ((0:Nat):Int)) = true from rfl,cond_true,zB,zA,zA]

open E (OkE ya SrtE)
open F (hasD yC yD uN w3a OkD)

section
variable {n:Nat} {W c xc:List TPart} {nl1:Bool} {m1:List (TDot × TEvent)} {nl2:Bool} {m2:List (TDot × TEvent)} {L:List TEvent}
end
section
variable {n:Nat} {W c xc:List TPart} {nl1:Bool} {m1:List (TDot × TEvent)} {nl2:Bool} {m2:List (TDot × TEvent)} {L:List TEvent}
end

open E (OkE ya SrtE)
open F (hasD yC yD uN w3a OkD)

structure InD (d:TDelta):Prop where
 from_:∀ p ∈ d.from_,0 ≤ p.dev
 to_:∀ p ∈ d.to_,0 ≤ p.dev
 evs:∀ e ∈ d.events,e.kills.length ≤ 300 ∧ e.text.size ≤ 200 → OkE e
section
variable {n:Nat} {W c xc:List TPart} {nl1:Bool} {m1:List (TDot × TEvent)} {nl2:Bool} {m2:List (TDot × TEvent)} {L:List TEvent}
end
open E (OkE ya SrtE encEs)
open D (encC)
open F (hasD yC yD uN w3a OkD)

section
variable {n:Nat} {W c xc:List TPart} {nl1:Bool} {m1:List (TDot × TEvent)} {nl2:Bool} {m2:List (TDot × TEvent)} {L:List TEvent}
end
end Go.Ep.M.G

namespace Go.Ep
open Go.RowKit Go.ChangeShapes Go.WideShapes

abbrev All : Nat → Prop:=fun _=>True

mutual
def bulk {H:Type}:DataW H → Nat
 | .lit (.string bytes)=>bytes.length + 1
 | .lit _=>1
 | .nil=>1
 | .ptr d=>bulk d + 1
 | .slice elems spare=>vB elems + vB spare + 1
 | .agg parts=>vB parts + 1
 | .iface _ d=>bulk d + 1
 | .map entries=>jG entries + 1
 | .held _=>1
def vB {H:Type}:List (DataW H) → Nat
 | []=>0
 | d :: r=>bulk d + vB r
def jG {H:Type}:List (Lit × DataW H) → Nat
 | []=>0
 | x :: r=>vIa x + jG r
def vIa {H:Type}:Lit × DataW H → Nat
 | (.string bytes,d)=>bytes.length + bulk d + 1
 | (_,d)=>bulk d + 1
end
theorem ypa {H:Type} (d:DataW H):1 ≤ bulk d:=by
 cases d with
 | lit l=>cases l <;> simp [bulk]
 | nil=>simp [bulk]
 | ptr d=>simp [bulk]
 | slice elems spare=>simp [bulk]
 | agg parts=>simp [bulk]
 | iface t d=>simp [bulk]
 | map entries=>simp [bulk]
 | held h=>simp [bulk]
theorem zta {H:Type} (l r:List (DataW H)):vB (l ++ r) = vB l + vB r:=by
 induction l with
 | nil=>simp [vB]
 | cons x l ih=>simp only [List.cons_append,vB,ih];omega
def szL {α:Type} (sz:α → Nat):List α → Nat
 | []=>0
 | a :: r=>sz a + szL sz r
theorem szL_app {α:Type} (sz:α → Nat) (l r:List α):szL sz (l ++ r) = szL sz l + szL sz r:=by
 induction l with
 | nil=>simp [szL]
 | cons x l ih=>simp only [List.cons_append,szL,ih];omega
structure Opn (P:Program) (t:TypeId) (k:Nat) {α:Type} (enc:α → List DV) (ok:α → Prop) (sz:α → Nat):Prop where
 cells:P.cellsOf t = k
 op:∀ {H:Type} {en:TypeId × Value → H} {w:World} {fuel:Nat} {cs:List Value} {x:DataW H × List MemPlace},DataW.trod en P w 0 (fun _=>true) true fuel t cs = some x →
  ∃ a,ok a ∧ cs.length = k ∧ (enc a).length = k ∧ (∀ (j:Nat) (y:DV) (u:Value),(enc a)[j]? = some y → cs[j]? = some u → DRd w All y u) ∧ sz a ≤ bulk x.1

section
variable {P:Program} {t:TypeId}

theorem Opn.map {k:Nat} {α β:Type} {enc:α → List DV} {enc':β → List DV} {ok:α → Prop} {ok':β → Prop} {sz:α → Nat} {sz':β → Nat} (h:Opn P t k enc ok sz) (f:α → β) (he:∀ a,ok a → enc' (f a) = enc a) (ho:∀ a,ok a → ok' (f a)) (hz:∀ a,sz' (f a) ≤ sz a):Opn P t k enc' ok' sz':=
 ⟨h.cells,fun hx=>let ⟨a,h1,h2,h3,h4,h5⟩:=h.op hx;⟨f a,ho a h1,h2,by rw [he a h1];exact h3,by rw [he a h1];exact h4,Nat.le_trans (hz a) h5⟩⟩

theorem qV {w:World} {y:DV} {u:Value} (h:DRd w All y u):∀ (j:Nat) (y':DV) (u':Value),[y][j]? = some y' → [u][j]? = some u' → DRd w All y' u':=by
 intro j y' u' h1 h2
 cases j with
 | zero=>simp at h1 h2;subst h1;subst h2;exact h
 | succ j=>simp at h1

def okK (k:IntKind) (n:Int):Prop:=(Lit.int k n).wf = true
theorem Opn.int {k:IntKind} (hu:P.underlying t = some (.int k)) (hc:P.cellsOf t = 1):Opn P t 1 (eK k) (okK k) (fun _=>1):=by
 refine ⟨hc,fun {H en w fuel cs x} h=>?_⟩
 cases fuel with
 | zero=>simp [DataW.trod] at h
 | succ fuel=>
  unfold DataW.trod at h;rw [hu] at h
  split at h <;> simp_all
  case h_2 n _=>
   obtain ⟨⟨h1,h2⟩,_⟩:=h;subst h1;refine ⟨n,h2,rfl,?_,ypa _⟩;intro j y u h1 h3;exact qV (.v _ rfl) j y u h1 h3
theorem okU64 {n:Int} (h:okK .u64 n):0 ≤ n ∧ n < 18446744073709551616:=by
 simp [okK,Lit.wf,IntKind.min,IntKind.max,IntKind.signed,IntKind.bits] at h;omega
theorem vJa {n:Int} (h:okK .u16 n):0 ≤ n ∧ n < 65536:=by
 simp [okK,Lit.wf,IntKind.min,IntKind.max,IntKind.signed,IntKind.bits] at h;omega
theorem okU8 {n:Int} (h:okK .u8 n):0 ≤ n ∧ n < 256:=by
 simp [okK,Lit.wf,IntKind.min,IntKind.max,IntKind.signed,IntKind.bits] at h;omega
theorem Opn.str (hu:P.underlying t = some .string) (hc:P.cellsOf t = 1):Opn P t 1 eS (fun s=>s.size ≤ 9223372036854775807) (fun s=>s.size + 1):=by
 refine ⟨hc,fun {H en w fuel cs x} h=>?_⟩
 cases fuel with
 | zero=>simp [DataW.trod] at h
 | succ fuel=>
  unfold DataW.trod at h;rw [hu] at h
  split at h <;> simp_all
  case h_4=>
   rename_i s
   obtain ⟨h1,h2⟩:=h;refine ⟨s,by have:=h1;unfold maxLen at this;exact this,rfl,?_,?_⟩
   ·intro j y u h1 h2;exact qV (.v _ rfl) j y u h1 h2
   ·subst h2;have e:s.data.toList.length = s.size:=Array.length_toList;show s.size + 1 ≤ bulk (DataW.lit (Lit.string s.data.toList));unfold bulk;omega

theorem Opn.slice {e:TypeId} {k:Nat} {α:Type} {enc:α → List DV} {ok:α → Prop} {sz:α → Nat} (h:Opn P e k enc ok sz) (hu:P.underlying t = some (.slice e)) (hc:P.cellsOf t = 1) (hk:0 < k) :
  Opn P t 1 (eL enc) (fun l=>l.length ≤ 9223372036854775807 ∧ ∀ a ∈ l,ok a) (fun l=>szL sz l + 1):=by
 refine ⟨hc,fun {H en w fuel cs x} hx=>?_⟩;rcases Deep.open_slice hu hx with ⟨rfl,_⟩ | ⟨a,len,cap,m,n,D,Pl,rfl,_,hl,hm,hmm,hxD,hel⟩
 ·exact ⟨[],⟨Nat.zero_le _,by simp⟩,rfl,rfl,qV (.nil none 0 (Nat.zero_le _) (fun _=>rfl)),ypa _⟩
 simp only [if_true] at hmm;subst hmm;rw [h.cells] at hel;have hcut:∀ n0,n0 ≤ len → ∃ l:List α,l.length = n0 ∧ (∀ a ∈ l,ok a) ∧ szL sz l ≤ vB ((List.range n0).map D) ∧ ∀ (i:Nat) (b:α),l[i]? = some b → (enc b).length = k ∧ ∀ (j:Nat) (y:DV),(enc b)[j]? = some y → ∃ u,w.cell? (a.add (i * k + j)) = some u ∧ DRd w All y u:=by
  intro n0
  induction n0 with
  | zero=>intro _;exact ⟨[],rfl,by simp,by simp [szL],by simp⟩
  | succ n0 ih=>
   intro hn;obtain ⟨l,h1,h2,hz,h3⟩:=ih (by omega);obtain ⟨cs',hc',ht'⟩:=hel n0 (by omega);obtain ⟨b,hb1,hb2,hb3,hb4,hb5⟩:=h.op ht';obtain ⟨_,_,hcell⟩:=World.cells?_some hc';refine ⟨l ++ [b],by simp [h1],?_,by rw [szL_app,List.range_succ,List.map_append,zta];simp only [szL,List.map_cons,List.map_nil,vB];simp only at hb5;omega,?_⟩
   ·intro a ha;rcases List.mem_append.1 ha with ha | ha
    ·exact h2 a ha
    ·simp at ha;subst ha;exact hb1
   ·intro i b' hi;rw [List.getElem?_append] at hi
    split at hi
    ·exact h3 i b' hi
    ·rename_i hge
     have hi0:i = n0:=by
      have:i - l.length < 1:=by simpa using (List.getElem?_eq_some_iff.1 hi).1
      omega
     subst hi0;simp [h1] at hi;subst hi;refine ⟨hb3,fun j y hy=>?_⟩;have hj:j < k:=by rw [← hb3];exact (List.getElem?_eq_some_iff.1 hy).1
     have hcj:=hcell j hj;rw [Deep.add_add] at hcj;have hu':cs'[j]? = some (cs'[j]'(by omega)):=List.getElem?_eq_getElem (by omega);exact ⟨_,by rw [hcj,hu'],hb4 j y _ hy hu'⟩
 obtain ⟨l,h1,h2,hz,h3⟩:=hcut len (Nat.le_refl _);refine ⟨l,⟨by unfold maxLen at hm;omega,h2⟩,rfl,rfl,qV ?_,?_⟩
 rotate_left
 ·rw [hxD];simp only [bulk];omega
 by_cases h0:len = 0
 ·have:l = []:=List.eq_nil_of_length_eq_zero (by omega);subst this;subst h0;exact .nil _ _ hm (fun e=>by cases e)
 ·-- the first cell tells that the address is a plain one
  have hl0:0 < l.length:=by omega
  obtain ⟨hk0,hc0⟩:=h3 0 _ (List.getElem?_eq_getElem hl0);obtain ⟨u0,hu0,_⟩:=hc0 0 _ (List.getElem?_eq_getElem (by omega:0 < (enc l[0]).length));have hspot:a.spot = none:=by simpa [Addr.add] using World.cell?_spot hu0
  obtain ⟨b,off,spot⟩:=a;simp only at hspot;subst hspot;have hb:b < w.heap.size:=by
   rw [Addr.add_lit] at hu0;unfold World.cell? at hu0
   cases hh:w.heap[b]? with
   | none=>simp [hh] at hu0
   | some o=>exact (Array.getElem?_eq_some_iff.1 hh).1
  have hlen:(l.map enc).length = len:=by simp [h1]
  rw [← hlen];refine .sl _ b off m k (fun i j=>(w.cell? ⟨b,off + (i * k + j),none⟩).getD undef) (by omega) hm trivial hb ?_ ?_ ?_
  ·intro i cs hi;rw [List.getElem?_map] at hi
   cases hx:l[i]? with
   | none=>simp [hx] at hi
   | some y=>simp [hx] at hi;subst hi;exact (h3 i y hx).1
  ·intro i j hi hj;have hil:i < l.length:=by simpa using hi
   obtain ⟨e1,e2⟩:=h3 i _ (List.getElem?_eq_getElem hil);obtain ⟨u,hu,_⟩:=e2 j _ (List.getElem?_eq_getElem (by omega:j < (enc l[i]).length));rw [Addr.add_lit] at hu;simp [hu]
  ·intro i cs j x hi hx;rw [List.getElem?_map] at hi
   cases hy:l[i]? with
   | none=>simp [hy] at hi
   | some y=>
    simp [hy] at hi;subst hi;obtain ⟨u,hu,hd⟩:=(h3 i y hy).2 j x hx;rw [Addr.add_lit] at hu;simpa [hu] using hd

structure OpnF (P:Program) (fs:List Field) (off k:Nat) {α:Type} (enc:α → List DV) (ok:α → Prop) (sz:α → Nat):Prop where
 op:∀ {H:Type} {en:TypeId × Value → H} {w:World} {n:Nat} {cs:List Value} {xs:List (DataW H × List MemPlace)},xs.length = fs.length →
  (∀ (i:Nat) (f:Field),fs[i]? = some f → DataW.trod en P w 0 (fun _=>true) true n f.type ((cs.drop f.offset).take (P.cellsOf f.type)) = xs[i]?) →
  ∃ a,ok a ∧ (enc a).length = k ∧ (∀ (j:Nat) (y:DV) (u:Value),(enc a)[j]? = some y → cs[off + j]? = some u → DRd w All y u) ∧ sz a ≤ vB (xs.map (·.1))

theorem OpnF.nil (off:Nat):OpnF P [] off 0 (fun _:Unit=>[]) (fun _=>True) (fun _=>0):=⟨fun _ _=>⟨(),trivial,rfl,by simp,Nat.zero_le _⟩⟩
theorem OpnF.cons {f:Field} {fs:List Field} {off k1 k2:Nat} {α β:Type} {e1:α → List DV} {o1:α → Prop} {e2:β → List DV} {o2:β → Prop} {z1:α → Nat} {z2:β → Nat} (h1:Opn P f.type k1 e1 o1 z1) (ho:f.offset = off) (h2:OpnF P fs (off + k1) k2 e2 o2 z2) :
  OpnF P (f :: fs) off (k1 + k2) (fun p:α × β=>e1 p.1 ++ e2 p.2) (fun p=>o1 p.1 ∧ o2 p.2) (fun p=>z1 p.1 + z2 p.2):=by
 refine ⟨fun {H en w n cs xs} hlen hx=>?_⟩
 cases xs with
 | nil=>simp at hlen
 | cons x xs=>
  have hx0:=hx 0 f rfl;simp only [List.getElem?_cons_zero] at hx0;obtain ⟨a,ha1,ha2,ha3,ha4,ha5⟩:=h1.op hx0;obtain ⟨b,hb1,hb2,hb3,hb4⟩:=h2.op (xs:=xs) (by simpa using hlen) (fun i f' hf=>by have:=hx (i + 1) f' (by simpa using hf);simpa using this);refine ⟨(a,b),⟨ha1,hb1⟩,by simp [ha3,hb2],?_,by simp only [List.map_cons,vB];omega⟩;intro j y u hy hu;simp only [List.getElem?_append] at hy
  by_cases hj:j < k1
  ·rw [if_pos (by omega)] at hy;refine ha4 j y u hy ?_;rw [List.getElem?_take,h1.cells,if_pos hj,List.getElem?_drop,ho];exact hu
  ·rw [if_neg (by omega),ha3] at hy;refine hb3 (j - k1) y u hy ?_;rw [← hu]
   congr 1
   omega
theorem Opn.struct {fs:List Field} {k:Nat} {α:Type} {enc:α → List DV} {ok:α → Prop} {sz:α → Nat} (hu:P.underlying t = some (.struct fs.toArray)) (hc:P.cellsOf t = k) (h:OpnF P fs 0 k enc ok sz):Opn P t k enc ok (fun a=>sz a + 1):=by
 refine ⟨hc,fun {H en w fuel cs x} hx=>?_⟩;obtain ⟨xs,n,_,hxe,hlen,hxl,hf⟩:=DataW.trod_struct hu hx;obtain ⟨a,h1,h2,h3,h4⟩:=h.op (cs:=cs) (xs:=xs) (by simpa using hxl) (fun i f hi=>hf i f (by simpa using hi));exact ⟨a,h1,by rw [hlen,hc],h2,fun j y u hy hu=>h3 j y u hy (by simpa using hu),by rw [hxe];simp only [bulk];omega⟩

theorem Opn.arg {H:Type} {en:TypeId × Value → H} {w:World} {v:Value} {d:DataW H} {ps:List MemPlace} {α:Type} {enc:α → DV} {ok:α → Prop} {sz:α → Nat} (h:Opn P t 1 (fun a=>[enc a]) ok sz)
  (hx:DataW.Trod en P w 0 (fun _=>true) true t v d ps) (h1:v.oneCell' = true):∃ a,ok a ∧ Rd w g0 All (.d (enc a)) v ∧ sz a ≤ bulk d:=by
 obtain ⟨fuel,hf⟩:=hx;obtain ⟨a,ha,_,_,hr,hz⟩:=h.op hf;have hcs:v.cells.toList = [v]:=by cases v <;> first | rfl | (simp [Value.oneCell'] at h1;done)
 exact ⟨a,ha,.d (hr 0 _ v rfl (by rw [hcs];rfl)),hz⟩
theorem We {H:Type} {en:TypeId × Value → H} (hl:laidOutB P = true) {W W':World} (hb:Below W.heap.size W W'):∀ {ts:List TypeId} {vs:List Value} {ds:List (DataW H)} {ps:List MemPlace},
  (∀ t ∈ ts,P.readableRec t = true ∧ t < P.types.size) → DataW.TrodAll en P W 0 (fun _=>true) true ts vs ds ps → (∀ x ∈ ps,x.block < W.heap.size) → DataW.TrodAll en P W' 0 (fun b=>decide (b < W.heap.size)) true ts vs ds ps
 | [],[],[],ps,_,h,_=>h
 | t :: ts,v :: vs,d :: ds,ps,hr,h,hlt=>by
  obtain ⟨p,q,h1,h2,rfl⟩:=h;have hrt:=hr t (by simp);exact ⟨p,q,Below.trod hl hrt.1 hrt.2 h1 hb (fun x hx=>hlt x (List.mem_append.2 (.inl hx))),We hl hb (fun t ht=>hr t (by simp [ht])) h2 (fun x hx=>hlt x (List.mem_append.2 (.inr hx))),rfl⟩
 | [],[],_ :: _,_,_,h,_=>h.elim
 | [],_ :: _,_,_,_,h,_=>h.elim
 | _ :: _,[],_,_,_,h,_=>h.elim
 | _ :: _,_ :: _,[],_,_,h,_=>h.elim
theorem jH {H:Type} {en:TypeId × Value → H} {w:World} {base:Nat} {sp:Nat → Bool} {hd:Bool}:∀ {ts:List TypeId} {vs:List Value} {ds:List (DataW H)} {ps:List MemPlace},DataW.TrodAll en P w base sp hd ts vs ds ps → ds.length = ts.length
 | [],[],[],_,_=>rfl
 | _ :: _,_ :: _,_ :: _,_,h=>by
  obtain ⟨_,_,_,h2,_⟩:=h;simp [jH h2]
 | [],[],_ :: _,_,h=>h.elim
 | [],_ :: _,_,_,h=>h.elim
 | _ :: _,[],_,_,h=>h.elim
 | _ :: _,_ :: _,[],_,h=>h.elim

theorem vKa {H:Type} {en:TypeId × Value → H} {fn:Func} {s:ChangeSpec} {tb:TypeId} {W W':World} {args:Array Value} {ds gs:List (DataW H)} {before:List MemPlace} (hl:laidOutB P = true)
  (hW:DataW.Whole en P fn.params.toList s.vars false W args.toList ds gs before) (hv:s.vars = []) (hs:∀ ds:List (DataW H),ds.length = fn.params.size → (s.fn H ds).results = [.lit (.bool true)] ∧ (s.fn H ds).args = ds ∧ (s.fn H ds).vars = [])
  (hres:fn.resultTypes = #[tb]) (htb:P.underlying tb = some .bool) (hr:∀ t ∈ fn.params.toList,P.readableRec t = true ∧ t < P.types.size) (hb:Below W.heap.size W W') :
  s.post en P fn false true false false W args (.bool true) W':=by
 have hW':=hW;obtain ⟨p,q,hA,hV,hpq,hfz,hnd⟩:=hW;rw [hv] at hV;obtain ⟨rfl,rfl⟩:=trodVars_none hV;simp only [List.append_nil] at hpq;subst hpq;have hlt:∀ x ∈ before,x.block < W.heap.size:=fun x hx=>by simpa using hW'.lt x hx
 have hlen:ds.length = fn.params.size:=by simpa using jH hA
 obtain ⟨e1,e2,e3⟩:=hs (ds ++ []) (by simpa using hlen);refine ⟨ds,[],before,[],before,[],hW',?_,?_,?_,hb.frame _,fun h=>by cases h⟩
 ·rw [e1,hres];exact trodAll_mk1 (shut_bool htb true)
 ·rw [e2,List.append_nil];exact We hl hb hr hA hlt
 ·rw [e3,hv];rfl
end
end Go.Ep

namespace Go.Ep
set_option linter.unusedVariables false

def TDot.ok (x:TDot):Prop:=okK .u16 x.dev ∧ okK .u64 x.n
def TDot.sz (x:TDot):Nat:=(1 + (1 + 0)) + 1
def TRun.ok (x:TRun):Prop:=okK .u64 x.lo ∧ okK .u64 x.hi
def TRun.sz (x:TRun):Nat:=(1 + (1 + 0)) + 1
def TPart.ok (x:TPart):Prop:=okK .u16 x.dev ∧ (List.length x.runs ≤ 9223372036854775807 ∧ ∀ a ∈ x.runs,TRun.ok a)
def TPart.sz (x:TPart):Nat:=(1 + ((szL TRun.sz x.runs + 1) + 0)) + 1
def TEvent.ok (x:TEvent):Prop:=TDot.ok x.dot ∧ okK .u8 x.kind ∧ okK .u64 x.cid ∧ okK .u8 x.field ∧ ByteArray.size x.text ≤ 9223372036854775807 ∧ (List.length x.kills ≤ 9223372036854775807 ∧ ∀ a ∈ x.kills,TDot.ok a)
def TEvent.sz (x:TEvent):Nat:=(TDot.sz x.dot + (1 + (1 + (1 + ((ByteArray.size x.text + 1) + ((szL TDot.sz x.kills + 1) + 0)))))) + 1
def TDelta.ok (x:TDelta):Prop:=(List.length x.from_ ≤ 9223372036854775807 ∧ ∀ a ∈ x.from_,TPart.ok a) ∧ (List.length x.to_ ≤ 9223372036854775807 ∧ ∀ a ∈ x.to_,TPart.ok a) ∧ (List.length x.events ≤ 9223372036854775807 ∧ ∀ a ∈ x.events,TEvent.ok a)
def TDelta.sz (x:TDelta):Nat:=((szL TPart.sz x.from_ + 1) + ((szL TPart.sz x.to_ + 1) + ((szL TEvent.sz x.events + 1) + 0))) + 1
def L18Act.ok (x:L18Act):Prop:=okK .u8 x.kind ∧ TEvent.ok x.event ∧ (List.length x.ctx ≤ 9223372036854775807 ∧ ∀ a ∈ x.ctx,TPart.ok a)
def L18Act.sz (x:L18Act):Nat:=(1 + (TEvent.sz x.event + ((szL TPart.sz x.ctx + 1) + 0))) + 1
end Go.Ep
namespace Go.Proofs
open Go.Ep
set_option maxRecDepth 100000
theorem opnTDot : Opn Tryz.prog 66 2 TDot.e TDot.ok TDot.sz:=(Opn.struct Tryz.underlying66 (by kernel_rfl) (OpnF.cons (Opn.int Tryz.underlying50 (by kernel_rfl)) rfl (OpnF.cons (Opn.int Tryz.underlying64 (by kernel_rfl)) rfl (OpnF.nil _)))).map (fun p=>⟨p.1,p.2.1⟩) (fun _ _=>rfl) (fun p h=>⟨h.1,h.2.1⟩) (fun _=>Nat.le_refl _)
theorem opnTRun : Opn Tryz.prog 78 2 TRun.e TRun.ok TRun.sz:=(Opn.struct Tryz.underlying78 (by kernel_rfl) (OpnF.cons (Opn.int Tryz.underlying64 (by kernel_rfl)) rfl (OpnF.cons (Opn.int Tryz.underlying64 (by kernel_rfl)) rfl (OpnF.nil _)))).map (fun p=>⟨p.1,p.2.1⟩) (fun _ _=>rfl) (fun p h=>⟨h.1,h.2.1⟩) (fun _=>Nat.le_refl _)
theorem opnTPart : Opn Tryz.prog 81 2 TPart.e TPart.ok TPart.sz:=(Opn.struct Tryz.underlying81 (by kernel_rfl) (OpnF.cons (Opn.int Tryz.underlying50 (by kernel_rfl)) rfl (OpnF.cons (opnTRun.slice Tryz.underlying79 (by kernel_rfl) (by decide)) rfl (OpnF.nil _)))).map (fun p=>⟨p.1,p.2.1⟩) (fun _ _=>rfl) (fun p h=>⟨h.1,h.2.1⟩) (fun _=>Nat.le_refl _)
theorem vLa : Opn Tryz.prog 69 7 TEvent.e TEvent.ok TEvent.sz:=(Opn.struct Tryz.underlying69 (by kernel_rfl) (OpnF.cons opnTDot rfl (OpnF.cons (Opn.int Tryz.underlying5 (by kernel_rfl)) rfl (OpnF.cons (Opn.int Tryz.underlying64 (by kernel_rfl)) rfl (OpnF.cons (Opn.int Tryz.underlying5 (by kernel_rfl)) rfl (OpnF.cons (Opn.str Tryz.underlying9 (by kernel_rfl)) rfl (OpnF.cons (opnTDot.slice Tryz.underlying67 (by kernel_rfl) (by decide)) rfl (OpnF.nil _)))))))).map (fun p=>⟨p.1,p.2.1,p.2.2.1,p.2.2.2.1,p.2.2.2.2.1,p.2.2.2.2.2.1⟩) (fun _ _=>rfl) (fun p h=>⟨h.1,h.2.1,h.2.2.1,h.2.2.2.1,h.2.2.2.2.1,h.2.2.2.2.2.1⟩) (fun _=>Nat.le_refl _)
theorem opnL18Act : Opn Tryz.prog 71 9 L18Act.e L18Act.ok L18Act.sz:=(Opn.struct Tryz.underlying71 (by kernel_rfl) (OpnF.cons (Opn.int Tryz.underlying5 (by kernel_rfl)) rfl (OpnF.cons vLa rfl (OpnF.cons (opnTPart.slice Tryz.underlying23 (by kernel_rfl) (by decide)) rfl (OpnF.nil _))))).map (fun p=>⟨p.1,p.2.1,p.2.2.1⟩) (fun _ _=>rfl) (fun p h=>⟨h.1,h.2.1,h.2.2.1⟩) (fun _=>Nat.le_refl _)
end Go.Proofs


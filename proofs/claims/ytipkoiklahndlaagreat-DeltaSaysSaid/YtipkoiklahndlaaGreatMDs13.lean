/- Texts that the walks and laws lean on, side by side. -/
import Derived.ProofKit
import Derived.Deep.Slices
import Derived.Test.YtipkoiklahndlaaGreatProg
import Derived.KernelRfl
import Derived.Test.YtipkoiklahndlaaGreatMDs2
import Derived.Test.YtipkoiklahndlaaGreatMDs12
set_option linter.unusedVariables false
set_option linter.unusedSimpArgs false
namespace Go.Ep.M.G
open Go
open E (OkE yU SrtE)
open F (hasD yD zy)

theorem vp : ∀ {l l':List TEvent},SrtE l -> SrtE l' -> (∀ d,d ∈ l ↔ d ∈ l') -> l = l'
 | [],[],_,_,_=>rfl
 | [],y :: r,_,_,h=>by have:=(h y).2 (by simp);simp at this
 | x :: r,[],_,_,h=>by have:=(h x).1 (by simp);simp at this
 | x :: r,y :: t,h1,h2,h=>by
  have hx:=(h x).1 (by simp);have hy:=(h y).2 (by simp);have e:x = y:=by
   rcases List.mem_cons.1 hx with e | hx
   ·exact e
   ·rcases List.mem_cons.1 hy with e | hy
    ·exact e.symm
    ·have a1:=(List.pairwise_cons.1 h2).1 x hx;have a2:=(List.pairwise_cons.1 h1).1 y hy;rw [D.Zv a1] at a2;cases a2
  subst e
  congr 1
  refine vp (List.pairwise_cons.1 h1).2 (List.pairwise_cons.1 h2).2 fun d=>?_
  have h3:=h d;simp only [List.mem_cons] at h3
  constructor
  ·intro hd;rcases h3.1 (.inr hd) with e | h4
   ·have:=(List.pairwise_cons.1 h1).1 d hd;rw [e,D.Xe] at this;cases this
   ·exact h4
  ·intro hd;rcases h3.2 (.inr hd) with e | h4
   ·have:=(List.pairwise_cons.1 h2).1 d hd;rw [e,D.Xe] at this;cases this
   ·exact h4
theorem VB {l:List TEvent} (h:SrtE l):(l.map (·.dot)).Nodup:=by
 unfold List.Nodup;rw [List.pairwise_map];exact h.imp fun {a b} h e=>by rw [e,D.Xe] at h;cases h
theorem srtE_one {l:List TEvent} (h:SrtE l) {a b:TEvent} (ha:a ∈ l) (hb:b ∈ l) (e:a.dot = b.dot):a = b:=by
 induction l with
 | nil=>cases ha
 | cons x r ih=>
  obtain ⟨h1,h2⟩:=List.pairwise_cons.1 h;rcases List.mem_cons.1 ha with ea | ea <;> rcases List.mem_cons.1 hb with eb | eb
  ·rw [ea,eb]
  ·have:=h1 b eb;rw [<- ea,e,D.Xe] at this;cases this
  ·have:=h1 a ea;rw [<- eb,e,D.Xe] at this;cases this
  ·exact ih h2 ea eb
theorem zL {l:List TEvent} (h:SrtE l) (p:TEvent -> Bool):SrtE (l.filter p):=h.sublist List.filter_sublist
theorem wza {s:List TEvent} (hn:(s.map (·.dot)).Nodup) (h:s.Pairwise fun x y=>ZU y x = false):SrtE s:=by
 unfold List.Nodup at hn;rw [List.pairwise_map] at hn;refine (hn.and h).imp fun {a b} ⟨h1,h2⟩=>?_
 cases h3:zM a.dot b.dot with
 | true=>rfl
 | false=>exact absurd (D.JF h3 h2) h1
theorem w0a {l:List TEvent} {Q:List TEvent -> Prop} (h:∀ s,s.Perm l -> (s.Pairwise fun x y=>ZU y x = false) -> Q s):(srt ZU l).wp Q:=by
 refine ⟨⟨l.mergeSort (fun x y=>!zM y.dot x.dot),List.mergeSort_perm _ _,?_⟩,fun s ⟨h1,h2⟩=>h s h1 h2⟩;refine (List.pairwise_mergeSort (fun a b c h1 h2=>?_) (fun a b=>?_) l).imp fun {x y} h=>by show zM y.dot x.dot = false;simpa using h
 ·simp only [Bool.not_eq_true'] at h1 h2 ⊢
  cases h3:zM c.dot a.dot with
  | false=>rfl
  | true=>
   rw [D.Vk] at h3;have h4:¬ (zM b.dot a.dot = true):=by simp [h1]
   have h5:¬ (zM c.dot b.dot = true):=by simp [h2]
   rw [D.Vk] at h4 h5;omega
 ·cases h1:zM b.dot a.dot with
  | false=>rfl
  | true=>rw [D.Zv h1];rfl

def ent (e:TEvent):TDot × TEvent:=(e.dot,e)
theorem ent_inj {a b:TEvent} (h:ent a = ent b):a = b:=(Prod.mk.inj h).2
theorem w1a {l:List TEvent} {k:TDot × TEvent}:k ∈ l.map ent ↔ k.2 ∈ l /\ k.1 = k.2.dot:=by
 rw [List.mem_map]
 constructor
 ·rintro ⟨e,h,rfl⟩;exact ⟨h,rfl⟩
 ·rintro ⟨h1,h2⟩;exact ⟨k.2,h1,by unfold ent;rw [<- h2]⟩
def Holds (m:List (TDot × TEvent)) (l:List TEvent):Prop:=m.Perm (l.map ent)
theorem Holds.keys {m:List (TDot × TEvent)} {l:List TEvent} (h:Holds m l) (hs:SrtE l):(m.map (·.1)).Nodup:=by
 have h1:=h.map (·.1);rw [List.map_map] at h1;exact h1.nodup_iff.2 (VB hs)
theorem Holds.mem {m:List (TDot × TEvent)} {l:List TEvent} (h:Holds m l) {k:TDot × TEvent}:k ∈ m ↔ k.2 ∈ l /\ k.1 = k.2.dot:=by rw [h.mem_iff,w1a]
theorem Holds.len {m:List (TDot × TEvent)} {l:List TEvent} (h:Holds m l):m.length = l.length:=by rw [h.length_eq,List.length_map]
theorem w2a {l:List TEvent} (h:SrtE l):(l.map ent).Nodup:=by
 unfold List.Nodup;rw [List.pairwise_map];exact h.imp fun {a b} h e=>by rw [ent_inj e,D.Xe] at h;cases h
theorem qa {m:List (TDot × TEvent)} {l:List TEvent} (hn:(m.map (·.1)).Nodup) (hs:SrtE l) (h:∀ k,k ∈ m ↔ k.2 ∈ l /\ k.1 = k.2.dot):Holds m l:=by
 have hm:m.Nodup:=by
  unfold List.Nodup at hn ⊢;rw [List.pairwise_map] at hn;exact hn.imp fun {a b} h e=>h (by rw [e])
 exact (List.perm_ext_iff_of_nodup hm (w2a hs)).2 fun k=>by rw [h,w1a]
theorem qY (e:TEvent) (h:e.kills.length <= 1000000000000):yb e = pure e:=by
 unfold yb;rw [D.qV e.kills h,zB,zA]
theorem jS {body:List Nat × List TEvent -> M (Step (List Nat × List TEvent) (List TEvent))} (m:List (TDot × TEvent)) (hb:body = fun ⟨seen,out⟩=>need (∀ i ∈ seen,i < m.length)<|M.bind (nxt m.length seen) fun o=>match o with
  | none=>pure (.done out)
  | some j=>M.bind (idx m (Int.ofNat j)) fun kv=>M.bind (det (yb kv.2)) fun v=>need ((List.length out + List.length [v]) * 80 <= 140737488355328)<|pure (.next (seen ++ [j],out ++ [v])))
  (hl:m.length <= 500000000000) (hk:∀ k ∈ m,k.2.kills.length <= 1000000000000) (t0:List TEvent) (h0:t0.length <= 500000000000) {Q:List TEvent -> Prop} (hQ:∀ l:List (TDot × TEvent),l.Perm m -> Q (t0 ++ l.map (·.2))):(loop body ([],t0)).wp Q:=by
 refine M.loopM (body:=body) m (fun L (t:List TEvent)=>(L,t)) (fun t e=>(yb e.2).det.bind fun v=>need ((t.length + 1) * 80 <= 140737488355328) (pure (t ++ [v]))) (fun t=>pure t)
  (fun l t=>t = t0 ++ l.map (·.2)) Q (fun L t hL=>?_) (fun l t y ht hlen hy=>?_) (fun l t hp ht=>?_) t0 (by simp)
 ·subst hb;show need _ ((nxt _ _).bind _) = need _ ((nxt _ _).bind _);refine congrArg (fun k=>need _ ((nxt _ _).bind k)) (funext fun o=>?_)
  cases o with
  | none=>rfl
  | some i=>rfl
 ·rw [qY y.2 (hk y hy),zB,zA];subst ht;exact ⟨_,zD (by simp;omega) _,by simp⟩
 ·subst ht;exact hQ l hp
theorem yga {nl:Bool} {m:List (TDot × TEvent)} {l:List TEvent} (hm:Holds m l) (hs:SrtE l) (hl:l.length <= 500000000000) (hk:∀ e ∈ l,e.kills.length <= 1000000000000):vN nl m = pure l:=by
 unfold vN;refine vy (jS (body:=YN m) m rfl (by rw [hm.len];exact hl) (fun k h=>hk _ (hm.mem.1 h).1) [] (by simp) fun q hq=>?_);show (need _ _).wp _;have hp:(q.map (·.2)).Perm l:=by
  have:=(hq.trans hm).map (·.2);rw [List.map_map] at this;simpa [Function.comp_def,ent] using this
 rw [List.nil_append,zD (by rw [hp.length_eq];omega)];refine w0a fun s h1 h2=>?_
 show s = l;have h3:=h1.trans hp;exact vp (wza ((h3.map (·.dot)).nodup_iff.2 (VB hs)) h2) hs fun d=>h3.mem_iff
theorem list2_eq {nl1 nl2:Bool} {m1 m2:List (TDot × TEvent)} {l l1 l2:List TEvent} (h1:Holds m1 l1) (h2:Holds m2 l2) (hp:(l1 ++ l2).Perm l) (hs:SrtE l) (hl:l.length <= 200000000000) (hk:∀ e ∈ l,e.kills.length <= 1000000000000):ub nl1 m1 nl2 m2 = pure l:=by
 have hll:=hp.length_eq;rw [List.length_append] at hll;have hk1:∀ k ∈ m1,k.2.kills.length <= 1000000000000:=fun k h=>hk _ (hp.mem_iff.1 (List.mem_append_left _ (h1.mem.1 h).1))
 have hk2:∀ k ∈ m2,k.2.kills.length <= 1000000000000:=fun k h=>hk _ (hp.mem_iff.1 (List.mem_append_right _ (h2.mem.1 h).1))
 unfold ub;refine vy (jS (body:=YK m1) m1 rfl (by rw [h1.len];omega) hk1 [] (by simp) fun q hq=>?_);have hq1:(q.map (·.2)).Perm l1:=by
  have:=(hq.trans h1).map (·.2);rw [List.map_map] at this;simpa [Function.comp_def,ent] using this
 refine jS (body:=YL m2) m2 rfl (by rw [h2.len];omega) hk2 _ (by rw [List.nil_append,hq1.length_eq];omega) fun q2 hq2=>?_
 have hq3:(q2.map (·.2)).Perm l2:=by
  have:=(hq2.trans h2).map (·.2);rw [List.map_map] at this;simpa [Function.comp_def,ent] using this
 show (need _ _).wp _;rw [List.nil_append];have hpp:(q.map (·.2) ++ q2.map (·.2)).Perm l:=(hq1.append hq3).trans hp;rw [zD (by rw [hpp.length_eq];omega)];refine w0a fun s h3 h4=>?_
 show s = l;have h5:=h3.trans hpp;exact vp (wza ((h5.map (·.dot)).nodup_iff.2 (VB hs)) h4) hs fun d=>h5.mem_iff

open E (OkE yU SrtE)
open F (hasD yD zy wd)

section
variable {κ ν:Type} [DecidableEq κ]
theorem del_sub (m:List (κ × ν)) (x:κ):(AL.del m x).Sublist m:=by
 induction m with
 | nil=>exact List.Sublist.slnil
 | cons k r ih=>
  obtain ⟨k,v⟩:=k;unfold AL.del
  split
  ·exact List.sublist_cons_self _ _
  ·exact ih.cons_cons _
theorem mem_del {m:List (κ × ν)} (hn:(m.map (·.1)).Nodup) (x:κ) (k:κ × ν):k ∈ AL.del m x ↔ k ∈ m /\ k.1 ≠ x:=by
 induction m with
 | nil=>simp [AL.del]
 | cons y r ih=>
  obtain ⟨q,v⟩:=y;rw [List.map_cons,List.nodup_cons] at hn;unfold AL.del
  split
  ·rename_i e
   subst e;rw [List.mem_cons]
   constructor
   ·intro h;exact ⟨.inr h,fun e=>hn.1 (e ▸ List.mem_map.2 ⟨k,h,rfl⟩)⟩
   ·rintro ⟨h | h,h2⟩
    ·subst h;exact absurd rfl h2
    ·exact h
  ·rename_i e
   rw [List.mem_cons,List.mem_cons,ih hn.2]
   constructor
   ·rintro (h | ⟨h,h2⟩)
    ·subst h;exact ⟨.inl rfl,e⟩
    ·exact ⟨.inr h,h2⟩
   ·rintro ⟨h | h,h2⟩
    ·exact .inl h
    ·exact .inr ⟨h,h2⟩
theorem w3a {m:List (κ × ν)} (hn:(m.map (·.1)).Nodup) (x:κ) (v:ν) (k:κ × ν):k ∈ AL.set m x v ↔ (k ∈ m /\ k.1 ≠ x) \/ k = (x,v):=by
 induction m with
 | nil=>simp [AL.set]
 | cons y r ih=>
  obtain ⟨q,u⟩:=y;rw [List.map_cons,List.nodup_cons] at hn;unfold AL.set
  split
  ·rename_i e
   subst e;rw [List.mem_cons,List.mem_cons]
   constructor
   ·rintro (h | h)
    ·exact .inr h
    ·exact .inl ⟨.inr h,fun e=>hn.1 (e ▸ List.mem_map.2 ⟨k,h,rfl⟩)⟩
   ·rintro (⟨h | h,h2⟩ | h)
    ·subst h;exact absurd rfl h2
    ·exact .inr h
    ·exact .inl h
  ·rename_i e
   rw [List.mem_cons,List.mem_cons,ih hn.2]
   constructor
   ·rintro (h | ⟨h,h2⟩ | h)
    ·subst h;exact .inl ⟨.inl rfl,e⟩
    ·exact .inl ⟨.inr h,h2⟩
    ·exact .inr h
   ·rintro (⟨h | h,h2⟩ | h)
    ·exact .inl h
    ·exact .inr (.inl ⟨h,h2⟩)
    ·exact .inr (.inr h)
end
theorem Holds.del {m:List (TDot × TEvent)} {l:List TEvent} (h:Holds m l) (hs:SrtE l) (d:TDot):Holds (AL.del m d) (l.filter fun e=>!decide (e.dot = d)):=
 qa ((h.keys hs).sublist ((del_sub m d).map _)) (zL hs _) fun k=>by
  rw [mem_del (h.keys hs),h.mem,List.mem_filter]
  constructor
  ·rintro ⟨⟨h1,h2⟩,h3⟩;exact ⟨⟨h1,by rw [h2] at h3;simp [h3]⟩,h2⟩
  ·rintro ⟨⟨h1,h3⟩,h2⟩;exact ⟨⟨h1,h2⟩,by rw [h2];simpa using h3⟩
theorem XT {l:List TDot} {d:TDot}:hasD l d = true ↔ d ∈ l:=by
 unfold hasD;rw [List.any_eq_true]
 constructor
 ·rintro ⟨x,h1,h2⟩;rw [<- of_decide_eq_true h2];exact h1
 ·intro h;exact ⟨d,h,by simp⟩
theorem w4a (x:TDot) (r:List TDot) (d:TDot):hasD (x :: r) d = (decide (x = d) || hasD r d):=rfl
theorem Holds.dels : ∀ (ks:List TDot) {m:List (TDot × TEvent)} {l:List TEvent},Holds m l -> SrtE l -> Holds (ks.foldl AL.del m) (l.filter fun e=>!hasD ks e.dot)
 | [],m,l,h,_=>by
  have:(l.filter fun e=>!hasD [] e.dot) = l:=List.filter_eq_self.2 fun _ _=>rfl
  rw [this];exact h
 | d :: r,m,l,h,hs=>by
  have h1:=Holds.dels r (h.del hs d) (zL hs _);rw [List.filter_filter] at h1;rw [List.foldl_cons];have:(fun e:TEvent=>!hasD (d :: r) e.dot) = fun e=>(!hasD r e.dot) && !decide (e.dot = d):=funext fun e=>by
   rw [w4a,Bool.not_or,Bool.and_comm]
   congr 2
   exact decide_eq_decide.2 ⟨Eq.symm,Eq.symm⟩
  rw [this];exact h1
def insE (l:List TEvent) (e:TEvent):List TEvent:=(l.filter fun x=>zM x.dot e.dot) ++ [e] ++ (l.filter fun x=>zM e.dot x.dot)
theorem UO {l:List TEvent} (hs:SrtE l) (e:TEvent):SrtE (insE l e):=by
 unfold insE SrtE;rw [List.pairwise_append,List.pairwise_append];refine ⟨⟨zL hs _,by simp,fun a ha b hb=>?_⟩,zL hs _,fun a ha b hb=>?_⟩
 ·rw [List.mem_singleton.1 hb];exact (List.mem_filter.1 ha).2
 ·have h2:=(List.mem_filter.1 hb).2;rcases List.mem_append.1 ha with h | h
  ·exact D.XR (List.mem_filter.1 h).2 h2
  ·rw [List.mem_singleton.1 h];exact h2
theorem UP {l:List TEvent} {e:TEvent} (hn:∀ x ∈ l,x.dot ≠ e.dot) {x:TEvent}:x ∈ insE l e ↔ x = e \/ x ∈ l:=by
 unfold insE;rw [List.mem_append,List.mem_append,List.mem_filter,List.mem_filter,List.mem_singleton]
 constructor
 ·rintro ((⟨h,_⟩ | h) | ⟨h,_⟩)
  ·exact .inr h
  ·exact .inl h
  ·exact .inr h
 ·rintro (h | h)
  ·exact .inl (.inr h)
  ·cases h1:zM x.dot e.dot with
   | true=>exact .inl (.inl ⟨h,rfl⟩)
   | false=>
    cases h2:zM e.dot x.dot with
    | true=>exact .inr ⟨h,rfl⟩
    | false=>exact absurd (D.JF h1 h2) (hn x h)
theorem insE_len (l:List TEvent) (e:TEvent) (hs:SrtE l):(insE l e).length <= l.length + 1:=by
 unfold insE;have h:∀ q:List TEvent,(q.filter fun x=>zM x.dot e.dot).length + (q.filter fun x=>zM e.dot x.dot).length <= q.length:=by
  intro q
  induction q with
  | nil=>simp
  | cons x r ih=>
   rw [List.filter_cons,List.filter_cons]
   cases h1:zM x.dot e.dot with
   | true=>rw [D.Zv h1];simp;omega
   | false=>simp only [Bool.false_eq_true,if_false];split <;> simp <;> omega
 have:=h l;simp;omega
theorem Holds.add {m:List (TDot × TEvent)} {l:List TEvent} (h:Holds m l) (hs:SrtE l) {e:TEvent} (hn:∀ x ∈ l,x.dot ≠ e.dot):Holds (AL.set m e.dot e) (insE l e):=
 qa (AL.nodup_set (h.keys hs) _ _) (UO hs e) fun k=>by
  rw [w3a (h.keys hs),h.mem,UP hn]
  constructor
  ·rintro (⟨⟨h1,h2⟩,h3⟩ | h1)
   ·exact ⟨.inr h1,h2⟩
   ·rw [h1];exact ⟨.inl rfl,rfl⟩
  ·rintro ⟨h1 | h1,h2⟩
   ·refine .inr ?_;obtain ⟨k1,k2⟩:=k;simp only at h1 h2;rw [h2,h1]
   ·exact .inl ⟨⟨h1,h2⟩,by rw [h2];exact hn _ h1⟩

theorem zpa {ρ:Type} {body:Int × List TEvent -> M (Step (Int × List TEvent) ρ)} (l:List TEvent) (p:TEvent -> Bool) (g:List TEvent -> M ρ)
  (h1:∀ (i:Nat) (x:TEvent) (t:List TEvent),l[i]? = some x -> i < l.length -> t.length <= i -> body ((i:Int),t) = pure (.next (((i + 1:Nat):Int),if p x then t ++ [x] else t)))
  (h2:∀ t,body ((l.length:Int),t) = (g t).bind fun r=>pure (.done r)):loop body (0,[]) = g (l.filter p):=by
 have h:=uL (body:=body) l (fun i (t:List TEvent)=>((i:Int),t)) (fun t x=>if p x then t ++ [x] else t) g (fun i t=>t.length <= i)
  (fun i x t hx hi hI=>⟨h1 i x t hx hi hI,by split <;> (try rw [List.length_append,List.length_singleton]) <;> omega⟩) (fun t _=>h2 t) [] (Nat.le_refl _)
 have hf:∀ (q t:List TEvent),q.foldl (fun t x=>if p x then t ++ [x] else t) t = t ++ q.filter p:=by
  intro q
  induction q with
  | nil=>intro t;simp
  | cons x r ih=>intro t;rw [List.foldl_cons,ih,List.filter_cons];split <;> simp
 rw [hf,List.nil_append] at h;exact h
theorem rPutI_eq (l:List TEvent) (e:TEvent) (hs:SrtE l) (hn:∀ x ∈ l,x.dot ≠ e.dot) (hl:l.length <= 1000000000):JX l e = pure (insE l e):=by
 unfold JX;have h:=uL (body:=uz l e) l (fun i (t:Bool × List TEvent)=>(t.1,(i:Int),t.2)) (fun t x=>((t.1 || !zM x.dot e.dot),(if (!zM x.dot e.dot && !t.1) = true then t.2 ++ [e] else t.2) ++ [x])) (fun t=>pure (Ex.brk (t.1,t.2)))
  (fun i t=>t.2.length <= i + 1 /\ (t.1 = false -> t.2.length <= i)) (fun i x t hx hi hI=>by
   obtain ⟨dn,out⟩:=t;have c0:x.dot ≠ e.dot:=hn x (List.mem_of_getElem? hx);have hz:V.cmpD x.dot e.dot ≠ 0:=by
    unfold V.cmpD;rw [if_neg c0];split <;> decide
   have hpos:decide (0 < V.cmpD x.dot e.dot) = !zM x.dot e.dot:=by
    by_cases c1:zM x.dot e.dot = true
    ·have:=V.Zq.2 c1;rw [c1];simp;omega
    ·have h2:¬ V.cmpD x.dot e.dot < 0:=fun h=>c1 (V.Zq.1 h)
     simp only [Bool.not_eq_true] at c1;rw [c1];simp;omega
   have hc:decide ((i:Int) < (l.length:Int)) = true:=by simpa using hi
   have hI1:=hI.1;have hI2:=hI.2;simp only at hI1 hI2;refine ⟨?_,?_⟩
   ·unfold uz;simp only [hc,cond_true,zF hx,zA,V.ZL,zB,decide_eq_false hz,cond_false,hpos]
    cases zM x.dot e.dot <;> cases dn <;> simp only [Bool.not_true,Bool.not_false,cond_true,cond_false,zA,Bool.and_true,Bool.and_false,Bool.or_true,Bool.or_false,Bool.false_eq_true,if_true,if_false]
    ·rw [zD (by simp;omega),zA];simp only [];rw [zD (by simp;omega),zf (show i < 9223372036854775807 by omega)]
    ·rw [zD (by simp;omega),zf (show i < 9223372036854775807 by omega)]
    ·rw [zD (by simp;omega),zf (show i < 9223372036854775807 by omega)]
    ·rw [zD (by simp;omega),zf (show i < 9223372036854775807 by omega)]
   ·cases zM x.dot e.dot <;> cases dn <;> simp_all <;> omega) (fun t _=>by
   unfold uz;simp [zA]) (false,[]) (by simp)
 have hA:∀ (q acc:List TEvent),q.foldl (fun (t:Bool × List TEvent) x=>((t.1 || !zM x.dot e.dot),(if (!zM x.dot e.dot && !t.1) = true then t.2 ++ [e] else t.2) ++ [x])) (true,acc) = (true,acc ++ q):=by
  intro q
  induction q with
  | nil=>intro acc;simp
  | cons x r ih=>intro acc;rw [List.foldl_cons];simp only [Bool.true_or,Bool.not_true,Bool.and_false,Bool.false_eq_true,if_false];rw [ih];simp
 have hB:∀ (q acc:List TEvent),SrtE q -> (∀ x ∈ q,x.dot ≠ e.dot) -> ∃ r:Bool × List TEvent,q.foldl (fun (t:Bool × List TEvent) x=>((t.1 || !zM x.dot e.dot),(if (!zM x.dot e.dot && !t.1) = true then t.2 ++ [e] else t.2) ++ [x])) (false,acc) = r /\ (if r.1 = true then r.2 else r.2 ++ [e]) = acc ++ insE q e /\ (r.1 = false -> r.2.length = acc.length + q.length):=by
  intro q
  induction q with
  | nil=>intro acc _ _;exact ⟨(false,acc),rfl,by simp [insE],fun _=>by simp⟩
  | cons x r ih=>
   intro acc hs hn;obtain ⟨p1,p2⟩:=List.pairwise_cons.1 hs;rw [List.foldl_cons]
   cases c:zM x.dot e.dot with
   | true=>
    simp only [Bool.not_true,Bool.or_self,Bool.false_and,Bool.false_eq_true,if_false];obtain ⟨y,h1,h2,h3⟩:=ih (acc ++ [x]) p2 fun z hz=>hn z (by simp [hz])
    refine ⟨y,h1,?_,fun h=>by rw [h3 h];simp;omega⟩;rw [h2];unfold insE;rw [List.filter_cons,List.filter_cons,if_pos c,if_neg (by rw [D.Zv c];simp)];simp
   | false=>
    have hgt:zM e.dot x.dot = true:=by
     cases hh:zM e.dot x.dot with
     | true=>rfl
     | false=>exact absurd (D.JF c hh) (hn x (by simp))
    simp only [Bool.not_false,Bool.or_true,Bool.and_self,if_true];rw [hA];refine ⟨_,rfl,?_,fun h=>by cases h⟩;rw [if_pos rfl];unfold insE;have e1:((x :: r).filter fun y=>zM y.dot e.dot) = []:=List.filter_eq_nil_iff.2 fun y hy=>by
     rcases List.mem_cons.1 hy with rfl | hy
     ·rw [c];simp
     ·rw [D.Zv (D.XR hgt (p1 y hy))];simp
    have e2:((x :: r).filter fun y=>zM e.dot y.dot) = x :: r:=List.filter_eq_self.2 fun y hy=>by
     rcases List.mem_cons.1 hy with rfl | hy
     ·exact hgt
     ·exact D.XR hgt (p1 y hy)
    rw [e1,e2];simp
 obtain ⟨r,h1,h2,h3⟩:=hB l [] hs hn;rw [h1] at h;have h':loop (uz l e) (false,0,[]) = pure (Ex.brk (r.1,r.2)):=h;rw [h',zA,ul];obtain ⟨r1,r2⟩:=r
 cases r1 with
 | true=>
  simp only [Bool.not_true,cond_false,zA];rw [if_pos rfl,List.nil_append] at h2;have h2:r2 = insE l e:=h2;rw [h2]
 | false=>
  have:=h3 rfl;simp only [List.length_nil,Nat.zero_add] at this;simp only [Bool.not_false,cond_true];rw [zD (by simp;omega),zA];rw [if_neg (by simp),List.nil_append] at h2;have h2:r2 ++ [e] = insE l e:=h2;rw [h2]
theorem jT {e:TEvent} (h:yU e = true):e.kind = 1 \/ e.kind = 2:=by
 simp only [yU,E.goodK,Bool.and_eq_true,Bool.or_eq_true,decide_eq_true_eq] at h;rcases h.2.1 with h | h
 ·exact .inl h.1
 ·exact .inr h.1
theorem JH {e:TEvent} (h:yU e = true):e.kills.length <= 256 /\ D.Srt e.kills /\ ∀ d ∈ e.kills,V.zw d = true /\ d ≠ e.dot:=by
 simp only [yU,E.xIa,Bool.and_eq_true,decide_eq_true_eq,List.all_eq_true,Bool.not_eq_true',decide_eq_false_iff_not] at h;exact ⟨h.2.2.1,D.yfa.1 h.2.2.2.1,fun d hd=>h.2.2.2.2 d hd⟩
theorem good_dot {e:TEvent} (h:yU e = true):V.zw e.dot = true:=by
 simp only [yU,Bool.and_eq_true] at h;exact h.1.2

open E (OkE yU SrtE)
open F (hasD yD zy wd)

def yp (L:List TEvent):List TEvent:=L.filter fun e=>decide (e.kind = 1)
def yx (L:List TEvent):List TEvent:=L.filter fun e=>decide (e.kind = 2)
theorem yj {L:List TEvent} {x:TEvent}:x ∈ yp L ↔ x ∈ L /\ x.kind = 1:=by simp [yp]
theorem xM {L:List TEvent} {x:TEvent}:x ∈ yx L ↔ x ∈ L /\ x.kind = 2:=by simp [yx]
theorem wb {l:List TEvent} {d:TDot}:d ∈ yD l ↔ ∃ e ∈ l,d = e.dot \/ d ∈ e.kills:=by simp [yD]
theorem UQ {l:List TEvent} {d:TDot}:wd l d = true ↔ ∃ e ∈ l,d ∈ e.kills:=by
 unfold wd;rw [List.any_eq_true];exact ⟨fun ⟨e,h1,h2⟩=>⟨e,h1,XT.1 h2⟩,fun ⟨e,h1,h2⟩=>⟨e,h1,XT.2 h2⟩⟩
structure Rep (n:Nat) (W c xc:List TPart) (nl1:Bool) (m1:List (TDot × TEvent)) (nl2:Bool) (m2:List (TDot × TEvent)) (L:List TEvent):Prop where
 ctx:c = C.zW W
 xctx:∀ k n,C.hasC xc k n = C.hasC W k n
 xok:C.Ok xc
 live:Holds m1 (yp L)
 tomb:Holds m2 (yx L)
 n1:nl1 = true -> m1 = []
 n2:nl2 = true -> m2 = []
 srt:SrtE L
 good:∀ e ∈ L,yU e = true /\ OkE e
 dots:∀ d ∈ yD L,C.hasC W d.dev d.n = true
 alive:∀ e ∈ L,e.kind = 1 -> wd L e.dot = false
 wl:W.length <= n
 wt:C.totC W <= n
 ll:L.length <= n
theorem Zz {W:List TPart} (h1:W.length <= 400000000) (h2:C.totC W <= 400000000):C.Ok (C.zW W):=
 ⟨fun p hp=>by have:=((C.yK W).nf p hp).1;omega,by have:=C.uQ W;omega,by have:=C.uR W;omega⟩
section
variable {n:Nat} {W c xc:List TPart} {nl1:Bool} {m1:List (TDot × TEvent)} {nl2:Bool} {m2:List (TDot × TEvent)} {L:List TEvent}
theorem Rep.mono (hR:Rep n W c xc nl1 m1 nl2 m2 L) {k:Nat} (h:n <= k):Rep k W c xc nl1 m1 nl2 m2 L:=
 { hR with wl:=Nat.le_trans hR.wl h,wt:=Nat.le_trans hR.wt h,ll:=Nat.le_trans hR.ll h }
theorem Rep.okc (hR:Rep n W c xc nl1 m1 nl2 m2 L) (hn:n <= 100000000):C.Ok c:=by
 rw [hR.ctx];exact Zz (by have:=hR.wl;omega) (by have:=hR.wt;omega)
theorem Rep.has (hR:Rep n W c xc nl1 m1 nl2 m2 L) (hn:n <= 100000000) (d:TDot):vR c d = pure (C.hasC W d.dev d.n):=by
 rw [C.Vj c d (hR.okc hn).sm,hR.ctx,C.yo]
theorem Rep.rhas (hR:Rep n W c xc nl1 m1 nl2 m2 L) (d:TDot):wi xc d = pure (C.hasC W d.dev d.n):=by
 rw [C.ur xc d hR.xok,hR.xctx]
theorem Rep.new : Rep 0 [] [] [] true [] true [] [] where
 ctx:=rfl
 xctx _ _:=rfl
 xok:=C.ok_nil
 live:=List.Perm.refl _
 tomb:=List.Perm.refl _
 n1 _:=rfl
 n2 _:=rfl
 srt:=List.Pairwise.nil
 good _ h:=by cases h
 dots _ h:=by cases h
 alive _ h:=by cases h
 wl:=Nat.le_refl _
 wt:=Nat.le_refl _
 ll:=Nat.le_refl _
theorem qb (ks:List TDot):ks.foldl AL.del ([]:List (TDot × TEvent)) = []:=by
 induction ks with
 | nil=>rfl
 | cons d r ih=>rw [List.foldl_cons];exact ih
theorem yha {e:TEvent} (hk:e.kills.length <= 1000000000000) {nl:Bool} {m:List (TDot × TEvent)} (h:nl = true -> m = []):wn e nl m = pure (false,AL.set m e.dot e):=by
 unfold wn;have h1:(cond nl (M.pure ([]:List (TDot × TEvent))) (M.pure m)) = M.pure m:=by
  cases nl with
  | true=>rw [h rfl];rfl
  | false=>rfl
 rw [h1,zA,qY e hk,zB,zA]
def putL (L:List TEvent) (e:TEvent):List TEvent:=insE (L.filter fun x=>!decide (x.kind = 1) || !hasD e.kills x.dot) e
theorem Qh (e:TEvent) (hk:e.kills.length <= 1000000000) (m:List (TDot × TEvent)):loop (yg e) (0,m) = pure (e.kills.foldl AL.del m):=
 uL (body:=yg e) e.kills (fun i (t:List (TDot × TEvent))=>((i:Int),t)) AL.del (fun t=>pure t) (fun _ _=>True) (fun i x t hx hi _=>by
  have hd:decide ((i:Int) < (e.kills.length:Int)) = true:=by simpa using hi
  refine ⟨?_,trivial⟩;unfold yg;simp only [hd,cond_true,zF hx,zA,zf (show i < 9223372036854775807 by omega)]) (fun t _=>by
  unfold yg;simp [zA]) m trivial
theorem w5a (e:TEvent) (hk:e.kills.length <= 1000000000) (xc:List TPart) (L:List TEvent) (hl:L.length <= 1000000000):loop (ZA ⟨xc,L⟩ e) (0,[]) = pure (L.filter fun x=>!decide (x.kind = 1) || !hasD e.kills x.dot):=
 zpa (body:=ZA ⟨xc,L⟩ e) L (fun x=>!decide (x.kind = 1) || !hasD e.kills x.dot) (fun t=>pure t) (fun i x t hx hi hI=>by
  have hd:decide ((i:Int) < (L.length:Int)) = true:=by simpa using hi
  unfold ZA;have hh:Xn e.kills x.dot = pure (hasD e.kills x.dot):=E.ur e.kills x.dot (by omega);simp only [hd,cond_true,zF hx,zA,hh,zB,zf (show i < 9223372036854775807 by omega)]
  cases decide (x.kind = 1) <;> cases hasD e.kills x.dot <;> simp only [Bool.not_true,Bool.not_false,cond_true,cond_false,zA,Bool.or_true,Bool.or_false,Bool.true_or,Bool.false_or,if_true,if_false,Bool.false_eq_true]
  all_goals (try rw [zD (by simp;omega)])
  all_goals rfl) (fun t=>by
  unfold ZA;simp [zA])
theorem put_mem (hR:Rep n W c xc nl1 m1 nl2 m2 L) {e:TEvent} (hc:C.hasC W e.dot.dev e.dot.n = false) {x:TEvent}:x ∈ putL L e ↔ x = e \/ (x ∈ L /\ (x.kind ≠ 1 \/ x.dot ∉ e.kills)):=by
 unfold putL;rw [UP,List.mem_filter]
 ·simp only [Bool.or_eq_true,Bool.not_eq_true',decide_eq_false_iff_not,<- Bool.not_eq_true (b:=hasD _ _),XT]
 ·intro x hx e1;have:=hR.dots x.dot (wb.2 ⟨x,(List.mem_filter.1 hx).1,.inl rfl⟩);rw [e1,hc] at this;cases this
theorem Rep.put (hR:Rep n W c xc nl1 m1 nl2 m2 L) (hn:n <= 100000000) {e:TEvent} (oe:OkE e) (g:yU e = true) (hc:C.hasC W e.dot.dev e.dot.n = false) :
  ∃ c' xc' nl1' m1' nl2' m2',zt e c nl1 m1 nl2 m2 = pure (0,c',nl1',m1',nl2',m2') /\ uo ⟨xc,L⟩ e = pure (⟨xc',putL L e⟩,0) /\ Rep (n + 600) (W ++ C.yF (zy [e])) c' xc' nl1' m1' nl2' m2' (putL L e):=by
 obtain ⟨k1,k2,k3⟩:=JH g;have hdl:(yD [e]).length <= 300:=by simp [yD];omega
 have hde:(zy [e]).length <= 300:=Nat.le_trans (D.XS _) hdl;have hne:∀ x ∈ L,x.dot ≠ e.dot:=fun x hx e1=>by
  have:=hR.dots x.dot (wb.2 ⟨x,hx,.inl rfl⟩);rw [e1,hc] at this;cases this
 have hadd:Ui c (zy [e]) = pure (C.zW (W ++ C.yF (zy [e]))):=by
  have h:=hR.okc hn;rw [C.Add_eq c (zy [e]) (by omega) h.len h.tot,hR.ctx,C.qQ]
 have hxok:C.Ok (C.zW (C.yF (zy [e]))):=C.zia (by omega);have hjoin:ZY xc (C.zW (C.yF (zy [e]))) = pure (C.opC (· || ·) xc (C.zW (C.yF (zy [e])))):=C.qO _ _ hR.xok hxok;have hxe:C.opC (· || ·) xc (C.zW (C.yF (zy [e]))) = C.zW (W ++ C.yF (zy [e])):=(C.xX rfl _ _).ext (C.yK _) fun k n=>by
  rw [C.uq rfl,C.yo,C.yo,C.Zt,hR.xctx]
 have hW1:(W ++ C.yF (zy [e])).length <= n + 600:=by have:=hR.wl;have:=C.wY (zy [e]);rw [List.length_append];omega
 have hW2:C.totC (W ++ C.yF (zy [e])) <= n + 600:=by have:=hR.wt;have:=C.Wz (zy [e]);rw [C.XP];omega
 have hsP:SrtE (putL L e):=UO (zL hR.srt _) e;have hmem:=fun x=>put_mem (x:=x) hR hc
 -- the document
 have hr:uo ⟨xc,L⟩ e = pure (⟨C.zW (W ++ C.yF (zy [e])),putL L e⟩,0):=by
  unfold uo;rw [E.vG oe,zB,zA,g,Bool.not_true,cond_false];rw [show (⟨xc,L⟩:R18Book).ctx = xc from rfl,hR.rhas,zB,zA,hc,cond_false,w5a e (by omega) xc L (by have:=hR.ll;omega),zA];rw [F.UN [e] (by simp) (fun x hx=>by rw [List.mem_singleton.1 hx];omega),zB,zA,C.rOf_eq _ (by omega),zB,zA,hjoin,zB,zA,hxe];rw [rPutI_eq _ e (zL hR.srt _) (fun x hx=>hne x (List.mem_filter.1 hx).1) (by have:=List.length_filter_le (fun x:TEvent=>!decide (x.kind = 1) || !hasD e.kills x.dot) L;have:=hR.ll;omega),zB,zA]
  rfl
 have hdots:∀ d ∈ yD (putL L e),C.hasC (W ++ C.yF (zy [e])) d.dev d.n = true:=fun d hd=>by
  rw [C.Zt];obtain ⟨x,hx,h⟩:=wb.1 hd;rcases (hmem x).1 hx with rfl | ⟨hx,_⟩
  ·rw [Bool.or_eq_true];refine .inr ((C.has_dots _ _ _).2 ⟨d,D.Zw.2 (wb.2 ⟨x,by simp,h⟩),?_,rfl,rfl⟩);rcases h with rfl | h
   ·exact good_dot g
   ·exact (k3 d h).1
  ·rw [hR.dots d (wb.2 ⟨x,hx,h⟩)];rfl
 have halive:∀ x ∈ putL L e,x.kind = 1 -> wd (putL L e) x.dot = false:=fun x hx h1=>by
  rw [<- Bool.not_eq_true,UQ];rintro ⟨y,hy,h2⟩;rcases (hmem x).1 hx with rfl | ⟨hx,h3⟩ <;> rcases (hmem y).1 hy with rfl | ⟨hy,_⟩
  ·exact (k3 _ h2).2 rfl
  ·have:=hR.dots _ (wb.2 ⟨y,hy,.inr h2⟩);rw [hc] at this;cases this
  ·exact h3.elim (fun h=>h h1) (fun h=>h h2)
  ·have:=hR.alive x hx h1;rw [<- Bool.not_eq_true,UQ] at this;exact this ⟨y,hy,h2⟩
 have base:∀ {a b:Bool} {p q:List (TDot × TEvent)},Holds p (yp (putL L e)) -> Holds q (yx (putL L e)) -> (a = true -> p = []) -> (b = true -> q = []) ->
   Rep (n + 600) (W ++ C.yF (zy [e])) (C.zW (W ++ C.yF (zy [e]))) (C.zW (W ++ C.yF (zy [e]))) a p b q (putL L e):=fun h1 h2 h3 h4=>
  ⟨rfl,fun k n=>C.yo _ _ _,Zz (by omega) (by omega),h1,h2,h3,h4,hsP,fun x hx=>by
   rcases (hmem x).1 hx with rfl | ⟨hx,_⟩
   ·exact ⟨g,oe⟩
   ·exact hR.good x hx,hdots,halive,hW1,hW2,by
   have h5:=insE_len (L.filter fun x=>!decide (x.kind = 1) || !hasD e.kills x.dot) e (zL hR.srt _);have h6:=List.length_filter_le (fun x:TEvent=>!decide (x.kind = 1) || !hasD e.kills x.dot) L;have:=hR.ll;unfold putL;omega⟩
 have hL1:=Holds.dels e.kills hR.live (zL hR.srt _);have hst1:SrtE ((yp L).filter fun x=>!hasD e.kills x.dot):=zL (zL hR.srt _) _;rcases jT g with hk | hk
 ·have h1:yp (putL L e) = insE ((yp L).filter fun x=>!hasD e.kills x.dot) e:=vp (zL hsP _) (UO hst1 e) fun x=>by
   rw [yj,hmem,UP (fun x hx=>hne x (yj.1 (List.mem_filter.1 hx).1).1),List.mem_filter,yj,Bool.not_eq_true',<- Bool.not_eq_true,XT]
   constructor
   ·rintro ⟨rfl | ⟨h1,h2⟩,h3⟩
    ·exact .inl rfl
    ·exact .inr ⟨⟨h1,h3⟩,h2.resolve_left (fun h=>h h3)⟩
   ·rintro (rfl | ⟨⟨h1,h2⟩,h3⟩)
    ·exact ⟨.inl rfl,hk⟩
    ·exact ⟨.inr ⟨h1,.inr h3⟩,h2⟩
  have h2:yx (putL L e) = yx L:=vp (zL hsP _) (zL hR.srt _) fun x=>by
   rw [xM,hmem,xM]
   constructor
   ·rintro ⟨rfl | ⟨h1,h2⟩,h3⟩
    ·omega
    ·exact ⟨h1,h3⟩
   ·rintro ⟨h1,h2⟩;exact ⟨.inr ⟨h1,.inl (by omega)⟩,h2⟩
  refine ⟨_,_,false,AL.set (e.kills.foldl AL.del m1) e.dot e,nl2,m2,?_,hr,base ?_ ?_ (fun h=>by cases h) hR.n2⟩
  ·unfold zt;rw [E.uS oe,zB,zA,g,Bool.not_true,cond_false,hR.has hn,zB,zA,hc,cond_false,F.Va [e] (by simp) (by omega),zB,zA,hadd,zB,zA,Qh e (by omega),zA,decide_eq_true hk,cond_true];rw [yha (by omega) (fun h=>by rw [hR.n1 h];exact qb _),zB,zA]
   rfl
  ·rw [h1];exact hL1.add hst1 fun x hx=>hne x (yj.1 (List.mem_filter.1 hx).1).1
  ·rw [h2];exact hR.tomb
 ·have h1:yp (putL L e) = (yp L).filter fun x=>!hasD e.kills x.dot:=vp (zL hsP _) hst1 fun x=>by
   rw [yj,hmem,List.mem_filter,yj,Bool.not_eq_true',<- Bool.not_eq_true,XT]
   constructor
   ·rintro ⟨rfl | ⟨h1,h2⟩,h3⟩
    ·omega
    ·exact ⟨⟨h1,h3⟩,h2.resolve_left (fun h=>h h3)⟩
   ·rintro ⟨⟨h1,h2⟩,h3⟩;exact ⟨.inr ⟨h1,.inr h3⟩,h2⟩
  have h2:yx (putL L e) = insE (yx L) e:=vp (zL hsP _) (UO (zL hR.srt _) e) fun x=>by
   rw [xM,hmem,UP (fun x hx=>hne x (xM.1 hx).1),xM]
   constructor
   ·rintro ⟨rfl | ⟨h1,h2⟩,h3⟩
    ·exact .inl rfl
    ·exact .inr ⟨h1,h3⟩
   ·rintro (rfl | ⟨h1,h2⟩)
    ·exact ⟨.inl rfl,hk⟩
    ·exact ⟨.inr ⟨h1,.inl (by omega)⟩,h2⟩
  refine ⟨_,_,nl1,e.kills.foldl AL.del m1,false,AL.set m2 e.dot e,?_,hr,base ?_ ?_ (fun h=>by rw [hR.n1 h];exact qb _) (fun h=>by cases h)⟩
  ·unfold zt;rw [E.uS oe,zB,zA,g,Bool.not_true,cond_false,hR.has hn,zB,zA,hc,cond_false,F.Va [e] (by simp) (by omega),zB,zA,hadd,zB,zA,Qh e (by omega),zA,decide_eq_false (show ¬ e.kind = 1 by omega),cond_false];rw [yha (by omega) hR.n2,zB,zA]
   rfl
  ·rw [h1];exact hL1
  ·rw [h2];exact hR.tomb.add (zL hR.srt _) fun x hx=>hne x (xM.1 hx).1
end

open E (OkE yU SrtE)
open F (hasD yD zy wd)

section
variable {n:Nat} {W c xc:List TPart} {nl1:Bool} {m1:List (TDot × TEvent)} {nl2:Bool} {m2:List (TDot × TEvent)} {L:List TEvent}
theorem UR (L:List TEvent):(yp L).length <= L.length:=List.length_filter_le _ _
theorem qc (L:List TEvent):(yx L).length <= L.length:=List.length_filter_le _ _
theorem Rep.kl (hR:Rep n W c xc nl1 m1 nl2 m2 L):∀ e ∈ L,e.kills.length <= 256:=fun e he=>(JH (hR.good e he).1).1
theorem Rep.Live (hR:Rep n W c xc nl1 m1 nl2 m2 L) (hn:n <= 100000000):zi c nl1 m1 nl2 m2 = pure (yp L):=by
 unfold zi;rw [yga hR.live (zL hR.srt _) (by have:=UR L;have:=hR.ll;omega) (fun e he=>by have:=hR.kl e (yj.1 he).1;omega),zB,zA]
theorem Rep.Tombs (hR:Rep n W c xc nl1 m1 nl2 m2 L) (hn:n <= 100000000):ym c nl1 m1 nl2 m2 = pure (yx L):=by
 unfold ym;rw [yga hR.tomb (zL hR.srt _) (by have:=qc L;have:=hR.ll;omega) (fun e he=>by have:=hR.kl e (xM.1 he).1;omega),zB,zA]
theorem xLa (L:List TEvent) (h:∀ e ∈ L,e.kind = 1 \/ e.kind = 2):(yp L ++ yx L).Perm L:=by
 induction L with
 | nil=>exact List.Perm.refl _
 | cons x r ih=>
  have ih:=ih fun e he=>h e (by simp [he])
  rcases h x (by simp) with h1 | h1
  ·have e1:yp (x :: r) = x :: yp r:=by unfold yp;rw [List.filter_cons,if_pos (by simp [h1])]
   have e2:yx (x :: r) = yx r:=by unfold yx;rw [List.filter_cons,if_neg (by simp [h1])]
   rw [e1,e2];exact ih.cons x
  ·have e1:yp (x :: r) = yp r:=by unfold yp;rw [List.filter_cons,if_neg (by simp [h1])]
   have e2:yx (x :: r) = x :: yx r:=by unfold yx;rw [List.filter_cons,if_pos (by simp [h1])]
   rw [e1,e2];exact List.perm_middle.trans (ih.cons x)
theorem Rep.kinds (hR:Rep n W c xc nl1 m1 nl2 m2 L):∀ e ∈ L,e.kind = 1 \/ e.kind = 2:=fun e he=>jT (hR.good e he).1
theorem Rep.All (hR:Rep n W c xc nl1 m1 nl2 m2 L) (hn:n <= 100000000):yT c nl1 m1 nl2 m2 = pure L:=by
 unfold yT;rw [list2_eq hR.live hR.tomb (xLa L hR.kinds) hR.srt (by have:=hR.ll;omega) (fun e he=>by have:=hR.kl e he;omega),zB,zA]
theorem Rep.Ctx (hR:Rep n W c xc nl1 m1 nl2 m2 L) (hn:n <= 100000000):yG c nl1 m1 nl2 m2 = pure (C.zW W):=by
 unfold yG;rw [C.VW c (hR.okc hn).sm,zB,zA,hR.ctx,C.vC (C.yK W)]
theorem yia (l:List TEvent) (k:Int) (hl:l.length <= 1000000000):WR l k = pure (l.filter fun e=>decide (e.kind = k)):=by
 unfold WR;rw [zpa (body:=Zb l k) l (fun e=>decide (e.kind = k)) (fun t=>pure t) (fun i x t hx hi hI=>by
  have hd:decide ((i:Int) < (l.length:Int)) = true:=by simpa using hi
  unfold Zb;simp only [hd,cond_true,zF hx,zA,zf (show i < 9223372036854775807 by omega)]
  cases decide (x.kind = k) <;> simp only [cond_true,cond_false,zA,if_true,if_false,Bool.false_eq_true]
  rw [zD (by simp;omega)]
  rfl) (fun t=>by unfold Zb;simp [zA]),zA]
theorem Rep.rLive (hR:Rep n W c xc nl1 m1 nl2 m2 L) (hn:n <= 100000000) (y:List TPart):Yv ⟨y,L⟩ = pure (yp L):=by
 unfold Yv;rw [yia L 1 (by have:=hR.ll;omega),zB,zA]
 rfl
theorem Rep.rTombs (hR:Rep n W c xc nl1 m1 nl2 m2 L) (hn:n <= 100000000) (y:List TPart):Wb ⟨y,L⟩ = pure (yx L):=by
 unfold Wb;rw [yia L 2 (by have:=hR.ll;omega),zB,zA]
 rfl
theorem Rep.Is (hR:Rep n W c xc nl1 m1 nl2 m2 L) (hn:n <= 100000000):UE ⟨xc,L⟩ c nl1 m1 nl2 m2 = pure 1:=by
 unfold UE;have hx:C.zW xc = C.zW W:=C.Wy hR.xctx;have hll:=hR.ll;have hk:=hR.kl;have hE:=C.wXa (C.zW W) (C.zW W) ((hR.ctx ▸ hR.okc hn:C.Ok (C.zW W)).sm);have a1:=E.qX (yp L) (yp L) (by have:=UR L;omega) (fun e he=>by have:=hk e (yj.1 he).1;omega);have a2:=E.qX (yx L) (yx L) (by have:=qc L;omega) (fun e he=>by have:=hk e (xM.1 he).1;omega);have a3:=E.qX L L (by omega) (fun e he=>by have:=hk e he;omega);rw [hR.Ctx hn,zB,zA,show (⟨xc,L⟩:R18Book).ctx = xc from rfl,C.XQ xc hR.xok,zB,zA,hx,hE,zB,zA,decide_eq_true rfl,cond_true,hR.Live hn,zB,zA,hR.rLive hn,zB,zA,a1,zB,zA,decide_eq_true rfl,cond_true,
  hR.Tombs hn,zB,zA,hR.rTombs hn,zB,zA,a2,zB,zA,decide_eq_true rfl,cond_true,hR.All hn,zB,zA,show (⟨xc,L⟩:R18Book).l = L from rfl,a3,zB,zA,decide_eq_true rfl]
 rfl
theorem Rep.see (hR:Rep n W c xc nl1 m1 nl2 m2 L) (hn:n <= 100000000) {y:List TPart} (hy:C.Ok y) {k:Nat} (h1:y.length <= k) (h2:C.totC y <= k) (hk:k <= 100000000) :
  ∃ c' xc',xy y c nl1 m1 nl2 m2 = pure c' /\ VJ ⟨xc,L⟩ y = pure ⟨xc',L⟩ /\ Rep (n + k) (W ++ y) c' xc' nl1 m1 nl2 m2 L:=by
 have hc:=hR.okc hn;have hwl:=hR.wl;have hwt:=hR.wt;have hl:=C.uQ W;have ht:=C.uR W;have e1:C.opC (· || ·) xc y = C.zW (W ++ y):=(C.xX rfl _ _).ext (C.yK _) fun k n=>by rw [C.uq rfl,C.yo,C.Zt,hR.xctx]
 refine ⟨C.zW (W ++ y),C.zW (W ++ y),?_,?_,?_⟩
 ·unfold xy;rw [C.wVa c y (C.sm_app (by rw [hR.ctx];omega) (by rw [hR.ctx];omega)),zB,zA,hR.ctx,C.qQ]
 ·unfold VJ;rw [show (⟨xc,L⟩:R18Book).ctx = xc from rfl,C.qO xc y hR.xok hy,zB,zA,e1]
 ·exact ⟨rfl,fun k n=>C.yo _ _ _,Zz (by rw [List.length_append];omega) (by rw [C.XP];omega),hR.live,hR.tomb,hR.n1,hR.n2,hR.srt,hR.good,fun d hd=>by rw [C.Zt,hR.dots d hd];rfl,hR.alive,by rw [List.length_append];omega,by rw [C.XP];omega,by have:=hR.ll;omega⟩
def je (e:TEvent):TEvent:=⟨e.dot,e.kind,e.cid,e.field,e.text,[]⟩
def jU (L:List TEvent) (e:TEvent):List TDot:=zy ((yp L).filter fun x=>if e.kind = 1 then decide (x.cid = e.cid) && decide (x.field = e.field) else decide (x.cid = e.cid))
theorem ofE_eq (l:List TEvent) (cid f:Int) (hl:l.length <= 1000000) (hk:∀ e ∈ l,e.kind = 1 /\ e.kills.length <= 300):XF l cid f = pure (zy (l.filter fun x=>decide (x.cid = cid) && decide (x.field = f))):=by
 unfold XF wg;have hf:=List.length_filter_le (fun x:TEvent=>decide (x.cid = cid) && decide (x.field = f)) l;have hd:=F.wY (l.filter fun x=>decide (x.cid = cid) && decide (x.field = f)) 300 fun e he=>(hk e (List.mem_filter.1 he).1).2
 rw [zpa (body:=yE l cid f) l (fun x=>decide (x.cid = cid) && decide (x.field = f)) (fun t=>pure t) (fun i x t hx hi hI=>by
  have hd:decide ((i:Int) < (l.length:Int)) = true:=by simpa using hi
  unfold yE YA;simp only [hd,cond_true,zF hx,zA,(hk x (List.mem_of_getElem? hx)).1,decide_true,zT,zB,zf (show i < 9223372036854775807 by omega)]
  cases decide (x.cid = cid) <;> cases decide (x.field = f) <;> simp only [cond_true,cond_false,zA,if_true,if_false,Bool.false_eq_true,Bool.and_true,Bool.and_false,Bool.true_and,Bool.false_and]
  rw [zD (by simp;omega)]
  rfl) (fun t=>by unfold yE;simp [zA]),zA,F.Va _ (by omega) (by omega),zB,zA,zB,zA]
theorem ofD_eq (l:List TEvent) (cid:Int) (hl:l.length <= 1000000) (hk:∀ e ∈ l,e.kind = 1 /\ e.kills.length <= 300):uf l cid = pure (zy (l.filter fun x=>decide (x.cid = cid))):=by
 unfold uf xi;have hf:=List.length_filter_le (fun x:TEvent=>decide (x.cid = cid)) l;have hd:=F.wY (l.filter fun x=>decide (x.cid = cid)) 300 fun e he=>(hk e (List.mem_filter.1 he).1).2
 rw [zpa (body:=zr l cid) l (fun x=>decide (x.cid = cid)) (fun t=>pure t) (fun i x t hx hi hI=>by
  have hd:decide ((i:Int) < (l.length:Int)) = true:=by simpa using hi
  unfold zr ue;simp only [hd,cond_true,zF hx,zA,(hk x (List.mem_of_getElem? hx)).1,decide_true,zB,zf (show i < 9223372036854775807 by omega)]
  cases decide (x.cid = cid) <;> simp only [cond_true,cond_false,zA,if_true,if_false,Bool.false_eq_true]
  rw [zD (by simp;omega)]
  rfl) (fun t=>by unfold zr;simp [zA]),zA,F.Va _ (by omega) (by omega),zB,zA,zB,zA]
theorem rofE_eq (l:List TEvent) (cid f:Int) (hl:l.length <= 1000000) (hk:∀ e ∈ l,e.kind = 1 /\ e.kills.length <= 300):Vv l cid f = pure (zy (l.filter fun x=>decide (x.cid = cid) && decide (x.field = f))):=by
 unfold Vv;have hf:=List.length_filter_le (fun x:TEvent=>decide (x.cid = cid) && decide (x.field = f)) l;rw [zpa (body:=Zc l cid f) l (fun x=>decide (x.cid = cid) && decide (x.field = f)) (fun t=>pure t) (fun i x t hx hi hI=>by
  have hd:decide ((i:Int) < (l.length:Int)) = true:=by simpa using hi
  unfold Zc;simp only [hd,cond_true,zF hx,zA,(hk x (List.mem_of_getElem? hx)).1,decide_true,zf (show i < 9223372036854775807 by omega)]
  cases decide (x.cid = cid) <;> cases decide (x.field = f) <;> simp only [cond_true,cond_false,zA,if_true,if_false,Bool.false_eq_true,Bool.and_true,Bool.and_false,Bool.true_and,Bool.false_and]
  rw [zD (by simp;omega)]
  rfl) (fun t=>by unfold Zc;simp [zA]),zA,F.UN _ (by omega) (fun e he=>(hk e (List.mem_filter.1 he).1).2),zB,zA]
theorem rofD_eq (l:List TEvent) (cid:Int) (hl:l.length <= 1000000) (hk:∀ e ∈ l,e.kind = 1 /\ e.kills.length <= 300):Yw l cid = pure (zy (l.filter fun x=>decide (x.cid = cid))):=by
 unfold Yw;have hf:=List.length_filter_le (fun x:TEvent=>decide (x.cid = cid)) l;rw [zpa (body:=vb l cid) l (fun x=>decide (x.cid = cid)) (fun t=>pure t) (fun i x t hx hi hI=>by
  have hd:decide ((i:Int) < (l.length:Int)) = true:=by simpa using hi
  unfold vb;simp only [hd,cond_true,zF hx,zA,(hk x (List.mem_of_getElem? hx)).1,decide_true,zf (show i < 9223372036854775807 by omega)]
  cases decide (x.cid = cid) <;> simp only [cond_true,cond_false,zA,if_true,if_false,Bool.false_eq_true]
  rw [zD (by simp;omega)]
  rfl) (fun t=>by unfold vb;simp [zA]),zA,F.UN _ (by omega) (fun e he=>(hk e (List.mem_filter.1 he).1).2),zB,zA]
def w6a (W:List TPart) (L:List TEvent) (e:TEvent):TEvent × Int:=
 if yU (je e) = false then (⟨⟨0,0⟩,0,0,0,⟨#[]⟩,[]⟩,1) else if C.hasC W e.dot.dev e.dot.n = true then (⟨⟨0,0⟩,0,0,0,⟨#[]⟩,[]⟩,7)
 else if 256 < (jU L e).length then (⟨⟨0,0⟩,0,0,0,⟨#[]⟩,[]⟩,3) else (⟨e.dot,e.kind,e.cid,e.field,e.text,jU L e⟩,0)
theorem zqa {e:TEvent} (h:OkE e):OkE (je e):=⟨h.dot,h.kind,h.cid,h.field,h.text,(fun d hd=>nomatch hd),by simp [je]⟩
theorem Rep.make (hR:Rep n W c xc nl1 m1 nl2 m2 L) (hn:n <= 1000000) {e:TEvent} (oe:OkE e) :
  YB e c nl1 m1 nl2 m2 = pure (w6a W L e) /\ Vw ⟨xc,L⟩ e = pure (w6a W L e):=by
 have hll:=UR L;have hL:=hR.ll;have hk:∀ x ∈ yp L,x.kind = 1 /\ x.kills.length <= 300:=fun x hx=>⟨(yj.1 hx).2,by have:=hR.kl x (yj.1 hx).1;omega⟩
 have h1:=E.uS (zqa oe);have h2:=E.vG (zqa oe);have h3:=hR.has (by omega) e.dot;have h4:=hR.rhas e.dot;have a1:=ofE_eq (yp L) e.cid e.field (by omega) hk;have a2:=ofD_eq (yp L) e.cid (by omega) hk;have a3:=rofE_eq (yp L) e.cid e.field (by omega) hk;have a4:=rofD_eq (yp L) e.cid (by omega) hk;unfold w6a
 constructor
 ·unfold YB;rw [show (⟨e.dot,e.kind,e.cid,e.field,e.text,([]:List TDot)⟩:TEvent) = je e from rfl,h1,zB,zA]
  cases yU (je e) with
  | false=>rfl
  | true=>
   rw [Bool.not_true,cond_false,h3,zB,zA]
   cases C.hasC W e.dot.dev e.dot.n with
   | true=>rfl
   | false=>
    rw [cond_false,if_neg (by simp),if_neg (by simp)];have hq:(cond (decide (e.kind = 1))
      (M.bind (M.det (zi c nl1 m1 nl2 m2)) fun y15=>M.bind (M.det (XF y15 e.cid e.field)) fun v17=>M.pure (Ex.brk v17))
      (M.bind (M.det (zi c nl1 m1 nl2 m2)) fun y19=>M.bind (M.det (uf y19 e.cid)) fun v21=>M.pure (Ex.brk v21)):M (Ex (List TDot) (TEvent × Int))) = pure (Ex.brk (jU L e)):=by
     rw [hR.Live (by omega),zB,zA,zA,a1,a2,zB,zB,zA,zA,WL];unfold jU
     by_cases h:e.kind = 1 <;> simp [h]
    rw [hq,zA,ul,yR]
    by_cases h:256 < (jU L e).length
    ·rw [if_pos h,if_pos (by omega)]
    ·rw [if_neg h,if_neg (by omega)]
 ·unfold Vw;rw [show (⟨e.dot,e.kind,e.cid,e.field,e.text,([]:List TDot)⟩:TEvent) = je e from rfl,h2,zB,zA]
  cases yU (je e) with
  | false=>rfl
  | true=>
   rw [Bool.not_true,cond_false,show (⟨xc,L⟩:R18Book).ctx = xc from rfl,h4,zB,zA]
   cases C.hasC W e.dot.dev e.dot.n with
   | true=>rfl
   | false=>
    rw [cond_false,if_neg (by simp),if_neg (by simp),hR.rLive (by omega),zB,zA,a4,zB,zA];simp only [zA,a3,zB];rw [WL,zA];have hq:(cond (decide (e.kind = 1)) (zy ((yp L).filter fun x=>decide (x.cid = e.cid) && decide (x.field = e.field))) (zy ((yp L).filter fun x=>decide (x.cid = e.cid)))) = jU L e:=by
     unfold jU
     by_cases h:e.kind = 1 <;> simp [h]
    rw [hq,yR]
    by_cases h:256 < (jU L e).length
    ·rw [if_pos h,if_pos (by omega)]
    ·rw [if_neg h,if_neg (by omega)]
end

open E (OkE yU SrtE)
open F (hasD yD zy wd)

theorem yja {l:List TEvent}:SrtE l ↔ D.Srt (l.map (·.dot)):=by
 unfold SrtE D.Srt;rw [List.pairwise_map]
theorem YZ {l l':List TEvent} (h:SrtE l) (e:l'.map (·.dot) = l.map (·.dot)):SrtE l':=by rw [yja,e,<- yja];exact h
def yV (y:List TPart) (x:TEvent):TEvent:=if C.hasC y x.dot.dev x.dot.n = true then je x else x
theorem Ya (y:List TPart) (x:TEvent):(yV y x).dot = x.dot:=by unfold yV;split <;> rfl
theorem XU (y:List TPart) (x:TEvent):(yV y x).kind = x.kind:=by unfold yV;split <;> rfl
theorem jV (y:List TPart) (x:TEvent):∀ d ∈ (yV y x).kills,d ∈ x.kills:=by
 unfold yV
 split
 ·intro d hd;cases hd
 ·intro d hd;exact hd
theorem xMa {y:List TPart} {x:TEvent} (h:yU x = true /\ OkE x):yU (yV y x) = true /\ OkE (yV y x):=by
 unfold yV
 split
 ·refine ⟨?_,zqa h.2⟩;have:=h.1;simp only [yU,Bool.and_eq_true] at this ⊢;exact ⟨this.1,this.2.1,rfl⟩
 ·exact h
theorem vH (y:List TPart) (l:List TEvent):(l.map (yV y)).map (·.dot) = l.map (·.dot):=by
 rw [List.map_map];exact List.map_congr_left fun x _=>Ya y x
theorem Strip_eq (x:TEvent) {y:List TPart} (hy:C.Ok y) (hk:x.kills.length <= 1000000000):Xr x y = pure (yV y x):=by
 unfold Xr;rw [qY x (by omega),zB,zA,C.Vj y x.dot hy.sm,zB,zA,WL,zA];unfold yV je
 cases C.hasC y x.dot.dev x.dot.n <;> rfl
theorem w7a (x:TEvent) {y:List TPart} (hy:C.Ok y):WS x y = pure (yV y x):=by
 unfold WS;rw [C.ur y x.dot hy,zB,zA,WL,zA];unfold yV je
 cases C.hasC y x.dot.dev x.dot.n <;> rfl
def yX (y:List TPart) (x:TEvent):Bool:=C.hasC y x.dot.dev x.dot.n
def ZO (y:List TPart) (L:List TEvent):List TEvent:=(L.filter fun x=>decide (x.kind = 1) || !yX y x).map (yV y)
theorem yka {m:List (TDot × TEvent)} {A B:List TEvent} {x x':TEvent} (h:Holds m (A ++ x :: B)) (hs:SrtE (A ++ x :: B)) (hd:x'.dot = x.dot):Holds (AL.set m x.dot x') (A ++ x' :: B):=by
 have hs':SrtE (A ++ x' :: B):=YZ hs (by simp [hd]);refine qa (AL.nodup_set (h.keys hs) _ _) hs' fun k=>?_
 rw [w3a (h.keys hs),h.mem];have hne:∀ z,z ∈ A \/ z ∈ B -> z.dot ≠ x.dot:=fun z hz e=>by
  have hz':z ∈ A ++ x :: B:=by rw [List.mem_append,List.mem_cons];exact hz.imp (fun h=>h) .inr
  have e2:=srtE_one hs hz' (by simp) e;subst e2;have h2:=VB hs;rw [List.map_append,List.map_cons,List.nodup_append,List.nodup_cons] at h2;rcases hz with hz | hz
  ·exact h2.2.2 _ (List.mem_map.2 ⟨z,hz,rfl⟩) _ (by simp) rfl
  ·exact h2.2.1.1 (List.mem_map.2 ⟨z,hz,rfl⟩)
 simp only [List.mem_append,List.mem_cons]
 constructor
 ·rintro (⟨⟨h1,h2⟩,h3⟩ | h1)
  ·refine ⟨?_,h2⟩;rcases h1 with h1 | h1 | h1
   ·exact .inl h1
   ·exact absurd (by rw [h2,h1]) h3
   ·exact .inr (.inr h1)
  ·rw [h1];exact ⟨.inr (.inl rfl),hd.symm⟩
 ·rintro ⟨h1 | h1 | h1,h2⟩
  ·exact .inl ⟨⟨.inl h1,h2⟩,by rw [h2];exact hne _ (.inl h1)⟩
  ·refine .inr ?_;obtain ⟨k1,k2⟩:=k;simp only at h1 h2;rw [h2,h1,hd]
  ·exact .inl ⟨⟨.inr (.inr h1),h2⟩,by rw [h2];exact hne _ (.inr h1)⟩
theorem has_of {m:List (TDot × TEvent)} {l:List TEvent} (h:Holds m l) (hs:SrtE l) {x:TEvent} (hx:x ∈ l):AL.has m x.dot = true:=by
 unfold AL.has;have:=AL.mem_get (h.keys hs) ((Holds.mem h (k:=(x.dot,x))).2 ⟨hx,rfl⟩);rw [this];rfl
theorem xNa {y:List TPart} (hy:C.Ok y) (l:List TEvent) (hl:l.length <= 1000000000) (hk:∀ e ∈ l,e.kills.length <= 300) (hs:SrtE l) {nl:Bool} {m:List (TDot × TEvent)} (h:Holds m l) :
  ∃ m',YO l y nl m = pure (nl,m') /\ Holds m' (l.map (yV y)) /\ (m = [] -> m' = []):=by
 have h1:=uL (body:=xx l y nl) l (fun i (t:List (TDot × TEvent))=>((i:Int),t)) (fun t x=>AL.set t x.dot (yV y x)) (fun t=>pure (nl,t))
  (fun i t=>Holds t ((l.take i).map (yV y) ++ l.drop i)) (fun i x t hx hi hI=>by
   have hd:decide ((i:Int) < (l.length:Int)) = true:=by simpa using hi
   have hdr:l.drop i = x :: l.drop (i + 1):=by
    rw [List.drop_eq_getElem_cons hi]
    congr 1
    rw [List.getElem?_eq_getElem hi] at hx;exact Option.some.inj hx
   have htk:l.take (i + 1) = l.take i ++ [x]:=by rw [List.take_add_one,hx];rfl
   have hss:SrtE ((l.take i).map (yV y) ++ x :: l.drop (i + 1)):=by
    rw [<- hdr];refine YZ hs ?_;rw [List.map_append,vH,<- List.map_append,List.take_append_drop]
   rw [hdr] at hI;refine ⟨?_,?_⟩
   ·unfold xx;have hh:=has_of hI hss (x:=x) (by simp);simp only [hd,cond_true,zF hx,zA,hh,Strip_eq x hy (by have:=hk x (List.mem_of_getElem? hx);omega),zB,zf (show i < 9223372036854775807 by omega)];rw [zD trivial,zA]
   ·rw [htk,List.map_append,List.append_assoc];exact yka hI hss (Ya y x)) (fun t _=>by
   unfold xx;simp [zA]) m (by simpa using h)
 have hinv:∀ (k i:Nat) (t:List (TDot × TEvent)),i + k = l.length -> Holds t ((l.take i).map (yV y) ++ l.drop i) -> Holds ((l.drop i).foldl (fun t x=>AL.set t x.dot (yV y x)) t) (l.map (yV y)):=by
  intro k
  induction k with
  | zero=>
   intro i t hi ht;have:i = l.length:=by omega
   subst this;rw [List.drop_length,List.take_length,List.append_nil] at ht;rw [List.drop_length];exact ht
  | succ k ih=>
   intro i t hi ht;have hlt:i < l.length:=by omega
   have hdr:=List.drop_eq_getElem_cons hlt;have htk:l.take (i + 1) = l.take i ++ [l[i]]:=by rw [List.take_add_one,List.getElem?_eq_getElem hlt];rfl
   have hss:SrtE ((l.take i).map (yV y) ++ l[i] :: l.drop (i + 1)):=by
    rw [<- hdr];refine YZ hs ?_;rw [List.map_append,vH,<- List.map_append,List.take_append_drop]
   rw [hdr,List.foldl_cons];refine ih (i + 1) _ (by omega) ?_;rw [htk,List.map_append,List.append_assoc];rw [hdr] at ht;exact yka ht hss (Ya y _)
 refine ⟨l.foldl (fun (t:List (TDot × TEvent)) (x:TEvent)=>AL.set t x.dot (yV y x)) m,by unfold YO;exact h1,by simpa using hinv l.length 0 m (by omega) (by simpa using h),fun hm=>?_⟩;subst hm;have:l = []:=by
  have:=h.len;simpa using this.symm
 rw [this];rfl
section
variable {n:Nat} {W c xc:List TPart} {nl1:Bool} {m1:List (TDot × TEvent)} {nl2:Bool} {m2:List (TDot × TEvent)} {L:List TEvent}
theorem Rep.Live' (hR:Rep n W c xc nl1 m1 nl2 m2 L) (hn:n <= 100000000) (c':List TPart) (b:Bool) (m':List (TDot × TEvent)):zi c' nl1 m1 b m' = pure (yp L):=hR.Live hn
theorem w8a {y:List TPart} (hy:C.Ok y) (T:List TEvent) (hl:T.length <= 1000000000) (m:List (TDot × TEvent)) :
  loop (yM T y) (0,0,m) = pure (((T.filter (yX y)).length:Int),((T.filter (yX y)).map (·.dot)).foldl AL.del m):=by
 have h1:=uL (body:=yM T y) T (fun i (t:List TEvent × List (TDot × TEvent))=>((t.1.length:Int),(i:Int),t.2)) (fun t x=>if yX y x = true then (t.1 ++ [x],AL.del t.2 x.dot) else t) (fun t=>pure ((t.1.length:Int),t.2))
  (fun i t=>t.1.length <= i) (fun i x t hx hi hI=>by
   have hd:decide ((i:Int) < (T.length:Int)) = true:=by simpa using hi
   refine ⟨?_,?_⟩
   ·unfold yM;have hh:vR y x.dot = pure (yX y x):=C.Vj y x.dot hy.sm;simp only [hd,cond_true,zF hx,zA,hh,zB,zf (show i < 9223372036854775807 by omega)]
    cases yX y x with
    | true=>
     simp only [cond_true,if_true,zA];rw [zf (by omega)];simp
    | false=>simp [zA]
   ·split
    ·simp only [List.length_append,List.length_singleton];omega
    ·omega) (fun t _=>by
   unfold yM;simp [zA]) ([],m) (Nat.le_refl _)
 have hf:∀ (q:List TEvent) (t:List TEvent × List (TDot × TEvent)),q.foldl (fun t x=>if yX y x = true then (t.1 ++ [x],AL.del t.2 x.dot) else t) t = (t.1 ++ q.filter (yX y),((q.filter (yX y)).map (·.dot)).foldl AL.del t.2):=by
  intro q
  induction q with
  | nil=>intro t;simp
  | cons x r ih=>
   intro t;rw [List.foldl_cons,ih,List.filter_cons]
   split <;> simp_all
 rw [hf] at h1;exact h1
theorem zra {y:List TPart} (hy:C.Ok y) (xc:List TPart) (L:List TEvent) (hl:L.length <= 1000000000):loop (vL ⟨xc,L⟩ y) (0,[]) = pure (ZO y L):=by
 have h1:=uL (body:=vL ⟨xc,L⟩ y) L (fun i (t:List TEvent)=>((i:Int),t)) (fun t x=>if (decide (x.kind = 1) || !yX y x) = true then t ++ [yV y x] else t) (fun t=>pure t)
  (fun i t=>t.length <= i) (fun i x t hx hi hI=>by
   have hd:decide ((i:Int) < (L.length:Int)) = true:=by simpa using hi
   refine ⟨?_,by split <;> (try rw [List.length_append,List.length_singleton]) <;> omega⟩;unfold vL;have hh:wi y x.dot = pure (yX y x):=C.ur y x.dot hy;simp only [hd,cond_true,zF hx,zA,hh,zB,w7a x hy,zf (show i < 9223372036854775807 by omega)]
   cases decide (x.kind = 1) <;> cases yX y x <;> simp only [Bool.not_true,Bool.not_false,cond_true,cond_false,zA,Bool.or_true,Bool.or_false,Bool.true_or,Bool.false_or,if_true,if_false,Bool.false_eq_true]
   all_goals (try rw [zD (by simp;omega)])
   all_goals rfl) (fun t _=>by unfold vL;simp [zA]) [] (Nat.le_refl _)
 have hf:∀ (q t:List TEvent),q.foldl (fun t x=>if (decide (x.kind = 1) || !yX y x) = true then t ++ [yV y x] else t) t = t ++ (q.filter fun x=>decide (x.kind = 1) || !yX y x).map (yV y):=by
  intro q
  induction q with
  | nil=>intro t;simp
  | cons x r ih=>intro t;rw [List.foldl_cons,ih,List.filter_cons];split <;> simp
 rw [hf,List.nil_append] at h1;exact h1
theorem Rep.prune (hR:Rep n W c xc nl1 m1 nl2 m2 L) (hn:n <= 100000000) {y:List TPart} (hy:C.Ok y) :
  ∃ k nl1' m1' nl2' m2',ZF y c nl1 m1 nl2 m2 = pure (k,nl1',m1',nl2',m2') /\ WT ⟨xc,L⟩ y = pure (⟨xc,ZO y L⟩,k) /\ Rep n W c xc nl1' m1' nl2' m2' (ZO y L) /\ k = ((yx L).filter (yX y)).length:=by
 have hll:=hR.ll;have hl1:=UR L;have ht1:=qc L;obtain ⟨m1',h1,h2,h3⟩:=xNa (nl:=nl1) hy (yp L) (by omega) (fun e he=>by have:=hR.kl e (yj.1 he).1;omega) (zL hR.srt _) hR.live;have hdel:=Holds.dels ((yx L).filter (yX y) |>.map (·.dot)) hR.tomb (zL hR.srt _);have hP:∀ x ∈ L,(decide (x.kind = 1) || !yX y x) = true ↔ (x.kind = 1 \/ yX y x = false):=fun x _=>by simp
 have hsP:SrtE (ZO y L):=YZ (zL hR.srt (fun x=>decide (x.kind = 1) || !yX y x)) (vH y _);have mem_p:∀ z,z ∈ ZO y L ↔ ∃ x ∈ L,(x.kind = 1 \/ yX y x = false) /\ yV y x = z:=fun z=>by
  unfold ZO;rw [List.mem_map]
  constructor
  ·rintro ⟨x,hx,e⟩;rw [List.mem_filter] at hx;exact ⟨x,hx.1,(hP x hx.1).1 hx.2,e⟩
  ·rintro ⟨x,hx,hp,e⟩;exact ⟨x,List.mem_filter.2 ⟨hx,(hP x hx).2 hp⟩,e⟩
 have hlive:yp (ZO y L) = (yp L).map (yV y):=by
  refine vp (zL hsP _) (YZ (zL hR.srt _) (vH y _)) fun z=>?_
  rw [yj,mem_p,List.mem_map]
  constructor
  ·rintro ⟨⟨x,hx,hp,rfl⟩,hz⟩;exact ⟨x,yj.2 ⟨hx,by rw [<- XU y x];exact hz⟩,rfl⟩
  ·rintro ⟨x,hx,rfl⟩;obtain ⟨h4,h5⟩:=yj.1 hx;exact ⟨⟨x,h4,.inl h5,rfl⟩,by rw [XU];exact h5⟩
 have htomb:yx (ZO y L) = (yx L).filter fun e=>!hasD ((yx L).filter (yX y) |>.map (·.dot)) e.dot:=by
  refine vp (zL hsP _) (zL (zL hR.srt _) _) fun z=>?_
  rw [xM,mem_p,List.mem_filter,xM,Bool.not_eq_true',<- Bool.not_eq_true,XT];have hsn:∀ x:TEvent,yX y x = false -> yV y x = x:=fun x h=>by
   unfold yV;rw [if_neg];show ¬ yX y x = true;rw [h];simp
  constructor
  ·rintro ⟨⟨x,hx,hp,rfl⟩,hz⟩;rw [XU] at hz;have hs:yX y x = false:=hp.resolve_left (by omega);rw [hsn x hs];refine ⟨⟨hx,hz⟩,fun h=>?_⟩;obtain ⟨w,hw,e⟩:=List.mem_map.1 h;have h4:=(List.mem_filter.1 hw).2;unfold yX at h4 hs;rw [e,hs] at h4;cases h4
  ·rintro ⟨⟨hx,hz⟩,h⟩;have hs:yX y z = false:=by
    cases h4:yX y z with
    | false=>rfl
    | true=>exact absurd (List.mem_map.2 ⟨z,List.mem_filter.2 ⟨xM.2 ⟨hx,hz⟩,h4⟩,rfl⟩) h
   exact ⟨⟨z,hx,.inr hs,hsn z hs⟩,hz⟩
 have hlen:(L.length:Int) - ((ZO y L).length:Int) = ((yx L).filter (yX y)).length:=by
  have e1:(ZO y L).length = (L.filter fun x=>decide (x.kind = 1) || !yX y x).length:=by unfold ZO;rw [List.length_map]
  have e2:(yx L).filter (yX y) = L.filter fun x=>!(decide (x.kind = 1) || !yX y x):=by
   unfold yx;rw [List.filter_filter];refine List.filter_congr fun x hx=>?_
   rcases hR.kinds x hx with h | h <;> simp [h]
  have e3:∀ (q:List TEvent) (p:TEvent -> Bool),q.length = (q.filter p).length + (q.filter fun x=>!p x).length:=by
   intro q p
   induction q with
   | nil=>rfl
   | cons x r ih=>rw [List.filter_cons,List.filter_cons];cases p x <;> simp <;> omega
  have:=e3 L fun x=>decide (x.kind = 1) || !yX y x
  rw [e1,e2];omega
 have hle:(ZO y L).length <= L.length:=by unfold ZO;rw [List.length_map];exact List.length_filter_le _ _
 refine ⟨_,nl1,m1',nl2,((yx L).filter (yX y) |>.map (·.dot)).foldl AL.del m2,?_,?_,?_,rfl⟩
 ·unfold ZF;rw [hR.Tombs hn,zB,zA,w8a hy (yx L) (by omega),zA];simp only [];rw [hR.Live' hn,zB,zA,h1,zB,zA]
 ·unfold WT;rw [zra hy xc L (by omega),zA];simp only [];rw [wI64 (by omega) (by omega),hlen]
 ·refine ⟨hR.ctx,hR.xctx,hR.xok,by rw [hlive];exact h2,by rw [htomb];exact hdel,fun h=>h3 (hR.n1 h),fun h=>by rw [hR.n2 h];exact qb _,hsP,fun z hz=>?_,fun d hd=>?_,fun z hz hk=>?_,hR.wl,hR.wt,by omega⟩
  ·obtain ⟨x,hx,_,rfl⟩:=(mem_p z).1 hz;exact xMa (hR.good x hx)
  ·obtain ⟨z,hz,h⟩:=wb.1 hd;obtain ⟨x,hx,_,rfl⟩:=(mem_p z).1 hz;refine hR.dots d (wb.2 ⟨x,hx,?_⟩);rw [Ya] at h;exact h.imp (fun h=>h) (jV y x d)
  ·obtain ⟨x,hx,_,rfl⟩:=(mem_p z).1 hz;rw [XU] at hk;rw [Ya,<- Bool.not_eq_true,UQ];rintro ⟨w,hw,h⟩;obtain ⟨v,hv,_,rfl⟩:=(mem_p w).1 hw;have:=hR.alive x hx hk;rw [<- Bool.not_eq_true,UQ] at this;exact this ⟨v,hv,jV y v _ h⟩
theorem Rep.Same (hR:Rep n W c xc nl1 m1 nl2 m2 L) (hn:n <= 100000000) {n':Nat} {W' c' xc':List TPart} {a b:Bool} {p q:List (TDot × TEvent)} {L':List TEvent} (hR':Rep n' W' c' xc' a p b q L') (hn':n' <= 100000000) :
  Zi c c' nl1 m1 nl2 m2 a p b q = pure (decide (C.zW W = C.zW W') && decide (L = L')):=by
 unfold Zi;have o1:C.Ok (C.zW W):=hR.ctx ▸ hR.okc hn;have o2:C.Ok (C.zW W'):=hR'.ctx ▸ hR'.okc hn';have hA:=F.wya L L' (by have:=hR.ll;omega) (fun e he=>by have:=hR.kl e he;omega);rw [hR.Ctx hn,zB,zA,hR'.Ctx hn',zB,zA,C.zha _ _ o1.sm o2.sm,zB,zA,C.vC (C.yK W),C.vC (C.yK W'),hR.All hn,zB,zA,hR'.All hn',zB,zA,hA,zB,zA,zT,zA]
end

open E (OkE yU SrtE)
open F (hasD yD zy wd)

theorem delF {body:Int × Int × List TEvent -> M (Step (Int × Int × List TEvent) (Int × List TEvent))} (p:TEvent -> Bool) (l:List TEvent) (hl:l.length <= 1000000000)
  (hb1:∀ (i j:Nat) (v:List TEvent) (x:TEvent),v[j]? = some x -> j < v.length -> i < j -> v.length <= 1000000000 -> body ((i:Int),(j:Int),v) = pure (.next (if p x = true then ((i:Int),((j + 1:Nat):Int),v) else (((i + 1:Nat):Int),((j + 1:Nat):Int),v.set i x))))
  (hb2:∀ (i:Int) (v:List TEvent),body (i,(v.length:Int),v) = pure (.done (i,v))) :
  ∀ (k i j:Nat) (v:List TEvent),j + k = l.length -> v.length = l.length -> i < j -> i = ((l.take j).filter fun x=>!p x).length -> v.take i = (l.take j).filter (fun x=>!p x) -> v.drop j = l.drop j ->
   ∃ v',loop body ((i:Int),(j:Int),v) = pure (((l.filter fun x=>!p x).length:Int),v') /\ v'.length = l.length /\ v'.take (l.filter fun x=>!p x).length = l.filter fun x=>!p x:=by
 intro k
 induction k with
 | zero=>
  intro i j v hj hv hij hi ht hd;have e:j = v.length:=by omega
  subst e;rw [zh (hb2 _ _)];rw [hv,List.take_length] at hi ht;exact ⟨v,by rw [hi],hv,by rw [<- hi];exact ht⟩
 | succ k ih=>
  intro i j v hj hv hij hi ht hd;have hlt:j < v.length:=by omega
  have hx:=List.getElem?_eq_getElem hlt;have hlx:l[j]? = some v[j]:=by
   have:=congrArg (fun q:List TEvent=>q[0]?) hd;simp only [List.getElem?_drop,Nat.add_zero] at this;rw [<- this];exact hx
  have htk:l.take (j + 1) = l.take j ++ [v[j]]:=by rw [List.take_add_one,hlx];rfl
  rw [zg (hb1 i j v _ hx hlt hij (by omega))];have hd1:v.drop (j + 1) = l.drop (j + 1):=by
   have:=congrArg (fun q:List TEvent=>q.drop 1) hd;simpa [List.drop_drop,Nat.add_comm] using this
  by_cases c:p v[j] = true
  ·rw [if_pos c];refine ih i (j + 1) v (by omega) hv (by omega) ?_ ?_ hd1
   ·rw [htk,List.filter_append,List.filter_cons,if_neg (by simp [c])];simpa using hi
   ·rw [htk,List.filter_append,List.filter_cons,if_neg (by simp [c])];simpa using ht
  ·rw [if_neg c];have hf:(l.take (j + 1)).filter (fun x=>!p x) = (l.take j).filter (fun x=>!p x) ++ [v[j]]:=by
    rw [htk,List.filter_append,List.filter_cons,if_pos (by simp [c])];rfl
   refine ih (i + 1) (j + 1) (v.set i v[j]) (by omega) (by rw [List.length_set];exact hv) (by omega) ?_ ?_ ?_
   ·rw [hf,List.length_append,List.length_singleton,<- hi]
   ·have hls:i < (v.set i v[j]).length:=by rw [List.length_set];omega
    rw [hf,List.take_add_one,List.take_set,List.getElem?_set_self (by omega),ht];have:((l.take j).filter fun x=>!p x).set i v[j] = (l.take j).filter fun x=>!p x:=List.set_eq_of_length_le (by omega)
    rw [this];rfl
   ·rw [List.drop_set,if_pos (by omega)];exact hd1
theorem xOa (l:List TEvent) (p:TEvent -> Bool):∀ b:Nat,match (l.zipIdx b).find? (fun y=>p y.1) with
  | some y=>b <= y.2 /\ y.2 - b < l.length /\ (l.take (y.2 - b)).all (fun x=>!p x) = true /\ ∃ x,l[y.2 - b]? = some x /\ p x = true
  | none=>l.filter (fun x=>!p x) = l:=by
 induction l with
 | nil=>intro b;simp
 | cons x r ih=>
  intro b;rw [List.zipIdx_cons,List.find?_cons]
  cases hp:p x with
  | true=>simp [hp]
  | false=>
   simp only [];have h:=ih (b + 1)
   revert h
   cases (r.zipIdx (b + 1)).find? (fun y=>p y.1) with
   | none=>intro h;rw [List.filter_cons,if_pos (by simp [hp]),h]
   | some y=>
    rintro ⟨h1,h2,h3,z,h4,h5⟩;have e:y.2 - b = (y.2 - (b + 1)) + 1:=by omega
    refine ⟨by omega,by simp;omega,?_,z,?_,h5⟩
    ·rw [e,List.take_succ_cons,List.all_cons,hp];exact h3
    ·rw [e,List.getElem?_cons_succ];exact h4
theorem xPa {l:List TEvent} {p:TEvent -> Bool} (h:l.all (fun x=>!p x) = true):l.filter (fun x=>!p x) = l:=List.filter_eq_self.2 fun x hx=>List.all_eq_true.1 h x hx
theorem xQa (p:TEvent -> Bool) (l:List TEvent) (hl:l.length <= 1000000000) (ask:M Int) (body:Int × Int × List TEvent -> M (Step (Int × Int × List TEvent) (Int × List TEvent))) (z:TEvent)
  (hask:ask = match l.zipIdx.find? (fun y=>p y.1) with | some y=>pure (y.2:Int) | none=>pure (-1))
  (hb1:∀ (i j:Nat) (v:List TEvent) (x:TEvent),v[j]? = some x -> j < v.length -> i < j -> v.length <= 1000000000 -> body ((i:Int),(j:Int),v) = pure (.next (if p x = true then ((i:Int),((j + 1:Nat):Int),v) else (((i + 1:Nat):Int),((j + 1:Nat):Int),v.set i x))))
  (hb2:∀ (i:Int) (v:List TEvent),body (i,(v.length:Int),v) = pure (.done (i,v))) :
  (M.bind (M.det ask) fun v3=>cond (decide (v3 = (-1))) (M.pure l) (M.bind (M.loop body (v3,(IntKind.i64.wrap (v3 + 1)),l)) (fun ⟨i6,v7⟩=>
   M.need ((0:Int) <= i6 /\ i6 <= (List.length v7:Int))<|M.need ((Int.toNat i6) + (List.length v7 - Int.toNat i6) <= List.length v7) <|
   M.need ((0:Int) <= 0 /\ (0:Int) <= i6 /\ i6 <= (List.length ((List.take (Int.toNat i6) v7 ++ List.replicate (List.length v7 - Int.toNat i6) z ++ List.drop ((Int.toNat i6) + (List.length v7 - Int.toNat i6)) v7)):Int)) <|
   M.pure ((List.take (Int.toNat i6) ((List.take (Int.toNat i6) v7 ++ List.replicate (List.length v7 - Int.toNat i6) z ++ List.drop ((Int.toNat i6) + (List.length v7 - Int.toNat i6)) v7)))))):M (List TEvent)) = pure (l.filter fun x=>!p x):=by
 have hf:=xOa l p 0
 revert hf
 rw [hask]
 cases l.zipIdx.find? (fun y=>p y.1) with
 | none=>intro hf;rw [hf];simp [zB,zA]
 | some y=>
  rintro ⟨h1,h2,h3,x,h4,h5⟩;simp only [Nat.sub_zero] at h2 h3 h4;have hne:decide ((y.2:Int) = -1) = false:=decide_eq_false (by omega);have hall:=xPa h3;have hlen:(l.take y.2).length = y.2:=by rw [List.length_take];omega
  have htk:l.take (y.2 + 1) = l.take y.2 ++ [x]:=by rw [List.take_add_one,h4];rfl
  have hft:(l.take (y.2 + 1)).filter (fun x=>!p x) = l.take y.2:=by rw [htk,List.filter_append,hall,List.filter_cons,if_neg (by simp [h5])];simp
  obtain ⟨v',e1,e2,e3⟩:=delF (body:=body) p l hl hb1 hb2 (l.length - (y.2 + 1)) y.2 (y.2 + 1) l (by omega) rfl (by omega) (by rw [hft,hlen]) (by rw [hft]) rfl;have hle:=List.length_filter_le (fun x=>!p x) l;simp only [zB,zA,hne,cond_false,zf (show y.2 < 9223372036854775807 by omega),e1,Int.toNat_natCast];rw [zD (by omega),zD (by omega),zD (by simp;omega)];rw [List.append_assoc,List.take_append_of_le_length (by rw [List.length_take];omega),List.take_take,Nat.min_self,e3]
section
variable {n:Nat} {W c xc:List TPart} {nl1:Bool} {m1:List (TDot × TEvent)} {nl2:Bool} {m2:List (TDot × TEvent)} {L:List TEvent}
theorem w9a (hR:Rep n W c xc nl1 m1 nl2 m2 L) {e:TEvent} (oe:OkE e):OkE (w6a W L e).1:=by
 have hz:OkE ⟨⟨0,0⟩,0,0,0,⟨#[]⟩,[]⟩:=⟨⟨by decide,by decide,by decide,by decide⟩,by decide,by decide,by decide,by decide,(fun d hd=>nomatch hd),by decide⟩
 unfold w6a
 split
 ·exact hz
 ·split
  ·exact hz
  ·split
   ·exact hz
   ·rename_i h
    refine ⟨oe.dot,oe.kind,oe.cid,oe.field,oe.text,fun d hd=>?_,by show (jU L e).length <= _;omega⟩;have hd':d ∈ jU L e:=hd;unfold jU at hd';obtain ⟨x,hx,h2⟩:=wb.1 (D.Zw.1 hd');have hxL:=(yj.1 (List.mem_filter.1 hx).1).1;rcases h2 with rfl | h2
    ·exact (hR.good x hxL).2.dot
    ·exact (hR.good x hxL).2.kills d h2
end
structure InA (a:L18Act):Prop where
 ev:a.event.kills.length <= 300 /\ a.event.text.size <= 200 -> OkE a.event
 dev:∀ p ∈ a.ctx,0 <= p.dev
def Qi (a:L18Act):Bool:=E.fewE [a.event] 1 && (decide (a.ctx.length <= 30) && a.ctx.all fun p=>decide (p.runs.length <= 30))
def fewA (l:List L18Act) (most:Nat):Bool:=decide (l.length <= most) && l.all Qi
theorem rFewA_eq (l:List L18Act) (most:Nat) (hm:most <= 1000000):JW l (most:Int) = pure (if fewA l most = true then 1 else 0):=by
 unfold JW fewA
 by_cases h:l.length <= most
 ·have hd:decide ((most:Int) < (l.length:Int)) = false:=by simp;omega
  have:=yr (body:=Yi l) l (fun i=>(i:Int)) (fun _ x=>Qi x) (Ex.brk ()) (Ex.ret (0:Int)) (fun i x hx hi=>by
   have hd:decide ((i:Int) < (l.length:Int)) = true:=by simpa using hi
   unfold Yi;have h1:=E.WC [x.event] 1 (by decide);have h1':Xl [x.event] 1 = pure (E.fewE [x.event] 1):=h1;simp only [hd,cond_true,zF hx,zA,h1',zB,C.WC,zf (show i < 9223372036854775807 by omega)];unfold Qi
   cases E.fewE [x.event] 1 with
   | false=>rfl
   | true=>
    simp only [Bool.not_true,cond_false,zA,Bool.true_and]
    cases (decide (x.ctx.length <= 30) && x.ctx.all fun p=>decide (p.runs.length <= 30)) <;> rfl) (by
   unfold Yi;simp [zA])
  rw [hd,cond_false,show (0:Int) = ((0:Nat):Int) from rfl,this,zA,decide_eq_true h,Bool.true_and];have hz:(l.zipIdx.all fun y=>Qi y.1) = l.all Qi:=E.Zx l Qi;rw [hz]
  cases l.all Qi <;> rfl
 ·have hd:decide ((most:Int) < (l.length:Int)) = true:=by simp;omega
  rw [hd,cond_true,decide_eq_false h,Bool.false_and]
  rfl
theorem fewA_mem {l:List L18Act} {most:Nat} (h:fewA l most = true) (hi:∀ a ∈ l,InA a):l.length <= most /\ ∀ a ∈ l,OkE a.event /\ C.Ok a.ctx /\ a.ctx.length <= 30 /\ C.totC a.ctx <= 900:=by
 unfold fewA at h;rw [Bool.and_eq_true,decide_eq_true_eq,List.all_eq_true] at h;refine ⟨h.1,fun a ha=>?_⟩;have h2:=h.2 a ha;unfold Qi at h2;rw [Bool.and_eq_true] at h2;have h3:=(E.wta h2.1).2 a.event (by simp);have h4:=C.qP h2.2;exact ⟨(hi a ha).ev h3,C.yWa (hi a ha).dev h4,h4⟩

open E (OkE yU SrtE)
open F (hasD yD zy wd)

def exA : TEvent:=⟨⟨1,1⟩,1,281474976710657,1,⟨#[97]⟩,[]⟩
def exB : TEvent:=⟨⟨1,2⟩,2,281474976710657,0,⟨#[]⟩,[]⟩
theorem okA : OkE exA:=⟨⟨by decide,by decide,by decide,by decide⟩,by decide,by decide,by decide,by decide,(fun d hd=>nomatch hd),by decide⟩
theorem okB : OkE exB:=⟨⟨by decide,by decide,by decide,by decide⟩,by decide,by decide,by decide,by decide,(fun d hd=>nomatch hd),by decide⟩
theorem putA : putL [] exA = [exA]:=by decide
theorem gA : yU exA = true:=by decide
def wA : List TPart:=[] ++ C.yF (zy [exA])
open E (OkE yU SrtE)
open F (hasD yD zy wd vW VA)

def badF (l:List TEvent) (i:Nat) (e:TEvent):Bool:=!yU e || (vW l i e || (decide (e.kind = 1) && wd l e.dot))
def fromB (c:List TPart) (l:List TEvent):Bool:=(l.zipIdx.all fun y=>!badF l y.2 y.1) && (decide (c = C.zW c) && decide (VA (zy l) c = []))
theorem Qj {l:List TEvent} {e:TEvent} (h:∀ x ∈ l,zM x.dot e.dot = true):insE l e = l ++ [e]:=by
 unfold insE;rw [List.filter_eq_self.2 h,List.filter_eq_nil_iff.2 fun x hx=>by rw [D.Zv (h x hx)];simp];simp
theorem prev_srt {l:List TEvent} {i:Nat} {x:TEvent} (hx:l[i]? = some x) (hs:SrtE (l.take i)) (hp:vW l i x = false):SrtE (l.take (i + 1)) /\ ∀ z ∈ l.take i,zM z.dot x.dot = true:=by
 have htk:l.take (i + 1) = l.take i ++ [x]:=by rw [List.take_add_one,hx];rfl
 have hlt:i < l.length:=(List.getElem?_eq_some_iff.1 hx).1;have hall:∀ z ∈ l.take i,zM z.dot x.dot = true:=by
  intro z hz;obtain ⟨j,hj⟩:=List.getElem?_of_mem hz;have hji:j < (l.take i).length:=(List.getElem?_eq_some_iff.1 hj).1;rw [List.length_take] at hji;obtain ⟨y,hy⟩:∃ y,l[i - 1]? = some y:=⟨_,List.getElem?_eq_getElem (by omega)⟩
  unfold vW at hp;rw [decide_eq_true (show 0 < i by omega),Bool.true_and,hy] at hp;have hyx:zM y.dot x.dot = true:=V.Zq.1 (by simpa using hp)
  by_cases e:j = i - 1
  ·have:(l.take i)[j]? = l[j]?:=by rw [List.getElem?_take,if_pos (by omega)]
   rw [this,e,hy] at hj
   cases hj;exact hyx
  ·have h2:(l.take i)[i - 1]? = some y:=by rw [List.getElem?_take,if_pos (by omega)];exact hy
   have h3:=List.pairwise_iff_getElem.1 hs j (i - 1) (by rw [List.length_take];omega) (by rw [List.length_take];omega) (by omega);rw [(List.getElem?_eq_some_iff.1 hj).2,(List.getElem?_eq_some_iff.1 h2).2] at h3;exact D.XR h3 hyx
 refine ⟨?_,hall⟩;rw [htk];unfold SrtE;rw [List.pairwise_append];exact ⟨hs,by simp,fun a ha b hb=>by rw [List.mem_singleton.1 hb];exact hall a ha⟩
theorem Qk (l:List TEvent) (x:TEvent):yp (l ++ [x]) = yp l ++ (if x.kind = 1 then [x] else []):=by
 unfold yp;rw [List.filter_append,List.filter_cons];by_cases h:x.kind = 1 <;> simp [h]
theorem Ql (l:List TEvent) (x:TEvent):yx (l ++ [x]) = yx l ++ (if x.kind = 2 then [x] else []):=by
 unfold yx;rw [List.filter_append,List.filter_cons];by_cases h:x.kind = 2 <;> simp [h]
theorem from_bad {l:List TEvent} (hl:l.length <= 1000000) (hk:∀ e ∈ l,OkE e /\ e.kills.length <= 300) {i:Nat} {x:TEvent} (hx:l[i]? = some x) :
  (M.bind (M.det (xf x)) fun v84=>cond (!v84) (M.pure true) (cond (decide (0 < (i:Int)))
   (M.bind (M.idx l (IntKind.i64.wrap ((i:Int) - 1))) fun x88=>M.bind (M.det (um x88.dot x.dot)) fun v90=>cond (decide (0 <= v90)) (M.pure true) (cond (decide (x.kind = 1)) (M.bind (M.det (xg l x.dot)) fun v94=>M.pure v94) (M.pure false)))
   (cond (decide (x.kind = 1)) (M.bind (M.det (xg l x.dot)) fun v97=>M.pure v97) (M.pure false))):M Bool) = pure (badF l i x):=by
 have hm:=List.mem_of_getElem? hx;have hi:i < l.length:=(List.getElem?_eq_some_iff.1 hx).1;rw [E.uS (hk x hm).1,zB,zA,F.wua l x.dot (by omega) (fun e he=>by have:=(hk e he).2;omega),zB,zA];have hp:=F.qZ (x:=x) hi (by omega) um D.yZa (fun b=>(cond b (M.pure true) (cond (decide (x.kind = 1)) (M.pure (wd l x.dot)) (M.pure false)):M Bool));simp only [cond_false] at hp;rw [hp];unfold badF
 cases yU x <;> cases vW l i x <;> cases decide (x.kind = 1) <;> rfl
theorem vAa {l:List TEvent} (hl:l.length <= 1000000) (hk:∀ e ∈ l,OkE e /\ e.kills.length <= 300) :
  ∀ (k i:Nat) (nl2:Bool) (m2:List (TDot × TEvent)) (nl1:Bool) (m1:List (TDot × TEvent)),i + k = l.length -> SrtE (l.take i) -> (∀ e ∈ l.take i,yU e = true) -> Holds m1 (yp (l.take i)) -> Holds m2 (yx (l.take i)) -> (nl1 = true -> m1 = []) -> (nl2 = true -> m2 = []) ->
   if ((l.drop i).zipIdx i).all (fun y=>!badF l y.2 y.1) = true then ∃ b q a p,loop (zm l) ((i:Int),nl2,m2,nl1,m1) = pure (Ex.brk (b,q,a,p)) /\ SrtE l /\ (∀ e ∈ l,yU e = true) /\ Holds p (yp l) /\ Holds q (yx l) /\ (a = true -> p = []) /\ (b = true -> q = [])
   else loop (zm l) ((i:Int),nl2,m2,nl1,m1) = pure (Ex.ret (.inl ())):=by
 intro k
 induction k with
 | zero=>
  intro i nl2 m2 nl1 m1 hi hs hg h1 h2 h3 h4;have e:i = l.length:=by omega
  subst e;rw [List.drop_length,if_pos (by simp)];rw [List.take_length] at hs hg h1 h2;refine ⟨nl2,m2,nl1,m1,?_,hs,hg,h1,h2,h3,h4⟩;refine zh ?_;unfold zm;simp
 | succ k ih=>
  intro i nl2 m2 nl1 m1 hi hs hg h1 h2 h3 h4;obtain ⟨x,hx⟩:∃ x,l[i]? = some x:=⟨_,List.getElem?_eq_getElem (by omega)⟩
  have hm:=List.mem_of_getElem? hx;have hdr:l.drop i = x :: l.drop (i + 1):=by
   rw [List.drop_eq_getElem_cons (by omega)]
   congr 1
   rw [List.getElem?_eq_getElem (by omega)] at hx;exact Option.some.inj hx
  have htk:l.take (i + 1) = l.take i ++ [x]:=by rw [List.take_add_one,hx];rfl
  have hd:decide ((i:Int) < (l.length:Int)) = true:=by simp;omega
  have hb:=from_bad hl hk hx;rw [hdr,List.zipIdx_cons,List.all_cons]
  cases hbad:badF l i x with
  | true=>
   simp only [Bool.not_true,Bool.false_and,Bool.false_eq_true,if_false];refine zh ?_;unfold zm;simp only [hd,cond_true,zF hx,zA];rw [hb,zA,hbad]
   rfl
  | false=>
   simp only [Bool.not_false,Bool.true_and];have hgx:yU x = true:=by
    unfold badF at hbad;simp only [Bool.or_eq_false_iff,Bool.not_eq_false'] at hbad;exact hbad.1
   have hpx:vW l i x = false:=by
    unfold badF at hbad;simp only [Bool.or_eq_false_iff] at hbad;exact hbad.2.1
   obtain ⟨hs',hall⟩:=prev_srt hx hs hpx;have hg':∀ e ∈ l.take (i + 1),yU e = true:=fun e he=>by
    rw [htk] at he;rcases List.mem_append.1 he with h | h
    ·exact hg e h
    ·rw [List.mem_singleton.1 h];exact hgx
   have hxk:=(hk x hm).2;rcases jT hgx with hkd | hkd
   ·have hb2:zm l ((i:Int),nl2,m2,nl1,m1) = pure (.next (((i + 1:Nat):Int),nl2,m2,false,AL.set m1 x.dot x)):=by
     unfold zm;simp only [hd,cond_true,zF hx,zA];rw [hb,zA,hbad,decide_eq_true hkd];simp only [cond_false,cond_true,yha (show x.kills.length <= 1000000000000 by omega) h3,zB,zA,ul,zf (show i < 9223372036854775807 by omega)]
    rw [zg hb2];refine ih (i + 1) nl2 m2 false _ (by omega) hs' hg' ?_ ?_ (fun h=>by cases h) h4
    ·rw [htk,Qk,if_pos hkd,<- Qj (fun z hz=>hall z (yj.1 hz).1)];exact h1.add (zL hs _) fun z hz e=>by have:=hall z (yj.1 hz).1;rw [e,D.Xe] at this;cases this
    ·rw [htk,Ql,if_neg (by omega),List.append_nil];exact h2
   ·have hb2:zm l ((i:Int),nl2,m2,nl1,m1) = pure (.next (((i + 1:Nat):Int),false,AL.set m2 x.dot x,nl1,m1)):=by
     unfold zm;simp only [hd,cond_true,zF hx,zA];rw [hb,zA,hbad,decide_eq_false (show ¬ x.kind = 1 by omega)];simp only [cond_false,yha (show x.kills.length <= 1000000000000 by omega) h4,zB,zA,ul,zf (show i < 9223372036854775807 by omega)]
    rw [zg hb2];refine ih (i + 1) false _ nl1 m1 (by omega) hs' hg' ?_ ?_ h3 (fun h=>by cases h)
    ·rw [htk,Qk,if_neg (by omega),List.append_nil];exact h1
    ·rw [htk,Ql,if_pos hkd,<- Qj (fun z hz=>hall z (xM.1 hz).1)];exact h2.add (zL hs _) fun z hz e=>by have:=hall z (xM.1 hz).1;rw [e,D.Xe] at this;cases this
theorem drop_nil {l:List TDot} {c:List TPart} (h:VA l c = []):∀ d ∈ l,C.hasC c d.dev d.n = true:=fun d hd=>by
 cases hc:C.hasC c d.dev d.n with
 | true=>rfl
 | false=>
  have:d ∈ VA l c:=D.Zw.2 (List.mem_filter.2 ⟨hd,by simp [hc]⟩);rw [h] at this;cases this
theorem From_eq {c:List TPart} {l:List TEvent} (hc:C.Ok c) {n:Nat} (h1:c.length <= n) (h2:C.totC c <= n) (hl:l.length <= n) (hn:n <= 1000000) (hk:∀ e ∈ l,OkE e /\ e.kills.length <= 300) :
  if fromB c l = true then ∃ a p b q,xA c l = pure (.inr (C.zW c,a,p,b,q)) /\ Rep n c (C.zW c) c a p b q l else xA c l = pure (.inl ()):=by
 have hlen:=F.wY l 300 fun e he=>(hk e he).2
 have hdl:(zy l).length <= (yD l).length:=D.XS _;have key:=vAa (l:=l) (by omega) hk l.length 0 true [] true [] (by omega) (by simp [SrtE]) (by simp) (by simp [Holds,yp]) (by simp [Holds,yx]) (fun _=>rfl) (fun _=>rfl);rw [List.drop_zero] at key;have h0:loop (zm l) (((0:Nat):Int),true,[],true,[]) = loop (zm l) (0,true,[],true,[]):=rfl;rw [h0] at key;unfold fromB;unfold xA;rw [C.VW c hc.sm,zB,zA]
 cases ha:(l.zipIdx.all fun y=>!badF l y.2 y.1) with
 | false=>
  rw [ha,if_neg (by simp)] at key;rw [Bool.false_and,if_neg (by simp),key,zA,UZ]
 | true=>
  rw [ha,if_pos rfl] at key;obtain ⟨b,q,a,p,e1,hs,hg,g1,g2,g3,g4⟩:=key;rw [e1,zA,ul,Bool.true_and];simp only [];rw [C.uS c hc.sm,zB,zA,F.Va l (by omega) (by omega),zB,zA,F.wva (zy l) c (by omega) hc.sm,zB,zA];have hdec:decide (0 < ((VA (zy l) c).length:Int)) = !decide (VA (zy l) c = []):=by
   cases VA (zy l) c with
   | nil=>rfl
   | cons x r=>simp <;> omega
  rw [hdec]
  cases hcn:decide (c = C.zW c) with
  | false=>rw [Bool.false_and,if_neg (by simp)];rfl
  | true=>
   rw [Bool.true_and,Bool.not_true,cond_false,zA]
   cases hdn:decide (VA (zy l) c = []) with
   | false=>rw [if_neg (by simp)];rfl
   | true=>
    rw [if_pos rfl];refine ⟨a,p,b,q,rfl,⟨rfl,fun _ _=>rfl,hc,g1,g2,g3,g4,hs,fun e he=>⟨hg e he,(hk e he).1⟩,fun d hd=>drop_nil (of_decide_eq_true hdn) d (D.Zw.2 hd),fun e he h1=>?_,h1,h2,hl⟩⟩;rw [List.all_eq_true] at ha;obtain ⟨i,hi⟩:=List.getElem?_of_mem he;have:=ha (e,i) (by rw [List.mem_zipIdx_iff_getElem?];exact hi);simp only [Bool.not_eq_true',badF,Bool.or_eq_false_iff,Bool.and_eq_false_iff] at this;rcases this.2.2 with h | h
    ·exact absurd h1 (of_decide_eq_false h)
    ·exact h
open E (OkE yU SrtE)
open F (hasD yD zy wd vW VA)

theorem zsa {l:List TEvent} (hs:SrtE l) {i:Nat} {x:TEvent} (hx:l[i]? = some x):vW l i x = false:=by
 unfold vW
 by_cases h:0 < i
 ·have hl:=(List.getElem?_eq_some_iff.1 hx).1;obtain ⟨y,hy⟩:∃ y,l[i - 1]? = some y:=⟨_,List.getElem?_eq_getElem (by omega)⟩
  have h3:=List.pairwise_iff_getElem.1 hs (i - 1) i (by omega) hl (by omega);rw [(List.getElem?_eq_some_iff.1 hy).2,(List.getElem?_eq_some_iff.1 hx).2] at h3;have:=V.Zq.2 h3;rw [hy];simp;omega
 ·simp [h]
section
variable {n:Nat} {W c xc:List TPart} {nl1:Bool} {m1:List (TDot × TEvent)} {nl2:Bool} {m2:List (TDot × TEvent)} {L:List TEvent}
theorem Rep.fromB (hR:Rep n W c xc nl1 m1 nl2 m2 L):fromB (C.zW W) L = true:=by
 unfold G.fromB;rw [Bool.and_eq_true,Bool.and_eq_true];refine ⟨List.all_eq_true.2 fun y hy=>?_,by rw [C.vC (C.yK W)];simp,?_⟩
 ·have hx:L[y.2]? = some y.1:=List.mem_zipIdx_iff_getElem?.1 hy;have hm:=List.mem_of_getElem? hx;unfold badF;rw [(hR.good _ hm).1,zsa hR.srt hx]
  by_cases hk:y.1.kind = 1
  ·rw [hR.alive _ hm hk];simp
  ·simp [hk]
 ·rw [decide_eq_true_eq];unfold VA;rw [List.filter_eq_nil_iff.2 fun d hd=>by rw [C.yo,hR.dots d (D.Zw.1 hd)];simp]
  rfl
theorem Rep.From (hR:Rep n W c xc nl1 m1 nl2 m2 L) (hn:n <= 500000) :
  ∃ a p b q,xA (C.zW W) L = pure (.inr (C.zW W,a,p,b,q)) /\ Rep (2 * n) (C.zW W) (C.zW W) (C.zW W) a p b q L:=by
 have hwl:=hR.wl;have hwt:=hR.wt;have hll:=hR.ll;have h1:=C.uQ W;have h2:=C.uR W;have h:=From_eq (c:=C.zW W) (l:=L) (Zz (by omega) (by omega)) (n:=2 * n) (by omega) (by omega) (by omega) (by omega) (fun e he=>⟨(hR.good e he).2,by have:=hR.kl e he;omega⟩);rw [hR.fromB,if_pos rfl,C.vC (C.yK W)] at h;exact h
end
open E (OkE yU SrtE)
open F (hasD yD zy wd)

section
variable {n:Nat} {W c xc:List TPart} {nl1:Bool} {m1:List (TDot × TEvent)} {nl2:Bool} {m2:List (TDot × TEvent)} {L:List TEvent}
def putW (s:List TPart × List TEvent) (e:TEvent):List TPart × List TEvent:=if yU e = true /\ C.hasC s.1 e.dot.dev e.dot.n = false then (s.1 ++ C.yF (zy [e]),putL s.2 e) else s
theorem Rep.putS (hR:Rep n W c xc nl1 m1 nl2 m2 L) (hn:n <= 100000000) {e:TEvent} (oe:OkE e) :
  ∃ k c' xc' nl1' m1' nl2' m2',zt e c nl1 m1 nl2 m2 = pure (k,c',nl1',m1',nl2',m2') /\ uo ⟨xc,L⟩ e = pure (⟨xc',(putW (W,L) e).2⟩,k) /\ Rep (n + 600) (putW (W,L) e).1 c' xc' nl1' m1' nl2' m2' (putW (W,L) e).2 /\ (k ≠ 0 -> xc' = xc /\ (putW (W,L) e).2 = L):=by
 unfold putW
 cases g:yU e with
 | false=>
  rw [if_neg (by simp)];refine ⟨1,c,xc,nl1,m1,nl2,m2,?_,?_,hR.mono (by omega),fun _=>⟨rfl,rfl⟩⟩
  ·unfold zt;rw [E.uS oe,zB,zA,g];rfl
  ·unfold uo;rw [E.vG oe,zB,zA,g];rfl
 | true=>
  cases hc:C.hasC W e.dot.dev e.dot.n with
  | true=>
   rw [if_neg (by simp)];refine ⟨7,c,xc,nl1,m1,nl2,m2,?_,?_,hR.mono (by omega),fun _=>⟨rfl,rfl⟩⟩
   ·unfold zt;rw [E.uS oe,zB,zA,g,Bool.not_true,cond_false,hR.has hn,zB,zA,hc];rfl
   ·unfold uo;rw [E.vG oe,zB,zA,g,Bool.not_true,cond_false,show (⟨xc,L⟩:R18Book).ctx = xc from rfl,hR.rhas,zB,zA,hc];rfl
  | false=>
   rw [if_pos (by simp)];obtain ⟨c',xc',a,p,b,q,h1,h2,h3⟩:=hR.put hn oe g hc;exact ⟨0,c',xc',a,p,b,q,h1,h2,h3,fun h=>absurd rfl h⟩
end
theorem do_loop (l:List L18Act) (hlen:l.length <= 25) (hA:∀ a ∈ l,OkE a.event /\ C.Ok a.ctx /\ a.ctx.length <= 30 /\ C.totC a.ctx <= 900)
  {P:List TPart -> Prop} (hP1:∀ W e,OkE e -> P W -> P (W ++ C.yF (zy [e]))) (hP2:∀ W,∀ a ∈ l,P W -> P (W ++ a.ctx)) :
  ∀ (q k:Nat) (W c xc:List TPart) (a:Bool) (p:List (TDot × TEvent)) (b:Bool) (r:List (TDot × TEvent)) (L:List TEvent),k + q = l.length -> Rep (3000 * k) W c xc a p b r L -> P W ->
   ∃ W c xc' a p b r L',loop (YM l) ((k:Int),xc,L) = pure (xc',L') /\ Rep (3000 * l.length) W c xc' a p b r L' /\ P W:=by
 have hP3:∀ W L e,OkE e -> P W -> P (putW (W,L) e).1:=fun W L e he hw=>by
  unfold putW
  split
  ·exact hP1 W e he hw
  ·exact hw
 intro q
 induction q with
 | zero=>
  intro k W c xc a p b r L hk hR hp;have hkl:k = l.length:=by omega
  subst hkl;refine ⟨W,c,xc,a,p,b,r,L,zh ?_,hR,hp⟩;unfold YM;simp
 | succ q ih=>
  intro k W c xc a p b r L hk hR hp;have hlt:k < l.length:=by omega
  obtain ⟨x,hx⟩:∃ x,l[k]? = some x:=⟨_,List.getElem?_eq_getElem hlt⟩
  obtain ⟨oe,oc,hc1,hc2⟩:=hA x (List.mem_of_getElem? hx);have hd:decide ((k:Int) < (l.length:Int)) = true:=by simpa using hlt
  have hn:3000 * k <= 75000:=by omega
  have step:∃ W' c' xc' a' p' b' r' L',YM l ((k:Int),xc,L) = pure (.next (((k + 1:Nat):Int),xc',L')) /\ Rep (3000 * (k + 1)) W' c' xc' a' p' b' r' L' /\ P W':=by
   unfold YM
   by_cases k0:x.kind = 0
   ·obtain ⟨cd,c',xc',a,p,b,q,_,e2,hR',_⟩:=hR.putS (by omega) oe;refine ⟨_,c',xc',a,p,b,q,_,?_,hR'.mono (by omega),hP3 W L _ oe hp⟩;simp only [hd,cond_true,zF hx,zA,decide_eq_true k0,e2,zB,zf (show k < 9223372036854775807 by omega)]
   ·by_cases k1:x.kind = 1
    ·obtain ⟨_,hm2⟩:=hR.make (by omega) oe;obtain ⟨cd,c',xc',a,p,b,q,_,e2,hR',_⟩:=hR.putS (by omega) (w9a hR oe);refine ⟨_,c',xc',a,p,b,q,_,?_,hR'.mono (by omega),hP3 W L _ (w9a hR oe) hp⟩;simp only [hd,cond_true,cond_false,zF hx,zA,decide_eq_false k0,decide_eq_true k1,hm2,e2,zB,zf (show k < 9223372036854775807 by omega)]
    ·by_cases k2:x.kind = 2
     ·obtain ⟨c',xc',_,e2,hR'⟩:=hR.see (by omega) oc (k:=900) (by omega) hc2 (by omega);refine ⟨_,c',xc',_,_,_,_,_,?_,hR'.mono (by omega),hP2 W x (List.mem_of_getElem? hx) hp⟩;simp only [hd,cond_true,cond_false,zF hx,zA,decide_eq_false k0,decide_eq_false k1,decide_eq_true k2,e2,zB,zf (show k < 9223372036854775807 by omega)]
     ·by_cases k3:x.kind = 3
      ·obtain ⟨kk,a,p,b,q,_,e2,hR',_⟩:=hR.prune (by omega) oc;refine ⟨_,_,_,a,p,b,q,_,?_,hR'.mono (by omega),hp⟩;simp only [hd,cond_true,cond_false,zF hx,zA,decide_eq_false k0,decide_eq_false k1,decide_eq_false k2,decide_eq_true k3,e2,zB,zf (show k < 9223372036854775807 by omega)]
      ·refine ⟨_,_,_,_,_,_,_,_,?_,hR.mono (by omega),hp⟩;simp only [hd,cond_true,cond_false,zF hx,zA,decide_eq_false k0,decide_eq_false k1,decide_eq_false k2,decide_eq_false k3,zf (show k < 9223372036854775807 by omega)]
  obtain ⟨W',c',xc',a',p',b',r',L',e1,hR',hp'⟩:=step;rw [zg e1];exact ih (k + 1) W' c' xc' a' p' b' r' L' (by omega) hR' hp'
theorem Do_gen (l:List L18Act) (hlen:l.length <= 25) (hA:∀ a ∈ l,OkE a.event /\ C.Ok a.ctx /\ a.ctx.length <= 30 /\ C.totC a.ctx <= 900)
  {P:List TPart -> Prop} (hP0:P []) (hP1:∀ W e,OkE e -> P W -> P (W ++ C.yF (zy [e]))) (hP2:∀ W,∀ a ∈ l,P W -> P (W ++ a.ctx)) :
  ∃ W c xc a p b r L,qx l = pure ⟨xc,L⟩ /\ Rep (3000 * l.length) W c xc a p b r L /\ P W:=by
 obtain ⟨W,c,xc,a,p,b,r,L,e,hR,hp⟩:=do_loop l hlen hA hP1 hP2 l.length 0 [] [] [] true [] true [] [] (by omega) Rep.new hP0;refine ⟨W,c,xc,a,p,b,r,L,?_,hR,hp⟩;unfold qx;rw [show (0:Int) = ((0:Nat):Int) from rfl,e,zA]
theorem Do_eq (l:List L18Act) (hlen:l.length <= 25) (hA:∀ a ∈ l,OkE a.event /\ C.Ok a.ctx /\ a.ctx.length <= 30 /\ C.totC a.ctx <= 900) :
  ∃ W c xc a p b r L,qx l = pure ⟨xc,L⟩ /\ Rep (3000 * l.length) W c xc a p b r L:=by
 obtain ⟨W,c,xc,a,p,b,r,L,e,hR,_⟩:=Do_gen l hlen hA (P:=fun _=>True) trivial (fun _ _ _ _=>trivial) (fun _ _ _ _=>trivial);exact ⟨W,c,xc,a,p,b,r,L,e,hR⟩
section
variable {n:Nat} {W c xc:List TPart} {nl1:Bool} {m1:List (TDot × TEvent)} {nl2:Bool} {m2:List (TDot × TEvent)} {L:List TEvent}
theorem Rep.again (hR:Rep n W c xc nl1 m1 nl2 m2 L) (hn:n <= 500000) :
  ∃ a p b q,xu xc = pure (C.zW W) /\ xA (C.zW W) L = pure (.inr (C.zW W,a,p,b,q)) /\ Rep (2 * n) W (C.zW W) xc a p b q L:=by
 obtain ⟨a,p,b,q,e,R1⟩:=hR.From hn;refine ⟨a,p,b,q,?_,e,{ R1 with ctx:=rfl,xctx:=hR.xctx,xok:=hR.xok,dots:=hR.dots,wl:=by have:=hR.wl;omega,wt:=by have:=hR.wt;omega }⟩;rw [C.XQ xc hR.xok,C.Wy hR.xctx]
end
open E (OkE yU SrtE)
open F (hasD yD zy wd Xf OkD)

theorem JI (x:TEvent) {y:List TPart} (hy:C.Ok y):yn x y = pure (yX y x):=by
 unfold yn;rw [C.Vj y x.dot hy.sm,zB,zA]
 rfl
theorem zta (l:List TEvent) {y:List TPart} (hy:C.Ok y) (hl:l.length <= 1000000000):zO y l = pure (l.filter fun x=>!yX y x):=by
 unfold zO;refine xQa (yX y) l hl (zR l y) (zK y) ⟨⟨0,0⟩,0,0,0,⟨#[]⟩,[]⟩ ?_ (fun i j v x hx hj hij hv=>?_) (fun i v=>?_)
 ·unfold zR;have:=loopF (body:=zN l y) l (fun i=>(i:Int)) (fun _ x=>yX y x) (fun i _=>Ex.ret (i:Int)) (pure (Ex.brk ())) (fun i x hx hi=>by
   have hd:decide ((i:Int) < (l.length:Int)) = true:=by simpa using hi
   unfold zN;simp only [hd,cond_true,zF hx,zA,JI x hy,zB,zf (show i < 9223372036854775807 by omega)]
   cases yX y x <;> rfl) (by
   unfold zN;simp [zA])
  rw [show (0:Int) = ((0:Nat):Int) from rfl,this]
  cases l.zipIdx.find? (fun z=>yX y z.1) <;> rfl
 ·have hd:decide ((j:Int) < (v.length:Int)) = true:=by simpa using hj
  obtain ⟨w,hw⟩:∃ w,v[i]? = some w:=⟨_,List.getElem?_eq_getElem (by omega)⟩
  unfold zK;simp only [hd,cond_true,zF hx,zF hw,zA,JI x hy,zB,zf (show j < 9223372036854775807 by omega),zf (show i < 9223372036854775807 by omega),Int.toNat_natCast]
  cases yX y x <;> rfl
 ·unfold zK;simp
def Vl (W:List TPart) (L:List TEvent) (from_:List TPart):TDelta:=⟨C.opC (· && ·) from_ W,C.zW W,L.filter fun x=>!yX from_ x⟩
section
variable {n:Nat} {W c xc:List TPart} {nl1:Bool} {m1:List (TDot × TEvent)} {nl2:Bool} {m2:List (TDot × TEvent)} {L:List TEvent}
theorem yla (y:List TPart) {a b:List TPart} (h:∀ k m,C.hasC a k m = C.hasC b k m):C.opC (· && ·) y a = C.opC (· && ·) y b:=
 (C.xX rfl _ _).ext (C.xX rfl _ _) fun k m=>by rw [C.uq rfl,C.uq rfl,h]
theorem Qm (y:List TPart) {a b:List TPart} (h:∀ k m,C.hasC a k m = C.hasC b k m):C.opC (fun x y=>x && !y) y a = C.opC (fun x y=>x && !y) y b:=
 (C.xX rfl _ _).ext (C.xX rfl _ _) fun k m=>by rw [C.uq rfl,C.uq rfl,h]
theorem Rep.Since (hR:Rep n W c xc nl1 m1 nl2 m2 L) (hn:n <= 100000000) {y:List TPart} (hy:C.Ok y):xJ y c nl1 m1 nl2 m2 = pure (Vl W L y):=by
 have hwl:=hR.wl;have hwt:=hR.wt;have hll:=hR.ll;unfold xJ;rw [hR.Ctx hn,zB,zA,C.Meet_eq _ _ hy.sm (Zz (by omega) (by omega)).sm,zB,zA,hR.All hn,zB,zA,zta L hy (by omega),zB,zA,yla y (fun k m=>C.yo W k m)]
 rfl
theorem Rep.rSince (hR:Rep n W c xc nl1 m1 nl2 m2 L) (hn:n <= 100000000) {y:List TPart} (hy:C.Ok y):Wc ⟨xc,L⟩ y = pure (Vl W L y):=by
 have hll:=hR.ll;unfold Wc;have h:=zpa (body:=ug ⟨xc,L⟩ y) L (fun x=>!yX y x) (fun t=>pure t) (fun i x t hx hi hI=>by
  have hd:decide ((i:Int) < (L.length:Int)) = true:=by simpa using hi
  unfold ug;have hs:C.hasC y x.dot.dev x.dot.n = yX y x:=rfl;simp only [hd,cond_true,zF hx,zA,C.ur y x.dot hy,hs,zB,zf (show i < 9223372036854775807 by omega),List.nil_append]
  cases yX y x <;> simp only [cond_true,cond_false,zA,if_true,if_false,Bool.false_eq_true,Bool.not_true,Bool.not_false]
  rw [zD (by simp;omega),zD (by simp;omega)]
  rfl) (fun t=>by unfold ug;simp [zA])
 rw [C.rMeet_eq _ _ hy hR.xok,zB,zA,C.XQ _ hR.xok,zB,zA,h,zA,yla y hR.xctx,C.Wy hR.xctx]
 rfl
end
theorem vBa (d:TDelta) (hd:OkD d) :
  ∀ (q k n:Nat) (W c xc:List TPart) (a:Bool) (p:List (TDot × TEvent)) (b:Bool) (r:List (TDot × TEvent)) (L:List TEvent),k + q = d.events.length -> n + 600 * q <= 100000000 -> Rep n W c xc a p b r L ->
   ∃ c' xc' a' p' b' r',loop (yt d) ((k:Int),c,b,r,a,p) = pure (c',b',r',a',p') /\ loop (wG d.events) ((k:Int),xc,L) = pure (xc',((d.events.drop k).foldl putW (W,L)).2) /\
    Rep (n + 600 * q) ((d.events.drop k).foldl putW (W,L)).1 c' xc' a' p' b' r' ((d.events.drop k).foldl putW (W,L)).2:=by
 have hel:=hd.len;intro q
 induction q with
 | zero=>
  intro k n W c xc a p b r L hk hn hR;have hkl:k = d.events.length:=by omega
  subst hkl;rw [List.drop_length];refine ⟨c,xc,a,p,b,r,zh ?_,zh ?_,hR⟩
  ·unfold yt;simp
  ·unfold wG;simp
 | succ q ih=>
  intro k n W c xc a p b r L hk hn hR;have hlt:k < d.events.length:=by omega
  obtain ⟨x,hx⟩:∃ x,d.events[k]? = some x:=⟨_,List.getElem?_eq_getElem hlt⟩
  have hdr:d.events.drop k = x :: d.events.drop (k + 1):=by
   rw [List.drop_eq_getElem_cons hlt]
   congr 1
   rw [List.getElem?_eq_getElem hlt] at hx;exact Option.some.inj hx
  obtain ⟨cd,c1,xc1,a1,p1,b1,r1,e1,e2,R1,h0⟩:=hR.putS (by omega) (hd.evs x (List.mem_of_getElem? hx));have hdc:decide ((k:Int) < (d.events.length:Int)) = true:=by simpa using hlt
  have s1:yt d ((k:Int),c,b,r,a,p) = pure (.next (((k + 1:Nat):Int),c1,b1,r1,a1,p1)):=by
   unfold yt;simp only [hdc,cond_true,zF hx,zA,e1,zB,zf (show k < 9223372036854775807 by omega)]
  have s2:wG d.events ((k:Int),xc,L) = pure (.next (((k + 1:Nat):Int),xc1,(putW (W,L) x).2)):=by
   unfold wG;simp only [hdc,cond_true,zF hx,zA,e2,zB,zf (show k < 9223372036854775807 by omega)]
   by_cases hc:cd = 0
   ·rw [decide_eq_true hc,cond_true,zA]
   ·obtain ⟨h1,h2⟩:=h0 hc;rw [decide_eq_false hc,cond_false,zA,h1,h2]
  obtain ⟨c',xc',a',p',b',r',f1,f2,R2⟩:=ih (k + 1) (n + 600) _ c1 xc1 a1 p1 b1 r1 _ (by omega) (by omega) R1;rw [zg s1,zg s2,hdr,List.foldl_cons];exact ⟨c',xc',a',p',b',r',f1,f2,R2.mono (by omega)⟩
def withB (d:TDelta) (W:List TPart):Bool:=decide (C.opC (fun x y=>x && !y) d.from_ W = [])
def Yb (s:List TPart × List TEvent) (d:TDelta):List TPart × List TEvent:=if Xf d = true /\ withB d s.1 = true then ((d.events.foldl putW s).1 ++ d.to_,(d.events.foldl putW s).2) else s
def Qn (W:List TPart) (d:TDelta):Int:=if Xf d = true then (if withB d W = true then 0 else 12) else 1
section
variable {n:Nat} {W c xc:List TPart} {nl1:Bool} {m1:List (TDot × TEvent)} {nl2:Bool} {m2:List (TDot × TEvent)} {L:List TEvent}
theorem Rep.Apply (hR:Rep n W c xc nl1 m1 nl2 m2 L) {d:TDelta} (hd:OkD d) {j:Nat} (hj:d.to_.length <= j /\ C.totC d.to_ <= j) (hn:n + 600 * d.events.length + j <= 50000000) :
  ∃ c' xc' a p b q,yh d c nl1 m1 nl2 m2 = pure (Qn W d,c',a,p,b,q) /\ Wg ⟨xc,L⟩ d = pure (⟨xc',(Yb (W,L) d).2⟩,Qn W d) /\
   Rep (n + 600 * d.events.length + j) (Yb (W,L) d).1 c' xc' a p b q (Yb (W,L) d).2:=by
 have hwl:=hR.wl;have hwt:=hR.wt;have hw1:=C.Qc d.from_ (C.zW W) hd.from_.sm (Zz (by omega) (by omega)).sm;have hw2:=C.JD d.from_ xc hd.from_ hR.xok;rw [Qm d.from_ (fun k m=>C.yo W k m)] at hw1;rw [Qm d.from_ hR.xctx] at hw2;unfold yh Wg Qn Yb;rw [F.Zy hd,zB,zA,F.ut hd,zB,zA]
 cases g:Xf d with
 | false=>
  rw [if_neg (by simp),if_neg (by simp),Bool.not_false,cond_true,cond_true];exact ⟨c,xc,nl1,m1,nl2,m2,rfl,rfl,hR.mono (by omega)⟩
 | true=>
  rw [if_pos rfl,Bool.not_true,cond_false,cond_false,hR.Ctx (by omega),zB,zA,hw1,zB,zA];rw [show (⟨xc,L⟩:R18Book).ctx = xc from rfl,hw2,zB,zA];have hwb:decide (C.opC (fun x y=>x && !y) d.from_ W = []) = withB d W:=rfl;rw [hwb]
  cases w:withB d W with
  | false=>
   rw [if_neg (by simp),if_neg (by simp),Bool.not_false,cond_true,cond_true];exact ⟨c,xc,nl1,m1,nl2,m2,rfl,rfl,hR.mono (by omega)⟩
  | true=>
   obtain ⟨c',xc',a',p',b',r',f1,f2,R2⟩:=vBa d hd d.events.length 0 n W c xc nl1 m1 nl2 m2 L (by omega) (by omega) hR;obtain ⟨c3,x3,e1,e2,R3⟩:=R2.see (by omega) hd.to_ hj.1 hj.2 (by omega);rw [List.drop_zero] at f2 e2 R3;rw [if_pos rfl,if_pos (by simp),Bool.not_true,cond_false,cond_false,show (0:Int) = ((0:Nat):Int) from rfl,f1,zA];refine ⟨c3,x3,a',p',b',r',?_,?_,R3⟩
   ·show (M.bind _ _:M _) = _;rw [e1,zB,zA]
   ·unfold VL;rw [show (0:Int) = ((0:Nat):Int) from rfl,f2,zA,zB,zA];show (M.bind (M.det (VJ ⟨xc',_⟩ d.to_)) _:M _) = _;rw [e2,zB,zA]
end

open E (OkE yU SrtE)
open F (hasD yD zy wd Xf OkD)

def JJ (a b:TDelta):Bool:=decide (C.zW a.from_ = C.zW b.from_) && (decide (C.zW a.to_ = C.zW b.to_) && decide (a.events = b.events))
theorem Qo {a b:TDelta} (ha:OkD a) (hb:OkD b):XJ a b = pure (JJ a b):=by
 unfold XJ JJ;rw [C.zha _ _ ha.from_.sm hb.from_.sm,C.zha _ _ ha.to_.sm hb.to_.sm,F.wya a.events b.events (by have:=ha.len;omega) (fun e he=>by have:=ha.kills e he;omega)];simp only [zB,zA,zT]
theorem VC {a b:TDelta} (ha:OkD a) (hb:OkD b):Wf a b = pure (JJ a b):=by
 unfold Wf JJ;rw [C.UL _ _ ha.from_ hb.from_,C.UL _ _ ha.to_ hb.to_,E.qX a.events b.events (by have:=ha.len;omega) (fun e he=>by have:=ha.kills e he;omega)];simp only [zB,zA,zT]
def fewD (d:TDelta):Bool:=F.fewC d.from_ && (F.fewC d.to_ && E.fewE d.events 30)
theorem fewD_eq (d:TDelta):JV d = pure (fewD d):=by
 unfold JV fewD F.fewC;rw [C.WC,C.WC,show Xl d.events 30 = pure (E.fewE d.events 30) from E.WC d.events 30 (by decide)];simp only [zB,zA,zT]
structure InD (d:TDelta):Prop where
 from_:∀ p ∈ d.from_,0 <= p.dev
 to_:∀ p ∈ d.to_,0 <= p.dev
 evs:∀ e ∈ d.events,e.kills.length <= 300 /\ e.text.size <= 200 -> OkE e
theorem okD_few {d:TDelta} (h:InD d) (hf:fewD d = true):OkD d /\ d.events.length <= 30 /\ d.to_.length <= 30 /\ C.totC d.to_ <= 900:=by
 unfold fewD at hf;simp only [Bool.and_eq_true] at hf;obtain ⟨f1,f2,f3⟩:=hf;obtain ⟨g1,g2⟩:=E.wta f3;have t1:=C.qP (c:=d.from_) f1;have t2:=C.qP (c:=d.to_) f2;exact ⟨⟨C.yWa h.from_ t1,C.yWa h.to_ t2,fun e he=>h.evs e he (g2 e he),by omega,fun e he=>(g2 e he).1⟩,g1,t2.1,t2.2⟩
section
variable {n:Nat} {W c xc:List TPart} {nl1:Bool} {m1:List (TDot × TEvent)} {nl2:Bool} {m2:List (TDot × TEvent)} {L:List TEvent}
theorem Rep.okSince (hR:Rep n W c xc nl1 m1 nl2 m2 L) (hn:n <= 1000000) {y:List TPart} (hy:y.length <= 10000 /\ C.totC y <= 10000):OkD (Vl W L y) where
 from_:=C.ok_mono rfl ⟨by omega,by omega⟩ ⟨by have:=hR.wl;omega,by have:=hR.wt;omega⟩
 to_:=Zz (by have:=hR.wl;omega) (by have:=hR.wt;omega)
 evs e he:=(hR.good e (List.mem_filter.1 he).1).2
 len:=by
  have:=hR.ll;have h:=List.length_filter_le (fun x=>!yX y x) L;show (L.filter fun x=>!yX y x).length <= _;omega
 kills e he:=by have:=hR.kl e (List.mem_filter.1 he).1;omega
end
def dA : TDelta:=Vl wA [exA] []
theorem works20 : YQ = pure true:=by
 obtain ⟨c1,x1,a1,p1,b1,q1,hp1,_,R1⟩:=Rep.new.put (by omega) okA gA (by decide);rw [putA] at R1;have hs:=R1.Since (by omega) C.ok_nil;have od:=R1.okSince (by omega) (y:=[]) (by decide);have R1':Rep 600 wA c1 x1 a1 p1 b1 q1 [exA]:=R1.mono (by omega);obtain ⟨c2,x2,a2,p2,b2,q2,e2,_,R2⟩:=Rep.new.Apply (d:=dA) od (j:=600) (by decide) (by decide);obtain ⟨c3,x3,a3,p3,b3,q3,e3,_,R3⟩:=R2.Apply (d:=dA) od (j:=600) (by decide) (by decide);have k1:Qn [] dA = 0:=by decide
 have k2:Qn (Yb ([],[]) dA).1 dA = 0:=by decide
 have hL:(Yb ((Yb ([],[]) dA).1,(Yb ([],[]) dA).2) dA).2 = [exA]:=by decide
 have hW:C.zW wA = C.zW (Yb ((Yb ([],[]) dA).1,(Yb ([],[]) dA).2) dA).1:=by decide
 rw [k1] at e2;rw [k2] at e3;rw [hL] at R3;have hl:=R3.Live (by decide);have hsm:=R1'.Same (by omega) R3 (by decide);rw [decide_eq_true hW,decide_eq_true rfl] at hsm;unfold YQ Yj;rw [show (⟨(⟨1,1⟩:TDot),1,281474976710657,1,(⟨#[97]⟩:ByteArray),([]:List TDot)⟩:TEvent) = exA from rfl];simp only [zB,zA,hp1];rw [hs,zB,zA];show (M.bind (M.det (yh dA [] true [] true [])) _:M Bool) = _;rw [e2,zB,zA];show (M.bind (M.det (yh dA c2 a2 p2 b2 q2)) _:M Bool) = _;rw [e3,zB,zA];simp only [decide_true,cond_true,hl,hsm,zB,zA,show (yp [exA]).length = 1 by decide,show ((1:Nat):Int) = 1 from rfl,Bool.and_self]
 rfl
theorem Qp (l:List L18Act) (y:List TPart) (d:TDelta) (hi:∀ a ∈ l,InA a) (hy:∀ p ∈ y,0 <= p.dev) (hd:InD d):vh l y d = pure true:=by
 unfold vh;have ha:=rFewA_eq l 20 (by omega);rw [show ((20:Nat):Int) = 20 from rfl] at ha;rw [ha,zB,zA,works20]
 cases h1:fewA l 20 with
 | false=>rw [if_neg (by simp),show decide ((0:Int) = 0) = true by decide,cond_true,zA,cond_true,zB,zA]
 | true=>
  rw [if_pos rfl,show decide ((1:Int) = 0) = false by decide,cond_false,C.WC,zB,zA]
  cases h2:(decide (y.length <= 30) && y.all fun p=>decide (p.runs.length <= 30)) with
  | false=>rw [Bool.not_false,cond_true,zA,cond_true,zB,zA]
  | true=>
   rw [Bool.not_true,cond_false,fewD_eq,zB,zA]
   cases h3:fewD d with
   | false=>rw [Bool.not_false,zA,cond_true,zB,zA]
   | true=>
    obtain ⟨hlen,hA⟩:=fewA_mem h1 hi;have hyt:=C.qP h2;have hyo:=C.yWa hy hyt;obtain ⟨od,hd1,hd2,hd3⟩:=okD_few hd h3;obtain ⟨W,c,xc,a,p,b,q,L,e1,hR⟩:=Do_eq l (by omega) hA;obtain ⟨a2,p2,b2,q2,e2,e3,R2⟩:=hR.again (by omega);have os:=R2.okSince (by omega) (y:=y) (by omega);obtain ⟨c5,x5,a5,p5,b5,q5,e5,e6,R5⟩:=R2.Apply od (j:=900) (by omega) (by omega);have hg1:vg (Vl W L y).from_ = pure true:=(C.vG _ os.from_).trans (congrArg pure ((C.YW _).2 (C.xX rfl _ _)));have hg2:vg (Vl W L y).to_ = pure true:=(C.vG _ os.to_).trans (congrArg pure ((C.YW _).2 (C.yK _)));have hss:JJ (Vl W L y) (Vl W L y) = true:=by unfold JJ;simp
    rw [Bool.not_true,zA,cond_false,e1,zB,zA];show (M.bind (M.det (xu xc)) _:M Bool) = _;rw [e2,zB,zA];show (M.bind (M.det (xA (C.zW W) L)) _:M Bool) = _;rw [e3,zB,zA];show (M.bind (M.det (xJ y (C.zW W) a2 p2 b2 q2)) _:M Bool) = _;rw [R2.Since (by omega) hyo,zB,zA,R2.rSince (by omega) hyo,zB,zA];simp only [VC os os,hss,hg1,hg2,F.Zy od,F.ut od,F.Zy os,F.ut os,Qo os od,VC os od,zB,zA,Bool.not_true,cond_false,beq_self_eq_true,e6,e5,decide_true,cond_true,R5.Is (by omega)]

open E (OkE yU SrtE)
open F (hasD yD zy wd Xf OkD)

section
variable {n:Nat} {W c xc:List TPart} {nl1:Bool} {m1:List (TDot × TEvent)} {nl2:Bool} {m2:List (TDot × TEvent)} {L:List TEvent}
end
end Go.Ep.M.G

namespace Go.Ep
open Go.RowKit Go.ChangeShapes Go.WideShapes

abbrev All : Nat -> Prop:=fun _=>True

mutual
def bulk {H:Type}:DataW H -> Nat
 | .lit (.string bytes)=>bytes.length + 1
 | .lit _=>1
 | .nil=>1
 | .ptr d=>bulk d + 1
 | .slice elems spare=>vE elems + vE spare + 1
 | .agg parts=>vE parts + 1
 | .iface _ d=>bulk d + 1
 | .map entries=>jW entries + 1
 | .held _=>1
def vE {H:Type}:List (DataW H) -> Nat
 | []=>0
 | d :: r=>bulk d + vE r
def jW {H:Type}:List (Lit × DataW H) -> Nat
 | []=>0
 | x :: r=>vCa x + jW r
def vCa {H:Type}:Lit × DataW H -> Nat
 | (.string bytes,d)=>bytes.length + bulk d + 1
 | (_,d)=>bulk d + 1
end
theorem yma {H:Type} (d:DataW H):1 <= bulk d:=by
 cases d with
 | lit l=>cases l <;> simp [bulk]
 | nil=>simp [bulk]
 | ptr d=>simp [bulk]
 | slice elems spare=>simp [bulk]
 | agg parts=>simp [bulk]
 | iface t d=>simp [bulk]
 | map entries=>simp [bulk]
 | held h=>simp [bulk]
theorem zua {H:Type} (l r:List (DataW H)):vE (l ++ r) = vE l + vE r:=by
 induction l with
 | nil=>simp [vE]
 | cons x l ih=>simp only [List.cons_append,vE,ih];omega
def szL {α:Type} (sz:α -> Nat):List α -> Nat
 | []=>0
 | a :: r=>sz a + szL sz r
theorem szL_app {α:Type} (sz:α -> Nat) (l r:List α):szL sz (l ++ r) = szL sz l + szL sz r:=by
 induction l with
 | nil=>simp [szL]
 | cons x l ih=>simp only [List.cons_append,szL,ih];omega
structure Opn (P:Program) (t:TypeId) (k:Nat) {α:Type} (enc:α -> List DV) (ok:α -> Prop) (sz:α -> Nat):Prop where
 cells:P.cellsOf t = k
 op:∀ {H:Type} {en:TypeId × Value -> H} {w:World} {fuel:Nat} {cs:List Value} {x:DataW H × List MemPlace},DataW.trod en P w 0 (fun _=>true) true fuel t cs = some x ->
  ∃ a,ok a /\ cs.length = k /\ (enc a).length = k /\ (∀ (j:Nat) (y:DV) (u:Value),(enc a)[j]? = some y -> cs[j]? = some u -> DRd w All y u) /\ sz a <= bulk x.1

section
variable {P:Program} {t:TypeId}

theorem Opn.map {k:Nat} {α β:Type} {enc:α -> List DV} {enc':β -> List DV} {ok:α -> Prop} {ok':β -> Prop} {sz:α -> Nat} {sz':β -> Nat} (h:Opn P t k enc ok sz) (f:α -> β) (he:∀ a,ok a -> enc' (f a) = enc a) (ho:∀ a,ok a -> ok' (f a)) (hz:∀ a,sz' (f a) <= sz a):Opn P t k enc' ok' sz':=
 ⟨h.cells,fun hx=>let ⟨a,h1,h2,h3,h4,h5⟩:=h.op hx;⟨f a,ho a h1,h2,by rw [he a h1];exact h3,by rw [he a h1];exact h4,Nat.le_trans (hz a) h5⟩⟩

theorem qd {w:World} {y:DV} {u:Value} (h:DRd w All y u):∀ (j:Nat) (y':DV) (u':Value),[y][j]? = some y' -> [u][j]? = some u' -> DRd w All y' u':=by
 intro j y' u' h1 h2
 cases j with
 | zero=>simp at h1 h2;subst h1;subst h2;exact h
 | succ j=>simp at h1

def okK (k:IntKind) (n:Int):Prop:=(Lit.int k n).wf = true
theorem Opn.int {k:IntKind} (hu:P.underlying t = some (.int k)) (hc:P.cellsOf t = 1):Opn P t 1 (eK k) (okK k) (fun _=>1):=by
 refine ⟨hc,fun {H en w fuel cs x} h=>?_⟩
 cases fuel with
 | zero=>simp [DataW.trod] at h
 | succ fuel=>
  unfold DataW.trod at h;rw [hu] at h
  split at h <;> simp_all
  case h_2 n _=>
   obtain ⟨⟨h1,h2⟩,_⟩:=h;subst h1;refine ⟨n,h2,rfl,?_,yma _⟩;intro j y u h1 h3;exact qd (.v _ rfl) j y u h1 h3
theorem xRa {n:Int} (h:okK .u64 n):0 <= n /\ n < 18446744073709551616:=by
 simp [okK,Lit.wf,IntKind.min,IntKind.max,IntKind.signed,IntKind.bits] at h;omega
theorem Qq {n:Int} (h:okK .u16 n):0 <= n /\ n < 65536:=by
 simp [okK,Lit.wf,IntKind.min,IntKind.max,IntKind.signed,IntKind.bits] at h;omega
theorem okU8 {n:Int} (h:okK .u8 n):0 <= n /\ n < 256:=by
 simp [okK,Lit.wf,IntKind.min,IntKind.max,IntKind.signed,IntKind.bits] at h;omega
theorem Opn.str (hu:P.underlying t = some .string) (hc:P.cellsOf t = 1):Opn P t 1 eS (fun s=>s.size <= 9223372036854775807) (fun s=>s.size + 1):=by
 refine ⟨hc,fun {H en w fuel cs x} h=>?_⟩
 cases fuel with
 | zero=>simp [DataW.trod] at h
 | succ fuel=>
  unfold DataW.trod at h;rw [hu] at h
  split at h <;> simp_all
  case h_4=>
   rename_i s
   obtain ⟨h1,h2⟩:=h;refine ⟨s,by have:=h1;unfold maxLen at this;exact this,rfl,?_,?_⟩
   ·intro j y u h1 h2;exact qd (.v _ rfl) j y u h1 h2
   ·subst h2;have e:s.data.toList.length = s.size:=Array.length_toList;show s.size + 1 <= bulk (DataW.lit (Lit.string s.data.toList));unfold bulk;omega

theorem Opn.slice {e:TypeId} {k:Nat} {α:Type} {enc:α -> List DV} {ok:α -> Prop} {sz:α -> Nat} (h:Opn P e k enc ok sz) (hu:P.underlying t = some (.slice e)) (hc:P.cellsOf t = 1) (hk:0 < k) :
  Opn P t 1 (eL enc) (fun l=>l.length <= 9223372036854775807 /\ ∀ a ∈ l,ok a) (fun l=>szL sz l + 1):=by
 refine ⟨hc,fun {H en w fuel cs x} hx=>?_⟩;rcases Deep.open_slice hu hx with ⟨rfl,_⟩ | ⟨a,len,cap,m,n,D,Pl,rfl,_,hl,hm,hmm,hxD,hel⟩
 ·exact ⟨[],⟨Nat.zero_le _,by simp⟩,rfl,rfl,qd (.nil none 0 (Nat.zero_le _) (fun _=>rfl)),yma _⟩
 simp only [if_true] at hmm;subst hmm;rw [h.cells] at hel;have hcut:∀ n0,n0 <= len -> ∃ l:List α,l.length = n0 /\ (∀ a ∈ l,ok a) /\ szL sz l <= vE ((List.range n0).map D) /\ ∀ (i:Nat) (b:α),l[i]? = some b -> (enc b).length = k /\ ∀ (j:Nat) (y:DV),(enc b)[j]? = some y -> ∃ u,w.cell? (a.add (i * k + j)) = some u /\ DRd w All y u:=by
  intro n0
  induction n0 with
  | zero=>intro _;exact ⟨[],rfl,by simp,by simp [szL],by simp⟩
  | succ n0 ih=>
   intro hn;obtain ⟨l,h1,h2,hz,h3⟩:=ih (by omega);obtain ⟨cs',hc',ht'⟩:=hel n0 (by omega);obtain ⟨b,hb1,hb2,hb3,hb4,hb5⟩:=h.op ht';obtain ⟨_,_,hcell⟩:=World.cells?_some hc';refine ⟨l ++ [b],by simp [h1],?_,by rw [szL_app,List.range_succ,List.map_append,zua];simp only [szL,List.map_cons,List.map_nil,vE];simp only at hb5;omega,?_⟩
   ·intro a ha;rcases List.mem_append.1 ha with ha | ha
    ·exact h2 a ha
    ·simp at ha;subst ha;exact hb1
   ·intro i b' hi;rw [List.getElem?_append] at hi
    split at hi
    ·exact h3 i b' hi
    ·rename_i hge
     have hi0:i = n0:=by
      have:i - l.length < 1:=by simpa using (List.getElem?_eq_some_iff.1 hi).1
      omega
     subst hi0;simp [h1] at hi;subst hi;refine ⟨hb3,fun j y hy=>?_⟩;have hj:j < k:=by rw [<- hb3];exact (List.getElem?_eq_some_iff.1 hy).1
     have hcj:=hcell j hj;rw [Deep.add_add] at hcj;have hu':cs'[j]? = some (cs'[j]'(by omega)):=List.getElem?_eq_getElem (by omega);exact ⟨_,by rw [hcj,hu'],hb4 j y _ hy hu'⟩
 obtain ⟨l,h1,h2,hz,h3⟩:=hcut len (Nat.le_refl _);refine ⟨l,⟨by unfold maxLen at hm;omega,h2⟩,rfl,rfl,qd ?_,?_⟩
 rotate_left
 ·rw [hxD];simp only [bulk];omega
 by_cases h0:len = 0
 ·have:l = []:=List.eq_nil_of_length_eq_zero (by omega);subst this;subst h0;exact .nil _ _ hm (fun e=>by cases e)
 ·-- the first cell tells that the address is a plain one
  have hl0:0 < l.length:=by omega
  obtain ⟨hk0,hc0⟩:=h3 0 _ (List.getElem?_eq_getElem hl0);obtain ⟨u0,hu0,_⟩:=hc0 0 _ (List.getElem?_eq_getElem (by omega:0 < (enc l[0]).length));have hspot:a.spot = none:=by simpa [Addr.add] using World.cell?_spot hu0
  obtain ⟨b,off,spot⟩:=a;simp only at hspot;subst hspot;have hb:b < w.heap.size:=by
   rw [Addr.add_lit] at hu0;unfold World.cell? at hu0
   cases hh:w.heap[b]? with
   | none=>simp [hh] at hu0
   | some o=>exact (Array.getElem?_eq_some_iff.1 hh).1
  have hlen:(l.map enc).length = len:=by simp [h1]
  rw [<- hlen];refine .sl _ b off m k (fun i j=>(w.cell? ⟨b,off + (i * k + j),none⟩).getD undef) (by omega) hm trivial hb ?_ ?_ ?_
  ·intro i cs hi;rw [List.getElem?_map] at hi
   cases hx:l[i]? with
   | none=>simp [hx] at hi
   | some y=>simp [hx] at hi;subst hi;exact (h3 i y hx).1
  ·intro i j hi hj;have hil:i < l.length:=by simpa using hi
   obtain ⟨e1,e2⟩:=h3 i _ (List.getElem?_eq_getElem hil);obtain ⟨u,hu,_⟩:=e2 j _ (List.getElem?_eq_getElem (by omega:j < (enc l[i]).length));rw [Addr.add_lit] at hu;simp [hu]
  ·intro i cs j x hi hx;rw [List.getElem?_map] at hi
   cases hy:l[i]? with
   | none=>simp [hy] at hi
   | some y=>
    simp [hy] at hi;subst hi;obtain ⟨u,hu,hd⟩:=(h3 i y hy).2 j x hx;rw [Addr.add_lit] at hu;simpa [hu] using hd

structure OpnF (P:Program) (fs:List Field) (off k:Nat) {α:Type} (enc:α -> List DV) (ok:α -> Prop) (sz:α -> Nat):Prop where
 op:∀ {H:Type} {en:TypeId × Value -> H} {w:World} {n:Nat} {cs:List Value} {xs:List (DataW H × List MemPlace)},xs.length = fs.length ->
  (∀ (i:Nat) (f:Field),fs[i]? = some f -> DataW.trod en P w 0 (fun _=>true) true n f.type ((cs.drop f.offset).take (P.cellsOf f.type)) = xs[i]?) ->
  ∃ a,ok a /\ (enc a).length = k /\ (∀ (j:Nat) (y:DV) (u:Value),(enc a)[j]? = some y -> cs[off + j]? = some u -> DRd w All y u) /\ sz a <= vE (xs.map (·.1))

theorem OpnF.nil (off:Nat):OpnF P [] off 0 (fun _:Unit=>[]) (fun _=>True) (fun _=>0):=⟨fun _ _=>⟨(),trivial,rfl,by simp,Nat.zero_le _⟩⟩
theorem OpnF.cons {f:Field} {fs:List Field} {off k1 k2:Nat} {α β:Type} {e1:α -> List DV} {o1:α -> Prop} {e2:β -> List DV} {o2:β -> Prop} {z1:α -> Nat} {z2:β -> Nat} (h1:Opn P f.type k1 e1 o1 z1) (ho:f.offset = off) (h2:OpnF P fs (off + k1) k2 e2 o2 z2) :
  OpnF P (f :: fs) off (k1 + k2) (fun p:α × β=>e1 p.1 ++ e2 p.2) (fun p=>o1 p.1 /\ o2 p.2) (fun p=>z1 p.1 + z2 p.2):=by
 refine ⟨fun {H en w n cs xs} hlen hx=>?_⟩
 cases xs with
 | nil=>simp at hlen
 | cons x xs=>
  have hx0:=hx 0 f rfl;simp only [List.getElem?_cons_zero] at hx0;obtain ⟨a,ha1,ha2,ha3,ha4,ha5⟩:=h1.op hx0;obtain ⟨b,hb1,hb2,hb3,hb4⟩:=h2.op (xs:=xs) (by simpa using hlen) (fun i f' hf=>by have:=hx (i + 1) f' (by simpa using hf);simpa using this);refine ⟨(a,b),⟨ha1,hb1⟩,by simp [ha3,hb2],?_,by simp only [List.map_cons,vE];omega⟩;intro j y u hy hu;simp only [List.getElem?_append] at hy
  by_cases hj:j < k1
  ·rw [if_pos (by omega)] at hy;refine ha4 j y u hy ?_;rw [List.getElem?_take,h1.cells,if_pos hj,List.getElem?_drop,ho];exact hu
  ·rw [if_neg (by omega),ha3] at hy;refine hb3 (j - k1) y u hy ?_;rw [<- hu]
   congr 1
   omega
theorem Opn.struct {fs:List Field} {k:Nat} {α:Type} {enc:α -> List DV} {ok:α -> Prop} {sz:α -> Nat} (hu:P.underlying t = some (.struct fs.toArray)) (hc:P.cellsOf t = k) (h:OpnF P fs 0 k enc ok sz):Opn P t k enc ok (fun a=>sz a + 1):=by
 refine ⟨hc,fun {H en w fuel cs x} hx=>?_⟩;obtain ⟨xs,n,_,hxe,hlen,hxl,hf⟩:=DataW.trod_struct hu hx;obtain ⟨a,h1,h2,h3,h4⟩:=h.op (cs:=cs) (xs:=xs) (by simpa using hxl) (fun i f hi=>hf i f (by simpa using hi));exact ⟨a,h1,by rw [hlen,hc],h2,fun j y u hy hu=>h3 j y u hy (by simpa using hu),by rw [hxe];simp only [bulk];omega⟩

theorem Opn.arg {H:Type} {en:TypeId × Value -> H} {w:World} {v:Value} {d:DataW H} {ps:List MemPlace} {α:Type} {enc:α -> DV} {ok:α -> Prop} {sz:α -> Nat} (h:Opn P t 1 (fun a=>[enc a]) ok sz)
  (hx:DataW.Trod en P w 0 (fun _=>true) true t v d ps) (h1:v.oneCell' = true):∃ a,ok a /\ Rd w g0 All (.d (enc a)) v /\ sz a <= bulk d:=by
 obtain ⟨fuel,hf⟩:=hx;obtain ⟨a,ha,_,_,hr,hz⟩:=h.op hf;have hcs:v.cells.toList = [v]:=by cases v <;> first | rfl | (simp [Value.oneCell'] at h1;done)
 exact ⟨a,ha,.d (hr 0 _ v rfl (by rw [hcs];rfl)),hz⟩
theorem Opn.argAgg {H:Type} {en:TypeId × Value -> H} {w:World} {us:Array Value} {d:DataW H} {ps:List MemPlace} {k:Nat} {α:Type} {enc:α -> List DV} {ok:α -> Prop} {sz:α -> Nat} (h:Opn P t k enc ok sz)
  (hx:DataW.Trod en P w 0 (fun _=>true) true t (.agg us) d ps):∃ a,ok a /\ Rd w g0 All (.agg (List.map .d (enc a))) (.agg us) /\ sz a <= bulk d:=by
 obtain ⟨fuel,hf⟩:=hx;obtain ⟨a,ha,hl,hel,hr,hz⟩:=h.op hf;have hcs:(Value.agg us).cells.toList = us.toList:=rfl;rw [hcs] at hl hr;refine ⟨a,ha,?_,hz⟩;have key:∀ (i:Nat) (y:DV) (u:Value),(enc a)[i]? = some y -> us.toList[i]? = some u -> DRd w All y u:=hr;have:=Rd.agg (w:=w) (g:=g0) (S:=All) ((enc a).map .d) us.toList (by simp [hel,hl]) (fun i p u hp hu=>by
  rw [List.getElem?_map] at hp
  cases hy:(enc a)[i]? with
  | none=>simp [hy] at hp
  | some y=>simp [hy] at hp;subst hp;exact .d (key i y u hy hu)) (fun u hu=>by
  obtain ⟨i,hi,rfl⟩:=List.getElem_of_mem hu;have hi2:i < (enc a).length:=by omega
  exact (key i _ _ (List.getElem?_eq_getElem hi2) (List.getElem?_eq_getElem hi)).one)
 simpa using this

theorem VD {H:Type} {en:TypeId × Value -> H} (hl:laidOutB P = true) {W W':World} (hb:Below W.heap.size W W'):∀ {ts:List TypeId} {vs:List Value} {ds:List (DataW H)} {ps:List MemPlace},
  (∀ t ∈ ts,P.readableRec t = true /\ t < P.types.size) -> DataW.TrodAll en P W 0 (fun _=>true) true ts vs ds ps -> (∀ x ∈ ps,x.block < W.heap.size) -> DataW.TrodAll en P W' 0 (fun b=>decide (b < W.heap.size)) true ts vs ds ps
 | [],[],[],ps,_,h,_=>h
 | t :: ts,v :: vs,d :: ds,ps,hr,h,hlt=>by
  obtain ⟨p,q,h1,h2,rfl⟩:=h;have hrt:=hr t (by simp);exact ⟨p,q,Below.trod hl hrt.1 hrt.2 h1 hb (fun x hx=>hlt x (List.mem_append.2 (.inl hx))),VD hl hb (fun t ht=>hr t (by simp [ht])) h2 (fun x hx=>hlt x (List.mem_append.2 (.inr hx))),rfl⟩
 | [],[],_ :: _,_,_,h,_=>h.elim
 | [],_ :: _,_,_,_,h,_=>h.elim
 | _ :: _,[],_,_,_,h,_=>h.elim
 | _ :: _,_ :: _,[],_,_,h,_=>h.elim
theorem jX {H:Type} {en:TypeId × Value -> H} {w:World} {base:Nat} {sp:Nat -> Bool} {hd:Bool}:∀ {ts:List TypeId} {vs:List Value} {ds:List (DataW H)} {ps:List MemPlace},DataW.TrodAll en P w base sp hd ts vs ds ps -> ds.length = ts.length
 | [],[],[],_,_=>rfl
 | _ :: _,_ :: _,_ :: _,_,h=>by
  obtain ⟨_,_,_,h2,_⟩:=h;simp [jX h2]
 | [],[],_ :: _,_,h=>h.elim
 | [],_ :: _,_,_,h=>h.elim
 | _ :: _,[],_,_,h=>h.elim
 | _ :: _,_ :: _,[],_,h=>h.elim

theorem vDa {H:Type} {en:TypeId × Value -> H} {fn:Func} {s:ChangeSpec} {tb:TypeId} {W W':World} {args:Array Value} {ds gs:List (DataW H)} {before:List MemPlace} (hl:laidOutB P = true)
  (hW:DataW.Whole en P fn.params.toList s.vars false W args.toList ds gs before) (hv:s.vars = []) (hs:∀ ds:List (DataW H),ds.length = fn.params.size -> (s.fn H ds).results = [.lit (.bool true)] /\ (s.fn H ds).args = ds /\ (s.fn H ds).vars = [])
  (hres:fn.resultTypes = #[tb]) (htb:P.underlying tb = some .bool) (hr:∀ t ∈ fn.params.toList,P.readableRec t = true /\ t < P.types.size) (hb:Below W.heap.size W W') :
  s.post en P fn false true false false W args (.bool true) W':=by
 have hW':=hW;obtain ⟨p,q,hA,hV,hpq,hfz,hnd⟩:=hW;rw [hv] at hV;obtain ⟨rfl,rfl⟩:=trodVars_none hV;simp only [List.append_nil] at hpq;subst hpq;have hlt:∀ x ∈ before,x.block < W.heap.size:=fun x hx=>by simpa using hW'.lt x hx
 have hlen:ds.length = fn.params.size:=by simpa using jX hA
 obtain ⟨e1,e2,e3⟩:=hs (ds ++ []) (by simpa using hlen);refine ⟨ds,[],before,[],before,[],hW',?_,?_,?_,hb.frame _,fun h=>by cases h⟩
 ·rw [e1,hres];exact trodAll_mk1 (shut_bool htb true)
 ·rw [e2,List.append_nil];exact VD hl hb hr hA hlt
 ·rw [e3,hv];rfl
end
end Go.Ep

namespace Go.Ep
set_option linter.unusedVariables false

def TDot.ok (x:TDot):Prop:=okK .u16 x.dev /\ okK .u64 x.n
def TDot.sz (x:TDot):Nat:=(1 + (1 + 0)) + 1
def TRun.ok (x:TRun):Prop:=okK .u64 x.lo /\ okK .u64 x.hi
def TRun.sz (x:TRun):Nat:=(1 + (1 + 0)) + 1
def TPart.ok (x:TPart):Prop:=okK .u16 x.dev /\ (List.length x.runs <= 9223372036854775807 /\ ∀ a ∈ x.runs,TRun.ok a)
def TPart.sz (x:TPart):Nat:=(1 + ((szL TRun.sz x.runs + 1) + 0)) + 1
def TEvent.ok (x:TEvent):Prop:=TDot.ok x.dot /\ okK .u8 x.kind /\ okK .u64 x.cid /\ okK .u8 x.field /\ ByteArray.size x.text <= 9223372036854775807 /\ (List.length x.kills <= 9223372036854775807 /\ ∀ a ∈ x.kills,TDot.ok a)
def TEvent.sz (x:TEvent):Nat:=(TDot.sz x.dot + (1 + (1 + (1 + ((ByteArray.size x.text + 1) + ((szL TDot.sz x.kills + 1) + 0)))))) + 1
def TDelta.ok (x:TDelta):Prop:=(List.length x.from_ <= 9223372036854775807 /\ ∀ a ∈ x.from_,TPart.ok a) /\ (List.length x.to_ <= 9223372036854775807 /\ ∀ a ∈ x.to_,TPart.ok a) /\ (List.length x.events <= 9223372036854775807 /\ ∀ a ∈ x.events,TEvent.ok a)
def TDelta.sz (x:TDelta):Nat:=((szL TPart.sz x.from_ + 1) + ((szL TPart.sz x.to_ + 1) + ((szL TEvent.sz x.events + 1) + 0))) + 1
def L18Act.ok (x:L18Act):Prop:=okK .u8 x.kind /\ TEvent.ok x.event /\ (List.length x.ctx <= 9223372036854775807 /\ ∀ a ∈ x.ctx,TPart.ok a)
def L18Act.sz (x:L18Act):Nat:=(1 + (TEvent.sz x.event + ((szL TPart.sz x.ctx + 1) + 0))) + 1
end Go.Ep
namespace Go.Proofs
open Go.Ep
set_option maxRecDepth 100000
theorem opnTDot : Opn Tryz.prog 66 2 TDot.e TDot.ok TDot.sz:=(Opn.struct Tryz.underlying66 (by kernel_rfl) (OpnF.cons (Opn.int Tryz.underlying50 (by kernel_rfl)) rfl (OpnF.cons (Opn.int Tryz.underlying64 (by kernel_rfl)) rfl (OpnF.nil _)))).map (fun p=>⟨p.1,p.2.1⟩) (fun _ _=>rfl) (fun p h=>⟨h.1,h.2.1⟩) (fun _=>Nat.le_refl _)
theorem opnTRun : Opn Tryz.prog 78 2 TRun.e TRun.ok TRun.sz:=(Opn.struct Tryz.underlying78 (by kernel_rfl) (OpnF.cons (Opn.int Tryz.underlying64 (by kernel_rfl)) rfl (OpnF.cons (Opn.int Tryz.underlying64 (by kernel_rfl)) rfl (OpnF.nil _)))).map (fun p=>⟨p.1,p.2.1⟩) (fun _ _=>rfl) (fun p h=>⟨h.1,h.2.1⟩) (fun _=>Nat.le_refl _)
theorem opnTPart : Opn Tryz.prog 81 2 TPart.e TPart.ok TPart.sz:=(Opn.struct Tryz.underlying81 (by kernel_rfl) (OpnF.cons (Opn.int Tryz.underlying50 (by kernel_rfl)) rfl (OpnF.cons (opnTRun.slice Tryz.underlying79 (by kernel_rfl) (by decide)) rfl (OpnF.nil _)))).map (fun p=>⟨p.1,p.2.1⟩) (fun _ _=>rfl) (fun p h=>⟨h.1,h.2.1⟩) (fun _=>Nat.le_refl _)
theorem opnTEvent : Opn Tryz.prog 69 7 TEvent.e TEvent.ok TEvent.sz:=(Opn.struct Tryz.underlying69 (by kernel_rfl) (OpnF.cons opnTDot rfl (OpnF.cons (Opn.int Tryz.underlying5 (by kernel_rfl)) rfl (OpnF.cons (Opn.int Tryz.underlying64 (by kernel_rfl)) rfl (OpnF.cons (Opn.int Tryz.underlying5 (by kernel_rfl)) rfl (OpnF.cons (Opn.str Tryz.underlying9 (by kernel_rfl)) rfl (OpnF.cons (opnTDot.slice Tryz.underlying67 (by kernel_rfl) (by decide)) rfl (OpnF.nil _)))))))).map (fun p=>⟨p.1,p.2.1,p.2.2.1,p.2.2.2.1,p.2.2.2.2.1,p.2.2.2.2.2.1⟩) (fun _ _=>rfl) (fun p h=>⟨h.1,h.2.1,h.2.2.1,h.2.2.2.1,h.2.2.2.2.1,h.2.2.2.2.2.1⟩) (fun _=>Nat.le_refl _)
theorem vEa : Opn Tryz.prog 26 3 TDelta.e TDelta.ok TDelta.sz:=(Opn.struct Tryz.underlying26 (by kernel_rfl) (OpnF.cons (opnTPart.slice Tryz.underlying23 (by kernel_rfl) (by decide)) rfl (OpnF.cons (opnTPart.slice Tryz.underlying23 (by kernel_rfl) (by decide)) rfl (OpnF.cons (opnTEvent.slice Tryz.underlying24 (by kernel_rfl) (by decide)) rfl (OpnF.nil _))))).map (fun p=>⟨p.1,p.2.1,p.2.2.1⟩) (fun _ _=>rfl) (fun p h=>⟨h.1,h.2.1,h.2.2.1⟩) (fun _=>Nat.le_refl _)
theorem opnL18Act : Opn Tryz.prog 71 9 L18Act.e L18Act.ok L18Act.sz:=(Opn.struct Tryz.underlying71 (by kernel_rfl) (OpnF.cons (Opn.int Tryz.underlying5 (by kernel_rfl)) rfl (OpnF.cons opnTEvent rfl (OpnF.cons (opnTPart.slice Tryz.underlying23 (by kernel_rfl) (by decide)) rfl (OpnF.nil _))))).map (fun p=>⟨p.1,p.2.1,p.2.2.1⟩) (fun _ _=>rfl) (fun p h=>⟨h.1,h.2.1,h.2.2.1⟩) (fun _=>Nat.le_refl _)
end Go.Proofs


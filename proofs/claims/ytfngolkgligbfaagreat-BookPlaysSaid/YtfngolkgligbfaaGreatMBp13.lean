/- Texts that the walks and laws lean on, side by side. -/
import Derived.ProofKit
import Derived.Deep.Slices
import Derived.Test.YtfngolkgligbfaaGreatProg
import Derived.KernelRfl
import Derived.Test.YtfngolkgligbfaaGreatMBp2
import Derived.Test.YtfngolkgligbfaaGreatMBp12
set_option linter.unusedVariables false
set_option linter.unusedSimpArgs false
namespace Go.Ep.M.G
open Go
open E (OkE goodE SrtE)
open F (hasD dotsL dotsE)

theorem srtE_ext : ∀ {l l':List TEvent},SrtE l → SrtE l' → (∀ d,d ∈ l ↔ d ∈ l') → l = l'
 | [],[],_,_,_=>rfl
 | [],y :: r,_,_,h=>by have:=(h y).2 (by simp);simp at this
 | x :: r,[],_,_,h=>by have:=(h x).1 (by simp);simp at this
 | x :: r,y :: t,h1,h2,h=>by
  have hx:=(h x).1 (by simp);have hy:=(h y).2 (by simp);have e:x = y:=by
   rcases List.mem_cons.1 hx with e | hx
   ·exact e
   ·rcases List.mem_cons.1 hy with e | hy
    ·exact e.symm
    ·have a1:=(List.pairwise_cons.1 h2).1 x hx;have a2:=(List.pairwise_cons.1 h1).1 y hy;rw [D.lt_asym a1] at a2;cases a2
  subst e
  congr 1
  refine srtE_ext (List.pairwise_cons.1 h1).2 (List.pairwise_cons.1 h2).2 fun d=>?_
  have h3:=h d;simp only [List.mem_cons] at h3
  constructor
  ·intro hd;rcases h3.1 (.inr hd) with e | h4
   ·have:=(List.pairwise_cons.1 h1).1 d hd;rw [e,D.lt_irr] at this;cases this
   ·exact h4
  ·intro hd;rcases h3.2 (.inr hd) with e | h4
   ·have:=(List.pairwise_cons.1 h2).1 d hd;rw [e,D.lt_irr] at this;cases this
   ·exact h4
theorem srtE_dots {l:List TEvent} (h:SrtE l):(l.map (·.dot)).Nodup:=by
 unfold List.Nodup;rw [List.pairwise_map];exact h.imp fun {a b} h e=>by rw [e,D.lt_irr] at h;cases h
theorem srtE_one {l:List TEvent} (h:SrtE l) {a b:TEvent} (ha:a ∈ l) (hb:b ∈ l) (e:a.dot = b.dot):a = b:=by
 induction l with
 | nil=>cases ha
 | cons x r ih=>
  obtain ⟨h1,h2⟩:=List.pairwise_cons.1 h;rcases List.mem_cons.1 ha with ea | ea <;> rcases List.mem_cons.1 hb with eb | eb
  ·rw [ea,eb]
  ·have:=h1 b eb;rw [← ea,e,D.lt_irr] at this;cases this
  ·have:=h1 a ea;rw [← eb,e,D.lt_irr] at this;cases this
  ·exact ih h2 ea eb
theorem srtE_filter {l:List TEvent} (h:SrtE l) (p:TEvent → Bool):SrtE (l.filter p):=h.sublist List.filter_sublist
theorem srtE_of {s:List TEvent} (hn:(s.map (·.dot)).Nodup) (h:s.Pairwise fun x y=>ltEvent y x = false):SrtE s:=by
 unfold List.Nodup at hn;rw [List.pairwise_map] at hn;refine (hn.and h).imp fun {a b} ⟨h1,h2⟩=>?_
 cases h3:ltDot a.dot b.dot with
 | true=>rfl
 | false=>exact absurd (D.lt_tri h3 h2) h1
theorem srt_wpE {l:List TEvent} {Q:List TEvent → Prop} (h:∀ s,s.Perm l → (s.Pairwise fun x y=>ltEvent y x = false) → Q s):(srt ltEvent l).wp Q:=by
 refine ⟨⟨l.mergeSort (fun x y=>!ltDot y.dot x.dot),List.mergeSort_perm _ _,?_⟩,fun s ⟨h1,h2⟩=>h s h1 h2⟩;refine (List.pairwise_mergeSort (fun a b c h1 h2=>?_) (fun a b=>?_) l).imp fun {x y} h=>by show ltDot y.dot x.dot = false;simpa using h
 ·simp only [Bool.not_eq_true'] at h1 h2 ⊢
  cases h3:ltDot c.dot a.dot with
  | false=>rfl
  | true=>
   rw [D.lt_iff] at h3;have h4:¬ (ltDot b.dot a.dot = true):=by simp [h1]
   have h5:¬ (ltDot c.dot b.dot = true):=by simp [h2]
   rw [D.lt_iff] at h4 h5;omega
 ·cases h1:ltDot b.dot a.dot with
  | false=>rfl
  | true=>rw [D.lt_asym h1];rfl

def ent (e:TEvent):TDot × TEvent:=(e.dot,e)
theorem ent_inj {a b:TEvent} (h:ent a = ent b):a = b:=(Prod.mk.inj h).2
theorem mem_ent {l:List TEvent} {k:TDot × TEvent}:k ∈ l.map ent ↔ k.2 ∈ l ∧ k.1 = k.2.dot:=by
 rw [List.mem_map]
 constructor
 ·rintro ⟨e,h,rfl⟩;exact ⟨h,rfl⟩
 ·rintro ⟨h1,h2⟩;exact ⟨k.2,h1,by unfold ent;rw [← h2]⟩
def Holds (m:List (TDot × TEvent)) (l:List TEvent):Prop:=m.Perm (l.map ent)
theorem Holds.keys {m:List (TDot × TEvent)} {l:List TEvent} (h:Holds m l) (hs:SrtE l):(m.map (·.1)).Nodup:=by
 have h1:=h.map (·.1);rw [List.map_map] at h1;exact h1.nodup_iff.2 (srtE_dots hs)
theorem Holds.mem {m:List (TDot × TEvent)} {l:List TEvent} (h:Holds m l) {k:TDot × TEvent}:k ∈ m ↔ k.2 ∈ l ∧ k.1 = k.2.dot:=by rw [h.mem_iff,mem_ent]
theorem Holds.len {m:List (TDot × TEvent)} {l:List TEvent} (h:Holds m l):m.length = l.length:=by rw [h.length_eq,List.length_map]
theorem nodup_ent {l:List TEvent} (h:SrtE l):(l.map ent).Nodup:=by
 unfold List.Nodup;rw [List.pairwise_map];exact h.imp fun {a b} h e=>by rw [ent_inj e,D.lt_irr] at h;cases h
theorem Holds.nodup {m:List (TDot × TEvent)} {l:List TEvent} (h:Holds m l) (hs:SrtE l):m.Nodup:=h.nodup_iff.2 (nodup_ent hs)
theorem holds_of {m:List (TDot × TEvent)} {l:List TEvent} (hn:(m.map (·.1)).Nodup) (hs:SrtE l) (h:∀ k,k ∈ m ↔ k.2 ∈ l ∧ k.1 = k.2.dot):Holds m l:=by
 have hm:m.Nodup:=by
  unfold List.Nodup at hn ⊢;rw [List.pairwise_map] at hn;exact hn.imp fun {a b} h e=>h (by rw [e])
 exact (List.perm_ext_iff_of_nodup hm (nodup_ent hs)).2 fun k=>by rw [h,mem_ent]
theorem Copy_eq (e:TEvent) (h:e.kills.length ≤ 1000000000000):event_Copy e = pure e:=by
 unfold event_Copy;rw [D.Clone_eq e.kills h,det_pure,pure_bind]
theorem take_loop {body:List Nat × List TEvent → M (Step (List Nat × List TEvent) (List TEvent))} (m:List (TDot × TEvent)) (hb:body = fun ⟨seen,out⟩=>need (∀ i ∈ seen,i < m.length)<|M.bind (nxt m.length seen) fun o=>match o with
  | none=>pure (.done out)
  | some j=>M.bind (idx m (Int.ofNat j)) fun kv=>M.bind (det (event_Copy kv.2)) fun v=>need ((List.length out + List.length [v]) * 80 ≤ 140737488355328)<|pure (.next (seen ++ [j],out ++ [v])))
  (hl:m.length ≤ 500000000000) (hk:∀ k ∈ m,k.2.kills.length ≤ 1000000000000) (t0:List TEvent) (h0:t0.length ≤ 500000000000) {Q:List TEvent → Prop} (hQ:∀ l:List (TDot × TEvent),l.Perm m → Q (t0 ++ l.map (·.2))):(loop body ([],t0)).wp Q:=by
 refine M.loopM (body:=body) m (fun L (t:List TEvent)=>(L,t)) (fun t e=>(event_Copy e.2).det.bind fun v=>need ((t.length + 1) * 80 ≤ 140737488355328) (pure (t ++ [v]))) (fun t=>pure t)
  (fun l t=>t = t0 ++ l.map (·.2)) Q (fun L t hL=>?_) (fun l t y ht hlen hy=>?_) (fun l t hp ht=>?_) t0 (by simp)
 ·subst hb;show need _ ((nxt _ _).bind _) = need _ ((nxt _ _).bind _);refine congrArg (fun k=>need _ ((nxt _ _).bind k)) (funext fun o=>?_)
  cases o with
  | none=>rfl
  | some i=>rfl
 ·rw [Copy_eq y.2 (hk y hy),det_pure,pure_bind];subst ht;exact ⟨_,need_true (by simp;omega) _,by simp⟩
 ·subst ht;exact hQ l hp
theorem list1_eq {nl:Bool} {m:List (TDot × TEvent)} {l:List TEvent} (hm:Holds m l) (hs:SrtE l) (hl:l.length ≤ 500000000000) (hk:∀ e ∈ l,e.kills.length ≤ 1000000000000):book_list1_o nl m = pure l:=by
 unfold book_list1_o;refine eq_pure (take_loop (body:=book_list1_o_l0 m) m rfl (by rw [hm.len];exact hl) (fun k h=>hk _ (hm.mem.1 h).1) [] (by simp) fun q hq=>?_);show (need _ _).wp _;have hp:(q.map (·.2)).Perm l:=by
  have:=(hq.trans hm).map (·.2);rw [List.map_map] at this;simpa [Function.comp_def,ent] using this
 rw [List.nil_append,need_true (by rw [hp.length_eq];omega)];refine srt_wpE fun s h1 h2=>?_
 show s = l;have h3:=h1.trans hp;exact srtE_ext (srtE_of ((h3.map (·.dot)).nodup_iff.2 (srtE_dots hs)) h2) hs fun d=>h3.mem_iff
theorem list2_eq {nl1 nl2:Bool} {m1 m2:List (TDot × TEvent)} {l l1 l2:List TEvent} (h1:Holds m1 l1) (h2:Holds m2 l2) (hp:(l1 ++ l2).Perm l) (hs:SrtE l) (hl:l.length ≤ 200000000000) (hk:∀ e ∈ l,e.kills.length ≤ 1000000000000):book_list2_o nl1 m1 nl2 m2 = pure l:=by
 have hll:=hp.length_eq;rw [List.length_append] at hll;have hk1:∀ k ∈ m1,k.2.kills.length ≤ 1000000000000:=fun k h=>hk _ (hp.mem_iff.1 (List.mem_append_left _ (h1.mem.1 h).1))
 have hk2:∀ k ∈ m2,k.2.kills.length ≤ 1000000000000:=fun k h=>hk _ (hp.mem_iff.1 (List.mem_append_right _ (h2.mem.1 h).1))
 unfold book_list2_o;refine eq_pure (take_loop (body:=book_list2_o_l0 m1) m1 rfl (by rw [h1.len];omega) hk1 [] (by simp) fun q hq=>?_);have hq1:(q.map (·.2)).Perm l1:=by
  have:=(hq.trans h1).map (·.2);rw [List.map_map] at this;simpa [Function.comp_def,ent] using this
 refine take_loop (body:=book_list2_o_l1 m2) m2 rfl (by rw [h2.len];omega) hk2 _ (by rw [List.nil_append,hq1.length_eq];omega) fun q2 hq2=>?_
 have hq3:(q2.map (·.2)).Perm l2:=by
  have:=(hq2.trans h2).map (·.2);rw [List.map_map] at this;simpa [Function.comp_def,ent] using this
 show (need _ _).wp _;rw [List.nil_append];have hpp:(q.map (·.2) ++ q2.map (·.2)).Perm l:=(hq1.append hq3).trans hp;rw [need_true (by rw [hpp.length_eq];omega)];refine srt_wpE fun s h3 h4=>?_
 show s = l;have h5:=h3.trans hpp;exact srtE_ext (srtE_of ((h5.map (·.dot)).nodup_iff.2 (srtE_dots hs)) h4) hs fun d=>h5.mem_iff

open E (OkE goodE SrtE)
open F (hasD dotsL dotsE deadE)

section
variable {κ ν:Type} [DecidableEq κ]
theorem del_sub (m:List (κ × ν)) (x:κ):(AL.del m x).Sublist m:=by
 induction m with
 | nil=>exact List.Sublist.slnil
 | cons k r ih=>
  obtain ⟨k,v⟩:=k;unfold AL.del
  split
  ·exact List.sublist_cons_self _ _
  ·exact ih.cons_cons _
theorem mem_del {m:List (κ × ν)} (hn:(m.map (·.1)).Nodup) (x:κ) (k:κ × ν):k ∈ AL.del m x ↔ k ∈ m ∧ k.1 ≠ x:=by
 induction m with
 | nil=>simp [AL.del]
 | cons y r ih=>
  obtain ⟨q,v⟩:=y;rw [List.map_cons,List.nodup_cons] at hn;unfold AL.del
  split
  ·rename_i e
   subst e;rw [List.mem_cons]
   constructor
   ·intro h;exact ⟨.inr h,fun e=>hn.1 (e ▸ List.mem_map.2 ⟨k,h,rfl⟩)⟩
   ·rintro ⟨h | h,h2⟩
    ·subst h;exact absurd rfl h2
    ·exact h
  ·rename_i e
   rw [List.mem_cons,List.mem_cons,ih hn.2]
   constructor
   ·rintro (h | ⟨h,h2⟩)
    ·subst h;exact ⟨.inl rfl,e⟩
    ·exact ⟨.inr h,h2⟩
   ·rintro ⟨h | h,h2⟩
    ·exact .inl h
    ·exact .inr ⟨h,h2⟩
theorem mem_set {m:List (κ × ν)} (hn:(m.map (·.1)).Nodup) (x:κ) (v:ν) (k:κ × ν):k ∈ AL.set m x v ↔ (k ∈ m ∧ k.1 ≠ x) ∨ k = (x,v):=by
 induction m with
 | nil=>simp [AL.set]
 | cons y r ih=>
  obtain ⟨q,u⟩:=y;rw [List.map_cons,List.nodup_cons] at hn;unfold AL.set
  split
  ·rename_i e
   subst e;rw [List.mem_cons,List.mem_cons]
   constructor
   ·rintro (h | h)
    ·exact .inr h
    ·exact .inl ⟨.inr h,fun e=>hn.1 (e ▸ List.mem_map.2 ⟨k,h,rfl⟩)⟩
   ·rintro (⟨h | h,h2⟩ | h)
    ·subst h;exact absurd rfl h2
    ·exact .inr h
    ·exact .inl h
  ·rename_i e
   rw [List.mem_cons,List.mem_cons,ih hn.2]
   constructor
   ·rintro (h | ⟨h,h2⟩ | h)
    ·subst h;exact .inl ⟨.inl rfl,e⟩
    ·exact .inl ⟨.inr h,h2⟩
    ·exact .inr h
   ·rintro (⟨h | h,h2⟩ | h)
    ·exact .inl h
    ·exact .inr (.inl ⟨h,h2⟩)
    ·exact .inr (.inr h)
end
theorem Holds.del {m:List (TDot × TEvent)} {l:List TEvent} (h:Holds m l) (hs:SrtE l) (d:TDot):Holds (AL.del m d) (l.filter fun e=>!decide (e.dot = d)):=
 holds_of ((h.keys hs).sublist ((del_sub m d).map _)) (srtE_filter hs _) fun k=>by
  rw [mem_del (h.keys hs),h.mem,List.mem_filter]
  constructor
  ·rintro ⟨⟨h1,h2⟩,h3⟩;exact ⟨⟨h1,by rw [h2] at h3;simp [h3]⟩,h2⟩
  ·rintro ⟨⟨h1,h3⟩,h2⟩;exact ⟨⟨h1,h2⟩,by rw [h2];simpa using h3⟩
theorem hasD_iff {l:List TDot} {d:TDot}:hasD l d = true ↔ d ∈ l:=by
 unfold hasD;rw [List.any_eq_true]
 constructor
 ·rintro ⟨x,h1,h2⟩;rw [← of_decide_eq_true h2];exact h1
 ·intro h;exact ⟨d,h,by simp⟩
theorem hasD_cons (x:TDot) (r:List TDot) (d:TDot):hasD (x :: r) d = (decide (x = d) || hasD r d):=rfl
theorem Holds.dels : ∀ (ks:List TDot) {m:List (TDot × TEvent)} {l:List TEvent},Holds m l → SrtE l → Holds (ks.foldl AL.del m) (l.filter fun e=>!hasD ks e.dot)
 | [],m,l,h,_=>by
  have:(l.filter fun e=>!hasD [] e.dot) = l:=List.filter_eq_self.2 fun _ _=>rfl
  rw [this];exact h
 | d :: r,m,l,h,hs=>by
  have h1:=Holds.dels r (h.del hs d) (srtE_filter hs _);rw [List.filter_filter] at h1;rw [List.foldl_cons];have:(fun e:TEvent=>!hasD (d :: r) e.dot) = fun e=>(!hasD r e.dot) && !decide (e.dot = d):=funext fun e=>by
   rw [hasD_cons,Bool.not_or,Bool.and_comm]
   congr 2
   exact decide_eq_decide.2 ⟨Eq.symm,Eq.symm⟩
  rw [this];exact h1
def insE (l:List TEvent) (e:TEvent):List TEvent:=(l.filter fun x=>ltDot x.dot e.dot) ++ [e] ++ (l.filter fun x=>ltDot e.dot x.dot)
theorem insE_srt {l:List TEvent} (hs:SrtE l) (e:TEvent):SrtE (insE l e):=by
 unfold insE SrtE;rw [List.pairwise_append,List.pairwise_append];refine ⟨⟨srtE_filter hs _,by simp,fun a ha b hb=>?_⟩,srtE_filter hs _,fun a ha b hb=>?_⟩
 ·rw [List.mem_singleton.1 hb];exact (List.mem_filter.1 ha).2
 ·have h2:=(List.mem_filter.1 hb).2;rcases List.mem_append.1 ha with h | h
  ·exact D.lt_trans (List.mem_filter.1 h).2 h2
  ·rw [List.mem_singleton.1 h];exact h2
theorem insE_mem {l:List TEvent} {e:TEvent} (hn:∀ x ∈ l,x.dot ≠ e.dot) {x:TEvent}:x ∈ insE l e ↔ x = e ∨ x ∈ l:=by
 unfold insE;rw [List.mem_append,List.mem_append,List.mem_filter,List.mem_filter,List.mem_singleton]
 constructor
 ·rintro ((⟨h,_⟩ | h) | ⟨h,_⟩)
  ·exact .inr h
  ·exact .inl h
  ·exact .inr h
 ·rintro (h | h)
  ·exact .inl (.inr h)
  ·cases h1:ltDot x.dot e.dot with
   | true=>exact .inl (.inl ⟨h,rfl⟩)
   | false=>
    cases h2:ltDot e.dot x.dot with
    | true=>exact .inr ⟨h,rfl⟩
    | false=>exact absurd (D.lt_tri h1 h2) (hn x h)
theorem insE_len (l:List TEvent) (e:TEvent) (hs:SrtE l):(insE l e).length ≤ l.length + 1:=by
 unfold insE;have h:∀ q:List TEvent,(q.filter fun x=>ltDot x.dot e.dot).length + (q.filter fun x=>ltDot e.dot x.dot).length ≤ q.length:=by
  intro q
  induction q with
  | nil=>simp
  | cons x r ih=>
   rw [List.filter_cons,List.filter_cons]
   cases h1:ltDot x.dot e.dot with
   | true=>rw [D.lt_asym h1];simp;omega
   | false=>simp only [Bool.false_eq_true,if_false];split <;> simp <;> omega
 have:=h l;simp;omega
theorem Holds.add {m:List (TDot × TEvent)} {l:List TEvent} (h:Holds m l) (hs:SrtE l) {e:TEvent} (hn:∀ x ∈ l,x.dot ≠ e.dot):Holds (AL.set m e.dot e) (insE l e):=
 holds_of (AL.nodup_set (h.keys hs) _ _) (insE_srt hs e) fun k=>by
  rw [mem_set (h.keys hs),h.mem,insE_mem hn]
  constructor
  ·rintro (⟨⟨h1,h2⟩,h3⟩ | h1)
   ·exact ⟨.inr h1,h2⟩
   ·rw [h1];exact ⟨.inl rfl,rfl⟩
  ·rintro ⟨h1 | h1,h2⟩
   ·refine .inr ?_;obtain ⟨k1,k2⟩:=k;simp only at h1 h2;rw [h2,h1]
   ·exact .inl ⟨⟨h1,h2⟩,by rw [h2];exact hn _ h1⟩

theorem filtL {ρ:Type} {body:Int × List TEvent → M (Step (Int × List TEvent) ρ)} (l:List TEvent) (p:TEvent → Bool) (g:List TEvent → M ρ)
  (h1:∀ (i:Nat) (x:TEvent) (t:List TEvent),l[i]? = some x → i < l.length → t.length ≤ i → body ((i:Int),t) = pure (.next (((i + 1:Nat):Int),if p x then t ++ [x] else t)))
  (h2:∀ t,body ((l.length:Int),t) = (g t).bind fun r=>pure (.done r)):loop body (0,[]) = g (l.filter p):=by
 have h:=loopL (body:=body) l (fun i (t:List TEvent)=>((i:Int),t)) (fun t x=>if p x then t ++ [x] else t) g (fun i t=>t.length ≤ i)
  (fun i x t hx hi hI=>⟨h1 i x t hx hi hI,by split <;> (try rw [List.length_append,List.length_singleton]) <;> omega⟩) (fun t _=>h2 t) [] (Nat.le_refl _)
 have hf:∀ (q t:List TEvent),q.foldl (fun t x=>if p x then t ++ [x] else t) t = t ++ q.filter p:=by
  intro q
  induction q with
  | nil=>intro t;simp
  | cons x r ih=>intro t;rw [List.foldl_cons,ih,List.filter_cons];split <;> simp
 rw [hf,List.nil_append] at h;exact h
theorem rPutI_eq (l:List TEvent) (e:TEvent) (hs:SrtE l) (hn:∀ x ∈ l,x.dot ≠ e.dot) (hl:l.length ≤ 1000000000):r13_Put l e = pure (insE l e):=by
 unfold r13_Put;have h:=loopL (body:=r13_Put_l0 l e) l (fun i (t:Bool × List TEvent)=>(t.1,(i:Int),t.2)) (fun t x=>((t.1 || !ltDot x.dot e.dot),(if (!ltDot x.dot e.dot && !t.1) = true then t.2 ++ [e] else t.2) ++ [x])) (fun t=>pure (Ex.brk (t.1,t.2)))
  (fun i t=>t.2.length ≤ i + 1 ∧ (t.1 = false → t.2.length ≤ i)) (fun i x t hx hi hI=>by
   obtain ⟨dn,out⟩:=t;have c0:x.dot ≠ e.dot:=hn x (List.mem_of_getElem? hx);have hz:V.cmpD x.dot e.dot ≠ 0:=by
    unfold V.cmpD;rw [if_neg c0];split <;> decide
   have hpos:decide (0 < V.cmpD x.dot e.dot) = !ltDot x.dot e.dot:=by
    by_cases c1:ltDot x.dot e.dot = true
    ·have:=V.cmpD_neg.2 c1;rw [c1];simp;omega
    ·have h2:¬ V.cmpD x.dot e.dot < 0:=fun h=>c1 (V.cmpD_neg.1 h)
     simp only [Bool.not_eq_true] at c1;rw [c1];simp;omega
   have hc:decide ((i:Int) < (l.length:Int)) = true:=by simpa using hi
   have hI1:=hI.1;have hI2:=hI.2;simp only at hI1 hI2;refine ⟨?_,?_⟩
   ·unfold r13_Put_l0;simp only [hc,cond_true,idx_nat hx,pure_bind,V.r07_Cmp_eq,det_pure,decide_eq_false hz,cond_false,hpos]
    cases ltDot x.dot e.dot <;> cases dn <;> simp only [Bool.not_true,Bool.not_false,cond_true,cond_false,pure_bind,Bool.and_true,Bool.and_false,Bool.or_true,Bool.or_false,Bool.false_eq_true,if_true,if_false]
    ·rw [need_true (by simp;omega),pure_bind];simp only [];rw [need_true (by simp;omega),wSucc (show i < 9223372036854775807 by omega)]
    ·rw [need_true (by simp;omega),wSucc (show i < 9223372036854775807 by omega)]
    ·rw [need_true (by simp;omega),wSucc (show i < 9223372036854775807 by omega)]
    ·rw [need_true (by simp;omega),wSucc (show i < 9223372036854775807 by omega)]
   ·cases ltDot x.dot e.dot <;> cases dn <;> simp_all <;> omega) (fun t _=>by
   unfold r13_Put_l0;simp [pure_bind]) (false,[]) (by simp)
 have hA:∀ (q acc:List TEvent),q.foldl (fun (t:Bool × List TEvent) x=>((t.1 || !ltDot x.dot e.dot),(if (!ltDot x.dot e.dot && !t.1) = true then t.2 ++ [e] else t.2) ++ [x])) (true,acc) = (true,acc ++ q):=by
  intro q
  induction q with
  | nil=>intro acc;simp
  | cons x r ih=>intro acc;rw [List.foldl_cons];simp only [Bool.true_or,Bool.not_true,Bool.and_false,Bool.false_eq_true,if_false];rw [ih];simp
 have hB:∀ (q acc:List TEvent),SrtE q → (∀ x ∈ q,x.dot ≠ e.dot) → ∃ r:Bool × List TEvent,q.foldl (fun (t:Bool × List TEvent) x=>((t.1 || !ltDot x.dot e.dot),(if (!ltDot x.dot e.dot && !t.1) = true then t.2 ++ [e] else t.2) ++ [x])) (false,acc) = r ∧ (if r.1 = true then r.2 else r.2 ++ [e]) = acc ++ insE q e ∧ (r.1 = false → r.2.length = acc.length + q.length):=by
  intro q
  induction q with
  | nil=>intro acc _ _;exact ⟨(false,acc),rfl,by simp [insE],fun _=>by simp⟩
  | cons x r ih=>
   intro acc hs hn;obtain ⟨p1,p2⟩:=List.pairwise_cons.1 hs;rw [List.foldl_cons]
   cases c:ltDot x.dot e.dot with
   | true=>
    simp only [Bool.not_true,Bool.or_self,Bool.false_and,Bool.false_eq_true,if_false];obtain ⟨y,h1,h2,h3⟩:=ih (acc ++ [x]) p2 fun z hz=>hn z (by simp [hz])
    refine ⟨y,h1,?_,fun h=>by rw [h3 h];simp;omega⟩;rw [h2];unfold insE;rw [List.filter_cons,List.filter_cons,if_pos c,if_neg (by rw [D.lt_asym c];simp)];simp
   | false=>
    have hgt:ltDot e.dot x.dot = true:=by
     cases hh:ltDot e.dot x.dot with
     | true=>rfl
     | false=>exact absurd (D.lt_tri c hh) (hn x (by simp))
    simp only [Bool.not_false,Bool.or_true,Bool.and_self,if_true];rw [hA];refine ⟨_,rfl,?_,fun h=>by cases h⟩;rw [if_pos rfl];unfold insE;have e1:((x :: r).filter fun y=>ltDot y.dot e.dot) = []:=List.filter_eq_nil_iff.2 fun y hy=>by
     rcases List.mem_cons.1 hy with rfl | hy
     ·rw [c];simp
     ·rw [D.lt_asym (D.lt_trans hgt (p1 y hy))];simp
    have e2:((x :: r).filter fun y=>ltDot e.dot y.dot) = x :: r:=List.filter_eq_self.2 fun y hy=>by
     rcases List.mem_cons.1 hy with rfl | hy
     ·exact hgt
     ·exact D.lt_trans hgt (p1 y hy)
    rw [e1,e2];simp
 obtain ⟨r,h1,h2,h3⟩:=hB l [] hs hn;rw [h1] at h;have h':loop (r13_Put_l0 l e) (false,0,[]) = pure (Ex.brk (r.1,r.2)):=h;rw [h',pure_bind,exk_brk];obtain ⟨r1,r2⟩:=r
 cases r1 with
 | true=>
  simp only [Bool.not_true,cond_false,pure_bind];rw [if_pos rfl,List.nil_append] at h2;have h2:r2 = insE l e:=h2;rw [h2]
 | false=>
  have:=h3 rfl;simp only [List.length_nil,Nat.zero_add] at this;simp only [Bool.not_false,cond_true];rw [need_true (by simp;omega),pure_bind];rw [if_neg (by simp),List.nil_append] at h2;have h2:r2 ++ [e] = insE l e:=h2;rw [h2]
theorem good_kind {e:TEvent} (h:goodE e = true):e.kind = 1 ∨ e.kind = 2:=by
 simp only [goodE,E.goodK,Bool.and_eq_true,Bool.or_eq_true,decide_eq_true_eq] at h;rcases h.2.1 with h | h
 ·exact .inl h.1
 ·exact .inr h.1
theorem good_kills {e:TEvent} (h:goodE e = true):e.kills.length ≤ 256 ∧ D.Srt e.kills ∧ ∀ d ∈ e.kills,V.goodD d = true ∧ d ≠ e.dot:=by
 simp only [goodE,E.goodL,Bool.and_eq_true,decide_eq_true_eq,List.all_eq_true,Bool.not_eq_true',decide_eq_false_iff_not] at h;exact ⟨h.2.2.1,D.rise_iff.1 h.2.2.2.1,fun d hd=>h.2.2.2.2 d hd⟩
theorem good_dot {e:TEvent} (h:goodE e = true):V.goodD e.dot = true:=by
 simp only [goodE,Bool.and_eq_true] at h;exact h.1.2

open E (OkE goodE SrtE)
open F (hasD dotsL dotsE deadE)

def liveL (L:List TEvent):List TEvent:=L.filter fun e=>decide (e.kind = 1)
def tombL (L:List TEvent):List TEvent:=L.filter fun e=>decide (e.kind = 2)
theorem mem_live {L:List TEvent} {x:TEvent}:x ∈ liveL L ↔ x ∈ L ∧ x.kind = 1:=by simp [liveL]
theorem mem_tomb {L:List TEvent} {x:TEvent}:x ∈ tombL L ↔ x ∈ L ∧ x.kind = 2:=by simp [tombL]
theorem mem_dotsL {l:List TEvent} {d:TDot}:d ∈ dotsL l ↔ ∃ e ∈ l,d = e.dot ∨ d ∈ e.kills:=by simp [dotsL]
theorem dead_iff {l:List TEvent} {d:TDot}:deadE l d = true ↔ ∃ e ∈ l,d ∈ e.kills:=by
 unfold deadE;rw [List.any_eq_true];exact ⟨fun ⟨e,h1,h2⟩=>⟨e,h1,hasD_iff.1 h2⟩,fun ⟨e,h1,h2⟩=>⟨e,h1,hasD_iff.2 h2⟩⟩
structure Rep (n:Nat) (W c xc:List TPart) (nl1:Bool) (m1:List (TDot × TEvent)) (nl2:Bool) (m2:List (TDot × TEvent)) (L:List TEvent):Prop where
 ctx:c = C.normC W
 xctx:∀ k n,C.hasC xc k n = C.hasC W k n
 xok:C.Ok xc
 live:Holds m1 (liveL L)
 tomb:Holds m2 (tombL L)
 n1:nl1 = true → m1 = []
 n2:nl2 = true → m2 = []
 srt:SrtE L
 good:∀ e ∈ L,goodE e = true ∧ OkE e
 dots:∀ d ∈ dotsL L,C.hasC W d.dev d.n = true
 alive:∀ e ∈ L,e.kind = 1 → deadE L e.dot = false
 wl:W.length ≤ n
 wt:C.totC W ≤ n
 ll:L.length ≤ n
theorem ok_normW {W:List TPart} (h1:W.length ≤ 400000000) (h2:C.totC W ≤ 400000000):C.Ok (C.normC W):=
 ⟨fun p hp=>by have:=((C.canon_norm W).nf p hp).1;omega,by have:=C.len_normC W;omega,by have:=C.tot_normC W;omega⟩
section
variable {n:Nat} {W c xc:List TPart} {nl1:Bool} {m1:List (TDot × TEvent)} {nl2:Bool} {m2:List (TDot × TEvent)} {L:List TEvent}
theorem Rep.mono (hR:Rep n W c xc nl1 m1 nl2 m2 L) {k:Nat} (h:n ≤ k):Rep k W c xc nl1 m1 nl2 m2 L:=
 { hR with wl:=Nat.le_trans hR.wl h,wt:=Nat.le_trans hR.wt h,ll:=Nat.le_trans hR.ll h }
theorem Rep.okc (hR:Rep n W c xc nl1 m1 nl2 m2 L) (hn:n ≤ 100000000):C.Ok c:=by
 rw [hR.ctx];exact ok_normW (by have:=hR.wl;omega) (by have:=hR.wt;omega)
theorem Rep.has (hR:Rep n W c xc nl1 m1 nl2 m2 L) (hn:n ≤ 100000000) (d:TDot):ctx_Has c d = pure (C.hasC W d.dev d.n):=by
 rw [C.Has_eq c d (hR.okc hn).sm,hR.ctx,C.has_normC]
theorem Rep.rhas (hR:Rep n W c xc nl1 m1 nl2 m2 L) (d:TDot):r09_Has xc d = pure (C.hasC W d.dev d.n):=by
 rw [C.rHas_eq xc d hR.xok,hR.xctx]
theorem Rep.new : Rep 0 [] [] [] true [] true [] [] where
 ctx:=rfl
 xctx _ _:=rfl
 xok:=C.ok_nil
 live:=List.Perm.refl _
 tomb:=List.Perm.refl _
 n1 _:=rfl
 n2 _:=rfl
 srt:=List.Pairwise.nil
 good _ h:=by cases h
 dots _ h:=by cases h
 alive _ h:=by cases h
 wl:=Nat.le_refl _
 wt:=Nat.le_refl _
 ll:=Nat.le_refl _
theorem dels_nil (ks:List TDot):ks.foldl AL.del ([]:List (TDot × TEvent)) = []:=by
 induction ks with
 | nil=>rfl
 | cons d r ih=>rw [List.foldl_cons];exact ih
theorem add_eq {e:TEvent} (hk:e.kills.length ≤ 1000000000000) {nl:Bool} {m:List (TDot × TEvent)} (h:nl = true → m = []):book_add_o e nl m = pure (false,AL.set m e.dot e):=by
 unfold book_add_o;have h1:(cond nl (M.pure ([]:List (TDot × TEvent))) (M.pure m)) = M.pure m:=by
  cases nl with
  | true=>rw [h rfl];rfl
  | false=>rfl
 rw [h1,pure_bind,Copy_eq e hk,det_pure,pure_bind]
def putL (L:List TEvent) (e:TEvent):List TEvent:=insE (L.filter fun x=>!decide (x.kind = 1) || !hasD e.kills x.dot) e
theorem dels_loop (e:TEvent) (hk:e.kills.length ≤ 1000000000) (m:List (TDot × TEvent)):loop (book_Book_Put_o_l0 e) (0,m) = pure (e.kills.foldl AL.del m):=
 loopL (body:=book_Book_Put_o_l0 e) e.kills (fun i (t:List (TDot × TEvent))=>((i:Int),t)) AL.del (fun t=>pure t) (fun _ _=>True) (fun i x t hx hi _=>by
  have hd:decide ((i:Int) < (e.kills.length:Int)) = true:=by simpa using hi
  refine ⟨?_,trivial⟩;unfold book_Book_Put_o_l0;simp only [hd,cond_true,idx_nat hx,pure_bind,wSucc (show i < 9223372036854775807 by omega)]) (fun t _=>by
  unfold book_Book_Put_o_l0;simp [pure_bind]) m trivial
theorem rput_loop (e:TEvent) (hk:e.kills.length ≤ 1000000000) (xc:List TPart) (L:List TEvent) (hl:L.length ≤ 1000000000):loop (r18_Put_l0 ⟨xc,L⟩ e) (0,[]) = pure (L.filter fun x=>!decide (x.kind = 1) || !hasD e.kills x.dot):=
 filtL (body:=r18_Put_l0 ⟨xc,L⟩ e) L (fun x=>!decide (x.kind = 1) || !hasD e.kills x.dot) (fun t=>pure t) (fun i x t hx hi hI=>by
  have hd:decide ((i:Int) < (L.length:Int)) = true:=by simpa using hi
  unfold r18_Put_l0;have hh:r07_Has e.kills x.dot = pure (hasD e.kills x.dot):=E.rHas_eq e.kills x.dot (by omega);simp only [hd,cond_true,idx_nat hx,pure_bind,hh,det_pure,wSucc (show i < 9223372036854775807 by omega)]
  cases decide (x.kind = 1) <;> cases hasD e.kills x.dot <;> simp only [Bool.not_true,Bool.not_false,cond_true,cond_false,pure_bind,Bool.or_true,Bool.or_false,Bool.true_or,Bool.false_or,if_true,if_false,Bool.false_eq_true]
  all_goals (try rw [need_true (by simp;omega)])
  all_goals rfl) (fun t=>by
  unfold r18_Put_l0;simp [pure_bind])
theorem put_mem (hR:Rep n W c xc nl1 m1 nl2 m2 L) {e:TEvent} (hc:C.hasC W e.dot.dev e.dot.n = false) {x:TEvent}:x ∈ putL L e ↔ x = e ∨ (x ∈ L ∧ (x.kind ≠ 1 ∨ x.dot ∉ e.kills)):=by
 unfold putL;rw [insE_mem,List.mem_filter]
 ·simp only [Bool.or_eq_true,Bool.not_eq_true',decide_eq_false_iff_not,← Bool.not_eq_true (b:=hasD _ _),hasD_iff]
 ·intro x hx e1;have:=hR.dots x.dot (mem_dotsL.2 ⟨x,(List.mem_filter.1 hx).1,.inl rfl⟩);rw [e1,hc] at this;cases this
theorem Rep.put (hR:Rep n W c xc nl1 m1 nl2 m2 L) (hn:n ≤ 100000000) {e:TEvent} (oe:OkE e) (g:goodE e = true) (hc:C.hasC W e.dot.dev e.dot.n = false) :
  ∃ c' xc' nl1' m1' nl2' m2',book_Book_Put_o e c nl1 m1 nl2 m2 = pure (0,c',nl1',m1',nl2',m2') ∧ r18_Put ⟨xc,L⟩ e = pure (⟨xc',putL L e⟩,0) ∧ Rep (n + 600) (W ++ C.dotsC (dotsE [e])) c' xc' nl1' m1' nl2' m2' (putL L e):=by
 obtain ⟨k1,k2,k3⟩:=good_kills g;have hdl:(dotsL [e]).length ≤ 300:=by simp [dotsL];omega
 have hde:(dotsE [e]).length ≤ 300:=Nat.le_trans (D.sort_len _) hdl;have hne:∀ x ∈ L,x.dot ≠ e.dot:=fun x hx e1=>by
  have:=hR.dots x.dot (mem_dotsL.2 ⟨x,hx,.inl rfl⟩);rw [e1,hc] at this;cases this
 have hadd:ctx_Add c (dotsE [e]) = pure (C.normC (W ++ C.dotsC (dotsE [e]))):=by
  have h:=hR.okc hn;rw [C.Add_eq c (dotsE [e]) (by omega) h.len h.tot,hR.ctx,C.or_norm]
 have hxok:C.Ok (C.normC (C.dotsC (dotsE [e]))):=C.ok_dots (by omega);have hjoin:r09_Join xc (C.normC (C.dotsC (dotsE [e]))) = pure (C.opC (· || ·) xc (C.normC (C.dotsC (dotsE [e])))):=C.rJoin_eq _ _ hR.xok hxok;have hxe:C.opC (· || ·) xc (C.normC (C.dotsC (dotsE [e]))) = C.normC (W ++ C.dotsC (dotsE [e])):=(C.canon_op rfl _ _).ext (C.canon_norm _) fun k n=>by
  rw [C.has_opC rfl,C.has_normC,C.has_normC,C.hasC_app,hR.xctx]
 have hW1:(W ++ C.dotsC (dotsE [e])).length ≤ n + 600:=by have:=hR.wl;have:=C.dots_len (dotsE [e]);rw [List.length_append];omega
 have hW2:C.totC (W ++ C.dotsC (dotsE [e])) ≤ n + 600:=by have:=hR.wt;have:=C.dots_tot (dotsE [e]);rw [C.totC_app];omega
 have hsP:SrtE (putL L e):=insE_srt (srtE_filter hR.srt _) e;have hmem:=fun x=>put_mem (x:=x) hR hc
 -- the document
 have hr:r18_Put ⟨xc,L⟩ e = pure (⟨C.normC (W ++ C.dotsC (dotsE [e])),putL L e⟩,0):=by
  unfold r18_Put;rw [E.rGood_eq oe,det_pure,pure_bind,g,Bool.not_true,cond_false];rw [show (⟨xc,L⟩:R18Book).ctx = xc from rfl,hR.rhas,det_pure,pure_bind,hc,cond_false,rput_loop e (by omega) xc L (by have:=hR.ll;omega),pure_bind];rw [F.rDots_eq [e] (by simp) (fun x hx=>by rw [List.mem_singleton.1 hx];omega),det_pure,pure_bind,C.rOf_eq _ (by omega),det_pure,pure_bind,hjoin,det_pure,pure_bind,hxe];rw [rPutI_eq _ e (srtE_filter hR.srt _) (fun x hx=>hne x (List.mem_filter.1 hx).1) (by have:=List.length_filter_le (fun x:TEvent=>!decide (x.kind = 1) || !hasD e.kills x.dot) L;have:=hR.ll;omega),det_pure,pure_bind]
  rfl
 have hdots:∀ d ∈ dotsL (putL L e),C.hasC (W ++ C.dotsC (dotsE [e])) d.dev d.n = true:=fun d hd=>by
  rw [C.hasC_app];obtain ⟨x,hx,h⟩:=mem_dotsL.1 hd;rcases (hmem x).1 hx with rfl | ⟨hx,_⟩
  ·rw [Bool.or_eq_true];refine .inr ((C.has_dots _ _ _).2 ⟨d,D.sort_mem.2 (mem_dotsL.2 ⟨x,by simp,h⟩),?_,rfl,rfl⟩);rcases h with rfl | h
   ·exact good_dot g
   ·exact (k3 d h).1
  ·rw [hR.dots d (mem_dotsL.2 ⟨x,hx,h⟩)];rfl
 have halive:∀ x ∈ putL L e,x.kind = 1 → deadE (putL L e) x.dot = false:=fun x hx h1=>by
  rw [← Bool.not_eq_true,dead_iff];rintro ⟨y,hy,h2⟩;rcases (hmem x).1 hx with rfl | ⟨hx,h3⟩ <;> rcases (hmem y).1 hy with rfl | ⟨hy,_⟩
  ·exact (k3 _ h2).2 rfl
  ·have:=hR.dots _ (mem_dotsL.2 ⟨y,hy,.inr h2⟩);rw [hc] at this;cases this
  ·exact h3.elim (fun h=>h h1) (fun h=>h h2)
  ·have:=hR.alive x hx h1;rw [← Bool.not_eq_true,dead_iff] at this;exact this ⟨y,hy,h2⟩
 have base:∀ {a b:Bool} {p q:List (TDot × TEvent)},Holds p (liveL (putL L e)) → Holds q (tombL (putL L e)) → (a = true → p = []) → (b = true → q = []) →
   Rep (n + 600) (W ++ C.dotsC (dotsE [e])) (C.normC (W ++ C.dotsC (dotsE [e]))) (C.normC (W ++ C.dotsC (dotsE [e]))) a p b q (putL L e):=fun h1 h2 h3 h4=>
  ⟨rfl,fun k n=>C.has_normC _ _ _,ok_normW (by omega) (by omega),h1,h2,h3,h4,hsP,fun x hx=>by
   rcases (hmem x).1 hx with rfl | ⟨hx,_⟩
   ·exact ⟨g,oe⟩
   ·exact hR.good x hx,hdots,halive,hW1,hW2,by
   have h5:=insE_len (L.filter fun x=>!decide (x.kind = 1) || !hasD e.kills x.dot) e (srtE_filter hR.srt _);have h6:=List.length_filter_le (fun x:TEvent=>!decide (x.kind = 1) || !hasD e.kills x.dot) L;have:=hR.ll;unfold putL;omega⟩
 have hL1:=Holds.dels e.kills hR.live (srtE_filter hR.srt _);have hst1:SrtE ((liveL L).filter fun x=>!hasD e.kills x.dot):=srtE_filter (srtE_filter hR.srt _) _;rcases good_kind g with hk | hk
 ·have h1:liveL (putL L e) = insE ((liveL L).filter fun x=>!hasD e.kills x.dot) e:=srtE_ext (srtE_filter hsP _) (insE_srt hst1 e) fun x=>by
   rw [mem_live,hmem,insE_mem (fun x hx=>hne x (mem_live.1 (List.mem_filter.1 hx).1).1),List.mem_filter,mem_live,Bool.not_eq_true',← Bool.not_eq_true,hasD_iff]
   constructor
   ·rintro ⟨rfl | ⟨h1,h2⟩,h3⟩
    ·exact .inl rfl
    ·exact .inr ⟨⟨h1,h3⟩,h2.resolve_left (fun h=>h h3)⟩
   ·rintro (rfl | ⟨⟨h1,h2⟩,h3⟩)
    ·exact ⟨.inl rfl,hk⟩
    ·exact ⟨.inr ⟨h1,.inr h3⟩,h2⟩
  have h2:tombL (putL L e) = tombL L:=srtE_ext (srtE_filter hsP _) (srtE_filter hR.srt _) fun x=>by
   rw [mem_tomb,hmem,mem_tomb]
   constructor
   ·rintro ⟨rfl | ⟨h1,h2⟩,h3⟩
    ·omega
    ·exact ⟨h1,h3⟩
   ·rintro ⟨h1,h2⟩;exact ⟨.inr ⟨h1,.inl (by omega)⟩,h2⟩
  refine ⟨_,_,false,AL.set (e.kills.foldl AL.del m1) e.dot e,nl2,m2,?_,hr,base ?_ ?_ (fun h=>by cases h) hR.n2⟩
  ·unfold book_Book_Put_o;rw [E.Good_eq oe,det_pure,pure_bind,g,Bool.not_true,cond_false,hR.has hn,det_pure,pure_bind,hc,cond_false,F.Dots_eq [e] (by simp) (by omega),det_pure,pure_bind,hadd,det_pure,pure_bind,dels_loop e (by omega),pure_bind,decide_eq_true hk,cond_true];rw [add_eq (by omega) (fun h=>by rw [hR.n1 h];exact dels_nil _),det_pure,pure_bind]
   rfl
  ·rw [h1];exact hL1.add hst1 fun x hx=>hne x (mem_live.1 (List.mem_filter.1 hx).1).1
  ·rw [h2];exact hR.tomb
 ·have h1:liveL (putL L e) = (liveL L).filter fun x=>!hasD e.kills x.dot:=srtE_ext (srtE_filter hsP _) hst1 fun x=>by
   rw [mem_live,hmem,List.mem_filter,mem_live,Bool.not_eq_true',← Bool.not_eq_true,hasD_iff]
   constructor
   ·rintro ⟨rfl | ⟨h1,h2⟩,h3⟩
    ·omega
    ·exact ⟨⟨h1,h3⟩,h2.resolve_left (fun h=>h h3)⟩
   ·rintro ⟨⟨h1,h2⟩,h3⟩;exact ⟨.inr ⟨h1,.inr h3⟩,h2⟩
  have h2:tombL (putL L e) = insE (tombL L) e:=srtE_ext (srtE_filter hsP _) (insE_srt (srtE_filter hR.srt _) e) fun x=>by
   rw [mem_tomb,hmem,insE_mem (fun x hx=>hne x (mem_tomb.1 hx).1),mem_tomb]
   constructor
   ·rintro ⟨rfl | ⟨h1,h2⟩,h3⟩
    ·exact .inl rfl
    ·exact .inr ⟨h1,h3⟩
   ·rintro (rfl | ⟨h1,h2⟩)
    ·exact ⟨.inl rfl,hk⟩
    ·exact ⟨.inr ⟨h1,.inl (by omega)⟩,h2⟩
  refine ⟨_,_,nl1,e.kills.foldl AL.del m1,false,AL.set m2 e.dot e,?_,hr,base ?_ ?_ (fun h=>by rw [hR.n1 h];exact dels_nil _) (fun h=>by cases h)⟩
  ·unfold book_Book_Put_o;rw [E.Good_eq oe,det_pure,pure_bind,g,Bool.not_true,cond_false,hR.has hn,det_pure,pure_bind,hc,cond_false,F.Dots_eq [e] (by simp) (by omega),det_pure,pure_bind,hadd,det_pure,pure_bind,dels_loop e (by omega),pure_bind,decide_eq_false (show ¬ e.kind = 1 by omega),cond_false];rw [add_eq (by omega) hR.n2,det_pure,pure_bind]
   rfl
  ·rw [h1];exact hL1
  ·rw [h2];exact hR.tomb.add (srtE_filter hR.srt _) fun x hx=>hne x (mem_tomb.1 hx).1
theorem Rep.putAny (hR:Rep n W c xc nl1 m1 nl2 m2 L) (hn:n ≤ 100000000) {e:TEvent} (oe:OkE e) :
  ∃ k W' c' xc' nl1' m1' nl2' m2' L',book_Book_Put_o e c nl1 m1 nl2 m2 = pure (k,c',nl1',m1',nl2',m2') ∧ r18_Put ⟨xc,L⟩ e = pure (⟨xc',L'⟩,k) ∧ Rep (n + 600) W' c' xc' nl1' m1' nl2' m2' L':=by
 cases g:goodE e with
 | false=>
  refine ⟨1,W,c,xc,nl1,m1,nl2,m2,L,?_,?_,hR.mono (by omega)⟩
  ·unfold book_Book_Put_o;rw [E.Good_eq oe,det_pure,pure_bind,g];rfl
  ·unfold r18_Put;rw [E.rGood_eq oe,det_pure,pure_bind,g];rfl
 | true=>
  cases hc:C.hasC W e.dot.dev e.dot.n with
  | true=>
   refine ⟨7,W,c,xc,nl1,m1,nl2,m2,L,?_,?_,hR.mono (by omega)⟩
   ·unfold book_Book_Put_o;rw [E.Good_eq oe,det_pure,pure_bind,g,Bool.not_true,cond_false,hR.has hn,det_pure,pure_bind,hc];rfl
   ·unfold r18_Put;rw [E.rGood_eq oe,det_pure,pure_bind,g,Bool.not_true,cond_false,show (⟨xc,L⟩:R18Book).ctx = xc from rfl,hR.rhas,det_pure,pure_bind,hc];rfl
  | false=>
   obtain ⟨c',xc',a,p,b,q,h1,h2,h3⟩:=hR.put hn oe g hc;exact ⟨0,_,c',xc',a,p,b,q,_,h1,h2,h3⟩
end

open E (OkE goodE SrtE)
open F (hasD dotsL dotsE deadE)

section
variable {n:Nat} {W c xc:List TPart} {nl1:Bool} {m1:List (TDot × TEvent)} {nl2:Bool} {m2:List (TDot × TEvent)} {L:List TEvent}
theorem live_len (L:List TEvent):(liveL L).length ≤ L.length:=List.length_filter_le _ _
theorem tomb_len (L:List TEvent):(tombL L).length ≤ L.length:=List.length_filter_le _ _
theorem Rep.kl (hR:Rep n W c xc nl1 m1 nl2 m2 L):∀ e ∈ L,e.kills.length ≤ 256:=fun e he=>(good_kills (hR.good e he).1).1
theorem Rep.Live (hR:Rep n W c xc nl1 m1 nl2 m2 L) (hn:n ≤ 100000000):book_Book_Live_o c nl1 m1 nl2 m2 = pure (liveL L):=by
 unfold book_Book_Live_o;rw [list1_eq hR.live (srtE_filter hR.srt _) (by have:=live_len L;have:=hR.ll;omega) (fun e he=>by have:=hR.kl e (mem_live.1 he).1;omega),det_pure,pure_bind]
theorem Rep.Tombs (hR:Rep n W c xc nl1 m1 nl2 m2 L) (hn:n ≤ 100000000):book_Book_Tombs_o c nl1 m1 nl2 m2 = pure (tombL L):=by
 unfold book_Book_Tombs_o;rw [list1_eq hR.tomb (srtE_filter hR.srt _) (by have:=tomb_len L;have:=hR.ll;omega) (fun e he=>by have:=hR.kl e (mem_tomb.1 he).1;omega),det_pure,pure_bind]
theorem split_perm (L:List TEvent) (h:∀ e ∈ L,e.kind = 1 ∨ e.kind = 2):(liveL L ++ tombL L).Perm L:=by
 induction L with
 | nil=>exact List.Perm.refl _
 | cons x r ih=>
  have ih:=ih fun e he=>h e (by simp [he])
  rcases h x (by simp) with h1 | h1
  ·have e1:liveL (x :: r) = x :: liveL r:=by unfold liveL;rw [List.filter_cons,if_pos (by simp [h1])]
   have e2:tombL (x :: r) = tombL r:=by unfold tombL;rw [List.filter_cons,if_neg (by simp [h1])]
   rw [e1,e2];exact ih.cons x
  ·have e1:liveL (x :: r) = liveL r:=by unfold liveL;rw [List.filter_cons,if_neg (by simp [h1])]
   have e2:tombL (x :: r) = x :: tombL r:=by unfold tombL;rw [List.filter_cons,if_pos (by simp [h1])]
   rw [e1,e2];exact List.perm_middle.trans (ih.cons x)
theorem Rep.kinds (hR:Rep n W c xc nl1 m1 nl2 m2 L):∀ e ∈ L,e.kind = 1 ∨ e.kind = 2:=fun e he=>good_kind (hR.good e he).1
theorem Rep.All (hR:Rep n W c xc nl1 m1 nl2 m2 L) (hn:n ≤ 100000000):book_Book_All_o c nl1 m1 nl2 m2 = pure L:=by
 unfold book_Book_All_o;rw [list2_eq hR.live hR.tomb (split_perm L hR.kinds) hR.srt (by have:=hR.ll;omega) (fun e he=>by have:=hR.kl e he;omega),det_pure,pure_bind]
theorem Rep.Ctx (hR:Rep n W c xc nl1 m1 nl2 m2 L) (hn:n ≤ 100000000):book_Book_Ctx_o c nl1 m1 nl2 m2 = pure (C.normC W):=by
 unfold book_Book_Ctx_o;rw [C.Norm_eq c (hR.okc hn).sm,det_pure,pure_bind,hR.ctx,C.norm_canon (C.canon_norm W)]
theorem rkind_eq (l:List TEvent) (k:Int) (hl:l.length ≤ 1000000000):r18_kind l k = pure (l.filter fun e=>decide (e.kind = k)):=by
 unfold r18_kind;rw [filtL (body:=r18_kind_l0 l k) l (fun e=>decide (e.kind = k)) (fun t=>pure t) (fun i x t hx hi hI=>by
  have hd:decide ((i:Int) < (l.length:Int)) = true:=by simpa using hi
  unfold r18_kind_l0;simp only [hd,cond_true,idx_nat hx,pure_bind,wSucc (show i < 9223372036854775807 by omega)]
  cases decide (x.kind = k) <;> simp only [cond_true,cond_false,pure_bind,if_true,if_false,Bool.false_eq_true]
  rw [need_true (by simp;omega)]
  rfl) (fun t=>by unfold r18_kind_l0;simp [pure_bind]),pure_bind]
theorem Rep.rLive (hR:Rep n W c xc nl1 m1 nl2 m2 L) (hn:n ≤ 100000000) (y:List TPart):r18_Live ⟨y,L⟩ = pure (liveL L):=by
 unfold r18_Live;rw [rkind_eq L 1 (by have:=hR.ll;omega),det_pure,pure_bind]
 rfl
theorem Rep.rTombs (hR:Rep n W c xc nl1 m1 nl2 m2 L) (hn:n ≤ 100000000) (y:List TPart):r18_Tombs ⟨y,L⟩ = pure (tombL L):=by
 unfold r18_Tombs;rw [rkind_eq L 2 (by have:=hR.ll;omega),det_pure,pure_bind]
 rfl
theorem Rep.Is (hR:Rep n W c xc nl1 m1 nl2 m2 L) (hn:n ≤ 100000000):l18_Is_o ⟨xc,L⟩ c nl1 m1 nl2 m2 = pure 1:=by
 unfold l18_Is_o;have hx:C.normC xc = C.normC W:=C.normC_ext hR.xctx;have hll:=hR.ll;have hk:=hR.kl;have hE:=C.rEq_sm (C.normC W) (C.normC W) ((hR.ctx ▸ hR.okc hn:C.Ok (C.normC W)).sm);have a1:=E.rAll_eq (liveL L) (liveL L) (by have:=live_len L;omega) (fun e he=>by have:=hk e (mem_live.1 he).1;omega);have a2:=E.rAll_eq (tombL L) (tombL L) (by have:=tomb_len L;omega) (fun e he=>by have:=hk e (mem_tomb.1 he).1;omega);have a3:=E.rAll_eq L L (by omega) (fun e he=>by have:=hk e he;omega);rw [hR.Ctx hn,det_pure,pure_bind,show (⟨xc,L⟩:R18Book).ctx = xc from rfl,C.rNorm_eq xc hR.xok,det_pure,pure_bind,hx,hE,det_pure,pure_bind,decide_eq_true rfl,cond_true,hR.Live hn,det_pure,pure_bind,hR.rLive hn,det_pure,pure_bind,a1,det_pure,pure_bind,decide_eq_true rfl,cond_true,
  hR.Tombs hn,det_pure,pure_bind,hR.rTombs hn,det_pure,pure_bind,a2,det_pure,pure_bind,decide_eq_true rfl,cond_true,hR.All hn,det_pure,pure_bind,show (⟨xc,L⟩:R18Book).l = L from rfl,a3,det_pure,pure_bind,decide_eq_true rfl]
 rfl
theorem Rep.see (hR:Rep n W c xc nl1 m1 nl2 m2 L) (hn:n ≤ 100000000) {y:List TPart} (hy:C.Ok y) {k:Nat} (h1:y.length ≤ k) (h2:C.totC y ≤ k) (hk:k ≤ 100000000) :
  ∃ c' xc',book_Book_See_o y c nl1 m1 nl2 m2 = pure c' ∧ r18_See ⟨xc,L⟩ y = pure ⟨xc',L⟩ ∧ Rep (n + k) (W ++ y) c' xc' nl1 m1 nl2 m2 L:=by
 have hc:=hR.okc hn;have hwl:=hR.wl;have hwt:=hR.wt;have hl:=C.len_normC W;have ht:=C.tot_normC W;have e1:C.opC (· || ·) xc y = C.normC (W ++ y):=(C.canon_op rfl _ _).ext (C.canon_norm _) fun k n=>by rw [C.has_opC rfl,C.has_normC,C.hasC_app,hR.xctx]
 refine ⟨C.normC (W ++ y),C.normC (W ++ y),?_,?_,?_⟩
 ·unfold book_Book_See_o;rw [C.Join_eq c y (C.sm_app (by rw [hR.ctx];omega) (by rw [hR.ctx];omega)),det_pure,pure_bind,hR.ctx,C.or_norm]
 ·unfold r18_See;rw [show (⟨xc,L⟩:R18Book).ctx = xc from rfl,C.rJoin_eq xc y hR.xok hy,det_pure,pure_bind,e1]
 ·exact ⟨rfl,fun k n=>C.has_normC _ _ _,ok_normW (by rw [List.length_append];omega) (by rw [C.totC_app];omega),hR.live,hR.tomb,hR.n1,hR.n2,hR.srt,hR.good,fun d hd=>by rw [C.hasC_app,hR.dots d hd];rfl,hR.alive,by rw [List.length_append];omega,by rw [C.totC_app];omega,by have:=hR.ll;omega⟩
def bareE (e:TEvent):TEvent:=⟨e.dot,e.kind,e.cid,e.field,e.text,[]⟩
def killE (L:List TEvent) (e:TEvent):List TDot:=dotsE ((liveL L).filter fun x=>if e.kind = 1 then decide (x.cid = e.cid) && decide (x.field = e.field) else decide (x.cid = e.cid))
theorem ofE_eq (l:List TEvent) (cid f:Int) (hl:l.length ≤ 1000000) (hk:∀ e ∈ l,e.kind = 1 ∧ e.kills.length ≤ 300):kills_Edit l cid f = pure (dotsE (l.filter fun x=>decide (x.cid = cid) && decide (x.field = f))):=by
 unfold kills_Edit kills_of_kills_Edit_c1;have hf:=List.length_filter_le (fun x:TEvent=>decide (x.cid = cid) && decide (x.field = f)) l;have hd:=F.dots_len (l.filter fun x=>decide (x.cid = cid) && decide (x.field = f)) 300 fun e he=>(hk e (List.mem_filter.1 he).1).2
 rw [filtL (body:=kills_of_kills_Edit_c1_l0 l cid f) l (fun x=>decide (x.cid = cid) && decide (x.field = f)) (fun t=>pure t) (fun i x t hx hi hI=>by
  have hd:decide ((i:Int) < (l.length:Int)) = true:=by simpa using hi
  unfold kills_of_kills_Edit_c1_l0 kills_Edit_c1_cl;simp only [hd,cond_true,idx_nat hx,pure_bind,(hk x (List.mem_of_getElem? hx)).1,decide_true,cond_pure_and,det_pure,wSucc (show i < 9223372036854775807 by omega)]
  cases decide (x.cid = cid) <;> cases decide (x.field = f) <;> simp only [cond_true,cond_false,pure_bind,if_true,if_false,Bool.false_eq_true,Bool.and_true,Bool.and_false,Bool.true_and,Bool.false_and]
  rw [need_true (by simp;omega)]
  rfl) (fun t=>by unfold kills_of_kills_Edit_c1_l0;simp [pure_bind]),pure_bind,F.Dots_eq _ (by omega) (by omega),det_pure,pure_bind,det_pure,pure_bind]
theorem ofD_eq (l:List TEvent) (cid:Int) (hl:l.length ≤ 1000000) (hk:∀ e ∈ l,e.kind = 1 ∧ e.kills.length ≤ 300):kills_Delete l cid = pure (dotsE (l.filter fun x=>decide (x.cid = cid))):=by
 unfold kills_Delete kills_of_kills_Delete_c1;have hf:=List.length_filter_le (fun x:TEvent=>decide (x.cid = cid)) l;have hd:=F.dots_len (l.filter fun x=>decide (x.cid = cid)) 300 fun e he=>(hk e (List.mem_filter.1 he).1).2
 rw [filtL (body:=kills_of_kills_Delete_c1_l0 l cid) l (fun x=>decide (x.cid = cid)) (fun t=>pure t) (fun i x t hx hi hI=>by
  have hd:decide ((i:Int) < (l.length:Int)) = true:=by simpa using hi
  unfold kills_of_kills_Delete_c1_l0 kills_Delete_c1_cl;simp only [hd,cond_true,idx_nat hx,pure_bind,(hk x (List.mem_of_getElem? hx)).1,decide_true,det_pure,wSucc (show i < 9223372036854775807 by omega)]
  cases decide (x.cid = cid) <;> simp only [cond_true,cond_false,pure_bind,if_true,if_false,Bool.false_eq_true]
  rw [need_true (by simp;omega)]
  rfl) (fun t=>by unfold kills_of_kills_Delete_c1_l0;simp [pure_bind]),pure_bind,F.Dots_eq _ (by omega) (by omega),det_pure,pure_bind,det_pure,pure_bind]
theorem rofE_eq (l:List TEvent) (cid f:Int) (hl:l.length ≤ 1000000) (hk:∀ e ∈ l,e.kind = 1 ∧ e.kills.length ≤ 300):r17_Edit l cid f = pure (dotsE (l.filter fun x=>decide (x.cid = cid) && decide (x.field = f))):=by
 unfold r17_Edit;have hf:=List.length_filter_le (fun x:TEvent=>decide (x.cid = cid) && decide (x.field = f)) l;rw [filtL (body:=r17_Edit_l0 l cid f) l (fun x=>decide (x.cid = cid) && decide (x.field = f)) (fun t=>pure t) (fun i x t hx hi hI=>by
  have hd:decide ((i:Int) < (l.length:Int)) = true:=by simpa using hi
  unfold r17_Edit_l0;simp only [hd,cond_true,idx_nat hx,pure_bind,(hk x (List.mem_of_getElem? hx)).1,decide_true,wSucc (show i < 9223372036854775807 by omega)]
  cases decide (x.cid = cid) <;> cases decide (x.field = f) <;> simp only [cond_true,cond_false,pure_bind,if_true,if_false,Bool.false_eq_true,Bool.and_true,Bool.and_false,Bool.true_and,Bool.false_and]
  rw [need_true (by simp;omega)]
  rfl) (fun t=>by unfold r17_Edit_l0;simp [pure_bind]),pure_bind,F.rDots_eq _ (by omega) (fun e he=>(hk e (List.mem_filter.1 he).1).2),det_pure,pure_bind]
theorem rofD_eq (l:List TEvent) (cid:Int) (hl:l.length ≤ 1000000) (hk:∀ e ∈ l,e.kind = 1 ∧ e.kills.length ≤ 300):r17_Delete l cid = pure (dotsE (l.filter fun x=>decide (x.cid = cid))):=by
 unfold r17_Delete;have hf:=List.length_filter_le (fun x:TEvent=>decide (x.cid = cid)) l;rw [filtL (body:=r17_Delete_l0 l cid) l (fun x=>decide (x.cid = cid)) (fun t=>pure t) (fun i x t hx hi hI=>by
  have hd:decide ((i:Int) < (l.length:Int)) = true:=by simpa using hi
  unfold r17_Delete_l0;simp only [hd,cond_true,idx_nat hx,pure_bind,(hk x (List.mem_of_getElem? hx)).1,decide_true,wSucc (show i < 9223372036854775807 by omega)]
  cases decide (x.cid = cid) <;> simp only [cond_true,cond_false,pure_bind,if_true,if_false,Bool.false_eq_true]
  rw [need_true (by simp;omega)]
  rfl) (fun t=>by unfold r17_Delete_l0;simp [pure_bind]),pure_bind,F.rDots_eq _ (by omega) (fun e he=>(hk e (List.mem_filter.1 he).1).2),det_pure,pure_bind]
def makeE (W:List TPart) (L:List TEvent) (e:TEvent):TEvent × Int:=
 if goodE (bareE e) = false then (⟨⟨0,0⟩,0,0,0,⟨#[]⟩,[]⟩,1) else if C.hasC W e.dot.dev e.dot.n = true then (⟨⟨0,0⟩,0,0,0,⟨#[]⟩,[]⟩,7)
 else if 256 < (killE L e).length then (⟨⟨0,0⟩,0,0,0,⟨#[]⟩,[]⟩,3) else (⟨e.dot,e.kind,e.cid,e.field,e.text,killE L e⟩,0)
theorem bare_ok {e:TEvent} (h:OkE e):OkE (bareE e):=⟨h.dot,h.kind,h.cid,h.field,h.text,(fun d hd=>nomatch hd),by simp [bareE]⟩
theorem Rep.make (hR:Rep n W c xc nl1 m1 nl2 m2 L) (hn:n ≤ 1000000) {e:TEvent} (oe:OkE e) :
  book_Book_Make_o e c nl1 m1 nl2 m2 = pure (makeE W L e) ∧ r18_Make ⟨xc,L⟩ e = pure (makeE W L e):=by
 have hll:=live_len L;have hL:=hR.ll;have hk:∀ x ∈ liveL L,x.kind = 1 ∧ x.kills.length ≤ 300:=fun x hx=>⟨(mem_live.1 hx).2,by have:=hR.kl x (mem_live.1 hx).1;omega⟩
 have h1:=E.Good_eq (bare_ok oe);have h2:=E.rGood_eq (bare_ok oe);have h3:=hR.has (by omega) e.dot;have h4:=hR.rhas e.dot;have a1:=ofE_eq (liveL L) e.cid e.field (by omega) hk;have a2:=ofD_eq (liveL L) e.cid (by omega) hk;have a3:=rofE_eq (liveL L) e.cid e.field (by omega) hk;have a4:=rofD_eq (liveL L) e.cid (by omega) hk;unfold makeE
 constructor
 ·unfold book_Book_Make_o;rw [show (⟨e.dot,e.kind,e.cid,e.field,e.text,([]:List TDot)⟩:TEvent) = bareE e from rfl,h1,det_pure,pure_bind]
  cases goodE (bareE e) with
  | false=>rfl
  | true=>
   rw [Bool.not_true,cond_false,h3,det_pure,pure_bind]
   cases C.hasC W e.dot.dev e.dot.n with
   | true=>rfl
   | false=>
    rw [cond_false,if_neg (by simp),if_neg (by simp)];have hq:(cond (decide (e.kind = 1))
      (M.bind (M.det (book_Book_Live_o c nl1 m1 nl2 m2)) fun y15=>M.bind (M.det (kills_Edit y15 e.cid e.field)) fun v17=>M.pure (Ex.brk v17))
      (M.bind (M.det (book_Book_Live_o c nl1 m1 nl2 m2)) fun y19=>M.bind (M.det (kills_Delete y19 e.cid)) fun v21=>M.pure (Ex.brk v21)):M (Ex (List TDot) (TEvent × Int))) = pure (Ex.brk (killE L e)):=by
     rw [hR.Live (by omega),det_pure,pure_bind,pure_bind,a1,a2,det_pure,det_pure,pure_bind,pure_bind,cond_pure];unfold killE
     by_cases h:e.kind = 1 <;> simp [h]
    rw [hq,pure_bind,exk_brk,cond_dec]
    by_cases h:256 < (killE L e).length
    ·rw [if_pos h,if_pos (by omega)]
    ·rw [if_neg h,if_neg (by omega)]
 ·unfold r18_Make;rw [show (⟨e.dot,e.kind,e.cid,e.field,e.text,([]:List TDot)⟩:TEvent) = bareE e from rfl,h2,det_pure,pure_bind]
  cases goodE (bareE e) with
  | false=>rfl
  | true=>
   rw [Bool.not_true,cond_false,show (⟨xc,L⟩:R18Book).ctx = xc from rfl,h4,det_pure,pure_bind]
   cases C.hasC W e.dot.dev e.dot.n with
   | true=>rfl
   | false=>
    rw [cond_false,if_neg (by simp),if_neg (by simp),hR.rLive (by omega),det_pure,pure_bind,a4,det_pure,pure_bind];simp only [pure_bind,a3,det_pure];rw [cond_pure,pure_bind];have hq:(cond (decide (e.kind = 1)) (dotsE ((liveL L).filter fun x=>decide (x.cid = e.cid) && decide (x.field = e.field))) (dotsE ((liveL L).filter fun x=>decide (x.cid = e.cid)))) = killE L e:=by
     unfold killE
     by_cases h:e.kind = 1 <;> simp [h]
    rw [hq,cond_dec]
    by_cases h:256 < (killE L e).length
    ·rw [if_pos h,if_pos (by omega)]
    ·rw [if_neg h,if_neg (by omega)]
end

open E (OkE goodE SrtE)
open F (hasD dotsL dotsE deadE)

theorem srtE_iff {l:List TEvent}:SrtE l ↔ D.Srt (l.map (·.dot)):=by
 unfold SrtE D.Srt;rw [List.pairwise_map]
theorem srtE_same {l l':List TEvent} (h:SrtE l) (e:l'.map (·.dot) = l.map (·.dot)):SrtE l':=by rw [srtE_iff,e,← srtE_iff];exact h
def stripE (y:List TPart) (x:TEvent):TEvent:=if C.hasC y x.dot.dev x.dot.n = true then bareE x else x
theorem strip_dot (y:List TPart) (x:TEvent):(stripE y x).dot = x.dot:=by unfold stripE;split <;> rfl
theorem strip_kind (y:List TPart) (x:TEvent):(stripE y x).kind = x.kind:=by unfold stripE;split <;> rfl
theorem strip_kills (y:List TPart) (x:TEvent):∀ d ∈ (stripE y x).kills,d ∈ x.kills:=by
 unfold stripE
 split
 ·intro d hd;cases hd
 ·intro d hd;exact hd
theorem strip_good {y:List TPart} {x:TEvent} (h:goodE x = true ∧ OkE x):goodE (stripE y x) = true ∧ OkE (stripE y x):=by
 unfold stripE
 split
 ·refine ⟨?_,bare_ok h.2⟩;have:=h.1;simp only [goodE,Bool.and_eq_true] at this ⊢;exact ⟨this.1,this.2.1,rfl⟩
 ·exact h
theorem map_strip_dots (y:List TPart) (l:List TEvent):(l.map (stripE y)).map (·.dot) = l.map (·.dot):=by
 rw [List.map_map];exact List.map_congr_left fun x _=>strip_dot y x
theorem Strip_eq (x:TEvent) {y:List TPart} (hy:C.Ok y) (hk:x.kills.length ≤ 1000000000):kills_Strip x y = pure (stripE y x):=by
 unfold kills_Strip;rw [Copy_eq x (by omega),det_pure,pure_bind,C.Has_eq y x.dot hy.sm,det_pure,pure_bind,cond_pure,pure_bind];unfold stripE bareE
 cases C.hasC y x.dot.dev x.dot.n <;> rfl
theorem rStrip_eq (x:TEvent) {y:List TPart} (hy:C.Ok y):r17_Strip x y = pure (stripE y x):=by
 unfold r17_Strip;rw [C.rHas_eq y x.dot hy,det_pure,pure_bind,cond_pure,pure_bind];unfold stripE bareE
 cases C.hasC y x.dot.dev x.dot.n <;> rfl
def seenB (y:List TPart) (x:TEvent):Bool:=C.hasC y x.dot.dev x.dot.n
def pruneL (y:List TPart) (L:List TEvent):List TEvent:=(L.filter fun x=>decide (x.kind = 1) || !seenB y x).map (stripE y)
theorem hold_set {m:List (TDot × TEvent)} {A B:List TEvent} {x x':TEvent} (h:Holds m (A ++ x :: B)) (hs:SrtE (A ++ x :: B)) (hd:x'.dot = x.dot):Holds (AL.set m x.dot x') (A ++ x' :: B):=by
 have hs':SrtE (A ++ x' :: B):=srtE_same hs (by simp [hd]);refine holds_of (AL.nodup_set (h.keys hs) _ _) hs' fun k=>?_
 rw [mem_set (h.keys hs),h.mem];have hne:∀ z,z ∈ A ∨ z ∈ B → z.dot ≠ x.dot:=fun z hz e=>by
  have hz':z ∈ A ++ x :: B:=by rw [List.mem_append,List.mem_cons];exact hz.imp (fun h=>h) .inr
  have e2:=srtE_one hs hz' (by simp) e;subst e2;have h2:=srtE_dots hs;rw [List.map_append,List.map_cons,List.nodup_append,List.nodup_cons] at h2;rcases hz with hz | hz
  ·exact h2.2.2 _ (List.mem_map.2 ⟨z,hz,rfl⟩) _ (by simp) rfl
  ·exact h2.2.1.1 (List.mem_map.2 ⟨z,hz,rfl⟩)
 simp only [List.mem_append,List.mem_cons]
 constructor
 ·rintro (⟨⟨h1,h2⟩,h3⟩ | h1)
  ·refine ⟨?_,h2⟩;rcases h1 with h1 | h1 | h1
   ·exact .inl h1
   ·exact absurd (by rw [h2,h1]) h3
   ·exact .inr (.inr h1)
  ·rw [h1];exact ⟨.inr (.inl rfl),hd.symm⟩
 ·rintro ⟨h1 | h1 | h1,h2⟩
  ·exact .inl ⟨⟨.inl h1,h2⟩,by rw [h2];exact hne _ (.inl h1)⟩
  ·refine .inr ?_;obtain ⟨k1,k2⟩:=k;simp only at h1 h2;rw [h2,h1,hd]
  ·exact .inl ⟨⟨.inr (.inr h1),h2⟩,by rw [h2];exact hne _ (.inr h1)⟩
theorem has_of {m:List (TDot × TEvent)} {l:List TEvent} (h:Holds m l) (hs:SrtE l) {x:TEvent} (hx:x ∈ l):AL.has m x.dot = true:=by
 unfold AL.has;have:=AL.mem_get (h.keys hs) ((Holds.mem h (k:=(x.dot,x))).2 ⟨hx,rfl⟩);rw [this];rfl
theorem strip_loop {y:List TPart} (hy:C.Ok y) (l:List TEvent) (hl:l.length ≤ 1000000000) (hk:∀ e ∈ l,e.kills.length ≤ 300) (hs:SrtE l) {nl:Bool} {m:List (TDot × TEvent)} (h:Holds m l) :
  ∃ m',book_strip_o l y nl m = pure (nl,m') ∧ Holds m' (l.map (stripE y)) ∧ (m = [] → m' = []):=by
 have h1:=loopL (body:=book_strip_o_l0 l y nl) l (fun i (t:List (TDot × TEvent))=>((i:Int),t)) (fun t x=>AL.set t x.dot (stripE y x)) (fun t=>pure (nl,t))
  (fun i t=>Holds t ((l.take i).map (stripE y) ++ l.drop i)) (fun i x t hx hi hI=>by
   have hd:decide ((i:Int) < (l.length:Int)) = true:=by simpa using hi
   have hdr:l.drop i = x :: l.drop (i + 1):=by
    rw [List.drop_eq_getElem_cons hi]
    congr 1
    rw [List.getElem?_eq_getElem hi] at hx;exact Option.some.inj hx
   have htk:l.take (i + 1) = l.take i ++ [x]:=by rw [List.take_add_one,hx];rfl
   have hss:SrtE ((l.take i).map (stripE y) ++ x :: l.drop (i + 1)):=by
    rw [← hdr];refine srtE_same hs ?_;rw [List.map_append,map_strip_dots,← List.map_append,List.take_append_drop]
   rw [hdr] at hI;refine ⟨?_,?_⟩
   ·unfold book_strip_o_l0;have hh:=has_of hI hss (x:=x) (by simp);simp only [hd,cond_true,idx_nat hx,pure_bind,hh,Strip_eq x hy (by have:=hk x (List.mem_of_getElem? hx);omega),det_pure,wSucc (show i < 9223372036854775807 by omega)];rw [need_true trivial,pure_bind]
   ·rw [htk,List.map_append,List.append_assoc];exact hold_set hI hss (strip_dot y x)) (fun t _=>by
   unfold book_strip_o_l0;simp [pure_bind]) m (by simpa using h)
 have hinv:∀ (k i:Nat) (t:List (TDot × TEvent)),i + k = l.length → Holds t ((l.take i).map (stripE y) ++ l.drop i) → Holds ((l.drop i).foldl (fun t x=>AL.set t x.dot (stripE y x)) t) (l.map (stripE y)):=by
  intro k
  induction k with
  | zero=>
   intro i t hi ht;have:i = l.length:=by omega
   subst this;rw [List.drop_length,List.take_length,List.append_nil] at ht;rw [List.drop_length];exact ht
  | succ k ih=>
   intro i t hi ht;have hlt:i < l.length:=by omega
   have hdr:=List.drop_eq_getElem_cons hlt;have htk:l.take (i + 1) = l.take i ++ [l[i]]:=by rw [List.take_add_one,List.getElem?_eq_getElem hlt];rfl
   have hss:SrtE ((l.take i).map (stripE y) ++ l[i] :: l.drop (i + 1)):=by
    rw [← hdr];refine srtE_same hs ?_;rw [List.map_append,map_strip_dots,← List.map_append,List.take_append_drop]
   rw [hdr,List.foldl_cons];refine ih (i + 1) _ (by omega) ?_;rw [htk,List.map_append,List.append_assoc];rw [hdr] at ht;exact hold_set ht hss (strip_dot y _)
 refine ⟨l.foldl (fun (t:List (TDot × TEvent)) (x:TEvent)=>AL.set t x.dot (stripE y x)) m,by unfold book_strip_o;exact h1,by simpa using hinv l.length 0 m (by omega) (by simpa using h),fun hm=>?_⟩;subst hm;have:l = []:=by
  have:=h.len;simpa using this.symm
 rw [this];rfl
section
variable {n:Nat} {W c xc:List TPart} {nl1:Bool} {m1:List (TDot × TEvent)} {nl2:Bool} {m2:List (TDot × TEvent)} {L:List TEvent}
theorem Rep.Live' (hR:Rep n W c xc nl1 m1 nl2 m2 L) (hn:n ≤ 100000000) (c':List TPart) (b:Bool) (m':List (TDot × TEvent)):book_Book_Live_o c' nl1 m1 b m' = pure (liveL L):=hR.Live hn
theorem tomb_loop {y:List TPart} (hy:C.Ok y) (T:List TEvent) (hl:T.length ≤ 1000000000) (m:List (TDot × TEvent)) :
  loop (book_Book_Prune_o_l0 T y) (0,0,m) = pure (((T.filter (seenB y)).length:Int),((T.filter (seenB y)).map (·.dot)).foldl AL.del m):=by
 have h1:=loopL (body:=book_Book_Prune_o_l0 T y) T (fun i (t:List TEvent × List (TDot × TEvent))=>((t.1.length:Int),(i:Int),t.2)) (fun t x=>if seenB y x = true then (t.1 ++ [x],AL.del t.2 x.dot) else t) (fun t=>pure ((t.1.length:Int),t.2))
  (fun i t=>t.1.length ≤ i) (fun i x t hx hi hI=>by
   have hd:decide ((i:Int) < (T.length:Int)) = true:=by simpa using hi
   refine ⟨?_,?_⟩
   ·unfold book_Book_Prune_o_l0;have hh:ctx_Has y x.dot = pure (seenB y x):=C.Has_eq y x.dot hy.sm;simp only [hd,cond_true,idx_nat hx,pure_bind,hh,det_pure,wSucc (show i < 9223372036854775807 by omega)]
    cases seenB y x with
    | true=>
     simp only [cond_true,if_true,pure_bind];rw [wSucc (by omega)];simp
    | false=>simp [pure_bind]
   ·split
    ·simp only [List.length_append,List.length_singleton];omega
    ·omega) (fun t _=>by
   unfold book_Book_Prune_o_l0;simp [pure_bind]) ([],m) (Nat.le_refl _)
 have hf:∀ (q:List TEvent) (t:List TEvent × List (TDot × TEvent)),q.foldl (fun t x=>if seenB y x = true then (t.1 ++ [x],AL.del t.2 x.dot) else t) t = (t.1 ++ q.filter (seenB y),((q.filter (seenB y)).map (·.dot)).foldl AL.del t.2):=by
  intro q
  induction q with
  | nil=>intro t;simp
  | cons x r ih=>
   intro t;rw [List.foldl_cons,ih,List.filter_cons]
   split <;> simp_all
 rw [hf] at h1;exact h1
theorem rprune_loop {y:List TPart} (hy:C.Ok y) (xc:List TPart) (L:List TEvent) (hl:L.length ≤ 1000000000):loop (r18_Prune_l0 ⟨xc,L⟩ y) (0,[]) = pure (pruneL y L):=by
 have h1:=loopL (body:=r18_Prune_l0 ⟨xc,L⟩ y) L (fun i (t:List TEvent)=>((i:Int),t)) (fun t x=>if (decide (x.kind = 1) || !seenB y x) = true then t ++ [stripE y x] else t) (fun t=>pure t)
  (fun i t=>t.length ≤ i) (fun i x t hx hi hI=>by
   have hd:decide ((i:Int) < (L.length:Int)) = true:=by simpa using hi
   refine ⟨?_,by split <;> (try rw [List.length_append,List.length_singleton]) <;> omega⟩;unfold r18_Prune_l0;have hh:r09_Has y x.dot = pure (seenB y x):=C.rHas_eq y x.dot hy;simp only [hd,cond_true,idx_nat hx,pure_bind,hh,det_pure,rStrip_eq x hy,wSucc (show i < 9223372036854775807 by omega)]
   cases decide (x.kind = 1) <;> cases seenB y x <;> simp only [Bool.not_true,Bool.not_false,cond_true,cond_false,pure_bind,Bool.or_true,Bool.or_false,Bool.true_or,Bool.false_or,if_true,if_false,Bool.false_eq_true]
   all_goals (try rw [need_true (by simp;omega)])
   all_goals rfl) (fun t _=>by unfold r18_Prune_l0;simp [pure_bind]) [] (Nat.le_refl _)
 have hf:∀ (q t:List TEvent),q.foldl (fun t x=>if (decide (x.kind = 1) || !seenB y x) = true then t ++ [stripE y x] else t) t = t ++ (q.filter fun x=>decide (x.kind = 1) || !seenB y x).map (stripE y):=by
  intro q
  induction q with
  | nil=>intro t;simp
  | cons x r ih=>intro t;rw [List.foldl_cons,ih,List.filter_cons];split <;> simp
 rw [hf,List.nil_append] at h1;exact h1
theorem Rep.prune (hR:Rep n W c xc nl1 m1 nl2 m2 L) (hn:n ≤ 100000000) {y:List TPart} (hy:C.Ok y) :
  ∃ k nl1' m1' nl2' m2',book_Book_Prune_o y c nl1 m1 nl2 m2 = pure (k,nl1',m1',nl2',m2') ∧ r18_Prune ⟨xc,L⟩ y = pure (⟨xc,pruneL y L⟩,k) ∧ Rep n W c xc nl1' m1' nl2' m2' (pruneL y L) ∧ k = ((tombL L).filter (seenB y)).length:=by
 have hll:=hR.ll;have hl1:=live_len L;have ht1:=tomb_len L;obtain ⟨m1',h1,h2,h3⟩:=strip_loop (nl:=nl1) hy (liveL L) (by omega) (fun e he=>by have:=hR.kl e (mem_live.1 he).1;omega) (srtE_filter hR.srt _) hR.live;have hdel:=Holds.dels ((tombL L).filter (seenB y) |>.map (·.dot)) hR.tomb (srtE_filter hR.srt _);have hP:∀ x ∈ L,(decide (x.kind = 1) || !seenB y x) = true ↔ (x.kind = 1 ∨ seenB y x = false):=fun x _=>by simp
 have hsP:SrtE (pruneL y L):=srtE_same (srtE_filter hR.srt (fun x=>decide (x.kind = 1) || !seenB y x)) (map_strip_dots y _);have mem_p:∀ z,z ∈ pruneL y L ↔ ∃ x ∈ L,(x.kind = 1 ∨ seenB y x = false) ∧ stripE y x = z:=fun z=>by
  unfold pruneL;rw [List.mem_map]
  constructor
  ·rintro ⟨x,hx,e⟩;rw [List.mem_filter] at hx;exact ⟨x,hx.1,(hP x hx.1).1 hx.2,e⟩
  ·rintro ⟨x,hx,hp,e⟩;exact ⟨x,List.mem_filter.2 ⟨hx,(hP x hx).2 hp⟩,e⟩
 have hlive:liveL (pruneL y L) = (liveL L).map (stripE y):=by
  refine srtE_ext (srtE_filter hsP _) (srtE_same (srtE_filter hR.srt _) (map_strip_dots y _)) fun z=>?_
  rw [mem_live,mem_p,List.mem_map]
  constructor
  ·rintro ⟨⟨x,hx,hp,rfl⟩,hz⟩;exact ⟨x,mem_live.2 ⟨hx,by rw [← strip_kind y x];exact hz⟩,rfl⟩
  ·rintro ⟨x,hx,rfl⟩;obtain ⟨h4,h5⟩:=mem_live.1 hx;exact ⟨⟨x,h4,.inl h5,rfl⟩,by rw [strip_kind];exact h5⟩
 have htomb:tombL (pruneL y L) = (tombL L).filter fun e=>!hasD ((tombL L).filter (seenB y) |>.map (·.dot)) e.dot:=by
  refine srtE_ext (srtE_filter hsP _) (srtE_filter (srtE_filter hR.srt _) _) fun z=>?_
  rw [mem_tomb,mem_p,List.mem_filter,mem_tomb,Bool.not_eq_true',← Bool.not_eq_true,hasD_iff];have hsn:∀ x:TEvent,seenB y x = false → stripE y x = x:=fun x h=>by
   unfold stripE;rw [if_neg];show ¬ seenB y x = true;rw [h];simp
  constructor
  ·rintro ⟨⟨x,hx,hp,rfl⟩,hz⟩;rw [strip_kind] at hz;have hs:seenB y x = false:=hp.resolve_left (by omega);rw [hsn x hs];refine ⟨⟨hx,hz⟩,fun h=>?_⟩;obtain ⟨w,hw,e⟩:=List.mem_map.1 h;have h4:=(List.mem_filter.1 hw).2;unfold seenB at h4 hs;rw [e,hs] at h4;cases h4
  ·rintro ⟨⟨hx,hz⟩,h⟩;have hs:seenB y z = false:=by
    cases h4:seenB y z with
    | false=>rfl
    | true=>exact absurd (List.mem_map.2 ⟨z,List.mem_filter.2 ⟨mem_tomb.2 ⟨hx,hz⟩,h4⟩,rfl⟩) h
   exact ⟨⟨z,hx,.inr hs,hsn z hs⟩,hz⟩
 have hlen:(L.length:Int) - ((pruneL y L).length:Int) = ((tombL L).filter (seenB y)).length:=by
  have e1:(pruneL y L).length = (L.filter fun x=>decide (x.kind = 1) || !seenB y x).length:=by unfold pruneL;rw [List.length_map]
  have e2:(tombL L).filter (seenB y) = L.filter fun x=>!(decide (x.kind = 1) || !seenB y x):=by
   unfold tombL;rw [List.filter_filter];refine List.filter_congr fun x hx=>?_
   rcases hR.kinds x hx with h | h <;> simp [h]
  have e3:∀ (q:List TEvent) (p:TEvent → Bool),q.length = (q.filter p).length + (q.filter fun x=>!p x).length:=by
   intro q p
   induction q with
   | nil=>rfl
   | cons x r ih=>rw [List.filter_cons,List.filter_cons];cases p x <;> simp <;> omega
  have:=e3 L fun x=>decide (x.kind = 1) || !seenB y x
  rw [e1,e2];omega
 have hle:(pruneL y L).length ≤ L.length:=by unfold pruneL;rw [List.length_map];exact List.length_filter_le _ _
 refine ⟨_,nl1,m1',nl2,((tombL L).filter (seenB y) |>.map (·.dot)).foldl AL.del m2,?_,?_,?_,rfl⟩
 ·unfold book_Book_Prune_o;rw [hR.Tombs hn,det_pure,pure_bind,tomb_loop hy (tombL L) (by omega),pure_bind];simp only [];rw [hR.Live' hn,det_pure,pure_bind,h1,det_pure,pure_bind]
 ·unfold r18_Prune;rw [rprune_loop hy xc L (by omega),pure_bind];simp only [];rw [wI64 (by omega) (by omega),hlen]
 ·refine ⟨hR.ctx,hR.xctx,hR.xok,by rw [hlive];exact h2,by rw [htomb];exact hdel,fun h=>h3 (hR.n1 h),fun h=>by rw [hR.n2 h];exact dels_nil _,hsP,fun z hz=>?_,fun d hd=>?_,fun z hz hk=>?_,hR.wl,hR.wt,by omega⟩
  ·obtain ⟨x,hx,_,rfl⟩:=(mem_p z).1 hz;exact strip_good (hR.good x hx)
  ·obtain ⟨z,hz,h⟩:=mem_dotsL.1 hd;obtain ⟨x,hx,_,rfl⟩:=(mem_p z).1 hz;refine hR.dots d (mem_dotsL.2 ⟨x,hx,?_⟩);rw [strip_dot] at h;exact h.imp (fun h=>h) (strip_kills y x d)
  ·obtain ⟨x,hx,_,rfl⟩:=(mem_p z).1 hz;rw [strip_kind] at hk;rw [strip_dot,← Bool.not_eq_true,dead_iff];rintro ⟨w,hw,h⟩;obtain ⟨v,hv,_,rfl⟩:=(mem_p w).1 hw;have:=hR.alive x hx hk;rw [← Bool.not_eq_true,dead_iff] at this;exact this ⟨v,hv,strip_kills y v _ h⟩
theorem copy_loop {body:List Nat × Bool × List (TDot × TEvent) → M (Step (List Nat × Bool × List (TDot × TEvent)) (Bool × List (TDot × TEvent)))} (m:List (TDot × TEvent)) (hb:body = fun ⟨seen,nl,v⟩=>need (∀ i ∈ seen,i < m.length)<|M.bind (nxt m.length seen) fun o=>match o with
  | none=>pure (.done (nl,v))
  | some j=>M.bind (idx m (Int.ofNat j)) fun kv=>M.bind (det (book_add_o kv.2 nl v)) fun y=>pure (.next (seen ++ [j],y.1,y.2))) {l:List TEvent} (hm:Holds m l) (hs:SrtE l) (hk:∀ e ∈ l,e.kills.length ≤ 1000000000000) {Q:Bool × List (TDot × TEvent) → Prop}
  (hQ:∀ nl m',Holds m' l → (nl = true → m' = []) → Q (nl,m')):(loop body ([],true,[])).wp Q:=by
 refine M.loopM (body:=body) m (fun L (t:Bool × List (TDot × TEvent))=>(L,t.1,t.2)) (fun t e=>(book_add_o e.2 t.1 t.2).det) (fun t=>pure (t.1,t.2))
  (fun q t=>(t.2.map (·.1)).Nodup ∧ (∀ k,k ∈ t.2 ↔ k ∈ q) ∧ (∀ k ∈ q,k ∈ m) ∧ (t.1 = true → t.2 = [])) Q (fun L t hL=>?_) (fun q t y ht hlen hy=>?_) (fun q t hp ht=>?_) (true,[]) ⟨List.nodup_nil,fun k=>Iff.rfl,(fun k h=>by cases h),fun _=>rfl⟩
 ·subst hb;show need _ ((nxt _ _).bind _) = need _ ((nxt _ _).bind _);refine congrArg (fun k=>need _ ((nxt _ _).bind k)) (funext fun o=>?_)
  cases o with
  | none=>rfl
  | some i=>rfl
 ·obtain ⟨h1,h2,h3,h4⟩:=ht;have hyl:=(hm.mem.1 hy).1;have hyd:=(hm.mem.1 hy).2;refine ⟨_,by rw [add_eq (hk _ hyl) h4,det_pure],AL.nodup_set h1 _ _,fun k=>?_,fun k hk'=>?_,fun h=>by cases h⟩
  ·rw [mem_set h1,h2,List.mem_append,List.mem_singleton];have ey:y = (y.2.dot,y.2):=by rw [← hyd]
   constructor
   ·rintro (⟨h,_⟩ | h)
    ·exact .inl h
    ·rw [h];exact .inr ey.symm
   ·rintro (h | h)
    ·by_cases e:k.1 = y.2.dot
     ·obtain ⟨g1,g2⟩:=hm.mem.1 (h3 k h);have:k.2 = y.2:=srtE_one hs g1 hyl (by rw [← g2,e]);refine .inr ?_;obtain ⟨k1,k2⟩:=k;simp only at e this;rw [e,this]
     ·exact .inl ⟨h,e⟩
    ·rw [h];exact .inr ey
  ·rcases List.mem_append.1 hk' with h | h
   ·exact h3 k h
   ·rw [List.mem_singleton.1 h];exact hy
 ·obtain ⟨h1,h2,h3,h4⟩:=ht;refine hQ t.1 t.2 (holds_of h1 hs fun k=>?_) h4;rw [h2,hp.mem_iff,hm.mem]
theorem Rep.copy (hR:Rep n W c xc nl1 m1 nl2 m2 L) (hn:n ≤ 100000000) {Q:List TPart × Bool × List (TDot × TEvent) × Bool × List (TDot × TEvent) → Prop}
  (h:∀ a p b q,Rep n W (C.normC W) xc a p b q L → Q (C.normC W,a,p,b,q)):(book_Book_Copy_o c nl1 m1 nl2 m2).wp Q:=by
 unfold book_Book_Copy_o;rw [C.Norm_eq c (hR.okc hn).sm,det_pure,pure_bind];have hc:C.normC c = C.normC W:=by rw [hR.ctx,C.norm_canon (C.canon_norm W)]
 refine copy_loop (body:=book_Book_Copy_o_l0 m1) m1 rfl hR.live (srtE_filter hR.srt _) (fun e he=>by have:=hR.kl e (mem_live.1 he).1;omega) fun a p ha1 ha2=>?_
 refine copy_loop (body:=book_Book_Copy_o_l1 m2) m2 rfl hR.tomb (srtE_filter hR.srt _) (fun e he=>by have:=hR.kl e (mem_tomb.1 he).1;omega) fun b q hb1 hb2=>?_
 show Q (C.normC c,a,p,b,q);rw [hc];exact h a p b q { hR with ctx:=rfl,live:=ha1,tomb:=hb1,n1:=ha2,n2:=hb2 }
theorem Rep.Same (hR:Rep n W c xc nl1 m1 nl2 m2 L) (hn:n ≤ 100000000) {n':Nat} {W' c' xc':List TPart} {a b:Bool} {p q:List (TDot × TEvent)} {L':List TEvent} (hR':Rep n' W' c' xc' a p b q L') (hn':n' ≤ 100000000) :
  book_Same_o c c' nl1 m1 nl2 m2 a p b q = pure (decide (C.normC W = C.normC W') && decide (L = L')):=by
 unfold book_Same_o;have o1:C.Ok (C.normC W):=hR.ctx ▸ hR.okc hn;have o2:C.Ok (C.normC W'):=hR'.ctx ▸ hR'.okc hn';have hA:=F.eAll_eq L L' (by have:=hR.ll;omega) (fun e he=>by have:=hR.kl e he;omega);rw [hR.Ctx hn,det_pure,pure_bind,hR'.Ctx hn',det_pure,pure_bind,C.Same_eq _ _ o1.sm o2.sm,det_pure,pure_bind,C.norm_canon (C.canon_norm W),C.norm_canon (C.canon_norm W'),hR.All hn,det_pure,pure_bind,hR'.All hn',det_pure,pure_bind,hA,det_pure,pure_bind,cond_pure_and,pure_bind]
end

open E (OkE goodE SrtE)
open F (hasD dotsL dotsE deadE)

theorem delF {body:Int × Int × List TEvent → M (Step (Int × Int × List TEvent) (Int × List TEvent))} (p:TEvent → Bool) (l:List TEvent) (hl:l.length ≤ 1000000000)
  (hb1:∀ (i j:Nat) (v:List TEvent) (x:TEvent),v[j]? = some x → j < v.length → i < j → v.length ≤ 1000000000 → body ((i:Int),(j:Int),v) = pure (.next (if p x = true then ((i:Int),((j + 1:Nat):Int),v) else (((i + 1:Nat):Int),((j + 1:Nat):Int),v.set i x))))
  (hb2:∀ (i:Int) (v:List TEvent),body (i,(v.length:Int),v) = pure (.done (i,v))) :
  ∀ (k i j:Nat) (v:List TEvent),j + k = l.length → v.length = l.length → i < j → i = ((l.take j).filter fun x=>!p x).length → v.take i = (l.take j).filter (fun x=>!p x) → v.drop j = l.drop j →
   ∃ v',loop body ((i:Int),(j:Int),v) = pure (((l.filter fun x=>!p x).length:Int),v') ∧ v'.length = l.length ∧ v'.take (l.filter fun x=>!p x).length = l.filter fun x=>!p x:=by
 intro k
 induction k with
 | zero=>
  intro i j v hj hv hij hi ht hd;have e:j = v.length:=by omega
  subst e;rw [loop_done (hb2 _ _)];rw [hv,List.take_length] at hi ht;exact ⟨v,by rw [hi],hv,by rw [← hi];exact ht⟩
 | succ k ih=>
  intro i j v hj hv hij hi ht hd;have hlt:j < v.length:=by omega
  have hx:=List.getElem?_eq_getElem hlt;have hlx:l[j]? = some v[j]:=by
   have:=congrArg (fun q:List TEvent=>q[0]?) hd;simp only [List.getElem?_drop,Nat.add_zero] at this;rw [← this];exact hx
  have htk:l.take (j + 1) = l.take j ++ [v[j]]:=by rw [List.take_add_one,hlx];rfl
  rw [loop_next (hb1 i j v _ hx hlt hij (by omega))];have hd1:v.drop (j + 1) = l.drop (j + 1):=by
   have:=congrArg (fun q:List TEvent=>q.drop 1) hd;simpa [List.drop_drop,Nat.add_comm] using this
  by_cases c:p v[j] = true
  ·rw [if_pos c];refine ih i (j + 1) v (by omega) hv (by omega) ?_ ?_ hd1
   ·rw [htk,List.filter_append,List.filter_cons,if_neg (by simp [c])];simpa using hi
   ·rw [htk,List.filter_append,List.filter_cons,if_neg (by simp [c])];simpa using ht
  ·rw [if_neg c];have hf:(l.take (j + 1)).filter (fun x=>!p x) = (l.take j).filter (fun x=>!p x) ++ [v[j]]:=by
    rw [htk,List.filter_append,List.filter_cons,if_pos (by simp [c])];rfl
   refine ih (i + 1) (j + 1) (v.set i v[j]) (by omega) (by rw [List.length_set];exact hv) (by omega) ?_ ?_ ?_
   ·rw [hf,List.length_append,List.length_singleton,← hi]
   ·have hls:i < (v.set i v[j]).length:=by rw [List.length_set];omega
    rw [hf,List.take_add_one,List.take_set,List.getElem?_set_self (by omega),ht];have:((l.take j).filter fun x=>!p x).set i v[j] = (l.take j).filter fun x=>!p x:=List.set_eq_of_length_le (by omega)
    rw [this];rfl
   ·rw [List.drop_set,if_pos (by omega)];exact hd1
theorem find_first (l:List TEvent) (p:TEvent → Bool):∀ b:Nat,match (l.zipIdx b).find? (fun y=>p y.1) with
  | some y=>b ≤ y.2 ∧ y.2 - b < l.length ∧ (l.take (y.2 - b)).all (fun x=>!p x) = true ∧ ∃ x,l[y.2 - b]? = some x ∧ p x = true
  | none=>l.filter (fun x=>!p x) = l:=by
 induction l with
 | nil=>intro b;simp
 | cons x r ih=>
  intro b;rw [List.zipIdx_cons,List.find?_cons]
  cases hp:p x with
  | true=>simp [hp]
  | false=>
   simp only [];have h:=ih (b + 1)
   revert h
   cases (r.zipIdx (b + 1)).find? (fun y=>p y.1) with
   | none=>intro h;rw [List.filter_cons,if_pos (by simp [hp]),h]
   | some y=>
    rintro ⟨h1,h2,h3,z,h4,h5⟩;have e:y.2 - b = (y.2 - (b + 1)) + 1:=by omega
    refine ⟨by omega,by simp;omega,?_,z,?_,h5⟩
    ·rw [e,List.take_succ_cons,List.all_cons,hp];exact h3
    ·rw [e,List.getElem?_cons_succ];exact h4
theorem all_filter {l:List TEvent} {p:TEvent → Bool} (h:l.all (fun x=>!p x) = true):l.filter (fun x=>!p x) = l:=List.filter_eq_self.2 fun x hx=>List.all_eq_true.1 h x hx
theorem delete_gen (p:TEvent → Bool) (l:List TEvent) (hl:l.length ≤ 1000000000) (ask:M Int) (body:Int × Int × List TEvent → M (Step (Int × Int × List TEvent) (Int × List TEvent))) (z:TEvent)
  (hask:ask = match l.zipIdx.find? (fun y=>p y.1) with | some y=>pure (y.2:Int) | none=>pure (-1))
  (hb1:∀ (i j:Nat) (v:List TEvent) (x:TEvent),v[j]? = some x → j < v.length → i < j → v.length ≤ 1000000000 → body ((i:Int),(j:Int),v) = pure (.next (if p x = true then ((i:Int),((j + 1:Nat):Int),v) else (((i + 1:Nat):Int),((j + 1:Nat):Int),v.set i x))))
  (hb2:∀ (i:Int) (v:List TEvent),body (i,(v.length:Int),v) = pure (.done (i,v))) :
  (M.bind (M.det ask) fun v3=>cond (decide (v3 = (-1))) (M.pure l) (M.bind (M.loop body (v3,(IntKind.i64.wrap (v3 + 1)),l)) (fun ⟨i6,v7⟩=>
   M.need ((0:Int) ≤ i6 ∧ i6 ≤ (List.length v7:Int))<|M.need ((Int.toNat i6) + (List.length v7 - Int.toNat i6) ≤ List.length v7) <|
   M.need ((0:Int) ≤ 0 ∧ (0:Int) ≤ i6 ∧ i6 ≤ (List.length ((List.take (Int.toNat i6) v7 ++ List.replicate (List.length v7 - Int.toNat i6) z ++ List.drop ((Int.toNat i6) + (List.length v7 - Int.toNat i6)) v7)):Int)) <|
   M.pure ((List.take (Int.toNat i6) ((List.take (Int.toNat i6) v7 ++ List.replicate (List.length v7 - Int.toNat i6) z ++ List.drop ((Int.toNat i6) + (List.length v7 - Int.toNat i6)) v7)))))):M (List TEvent)) = pure (l.filter fun x=>!p x):=by
 have hf:=find_first l p 0
 revert hf
 rw [hask]
 cases l.zipIdx.find? (fun y=>p y.1) with
 | none=>intro hf;rw [hf];simp [det_pure,pure_bind]
 | some y=>
  rintro ⟨h1,h2,h3,x,h4,h5⟩;simp only [Nat.sub_zero] at h2 h3 h4;have hne:decide ((y.2:Int) = -1) = false:=decide_eq_false (by omega);have hall:=all_filter h3;have hlen:(l.take y.2).length = y.2:=by rw [List.length_take];omega
  have htk:l.take (y.2 + 1) = l.take y.2 ++ [x]:=by rw [List.take_add_one,h4];rfl
  have hft:(l.take (y.2 + 1)).filter (fun x=>!p x) = l.take y.2:=by rw [htk,List.filter_append,hall,List.filter_cons,if_neg (by simp [h5])];simp
  obtain ⟨v',e1,e2,e3⟩:=delF (body:=body) p l hl hb1 hb2 (l.length - (y.2 + 1)) y.2 (y.2 + 1) l (by omega) rfl (by omega) (by rw [hft,hlen]) (by rw [hft]) rfl;have hle:=List.length_filter_le (fun x=>!p x) l;simp only [det_pure,pure_bind,hne,cond_false,wSucc (show y.2 < 9223372036854775807 by omega),e1,Int.toNat_natCast];rw [need_true (by omega),need_true (by omega),need_true (by simp;omega)];rw [List.append_assoc,List.take_append_of_le_length (by rw [List.length_take];omega),List.take_take,Nat.min_self,e3]
theorem DelOf_eq (l:List TEvent) (cid:Int) (hl:l.length ≤ 1000000000):slices_DeleteFunc_sl_Event_Event_book_Book_Of_c1_o cid l = pure (l.filter fun x=>decide (x.cid = cid)):=by
 unfold slices_DeleteFunc_sl_Event_Event_book_Book_Of_c1_o;have h:=delete_gen (fun x=>!decide (x.cid = cid)) l hl (slices_IndexFunc_sl_Event_Event_book_Book_Of_c1 l cid) (slices_DeleteFunc_sl_Event_Event_book_Book_Of_c1_o_l0 cid) ⟨⟨0,0⟩,0,0,0,⟨#[]⟩,[]⟩ (by
  unfold slices_IndexFunc_sl_Event_Event_book_Book_Of_c1;have:=loopF (body:=slices_IndexFunc_sl_Event_Event_book_Book_Of_c1_l0 l cid) l (fun i=>(i:Int)) (fun _ x=>!decide (x.cid = cid)) (fun i _=>Ex.ret (i:Int)) (pure (Ex.brk ())) (fun i x hx hi=>by
   have hd:decide ((i:Int) < (l.length:Int)) = true:=by simpa using hi
   unfold slices_IndexFunc_sl_Event_Event_book_Book_Of_c1_l0 book_Book_Of_c1_cl;simp only [hd,cond_true,idx_nat hx,pure_bind,det_pure,wSucc (show i < 9223372036854775807 by omega)]
   cases decide (x.cid = cid) <;> rfl) (by
   unfold slices_IndexFunc_sl_Event_Event_book_Book_Of_c1_l0;simp [pure_bind])
  rw [show (0:Int) = ((0:Nat):Int) from rfl,this]
  cases l.zipIdx.find? (fun y=>!decide (y.1.cid = cid)) <;> rfl) (fun i j v x hx hj hij hv=>by
  have hd:decide ((j:Int) < (v.length:Int)) = true:=by simpa using hj
  obtain ⟨w,hw⟩:∃ w,v[i]? = some w:=⟨_,List.getElem?_eq_getElem (by omega)⟩
  unfold slices_DeleteFunc_sl_Event_Event_book_Book_Of_c1_o_l0 book_Book_Of_c1_cl;simp only [hd,cond_true,idx_nat hx,idx_nat hw,pure_bind,det_pure,wSucc (show j < 9223372036854775807 by omega),wSucc (show i < 9223372036854775807 by omega),Int.toNat_natCast]
  cases decide (x.cid = cid) <;> rfl) (fun i v=>by
  unfold slices_DeleteFunc_sl_Event_Event_book_Book_Of_c1_o_l0;simp [pure_bind])
 rw [h];simp
section
variable {n:Nat} {W c xc:List TPart} {nl1:Bool} {m1:List (TDot × TEvent)} {nl2:Bool} {m2:List (TDot × TEvent)} {L:List TEvent}
def ofL (L:List TEvent) (cid:Int):List TEvent:=(liveL L).filter fun x=>decide (x.cid = cid)
theorem Rep.Of (hR:Rep n W c xc nl1 m1 nl2 m2 L) (hn:n ≤ 100000000) (cid:Int):book_Book_Of_o cid c nl1 m1 nl2 m2 = pure (ofL L cid):=by
 unfold book_Book_Of_o;rw [hR.Live hn,det_pure,pure_bind,DelOf_eq _ _ (by have:=live_len L;have:=hR.ll;omega),det_pure,pure_bind]
 rfl
theorem rOf_eq (xc:List TPart) (L:List TEvent) (hl:L.length ≤ 1000000000) (cid:Int):r18_Of ⟨xc,L⟩ cid = pure (ofL L cid):=by
 unfold r18_Of;rw [filtL (body:=r18_Of_l0 ⟨xc,L⟩ cid) L (fun x=>decide (x.kind = 1) && decide (x.cid = cid)) (fun t=>pure t) (fun i x t hx hi hI=>by
  have hd:decide ((i:Int) < (L.length:Int)) = true:=by simpa using hi
  unfold r18_Of_l0;simp only [hd,cond_true,idx_nat hx,pure_bind,wSucc (show i < 9223372036854775807 by omega)]
  cases decide (x.kind = 1) <;> cases decide (x.cid = cid) <;> simp only [cond_true,cond_false,pure_bind,if_true,if_false,Bool.false_eq_true,Bool.and_true,Bool.and_false]
  rw [need_true (by simp;omega)]
  rfl) (fun t=>by unfold r18_Of_l0;simp [pure_bind]),pure_bind]
 unfold ofL liveL;rw [List.filter_filter]
 congr 1
 exact List.filter_congr fun x _=>by rw [Bool.and_comm]
theorem make_ok (hR:Rep n W c xc nl1 m1 nl2 m2 L) {e:TEvent} (oe:OkE e):OkE (makeE W L e).1:=by
 have hz:OkE ⟨⟨0,0⟩,0,0,0,⟨#[]⟩,[]⟩:=⟨⟨by decide,by decide,by decide,by decide⟩,by decide,by decide,by decide,by decide,(fun d hd=>nomatch hd),by decide⟩
 unfold makeE
 split
 ·exact hz
 ·split
  ·exact hz
  ·split
   ·exact hz
   ·rename_i h
    refine ⟨oe.dot,oe.kind,oe.cid,oe.field,oe.text,fun d hd=>?_,by show (killE L e).length ≤ _;omega⟩;have hd':d ∈ killE L e:=hd;unfold killE at hd';obtain ⟨x,hx,h2⟩:=mem_dotsL.1 (D.sort_mem.1 hd');have hxL:=(mem_live.1 (List.mem_filter.1 hx).1).1;rcases h2 with rfl | h2
    ·exact (hR.good x hxL).2.dot
    ·exact (hR.good x hxL).2.kills d h2
end
structure InA (a:L18Act):Prop where
 ev:a.event.kills.length ≤ 300 ∧ a.event.text.size ≤ 200 → OkE a.event
 dev:∀ p ∈ a.ctx,0 ≤ p.dev
def fewA1 (a:L18Act):Bool:=E.fewE [a.event] 1 && (decide (a.ctx.length ≤ 30) && a.ctx.all fun p=>decide (p.runs.length ≤ 30))
def fewA (l:List L18Act) (most:Nat):Bool:=decide (l.length ≤ most) && l.all fewA1
theorem rFewA_eq (l:List L18Act) (most:Nat) (hm:most ≤ 1000000):l18_Few l (most:Int) = pure (if fewA l most = true then 1 else 0):=by
 unfold l18_Few fewA
 by_cases h:l.length ≤ most
 ·have hd:decide ((most:Int) < (l.length:Int)) = false:=by simp;omega
  have:=loopAll (body:=l18_Few_l0 l) l (fun i=>(i:Int)) (fun _ x=>fewA1 x) (Ex.brk ()) (Ex.ret (0:Int)) (fun i x hx hi=>by
   have hd:decide ((i:Int) < (l.length:Int)) = true:=by simpa using hi
   unfold l18_Few_l0;have h1:=E.rFew_eq [x.event] 1 (by decide);have h1':r13_Few [x.event] 1 = pure (E.fewE [x.event] 1):=h1;simp only [hd,cond_true,idx_nat hx,pure_bind,h1',det_pure,C.rFew_eq,wSucc (show i < 9223372036854775807 by omega)];unfold fewA1
   cases E.fewE [x.event] 1 with
   | false=>rfl
   | true=>
    simp only [Bool.not_true,cond_false,pure_bind,Bool.true_and]
    cases (decide (x.ctx.length ≤ 30) && x.ctx.all fun p=>decide (p.runs.length ≤ 30)) <;> rfl) (by
   unfold l18_Few_l0;simp [pure_bind])
  rw [hd,cond_false,show (0:Int) = ((0:Nat):Int) from rfl,this,pure_bind,decide_eq_true h,Bool.true_and];have hz:(l.zipIdx.all fun y=>fewA1 y.1) = l.all fewA1:=E.all_zip l fewA1;rw [hz]
  cases l.all fewA1 <;> rfl
 ·have hd:decide ((most:Int) < (l.length:Int)) = true:=by simp;omega
  rw [hd,cond_true,decide_eq_false h,Bool.false_and]
  rfl
theorem fewA_mem {l:List L18Act} {most:Nat} (h:fewA l most = true) (hi:∀ a ∈ l,InA a):l.length ≤ most ∧ ∀ a ∈ l,OkE a.event ∧ C.Ok a.ctx ∧ a.ctx.length ≤ 30 ∧ C.totC a.ctx ≤ 900:=by
 unfold fewA at h;rw [Bool.and_eq_true,decide_eq_true_eq,List.all_eq_true] at h;refine ⟨h.1,fun a ha=>?_⟩;have h2:=h.2 a ha;unfold fewA1 at h2;rw [Bool.and_eq_true] at h2;have h3:=(E.few_mem h2.1).2 a.event (by simp);have h4:=C.few_tot h2.2;exact ⟨(hi a ha).ev h3,C.ok_few (hi a ha).dev h4,h4⟩

open E (OkE goodE SrtE)
open F (hasD dotsL dotsE deadE)

theorem wp_bind {α β:Type} {x:M α} {f:α → M β} {Q:β → Prop} (h:x.wp fun a=>(f a).wp Q):(x.bind f).wp Q:=h
def exA : TEvent:=⟨⟨1,1⟩,1,281474976710657,1,⟨#[97]⟩,[]⟩
def exB : TEvent:=⟨⟨1,2⟩,2,281474976710657,0,⟨#[]⟩,[]⟩
def exC : TEvent:=⟨⟨1,2⟩,2,281474976710657,0,⟨#[]⟩,[⟨1,1⟩]⟩
theorem okA : OkE exA:=⟨⟨by decide,by decide,by decide,by decide⟩,by decide,by decide,by decide,by decide,(fun d hd=>nomatch hd),by decide⟩
theorem okB : OkE exB:=⟨⟨by decide,by decide,by decide,by decide⟩,by decide,by decide,by decide,by decide,(fun d hd=>nomatch hd),by decide⟩
theorem okC : OkE exC:=⟨⟨by decide,by decide,by decide,by decide⟩,by decide,by decide,by decide,by decide,(fun d hd=>by
 rw [show exC.kills = [⟨1,1⟩] from rfl,List.mem_singleton] at hd;subst hd;exact ⟨by decide,by decide,by decide,by decide⟩),by decide⟩
theorem mkA : makeE [] [] exA = (exA,0):=by decide
theorem putA : putL [] exA = [exA]:=by decide
theorem gA : goodE exA = true:=by decide
theorem gC : goodE exC = true:=by decide
def wA : List TPart:=[] ++ C.dotsC (dotsE [exA])
theorem mkB : makeE wA [exA] exB = (exC,0):=by decide
theorem putC : putL [exA] exC = [exC]:=by decide
theorem works18 : l18_works = pure true:=by
 have hm1:book_Book_Make_o exA [] true [] true [] = pure (exA,0):=by rw [← mkA];exact (Rep.new.make (by omega) okA).1
 obtain ⟨c1,x1,a1,p1,b1,q1,hp1,_,R1⟩:=Rep.new.put (by omega) okA gA (by decide);rw [putA] at R1;have hm2:book_Book_Make_o exB c1 a1 p1 b1 q1 = pure (exC,0):=by rw [← mkB];exact (R1.make (by omega) okB).1
 obtain ⟨c2,x2,a2,p2,b2,q2,hp2,_,R2⟩:=R1.put (by omega) okC gC (by decide);rw [putC] at R2;have hl:=R2.Live (by omega);have ht:=R2.Tombs (by omega);have ho:=C.rOf_eq [exC.dot] (by simp);obtain ⟨k,a3,p3,b3,q3,hp3,_,R3,hk⟩:=R2.prune (by omega) (C.ok_dots (l:=[exC.dot]) (by simp));have hpr:pruneL (C.normC (C.dotsC [exC.dot])) [exC] = []:=by
  unfold pruneL;have:seenB (C.normC (C.dotsC [exC.dot])) exC = true:=by unfold seenB;rw [C.has_normC];decide
  rw [List.filter_cons,this];rfl
 have hk1:k = 1:=by
  have:seenB (C.normC (C.dotsC [exC.dot])) exC = true:=by unfold seenB;rw [C.has_normC];decide
  rw [hk,show tombL [exC] = [exC] by decide,List.filter_cons,this];rfl
 subst hk1;rw [hpr] at R3;have hall:=R3.All (by omega);have hctx:=R3.Ctx (by omega);have hw:C.Ok (C.normC ([] ++ C.dotsC (dotsE [exA]) ++ C.dotsC (dotsE [exC]))):=ok_normW (by decide) (by decide);have h1:r09_Has (C.normC ([] ++ C.dotsC (dotsE [exA]) ++ C.dotsC (dotsE [exC]))) exA.dot = pure true:=by
  rw [C.rHas_eq _ _ hw,C.has_normC];exact congrArg pure (by decide)
 have h2:r09_Has (C.normC ([] ++ C.dotsC (dotsE [exA]) ++ C.dotsC (dotsE [exC]))) exC.dot = pure true:=by
  rw [C.rHas_eq _ _ hw,C.has_normC];exact congrArg pure (by decide)
 unfold l18_works book_New_o;rw [show (⟨(⟨1,1⟩:TDot),1,281474976710657,1,(⟨#[97]⟩:ByteArray),([]:List TDot)⟩:TEvent) = exA from rfl,show (⟨(⟨1,2⟩:TDot),2,281474976710657,0,(⟨#[]⟩:ByteArray),([]:List TDot)⟩:TEvent) = exB from rfl];simp only [det_pure,pure_bind,hm1,hp1,hm2,hp2,decide_true,Bool.not_true,cond_false,hl,ht,show exC.kills.length = 1 from rfl,show (liveL [exC]).length = 0 by decide,show (tombL [exC]).length = 1 by decide,ho,hp3,hall,hctx,h1,h2,List.length_nil,cond_true,show ((1:Nat):Int) = 1 from rfl,show ((0:Nat):Int) = 0 from rfl]
theorem bookPlays_eq (l:List L18Act) (hi:∀ a ∈ l,InA a):l18_BookPlays l = pure true:=by
 unfold l18_BookPlays;have hfw:=rFewA_eq l 25 (by omega);rw [show ((25:Nat):Int) = 25 from rfl] at hfw;rw [hfw,det_pure,pure_bind,works18]
 cases hf:fewA l 25 with
 | false=>rw [if_neg (by simp),show decide ((0:Int) = 0) = true by decide,cond_true,det_pure,pure_bind]
 | true=>
  obtain ⟨hlen,hA⟩:=fewA_mem hf hi;rw [if_pos rfl,show decide ((1:Int) = 0) = false by decide,cond_false,show book_New_o = pure (([]:List TPart),true,([]:List (TDot × TEvent)),true,([]:List (TDot × TEvent))) from rfl,det_pure,pure_bind];refine eq_pure ?_;refine wp_bind ?_;refine M.mono _ (P:=fun r=>∃ xc L c b q a p n W,r = Ex.brk (xc,L,c,b,q,a,p) ∧ n ≤ 100000 ∧ Rep n W c xc a p b q L) (fun r hr=>?_) ?_
  ·obtain ⟨xc,L,c,b,q,a,p,n,W,rfl,hn,hR⟩:=hr;show (M.bind _ _).wp _;refine wp_bind ?_;rw [hR.Is (by omega),det_pure,pure_bind,show decide ((1:Int) = 1) = true by decide,cond_true,det_pure,pure_bind];show true = true
   rfl
  ·refine loop_inv (fun s=>∃ k W,k ≤ l.length ∧ s.1 = (k:Int) ∧ Rep (3000 * k) W s.2.2.2.1 s.2.1 s.2.2.2.2.2.2.1 s.2.2.2.2.2.2.2 s.2.2.2.2.1 s.2.2.2.2.2.1 s.2.2.1) (fun s=>l.length - s.1.toNat) (fun s hs=>?_) _ ⟨0,[],Nat.zero_le _,rfl,Rep.new⟩;obtain ⟨i,xc,L,c,nl2,m2,nl1,m1⟩:=s;obtain ⟨k,W,hk,hik,hR⟩:=hs;simp only at hik hR;subst hik
   by_cases hlt:k < l.length
   ·obtain ⟨x,hx⟩:∃ x,l[k]? = some x:=⟨_,List.getElem?_eq_getElem hlt⟩
    obtain ⟨oe,oc,hc1,hc2⟩:=hA x (List.mem_of_getElem? hx);have hd:decide ((k:Int) < (l.length:Int)) = true:=by simpa using hlt
    have hn:3000 * k ≤ 75000:=by omega
    unfold l18_BookPlays_l0;simp only [hd,cond_true,idx_nat hx,pure_bind];refine wp_bind ?_;refine M.mono _ (P:=fun r=>r.1 = true ∧ ∃ W',Rep (3000 * k + 2000) W' r.2.2.2.1 r.2.1 r.2.2.2.2.2.2.1 r.2.2.2.2.2.2.2 r.2.2.2.2.1 r.2.2.2.2.2.1 r.2.2.1) (fun r hr=>?_) ?_
    ·obtain ⟨ok,xc',L',c',b,q,a,p⟩:=r;obtain ⟨h1,W',hR'⟩:=hr;simp only at h1 hR';subst h1;have hll:=hR'.ll;have hof:=List.length_filter_le (fun x':TEvent=>decide (x'.cid = x.event.cid)) (liveL L');have hl2:=live_len L';have ha:=E.rAll_eq (ofL L' x.event.cid) (ofL L' x.event.cid) (by unfold ofL;omega) (fun e he=>by have:=hR'.kl e (mem_live.1 (List.mem_filter.1 he).1).1;omega);simp only [Bool.not_true,cond_false,hR'.Is (by omega),det_pure,pure_bind,show decide ((1:Int) = 0) = false by decide,hR'.Of (by omega),rOf_eq xc' L' (by omega),ha,decide_true,wSucc (show k < 9223372036854775807 by omega)];exact ⟨⟨k + 1,W',by omega,rfl,hR'.mono (by omega)⟩,by simp only [Int.toNat_natCast];omega⟩
    ·by_cases k0:x.kind = 0
     ·obtain ⟨cd,W',c',xc',a,p,b,q,L',e1,e2,hR'⟩:=hR.putAny (by omega) oe;rw [decide_eq_true k0,cond_true,e2,det_pure,pure_bind,e1,det_pure,pure_bind];exact ⟨decide_eq_true rfl,W',hR'.mono (by omega)⟩
     ·rw [decide_eq_false k0,cond_false]
      by_cases k1:x.kind = 1
      ·obtain ⟨hm1,hm2⟩:=hR.make (by omega) oe;have om:=make_ok hR oe;obtain ⟨cd,W',c',xc',a,p,b,q,L',e1,e2,hR'⟩:=hR.putAny (by omega) om;have hs:=E.rSame_eq (makeE W L x.event).1 (makeE W L x.event).1 (by have:=om.klen;omega);rw [decide_eq_true k1,cond_true,hm1,det_pure,pure_bind,hm2,det_pure,pure_bind,e2,det_pure,pure_bind,hs,det_pure,pure_bind,decide_eq_true rfl,cond_true,decide_eq_true rfl,cond_true,e1,det_pure,pure_bind,pure_bind];exact ⟨decide_eq_true rfl,W',hR'.mono (by omega)⟩
      ·rw [decide_eq_false k1,cond_false]
       by_cases k2:x.kind = 2
       ·obtain ⟨c',xc',e1,e2,hR'⟩:=hR.see (by omega) oc (k:=900) (by omega) hc2 (by omega);rw [decide_eq_true k2,cond_true,e1,det_pure,pure_bind,e2,det_pure,pure_bind];exact ⟨rfl,_,hR'.mono (by omega)⟩
       ·rw [decide_eq_false k2,cond_false]
        by_cases k3:x.kind = 3
        ·obtain ⟨kk,a,p,b,q,e1,e2,hR',_⟩:=hR.prune (by omega) oc;rw [decide_eq_true k3,cond_true,e2,det_pure,pure_bind,e1,det_pure,pure_bind];exact ⟨decide_eq_true rfl,_,hR'.mono (by omega)⟩
        ·rw [decide_eq_false k3,cond_false]
         by_cases k4:x.kind = 4
         ·rw [decide_eq_true k4,cond_true];refine wp_bind ?_;refine hR.copy (by omega) fun a p b q R2=>?_
          obtain ⟨c',xc',e1,_,R3⟩:=hR.see (by omega) oc (k:=900) (by omega) hc2 (by omega);obtain ⟨cd,W',c4,xc4,a4,p4,b4,q4,L4,e2,_,R4⟩:=R3.putAny (by omega) oe;obtain ⟨kk,a5,p5,b5,q5,e3,_,_,_⟩:=R4.prune (by omega) oc;simp only [e1,e2,e3,det_pure,pure_bind];exact ⟨rfl,_,R2.mono (by omega)⟩
         ·rw [decide_eq_false k4,cond_false];refine wp_bind ?_;refine hR.copy (by omega) fun a p b q R2=>?_
          simp only [hR.Same (by omega) R2 (by omega),det_pure,pure_bind,decide_true,Bool.and_self];exact ⟨rfl,_,hR.mono (by omega)⟩
   ·have hkl:k = l.length:=by omega
    have hd:decide ((k:Int) < (l.length:Int)) = false:=by simp;omega
    unfold l18_BookPlays_l0;simp only [hd,cond_false];exact ⟨xc,L,c,nl2,m2,nl1,m1,3000 * k,W,rfl,by omega,hR⟩
end Go.Ep.M.G

namespace Go.Ep
open Go.RowKit Go.ChangeShapes Go.WideShapes

abbrev All : Nat → Prop:=fun _=>True

mutual
def bulk {H:Type}:DataW H → Nat
 | .lit (.string bytes)=>bytes.length + 1
 | .lit _=>1
 | .nil=>1
 | .ptr d=>bulk d + 1
 | .slice elems spare=>bulkAll elems + bulkAll spare + 1
 | .agg parts=>bulkAll parts + 1
 | .iface _ d=>bulk d + 1
 | .map entries=>bulkEntries entries + 1
 | .held _=>1
def bulkAll {H:Type}:List (DataW H) → Nat
 | []=>0
 | d :: r=>bulk d + bulkAll r
def bulkEntries {H:Type}:List (Lit × DataW H) → Nat
 | []=>0
 | x :: r=>bulkEntry x + bulkEntries r
def bulkEntry {H:Type}:Lit × DataW H → Nat
 | (.string bytes,d)=>bytes.length + bulk d + 1
 | (_,d)=>bulk d + 1
end
theorem one_bulk {H:Type} (d:DataW H):1 ≤ bulk d:=by
 cases d with
 | lit l=>cases l <;> simp [bulk]
 | nil=>simp [bulk]
 | ptr d=>simp [bulk]
 | slice elems spare=>simp [bulk]
 | agg parts=>simp [bulk]
 | iface t d=>simp [bulk]
 | map entries=>simp [bulk]
 | held h=>simp [bulk]
theorem bulkAll_app {H:Type} (l r:List (DataW H)):bulkAll (l ++ r) = bulkAll l + bulkAll r:=by
 induction l with
 | nil=>simp [bulkAll]
 | cons x l ih=>simp only [List.cons_append,bulkAll,ih];omega
def szL {α:Type} (sz:α → Nat):List α → Nat
 | []=>0
 | a :: r=>sz a + szL sz r
theorem szL_app {α:Type} (sz:α → Nat) (l r:List α):szL sz (l ++ r) = szL sz l + szL sz r:=by
 induction l with
 | nil=>simp [szL]
 | cons x l ih=>simp only [List.cons_append,szL,ih];omega
structure Opn (P:Program) (t:TypeId) (k:Nat) {α:Type} (enc:α → List DV) (ok:α → Prop) (sz:α → Nat):Prop where
 cells:P.cellsOf t = k
 op:∀ {H:Type} {en:TypeId × Value → H} {w:World} {fuel:Nat} {cs:List Value} {x:DataW H × List MemPlace},DataW.trod en P w 0 (fun _=>true) true fuel t cs = some x →
  ∃ a,ok a ∧ cs.length = k ∧ (enc a).length = k ∧ (∀ (j:Nat) (y:DV) (u:Value),(enc a)[j]? = some y → cs[j]? = some u → DRd w All y u) ∧ sz a ≤ bulk x.1

section
variable {P:Program} {t:TypeId}

theorem Opn.map {k:Nat} {α β:Type} {enc:α → List DV} {enc':β → List DV} {ok:α → Prop} {ok':β → Prop} {sz:α → Nat} {sz':β → Nat} (h:Opn P t k enc ok sz) (f:α → β) (he:∀ a,ok a → enc' (f a) = enc a) (ho:∀ a,ok a → ok' (f a)) (hz:∀ a,sz' (f a) ≤ sz a):Opn P t k enc' ok' sz':=
 ⟨h.cells,fun hx=>let ⟨a,h1,h2,h3,h4,h5⟩:=h.op hx;⟨f a,ho a h1,h2,by rw [he a h1];exact h3,by rw [he a h1];exact h4,Nat.le_trans (hz a) h5⟩⟩

theorem one_get {w:World} {y:DV} {u:Value} (h:DRd w All y u):∀ (j:Nat) (y':DV) (u':Value),[y][j]? = some y' → [u][j]? = some u' → DRd w All y' u':=by
 intro j y' u' h1 h2
 cases j with
 | zero=>simp at h1 h2;subst h1;subst h2;exact h
 | succ j=>simp at h1

def okK (k:IntKind) (n:Int):Prop:=(Lit.int k n).wf = true
theorem Opn.int {k:IntKind} (hu:P.underlying t = some (.int k)) (hc:P.cellsOf t = 1):Opn P t 1 (eK k) (okK k) (fun _=>1):=by
 refine ⟨hc,fun {H en w fuel cs x} h=>?_⟩
 cases fuel with
 | zero=>simp [DataW.trod] at h
 | succ fuel=>
  unfold DataW.trod at h;rw [hu] at h
  split at h <;> simp_all
  case h_2 n _=>
   obtain ⟨⟨h1,h2⟩,_⟩:=h;subst h1;refine ⟨n,h2,rfl,?_,one_bulk _⟩;intro j y u h1 h3;exact one_get (.v _ rfl) j y u h1 h3
theorem okU64 {n:Int} (h:okK .u64 n):0 ≤ n ∧ n < 18446744073709551616:=by
 simp [okK,Lit.wf,IntKind.min,IntKind.max,IntKind.signed,IntKind.bits] at h;omega
theorem okU16 {n:Int} (h:okK .u16 n):0 ≤ n ∧ n < 65536:=by
 simp [okK,Lit.wf,IntKind.min,IntKind.max,IntKind.signed,IntKind.bits] at h;omega
theorem okU8 {n:Int} (h:okK .u8 n):0 ≤ n ∧ n < 256:=by
 simp [okK,Lit.wf,IntKind.min,IntKind.max,IntKind.signed,IntKind.bits] at h;omega
theorem Opn.str (hu:P.underlying t = some .string) (hc:P.cellsOf t = 1):Opn P t 1 eS (fun s=>s.size ≤ 9223372036854775807) (fun s=>s.size + 1):=by
 refine ⟨hc,fun {H en w fuel cs x} h=>?_⟩
 cases fuel with
 | zero=>simp [DataW.trod] at h
 | succ fuel=>
  unfold DataW.trod at h;rw [hu] at h
  split at h <;> simp_all
  case h_4=>
   rename_i s
   obtain ⟨h1,h2⟩:=h;refine ⟨s,by have:=h1;unfold maxLen at this;exact this,rfl,?_,?_⟩
   ·intro j y u h1 h2;exact one_get (.v _ rfl) j y u h1 h2
   ·subst h2;have e:s.data.toList.length = s.size:=Array.length_toList;show s.size + 1 ≤ bulk (DataW.lit (Lit.string s.data.toList));unfold bulk;omega

theorem Opn.slice {e:TypeId} {k:Nat} {α:Type} {enc:α → List DV} {ok:α → Prop} {sz:α → Nat} (h:Opn P e k enc ok sz) (hu:P.underlying t = some (.slice e)) (hc:P.cellsOf t = 1) (hk:0 < k) :
  Opn P t 1 (eL enc) (fun l=>l.length ≤ 9223372036854775807 ∧ ∀ a ∈ l,ok a) (fun l=>szL sz l + 1):=by
 refine ⟨hc,fun {H en w fuel cs x} hx=>?_⟩;rcases Deep.open_slice hu hx with ⟨rfl,_⟩ | ⟨a,len,cap,m,n,D,Pl,rfl,_,hl,hm,hmm,hxD,hel⟩
 ·exact ⟨[],⟨Nat.zero_le _,by simp⟩,rfl,rfl,one_get (.nil none 0 (Nat.zero_le _) (fun _=>rfl)),one_bulk _⟩
 simp only [if_true] at hmm;subst hmm;rw [h.cells] at hel;have hcut:∀ n0,n0 ≤ len → ∃ l:List α,l.length = n0 ∧ (∀ a ∈ l,ok a) ∧ szL sz l ≤ bulkAll ((List.range n0).map D) ∧ ∀ (i:Nat) (b:α),l[i]? = some b → (enc b).length = k ∧ ∀ (j:Nat) (y:DV),(enc b)[j]? = some y → ∃ u,w.cell? (a.add (i * k + j)) = some u ∧ DRd w All y u:=by
  intro n0
  induction n0 with
  | zero=>intro _;exact ⟨[],rfl,by simp,by simp [szL],by simp⟩
  | succ n0 ih=>
   intro hn;obtain ⟨l,h1,h2,hz,h3⟩:=ih (by omega);obtain ⟨cs',hc',ht'⟩:=hel n0 (by omega);obtain ⟨b,hb1,hb2,hb3,hb4,hb5⟩:=h.op ht';obtain ⟨_,_,hcell⟩:=World.cells?_some hc';refine ⟨l ++ [b],by simp [h1],?_,by rw [szL_app,List.range_succ,List.map_append,bulkAll_app];simp only [szL,List.map_cons,List.map_nil,bulkAll];simp only at hb5;omega,?_⟩
   ·intro a ha;rcases List.mem_append.1 ha with ha | ha
    ·exact h2 a ha
    ·simp at ha;subst ha;exact hb1
   ·intro i b' hi;rw [List.getElem?_append] at hi
    split at hi
    ·exact h3 i b' hi
    ·rename_i hge
     have hi0:i = n0:=by
      have:i - l.length < 1:=by simpa using (List.getElem?_eq_some_iff.1 hi).1
      omega
     subst hi0;simp [h1] at hi;subst hi;refine ⟨hb3,fun j y hy=>?_⟩;have hj:j < k:=by rw [← hb3];exact (List.getElem?_eq_some_iff.1 hy).1
     have hcj:=hcell j hj;rw [Deep.add_add] at hcj;have hu':cs'[j]? = some (cs'[j]'(by omega)):=List.getElem?_eq_getElem (by omega);exact ⟨_,by rw [hcj,hu'],hb4 j y _ hy hu'⟩
 obtain ⟨l,h1,h2,hz,h3⟩:=hcut len (Nat.le_refl _);refine ⟨l,⟨by unfold maxLen at hm;omega,h2⟩,rfl,rfl,one_get ?_,?_⟩
 rotate_left
 ·rw [hxD];simp only [bulk];omega
 by_cases h0:len = 0
 ·have:l = []:=List.eq_nil_of_length_eq_zero (by omega);subst this;subst h0;exact .nil _ _ hm (fun e=>by cases e)
 ·-- the first cell tells that the address is a plain one
  have hl0:0 < l.length:=by omega
  obtain ⟨hk0,hc0⟩:=h3 0 _ (List.getElem?_eq_getElem hl0);obtain ⟨u0,hu0,_⟩:=hc0 0 _ (List.getElem?_eq_getElem (by omega:0 < (enc l[0]).length));have hspot:a.spot = none:=by simpa [Addr.add] using World.cell?_spot hu0
  obtain ⟨b,off,spot⟩:=a;simp only at hspot;subst hspot;have hb:b < w.heap.size:=by
   rw [Addr.add_lit] at hu0;unfold World.cell? at hu0
   cases hh:w.heap[b]? with
   | none=>simp [hh] at hu0
   | some o=>exact (Array.getElem?_eq_some_iff.1 hh).1
  have hlen:(l.map enc).length = len:=by simp [h1]
  rw [← hlen];refine .sl _ b off m k (fun i j=>(w.cell? ⟨b,off + (i * k + j),none⟩).getD undef) (by omega) hm trivial hb ?_ ?_ ?_
  ·intro i cs hi;rw [List.getElem?_map] at hi
   cases hx:l[i]? with
   | none=>simp [hx] at hi
   | some y=>simp [hx] at hi;subst hi;exact (h3 i y hx).1
  ·intro i j hi hj;have hil:i < l.length:=by simpa using hi
   obtain ⟨e1,e2⟩:=h3 i _ (List.getElem?_eq_getElem hil);obtain ⟨u,hu,_⟩:=e2 j _ (List.getElem?_eq_getElem (by omega:j < (enc l[i]).length));rw [Addr.add_lit] at hu;simp [hu]
  ·intro i cs j x hi hx;rw [List.getElem?_map] at hi
   cases hy:l[i]? with
   | none=>simp [hy] at hi
   | some y=>
    simp [hy] at hi;subst hi;obtain ⟨u,hu,hd⟩:=(h3 i y hy).2 j x hx;rw [Addr.add_lit] at hu;simpa [hu] using hd

structure OpnF (P:Program) (fs:List Field) (off k:Nat) {α:Type} (enc:α → List DV) (ok:α → Prop) (sz:α → Nat):Prop where
 op:∀ {H:Type} {en:TypeId × Value → H} {w:World} {n:Nat} {cs:List Value} {xs:List (DataW H × List MemPlace)},xs.length = fs.length →
  (∀ (i:Nat) (f:Field),fs[i]? = some f → DataW.trod en P w 0 (fun _=>true) true n f.type ((cs.drop f.offset).take (P.cellsOf f.type)) = xs[i]?) →
  ∃ a,ok a ∧ (enc a).length = k ∧ (∀ (j:Nat) (y:DV) (u:Value),(enc a)[j]? = some y → cs[off + j]? = some u → DRd w All y u) ∧ sz a ≤ bulkAll (xs.map (·.1))

theorem OpnF.nil (off:Nat):OpnF P [] off 0 (fun _:Unit=>[]) (fun _=>True) (fun _=>0):=⟨fun _ _=>⟨(),trivial,rfl,by simp,Nat.zero_le _⟩⟩
theorem OpnF.cons {f:Field} {fs:List Field} {off k1 k2:Nat} {α β:Type} {e1:α → List DV} {o1:α → Prop} {e2:β → List DV} {o2:β → Prop} {z1:α → Nat} {z2:β → Nat} (h1:Opn P f.type k1 e1 o1 z1) (ho:f.offset = off) (h2:OpnF P fs (off + k1) k2 e2 o2 z2) :
  OpnF P (f :: fs) off (k1 + k2) (fun p:α × β=>e1 p.1 ++ e2 p.2) (fun p=>o1 p.1 ∧ o2 p.2) (fun p=>z1 p.1 + z2 p.2):=by
 refine ⟨fun {H en w n cs xs} hlen hx=>?_⟩
 cases xs with
 | nil=>simp at hlen
 | cons x xs=>
  have hx0:=hx 0 f rfl;simp only [List.getElem?_cons_zero] at hx0;obtain ⟨a,ha1,ha2,ha3,ha4,ha5⟩:=h1.op hx0;obtain ⟨b,hb1,hb2,hb3,hb4⟩:=h2.op (xs:=xs) (by simpa using hlen) (fun i f' hf=>by have:=hx (i + 1) f' (by simpa using hf);simpa using this);refine ⟨(a,b),⟨ha1,hb1⟩,by simp [ha3,hb2],?_,by simp only [List.map_cons,bulkAll];omega⟩;intro j y u hy hu;simp only [List.getElem?_append] at hy
  by_cases hj:j < k1
  ·rw [if_pos (by omega)] at hy;refine ha4 j y u hy ?_;rw [List.getElem?_take,h1.cells,if_pos hj,List.getElem?_drop,ho];exact hu
  ·rw [if_neg (by omega),ha3] at hy;refine hb3 (j - k1) y u hy ?_;rw [← hu]
   congr 1
   omega
theorem Opn.struct {fs:List Field} {k:Nat} {α:Type} {enc:α → List DV} {ok:α → Prop} {sz:α → Nat} (hu:P.underlying t = some (.struct fs.toArray)) (hc:P.cellsOf t = k) (h:OpnF P fs 0 k enc ok sz):Opn P t k enc ok (fun a=>sz a + 1):=by
 refine ⟨hc,fun {H en w fuel cs x} hx=>?_⟩;obtain ⟨xs,n,_,hxe,hlen,hxl,hf⟩:=DataW.trod_struct hu hx;obtain ⟨a,h1,h2,h3,h4⟩:=h.op (cs:=cs) (xs:=xs) (by simpa using hxl) (fun i f hi=>hf i f (by simpa using hi));exact ⟨a,h1,by rw [hlen,hc],h2,fun j y u hy hu=>h3 j y u hy (by simpa using hu),by rw [hxe];simp only [bulk];omega⟩

theorem Opn.arg {H:Type} {en:TypeId × Value → H} {w:World} {v:Value} {d:DataW H} {ps:List MemPlace} {α:Type} {enc:α → DV} {ok:α → Prop} {sz:α → Nat} (h:Opn P t 1 (fun a=>[enc a]) ok sz)
  (hx:DataW.Trod en P w 0 (fun _=>true) true t v d ps) (h1:v.oneCell' = true):∃ a,ok a ∧ Rd w g0 All (.d (enc a)) v ∧ sz a ≤ bulk d:=by
 obtain ⟨fuel,hf⟩:=hx;obtain ⟨a,ha,_,_,hr,hz⟩:=h.op hf;have hcs:v.cells.toList = [v]:=by cases v <;> first | rfl | (simp [Value.oneCell'] at h1;done)
 exact ⟨a,ha,.d (hr 0 _ v rfl (by rw [hcs];rfl)),hz⟩
theorem trodAll_below {H:Type} {en:TypeId × Value → H} (hl:laidOutB P = true) {W W':World} (hb:Below W.heap.size W W'):∀ {ts:List TypeId} {vs:List Value} {ds:List (DataW H)} {ps:List MemPlace},
  (∀ t ∈ ts,P.readableRec t = true ∧ t < P.types.size) → DataW.TrodAll en P W 0 (fun _=>true) true ts vs ds ps → (∀ x ∈ ps,x.block < W.heap.size) → DataW.TrodAll en P W' 0 (fun b=>decide (b < W.heap.size)) true ts vs ds ps
 | [],[],[],ps,_,h,_=>h
 | t :: ts,v :: vs,d :: ds,ps,hr,h,hlt=>by
  obtain ⟨p,q,h1,h2,rfl⟩:=h;have hrt:=hr t (by simp);exact ⟨p,q,Below.trod hl hrt.1 hrt.2 h1 hb (fun x hx=>hlt x (List.mem_append.2 (.inl hx))),trodAll_below hl hb (fun t ht=>hr t (by simp [ht])) h2 (fun x hx=>hlt x (List.mem_append.2 (.inr hx))),rfl⟩
 | [],[],_ :: _,_,_,h,_=>h.elim
 | [],_ :: _,_,_,_,h,_=>h.elim
 | _ :: _,[],_,_,_,h,_=>h.elim
 | _ :: _,_ :: _,[],_,_,h,_=>h.elim
theorem trodAll_len {H:Type} {en:TypeId × Value → H} {w:World} {base:Nat} {sp:Nat → Bool} {hd:Bool}:∀ {ts:List TypeId} {vs:List Value} {ds:List (DataW H)} {ps:List MemPlace},DataW.TrodAll en P w base sp hd ts vs ds ps → ds.length = ts.length
 | [],[],[],_,_=>rfl
 | _ :: _,_ :: _,_ :: _,_,h=>by
  obtain ⟨_,_,_,h2,_⟩:=h;simp [trodAll_len h2]
 | [],[],_ :: _,_,h=>h.elim
 | [],_ :: _,_,_,h=>h.elim
 | _ :: _,[],_,_,h=>h.elim
 | _ :: _,_ :: _,[],_,h=>h.elim

theorem post_true {H:Type} {en:TypeId × Value → H} {fn:Func} {s:ChangeSpec} {tb:TypeId} {W W':World} {args:Array Value} {ds gs:List (DataW H)} {before:List MemPlace} (hl:laidOutB P = true)
  (hW:DataW.Whole en P fn.params.toList s.vars false W args.toList ds gs before) (hv:s.vars = []) (hs:∀ ds:List (DataW H),ds.length = fn.params.size → (s.fn H ds).results = [.lit (.bool true)] ∧ (s.fn H ds).args = ds ∧ (s.fn H ds).vars = [])
  (hres:fn.resultTypes = #[tb]) (htb:P.underlying tb = some .bool) (hr:∀ t ∈ fn.params.toList,P.readableRec t = true ∧ t < P.types.size) (hb:Below W.heap.size W W') :
  s.post en P fn false true false false W args (.bool true) W':=by
 have hW':=hW;obtain ⟨p,q,hA,hV,hpq,hfz,hnd⟩:=hW;rw [hv] at hV;obtain ⟨rfl,rfl⟩:=trodVars_none hV;simp only [List.append_nil] at hpq;subst hpq;have hlt:∀ x ∈ before,x.block < W.heap.size:=fun x hx=>by simpa using hW'.lt x hx
 have hlen:ds.length = fn.params.size:=by simpa using trodAll_len hA
 obtain ⟨e1,e2,e3⟩:=hs (ds ++ []) (by simpa using hlen);refine ⟨ds,[],before,[],before,[],hW',?_,?_,?_,hb.frame _,fun h=>by cases h⟩
 ·rw [e1,hres];exact trodAll_mk1 (shut_bool htb true)
 ·rw [e2,List.append_nil];exact trodAll_below hl hb hr hA hlt
 ·rw [e3,hv];rfl
end
end Go.Ep

namespace Go.Ep
set_option linter.unusedVariables false

def TDot.ok (x:TDot):Prop:=okK .u16 x.dev ∧ okK .u64 x.n
def TDot.sz (x:TDot):Nat:=(1 + (1 + 0)) + 1
def TRun.ok (x:TRun):Prop:=okK .u64 x.lo ∧ okK .u64 x.hi
def TRun.sz (x:TRun):Nat:=(1 + (1 + 0)) + 1
def TPart.ok (x:TPart):Prop:=okK .u16 x.dev ∧ (List.length x.runs ≤ 9223372036854775807 ∧ ∀ a ∈ x.runs,TRun.ok a)
def TPart.sz (x:TPart):Nat:=(1 + ((szL TRun.sz x.runs + 1) + 0)) + 1
def TEvent.ok (x:TEvent):Prop:=TDot.ok x.dot ∧ okK .u8 x.kind ∧ okK .u64 x.cid ∧ okK .u8 x.field ∧ ByteArray.size x.text ≤ 9223372036854775807 ∧ (List.length x.kills ≤ 9223372036854775807 ∧ ∀ a ∈ x.kills,TDot.ok a)
def TEvent.sz (x:TEvent):Nat:=(TDot.sz x.dot + (1 + (1 + (1 + ((ByteArray.size x.text + 1) + ((szL TDot.sz x.kills + 1) + 0)))))) + 1
def TDelta.ok (x:TDelta):Prop:=(List.length x.from_ ≤ 9223372036854775807 ∧ ∀ a ∈ x.from_,TPart.ok a) ∧ (List.length x.to_ ≤ 9223372036854775807 ∧ ∀ a ∈ x.to_,TPart.ok a) ∧ (List.length x.events ≤ 9223372036854775807 ∧ ∀ a ∈ x.events,TEvent.ok a)
def TDelta.sz (x:TDelta):Nat:=((szL TPart.sz x.from_ + 1) + ((szL TPart.sz x.to_ + 1) + ((szL TEvent.sz x.events + 1) + 0))) + 1
def TMsg.ok (x:TMsg):Prop:=okK .u8 x.kind ∧ okK .u8 x.slot ∧ okK .u64 x.try_ ∧ okK .u16 x.dev ∧ okK .u64 x.epoch ∧ okK .u8 x.why ∧ (List.length x.have_ ≤ 9223372036854775807 ∧ ∀ a ∈ x.have_,TPart.ok a) ∧ (List.length x.front ≤ 9223372036854775807 ∧ ∀ a ∈ x.front,TPart.ok a) ∧ TDelta.ok x.delta
def TMsg.sz (x:TMsg):Nat:=(1 + (1 + (1 + (1 + (1 + (1 + ((szL TPart.sz x.have_ + 1) + ((szL TPart.sz x.front + 1) + (TDelta.sz x.delta + 0))))))))) + 1
def L18Act.ok (x:L18Act):Prop:=okK .u8 x.kind ∧ TEvent.ok x.event ∧ (List.length x.ctx ≤ 9223372036854775807 ∧ ∀ a ∈ x.ctx,TPart.ok a)
def L18Act.sz (x:L18Act):Nat:=(1 + (TEvent.sz x.event + ((szL TPart.sz x.ctx + 1) + 0))) + 1
end Go.Ep
namespace Go.Proofs
open Go.Ep
set_option maxRecDepth 100000
theorem opnTDot : Opn Tryz.prog 31 2 TDot.e TDot.ok TDot.sz:=(Opn.struct Tryz.underlying31 (by kernel_rfl) (OpnF.cons (Opn.int Tryz.underlying28 (by kernel_rfl)) rfl (OpnF.cons (Opn.int Tryz.underlying29 (by kernel_rfl)) rfl (OpnF.nil _)))).map (fun p=>⟨p.1,p.2.1⟩) (fun _ _=>rfl) (fun p h=>⟨h.1,h.2.1⟩) (fun _=>Nat.le_refl _)
theorem opnTRun : Opn Tryz.prog 82 2 TRun.e TRun.ok TRun.sz:=(Opn.struct Tryz.underlying82 (by kernel_rfl) (OpnF.cons (Opn.int Tryz.underlying29 (by kernel_rfl)) rfl (OpnF.cons (Opn.int Tryz.underlying29 (by kernel_rfl)) rfl (OpnF.nil _)))).map (fun p=>⟨p.1,p.2.1⟩) (fun _ _=>rfl) (fun p h=>⟨h.1,h.2.1⟩) (fun _=>Nat.le_refl _)
theorem opnTPart : Opn Tryz.prog 80 2 TPart.e TPart.ok TPart.sz:=(Opn.struct Tryz.underlying80 (by kernel_rfl) (OpnF.cons (Opn.int Tryz.underlying28 (by kernel_rfl)) rfl (OpnF.cons (opnTRun.slice Tryz.underlying78 (by kernel_rfl) (by decide)) rfl (OpnF.nil _)))).map (fun p=>⟨p.1,p.2.1⟩) (fun _ _=>rfl) (fun p h=>⟨h.1,h.2.1⟩) (fun _=>Nat.le_refl _)
theorem opnTEvent : Opn Tryz.prog 34 7 TEvent.e TEvent.ok TEvent.sz:=(Opn.struct Tryz.underlying34 (by kernel_rfl) (OpnF.cons opnTDot rfl (OpnF.cons (Opn.int Tryz.underlying5 (by kernel_rfl)) rfl (OpnF.cons (Opn.int Tryz.underlying29 (by kernel_rfl)) rfl (OpnF.cons (Opn.int Tryz.underlying5 (by kernel_rfl)) rfl (OpnF.cons (Opn.str Tryz.underlying9 (by kernel_rfl)) rfl (OpnF.cons (opnTDot.slice Tryz.underlying32 (by kernel_rfl) (by decide)) rfl (OpnF.nil _)))))))).map (fun p=>⟨p.1,p.2.1,p.2.2.1,p.2.2.2.1,p.2.2.2.2.1,p.2.2.2.2.2.1⟩) (fun _ _=>rfl) (fun p h=>⟨h.1,h.2.1,h.2.2.1,h.2.2.2.1,h.2.2.2.2.1,h.2.2.2.2.2.1⟩) (fun _=>Nat.le_refl _)
theorem opnL18Act : Opn Tryz.prog 90 9 L18Act.e L18Act.ok L18Act.sz:=(Opn.struct Tryz.underlying90 (by kernel_rfl) (OpnF.cons (Opn.int Tryz.underlying5 (by kernel_rfl)) rfl (OpnF.cons opnTEvent rfl (OpnF.cons (opnTPart.slice Tryz.underlying42 (by kernel_rfl) (by decide)) rfl (OpnF.nil _))))).map (fun p=>⟨p.1,p.2.1,p.2.2.1⟩) (fun _ _=>rfl) (fun p h=>⟨h.1,h.2.1,h.2.2.1⟩) (fun _=>Nat.le_refl _)
end Go.Proofs


/- Side texts. -/
import Derived.ProofKit
import Derived.Deep.Slices
import Derived.Test.YtlippfhcakejaaaGreatProg
import Derived.KernelRfl
import Derived.Test.YtlippfhcakejaaaGreatMBo2
import Derived.Test.YtlippfhcakejaaaGreatMBo9
set_option linter.unusedVariables false
set_option linter.unusedSimpArgs false
namespace Go.Ep.M.G
open Go
open E (OkE zy yx)
open F (xH zm zn)

theorem xl : ∀ {l l':List EV},yx l -> yx l' -> (∀ d,d ∈ l ↔ d ∈ l') -> l = l'
 | [],[],_,_,_=>rfl
 | [],y :: r,_,_,h=>by have:=(h y).2 (by simp);simp at this
 | x :: r,[],_,_,h=>by have:=(h x).1 (by simp);simp at this
 | x :: r,y :: t,h1,h2,h=>by
  have hx:=(h x).1 (by simp);have hy:=(h y).2 (by simp);have e:x = y:=by
   rcases List.mem_cons.1 hx with e | hx
   ·exact e
   ·rcases List.mem_cons.1 hy with e | hy
    ·exact e.symm
    ·have a1:=(List.pairwise_cons.1 h2).1 x hx;have a2:=(List.pairwise_cons.1 h1).1 y hy;rw [D.ZD a1] at a2;cases a2
  subst e
  congr 1
  refine xl (List.pairwise_cons.1 h1).2 (List.pairwise_cons.1 h2).2 fun d=>?_
  have h3:=h d;simp only [List.mem_cons] at h3
  constructor
  ·intro hd;rcases h3.1 (.inr hd) with e | h4
   ·have:=(List.pairwise_cons.1 h1).1 d hd;rw [e,D.ZC] at this;cases this
   ·exact h4
  ·intro hd;rcases h3.2 (.inr hd) with e | h4
   ·have:=(List.pairwise_cons.1 h2).1 d hd;rw [e,D.ZC] at this;cases this
   ·exact h4
theorem XB {l:List EV} (h:yx l):(l.map (·.dot)).Nodup:=by
 unfold List.Nodup;rw [List.pairwise_map];exact h.imp fun {a b} h e=>by rw [e,D.ZC] at h;cases h
theorem srtE_one {l:List EV} (h:yx l) {a b:EV} (ha:a ∈ l) (hb:b ∈ l) (e:a.dot = b.dot):a = b:=by
 induction l with
 | nil=>cases ha
 | cons x r ih=>
  obtain ⟨h1,h2⟩:=List.pairwise_cons.1 h;rcases List.mem_cons.1 ha with ea | ea <;> rcases List.mem_cons.1 hb with eb | eb
  ·rw [ea,eb]
  ·have:=h1 b eb;rw [<- ea,e,D.ZC] at this;cases this
  ·have:=h1 a ea;rw [<- eb,e,D.ZC] at this;cases this
  ·exact ih h2 ea eb
theorem zK {l:List EV} (h:yx l) (p:EV -> Bool):yx (l.filter p):=h.sublist List.filter_sublist
theorem yKa {s:List EV} (hn:(s.map (·.dot)).Nodup) (h:s.Pairwise fun x y=>uM y x = false):yx s:=by
 unfold List.Nodup at hn;rw [List.pairwise_map] at hn;refine (hn.and h).imp fun {a b} ⟨h1,h2⟩=>?_
 cases h3:zJ a.dot b.dot with
 | true=>rfl
 | false=>exact absurd (D.Vm h3 h2) h1
theorem yLa {l:List EV} {Q:List EV -> Prop} (h:∀ s,s.Perm l -> (s.Pairwise fun x y=>uM y x = false) -> Q s):(srt uM l).wp Q:=by
 refine ⟨⟨l.mergeSort (fun x y=>!zJ y.dot x.dot),List.mergeSort_perm _ _,?_⟩,fun s ⟨h1,h2⟩=>h s h1 h2⟩;refine (List.pairwise_mergeSort (fun a b c h1 h2=>?_) (fun a b=>?_) l).imp fun {x y} h=>by show zJ y.dot x.dot = false;simpa using h
 ·simp only [Bool.not_eq_true'] at h1 h2 ⊢
  cases h3:zJ c.dot a.dot with
  | false=>rfl
  | true=>
   rw [D.Xi] at h3;have h4:¬ (zJ b.dot a.dot = true):=by simp [h1]
   have h5:¬ (zJ c.dot b.dot = true):=by simp [h2]
   rw [D.Xi] at h4 h5;omega
 ·cases h1:zJ b.dot a.dot with
  | false=>rfl
  | true=>rw [D.ZD h1];rfl

def ent (e:EV):DT × EV:=(e.dot,e)
theorem ent_inj {a b:EV} (h:ent a = ent b):a = b:=(Prod.mk.inj h).2
theorem yMa {l:List EV} {k:DT × EV}:k ∈ l.map ent ↔ k.2 ∈ l /\ k.1 = k.2.dot:=by
 rw [List.mem_map]
 constructor
 ·rintro ⟨e,h,rfl⟩;exact ⟨h,rfl⟩
 ·rintro ⟨h1,h2⟩;exact ⟨k.2,h1,by unfold ent;rw [<- h2]⟩
def Holds (m:List (DT × EV)) (l:List EV):Prop:=m.Perm (l.map ent)
theorem Holds.keys {m:List (DT × EV)} {l:List EV} (h:Holds m l) (hs:yx l):(m.map (·.1)).Nodup:=by
 have h1:=h.map (·.1);rw [List.map_map] at h1;exact h1.nodup_iff.2 (XB hs)
theorem Holds.mem {m:List (DT × EV)} {l:List EV} (h:Holds m l) {k:DT × EV}:k ∈ m ↔ k.2 ∈ l /\ k.1 = k.2.dot:=by rw [h.mem_iff,yMa]
theorem Holds.len {m:List (DT × EV)} {l:List EV} (h:Holds m l):m.length = l.length:=by rw [h.length_eq,List.length_map]
theorem yNa {l:List EV} (h:yx l):(l.map ent).Nodup:=by
 unfold List.Nodup;rw [List.pairwise_map];exact h.imp fun {a b} h e=>by rw [ent_inj e,D.ZC] at h;cases h
theorem Uu {m:List (DT × EV)} {l:List EV} (hn:(m.map (·.1)).Nodup) (hs:yx l) (h:∀ k,k ∈ m ↔ k.2 ∈ l /\ k.1 = k.2.dot):Holds m l:=by
 have hm:m.Nodup:=by
  unfold List.Nodup at hn ⊢;rw [List.pairwise_map] at hn;exact hn.imp fun {a b} h e=>h (by rw [e])
 exact (List.perm_ext_iff_of_nodup hm (yNa hs)).2 fun k=>by rw [h,yMa]
theorem Ur (e:EV) (h:e.kills.length <= 1000000000000):yP e = pure e:=by
 unfold yP;rw [D.Uo e.kills h,zB,zA]
theorem VG {body:List Nat × List EV -> M (Step (List Nat × List EV) (List EV))} (m:List (DT × EV)) (hb:body = fun ⟨seen,out⟩=>yY (∀ i ∈ seen,i < m.length)<|M.bind (nxt m.length seen) fun o=>match o with
  | none=>pure (.done out)
  | some j=>M.bind (idx m (Int.ofNat j)) fun kv=>M.bind (det (yP kv.2)) fun v=>yY ((out.length + List.length [v]) * 80 <= 140737488355328)<|pure (.next (seen ++ [j],out ++ [v])))
  (hl:m.length <= 500000000000) (hk:∀ k ∈ m,k.2.kills.length <= 1000000000000) (t0:List EV) (h0:t0.length <= 500000000000) {Q:List EV -> Prop} (hQ:∀ l:List (DT × EV),l.Perm m -> Q (t0 ++ l.map (·.2))):(loop body ([],t0)).wp Q:=by
 refine M.loopM (body:=body) m (fun L (t:List EV)=>(L,t)) (fun t e=>(yP e.2).det.bind fun v=>yY ((t.length + 1) * 80 <= 140737488355328) (pure (t ++ [v]))) (fun t=>pure t)
  (fun l t=>t = t0 ++ l.map (·.2)) Q (fun L t hL=>?_) (fun l t y ht hlen hy=>?_) (fun l t hp ht=>?_) t0 (by simp)
 ·subst hb;show yY _ ((nxt _ _).bind _) = yY _ ((nxt _ _).bind _);refine congrArg (fun k=>yY _ ((nxt _ _).bind k)) (funext fun o=>?_)
  cases o with
  | none=>rfl
  | some i=>rfl
 ·rw [Ur y.2 (hk y hy),zB,zA];subst ht;exact ⟨_,zE (by simp;omega) _,by simp⟩
 ·subst ht;exact hQ l hp
theorem qn {nl:Bool} {m:List (DT × EV)} {l:List EV} (hm:Holds m l) (hs:yx l) (hl:l.length <= 500000000000) (hk:∀ e ∈ l,e.kills.length <= 1000000000000):xw nl m = pure l:=by
 unfold xw;refine uL (VG (body:=un m) m rfl (by rw [hm.len];exact hl) (fun k h=>hk _ (hm.mem.1 h).1) [] (by simp) fun q hq=>?_);show (yY _ _).wp _;have hp:(q.map (·.2)).Perm l:=by
  have:=(hq.trans hm).map (·.2);rw [List.map_map] at this;simpa [Function.comp_def,ent] using this
 rw [List.nil_append,zE (by rw [hp.length_eq];omega)];refine yLa fun s h1 h2=>?_
 show s = l;have h3:=h1.trans hp;exact xl (yKa ((h3.map (·.dot)).nodup_iff.2 (XB hs)) h2) hs fun d=>h3.mem_iff
theorem list2_eq {nl1 nl2:Bool} {m1 m2:List (DT × EV)} {l l1 l2:List EV} (h1:Holds m1 l1) (h2:Holds m2 l2) (hp:(l1 ++ l2).Perm l) (hs:yx l) (hl:l.length <= 200000000000) (hk:∀ e ∈ l,e.kills.length <= 1000000000000):vh nl1 m1 nl2 m2 = pure l:=by
 have hll:=hp.length_eq;rw [List.length_append] at hll;have hk1:∀ k ∈ m1,k.2.kills.length <= 1000000000000:=fun k h=>hk _ (hp.mem_iff.1 (List.mem_append_left _ (h1.mem.1 h).1))
 have hk2:∀ k ∈ m2,k.2.kills.length <= 1000000000000:=fun k h=>hk _ (hp.mem_iff.1 (List.mem_append_right _ (h2.mem.1 h).1))
 unfold vh;refine uL (VG (body:=uo m1) m1 rfl (by rw [h1.len];omega) hk1 [] (by simp) fun q hq=>?_);have hq1:(q.map (·.2)).Perm l1:=by
  have:=(hq.trans h1).map (·.2);rw [List.map_map] at this;simpa [Function.comp_def,ent] using this
 refine VG (body:=up m2) m2 rfl (by rw [h2.len];omega) hk2 _ (by rw [List.nil_append,hq1.length_eq];omega) fun q2 hq2=>?_
 have hq3:(q2.map (·.2)).Perm l2:=by
  have:=(hq2.trans h2).map (·.2);rw [List.map_map] at this;simpa [Function.comp_def,ent] using this
 show (yY _ _).wp _;rw [List.nil_append];have hpp:(q.map (·.2) ++ q2.map (·.2)).Perm l:=(hq1.append hq3).trans hp;rw [zE (by rw [hpp.length_eq];omega)];refine yLa fun s h3 h4=>?_
 show s = l;have h5:=h3.trans hpp;exact xl (yKa ((h5.map (·.dot)).nodup_iff.2 (XB hs)) h4) hs fun d=>h5.mem_iff

open E (OkE zy yx)
open F (xH zm zn Zu)

section
variable {κ ν:Type} [DecidableEq κ]
theorem del_sub (m:List (κ × ν)) (x:κ):(AL.del m x).Sublist m:=by
 induction m with
 | nil=>exact List.Sublist.slnil
 | cons k r ih=>
  obtain ⟨k,v⟩:=k;unfold AL.del
  split
  ·exact List.sublist_cons_self _ _
  ·exact ih.cons_cons _
theorem mem_del {m:List (κ × ν)} (hn:(m.map (·.1)).Nodup) (x:κ) (k:κ × ν):k ∈ AL.del m x ↔ k ∈ m /\ k.1 ≠ x:=by
 induction m with
 | nil=>simp [AL.del]
 | cons y r ih=>
  obtain ⟨q,v⟩:=y;rw [List.map_cons,List.nodup_cons] at hn;unfold AL.del
  split
  ·rename_i e
   subst e;rw [List.mem_cons]
   constructor
   ·intro h;exact ⟨.inr h,fun e=>hn.1 (e ▸ List.mem_map.2 ⟨k,h,rfl⟩)⟩
   ·rintro ⟨h | h,h2⟩
    ·subst h;exact absurd rfl h2
    ·exact h
  ·rename_i e
   rw [List.mem_cons,List.mem_cons,ih hn.2]
   constructor
   ·rintro (h | ⟨h,h2⟩)
    ·subst h;exact ⟨.inl rfl,e⟩
    ·exact ⟨.inr h,h2⟩
   ·rintro ⟨h | h,h2⟩
    ·exact .inl h
    ·exact .inr ⟨h,h2⟩
theorem yOa {m:List (κ × ν)} (hn:(m.map (·.1)).Nodup) (x:κ) (v:ν) (k:κ × ν):k ∈ AL.set m x v ↔ (k ∈ m /\ k.1 ≠ x) \/ k = (x,v):=by
 induction m with
 | nil=>simp [AL.set]
 | cons y r ih=>
  obtain ⟨q,u⟩:=y;rw [List.map_cons,List.nodup_cons] at hn;unfold AL.set
  split
  ·rename_i e
   subst e;rw [List.mem_cons,List.mem_cons]
   constructor
   ·rintro (h | h)
    ·exact .inr h
    ·exact .inl ⟨.inr h,fun e=>hn.1 (e ▸ List.mem_map.2 ⟨k,h,rfl⟩)⟩
   ·rintro (⟨h | h,h2⟩ | h)
    ·subst h;exact absurd rfl h2
    ·exact .inr h
    ·exact .inl h
  ·rename_i e
   rw [List.mem_cons,List.mem_cons,ih hn.2]
   constructor
   ·rintro (h | ⟨h,h2⟩ | h)
    ·subst h;exact .inl ⟨.inl rfl,e⟩
    ·exact .inl ⟨.inr h,h2⟩
    ·exact .inr h
   ·rintro (⟨h | h,h2⟩ | h)
    ·exact .inl h
    ·exact .inr (.inl ⟨h,h2⟩)
    ·exact .inr (.inr h)
end
theorem Holds.del {m:List (DT × EV)} {l:List EV} (h:Holds m l) (hs:yx l) (d:DT):Holds (AL.del m d) (l.filter fun e=>!decide (e.dot = d)):=
 Uu ((h.keys hs).sublist ((del_sub m d).map _)) (zK hs _) fun k=>by
  rw [mem_del (h.keys hs),h.mem,List.mem_filter]
  constructor
  ·rintro ⟨⟨h1,h2⟩,h3⟩;exact ⟨⟨h1,by rw [h2] at h3;simp [h3]⟩,h2⟩
  ·rintro ⟨⟨h1,h3⟩,h2⟩;exact ⟨⟨h1,h2⟩,by rw [h2];simpa using h3⟩
theorem vC {l:List DT} {d:DT}:xH l d = true ↔ d ∈ l:=by
 unfold xH;rw [List.any_eq_true]
 constructor
 ·rintro ⟨x,h1,h2⟩;rw [<- of_decide_eq_true h2];exact h1
 ·intro h;exact ⟨d,h,by simp⟩
theorem yPa (x:DT) (r:List DT) (d:DT):xH (x :: r) d = (decide (x = d) || xH r d):=rfl
theorem Holds.dels : ∀ (ks:List DT) {m:List (DT × EV)} {l:List EV},Holds m l -> yx l -> Holds (ks.foldl AL.del m) (l.filter fun e=>!xH ks e.dot)
 | [],m,l,h,_=>by
  have:(l.filter fun e=>!xH [] e.dot) = l:=List.filter_eq_self.2 fun _ _=>rfl
  rw [this];exact h
 | d :: r,m,l,h,hs=>by
  have h1:=Holds.dels r (h.del hs d) (zK hs _);rw [List.filter_filter] at h1;rw [List.foldl_cons];have:(fun e:EV=>!xH (d :: r) e.dot) = fun e=>(!xH r e.dot) && !decide (e.dot = d):=funext fun e=>by
   rw [yPa,Bool.not_or,Bool.and_comm]
   congr 2
   exact decide_eq_decide.2 ⟨Eq.symm,Eq.symm⟩
  rw [this];exact h1
def Vn (l:List EV) (e:EV):List EV:=(l.filter fun x=>zJ x.dot e.dot) ++ [e] ++ (l.filter fun x=>zJ e.dot x.dot)
theorem Zm {l:List EV} (hs:yx l) (e:EV):yx (Vn l e):=by
 unfold Vn yx;rw [List.pairwise_append,List.pairwise_append];refine ⟨⟨zK hs _,by simp,fun a ha b hb=>?_⟩,zK hs _,fun a ha b hb=>?_⟩
 ·rw [List.mem_singleton.1 hb];exact (List.mem_filter.1 ha).2
 ·have h2:=(List.mem_filter.1 hb).2;rcases List.mem_append.1 ha with h | h
  ·exact D.Yy (List.mem_filter.1 h).2 h2
  ·rw [List.mem_singleton.1 h];exact h2
theorem Zn {l:List EV} {e:EV} (hn:∀ x ∈ l,x.dot ≠ e.dot) {x:EV}:x ∈ Vn l e ↔ x = e \/ x ∈ l:=by
 unfold Vn;rw [List.mem_append,List.mem_append,List.mem_filter,List.mem_filter,List.mem_singleton]
 constructor
 ·rintro ((⟨h,_⟩ | h) | ⟨h,_⟩)
  ·exact .inr h
  ·exact .inl h
  ·exact .inr h
 ·rintro (h | h)
  ·exact .inl (.inr h)
  ·cases h1:zJ x.dot e.dot with
   | true=>exact .inl (.inl ⟨h,rfl⟩)
   | false=>
    cases h2:zJ e.dot x.dot with
    | true=>exact .inr ⟨h,rfl⟩
    | false=>exact absurd (D.Vm h1 h2) (hn x h)
theorem qp (l:List EV) (e:EV) (hs:yx l):(Vn l e).length <= l.length + 1:=by
 unfold Vn;have h:∀ q:List EV,(q.filter fun x=>zJ x.dot e.dot).length + (q.filter fun x=>zJ e.dot x.dot).length <= q.length:=by
  intro q
  induction q with
  | nil=>simp
  | cons x r ih=>
   rw [List.filter_cons,List.filter_cons]
   cases h1:zJ x.dot e.dot with
   | true=>rw [D.ZD h1];simp;omega
   | false=>simp only [Bool.false_eq_true,if_false];split <;> simp <;> omega
 have:=h l;simp;omega
theorem Holds.add {m:List (DT × EV)} {l:List EV} (h:Holds m l) (hs:yx l) {e:EV} (hn:∀ x ∈ l,x.dot ≠ e.dot):Holds (AL.set m e.dot e) (Vn l e):=
 Uu (AL.nodup_set (h.keys hs) _ _) (Zm hs e) fun k=>by
  rw [yOa (h.keys hs),h.mem,Zn hn]
  constructor
  ·rintro (⟨⟨h1,h2⟩,h3⟩ | h1)
   ·exact ⟨.inr h1,h2⟩
   ·rw [h1];exact ⟨.inl rfl,rfl⟩
  ·rintro ⟨h1 | h1,h2⟩
   ·refine .inr ?_;obtain ⟨k1,k2⟩:=k;simp only at h1 h2;rw [h2,h1]
   ·exact .inl ⟨⟨h1,h2⟩,by rw [h2];exact hn _ h1⟩

theorem Qe {ρ:Type} {body:Int × List EV -> M (Step (Int × List EV) ρ)} (l:List EV) (p:EV -> Bool) (g:List EV -> M ρ)
  (h1:∀ (i:Nat) (x:EV) (t:List EV),l[i]? = some x -> i < l.length -> t.length <= i -> body ((i:Int),t) = pure (.next (((i + 1:Nat):Int),if p x then t ++ [x] else t)))
  (h2:∀ t,body ((l.length:Int),t) = (g t).bind fun r=>pure (.done r)):loop body (0,[]) = g (l.filter p):=by
 have h:=uX (body:=body) l (fun i (t:List EV)=>((i:Int),t)) (fun t x=>if p x then t ++ [x] else t) g (fun i t=>t.length <= i)
  (fun i x t hx hi hI=>⟨h1 i x t hx hi hI,by split <;> (try rw [List.length_append,List.length_singleton]) <;> omega⟩) (fun t _=>h2 t) [] (Nat.le_refl _)
 have hf:∀ (q t:List EV),q.foldl (fun t x=>if p x then t ++ [x] else t) t = t ++ q.filter p:=by
  intro q
  induction q with
  | nil=>intro t;simp
  | cons x r ih=>intro t;rw [List.foldl_cons,ih,List.filter_cons];split <;> simp
 rw [hf,List.nil_append] at h;exact h
theorem qq (l:List EV) (e:EV) (hs:yx l) (hn:∀ x ∈ l,x.dot ≠ e.dot) (hl:l.length <= 1000000000):WX l e = pure (Vn l e):=by
 unfold WX;have h:=uX (body:=xJ l e) l (fun i (t:Bool × List EV)=>(t.1,(i:Int),t.2)) (fun t x=>((t.1 || !zJ x.dot e.dot),(if (!zJ x.dot e.dot && !t.1) = true then t.2 ++ [e] else t.2) ++ [x])) (fun t=>pure (Ex.brk (t.1,t.2)))
  (fun i t=>t.2.length <= i + 1 /\ (t.1 = false -> t.2.length <= i)) (fun i x t hx hi hI=>by
   obtain ⟨dn,out⟩:=t;have c0:x.dot ≠ e.dot:=hn x (List.mem_of_getElem? hx);have hz:V.UX x.dot e.dot ≠ 0:=by
    unfold V.UX;rw [if_neg c0];split <;> decide
   have hpos:decide (0 < V.UX x.dot e.dot) = !zJ x.dot e.dot:=by
    by_cases c1:zJ x.dot e.dot = true
    ·have:=V.Zk.2 c1;rw [c1];simp;omega
    ·have h2:¬ V.UX x.dot e.dot < 0:=fun h=>c1 (V.Zk.1 h)
     simp only [Bool.not_eq_true] at c1;rw [c1];simp;omega
   have hc:decide ((i:Int) < (l.length:Int)) = true:=by simpa using hi
   have hI1:=hI.1;have hI2:=hI.2;simp only at hI1 hI2;refine ⟨?_,?_⟩
   ·unfold xJ;simp only [hc,cond_true,zF hx,zA,V.vH,zB,decide_eq_false hz,cond_false,hpos]
    cases zJ x.dot e.dot <;> cases dn <;> simp only [Bool.not_true,Bool.not_false,cond_true,cond_false,zA,Bool.and_true,Bool.and_false,Bool.or_true,Bool.or_false,Bool.false_eq_true,if_true,if_false]
    ·rw [zE (by simp;omega),zA];simp only [];rw [zE (by simp;omega),zh (show i < 9223372036854775807 by omega)]
    ·rw [zE (by simp;omega),zh (show i < 9223372036854775807 by omega)]
    ·rw [zE (by simp;omega),zh (show i < 9223372036854775807 by omega)]
    ·rw [zE (by simp;omega),zh (show i < 9223372036854775807 by omega)]
   ·cases zJ x.dot e.dot <;> cases dn <;> simp_all <;> omega) (fun t _=>by
   unfold xJ;simp [zA]) (false,[]) (by simp)
 have hA:∀ (q acc:List EV),q.foldl (fun (t:Bool × List EV) x=>((t.1 || !zJ x.dot e.dot),(if (!zJ x.dot e.dot && !t.1) = true then t.2 ++ [e] else t.2) ++ [x])) (true,acc) = (true,acc ++ q):=by
  intro q
  induction q with
  | nil=>intro acc;simp
  | cons x r ih=>intro acc;rw [List.foldl_cons];simp only [Bool.true_or,Bool.not_true,Bool.and_false,Bool.false_eq_true,if_false];rw [ih];simp
 have hB:∀ (q acc:List EV),yx q -> (∀ x ∈ q,x.dot ≠ e.dot) -> ∃ r:Bool × List EV,q.foldl (fun (t:Bool × List EV) x=>((t.1 || !zJ x.dot e.dot),(if (!zJ x.dot e.dot && !t.1) = true then t.2 ++ [e] else t.2) ++ [x])) (false,acc) = r /\ (if r.1 = true then r.2 else r.2 ++ [e]) = acc ++ Vn q e /\ (r.1 = false -> r.2.length = acc.length + q.length):=by
  intro q
  induction q with
  | nil=>intro acc _ _;exact ⟨(false,acc),rfl,by simp [Vn],fun _=>by simp⟩
  | cons x r ih=>
   intro acc hs hn;obtain ⟨p1,p2⟩:=List.pairwise_cons.1 hs;rw [List.foldl_cons]
   cases c:zJ x.dot e.dot with
   | true=>
    simp only [Bool.not_true,Bool.or_self,Bool.false_and,Bool.false_eq_true,if_false];obtain ⟨y,h1,h2,h3⟩:=ih (acc ++ [x]) p2 fun z hz=>hn z (by simp [hz])
    refine ⟨y,h1,?_,fun h=>by rw [h3 h];simp;omega⟩;rw [h2];unfold Vn;rw [List.filter_cons,List.filter_cons,if_pos c,if_neg (by rw [D.ZD c];simp)];simp
   | false=>
    have hgt:zJ e.dot x.dot = true:=by
     cases hh:zJ e.dot x.dot with
     | true=>rfl
     | false=>exact absurd (D.Vm c hh) (hn x (by simp))
    simp only [Bool.not_false,Bool.or_true,Bool.and_self,if_true];rw [hA];refine ⟨_,rfl,?_,fun h=>by cases h⟩;rw [if_pos rfl];unfold Vn;have e1:((x :: r).filter fun y=>zJ y.dot e.dot) = []:=List.filter_eq_nil_iff.2 fun y hy=>by
     rcases List.mem_cons.1 hy with rfl | hy
     ·rw [c];simp
     ·rw [D.ZD (D.Yy hgt (p1 y hy))];simp
    have e2:((x :: r).filter fun y=>zJ e.dot y.dot) = x :: r:=List.filter_eq_self.2 fun y hy=>by
     rcases List.mem_cons.1 hy with rfl | hy
     ·exact hgt
     ·exact D.Yy hgt (p1 y hy)
    rw [e1,e2];simp
 obtain ⟨r,h1,h2,h3⟩:=hB l [] hs hn;rw [h1] at h;have h':loop (xJ l e) (false,0,[]) = pure (Ex.brk (r.1,r.2)):=h;rw [h',zA,YB];obtain ⟨r1,r2⟩:=r
 cases r1 with
 | true=>
  simp only [Bool.not_true,cond_false,zA];rw [if_pos rfl,List.nil_append] at h2;have h2:r2 = Vn l e:=h2;rw [h2]
 | false=>
  have:=h3 rfl;simp only [List.length_nil,Nat.zero_add] at this;simp only [Bool.not_false,cond_true];rw [zE (by simp;omega),zA];rw [if_neg (by simp),List.nil_append] at h2;have h2:r2 ++ [e] = Vn l e:=h2;rw [h2]
theorem ji {e:EV} (h:zy e = true):e.kind = 1 \/ e.kind = 2:=by
 simp only [zy,E.goodK,Bool.and_eq_true,Bool.or_eq_true,decide_eq_true_eq] at h;rcases h.2.1 with h | h
 ·exact .inl h.1
 ·exact .inr h.1
theorem Vo {e:EV} (h:zy e = true):e.kills.length <= 256 /\ D.Srt e.kills /\ ∀ d ∈ e.kills,V.zr d = true /\ d ≠ e.dot:=by
 simp only [zy,E.Jk,Bool.and_eq_true,decide_eq_true_eq,List.all_eq_true,Bool.not_eq_true',decide_eq_false_iff_not] at h;exact ⟨h.2.2.1,D.ql.1 h.2.2.2.1,fun d hd=>h.2.2.2.2 d hd⟩
theorem good_dot {e:EV} (h:zy e = true):V.zr e.dot = true:=by
 simp only [zy,Bool.and_eq_true] at h;exact h.1.2

open E (OkE zy yx)
open F (xH zm zn Zu)

def yt (L:List EV):List EV:=L.filter fun e=>decide (e.kind = 1)
def xX (L:List EV):List EV:=L.filter fun e=>decide (e.kind = 2)
theorem yf {L:List EV} {x:EV}:x ∈ yt L ↔ x ∈ L /\ x.kind = 1:=by simp [yt]
theorem xm {L:List EV} {x:EV}:x ∈ xX L ↔ x ∈ L /\ x.kind = 2:=by simp [xX]
theorem yz {l:List EV} {d:DT}:d ∈ zm l ↔ ∃ e ∈ l,d = e.dot \/ d ∈ e.kills:=by simp [zm]
theorem WJ {l:List EV} {d:DT}:Zu l d = true ↔ ∃ e ∈ l,d ∈ e.kills:=by
 unfold Zu;rw [List.any_eq_true];exact ⟨fun ⟨e,h1,h2⟩=>⟨e,h1,vC.1 h2⟩,fun ⟨e,h1,h2⟩=>⟨e,h1,vC.2 h2⟩⟩
structure Rep (n:Nat) (W c xc:List PT) (nl1:Bool) (m1:List (DT × EV)) (nl2:Bool) (m2:List (DT × EV)) (L:List EV):Prop where
 ctx:c = C.yI W
 xctx:∀ k n,C.vA xc k n = C.vA W k n
 xok:C.Ok xc
 live:Holds m1 (yt L)
 tomb:Holds m2 (xX L)
 n1:nl1 = true -> m1 = []
 n2:nl2 = true -> m2 = []
 srt:yx L
 good:∀ e ∈ L,zy e = true /\ OkE e
 dots:∀ d ∈ zm L,C.vA W d.dev d.n = true
 alive:∀ e ∈ L,e.kind = 1 -> Zu L e.dot = false
 wl:W.length <= n
 wt:C.vq W <= n
 ll:L.length <= n
theorem WK {W:List PT} (h1:W.length <= 400000000) (h2:C.vq W <= 400000000):C.Ok (C.yI W):=
 ⟨fun p hp=>by have:=((C.xi W).nf p hp).1;omega,by have:=C.VA W;omega,by have:=C.VB W;omega⟩
section
variable {n:Nat} {W c xc:List PT} {nl1:Bool} {m1:List (DT × EV)} {nl2:Bool} {m2:List (DT × EV)} {L:List EV}
theorem Rep.mono (hR:Rep n W c xc nl1 m1 nl2 m2 L) {k:Nat} (h:n <= k):Rep k W c xc nl1 m1 nl2 m2 L:=
 { hR with wl:=Nat.le_trans hR.wl h,wt:=Nat.le_trans hR.wt h,ll:=Nat.le_trans hR.ll h }
theorem Rep.okc (hR:Rep n W c xc nl1 m1 nl2 m2 L) (hn:n <= 100000000):C.Ok c:=by
 rw [hR.ctx];exact WK (by have:=hR.wl;omega) (by have:=hR.wt;omega)
theorem Rep.has (hR:Rep n W c xc nl1 m1 nl2 m2 L) (hn:n <= 100000000) (d:DT):uO c d = pure (C.vA W d.dev d.n):=by
 rw [C.z4a c d (hR.okc hn).sm,hR.ctx,C.ya]
theorem Rep.rhas (hR:Rep n W c xc nl1 m1 nl2 m2 L) (d:DT):xe xc d = pure (C.vA W d.dev d.n):=by
 rw [C.vo xc d hR.xok,hR.xctx]
theorem Rep.new : Rep 0 [] [] [] true [] true [] [] where
 ctx:=rfl
 xctx _ _:=rfl
 xok:=C.ok_nil
 live:=List.Perm.refl _
 tomb:=List.Perm.refl _
 n1 _:=rfl
 n2 _:=rfl
 srt:=List.Pairwise.nil
 good _ h:=by cases h
 dots _ h:=by cases h
 alive _ h:=by cases h
 wl:=Nat.le_refl _
 wt:=Nat.le_refl _
 ll:=Nat.le_refl _
theorem Uv (ks:List DT):ks.foldl AL.del ([]:List (DT × EV)) = []:=by
 induction ks with
 | nil=>rfl
 | cons d r ih=>rw [List.foldl_cons];exact ih
theorem add_eq {e:EV} (hk:e.kills.length <= 1000000000000) {nl:Bool} {m:List (DT × EV)} (h:nl = true -> m = []):uC e nl m = pure (false,AL.set m e.dot e):=by
 unfold uC;have h1:(cond nl (M.pure ([]:List (DT × EV))) (M.pure m)) = M.pure m:=by
  cases nl with
  | true=>rw [h rfl];rfl
  | false=>rfl
 rw [h1,zA,Ur e hk,zB,zA]
def Vp (L:List EV) (e:EV):List EV:=Vn (L.filter fun x=>!decide (x.kind = 1) || !xH e.kills x.dot) e
theorem jk (e:EV) (hk:e.kills.length <= 1000000000) (m:List (DT × EV)):loop (yS e) (0,m) = pure (e.kills.foldl AL.del m):=
 uX (body:=yS e) e.kills (fun i (t:List (DT × EV))=>((i:Int),t)) AL.del (fun t=>pure t) (fun _ _=>True) (fun i x t hx hi _=>by
  have hd:decide ((i:Int) < (e.kills.length:Int)) = true:=by simpa using hi
  refine ⟨?_,trivial⟩;unfold yS;simp only [hd,cond_true,zF hx,zA,zh (show i < 9223372036854775807 by omega)]) (fun t _=>by
  unfold yS;simp [zA]) m trivial
theorem yQa (e:EV) (hk:e.kills.length <= 1000000000) (xc:List PT) (L:List EV) (hl:L.length <= 1000000000):loop (uF ⟨xc,L⟩ e) (0,[]) = pure (L.filter fun x=>!decide (x.kind = 1) || !xH e.kills x.dot):=
 Qe (body:=uF ⟨xc,L⟩ e) L (fun x=>!decide (x.kind = 1) || !xH e.kills x.dot) (fun t=>pure t) (fun i x t hx hi hI=>by
  have hd:decide ((i:Int) < (L.length:Int)) = true:=by simpa using hi
  unfold uF;have hh:wI e.kills x.dot = pure (xH e.kills x.dot):=E.vo e.kills x.dot (by omega);simp only [hd,cond_true,zF hx,zA,hh,zB,zh (show i < 9223372036854775807 by omega)]
  cases decide (x.kind = 1) <;> cases xH e.kills x.dot <;> simp only [Bool.not_true,Bool.not_false,cond_true,cond_false,zA,Bool.or_true,Bool.or_false,Bool.true_or,Bool.false_or,if_true,if_false,Bool.false_eq_true]
  all_goals (try rw [zE (by simp;omega)])
  all_goals rfl) (fun t=>by
  unfold uF;simp [zA])
theorem put_mem (hR:Rep n W c xc nl1 m1 nl2 m2 L) {e:EV} (hc:C.vA W e.dot.dev e.dot.n = false) {x:EV}:x ∈ Vp L e ↔ x = e \/ (x ∈ L /\ (x.kind ≠ 1 \/ x.dot ∉ e.kills)):=by
 unfold Vp;rw [Zn,List.mem_filter]
 ·simp only [Bool.or_eq_true,Bool.not_eq_true',decide_eq_false_iff_not,<- Bool.not_eq_true (b:=xH _ _),vC]
 ·intro x hx e1;have:=hR.dots x.dot (yz.2 ⟨x,(List.mem_filter.1 hx).1,.inl rfl⟩);rw [e1,hc] at this;cases this
theorem Rep.put (hR:Rep n W c xc nl1 m1 nl2 m2 L) (hn:n <= 100000000) {e:EV} (oe:OkE e) (g:zy e = true) (hc:C.vA W e.dot.dev e.dot.n = false) :
  ∃ c' xc' nl1' m1' nl2' m2',zP e c nl1 m1 nl2 m2 = pure (0,c',nl1',m1',nl2',m2') /\ XO ⟨xc,L⟩ e = pure (⟨xc',Vp L e⟩,0) /\ Rep (n + 600) (W ++ C.zf (zn [e])) c' xc' nl1' m1' nl2' m2' (Vp L e):=by
 obtain ⟨k1,k2,k3⟩:=Vo g;have hdl:(zm [e]).length <= 300:=by simp [zm];omega
 have hde:(zn [e]).length <= 300:=Nat.le_trans (D.Un _) hdl;have hne:∀ x ∈ L,x.dot ≠ e.dot:=fun x hx e1=>by
  have:=hR.dots x.dot (yz.2 ⟨x,hx,.inl rfl⟩);rw [e1,hc] at this;cases this
 have hadd:WU c (zn [e]) = pure (C.yI (W ++ C.zf (zn [e]))):=by
  have h:=hR.okc hn;rw [C.Add_eq c (zn [e]) (by omega) h.len h.tot,hR.ctx,C.Jd]
 have hxok:C.Ok (C.yI (C.zf (zn [e]))):=C.Uk (by omega);have hjoin:ZZ xc (C.yI (C.zf (zn [e]))) = pure (C.opC (· || ·) xc (C.yI (C.zf (zn [e])))):=C.qg _ _ hR.xok hxok;have hxe:C.opC (· || ·) xc (C.yI (C.zf (zn [e]))) = C.yI (W ++ C.zf (zn [e])):=(C.Yw rfl _ _).ext (C.xi _) fun k n=>by
  rw [C.Wy rfl,C.ya,C.ya,C.Zl,hR.xctx]
 have hW1:(W ++ C.zf (zn [e])).length <= n + 600:=by have:=hR.wl;have:=C.vB (zn [e]);rw [List.length_append];omega
 have hW2:C.vq (W ++ C.zf (zn [e])) <= n + 600:=by have:=hR.wt;have:=C.Yx (zn [e]);rw [C.WG];omega
 have hsP:yx (Vp L e):=Zm (zK hR.srt _) e;have hmem:=fun x=>put_mem (x:=x) hR hc
 -- the document
 have hr:XO ⟨xc,L⟩ e = pure (⟨C.yI (W ++ C.zf (zn [e])),Vp L e⟩,0):=by
  unfold XO;rw [E.XA oe,zB,zA,g,Bool.not_true,cond_false];rw [show (⟨xc,L⟩:RB).ctx = xc from rfl,hR.rhas,zB,zA,hc,cond_false,yQa e (by omega) xc L (by have:=hR.ll;omega),zA];rw [F.Ut [e] (by simp) (fun x hx=>by rw [List.mem_singleton.1 hx];omega),zB,zA,C.rOf_eq _ (by omega),zB,zA,hjoin,zB,zA,hxe];rw [qq _ e (zK hR.srt _) (fun x hx=>hne x (List.mem_filter.1 hx).1) (by have:=List.length_filter_le (fun x:EV=>!decide (x.kind = 1) || !xH e.kills x.dot) L;have:=hR.ll;omega),zB,zA]
  rfl
 have hdots:∀ d ∈ zm (Vp L e),C.vA (W ++ C.zf (zn [e])) d.dev d.n = true:=fun d hd=>by
  rw [C.Zl];obtain ⟨x,hx,h⟩:=yz.1 hd;rcases (hmem x).1 hx with rfl | ⟨hx,_⟩
  ·rw [Bool.or_eq_true];refine .inr ((C.qc _ _ _).2 ⟨d,D.Yz.2 (yz.2 ⟨x,by simp,h⟩),?_,rfl,rfl⟩);rcases h with rfl | h
   ·exact good_dot g
   ·exact (k3 d h).1
  ·rw [hR.dots d (yz.2 ⟨x,hx,h⟩)];rfl
 have halive:∀ x ∈ Vp L e,x.kind = 1 -> Zu (Vp L e) x.dot = false:=fun x hx h1=>by
  rw [<- Bool.not_eq_true,WJ];rintro ⟨y,hy,h2⟩;rcases (hmem x).1 hx with rfl | ⟨hx,h3⟩ <;> rcases (hmem y).1 hy with rfl | ⟨hy,_⟩
  ·exact (k3 _ h2).2 rfl
  ·have:=hR.dots _ (yz.2 ⟨y,hy,.inr h2⟩);rw [hc] at this;cases this
  ·exact h3.elim (fun h=>h h1) (fun h=>h h2)
  ·have:=hR.alive x hx h1;rw [<- Bool.not_eq_true,WJ] at this;exact this ⟨y,hy,h2⟩
 have base:∀ {a b:Bool} {p q:List (DT × EV)},Holds p (yt (Vp L e)) -> Holds q (xX (Vp L e)) -> (a = true -> p = []) -> (b = true -> q = []) ->
   Rep (n + 600) (W ++ C.zf (zn [e])) (C.yI (W ++ C.zf (zn [e]))) (C.yI (W ++ C.zf (zn [e]))) a p b q (Vp L e):=fun h1 h2 h3 h4=>
  ⟨rfl,fun k n=>C.ya _ _ _,WK (by omega) (by omega),h1,h2,h3,h4,hsP,fun x hx=>by
   rcases (hmem x).1 hx with rfl | ⟨hx,_⟩
   ·exact ⟨g,oe⟩
   ·exact hR.good x hx,hdots,halive,hW1,hW2,by
   have h5:=qp (L.filter fun x=>!decide (x.kind = 1) || !xH e.kills x.dot) e (zK hR.srt _);have h6:=List.length_filter_le (fun x:EV=>!decide (x.kind = 1) || !xH e.kills x.dot) L;have:=hR.ll;unfold Vp;omega⟩
 have hL1:=Holds.dels e.kills hR.live (zK hR.srt _);have hst1:yx ((yt L).filter fun x=>!xH e.kills x.dot):=zK (zK hR.srt _) _;rcases ji g with hk | hk
 ·have h1:yt (Vp L e) = Vn ((yt L).filter fun x=>!xH e.kills x.dot) e:=xl (zK hsP _) (Zm hst1 e) fun x=>by
   rw [yf,hmem,Zn (fun x hx=>hne x (yf.1 (List.mem_filter.1 hx).1).1),List.mem_filter,yf,Bool.not_eq_true',<- Bool.not_eq_true,vC]
   constructor
   ·rintro ⟨rfl | ⟨h1,h2⟩,h3⟩
    ·exact .inl rfl
    ·exact .inr ⟨⟨h1,h3⟩,h2.resolve_left (fun h=>h h3)⟩
   ·rintro (rfl | ⟨⟨h1,h2⟩,h3⟩)
    ·exact ⟨.inl rfl,hk⟩
    ·exact ⟨.inr ⟨h1,.inr h3⟩,h2⟩
  have h2:xX (Vp L e) = xX L:=xl (zK hsP _) (zK hR.srt _) fun x=>by
   rw [xm,hmem,xm]
   constructor
   ·rintro ⟨rfl | ⟨h1,h2⟩,h3⟩
    ·omega
    ·exact ⟨h1,h3⟩
   ·rintro ⟨h1,h2⟩;exact ⟨.inr ⟨h1,.inl (by omega)⟩,h2⟩
  refine ⟨_,_,false,AL.set (e.kills.foldl AL.del m1) e.dot e,nl2,m2,?_,hr,base ?_ ?_ (fun h=>by cases h) hR.n2⟩
  ·unfold zP;rw [E.XY oe,zB,zA,g,Bool.not_true,cond_false,hR.has hn,zB,zA,hc,cond_false,F.Us [e] (by simp) (by omega),zB,zA,hadd,zB,zA,jk e (by omega),zA,decide_eq_true hk,cond_true];rw [add_eq (by omega) (fun h=>by rw [hR.n1 h];exact Uv _),zB,zA]
   rfl
  ·rw [h1];exact hL1.add hst1 fun x hx=>hne x (yf.1 (List.mem_filter.1 hx).1).1
  ·rw [h2];exact hR.tomb
 ·have h1:yt (Vp L e) = (yt L).filter fun x=>!xH e.kills x.dot:=xl (zK hsP _) hst1 fun x=>by
   rw [yf,hmem,List.mem_filter,yf,Bool.not_eq_true',<- Bool.not_eq_true,vC]
   constructor
   ·rintro ⟨rfl | ⟨h1,h2⟩,h3⟩
    ·omega
    ·exact ⟨⟨h1,h3⟩,h2.resolve_left (fun h=>h h3)⟩
   ·rintro ⟨⟨h1,h2⟩,h3⟩;exact ⟨.inr ⟨h1,.inr h3⟩,h2⟩
  have h2:xX (Vp L e) = Vn (xX L) e:=xl (zK hsP _) (Zm (zK hR.srt _) e) fun x=>by
   rw [xm,hmem,Zn (fun x hx=>hne x (xm.1 hx).1),xm]
   constructor
   ·rintro ⟨rfl | ⟨h1,h2⟩,h3⟩
    ·exact .inl rfl
    ·exact .inr ⟨h1,h3⟩
   ·rintro (rfl | ⟨h1,h2⟩)
    ·exact ⟨.inl rfl,hk⟩
    ·exact ⟨.inr ⟨h1,.inl (by omega)⟩,h2⟩
  refine ⟨_,_,nl1,e.kills.foldl AL.del m1,false,AL.set m2 e.dot e,?_,hr,base ?_ ?_ (fun h=>by rw [hR.n1 h];exact Uv _) (fun h=>by cases h)⟩
  ·unfold zP;rw [E.XY oe,zB,zA,g,Bool.not_true,cond_false,hR.has hn,zB,zA,hc,cond_false,F.Us [e] (by simp) (by omega),zB,zA,hadd,zB,zA,jk e (by omega),zA,decide_eq_false (show ¬ e.kind = 1 by omega),cond_false];rw [add_eq (by omega) hR.n2,zB,zA]
   rfl
  ·rw [h1];exact hL1
  ·rw [h2];exact hR.tomb.add (zK hR.srt _) fun x hx=>hne x (xm.1 hx).1
end

open E (OkE zy yx)
open F (xH zm zn Zu)

section
variable {n:Nat} {W c xc:List PT} {nl1:Bool} {m1:List (DT × EV)} {nl2:Bool} {m2:List (DT × EV)} {L:List EV}
theorem WL (L:List EV):(yt L).length <= L.length:=List.length_filter_le _ _
theorem qr (L:List EV):(xX L).length <= L.length:=List.length_filter_le _ _
theorem Rep.kl (hR:Rep n W c xc nl1 m1 nl2 m2 L):∀ e ∈ L,e.kills.length <= 256:=fun e he=>(Vo (hR.good e he).1).1
theorem Rep.Live (hR:Rep n W c xc nl1 m1 nl2 m2 L) (hn:n <= 100000000):zO c nl1 m1 nl2 m2 = pure (yt L):=by
 unfold zO;rw [qn hR.live (zK hR.srt _) (by have:=WL L;have:=hR.ll;omega) (fun e he=>by have:=hR.kl e (yf.1 he).1;omega),zB,zA]
theorem Rep.Tombs (hR:Rep n W c xc nl1 m1 nl2 m2 L) (hn:n <= 100000000):yX c nl1 m1 nl2 m2 = pure (xX L):=by
 unfold yX;rw [qn hR.tomb (zK hR.srt _) (by have:=qr L;have:=hR.ll;omega) (fun e he=>by have:=hR.kl e (xm.1 he).1;omega),zB,zA]
theorem Qf (L:List EV) (h:∀ e ∈ L,e.kind = 1 \/ e.kind = 2):(yt L ++ xX L).Perm L:=by
 induction L with
 | nil=>exact List.Perm.refl _
 | cons x r ih=>
  have ih:=ih fun e he=>h e (by simp [he])
  rcases h x (by simp) with h1 | h1
  ·have e1:yt (x :: r) = x :: yt r:=by unfold yt;rw [List.filter_cons,if_pos (by simp [h1])]
   have e2:xX (x :: r) = xX r:=by unfold xX;rw [List.filter_cons,if_neg (by simp [h1])]
   rw [e1,e2];exact ih.cons x
  ·have e1:yt (x :: r) = yt r:=by unfold yt;rw [List.filter_cons,if_neg (by simp [h1])]
   have e2:xX (x :: r) = x :: xX r:=by unfold xX;rw [List.filter_cons,if_pos (by simp [h1])]
   rw [e1,e2];exact List.perm_middle.trans (ih.cons x)
theorem Rep.kinds (hR:Rep n W c xc nl1 m1 nl2 m2 L):∀ e ∈ L,e.kind = 1 \/ e.kind = 2:=fun e he=>ji (hR.good e he).1
theorem Rep.All (hR:Rep n W c xc nl1 m1 nl2 m2 L) (hn:n <= 100000000):xU c nl1 m1 nl2 m2 = pure L:=by
 unfold xU;rw [list2_eq hR.live hR.tomb (Qf L hR.kinds) hR.srt (by have:=hR.ll;omega) (fun e he=>by have:=hR.kl e he;omega),zB,zA]
theorem Rep.Ctx (hR:Rep n W c xc nl1 m1 nl2 m2 L) (hn:n <= 100000000):yK c nl1 m1 nl2 m2 = pure (C.yI W):=by
 unfold yK;rw [C.z3a c (hR.okc hn).sm,zB,zA,hR.ctx,C.XU (C.xi W)]
theorem rkind_eq (l:List EV) (k:Int) (hl:l.length <= 1000000000):UT l k = pure (l.filter fun e=>decide (e.kind = k)):=by
 unfold UT;rw [Qe (body:=uZ l k) l (fun e=>decide (e.kind = k)) (fun t=>pure t) (fun i x t hx hi hI=>by
  have hd:decide ((i:Int) < (l.length:Int)) = true:=by simpa using hi
  unfold uZ;simp only [hd,cond_true,zF hx,zA,zh (show i < 9223372036854775807 by omega)]
  cases decide (x.kind = k) <;> simp only [cond_true,cond_false,zA,if_true,if_false,Bool.false_eq_true]
  rw [zE (by simp;omega)]
  rfl) (fun t=>by unfold uZ;simp [zA]),zA]
theorem Rep.rLive (hR:Rep n W c xc nl1 m1 nl2 m2 L) (hn:n <= 100000000) (y:List PT):WD ⟨y,L⟩ = pure (yt L):=by
 unfold WD;rw [rkind_eq L 1 (by have:=hR.ll;omega),zB,zA]
 rfl
def VR (e:EV):EV:=⟨e.dot,e.kind,e.cid,e.field,e.text,[]⟩
def jl (L:List EV) (e:EV):List DT:=zn ((yt L).filter fun x=>if e.kind = 1 then decide (x.cid = e.cid) && decide (x.field = e.field) else decide (x.cid = e.cid))
theorem ofE_eq (l:List EV) (cid f:Int) (hl:l.length <= 1000000) (hk:∀ e ∈ l,e.kind = 1 /\ e.kills.length <= 300):uA l cid f = pure (zn (l.filter fun x=>decide (x.cid = cid) && decide (x.field = f))):=by
 unfold uA yb;have hf:=List.length_filter_le (fun x:EV=>decide (x.cid = cid) && decide (x.field = f)) l;have hd:=F.vB (l.filter fun x=>decide (x.cid = cid) && decide (x.field = f)) 300 fun e he=>(hk e (List.mem_filter.1 he).1).2
 rw [Qe (body:=zt l cid f) l (fun x=>decide (x.cid = cid) && decide (x.field = f)) (fun t=>pure t) (fun i x t hx hi hI=>by
  have hd:decide ((i:Int) < (l.length:Int)) = true:=by simpa using hi
  unfold zt wH;simp only [hd,cond_true,zF hx,zA,(hk x (List.mem_of_getElem? hx)).1,decide_true,zX,zB,zh (show i < 9223372036854775807 by omega)]
  cases decide (x.cid = cid) <;> cases decide (x.field = f) <;> simp only [cond_true,cond_false,zA,if_true,if_false,Bool.false_eq_true,Bool.and_true,Bool.and_false,Bool.true_and,Bool.false_and]
  rw [zE (by simp;omega)]
  rfl) (fun t=>by unfold zt;simp [zA]),zA,F.Us _ (by omega) (by omega),zB,zA,zB,zA]
theorem ofD_eq (l:List EV) (cid:Int) (hl:l.length <= 1000000) (hk:∀ e ∈ l,e.kind = 1 /\ e.kills.length <= 300):xv l cid = pure (zn (l.filter fun x=>decide (x.cid = cid))):=by
 unfold xv yW;have hf:=List.length_filter_le (fun x:EV=>decide (x.cid = cid)) l;have hd:=F.vB (l.filter fun x=>decide (x.cid = cid)) 300 fun e he=>(hk e (List.mem_filter.1 he).1).2
 rw [Qe (body:=zk l cid) l (fun x=>decide (x.cid = cid)) (fun t=>pure t) (fun i x t hx hi hI=>by
  have hd:decide ((i:Int) < (l.length:Int)) = true:=by simpa using hi
  unfold zk xR;simp only [hd,cond_true,zF hx,zA,(hk x (List.mem_of_getElem? hx)).1,decide_true,zB,zh (show i < 9223372036854775807 by omega)]
  cases decide (x.cid = cid) <;> simp only [cond_true,cond_false,zA,if_true,if_false,Bool.false_eq_true]
  rw [zE (by simp;omega)]
  rfl) (fun t=>by unfold zk;simp [zA]),zA,F.Us _ (by omega) (by omega),zB,zA,zB,zA]
theorem rofE_eq (l:List EV) (cid f:Int) (hl:l.length <= 1000000) (hk:∀ e ∈ l,e.kind = 1 /\ e.kills.length <= 300):UU l cid f = pure (zn (l.filter fun x=>decide (x.cid = cid) && decide (x.field = f))):=by
 unfold UU;have hf:=List.length_filter_le (fun x:EV=>decide (x.cid = cid) && decide (x.field = f)) l;rw [Qe (body:=ua l cid f) l (fun x=>decide (x.cid = cid) && decide (x.field = f)) (fun t=>pure t) (fun i x t hx hi hI=>by
  have hd:decide ((i:Int) < (l.length:Int)) = true:=by simpa using hi
  unfold ua;simp only [hd,cond_true,zF hx,zA,(hk x (List.mem_of_getElem? hx)).1,decide_true,zh (show i < 9223372036854775807 by omega)]
  cases decide (x.cid = cid) <;> cases decide (x.field = f) <;> simp only [cond_true,cond_false,zA,if_true,if_false,Bool.false_eq_true,Bool.and_true,Bool.and_false,Bool.true_and,Bool.false_and]
  rw [zE (by simp;omega)]
  rfl) (fun t=>by unfold ua;simp [zA]),zA,F.Ut _ (by omega) (fun e he=>(hk e (List.mem_filter.1 he).1).2),zB,zA]
theorem rofD_eq (l:List EV) (cid:Int) (hl:l.length <= 1000000) (hk:∀ e ∈ l,e.kind = 1 /\ e.kills.length <= 300):XP l cid = pure (zn (l.filter fun x=>decide (x.cid = cid))):=by
 unfold XP;have hf:=List.length_filter_le (fun x:EV=>decide (x.cid = cid)) l;rw [Qe (body:=wq l cid) l (fun x=>decide (x.cid = cid)) (fun t=>pure t) (fun i x t hx hi hI=>by
  have hd:decide ((i:Int) < (l.length:Int)) = true:=by simpa using hi
  unfold wq;simp only [hd,cond_true,zF hx,zA,(hk x (List.mem_of_getElem? hx)).1,decide_true,zh (show i < 9223372036854775807 by omega)]
  cases decide (x.cid = cid) <;> simp only [cond_true,cond_false,zA,if_true,if_false,Bool.false_eq_true]
  rw [zE (by simp;omega)]
  rfl) (fun t=>by unfold wq;simp [zA]),zA,F.Ut _ (by omega) (fun e he=>(hk e (List.mem_filter.1 he).1).2),zB,zA]
def yRa (W:List PT) (L:List EV) (e:EV):EV × Int:=
 if zy (VR e) = false then (⟨⟨0,0⟩,0,0,0,⟨#[]⟩,[]⟩,1) else if C.vA W e.dot.dev e.dot.n = true then (⟨⟨0,0⟩,0,0,0,⟨#[]⟩,[]⟩,7)
 else if 256 < (jl L e).length then (⟨⟨0,0⟩,0,0,0,⟨#[]⟩,[]⟩,3) else (⟨e.dot,e.kind,e.cid,e.field,e.text,jl L e⟩,0)
theorem Jl {e:EV} (h:OkE e):OkE (VR e):=⟨h.dot,h.kind,h.cid,h.field,h.text,(fun d hd=>nomatch hd),by simp [VR]⟩
theorem Rep.make (hR:Rep n W c xc nl1 m1 nl2 m2 L) (hn:n <= 1000000) {e:EV} (oe:OkE e) :
  yC e c nl1 m1 nl2 m2 = pure (yRa W L e) /\ qO ⟨xc,L⟩ e = pure (yRa W L e):=by
 have hll:=WL L;have hL:=hR.ll;have hk:∀ x ∈ yt L,x.kind = 1 /\ x.kills.length <= 300:=fun x hx=>⟨(yf.1 hx).2,by have:=hR.kl x (yf.1 hx).1;omega⟩
 have h1:=E.XY (Jl oe);have h2:=E.XA (Jl oe);have h3:=hR.has (by omega) e.dot;have h4:=hR.rhas e.dot;have a1:=ofE_eq (yt L) e.cid e.field (by omega) hk;have a2:=ofD_eq (yt L) e.cid (by omega) hk;have a3:=rofE_eq (yt L) e.cid e.field (by omega) hk;have a4:=rofD_eq (yt L) e.cid (by omega) hk;unfold yRa
 constructor
 ·unfold yC;rw [show (⟨e.dot,e.kind,e.cid,e.field,e.text,([]:List DT)⟩:EV) = VR e from rfl,h1,zB,zA]
  cases zy (VR e) with
  | false=>rfl
  | true=>
   rw [Bool.not_true,cond_false,h3,zB,zA]
   cases C.vA W e.dot.dev e.dot.n with
   | true=>rfl
   | false=>
    rw [cond_false,if_neg (by simp),if_neg (by simp)];have hq:(cond (decide (e.kind = 1))
      (M.bind (M.det (zO c nl1 m1 nl2 m2)) fun y15=>M.bind (M.det (uA y15 e.cid e.field)) fun v17=>M.pure (Ex.brk v17))
      (M.bind (M.det (zO c nl1 m1 nl2 m2)) fun y19=>M.bind (M.det (xv y19 e.cid)) fun v21=>M.pure (Ex.brk v21)):M (Ex (List DT) (EV × Int))) = pure (Ex.brk (jl L e)):=by
     rw [hR.Live (by omega),zB,zA,zA,a1,a2,zB,zB,zA,zA,YQ];unfold jl
     by_cases h:e.kind = 1 <;> simp [h]
    rw [hq,zA,YB,yV]
    by_cases h:256 < (jl L e).length
    ·rw [if_pos h,if_pos (by omega)]
    ·rw [if_neg h,if_neg (by omega)]
 ·unfold qO;rw [show (⟨e.dot,e.kind,e.cid,e.field,e.text,([]:List DT)⟩:EV) = VR e from rfl,h2,zB,zA]
  cases zy (VR e) with
  | false=>rfl
  | true=>
   rw [Bool.not_true,cond_false,show (⟨xc,L⟩:RB).ctx = xc from rfl,h4,zB,zA]
   cases C.vA W e.dot.dev e.dot.n with
   | true=>rfl
   | false=>
    rw [cond_false,if_neg (by simp),if_neg (by simp),hR.rLive (by omega),zB,zA,a4,zB,zA];simp only [zA,a3,zB];rw [YQ,zA];have hq:(cond (decide (e.kind = 1)) (zn ((yt L).filter fun x=>decide (x.cid = e.cid) && decide (x.field = e.field))) (zn ((yt L).filter fun x=>decide (x.cid = e.cid)))) = jl L e:=by
     unfold jl
     by_cases h:e.kind = 1 <;> simp [h]
    rw [hq,yV]
    by_cases h:256 < (jl L e).length
    ·rw [if_pos h,if_pos (by omega)]
    ·rw [if_neg h,if_neg (by omega)]
end

open E (OkE zy yx)
open F (xH zm zn Zu)

theorem qu {l:List EV}:yx l ↔ D.Srt (l.map (·.dot)):=by
 unfold yx D.Srt;rw [List.pairwise_map]
theorem ZG {l l':List EV} (h:yx l) (e:l'.map (·.dot) = l.map (·.dot)):yx l':=by rw [qu,e,<- qu];exact h
def yL (y:List PT) (x:EV):EV:=if C.vA y x.dot.dev x.dot.n = true then VR x else x
theorem ZH (y:List PT) (x:EV):(yL y x).dot = x.dot:=by unfold yL;split <;> rfl
theorem Zo (y:List PT) (x:EV):(yL y x).kind = x.kind:=by unfold yL;split <;> rfl
theorem VH (y:List PT) (x:EV):∀ d ∈ (yL y x).kills,d ∈ x.kills:=by
 unfold yL
 split
 ·intro d hd;cases hd
 ·intro d hd;exact hd
theorem Qg {y:List PT} {x:EV} (h:zy x = true /\ OkE x):zy (yL y x) = true /\ OkE (yL y x):=by
 unfold yL
 split
 ·refine ⟨?_,Jl h.2⟩;have:=h.1;simp only [zy,Bool.and_eq_true] at this ⊢;exact ⟨this.1,this.2.1,rfl⟩
 ·exact h
theorem xn (y:List PT) (l:List EV):(l.map (yL y)).map (·.dot) = l.map (·.dot):=by
 rw [List.map_map];exact List.map_congr_left fun x _=>ZH y x
theorem Strip_eq (x:EV) {y:List PT} (hy:C.Ok y) (hk:x.kills.length <= 1000000000):uP x y = pure (yL y x):=by
 unfold uP;rw [Ur x (by omega),zB,zA,C.z4a y x.dot hy.sm,zB,zA,YQ,zA];unfold yL VR
 cases C.vA y x.dot.dev x.dot.n <;> rfl
theorem ySa (x:EV) {y:List PT} (hy:C.Ok y):Wo x y = pure (yL y x):=by
 unfold Wo;rw [C.vo y x.dot hy,zB,zA,YQ,zA];unfold yL VR
 cases C.vA y x.dot.dev x.dot.n <;> rfl
def yc (y:List PT) (x:EV):Bool:=C.vA y x.dot.dev x.dot.n
def vb (y:List PT) (L:List EV):List EV:=(L.filter fun x=>decide (x.kind = 1) || !yc y x).map (yL y)
theorem qv {m:List (DT × EV)} {A B:List EV} {x x':EV} (h:Holds m (A ++ x :: B)) (hs:yx (A ++ x :: B)) (hd:x'.dot = x.dot):Holds (AL.set m x.dot x') (A ++ x' :: B):=by
 have hs':yx (A ++ x' :: B):=ZG hs (by simp [hd]);refine Uu (AL.nodup_set (h.keys hs) _ _) hs' fun k=>?_
 rw [yOa (h.keys hs),h.mem];have hne:∀ z,z ∈ A \/ z ∈ B -> z.dot ≠ x.dot:=fun z hz e=>by
  have hz':z ∈ A ++ x :: B:=by rw [List.mem_append,List.mem_cons];exact hz.imp (fun h=>h) .inr
  have e2:=srtE_one hs hz' (by simp) e;subst e2;have h2:=XB hs;rw [List.map_append,List.map_cons,List.nodup_append,List.nodup_cons] at h2;rcases hz with hz | hz
  ·exact h2.2.2 _ (List.mem_map.2 ⟨z,hz,rfl⟩) _ (by simp) rfl
  ·exact h2.2.1.1 (List.mem_map.2 ⟨z,hz,rfl⟩)
 simp only [List.mem_append,List.mem_cons]
 constructor
 ·rintro (⟨⟨h1,h2⟩,h3⟩ | h1)
  ·refine ⟨?_,h2⟩;rcases h1 with h1 | h1 | h1
   ·exact .inl h1
   ·exact absurd (by rw [h2,h1]) h3
   ·exact .inr (.inr h1)
  ·rw [h1];exact ⟨.inr (.inl rfl),hd.symm⟩
 ·rintro ⟨h1 | h1 | h1,h2⟩
  ·exact .inl ⟨⟨.inl h1,h2⟩,by rw [h2];exact hne _ (.inl h1)⟩
  ·refine .inr ?_;obtain ⟨k1,k2⟩:=k;simp only at h1 h2;rw [h2,h1,hd]
  ·exact .inl ⟨⟨.inr (.inr h1),h2⟩,by rw [h2];exact hne _ (.inr h1)⟩
theorem has_of {m:List (DT × EV)} {l:List EV} (h:Holds m l) (hs:yx l) {x:EV} (hx:x ∈ l):AL.has m x.dot = true:=by
 unfold AL.has;have:=AL.mem_get (h.keys hs) ((Holds.mem h (k:=(x.dot,x))).2 ⟨hx,rfl⟩);rw [this];rfl
theorem Qh {y:List PT} (hy:C.Ok y) (l:List EV) (hl:l.length <= 1000000000) (hk:∀ e ∈ l,e.kills.length <= 300) (hs:yx l) {nl:Bool} {m:List (DT × EV)} (h:Holds m l) :
  ∃ m',vg l y nl m = pure (nl,m') /\ Holds m' (l.map (yL y)) /\ (m = [] -> m' = []):=by
 have h1:=uX (body:=xS l y nl) l (fun i (t:List (DT × EV))=>((i:Int),t)) (fun t x=>AL.set t x.dot (yL y x)) (fun t=>pure (nl,t))
  (fun i t=>Holds t ((l.take i).map (yL y) ++ l.drop i)) (fun i x t hx hi hI=>by
   have hd:decide ((i:Int) < (l.length:Int)) = true:=by simpa using hi
   have hdr:l.drop i = x :: l.drop (i + 1):=by
    rw [List.drop_eq_getElem_cons hi]
    congr 1
    rw [List.getElem?_eq_getElem hi] at hx;exact Option.some.inj hx
   have htk:l.take (i + 1) = l.take i ++ [x]:=by rw [List.take_add_one,hx];rfl
   have hss:yx ((l.take i).map (yL y) ++ x :: l.drop (i + 1)):=by
    rw [<- hdr];refine ZG hs ?_;rw [List.map_append,xn,<- List.map_append,List.take_append_drop]
   rw [hdr] at hI;refine ⟨?_,?_⟩
   ·unfold xS;have hh:=has_of hI hss (x:=x) (by simp);simp only [hd,cond_true,zF hx,zA,hh,Strip_eq x hy (by have:=hk x (List.mem_of_getElem? hx);omega),zB,zh (show i < 9223372036854775807 by omega)];rw [zE trivial,zA]
   ·rw [htk,List.map_append,List.append_assoc];exact qv hI hss (ZH y x)) (fun t _=>by
   unfold xS;simp [zA]) m (by simpa using h)
 have hinv:∀ (k i:Nat) (t:List (DT × EV)),i + k = l.length -> Holds t ((l.take i).map (yL y) ++ l.drop i) -> Holds ((l.drop i).foldl (fun t x=>AL.set t x.dot (yL y x)) t) (l.map (yL y)):=by
  intro k
  induction k with
  | zero=>
   intro i t hi ht;have:i = l.length:=by omega
   subst this;rw [List.drop_length,List.take_length,List.append_nil] at ht;rw [List.drop_length];exact ht
  | succ k ih=>
   intro i t hi ht;have hlt:i < l.length:=by omega
   have hdr:=List.drop_eq_getElem_cons hlt;have htk:l.take (i + 1) = l.take i ++ [l[i]]:=by rw [List.take_add_one,List.getElem?_eq_getElem hlt];rfl
   have hss:yx ((l.take i).map (yL y) ++ l[i] :: l.drop (i + 1)):=by
    rw [<- hdr];refine ZG hs ?_;rw [List.map_append,xn,<- List.map_append,List.take_append_drop]
   rw [hdr,List.foldl_cons];refine ih (i + 1) _ (by omega) ?_;rw [htk,List.map_append,List.append_assoc];rw [hdr] at ht;exact qv ht hss (ZH y _)
 refine ⟨l.foldl (fun (t:List (DT × EV)) (x:EV)=>AL.set t x.dot (yL y x)) m,by unfold vg;exact h1,by simpa using hinv l.length 0 m (by omega) (by simpa using h),fun hm=>?_⟩;subst hm;have:l = []:=by
  have:=h.len;simpa using this.symm
 rw [this];rfl
section
variable {n:Nat} {W c xc:List PT} {nl1:Bool} {m1:List (DT × EV)} {nl2:Bool} {m2:List (DT × EV)} {L:List EV}
theorem Rep.Live' (hR:Rep n W c xc nl1 m1 nl2 m2 L) (hn:n <= 100000000) (c':List PT) (b:Bool) (m':List (DT × EV)):zO c' nl1 m1 b m' = pure (yt L):=hR.Live hn
theorem yTa {y:List PT} (hy:C.Ok y) (T:List EV) (hl:T.length <= 1000000000) (m:List (DT × EV)) :
  loop (yF T y) (0,0,m) = pure (((T.filter (yc y)).length:Int),((T.filter (yc y)).map (·.dot)).foldl AL.del m):=by
 have h1:=uX (body:=yF T y) T (fun i (t:List EV × List (DT × EV))=>((t.1.length:Int),(i:Int),t.2)) (fun t x=>if yc y x = true then (t.1 ++ [x],AL.del t.2 x.dot) else t) (fun t=>pure ((t.1.length:Int),t.2))
  (fun i t=>t.1.length <= i) (fun i x t hx hi hI=>by
   have hd:decide ((i:Int) < (T.length:Int)) = true:=by simpa using hi
   refine ⟨?_,?_⟩
   ·unfold yF;have hh:uO y x.dot = pure (yc y x):=C.z4a y x.dot hy.sm;simp only [hd,cond_true,zF hx,zA,hh,zB,zh (show i < 9223372036854775807 by omega)]
    cases yc y x with
    | true=>
     simp only [cond_true,if_true,zA];rw [zh (by omega)];simp
    | false=>simp [zA]
   ·split
    ·simp only [List.length_append,List.length_singleton];omega
    ·omega) (fun t _=>by
   unfold yF;simp [zA]) ([],m) (Nat.le_refl _)
 have hf:∀ (q:List EV) (t:List EV × List (DT × EV)),q.foldl (fun t x=>if yc y x = true then (t.1 ++ [x],AL.del t.2 x.dot) else t) t = (t.1 ++ q.filter (yc y),((q.filter (yc y)).map (·.dot)).foldl AL.del t.2):=by
  intro q
  induction q with
  | nil=>intro t;simp
  | cons x r ih=>
   intro t;rw [List.foldl_cons,ih,List.filter_cons]
   split <;> simp_all
 rw [hf] at h1;exact h1
theorem Jm {y:List PT} (hy:C.Ok y) (xc:List PT) (L:List EV) (hl:L.length <= 1000000000):loop (xz ⟨xc,L⟩ y) (0,[]) = pure (vb y L):=by
 have h1:=uX (body:=xz ⟨xc,L⟩ y) L (fun i (t:List EV)=>((i:Int),t)) (fun t x=>if (decide (x.kind = 1) || !yc y x) = true then t ++ [yL y x] else t) (fun t=>pure t)
  (fun i t=>t.length <= i) (fun i x t hx hi hI=>by
   have hd:decide ((i:Int) < (L.length:Int)) = true:=by simpa using hi
   refine ⟨?_,by split <;> (try rw [List.length_append,List.length_singleton]) <;> omega⟩;unfold xz;have hh:xe y x.dot = pure (yc y x):=C.vo y x.dot hy;simp only [hd,cond_true,zF hx,zA,hh,zB,ySa x hy,zh (show i < 9223372036854775807 by omega)]
   cases decide (x.kind = 1) <;> cases yc y x <;> simp only [Bool.not_true,Bool.not_false,cond_true,cond_false,zA,Bool.or_true,Bool.or_false,Bool.true_or,Bool.false_or,if_true,if_false,Bool.false_eq_true]
   all_goals (try rw [zE (by simp;omega)])
   all_goals rfl) (fun t _=>by unfold xz;simp [zA]) [] (Nat.le_refl _)
 have hf:∀ (q t:List EV),q.foldl (fun t x=>if (decide (x.kind = 1) || !yc y x) = true then t ++ [yL y x] else t) t = t ++ (q.filter fun x=>decide (x.kind = 1) || !yc y x).map (yL y):=by
  intro q
  induction q with
  | nil=>intro t;simp
  | cons x r ih=>intro t;rw [List.foldl_cons,ih,List.filter_cons];split <;> simp
 rw [hf,List.nil_append] at h1;exact h1
theorem Rep.prune (hR:Rep n W c xc nl1 m1 nl2 m2 L) (hn:n <= 100000000) {y:List PT} (hy:C.Ok y) :
  ∃ k nl1' m1' nl2' m2',yq y c nl1 m1 nl2 m2 = pure (k,nl1',m1',nl2',m2') /\ jY ⟨xc,L⟩ y = pure (⟨xc,vb y L⟩,k) /\ Rep n W c xc nl1' m1' nl2' m2' (vb y L) /\ k = ((xX L).filter (yc y)).length:=by
 have hll:=hR.ll;have hl1:=WL L;have ht1:=qr L;obtain ⟨m1',h1,h2,h3⟩:=Qh (nl:=nl1) hy (yt L) (by omega) (fun e he=>by have:=hR.kl e (yf.1 he).1;omega) (zK hR.srt _) hR.live;have hdel:=Holds.dels ((xX L).filter (yc y) |>.map (·.dot)) hR.tomb (zK hR.srt _);have hP:∀ x ∈ L,(decide (x.kind = 1) || !yc y x) = true ↔ (x.kind = 1 \/ yc y x = false):=fun x _=>by simp
 have hsP:yx (vb y L):=ZG (zK hR.srt (fun x=>decide (x.kind = 1) || !yc y x)) (xn y _);have mem_p:∀ z,z ∈ vb y L ↔ ∃ x ∈ L,(x.kind = 1 \/ yc y x = false) /\ yL y x = z:=fun z=>by
  unfold vb;rw [List.mem_map]
  constructor
  ·rintro ⟨x,hx,e⟩;rw [List.mem_filter] at hx;exact ⟨x,hx.1,(hP x hx.1).1 hx.2,e⟩
  ·rintro ⟨x,hx,hp,e⟩;exact ⟨x,List.mem_filter.2 ⟨hx,(hP x hx).2 hp⟩,e⟩
 have hlive:yt (vb y L) = (yt L).map (yL y):=by
  refine xl (zK hsP _) (ZG (zK hR.srt _) (xn y _)) fun z=>?_
  rw [yf,mem_p,List.mem_map]
  constructor
  ·rintro ⟨⟨x,hx,hp,rfl⟩,hz⟩;exact ⟨x,yf.2 ⟨hx,by rw [<- Zo y x];exact hz⟩,rfl⟩
  ·rintro ⟨x,hx,rfl⟩;obtain ⟨h4,h5⟩:=yf.1 hx;exact ⟨⟨x,h4,.inl h5,rfl⟩,by rw [Zo];exact h5⟩
 have htomb:xX (vb y L) = (xX L).filter fun e=>!xH ((xX L).filter (yc y) |>.map (·.dot)) e.dot:=by
  refine xl (zK hsP _) (zK (zK hR.srt _) _) fun z=>?_
  rw [xm,mem_p,List.mem_filter,xm,Bool.not_eq_true',<- Bool.not_eq_true,vC];have hsn:∀ x:EV,yc y x = false -> yL y x = x:=fun x h=>by
   unfold yL;rw [if_neg];show ¬ yc y x = true;rw [h];simp
  constructor
  ·rintro ⟨⟨x,hx,hp,rfl⟩,hz⟩;rw [Zo] at hz;have hs:yc y x = false:=hp.resolve_left (by omega);rw [hsn x hs];refine ⟨⟨hx,hz⟩,fun h=>?_⟩;obtain ⟨w,hw,e⟩:=List.mem_map.1 h;have h4:=(List.mem_filter.1 hw).2;unfold yc at h4 hs;rw [e,hs] at h4;cases h4
  ·rintro ⟨⟨hx,hz⟩,h⟩;have hs:yc y z = false:=by
    cases h4:yc y z with
    | false=>rfl
    | true=>exact absurd (List.mem_map.2 ⟨z,List.mem_filter.2 ⟨xm.2 ⟨hx,hz⟩,h4⟩,rfl⟩) h
   exact ⟨⟨z,hx,.inr hs,hsn z hs⟩,hz⟩
 have hlen:(L.length:Int) - ((vb y L).length:Int) = ((xX L).filter (yc y)).length:=by
  have e1:(vb y L).length = (L.filter fun x=>decide (x.kind = 1) || !yc y x).length:=by unfold vb;rw [List.length_map]
  have e2:(xX L).filter (yc y) = L.filter fun x=>!(decide (x.kind = 1) || !yc y x):=by
   unfold xX;rw [List.filter_filter];refine List.filter_congr fun x hx=>?_
   rcases hR.kinds x hx with h | h <;> simp [h]
  have e3:∀ (q:List EV) (p:EV -> Bool),q.length = (q.filter p).length + (q.filter fun x=>!p x).length:=by
   intro q p
   induction q with
   | nil=>rfl
   | cons x r ih=>rw [List.filter_cons,List.filter_cons];cases p x <;> simp <;> omega
  have:=e3 L fun x=>decide (x.kind = 1) || !yc y x
  rw [e1,e2];omega
 have hle:(vb y L).length <= L.length:=by unfold vb;rw [List.length_map];exact List.length_filter_le _ _
 refine ⟨_,nl1,m1',nl2,((xX L).filter (yc y) |>.map (·.dot)).foldl AL.del m2,?_,?_,?_,rfl⟩
 ·unfold yq;rw [hR.Tombs hn,zB,zA,yTa hy (xX L) (by omega),zA];simp only [];rw [hR.Live' hn,zB,zA,h1,zB,zA]
 ·unfold jY;rw [Jm hy xc L (by omega),zA];simp only [];rw [Xh (by omega) (by omega),hlen]
 ·refine ⟨hR.ctx,hR.xctx,hR.xok,by rw [hlive];exact h2,by rw [htomb];exact hdel,fun h=>h3 (hR.n1 h),fun h=>by rw [hR.n2 h];exact Uv _,hsP,fun z hz=>?_,fun d hd=>?_,fun z hz hk=>?_,hR.wl,hR.wt,by omega⟩
  ·obtain ⟨x,hx,_,rfl⟩:=(mem_p z).1 hz;exact Qg (hR.good x hx)
  ·obtain ⟨z,hz,h⟩:=yz.1 hd;obtain ⟨x,hx,_,rfl⟩:=(mem_p z).1 hz;refine hR.dots d (yz.2 ⟨x,hx,?_⟩);rw [ZH] at h;exact h.imp (fun h=>h) (VH y x d)
  ·obtain ⟨x,hx,_,rfl⟩:=(mem_p z).1 hz;rw [Zo] at hk;rw [ZH,<- Bool.not_eq_true,WJ];rintro ⟨w,hw,h⟩;obtain ⟨v,hv,_,rfl⟩:=(mem_p w).1 hw;have:=hR.alive x hx hk;rw [<- Bool.not_eq_true,WJ] at this;exact this ⟨v,hv,VH y v _ h⟩
end

open E (OkE zy yx)
open F (xH zm zn Zu)

section
variable {n:Nat} {W c xc:List PT} {nl1:Bool} {m1:List (DT × EV)} {nl2:Bool} {m2:List (DT × EV)} {L:List EV}
end
open E (OkE zy yx)
open F (xH zm zn Zu)

def exA : EV:=⟨⟨1,1⟩,1,281474976710657,1,⟨#[97]⟩,[]⟩
def exB : EV:=⟨⟨1,2⟩,2,281474976710657,0,⟨#[]⟩,[]⟩
def exC : EV:=⟨⟨1,2⟩,2,281474976710657,0,⟨#[]⟩,[⟨1,1⟩]⟩
theorem okA : OkE exA:=⟨⟨by decide,by decide,by decide,by decide⟩,by decide,by decide,by decide,by decide,(fun d hd=>nomatch hd),by decide⟩
theorem okB : OkE exB:=⟨⟨by decide,by decide,by decide,by decide⟩,by decide,by decide,by decide,by decide,(fun d hd=>nomatch hd),by decide⟩
theorem okC : OkE exC:=⟨⟨by decide,by decide,by decide,by decide⟩,by decide,by decide,by decide,by decide,(fun d hd=>by
 rw [show exC.kills = [⟨1,1⟩] from rfl,List.mem_singleton] at hd;subst hd;exact ⟨by decide,by decide,by decide,by decide⟩),by decide⟩
theorem mkA : yRa [] [] exA = (exA,0):=by decide
theorem putA : Vp [] exA = [exA]:=by decide
theorem gA : zy exA = true:=by decide
theorem gC : zy exC = true:=by decide
def wA : List PT:=[] ++ C.zf (zn [exA])
theorem mkB : yRa wA [exA] exB = (exC,0):=by decide
theorem putC : Vp [exA] exC = [exC]:=by decide
theorem works18 : uD = pure true:=by
 have hm1:yC exA [] true [] true [] = pure (exA,0):=by rw [<- mkA];exact (Rep.new.make (by omega) okA).1
 obtain ⟨c1,x1,a1,p1,b1,q1,hp1,_,R1⟩:=Rep.new.put (by omega) okA gA (by decide);rw [putA] at R1;have hm2:yC exB c1 a1 p1 b1 q1 = pure (exC,0):=by rw [<- mkB];exact (R1.make (by omega) okB).1
 obtain ⟨c2,x2,a2,p2,b2,q2,hp2,_,R2⟩:=R1.put (by omega) okC gC (by decide);rw [putC] at R2;have hl:=R2.Live (by omega);have ht:=R2.Tombs (by omega);have ho:=C.rOf_eq [exC.dot] (by simp);obtain ⟨k,a3,p3,b3,q3,hp3,_,R3,hk⟩:=R2.prune (by omega) (C.Uk (l:=[exC.dot]) (by simp));have hpr:vb (C.yI (C.zf [exC.dot])) [exC] = []:=by
  unfold vb;have:yc (C.yI (C.zf [exC.dot])) exC = true:=by unfold yc;rw [C.ya];decide
  rw [List.filter_cons,this];rfl
 have hk1:k = 1:=by
  have:yc (C.yI (C.zf [exC.dot])) exC = true:=by unfold yc;rw [C.ya];decide
  rw [hk,show xX [exC] = [exC] by decide,List.filter_cons,this];rfl
 subst hk1;rw [hpr] at R3;have hall:=R3.All (by omega);have hctx:=R3.Ctx (by omega);have hw:C.Ok (C.yI ([] ++ C.zf (zn [exA]) ++ C.zf (zn [exC]))):=WK (by decide) (by decide);have h1:xe (C.yI ([] ++ C.zf (zn [exA]) ++ C.zf (zn [exC]))) exA.dot = pure true:=by
  rw [C.vo _ _ hw,C.ya];exact congrArg pure (by decide)
 have h2:xe (C.yI ([] ++ C.zf (zn [exA]) ++ C.zf (zn [exC]))) exC.dot = pure true:=by
  rw [C.vo _ _ hw,C.ya];exact congrArg pure (by decide)
 unfold uD vG;rw [show (⟨(⟨1,1⟩:DT),1,281474976710657,1,(⟨#[97]⟩:ByteArray),([]:List DT)⟩:EV) = exA from rfl,show (⟨(⟨1,2⟩:DT),2,281474976710657,0,(⟨#[]⟩:ByteArray),([]:List DT)⟩:EV) = exB from rfl];simp only [zB,zA,hm1,hp1,hm2,hp2,decide_true,Bool.not_true,cond_false,hl,ht,show exC.kills.length = 1 from rfl,show (yt [exC]).length = 0 by decide,show (xX [exC]).length = 1 by decide,ho,hp3,hall,hctx,h1,h2,List.length_nil,cond_true,show ((1:Nat):Int) = 1 from rfl,show ((0:Nat):Int) = 0 from rfl]
open E (OkE zy yx)
open F (xH zm zn Zu)

open E (OkE zy yx)
open F (xH zm zn Zu)

section
variable {n:Nat} {W c xc:List PT} {nl1:Bool} {m1:List (DT × EV)} {nl2:Bool} {m2:List (DT × EV)} {L:List EV}
end
open E (OkE zy yx)
open F (xH zm zn Zu)

section
variable {n:Nat} {W c xc:List PT} {nl1:Bool} {m1:List (DT × EV)} {nl2:Bool} {m2:List (DT × EV)} {L:List EV}
def putW (s:List PT × List EV) (e:EV):List PT × List EV:=if zy e = true /\ C.vA s.1 e.dot.dev e.dot.n = false then (s.1 ++ C.zf (zn [e]),Vp s.2 e) else s
theorem Rep.putS (hR:Rep n W c xc nl1 m1 nl2 m2 L) (hn:n <= 100000000) {e:EV} (oe:OkE e) :
  ∃ k c' xc' nl1' m1' nl2' m2',zP e c nl1 m1 nl2 m2 = pure (k,c',nl1',m1',nl2',m2') /\ XO ⟨xc,L⟩ e = pure (⟨xc',(putW (W,L) e).2⟩,k) /\ Rep (n + 600) (putW (W,L) e).1 c' xc' nl1' m1' nl2' m2' (putW (W,L) e).2 /\ (k ≠ 0 -> xc' = xc /\ (putW (W,L) e).2 = L):=by
 unfold putW
 cases g:zy e with
 | false=>
  rw [if_neg (by simp)];refine ⟨1,c,xc,nl1,m1,nl2,m2,?_,?_,hR.mono (by omega),fun _=>⟨rfl,rfl⟩⟩
  ·unfold zP;rw [E.XY oe,zB,zA,g];rfl
  ·unfold XO;rw [E.XA oe,zB,zA,g];rfl
 | true=>
  cases hc:C.vA W e.dot.dev e.dot.n with
  | true=>
   rw [if_neg (by simp)];refine ⟨7,c,xc,nl1,m1,nl2,m2,?_,?_,hR.mono (by omega),fun _=>⟨rfl,rfl⟩⟩
   ·unfold zP;rw [E.XY oe,zB,zA,g,Bool.not_true,cond_false,hR.has hn,zB,zA,hc];rfl
   ·unfold XO;rw [E.XA oe,zB,zA,g,Bool.not_true,cond_false,show (⟨xc,L⟩:RB).ctx = xc from rfl,hR.rhas,zB,zA,hc];rfl
  | false=>
   rw [if_pos (by simp)];obtain ⟨c',xc',a,p,b,q,h1,h2,h3⟩:=hR.put hn oe g hc;exact ⟨0,c',xc',a,p,b,q,h1,h2,h3,fun h=>absurd rfl h⟩
end
section
variable {n:Nat} {W c xc:List PT} {nl1:Bool} {m1:List (DT × EV)} {nl2:Bool} {m2:List (DT × EV)} {L:List EV}
end
open E (OkE zy yx)
open F (xH zm zn Zu)

section
variable {n:Nat} {W c xc:List PT} {nl1:Bool} {m1:List (DT × EV)} {nl2:Bool} {m2:List (DT × EV)} {L:List EV}
end
section
variable {n:Nat} {W c xc:List PT} {nl1:Bool} {m1:List (DT × EV)} {nl2:Bool} {m2:List (DT × EV)} {L:List EV}
end

open E (OkE zy yx)
open F (xH zm zn Zu)

section
variable {n:Nat} {W c xc:List PT} {nl1:Bool} {m1:List (DT × EV)} {nl2:Bool} {m2:List (DT × EV)} {L:List EV}
end
open E (OkE zy yx)
open F (xH zm zn Zu)

section
variable {n:Nat} {W c xc:List PT} {nl1:Bool} {m1:List (DT × EV)} {nl2:Bool} {m2:List (DT × EV)} {L:List EV}
end
end Go.Ep.M.G

namespace Go.Ep.M.G
open Go
open E (OkE zy yx)
open F (xH zm zn)

def hD (e:EV) (k n:Int):Bool:=C.vA (C.zf (zn [e])) k n
theorem VI {e:EV} {k n:Int}:hD e k n = true ↔ ∃ d,(d = e.dot \/ d ∈ e.kills) /\ V.zr d = true /\ d.dev = k /\ d.n = n:=by
 unfold hD;rw [C.qc]
 constructor
 ·rintro ⟨d,hd,h⟩;obtain ⟨x,hx,h1⟩:=yz.1 (D.Yz.1 hd);rw [List.mem_singleton.1 hx] at h1;exact ⟨d,h1,h⟩
 ·rintro ⟨d,h1,h⟩;exact ⟨d,D.Yz.2 (yz.2 ⟨e,List.mem_singleton.2 rfl,h1⟩),h⟩
def Clo (s:List EV):Prop:=∀ e ∈ s,∀ f ∈ s,f.dot ∈ e.kills -> f.kind = 1 /\ ∀ d ∈ f.kills,d ∈ e.kills
theorem dot_one {s:List EV} (hs:yx s) {x y:EV} (hx:x ∈ s) (hy:y ∈ s) (e:x.dot = y.dot):x = y:=by
 induction s with
 | nil=>cases hx
 | cons a r ih=>
  obtain ⟨h1,h2⟩:=List.pairwise_cons.1 hs;rcases List.mem_cons.1 hx with e1 | hx <;> rcases List.mem_cons.1 hy with e2 | hy
  ·rw [e1,e2]
  ·have:=h1 y hy;rw [<- e,e1,D.ZC] at this;cases this
  ·have:=h1 x hx;rw [e,e2,D.ZC] at this;cases this
  ·exact ih h2 hx hy
theorem jm {e:EV} (h:zy e = true):V.zr e.dot = true /\ e.dot ∉ e.kills:=by
 simp only [zy,E.Jk,Bool.and_eq_true,List.all_eq_true,Bool.not_eq_true',decide_eq_false_iff_not] at h;exact ⟨h.1.2,fun hk=>(h.2.2.2.2 e.dot hk).2 rfl⟩
structure Past (P:List EV) (W:List PT) (L:List EV):Prop where
 has:∀ k n,C.vA W k n = true ↔ ∃ e ∈ P,zy e = true /\ hD e k n = true
 mem:∀ x,x ∈ L ↔ x ∈ P /\ zy x = true /\ ∀ f ∈ P,zy f = true -> x.dot ∉ f.kills
 srt:yx L
theorem qw : Past [] [] []:=⟨fun k n=>by simp [C.hasC_nil],fun x=>by simp,by simp [yx]⟩
theorem yUa {s P:List EV} {W:List PT} {L:List EV} (hs:yx s) (hc:Clo s) (hP:∀ x ∈ P,x ∈ s) (h:Past P W L) {e:EV} (he:e ∈ s):Past (P ++ [e]) (putW (W,L) e).1 (putW (W,L) e).2:=by
 have hm:∀ x,x ∈ P ++ [e] ↔ x ∈ P \/ x = e:=fun x=>by rw [List.mem_append,List.mem_singleton]
 have key:∀ {f:EV},f ∈ P -> zy f = true -> ∀ {x:EV},hD f x.dot.dev x.dot.n = true -> x.dot = f.dot \/ x.dot ∈ f.kills:=fun {f} _ _ {x} h1=>by
  obtain ⟨d,h2,_,h3,h4⟩:=VI.1 h1;have:d = x.dot:=by cases d;cases hx:x.dot;rw [hx] at h3 h4;simp at h3 h4;simp [h3,h4]
  rw [<- this];exact h2
 unfold putW
 cases g:zy e with
 | false=>
  rw [if_neg (by simp)];refine ⟨fun k n=>?_,fun x=>?_,h.srt⟩
  ·rw [h.has]
   constructor
   ·rintro ⟨f,hf,h1⟩;exact ⟨f,(hm f).2 (.inl hf),h1⟩
   ·rintro ⟨f,hf,h1,h2⟩;rcases (hm f).1 hf with hf | rfl
    ·exact ⟨f,hf,h1,h2⟩
    ·rw [g] at h1;cases h1
  ·rw [h.mem]
   constructor
   ·rintro ⟨h1,h2,h3⟩;refine ⟨(hm x).2 (.inl h1),h2,fun f hf hg=>?_⟩;rcases (hm f).1 hf with hf | rfl
    ·exact h3 f hf hg
    ·rw [g] at hg;cases hg
   ·rintro ⟨h1,h2,h3⟩;refine ⟨?_,h2,fun f hf hg=>h3 f ((hm f).2 (.inl hf)) hg⟩;rcases (hm x).1 h1 with h1 | rfl
    ·exact h1
    ·rw [g] at h2;cases h2
 | true=>
  obtain ⟨gd1,gd2⟩:=jm g;have hself:hD e e.dot.dev e.dot.n = true:=VI.2 ⟨e.dot,.inl rfl,gd1,rfl,rfl⟩
  cases hw:C.vA W e.dot.dev e.dot.n with
  | true=>
   rw [if_neg (by simp)];obtain ⟨f,hf,gf,h1⟩:=(h.has _ _).1 hw;rcases key hf gf h1 with h2 | h2
   ·have hfe:f = e:=dot_one hs (hP f hf) he h2.symm;have hm2:∀ x,x ∈ P ++ [e] ↔ x ∈ P:=fun x=>by
     rw [hm];exact ⟨fun h=>h.elim id fun h=>by rw [h,<- hfe];exact hf,.inl⟩
    exact ⟨fun k n=>by rw [h.has];simp only [hm2],fun x=>by rw [h.mem];simp only [hm2],h.srt⟩
   ·obtain ⟨_,c2⟩:=hc f (hP f hf) e he h2;refine ⟨fun k n=>?_,fun x=>?_,h.srt⟩
    ·rw [h.has]
     constructor
     ·rintro ⟨q,hq,h3⟩;exact ⟨q,(hm q).2 (.inl hq),h3⟩
     ·rintro ⟨q,hq,h3,h4⟩;rcases (hm q).1 hq with hq | rfl
      ·exact ⟨q,hq,h3,h4⟩
      ·obtain ⟨d,h5,h6⟩:=VI.1 h4;refine ⟨f,hf,gf,VI.2 ⟨d,.inr ?_,h6⟩⟩;rcases h5 with rfl | h5
       ·exact h2
       ·exact c2 d h5
    ·rw [h.mem]
     constructor
     ·rintro ⟨h3,h4,h5⟩;refine ⟨(hm x).2 (.inl h3),h4,fun q hq hg=>?_⟩;rcases (hm q).1 hq with hq | rfl
      ·exact h5 q hq hg
      ·exact fun hk=>h5 f hf gf (c2 _ hk)
     ·rintro ⟨h3,h4,h5⟩;refine ⟨?_,h4,fun q hq hg=>h5 q ((hm q).2 (.inl hq)) hg⟩;rcases (hm x).1 h3 with h3 | rfl
      ·exact h3
      ·exact absurd h2 (h5 f ((hm f).2 (.inl hf)) gf)
  | false=>
   rw [if_pos (by simp)];have hno:∀ x ∈ P,zy x = true -> x.dot ≠ e.dot:=fun x hx gx hxe=>by
    have:C.vA W e.dot.dev e.dot.n = true:=(h.has _ _).2 ⟨x,hx,gx,VI.2 ⟨x.dot,.inl rfl,by rw [hxe];exact gd1,by rw [hxe],by rw [hxe]⟩⟩;rw [hw] at this;cases this
   have hnk:∀ x ∈ P,zy x = true -> e.dot ∉ x.kills:=fun x hx gx hk=>by
    have:C.vA W e.dot.dev e.dot.n = true:=(h.has _ _).2 ⟨x,hx,gx,VI.2 ⟨e.dot,.inr hk,gd1,rfl,rfl⟩⟩;rw [hw] at this;cases this
   have hLn:∀ x ∈ L.filter (fun x=>!decide (x.kind = 1) || !xH e.kills x.dot),x.dot ≠ e.dot:=fun x hx=>by
    obtain ⟨h1,h2,_⟩:=(h.mem x).1 (List.mem_filter.1 hx).1;exact hno x h1 h2
   refine ⟨fun k n=>?_,fun x=>?_,Zm (zK h.srt _) e⟩
   ·show C.vA (W ++ C.zf (zn [e])) k n = true ↔ _;rw [C.Zl,Bool.or_eq_true,h.has]
    constructor
    ·rintro (⟨q,hq,h3⟩ | h3)
     ·exact ⟨q,(hm q).2 (.inl hq),h3⟩
     ·exact ⟨e,(hm e).2 (.inr rfl),g,h3⟩
    ·rintro ⟨q,hq,h3,h4⟩;rcases (hm q).1 hq with hq | rfl
     ·exact .inl ⟨q,hq,h3,h4⟩
     ·exact .inr h4
   ·show x ∈ Vn _ e ↔ _;rw [Zn hLn,List.mem_filter,h.mem];have hfil:(!decide (x.kind = 1) || !xH e.kills x.dot) = true ↔ (x.kind = 1 -> x.dot ∉ e.kills):=by
     rw [<- vC]
     by_cases hk:x.kind = 1
     ·simp [hk]
     ·simp [hk]
    rw [hfil]
    constructor
    ·rintro (rfl | ⟨⟨h1,h2,h3⟩,h4⟩)
     rotate_left
     ·refine ⟨(hm x).2 (.inl h1),h2,fun q hq hg=>?_⟩;rcases (hm q).1 hq with hq | rfl
      ·exact h3 q hq hg
      ·exact fun hk=>h4 (hc _ he x (hP x h1) hk).1 hk
     ·refine ⟨(hm x).2 (.inr rfl),g,fun q hq hg=>?_⟩;rcases (hm q).1 hq with hq | rfl
      ·exact hnk q hq hg
      ·exact gd2
    ·rintro ⟨h1,h2,h3⟩;rcases (hm x).1 h1 with h1 | rfl
     ·exact .inr ⟨⟨h1,h2,fun q hq hg=>h3 q ((hm q).2 (.inl hq)) hg⟩,fun _=>h3 e ((hm e).2 (.inr rfl)) g⟩
     ·exact .inl rfl
theorem yVa {P P':List EV} {W W':List PT} {L L':List EV} (h:Past P W L) (h':Past P' W' L') (hm:∀ x,x ∈ P ↔ x ∈ P'):C.yI W = C.yI W' /\ L = L':=by
 refine ⟨C.je fun k n=>?_,xl h.srt h'.srt fun x=>?_⟩
 ·rw [Bool.eq_iff_iff,h.has,h'.has];simp only [hm]
 ·rw [h.mem,h'.mem];simp only [hm]

open E (OkE zy yx)
open F (xH zm zn)

theorem yWa {ε σ ρ τ:Type} {body:σ -> M (Step σ ρ)} (l:List ε) (mk:Nat -> τ -> σ) (I:Nat -> τ -> Prop) (Q:ρ -> Prop)
  (h1:∀ (i:Nat) (x:ε) (t:τ),l[i]? = some x -> i < l.length -> I i t -> ∃ t',body (mk i t) = pure (.next (mk (i + 1) t')) /\ I (i + 1) t')
  (h2:∀ t,I l.length t -> ∃ r,body (mk l.length t) = pure (.done r) /\ Q r) (t0:τ) (h0:I 0 t0):∃ r,loop body (mk 0 t0) = pure r /\ Q r:=by
 have key:∀ k i t,i + k = l.length -> I i t -> ∃ r,loop body (mk i t) = pure r /\ Q r:=by
  intro k
  induction k with
  | zero=>
   intro i t hi hI;have:i = l.length:=by omega
   subst this;obtain ⟨r,h3,h4⟩:=h2 t hI;exact ⟨r,zu h3,h4⟩
  | succ k ih=>
   intro i t hi hI;have hlt:i < l.length:=by omega
   obtain ⟨t',h3,h4⟩:=h1 i l[i] t (List.getElem?_eq_getElem hlt) hlt hI;rw [yE h3];exact ih (i + 1) t' (by omega) h4
 exact key l.length 0 t0 (by omega) h0
theorem XC {α:Type} (l:List α) (p:α -> Bool):(l.zipIdx.all fun y=>p y.1) = l.all p:=by
 have h:∀ k:Nat,((l.zipIdx k).all fun y=>p y.1) = l.all p:=by
  induction l with
  | nil=>intro k;rfl
  | cons a r ih=>intro k;rw [List.zipIdx_cons,List.all_cons,List.all_cons,ih]
 exact h 0

theorem yXa {row:List EV} {e:EV} (hs:yx row) (hl:row.length <= 1000000) {j:Nat} {y:EV} (hy:row[j]? = some y) (hd:y.dot = e.dot):WX row e = pure row:=by
 have key:∀ (k i:Nat) (out:List EV),i + k = j -> out.length <= i -> loop (xJ row e) (false,(i:Int),out) = pure (.ret row):=by
  intro k
  induction k with
  | zero=>
   intro i out hi _;have:i = j:=by omega
   subst this;have hlt:=(List.getElem?_eq_some_iff.1 hy).1;refine zu ?_;unfold xJ;have hz:V.UX y.dot e.dot = 0:=by rw [hd];unfold V.UX;rw [if_pos rfl]
   simp only [show decide ((i:Int) < (row.length:Int)) = true by simpa using hlt,cond_true,zF hy,zA,V.vH,zB,hz,decide_true]
  | succ k ih=>
   intro i out hi ho;have hlt:j < row.length:=(List.getElem?_eq_some_iff.1 hy).1;have hil:i < row.length:=by omega
   have hx:=List.getElem?_eq_getElem hil;have hlt2:zJ row[i].dot e.dot = true:=by
    rw [<- hd];have:=(List.pairwise_iff_getElem.1 hs) i j hil hlt (by omega);rw [List.getElem?_eq_getElem hlt] at hy
    cases hy
    exact this
   generalize row[i] = x at hx hlt2
   have hneg:=V.Zk.2 hlt2;rw [yE (s':=(false,((i + 1:Nat):Int),out ++ [x])) (by
    unfold xJ;simp only [show decide ((i:Int) < (row.length:Int)) = true by simpa using hil,cond_true,zF hx,zA,V.vH,zB,decide_eq_false (show ¬ V.UX x.dot e.dot = 0 by omega),decide_eq_false (show ¬ 0 < V.UX x.dot e.dot by omega),cond_false];rw [zE (by simp;omega),zh (show i < 9223372036854775807 by omega)])]
   exact ih (i + 1) _ (by omega) (by simp;omega)
 unfold WX;have:=key j 0 [] (by omega) (by simp);rw [show (0:Int) = ((0:Nat):Int) from rfl,this,zA]
 rfl
theorem sort_ev (l:List EV) (hl:l.length <= 1000):∃ s,Xv l = pure s /\ yx s /\ (∀ x ∈ s,x ∈ l) /\ s.length <= l.length:=by
 obtain ⟨s,e,h⟩:=yWa (body:=WY l) l (fun i (t:List EV)=>((i:Int),t)) (fun i t=>yx t /\ (∀ x ∈ t,x ∈ l) /\ t.length <= i) (fun s=>yx s /\ (∀ x ∈ s,x ∈ l) /\ s.length <= l.length) (fun i x t hx hi ⟨h1,h2,h3⟩=>by
  by_cases hy:∃ y ∈ t,y.dot = x.dot
  ·obtain ⟨y,hy,hd⟩:=hy;obtain ⟨j,hj⟩:=List.getElem?_of_mem hy;have hp:YY x t = pure t:=yXa h1 (by omega) hj hd;refine ⟨t,?_,h1,h2,by omega⟩;show cond (decide ((i:Int) < (l.length:Int))) _ _ = _;rw [decide_eq_true (by omega),cond_true,zF hx,zA,hp,zB,zA,zh (by omega)]
  ·have hn:∀ y ∈ t,y.dot ≠ x.dot:=fun y hy1 hd=>hy ⟨y,hy1,hd⟩
   have hp:YY x t = pure (Vn t x):=qq t x h1 hn (by omega);refine ⟨Vn t x,?_,Zm h1 x,fun z hz=>?_,by have:=qp t x h1;omega⟩
   ·show cond (decide ((i:Int) < (l.length:Int))) _ _ = _;rw [decide_eq_true (by omega),cond_true,zF hx,zA,hp,zB,zA,zh (by omega)]
   ·rcases (Zn hn).1 hz with rfl | hz
    ·exact List.mem_of_getElem? hx
    ·exact h2 z hz) (fun t ⟨h1,h2,h3⟩=>by
  refine ⟨t,?_,h1,h2,h3⟩;show cond (decide ((l.length:Int) < (l.length:Int))) _ _ = _;rw [decide_eq_false (by omega)];rfl) [] ⟨by simp [yx],by simp,by simp⟩
 refine ⟨s,?_,h⟩;unfold Xv;rw [show (0:Int) = ((0:Nat):Int) from rfl,e,zA]
theorem yYa (l:List DT) (hl:l.length <= 1000000):YZ l = pure (D.vp l):=by
 have hlen:∀ q:List DT,q.length <= 1000000 -> (q.foldl D.Um []).length <= 1000000:=fun q hq=>Nat.le_trans (D.Un q) hq
 obtain ⟨s,e,h⟩:=yWa (body:=WZ l) l (fun i (t:List DT)=>(t,(i:Int))) (fun i t=>t = (l.take i).foldl D.Um []) (fun s=>s = l.foldl D.Um []) (fun i x t hx hi ht=>by
  refine ⟨D.Um t x,?_,?_⟩
  ·have htl:t.length <= 1000000:=by rw [ht];exact hlen _ (by simp;omega)
   show cond (decide ((i:Int) < (l.length:Int))) _ _ = _;rw [decide_eq_true (by omega),cond_true,zF hx,zA,D.Jg _ _ (by omega),zB,zA,zh (by omega)]
  ·rw [List.take_add_one,hx,ht,List.foldl_append];rfl) (fun t ht=>by
  refine ⟨t,?_,by rw [ht,List.take_length]⟩;show cond (decide ((l.length:Int) < (l.length:Int))) _ _ = _;rw [decide_eq_false (by omega)];rfl) [] rfl
 unfold YZ;rw [show (([]:List DT),(0:Int)) = (([]:List DT),((0:Nat):Int)) from rfl,e,zA,h]
 rfl

def rankB (l:List EV):Bool:=l.all fun e=>e.kills.all fun d=>!decide (e.dot.n <= d.n)
theorem yZa (l:List EV) (hl:l.length <= 1000000) (hk:∀ e ∈ l,e.kills.length <= 1000000):ZN l = pure (rankB l):=by
 unfold ZN;have:=yk (body:=YS l) l (fun i=>(i:Int)) (fun _ e=>e.kills.all fun d=>!decide (e.dot.n <= d.n)) (Ex.brk ()) (Ex.ret false) (fun i e he hi=>by
  have hkl:=hk e (List.mem_of_getElem? he);have h2:=yk (body:=wh l (i:Int)) e.kills (fun k=>(k:Int)) (fun _ d=>!decide (e.dot.n <= d.n)) (Ex.brk ()) (Ex.ret (.done (.ret false))) (fun k d hd hk2=>by
   unfold wh;simp only [zF he,zA,show decide ((k:Int) < (e.kills.length:Int)) = true by simpa using hk2,cond_true,zF hd,zh (show k < 9223372036854775807 by omega)]
   cases decide (e.dot.n <= d.n) <;> rfl) (by
   unfold wh;simp only [zF he,zA,show decide ((e.kills.length:Int) < (e.kills.length:Int)) = false by simp,cond_false])
  show cond (decide ((i:Int) < (l.length:Int))) _ _ = _;rw [decide_eq_true (by omega),cond_true,show (0:Int) = ((0:Nat):Int) from rfl,h2,zA,XC e.kills fun d=>!decide (e.dot.n <= d.n),zh (by omega)]
  cases e.kills.all fun d=>!decide (e.dot.n <= d.n) <;> rfl) (by
  show cond (decide ((l.length:Int) < (l.length:Int))) _ _ = _;rw [decide_eq_false (by omega)];rfl)
 rw [show (0:Int) = ((0:Nat):Int) from rfl,this,zA,XC l fun e=>e.kills.all fun d=>!decide (e.dot.n <= d.n)];unfold rankB
 cases l.all fun e=>e.kills.all fun d=>!decide (e.dot.n <= d.n) <;> rfl
def yaa (l:List EV):Bool:=l.all fun e=>l.all fun f=>!xH e.kills f.dot || (decide (f.kind = 1) && f.kills.all fun d=>xH e.kills d)
theorem yba (l:List EV) (hl:l.length <= 1000000) (hk:∀ e ∈ l,e.kills.length <= 1000000):Zb l = pure (yaa l):=by
 unfold Zb;have hH:∀ (a:List DT) (d:DT),a.length <= 1000000 -> wI a d = pure (xH a d):=fun a d h=>E.vo a d (by omega)
 have:=yk (body:=Yb l) l (fun i=>(i:Int)) (fun _ e=>l.all fun f=>!xH e.kills f.dot || (decide (f.kind = 1) && f.kills.all fun d=>xH e.kills d)) (Ex.brk ()) (Ex.ret false) (fun i e he hi=>by
  have hke:=hk e (List.mem_of_getElem? he);have h2:=yk (body:=Ya l (i:Int)) l (fun k=>(k:Int)) (fun _ f=>!xH e.kills f.dot || (decide (f.kind = 1) && f.kills.all fun d=>xH e.kills d)) (Ex.brk ()) (Ex.ret (.done (.ret false))) (fun k f hf hk2=>by
   have hkf:=hk f (List.mem_of_getElem? hf);have h3:=yk (body:=wk l (k:Int) (i:Int)) f.kills (fun j=>(j:Int)) (fun _ d=>xH e.kills d) (Ex.brk ()) (Ex.ret (.done (.ret (.done (.ret false))))) (fun j d hd hj=>by
    unfold wk;simp only [zF hf,zF he,zA,show decide ((j:Int) < (f.kills.length:Int)) = true by simpa using hj,cond_true,zF hd,hH _ _ hke,zB,zh (show j < 9223372036854775807 by omega)]
    cases xH e.kills d <;> rfl) (by
    unfold wk;simp only [zF hf,zA,show decide ((f.kills.length:Int) < (f.kills.length:Int)) = false by simp,cond_false])
   show cond (decide ((k:Int) < (l.length:Int))) _ _ = _;rw [decide_eq_true (by omega),cond_true,zF he,zA,zF hf,zA,hH _ _ hke,zB,zA,zh (by omega)]
   cases xH e.kills f.dot with
   | false=>rfl
   | true=>
    rw [Bool.not_true,cond_false,zA]
    by_cases h1:f.kind = 1
    ·rw [decide_eq_true h1,Bool.not_true,cond_false,show (0:Int) = ((0:Nat):Int) from rfl,h3,zA,XC f.kills fun d=>xH e.kills d]
     cases f.kills.all fun d=>xH e.kills d <;> rfl
    ·rw [decide_eq_false h1];rfl) (by
   show cond (decide ((l.length:Int) < (l.length:Int))) _ _ = _;rw [decide_eq_false (by omega)];rfl)
  show cond (decide ((i:Int) < (l.length:Int))) _ _ = _;rw [decide_eq_true (by omega),cond_true,show (0:Int) = ((0:Nat):Int) from rfl,h2,zA,XC l fun f=>!xH e.kills f.dot || (decide (f.kind = 1) && f.kills.all fun d=>xH e.kills d),zh (by omega)]
  cases l.all fun f=>!xH e.kills f.dot || (decide (f.kind = 1) && f.kills.all fun d=>xH e.kills d) <;> rfl) (by
  show cond (decide ((l.length:Int) < (l.length:Int))) _ _ = _;rw [decide_eq_false (by omega)];rfl)
 rw [show (0:Int) = ((0:Nat):Int) from rfl,this,zA,XC l fun e=>l.all fun f=>!xH e.kills f.dot || (decide (f.kind = 1) && f.kills.all fun d=>xH e.kills d)];unfold yaa
 cases l.all fun e=>l.all fun f=>!xH e.kills f.dot || (decide (f.kind = 1) && f.kills.all fun d=>xH e.kills d) <;> rfl
theorem clo_of {l:List EV} (h:yaa l = true):Clo l:=fun e he f hf hd=>by
 unfold yaa at h;have h1:=List.all_eq_true.1 (List.all_eq_true.1 h e he) f hf;rw [vC.2 hd,Bool.not_true,Bool.false_or,Bool.and_eq_true,decide_eq_true_eq,List.all_eq_true] at h1;exact ⟨h1.1,fun d hd=>vC.1 (h1.2 d hd)⟩

open E (OkE zy yx)
open F (xH zm zn)

structure InK (K:List DT) (n:Nat) (v:List EV):Prop where
 srt:yx v
 len:v.length = n
 ok:∀ e ∈ v,OkE e
 kl:∀ e ∈ v,e.kills.length <= 4000
 sub:∀ e ∈ v,∀ d ∈ e.kills,d ∈ K
theorem srt_set {v:List EV} (hs:yx v) {i:Nat} {x y:EV} (hx:v[i]? = some x) (hd:y.dot = x.dot):yx (v.set i y):=by
 have h1:(v.map (·.dot)).Pairwise fun a b=>zJ a b = true:=List.pairwise_map.2 hs
 have h2:(v.set i y).map (·.dot) = v.map (·.dot):=by
  rw [List.map_set];refine List.ext_getElem? fun j=>?_
  rw [List.getElem?_set]
  by_cases hij:i = j
  ·subst hij;rw [if_pos rfl,List.getElem?_map,hx,List.length_map,if_pos (List.getElem?_eq_some_iff.1 hx).1,hd];rfl
  ·rw [if_neg hij]
 exact List.pairwise_map.1 (by rw [h2];exact h1)
theorem jo : ∀ {l:List DT},D.Srt l -> l.Nodup
 | [],_=>List.nodup_nil
 | x :: r,h=>by
  obtain ⟨h1,h2⟩:=List.pairwise_cons.1 h;exact List.nodup_cons.2 ⟨fun hx=>absurd (h1 x hx) (by rw [D.ZC];simp),jo h2⟩
theorem Qi {K:List DT} {n:Nat} (hK:K.length <= 4000) (hKo:∀ d ∈ K,D.OkD d) {v:List EV} (hv:InK K n v) {i k:Nat} (hi:i < n) (hk:k < n) :
  ∃ v',(M.bind (M.idx v (i:Int)) fun x191=>
  M.bind (M.idx v (k:Int)) fun x193=>
  M.bind (M.det (wI x191.kills x193.dot)) fun v195=>
  cond v195
   (M.bind (M.idx v (i:Int)) fun x198=>
   M.yY ((List.length ([]:List DT) + x198.kills.length) * 16 <= 140737488355328) <|
   M.bind (M.idx v (k:Int)) fun x201=>
   M.yY ((List.length (([]:List DT) ++ x198.kills) + x201.kills.length) * 16 <= 140737488355328) <|
   M.bind (M.det (YZ (((([]:List DT) ++ x198.kills) ++ x201.kills)))) fun v204=>
   M.bind (M.idx v (i:Int)) fun x206=>
   M.pure (List.set v (Int.toNat (i:Int)) (⟨x206.dot,x206.kind,x206.cid,x206.field,x206.text,v204⟩:EV)))
   (M.pure v):M (List EV)) = pure v' /\ InK K n v':=by
 have hx:=List.getElem?_eq_getElem (show i < v.length by rw [hv.len];exact hi);have hy:=List.getElem?_eq_getElem (show k < v.length by rw [hv.len];exact hk)
 generalize v[i]'(by rw [hv.len];exact hi) = x at hx
 generalize v[k]'(by rw [hv.len];exact hk) = y at hy
 have mx:=List.mem_of_getElem? hx;have my:=List.mem_of_getElem? hy;have lx:=hv.kl x mx;have ly:=hv.kl y my;rw [zF hx,zA,zF hy,zA,show wI x.kills y.dot = pure (xH x.kills y.dot) from E.vo _ _ (by omega),zB,zA]
 cases xH x.kills y.dot with
 | false=>exact ⟨v,rfl,hv⟩
 | true=>
  rw [cond_true,zA,zE (by simp;omega),zA,zE (by simp;omega),List.nil_append,yYa _ (by simp;omega),zB,zA,zA];refine ⟨List.set v i ⟨x.dot,x.kind,x.cid,x.field,x.text,D.vp (x.kills ++ y.kills)⟩,rfl,?_⟩;have hsub:∀ d ∈ D.vp (x.kills ++ y.kills),d ∈ K:=fun d hd=>by
   rcases List.mem_append.1 (D.Yz.1 hd) with h | h
   ·exact hv.sub x mx d h
   ·exact hv.sub y my d h
  have hln:(D.vp (x.kills ++ y.kills)).length <= 4000:=Nat.le_trans (List.Nodup.length_le_of_subset (jo (D.qh _)) hsub) hK;have hox:=hv.ok x mx;have hmem:∀ e ∈ List.set v i (⟨x.dot,x.kind,x.cid,x.field,x.text,D.vp (x.kills ++ y.kills)⟩:EV),e ∈ v \/ e = ⟨x.dot,x.kind,x.cid,x.field,x.text,D.vp (x.kills ++ y.kills)⟩:=fun e he=>List.mem_or_eq_of_mem_set he
  refine ⟨srt_set hv.srt hx rfl,by rw [List.length_set];exact hv.len,fun e he=>?_,fun e he=>?_,fun e he d hd=>?_⟩
  ·rcases hmem e he with h | rfl
   ·exact hv.ok e h
   ·exact ⟨hox.dot,hox.kind,hox.cid,hox.field,hox.text,fun d hd=>hKo d (hsub d hd),by show (D.vp (x.kills ++ y.kills)).length <= _;omega⟩
  ·rcases hmem e he with h | rfl
   ·exact hv.kl e h
   ·exact hln
  ·rcases hmem e he with h | rfl
   ·exact hv.sub e h d hd
   ·exact hsub d hd
theorem Qj {K:List DT} (hK:K.length <= 4000) (hKo:∀ d ∈ K,D.OkD d) (s:List EV) (hn:s.length <= 1000) (hs:InK K s.length s):∃ v,loop wO (0,s) = pure v /\ InK K s.length v:=by
 refine yWa (body:=wO) s (fun i (t:List EV)=>((i:Int),t)) (fun _ t=>InK K s.length t) (InK K s.length) (fun i _ t _ hi ht=>?_) (fun t ht=>?_) s hs
 ·obtain ⟨t',e,h⟩:=yWa (body:=ue (i:Int)) s (fun k (t:List EV)=>((k:Int),t)) (fun _ t=>InK K s.length t) (InK K s.length) (fun k _ u _ hk hu=>by
   obtain ⟨u',e,h⟩:=Qi hK hKo hu hi hk;refine ⟨u',?_,h⟩;show cond (decide ((k:Int) < (u.length:Int))) _ _ = _;rw [decide_eq_true (by rw [hu.len];omega),cond_true,e,zA,zh (by omega)]) (fun u hu=>by
   refine ⟨u,?_,hu⟩;show cond (decide ((s.length:Int) < (u.length:Int))) _ _ = _;rw [decide_eq_false (by rw [hu.len];omega)];rfl) t ht
  refine ⟨t',?_,h⟩;show cond (decide ((i:Int) < (t.length:Int))) _ _ = _;rw [decide_eq_true (by rw [ht.len];omega),cond_true,show (0:Int) = ((0:Nat):Int) from rfl,e,zA,zh (by omega)]
 ·refine ⟨t,?_,ht⟩;show cond (decide ((s.length:Int) < (t.length:Int))) _ _ = _;rw [decide_eq_false (by rw [ht.len];omega)];rfl

def yn (n f i:Nat):Nat:=(n - 1 - i + f) % n
def ysE (l:List EV) (f i:Nat):List EV:=(List.range i).filterMap fun t=>l[yn l.length f t]?
theorem ysE_mem (l:List EV) (f:Nat) (x:EV):x ∈ ysE l f l.length ↔ x ∈ l:=by
 unfold ysE;rw [List.mem_filterMap]
 constructor
 ·rintro ⟨i,_,h⟩;exact List.mem_of_getElem? h
 ·intro hn;obtain ⟨j,hj,rfl⟩:=List.getElem_of_mem hn;refine ⟨(l.length - 1 + f + l.length - j) % l.length,List.mem_range.2 (Nat.mod_lt _ (by omega)),?_⟩;have e:yn l.length f ((l.length - 1 + f + l.length - j) % l.length) = j:=by
   unfold yn;clear hn
   generalize l.length = N at hj
   have h0:0 < N:=by omega
   generalize hK:N - 1 + f + N - j = K
   have hm:=Nat.mod_add_div K N;have hlt:=Nat.mod_lt K h0
   generalize K % N = r at hm hlt
   have h1:N - 1 - r + f + N = j + N * (K / N):=by omega
   have h2:(N - 1 - r + f + N) % N = j:=by
    rw [h1,Nat.add_mul_mod_self_left,Nat.mod_eq_of_lt hj]
   rwa [Nat.add_mod_right] at h2
  rw [e,List.getElem?_eq_getElem hj]
theorem ysE_succ {l:List EV} {f i:Nat} {y:EV} (h:l[yn l.length f i]? = some y):ysE l f (i + 1) = ysE l f i ++ [y]:=by
 unfold ysE;rw [List.range_succ,List.filterMap_append];simp [h]
theorem ysE_sub (l:List EV) (f i:Nat):∀ x ∈ ysE l f i,x ∈ l:=fun x hx=>by
 obtain ⟨_,_,h⟩:=List.mem_filterMap.1 hx;exact List.mem_of_getElem? h
abbrev Bk:=List PT × Bool × List (DT × EV) × Bool × List (DT × EV)
def At (n:Nat) (P:List EV) (t:Bk):Prop:=∃ W xc L,Rep n W t.1 xc t.2.2.2.1 t.2.2.2.2 t.2.1 t.2.2.1 L /\ Past P W L
theorem at_put {s P:List EV} {n:Nat} {t:Bk} (hs:yx s) (hc:Clo s) (hP:∀ x ∈ P,x ∈ s) (hn:n <= 1000000) (h:At n P t) {e:EV} (he:e ∈ s) (oe:OkE e) :
  ∃ k t',zP e t.1 t.2.2.2.1 t.2.2.2.2 t.2.1 t.2.2.1 = pure (k,t'.1,t'.2.2.2.1,t'.2.2.2.2,t'.2.1,t'.2.2.1) /\ At (n + 600) (P ++ [e]) t':=by
 obtain ⟨W,xc,L,hR,hp⟩:=h;obtain ⟨k,c',xc',a,p,b,q,e1,_,hR',_⟩:=hR.putS (by omega) oe;exact ⟨k,(c',b,q,a,p),e1,_,_,_,hR',yUa hs hc hP hp he⟩
theorem two_loop {v:List EV} (hs:yx v) (hc:Clo v) (ho:∀ e ∈ v,OkE e) (hl:v.length <= 1000) {f:Int} (hf:0 <= f /\ f <= 255) :
  ∃ r:List PT × Bool × List (DT × EV) × Bool × List (DT × EV) × List PT × Bool × List (DT × EV) × Bool × List (DT × EV),loop (wP v f) (0,[],true,[],true,[],[],true,[],true,[]) = pure r /\
   At (600 * v.length) v (r.2.2.2.2.2.1,r.2.2.2.2.2.2.1,r.2.2.2.2.2.2.2.1,r.2.2.2.2.2.2.2.2.1,r.2.2.2.2.2.2.2.2.2) /\ At (600 * v.length) (ysE v f.toNat v.length) (r.1,r.2.1,r.2.2.1,r.2.2.2.1,r.2.2.2.2.1):=by
 obtain ⟨r,e,h1,h2⟩:=yWa (body:=wP v f) v (fun i (t:Bk × Bk)=>((i:Int),t.1.1,t.1.2.1,t.1.2.2.1,t.1.2.2.2.1,t.1.2.2.2.2,t.2.1,t.2.2.1,t.2.2.2.1,t.2.2.2.2.1,t.2.2.2.2.2))
  (fun i t=>At (600 * i) (v.take i) t.2 /\ At (600 * i) (ysE v f.toNat i) t.1) (fun r=>At (600 * v.length) v (r.2.2.2.2.2.1,r.2.2.2.2.2.2.1,r.2.2.2.2.2.2.2.1,r.2.2.2.2.2.2.2.2.1,r.2.2.2.2.2.2.2.2.2) /\ At (600 * v.length) (ysE v f.toNat v.length) (r.1,r.2.1,r.2.2.1,r.2.2.2.1,r.2.2.2.2.1)) (fun i x t hx hi ⟨ha,hb⟩=>by
   have hy:=List.getElem?_eq_getElem (show yn v.length f.toNat i < v.length from Nat.mod_lt _ (by omega))
   generalize v[yn v.length f.toNat i]'(Nat.mod_lt _ (by omega)) = y at hy
   have mx:=List.mem_of_getElem? hx;have my:=List.mem_of_getElem? hy;obtain ⟨ka,ta,ea,pa⟩:=at_put hs hc (fun z hz=>List.mem_of_mem_take hz) (by omega) ha mx (ho x mx);obtain ⟨kb,tb,eb,pb⟩:=at_put hs hc (ysE_sub v f.toNat i) (by omega) hb my (ho y my);have ei:Int.tmod (IntKind.i64.wrap (IntKind.i64.wrap (IntKind.i64.wrap ((v.length:Int) - 1) - i) + IntKind.i64.wrap f)) (v.length:Int) = ((yn v.length f.toNat i:Nat):Int):=by
    rw [Xh (n:=(v.length:Int) - 1) (by omega) (by omega),Xh (n:=f) (by omega) (by omega),Xh (n:=(v.length:Int) - 1 - i) (by omega) (by omega),Xh (by omega) (by omega)];have:(v.length:Int) - 1 - i + f = ((v.length - 1 - i + f.toNat:Nat):Int):=by omega
    rw [this]
    rfl
   refine ⟨(tb,ta),?_,?_,?_⟩
   ·show cond (decide ((i:Int) < (v.length:Int))) _ _ = _;rw [decide_eq_true (by omega),cond_true,zF hx,zA,ea,zB,zA,zE (by omega),ei,zF hy,zA,eb,zB,zA,zh (by omega)]
   ·rw [List.take_add_one,hx];exact pa
   ·rw [ysE_succ hy];exact pb) (fun t ⟨ha,hb⟩=>by
   refine ⟨(t.1.1,t.1.2.1,t.1.2.2.1,t.1.2.2.2.1,t.1.2.2.2.2,t.2.1,t.2.2.1,t.2.2.2.1,t.2.2.2.2.1,t.2.2.2.2.2),?_,?_,hb⟩
   ·show cond (decide ((v.length:Int) < (v.length:Int))) _ _ = _;rw [decide_eq_false (by omega)];rfl
   ·rw [List.take_length] at ha;exact ha) (([],true,[],true,[]),([],true,[],true,[])) ⟨⟨[],[],[],Rep.new,qw⟩,⟨[],[],[],Rep.new,qw⟩⟩
 exact ⟨r,e,h1,h2⟩

open E (OkE zy yx)
open F (xH zm zn)

theorem yca {P:List EV} {n:Nat} {t:Bk} (hn:n <= 1000000) (h:At n P t) {e:EV} (he:e ∈ P) (oe:OkE e) (g:zy e = true) :
  zP e t.1 t.2.2.2.1 t.2.2.2.2 t.2.1 t.2.2.1 = pure (7,t.1,t.2.2.2.1,t.2.2.2.2,t.2.1,t.2.2.1):=by
 obtain ⟨W,xc,L,hR,hp⟩:=h;have hc:C.vA W e.dot.dev e.dot.n = true:=(hp.has _ _).2 ⟨e,he,g,VI.2 ⟨e.dot,.inl rfl,(jm g).1,rfl,rfl⟩⟩;unfold zP;rw [E.XY oe,zB,zA,g,Bool.not_true,cond_false,hR.has (by omega),zB,zA,hc]
 rfl
theorem Qk {v:List EV} {n:Nat} {t:Bk} (hn:n <= 1000000) (hl:v.length <= 1000) (h:At n v t) (ho:∀ e ∈ v,OkE e) :
  loop (wV v) (0,t.1,t.2.1,t.2.2.1,t.2.2.2.1,t.2.2.2.2) = pure (Ex.brk t):=by
 have:=yk (body:=wV v) v (fun i=>((i:Int),t.1,t.2.1,t.2.2.1,t.2.2.2.1,t.2.2.2.2)) (fun _ _=>true) (Ex.brk t) (Ex.ret false) (fun i x hx hi=>by
  have mx:=List.mem_of_getElem? hx;show cond (decide ((i:Int) < (v.length:Int))) _ _ = _;rw [decide_eq_true (by omega),cond_true,zF hx,zA,E.XA (ho x mx),zB,zA]
  cases g:zy x with
  | false=>rw [cond_false,zA,zh (by omega)];rfl
  | true=>
   rw [cond_true,zA,yca hn h mx (ho x mx) g,zB,zA,zA,zh (by omega)]
   rfl) (by
  show cond (decide ((v.length:Int) < (v.length:Int))) _ _ = _;rw [decide_eq_false (by omega)];rfl)
 rw [show (0:Int) = ((0:Nat):Int) from rfl,this,if_pos (by rw [List.all_eq_true];exact fun _ _=>rfl)]
theorem jp (l:List EV) (f:Int) (ho:∀ e ∈ l,e.kills.length <= 300 /\ e.text.size <= 200 -> OkE e) (hf:0 <= f /\ f <= 255):wn l f = pure true:=by
 unfold wn;have hfew:=E.rFew_eq l 12 (by omega);rw [show ((12:Nat):Int) = 12 from rfl] at hfew;rw [hfew,zB,zA,works18]
 cases g1:E.fewE l 12 with
 | false=>simp only [Bool.not_false,cond_true,zA,zB]
 | true=>
 obtain ⟨hl,hk⟩:=E.few_mem g1;have hok:∀ e ∈ l,OkE e:=fun e he=>ho e he (hk e he)
 simp only [Bool.not_true,cond_false];rw [yZa l (by omega) (fun e he=>by have:=(hk e he).1;omega),zB,zA]
 cases rankB l with
 | false=>simp only [Bool.not_false,cond_true,zA,zB]
 | true=>
 obtain ⟨s,e1,hs,hsub,hsl⟩:=sort_ev l (by omega);have hKq:∀ q:List EV,(∀ e ∈ q,e.kills.length <= 300) -> (q.flatMap fun e=>e.kills).length <= 300 * q.length:=by
  intro q
  induction q with
  | nil=>intro _;simp
  | cons x r ih=>
   intro h;have h1:=ih fun e he=>h e (List.mem_cons_of_mem _ he)
   have h2:=h x List.mem_cons_self;rw [List.flatMap_cons,List.length_append,List.length_cons];omega
 have hKl:=hKq l fun e he=>(hk e he).1
 have hK0:InK (l.flatMap fun e=>e.kills) s.length s:=⟨hs,rfl,fun e he=>hok e (hsub e he),fun e he=>by have:=(hk e (hsub e he)).1;omega,fun e he d hd=>List.mem_flatMap.2 ⟨e,hsub e he,hd⟩⟩
 obtain ⟨v,e2,hv⟩:=Qj (K:=l.flatMap fun e=>e.kills) (by omega) (fun d hd=>by
  obtain ⟨e,he,hd⟩:=List.mem_flatMap.1 hd;exact (hok e he).kills d hd) s (by omega) hK0
 have hvl:=hv.len;simp only [Bool.not_true,cond_false,zA];rw [e1,zB,zA,e2,zA,yba v (by omega) (fun e he=>by have:=hv.kl e he;omega),zB,zA]
 cases g2:yaa v with
 | false=>simp only [Bool.not_false,cond_true,zA,zB]
 | true=>
 obtain ⟨r,e3,ha,hb⟩:=two_loop hv.srt (clo_of g2) hv.ok (by omega) hf;obtain ⟨b1,b2,b3,b4,b5,a1,a2,a3,a4,a5⟩:=r;simp only at ha hb;have e4:=Qk (t:=(a1,a2,a3,a4,a5)) (by omega) (by omega) ha hv.ok;obtain ⟨Wa,xa,La,Ra,Pa⟩:=ha;obtain ⟨Wb,xb,Lb,Rb,Pb⟩:=hb;obtain ⟨hW,hL⟩:=yVa Pa Pb fun x=>(ysE_mem v f.toNat x).symm
 have hwl:=Ra.wl;have hwt:=Ra.wt;have hll:=Ra.ll;have c1:=Ra.Ctx (by omega);have c2:=Rb.Ctx (by omega);have c3:=Ra.Live (by omega);have c4:=Rb.Live (by omega);have on:=(WK (W:=Wa) (by omega) (by omega)).sm;have hlv:=WL La;have c5:=E.rAll_eq (yt La) (yt La) (by omega) (fun e he=>by have:=Ra.kl e (yf.1 he).1;omega);have c6:=C.rEq_sm (C.yI Wa) (C.yI Wa) on;rw [<- hW] at c2;rw [<- hL] at c4;simp only at c1 c2 c3 c4 e4;simp only [Bool.not_true,cond_false];rw [show vG = pure ([],true,[],true,[]) from rfl,zB,zA,zA];simp only;rw [e3,zA];simp only;rw [c1,zB,zA,c2,zB,zA,c6,zB,zA,decide_eq_true rfl,Bool.not_true,cond_false,c3,zB,zA,c4,zB,zA,c5,zB,zA,decide_eq_true rfl,Bool.not_true,zA,cond_false,e4,zA,YB];simp only;rw [c3,zB,zA,zB,zA,c5,zB,zA,decide_eq_true rfl,cond_true,zA,zA]
end Go.Ep.M.G

namespace Go.Ep
open Go.RowKit Go.ChangeShapes Go.WideShapes

abbrev All : Nat -> Prop:=fun _=>True

mutual
def Vq {H:Type}:DataW H -> Nat
 | .lit (.string bytes)=>bytes.length + 1
 | .lit _=>1
 | .nil=>1
 | .ptr d=>Vq d + 1
 | .slice elems spare=>xj elems + xj spare + 1
 | .agg parts=>xj parts + 1
 | .iface _ d=>Vq d + 1
 | .map entries=>VJ entries + 1
 | .held _=>1
def xj {H:Type}:List (DataW H) -> Nat
 | []=>0
 | d :: r=>Vq d + xj r
def VJ {H:Type}:List (Lit × DataW H) -> Nat
 | []=>0
 | x :: r=>yda x + VJ r
def yda {H:Type}:Lit × DataW H -> Nat
 | (.string bytes,d)=>bytes.length + Vq d + 1
 | (_,d)=>Vq d + 1
end
theorem qx {H:Type} (d:DataW H):1 <= Vq d:=by
 cases d with
 | lit l=>cases l <;> simp [Vq]
 | nil=>simp [Vq]
 | ptr d=>simp [Vq]
 | slice elems spare=>simp [Vq]
 | agg parts=>simp [Vq]
 | iface t d=>simp [Vq]
 | map entries=>simp [Vq]
 | held h=>simp [Vq]
theorem Jo {H:Type} (l r:List (DataW H)):xj (l ++ r) = xj l + xj r:=by
 induction l with
 | nil=>simp [xj]
 | cons x l ih=>simp only [List.cons_append,xj,ih];omega
def szL {α:Type} (sz:α -> Nat):List α -> Nat
 | []=>0
 | a :: r=>sz a + szL sz r
theorem szL_app {α:Type} (sz:α -> Nat) (l r:List α):szL sz (l ++ r) = szL sz l + szL sz r:=by
 induction l with
 | nil=>simp [szL]
 | cons x l ih=>simp only [List.cons_append,szL,ih];omega
structure Opn (P:Program) (t:TypeId) (k:Nat) {α:Type} (enc:α -> List DV) (ok:α -> Prop) (sz:α -> Nat):Prop where
 cells:P.cellsOf t = k
 op:∀ {H:Type} {en:TypeId × Value -> H} {w:World} {fuel:Nat} {cs:List Value} {x:DataW H × List MemPlace},DataW.trod en P w 0 (fun _=>true) true fuel t cs = some x ->
  ∃ a,ok a /\ cs.length = k /\ (enc a).length = k /\ (∀ (j:Nat) (y:DV) (u:Value),(enc a)[j]? = some y -> cs[j]? = some u -> DRd w All y u) /\ sz a <= Vq x.1

section
variable {P:Program} {t:TypeId}

theorem Opn.map {k:Nat} {α β:Type} {enc:α -> List DV} {enc':β -> List DV} {ok:α -> Prop} {ok':β -> Prop} {sz:α -> Nat} {sz':β -> Nat} (h:Opn P t k enc ok sz) (f:α -> β) (he:∀ a,ok a -> enc' (f a) = enc a) (ho:∀ a,ok a -> ok' (f a)) (hz:∀ a,sz' (f a) <= sz a):Opn P t k enc' ok' sz':=
 ⟨h.cells,fun hx=>let ⟨a,h1,h2,h3,h4,h5⟩:=h.op hx;⟨f a,ho a h1,h2,by rw [he a h1];exact h3,by rw [he a h1];exact h4,Nat.le_trans (hz a) h5⟩⟩

theorem Uw {w:World} {y:DV} {u:Value} (h:DRd w All y u):∀ (j:Nat) (y':DV) (u':Value),[y][j]? = some y' -> [u][j]? = some u' -> DRd w All y' u':=by
 intro j y' u' h1 h2
 cases j with
 | zero=>simp at h1 h2;subst h1;subst h2;exact h
 | succ j=>simp at h1

def okK (k:IntKind) (n:Int):Prop:=(Lit.int k n).wf = true
theorem Opn.int {k:IntKind} (hu:P.underlying t = some (.int k)) (hc:P.cellsOf t = 1):Opn P t 1 (eK k) (okK k) (fun _=>1):=by
 refine ⟨hc,fun {H en w fuel cs x} h=>?_⟩
 cases fuel with
 | zero=>simp [DataW.trod] at h
 | succ fuel=>
  unfold DataW.trod at h;rw [hu] at h
  split at h <;> simp_all
  case h_2 n _=>
   obtain ⟨⟨h1,h2⟩,_⟩:=h;subst h1;refine ⟨n,h2,rfl,?_,qx _⟩;intro j y u h1 h3;exact Uw (.v _ rfl) j y u h1 h3
theorem okU64 {n:Int} (h:okK .u64 n):0 <= n /\ n < 18446744073709551616:=by
 simp [okK,Lit.wf,IntKind.min,IntKind.max,IntKind.signed,IntKind.bits] at h;omega
theorem okU16 {n:Int} (h:okK .u16 n):0 <= n /\ n < 65536:=by
 simp [okK,Lit.wf,IntKind.min,IntKind.max,IntKind.signed,IntKind.bits] at h;omega
theorem okU8 {n:Int} (h:okK .u8 n):0 <= n /\ n < 256:=by
 simp [okK,Lit.wf,IntKind.min,IntKind.max,IntKind.signed,IntKind.bits] at h;omega
theorem Opn.str (hu:P.underlying t = some .string) (hc:P.cellsOf t = 1):Opn P t 1 eS (fun s=>s.size <= 9223372036854775807) (fun s=>s.size + 1):=by
 refine ⟨hc,fun {H en w fuel cs x} h=>?_⟩
 cases fuel with
 | zero=>simp [DataW.trod] at h
 | succ fuel=>
  unfold DataW.trod at h;rw [hu] at h
  split at h <;> simp_all
  case h_4=>
   rename_i s
   obtain ⟨h1,h2⟩:=h;refine ⟨s,by have:=h1;unfold maxLen at this;exact this,rfl,?_,?_⟩
   ·intro j y u h1 h2;exact Uw (.v _ rfl) j y u h1 h2
   ·subst h2;have e:s.data.toList.length = s.size:=Array.length_toList;show s.size + 1 <= Vq (DataW.lit (Lit.string s.data.toList));unfold Vq;omega

theorem Opn.slice {e:TypeId} {k:Nat} {α:Type} {enc:α -> List DV} {ok:α -> Prop} {sz:α -> Nat} (h:Opn P e k enc ok sz) (hu:P.underlying t = some (.slice e)) (hc:P.cellsOf t = 1) (hk:0 < k) :
  Opn P t 1 (eL enc) (fun l=>l.length <= 9223372036854775807 /\ ∀ a ∈ l,ok a) (fun l=>szL sz l + 1):=by
 refine ⟨hc,fun {H en w fuel cs x} hx=>?_⟩;rcases Deep.open_slice hu hx with ⟨rfl,_⟩ | ⟨a,len,cap,m,n,D,Pl,rfl,_,hl,hm,hmm,hxD,hel⟩
 ·exact ⟨[],⟨Nat.zero_le _,by simp⟩,rfl,rfl,Uw (.nil none 0 (Nat.zero_le _) (fun _=>rfl)),qx _⟩
 simp only [if_true] at hmm;subst hmm;rw [h.cells] at hel;have hcut:∀ n0,n0 <= len -> ∃ l:List α,l.length = n0 /\ (∀ a ∈ l,ok a) /\ szL sz l <= xj ((List.range n0).map D) /\ ∀ (i:Nat) (b:α),l[i]? = some b -> (enc b).length = k /\ ∀ (j:Nat) (y:DV),(enc b)[j]? = some y -> ∃ u,w.cell? (a.add (i * k + j)) = some u /\ DRd w All y u:=by
  intro n0
  induction n0 with
  | zero=>intro _;exact ⟨[],rfl,by simp,by simp [szL],by simp⟩
  | succ n0 ih=>
   intro hn;obtain ⟨l,h1,h2,hz,h3⟩:=ih (by omega);obtain ⟨cs',hc',ht'⟩:=hel n0 (by omega);obtain ⟨b,hb1,hb2,hb3,hb4,hb5⟩:=h.op ht';obtain ⟨_,_,hcell⟩:=World.cells?_some hc';refine ⟨l ++ [b],by simp [h1],?_,by rw [szL_app,List.range_succ,List.map_append,Jo];simp only [szL,List.map_cons,List.map_nil,xj];simp only at hb5;omega,?_⟩
   ·intro a ha;rcases List.mem_append.1 ha with ha | ha
    ·exact h2 a ha
    ·simp at ha;subst ha;exact hb1
   ·intro i b' hi;rw [List.getElem?_append] at hi
    split at hi
    ·exact h3 i b' hi
    ·rename_i hge
     have hi0:i = n0:=by
      have:i - l.length < 1:=by simpa using (List.getElem?_eq_some_iff.1 hi).1
      omega
     subst hi0;simp [h1] at hi;subst hi;refine ⟨hb3,fun j y hy=>?_⟩;have hj:j < k:=by rw [<- hb3];exact (List.getElem?_eq_some_iff.1 hy).1
     have hcj:=hcell j hj;rw [Deep.add_add] at hcj;have hu':cs'[j]? = some (cs'[j]'(by omega)):=List.getElem?_eq_getElem (by omega);exact ⟨_,by rw [hcj,hu'],hb4 j y _ hy hu'⟩
 obtain ⟨l,h1,h2,hz,h3⟩:=hcut len (Nat.le_refl _);refine ⟨l,⟨by unfold maxLen at hm;omega,h2⟩,rfl,rfl,Uw ?_,?_⟩
 rotate_left
 ·rw [hxD];simp only [Vq];omega
 by_cases h0:len = 0
 ·have:l = []:=List.eq_nil_of_length_eq_zero (by omega);subst this;subst h0;exact .nil _ _ hm (fun e=>by cases e)
 ·-- the first cell tells that the address is a plain one
  have hl0:0 < l.length:=by omega
  obtain ⟨hk0,hc0⟩:=h3 0 _ (List.getElem?_eq_getElem hl0);obtain ⟨u0,hu0,_⟩:=hc0 0 _ (List.getElem?_eq_getElem (by omega:0 < (enc l[0]).length));have hspot:a.spot = none:=by simpa [Addr.add] using World.cell?_spot hu0
  obtain ⟨b,off,spot⟩:=a;simp only at hspot;subst hspot;have hb:b < w.heap.size:=by
   rw [Addr.add_lit] at hu0;unfold World.cell? at hu0
   cases hh:w.heap[b]? with
   | none=>simp [hh] at hu0
   | some o=>exact (Array.getElem?_eq_some_iff.1 hh).1
  have hlen:(l.map enc).length = len:=by simp [h1]
  rw [<- hlen];refine .sl _ b off m k (fun i j=>(w.cell? ⟨b,off + (i * k + j),none⟩).getD undef) (by omega) hm trivial hb ?_ ?_ ?_
  ·intro i cs hi;rw [List.getElem?_map] at hi
   cases hx:l[i]? with
   | none=>simp [hx] at hi
   | some y=>simp [hx] at hi;subst hi;exact (h3 i y hx).1
  ·intro i j hi hj;have hil:i < l.length:=by simpa using hi
   obtain ⟨e1,e2⟩:=h3 i _ (List.getElem?_eq_getElem hil);obtain ⟨u,hu,_⟩:=e2 j _ (List.getElem?_eq_getElem (by omega:j < (enc l[i]).length));rw [Addr.add_lit] at hu;simp [hu]
  ·intro i cs j x hi hx;rw [List.getElem?_map] at hi
   cases hy:l[i]? with
   | none=>simp [hy] at hi
   | some y=>
    simp [hy] at hi;subst hi;obtain ⟨u,hu,hd⟩:=(h3 i y hy).2 j x hx;rw [Addr.add_lit] at hu;simpa [hu] using hd

structure OpnF (P:Program) (fs:List Field) (off k:Nat) {α:Type} (enc:α -> List DV) (ok:α -> Prop) (sz:α -> Nat):Prop where
 op:∀ {H:Type} {en:TypeId × Value -> H} {w:World} {n:Nat} {cs:List Value} {xs:List (DataW H × List MemPlace)},xs.length = fs.length ->
  (∀ (i:Nat) (f:Field),fs[i]? = some f -> DataW.trod en P w 0 (fun _=>true) true n f.type ((cs.drop f.offset).take (P.cellsOf f.type)) = xs[i]?) ->
  ∃ a,ok a /\ (enc a).length = k /\ (∀ (j:Nat) (y:DV) (u:Value),(enc a)[j]? = some y -> cs[off + j]? = some u -> DRd w All y u) /\ sz a <= xj (xs.map (·.1))

theorem OpnF.nil (off:Nat):OpnF P [] off 0 (fun _:Unit=>[]) (fun _=>True) (fun _=>0):=⟨fun _ _=>⟨(),trivial,rfl,by simp,Nat.zero_le _⟩⟩
theorem OpnF.cons {f:Field} {fs:List Field} {off k1 k2:Nat} {α β:Type} {e1:α -> List DV} {o1:α -> Prop} {e2:β -> List DV} {o2:β -> Prop} {z1:α -> Nat} {z2:β -> Nat} (h1:Opn P f.type k1 e1 o1 z1) (ho:f.offset = off) (h2:OpnF P fs (off + k1) k2 e2 o2 z2) :
  OpnF P (f :: fs) off (k1 + k2) (fun p:α × β=>e1 p.1 ++ e2 p.2) (fun p=>o1 p.1 /\ o2 p.2) (fun p=>z1 p.1 + z2 p.2):=by
 refine ⟨fun {H en w n cs xs} hlen hx=>?_⟩
 cases xs with
 | nil=>simp at hlen
 | cons x xs=>
  have hx0:=hx 0 f rfl;simp only [List.getElem?_cons_zero] at hx0;obtain ⟨a,ha1,ha2,ha3,ha4,ha5⟩:=h1.op hx0;obtain ⟨b,hb1,hb2,hb3,hb4⟩:=h2.op (xs:=xs) (by simpa using hlen) (fun i f' hf=>by have:=hx (i + 1) f' (by simpa using hf);simpa using this);refine ⟨(a,b),⟨ha1,hb1⟩,by simp [ha3,hb2],?_,by simp only [List.map_cons,xj];omega⟩;intro j y u hy hu;simp only [List.getElem?_append] at hy
  by_cases hj:j < k1
  ·rw [if_pos (by omega)] at hy;refine ha4 j y u hy ?_;rw [List.getElem?_take,h1.cells,if_pos hj,List.getElem?_drop,ho];exact hu
  ·rw [if_neg (by omega),ha3] at hy;refine hb3 (j - k1) y u hy ?_;rw [<- hu]
   congr 1
   omega
theorem Opn.struct {fs:List Field} {k:Nat} {α:Type} {enc:α -> List DV} {ok:α -> Prop} {sz:α -> Nat} (hu:P.underlying t = some (.struct fs.toArray)) (hc:P.cellsOf t = k) (h:OpnF P fs 0 k enc ok sz):Opn P t k enc ok (fun a=>sz a + 1):=by
 refine ⟨hc,fun {H en w fuel cs x} hx=>?_⟩;obtain ⟨xs,n,_,hxe,hlen,hxl,hf⟩:=DataW.trod_struct hu hx;obtain ⟨a,h1,h2,h3,h4⟩:=h.op (cs:=cs) (xs:=xs) (by simpa using hxl) (fun i f hi=>hf i f (by simpa using hi));exact ⟨a,h1,by rw [hlen,hc],h2,fun j y u hy hu=>h3 j y u hy (by simpa using hu),by rw [hxe];simp only [Vq];omega⟩

theorem Opn.arg {H:Type} {en:TypeId × Value -> H} {w:World} {v:Value} {d:DataW H} {ps:List MemPlace} {α:Type} {enc:α -> DV} {ok:α -> Prop} {sz:α -> Nat} (h:Opn P t 1 (fun a=>[enc a]) ok sz)
  (hx:DataW.Trod en P w 0 (fun _=>true) true t v d ps) (h1:v.oneCell' = true):∃ a,ok a /\ Rd w g0 All (.d (enc a)) v /\ sz a <= Vq d:=by
 obtain ⟨fuel,hf⟩:=hx;obtain ⟨a,ha,_,_,hr,hz⟩:=h.op hf;have hcs:v.cells.toList = [v]:=by cases v <;> first | rfl | (simp [Value.oneCell'] at h1;done)
 exact ⟨a,ha,.d (hr 0 _ v rfl (by rw [hcs];rfl)),hz⟩
theorem XD {H:Type} {en:TypeId × Value -> H} (hl:laidOutB P = true) {W W':World} (hb:Below W.heap.size W W'):∀ {ts:List TypeId} {vs:List Value} {ds:List (DataW H)} {ps:List MemPlace},
  (∀ t ∈ ts,P.readableRec t = true /\ t < P.types.size) -> DataW.TrodAll en P W 0 (fun _=>true) true ts vs ds ps -> (∀ x ∈ ps,x.block < W.heap.size) -> DataW.TrodAll en P W' 0 (fun b=>decide (b < W.heap.size)) true ts vs ds ps
 | [],[],[],ps,_,h,_=>h
 | t :: ts,v :: vs,d :: ds,ps,hr,h,hlt=>by
  obtain ⟨p,q,h1,h2,rfl⟩:=h;have hrt:=hr t (by simp);exact ⟨p,q,Below.trod hl hrt.1 hrt.2 h1 hb (fun x hx=>hlt x (List.mem_append.2 (.inl hx))),XD hl hb (fun t ht=>hr t (by simp [ht])) h2 (fun x hx=>hlt x (List.mem_append.2 (.inr hx))),rfl⟩
 | [],[],_ :: _,_,_,h,_=>h.elim
 | [],_ :: _,_,_,_,h,_=>h.elim
 | _ :: _,[],_,_,_,h,_=>h.elim
 | _ :: _,_ :: _,[],_,_,h,_=>h.elim
theorem VK {H:Type} {en:TypeId × Value -> H} {w:World} {base:Nat} {sp:Nat -> Bool} {hd:Bool}:∀ {ts:List TypeId} {vs:List Value} {ds:List (DataW H)} {ps:List MemPlace},DataW.TrodAll en P w base sp hd ts vs ds ps -> ds.length = ts.length
 | [],[],[],_,_=>rfl
 | _ :: _,_ :: _,_ :: _,_,h=>by
  obtain ⟨_,_,_,h2,_⟩:=h;simp [VK h2]
 | [],[],_ :: _,_,h=>h.elim
 | [],_ :: _,_,_,h=>h.elim
 | _ :: _,[],_,_,h=>h.elim
 | _ :: _,_ :: _,[],_,h=>h.elim

theorem yea {H:Type} {en:TypeId × Value -> H} {fn:Func} {s:ChangeSpec} {tb:TypeId} {W W':World} {args:Array Value} {ds gs:List (DataW H)} {before:List MemPlace} (hl:laidOutB P = true)
  (hW:DataW.Whole en P fn.params.toList s.vars false W args.toList ds gs before) (hv:s.vars = []) (hs:∀ ds:List (DataW H),ds.length = fn.params.size -> (s.fn H ds).results = [.lit (.bool true)] /\ (s.fn H ds).args = ds /\ (s.fn H ds).vars = [])
  (hres:fn.resultTypes = #[tb]) (htb:P.underlying tb = some .bool) (hr:∀ t ∈ fn.params.toList,P.readableRec t = true /\ t < P.types.size) (hb:Below W.heap.size W W') :
  s.post en P fn false true false false W args (.bool true) W':=by
 have hW':=hW;obtain ⟨p,q,hA,hV,hpq,hfz,hnd⟩:=hW;rw [hv] at hV;obtain ⟨rfl,rfl⟩:=trodVars_none hV;simp only [List.append_nil] at hpq;subst hpq;have hlt:∀ x ∈ before,x.block < W.heap.size:=fun x hx=>by simpa using hW'.lt x hx
 have hlen:ds.length = fn.params.size:=by simpa using VK hA
 obtain ⟨e1,e2,e3⟩:=hs (ds ++ []) (by simpa using hlen);refine ⟨ds,[],before,[],before,[],hW',?_,?_,?_,hb.frame _,fun h=>by cases h⟩
 ·rw [e1,hres];exact trodAll_mk1 (shut_bool htb true)
 ·rw [e2,List.append_nil];exact XD hl hb hr hA hlt
 ·rw [e3,hv];rfl
end
end Go.Ep

namespace Go.Ep
set_option linter.unusedVariables false

def DT.ok (x:DT):Prop:=okK .u16 x.dev /\ okK .u64 x.n
def DT.sz (x:DT):Nat:=(1 + (1 + 0)) + 1
def EV.ok (x:EV):Prop:=DT.ok x.dot /\ okK .u8 x.kind /\ okK .u64 x.cid /\ okK .u8 x.field /\ ByteArray.size x.text <= 9223372036854775807 /\ (x.kills.length <= 9223372036854775807 /\ ∀ a ∈ x.kills,DT.ok a)
def EV.sz (x:EV):Nat:=(DT.sz x.dot + (1 + (1 + (1 + ((ByteArray.size x.text + 1) + ((szL DT.sz x.kills + 1) + 0)))))) + 1
end Go.Ep
namespace Go.Proofs
open Go.Ep
set_option maxRecDepth 100000
theorem opnTDot : Opn Tryz.prog 31 2 DT.e DT.ok DT.sz:=(Opn.struct Tryz.underlying31 (by kernel_rfl) (OpnF.cons (Opn.int Tryz.underlying28 (by kernel_rfl)) rfl (OpnF.cons (Opn.int Tryz.underlying29 (by kernel_rfl)) rfl (OpnF.nil _)))).map (fun p=>⟨p.1,p.2.1⟩) (fun _ _=>rfl) (fun p h=>⟨h.1,h.2.1⟩) (fun _=>Nat.le_refl _)
theorem opnTEvent : Opn Tryz.prog 34 7 EV.e EV.ok EV.sz:=(Opn.struct Tryz.underlying34 (by kernel_rfl) (OpnF.cons opnTDot rfl (OpnF.cons (Opn.int Tryz.underlying5 (by kernel_rfl)) rfl (OpnF.cons (Opn.int Tryz.underlying29 (by kernel_rfl)) rfl (OpnF.cons (Opn.int Tryz.underlying5 (by kernel_rfl)) rfl (OpnF.cons (Opn.str Tryz.underlying9 (by kernel_rfl)) rfl (OpnF.cons (opnTDot.slice Tryz.underlying32 (by kernel_rfl) (by decide)) rfl (OpnF.nil _)))))))).map (fun p=>⟨p.1,p.2.1,p.2.2.1,p.2.2.2.1,p.2.2.2.2.1,p.2.2.2.2.2.1⟩) (fun _ _=>rfl) (fun p h=>⟨h.1,h.2.1,h.2.2.1,h.2.2.2.1,h.2.2.2.2.1,h.2.2.2.2.2.1⟩) (fun _=>Nat.le_refl _)
end Go.Proofs


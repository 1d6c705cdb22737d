/- Texts that the walks and laws lean on, side by side. -/
import Derived.Sort.LotA
import Derived.Sort.LotB
import Derived.Sort.LotC
import Derived.Sort.LotD3
import Derived.Sort.LotD4
import Derived.Test.YthmblgneimcgpaaGreatANi3
import Derived.Test.YthmblgneimcgpaaGreatANi9
set_option linter.unusedVariables false
set_option linter.unusedSimpArgs false
namespace Go.Ep.M.C
open Go

def rawC (c:List TPart) (k:Int):List TRun:=(c.filter fun p=>decide (p.dev = k) && decide (0 < k)).flatMap (·.runs)
theorem rawC_nil (k:Int):rawC [] k = []:=rfl
theorem rawC_cons (p:TPart) (c:List TPart) (k:Int):rawC (p :: c) k = (if p.dev = k ∧ 0 < k then p.runs else []) ++ rawC c k:=by
 unfold rawC;rw [List.filter_cons]
 by_cases h:p.dev = k ∧ 0 < k
 ·simp [h.1,h.2]
 ·rw [if_neg (by simpa using h),if_neg h];rfl
theorem rawC_app (a b:List TPart) (k:Int):rawC (a ++ b) k = rawC a k ++ rawC b k:=by simp [rawC,List.filter_append]
theorem rawC_bad {c:List TPart} {k:Int} (h:¬ 0 < k):rawC c k = []:=by simp [rawC,h]
def hasC (c:List TPart) (k n:Int):Bool:=R.hasR (rawC c k) n
theorem hasC_app (a b:List TPart) (k n:Int):hasC (a ++ b) k n = (hasC a k n || hasC b k n):=by simp [hasC,rawC_app,R.hasR_app]
theorem hasC_nil (k n:Int):hasC [] k n = false:=rfl
def totC (c:List TPart):Nat:=(c.map fun p=>p.runs.length).sum
theorem totC_app (a b:List TPart):totC (a ++ b) = totC a + totC b:=by simp [totC]
theorem rawC_len (c:List TPart) (k:Int):(rawC c k).length ≤ totC c:=by
 induction c with
 | nil=>simp [rawC]
 | cons p r ih=>
  rw [rawC_cons,List.length_append];have:totC (p :: r) = p.runs.length + totC r:=by simp [totC]
  split
  ·omega
  ·simp;omega
theorem sum_zero (ks:List Int):(ks.map fun _=>0).sum = 0:=by
 induction ks with
 | nil=>rfl
 | cons k r ih=>rw [List.map_cons,List.sum_cons,ih]
theorem rawC_sum (c:List TPart) (ks:List Int) (h:ks.Nodup):(ks.map fun k=>(rawC c k).length).sum ≤ totC c:=by
 induction c with
 | nil=>simp only [rawC_nil,List.length_nil,sum_zero];exact Nat.zero_le _
 | cons p r ih=>
  have e:totC (p :: r) = p.runs.length + totC r:=by simp [totC]
  have h1:(ks.map fun k=>(rawC (p :: r) k).length).sum = (ks.map fun k=>if p.dev = k ∧ 0 < k then p.runs.length else 0).sum + (ks.map fun k=>(rawC r k).length).sum:=by
   clear h ih
   induction ks with
   | nil=>rfl
   | cons k ks ih2=>
    simp only [List.map_cons,List.sum_cons,rawC_cons,List.length_append] at ih2 ⊢
    by_cases hc:p.dev = k ∧ 0 < k
    ·rw [if_pos hc,if_pos hc];omega
    ·rw [if_neg hc,if_neg hc,List.length_nil];omega
  have h2:(ks.map fun k=>if p.dev = k ∧ 0 < k then p.runs.length else 0).sum ≤ p.runs.length:=by
   clear ih h1 e
   induction ks with
   | nil=>simp
   | cons k ks ih2=>
    obtain ⟨n1,n2⟩:=List.nodup_cons.1 h;simp only [List.map_cons,List.sum_cons]
    by_cases hk:p.dev = k
    ·have h0:(ks.map fun k=>if p.dev = k ∧ 0 < k then p.runs.length else 0).sum = 0:=by
      have:(ks.map fun k=>if p.dev = k ∧ 0 < k then p.runs.length else 0) = ks.map fun _=>0:=by
       refine List.map_congr_left fun q hq=>?_
       rw [if_neg];rintro ⟨e,_⟩;exact n1 (by rw [← hk,e];exact hq)
      rw [this];exact sum_zero ks
     rw [h0]
     split <;> omega
    ·rw [if_neg (fun h=>hk h.1)];have:=ih2 n2;omega
  omega

def OrdP (l:List TPart):Prop:=l.Pairwise fun x y=>x.dev < y.dev
theorem ordP_ext : ∀ {l l':List TPart},OrdP l → OrdP l' → (∀ d,d ∈ l ↔ d ∈ l') → l = l'
 | [],[],_,_,_=>rfl
 | [],y :: r,_,_,h=>absurd ((h y).2 (by simp)) (by simp)
 | x :: r,[],_,_,h=>absurd ((h x).1 (by simp)) (by simp)
 | x :: r,y :: q,h1,h2,h=>by
  obtain ⟨a1,a2⟩:=List.pairwise_cons.1 h1;obtain ⟨b1,b2⟩:=List.pairwise_cons.1 h2;have e:x = y:=by
   rcases List.mem_cons.1 ((h x).1 (by simp)) with e | hx
   ·exact e
   ·rcases List.mem_cons.1 ((h y).2 (by simp)) with e | hy
    ·exact e.symm
    ·have:=a1 y hy;have:=b1 x hx;omega
  subst e
  congr 1
  refine ordP_ext a2 b2 fun d=>⟨fun hd=>?_,fun hd=>?_⟩
  ·rcases List.mem_cons.1 ((h d).1 (List.mem_cons_of_mem _ hd)) with e | hx
   ·subst e;have:=a1 d hd;omega
   ·exact hx
  ·rcases List.mem_cons.1 ((h d).2 (List.mem_cons_of_mem _ hd)) with e | hx
   ·subst e;have:=b1 d hd;omega
   ·exact hx
def partsOf (f:Int → List TRun) (ks:List Int):List TPart:=ks.filterMap fun k=>if f k = [] then none else some ⟨k,f k⟩
theorem mem_partsOf {f:Int → List TRun} {ks:List Int} {p:TPart}:p ∈ partsOf f ks ↔ p.dev ∈ ks ∧ p.runs ≠ [] ∧ p.runs = f p.dev:=by
 unfold partsOf;rw [List.mem_filterMap]
 constructor
 ·rintro ⟨k,hk,h⟩
  split at h
  ·cases h
  ·rename_i h0;cases h;exact ⟨hk,h0,rfl⟩
 ·rintro ⟨h1,h2,h3⟩;refine ⟨p.dev,h1,?_⟩;rw [if_neg (by rw [← h3];exact h2),← h3]
theorem ord_partsOf {f:Int → List TRun} {ks:List Int} (h:ks.Pairwise (· < ·)):OrdP (partsOf f ks):=by
 unfold OrdP partsOf;rw [List.pairwise_filterMap];refine h.imp fun {a b} hab x hx y hy=>?_
 split at hx
 ·cases hx
 ·split at hy
  ·cases hy
  ·cases hx;cases hy;exact hab
theorem partsOf_ext {f g:Int → List TRun} {ks ls:List Int} (h1:ks.Pairwise (· < ·)) (h2:ls.Pairwise (· < ·)) (hf:∀ k,f k = g k) (h:∀ k,f k ≠ [] → (k ∈ ks ↔ k ∈ ls)):partsOf f ks = partsOf g ls:=by
 refine ordP_ext (ord_partsOf h1) (ord_partsOf h2) fun p=>?_
 rw [mem_partsOf,mem_partsOf]
 constructor
 ·rintro ⟨a,b,c⟩;exact ⟨(h _ (by rw [← c];exact b)).1 a,b,by rw [c,hf]⟩
 ·rintro ⟨a,b,c⟩;exact ⟨(h _ (by rw [hf,← c];exact b)).2 a,b,by rw [c,hf]⟩
theorem len_partsOf (f:Int → List TRun) (ks:List Int):(partsOf f ks).length ≤ ks.length:=List.length_filterMap_le _ _
theorem tot_partsOf (f:Int → List TRun) (ks:List Int):totC (partsOf f ks) = (ks.map fun k=>(f k).length).sum:=by
 induction ks with
 | nil=>rfl
 | cons k ks ih=>
  have:partsOf f (k :: ks) = (if f k = [] then [] else [⟨k,f k⟩]) ++ partsOf f ks:=by
   unfold partsOf
   by_cases h:f k = [] <;> simp [h]
  rw [this,totC_app,ih]
  by_cases h:f k = [] <;> simp [h,totC]
theorem raw_partsOf {f:Int → List TRun} {ks:List Int} (h:ks.Nodup) (k:Int):rawC (partsOf f ks) k = if k ∈ ks ∧ 0 < k then f k else []:=by
 induction ks with
 | nil=>simp [partsOf,rawC]
 | cons q ks ih=>
  obtain ⟨n1,n2⟩:=List.nodup_cons.1 h;have e:partsOf f (q :: ks) = (if f q = [] then [] else [⟨q,f q⟩]) ++ partsOf f ks:=by
   unfold partsOf
   by_cases h:f q = [] <;> simp [h]
  rw [e,rawC_app,ih n2]
  by_cases hq:q = k
  ·subst hq;rw [if_neg (fun (h:q ∈ ks ∧ 0 < q)=>n1 h.1),List.append_nil]
   by_cases h0:f q = []
   ·rw [if_pos h0,h0];simp [rawC]
   ·rw [if_neg h0]
    by_cases hp:0 < q
    ·rw [if_pos ⟨List.mem_cons_self,hp⟩];simp [rawC,hp]
    ·rw [if_neg (fun h=>hp h.2)];exact rawC_bad hp
  ·have:rawC (if f q = [] then [] else [(⟨q,f q⟩:TPart)]) k = []:=by
    by_cases h0:f q = [] <;> simp [h0,rawC,hq]
   rw [this];have hm:(k ∈ q :: ks) ↔ k ∈ ks:=by simp [Ne.symm hq]
   simp only [hm,List.nil_append]

def dstep (l:List Int) (p:TPart):List Int:=if 0 < p.dev then V.insI l p.dev else l
def devsC (c:List TPart):List Int:=c.foldl dstep []
theorem devs_gen (c:List TPart):∀ l:List Int,l.Pairwise (· < ·) → (c.foldl dstep l).Pairwise (· < ·) ∧ (∀ k,k ∈ c.foldl dstep l ↔ k ∈ l ∨ ∃ p ∈ c,p.dev = k ∧ 0 < k) ∧ (c.foldl dstep l).length ≤ l.length + c.length:=by
 induction c with
 | nil=>intro l h;simp [h]
 | cons p r ih=>
  intro l h;rw [List.foldl_cons]
  by_cases hp:0 < p.dev
  ·have e:dstep l p = V.insI l p.dev:=by simp [dstep,hp]
   rw [e];obtain ⟨h1,h2,h3⟩:=ih _ (V.insI_sorted h p.dev);refine ⟨h1,fun k=>?_,by have:=V.len_insI l p.dev;simp;omega⟩;rw [h2,V.mem_insI]
   constructor
   ·rintro ((rfl | h4) | ⟨x,h4,h5⟩)
    ·exact .inr ⟨p,by simp,rfl,hp⟩
    ·exact .inl h4
    ·exact .inr ⟨x,by simp [h4],h5⟩
   ·rintro (h4 | ⟨x,h4,h5,h6⟩)
    ·exact .inl (.inr h4)
    ·rcases List.mem_cons.1 h4 with rfl | h4
     ·exact .inl (.inl h5.symm)
     ·exact .inr ⟨x,h4,h5,h6⟩
  ·have e:dstep l p = l:=by simp [dstep,hp]
   rw [e];obtain ⟨h1,h2,h3⟩:=ih _ h;refine ⟨h1,fun k=>?_,by simp;omega⟩;rw [h2]
   constructor
   ·rintro (h4 | ⟨x,h4,h5⟩)
    ·exact .inl h4
    ·exact .inr ⟨x,by simp [h4],h5⟩
   ·rintro (h4 | ⟨x,h4,h5,h6⟩)
    ·exact .inl h4
    ·rcases List.mem_cons.1 h4 with rfl | h4
     ·rw [h5] at hp;exact absurd h6 hp
     ·exact .inr ⟨x,h4,h5,h6⟩
theorem devs_sorted (c:List TPart):(devsC c).Pairwise (· < ·):=(devs_gen c [] List.Pairwise.nil).1
theorem sorted_nodup {l:List Int} (h:l.Pairwise (· < ·)):l.Nodup:=h.imp fun {a b} h e=>by omega
theorem devs_nodup (c:List TPart):(devsC c).Nodup:=sorted_nodup (devs_sorted c)
theorem mem_devs {c:List TPart} {k:Int}:k ∈ devsC c ↔ (∃ p ∈ c,p.dev = k) ∧ 0 < k:=by
 have:=(devs_gen c [] List.Pairwise.nil).2.1 k;unfold devsC;rw [this];simp only [List.not_mem_nil,false_or]
 constructor
 ·rintro ⟨p,h1,h2,h3⟩;exact ⟨⟨p,h1,h2⟩,h3⟩
 ·rintro ⟨⟨p,h1,h2⟩,h3⟩;exact ⟨p,h1,h2,h3⟩
theorem len_devs (c:List TPart):(devsC c).length ≤ c.length:=by simpa [devsC] using (devs_gen c [] List.Pairwise.nil).2.2
theorem raw_devs {c:List TPart} {k:Int} (h:rawC c k ≠ []):k ∈ devsC c:=by
 rw [mem_devs];refine Classical.byContradiction fun hn=>h ?_
 unfold rawC;have:(c.filter fun p=>decide (p.dev = k) && decide (0 < k)) = []:=by
  rw [List.filter_eq_nil_iff];intro p hp;simp only [Bool.and_eq_true,decide_eq_true_eq];rintro ⟨h1,h2⟩;exact hn ⟨⟨p,hp,h1⟩,h2⟩
 rw [this];rfl

def opC (op:Bool → Bool → Bool) (a b:List TPart):List TPart:=partsOf (fun k=>R.setR op (rawC a k) (rawC b k)) (devsC (a ++ b))
def normC (c:List TPart):List TPart:=partsOf (fun k=>R.nrm (rawC c k)) (devsC c)
theorem setR_nil {op:Bool → Bool → Bool} (h0:op false false = false):R.setR op [] [] = []:=by
 have:=R.setR_props op h0 [] [];exact R.nf_ext this.1 trivial fun n=>by rw [this.2.1];exact h0
theorem nrm_nil : R.nrm [] = []:=setR_nil rfl
theorem has_opC {op:Bool → Bool → Bool} (h0:op false false = false) (a b:List TPart) (k n:Int):hasC (opC op a b) k n = op (hasC a k n) (hasC b k n):=by
 unfold hasC opC;rw [raw_partsOf (devs_nodup _)]
 split
 ·rw [(R.setR_props op h0 _ _).2.1]
 ·rename_i h
  have e:rawC a k = [] ∧ rawC b k = []:=by
   have h1:rawC (a ++ b) k = []:=Classical.byContradiction fun h2=>h ⟨raw_devs h2,(mem_devs.1 (raw_devs h2)).2⟩
   rw [rawC_app] at h1;simpa using h1
  rw [e.1,e.2];show R.hasR [] n = _;simp [R.hasR,h0]
theorem has_normC (c:List TPart) (k n:Int):hasC (normC c) k n = hasC c k n:=by
 unfold hasC normC;rw [raw_partsOf (devs_nodup _)]
 split
 ·rw [R.nrm_has]
 ·rename_i h
  have e:rawC c k = []:=Classical.byContradiction fun h2=>h ⟨raw_devs h2,(mem_devs.1 (raw_devs h2)).2⟩
  rw [e]
structure Canon (c:List TPart):Prop where
 ord:OrdP c
 nf:∀ p ∈ c,0 < p.dev ∧ p.runs ≠ [] ∧ R.Nf p.runs
theorem canon_parts {f:Int → List TRun} {c:List TPart} (h:∀ k,R.Nf (f k)):Canon (partsOf f (devsC c)):=⟨ord_partsOf (devs_sorted c),fun p hp=>by
 obtain ⟨h1,h2,h3⟩:=mem_partsOf.1 hp;exact ⟨(mem_devs.1 h1).2,h2,by rw [h3];exact h _⟩⟩
theorem canon_op {op:Bool → Bool → Bool} (h0:op false false = false) (a b:List TPart):Canon (opC op a b):=canon_parts fun _=>(R.setR_props op h0 _ _).1
theorem canon_norm (c:List TPart):Canon (normC c):=canon_parts fun _=>R.nrm_nf _
theorem ordP_raw : ∀ {c:List TPart},OrdP c → ∀ p ∈ c,0 < p.dev → rawC c p.dev = p.runs
 | [],_,p,hp,_=>by simp at hp
 | q :: r,h,p,hp,h0=>by
  obtain ⟨h1,h2⟩:=List.pairwise_cons.1 h;rw [rawC_cons];rcases List.mem_cons.1 hp with rfl | hp
  ·rw [if_pos ⟨rfl,h0⟩];have:rawC r p.dev = []:=by
    unfold rawC;have:(r.filter fun x=>decide (x.dev = p.dev) && decide (0 < p.dev)) = []:=by
     rw [List.filter_eq_nil_iff];intro x hx;have:=h1 x hx;simp;omega
    rw [this];rfl
   rw [this,List.append_nil]
  ·have:=h1 p hp;rw [if_neg (by omega),ordP_raw h2 p hp h0];rfl
theorem Canon.eq_norm {c:List TPart} (h:Canon c):c = normC c:=by
 refine ordP_ext h.ord (canon_norm c).ord fun p=>?_
 unfold normC;rw [mem_partsOf]
 constructor
 ·intro hp;obtain ⟨h1,h2,h3⟩:=h.nf p hp;exact ⟨mem_devs.2 ⟨⟨p,hp,rfl⟩,h1⟩,h2,by rw [ordP_raw h.ord p hp h1,R.nrm_self h3]⟩
 ·rintro ⟨h1,h2,h3⟩;obtain ⟨⟨q,hq,hd⟩,h0⟩:=mem_devs.1 h1;obtain ⟨g1,g2,g3⟩:=h.nf q hq;have e:rawC c p.dev = q.runs:=by rw [← hd];exact ordP_raw h.ord q hq g1
  rw [e,R.nrm_self g3] at h3;have:p = q:=by cases p;cases q;simp_all
  rw [this];exact hq
theorem normC_ext {a b:List TPart} (h:∀ k n,hasC a k n = hasC b k n):normC a = normC b:=by
 have hf:∀ k,R.nrm (rawC a k) = R.nrm (rawC b k):=fun k=>R.nf_ext (R.nrm_nf _) (R.nrm_nf _) fun n=>by rw [R.nrm_has,R.nrm_has];exact h k n
 refine partsOf_ext (devs_sorted a) (devs_sorted b) hf fun k hk=>?_
 have ha:rawC a k ≠ []:=fun e=>hk (by rw [e];exact nrm_nil)
 have hb:rawC b k ≠ []:=fun e=>hk (by rw [hf,e];exact nrm_nil)
 exact ⟨fun _=>raw_devs hb,fun _=>raw_devs ha⟩
theorem Canon.ext {a b:List TPart} (ha:Canon a) (hb:Canon b) (h:∀ k n,hasC a k n = hasC b k n):a = b:=by rw [ha.eq_norm,hb.eq_norm];exact normC_ext h
theorem norm_canon {c:List TPart} (h:Canon c):normC c = c:=h.eq_norm.symm
theorem norm_or (a b:List TPart):normC (a ++ b) = opC (· || ·) a b:=(canon_norm _).ext (canon_op rfl a b) fun k n=>by rw [has_normC,hasC_app,has_opC rfl]
theorem canon_nil : Canon []:=⟨List.Pairwise.nil,fun p h=>by simp at h⟩
theorem len_normC (c:List TPart):(normC c).length ≤ c.length:=Nat.le_trans (len_partsOf _ _) (len_devs c)
theorem sum_le {ks:List Int} {f g:Int → Nat} (h:∀ k,f k ≤ g k):(ks.map f).sum ≤ (ks.map g).sum:=by
 induction ks with
 | nil=>simp
 | cons k r ih=>have:=h k;simp;omega
theorem sum_two (ks:List Int) (f g:Int → Nat):(ks.map fun k=>2 * (f k + g k)).sum = 2 * ((ks.map f).sum + (ks.map g).sum):=by
 induction ks with
 | nil=>rfl
 | cons k r ih=>simp;omega
theorem tot_normC (c:List TPart):totC (normC c) ≤ 2 * totC c:=by
 unfold normC;rw [tot_partsOf];refine Nat.le_trans (sum_le (g:=fun k=>2 * ((rawC c k).length + 0)) fun k=>by have:=R.nrm_len (rawC c k);omega) ?_;rw [sum_two];have h1:=rawC_sum c (devsC c) (devs_nodup _);have h2:=sum_zero (devsC c);omega


theorem get_grow (l:List (Int × List TRun)):∀ (m:List (Int × List TRun)) (k:Int),AL.getZ (AL.grow m l) k [] = AL.getZ m k [] ++ (l.filter fun x=>decide (x.1 = k)).flatMap (·.2):=by
 induction l with
 | nil=>intro m k;simp [AL.grow]
 | cons x r ih=>
  intro m k;show AL.getZ (AL.grow (AL.set m x.1 (AL.getZ m x.1 [] ++ x.2)) r) k [] = _;rw [ih,AL.getZ_set,List.filter_cons]
  by_cases h:x.1 = k
  ·subst h;simp
  ·simp [h]
theorem nodup_grow (l:List (Int × List TRun)):∀ m:List (Int × List TRun),(m.map (·.1)).Nodup → ((AL.grow m l).map (·.1)).Nodup:=by
 induction l with
 | nil=>intro m h;exact h
 | cons x r ih=>intro m h;exact ih _ (AL.nodup_set h _ _)
theorem len_grow (l:List (Int × List TRun)):∀ m:List (Int × List TRun),(AL.grow m l).length ≤ m.length + l.length:=by
 induction l with
 | nil=>intro m;exact Nat.le_refl _
 | cons x r ih=>
  intro m;have h1:=ih (AL.set m x.1 (AL.getZ m x.1 [] ++ x.2));have h2:=AL.len_set m x.1 (AL.getZ m x.1 [] ++ x.2);show (AL.grow (AL.set m x.1 (AL.getZ m x.1 [] ++ x.2)) r).length ≤ _;simp only [List.length_cons];omega
theorem key_grow (l:List (Int × List TRun)):∀ (m:List (Int × List TRun)) (k:Int),k ∈ (AL.grow m l).map (·.1) → k ∈ m.map (·.1) ∨ ∃ x ∈ l,x.1 = k:=by
 induction l with
 | nil=>intro m k h;exact .inl h
 | cons x r ih=>
  intro m k h;rcases ih _ k h with h | ⟨y,hy,e⟩
  ·rw [AL.keys_set] at h
   split at h
   ·exact .inl h
   ·rcases List.mem_append.1 h with h | h
    ·exact .inl h
    ·exact .inr ⟨x,by simp,(List.mem_singleton.1 h).symm⟩
  ·exact .inr ⟨y,by simp [hy],e⟩
def toldM (c:List TPart):List (Int × List TRun):=AL.grow [] (c.filterMap ctx_toldF)
theorem told_get (c:List TPart) (k:Int):AL.getZ (toldM c) k [] = rawC c k:=by
 unfold toldM;rw [get_grow];show [] ++ _ = _;rw [List.nil_append]
 induction c with
 | nil=>rfl
 | cons p r ih=>
  rw [rawC_cons,← ih,List.filterMap_cons]
  by_cases h0:0 < p.dev
  ·have e:ctx_toldF p = some (p.dev,p.runs):=by simp [ctx_toldF,h0]
   rw [e];simp only [List.filter_cons]
   by_cases h:p.dev = k
   ·subst h;simp [h0]
   ·simp [h]
  ·have e:ctx_toldF p = none:=by simp [ctx_toldF,h0]
   rw [e,if_neg (by rintro ⟨h1,h2⟩;omega)];rfl
theorem told_nodup (c:List TPart):((toldM c).map (·.1)).Nodup:=nodup_grow _ _ (by simp)
theorem told_len (c:List TPart):(toldM c).length ≤ c.length:=by
 have h1:=len_grow (c.filterMap ctx_toldF) [];have h2:=List.length_filterMap_le ctx_toldF c;unfold toldM;simp at h1;omega
theorem told_pos {c:List TPart} {k:Int} (h:k ∈ (toldM c).map (·.1)):0 < k ∧ k ∈ devsC c:=by
 rcases key_grow _ _ _ h with h | ⟨x,hx,rfl⟩
 ·simp at h
 ·rw [List.mem_filterMap] at hx;obtain ⟨p,hp,hx⟩:=hx;unfold ctx_toldF at hx
  split at hx
  ·rename_i h0;cases hx;exact ⟨h0,mem_devs.2 ⟨⟨p,hp,rfl⟩,h0⟩⟩
  ·cases hx
theorem told_mem {c:List TPart} {e:Int × List TRun} (h:e ∈ toldM c):e.2 = rawC c e.1 ∧ 0 < e.1 ∧ e.1 ∈ devsC c:=by
 have h1:=AL.mem_get (told_nodup c) (k:=e.1) (v:=e.2) h;have h2:=told_get c e.1;unfold AL.getZ at h2;rw [h1] at h2;exact ⟨h2,told_pos (List.mem_map.2 ⟨e,h,rfl⟩)⟩
theorem told_at {c:List TPart} {k:Int} (h:rawC c k ≠ []):(k,rawC c k) ∈ toldM c:=by
 have h2:=told_get c k;unfold AL.getZ at h2
 cases hg:AL.get (toldM c) k with
 | none=>rw [hg] at h2;exact absurd h2.symm h
 | some v=>rw [hg] at h2;simp only [Option.getD_some] at h2;subst h2;exact AL.get_mem hg
theorem tot_told (c:List TPart):((c.filterMap ctx_toldF).map fun x=>x.2.length).sum ≤ totC c:=by
 induction c with
 | nil=>simp
 | cons p r ih=>
  have e:totC (p :: r) = p.runs.length + totC r:=by simp [totC]
  rw [List.filterMap_cons]
  by_cases h0:0 < p.dev
  ·have e2:ctx_toldF p = some (p.dev,p.runs):=by simp [ctx_toldF,h0]
   rw [e2];simp only [List.map_cons,List.sum_cons];omega
  ·have e2:ctx_toldF p = none:=by simp [ctx_toldF,h0]
   rw [e2];simp only;omega
def Sm (c:List TPart):Prop:=c.length ≤ 10000000000 ∧ totC c ≤ 10000000000
theorem told_eq (c:List TPart) (h:Sm c):ctx_told c = pure (toldM c):=by
 unfold ctx_told;rw [need_true]
 ·rfl
 ·have:=tot_told c;refine ⟨by have:=h.1;omega,?_⟩;have:=h.2;omega
theorem order_eq (m:List (Int × List TRun)) (f:Int → List TRun) (ks:List Int) (hl:m.length ≤ 1000000000000) (hr:∀ e ∈ m,e.2.length ≤ 1000000000000) (hn:(m.map (·.1)).Nodup) (hs:ks.Pairwise (· < ·)) (h1:∀ e ∈ m,R.nrm e.2 ≠ [] → e.1 ∈ ks ∧ R.nrm e.2 = f e.1) (h2:∀ k ∈ ks,f k ≠ [] → ∃ r,(k,r) ∈ m ∧ R.nrm r = f k):ctx_order m = pure (partsOf f ks):=by
 unfold ctx_order;have hall:∀ Q:List TPart → Prop,(∀ l:List (Int × List TRun),l.Perm m → Q ((l.filter fun e=>decide (R.nrm e.2 ≠ [])).map fun e=>(⟨e.1,R.nrm e.2⟩:TPart))) → (loop (ctx_order_l0 m) ([],([]:List TPart))).wp Q:=by
  intro Q hQ;refine M.loopM (body:=ctx_order_l0 m) m (fun L (t:List TPart)=>(L,t)) (fun t e=>(runs_Norm e.2).det.bind fun v=>if 0 < v.length then need ((t.length + 1) * 32 ≤ 140737488355328) (pure (t ++ [(⟨e.1,v⟩:TPart)])) else pure t) (fun t=>pure t)
   (fun l t=>t = ((l.filter fun e=>decide (R.nrm e.2 ≠ [])).map fun e=>(⟨e.1,R.nrm e.2⟩:TPart))) Q (fun L t hL=>?_) (fun l t y ht hlen hy=>?_) (fun l t hp ht=>?_) [] rfl
  ·unfold ctx_order_l0;show need _ ((nxt _ _).bind _) = need _ ((nxt _ _).bind _);refine congrArg (fun k=>need _ ((nxt _ _).bind k)) (funext fun o=>?_)
   cases o with
   | none=>rfl
   | some i=>
    refine congrArg (fun k=>(idx m (Int.ofNat i)).bind k) (funext fun y=>?_);rw [bind_assoc];refine congrArg (fun k=>(runs_Norm y.2).det.bind k) (funext fun v=>?_);rw [cond_dec]
    by_cases h:0 < v.length
    ·rw [if_pos (by omega),if_pos h];rfl
    ·rw [if_neg (by omega),if_neg h];rfl
  ·have hle:=List.length_filter_le (fun e:Int × List TRun=>decide (R.nrm e.2 ≠ [])) l;have htl:t.length ≤ l.length:=by rw [ht,List.length_map];exact hle
   rw [R.norm_eq y.2 (hr y hy),det_pure,pure_bind];refine ⟨if R.nrm y.2 = [] then t else t ++ [⟨y.1,R.nrm y.2⟩],?_,?_⟩
   ·by_cases h:R.nrm y.2 = []
    ·rw [if_neg (by rw [h];simp),if_pos h]
    ·rw [if_pos (by rw [List.length_pos_iff];exact h),if_neg h,need_true (by omega)]
   ·subst ht;rw [List.filter_append,List.map_append]
    by_cases h:R.nrm y.2 = [] <;> simp [h]
  ·subst ht;exact hQ l hp
 refine eq_pure (hall _ fun l hp=>?_);show (need _ _).wp _;have hll:=hp.length_eq;have hle:=List.length_filter_le (fun e:Int × List TRun=>decide (R.nrm e.2 ≠ [])) l;have hmem:∀ d:TPart,d ∈ ((l.filter fun e=>decide (R.nrm e.2 ≠ [])).map fun e=>(⟨e.1,R.nrm e.2⟩:TPart)) ↔ d ∈ partsOf f ks:=by
  intro d;rw [mem_partsOf,List.mem_map]
  constructor
  ·rintro ⟨e,he,rfl⟩;rw [List.mem_filter,hp.mem_iff] at he;have h0:R.nrm e.2 ≠ []:=by simpa using he.2
   obtain ⟨h3,h4⟩:=h1 e he.1 h0;exact ⟨h3,h0,h4⟩
  ·rintro ⟨h3,h4,h5⟩;obtain ⟨r,h6,h7⟩:=h2 d.dev h3 (by rw [← h5];exact h4);refine ⟨(d.dev,r),?_,by show (⟨d.dev,R.nrm r⟩:TPart) = d;rw [h7,← h5]⟩;rw [List.mem_filter,hp.mem_iff];refine ⟨h6,?_⟩;simp only [decide_eq_true_eq];rw [h7,← h5];exact h4
 have hnd:((l.filter fun e=>decide (R.nrm e.2 ≠ [])).map fun e=>(⟨e.1,R.nrm e.2⟩:TPart)).Pairwise (fun x y=>x.dev ≠ y.dev):=by
  rw [List.pairwise_map];have:l.Pairwise (fun x y=>x.1 ≠ y.1):=by
   have:=(hp.map (·.1)).nodup_iff.2 hn;exact List.pairwise_map.1 this
  exact (this.filter _)
 refine ⟨by simp only [List.length_map];omega,⟨?_,fun l' ⟨hp',hs'⟩=>?_⟩⟩
 ·refine ⟨partsOf f ks,?_,?_⟩
  ·refine (List.perm_ext_iff_of_nodup ?_ ?_).2 fun d=>(hmem d).symm
   ·exact (ord_partsOf hs).imp fun {a b} h e=>by subst e;omega
   ·exact hnd.imp fun {a b} h e=>by subst e;exact h rfl
  ·exact (ord_partsOf hs).imp fun {a b} h=>by simp [ltPart];omega
 ·show l' = _;refine ordP_ext ?_ (ord_partsOf hs) fun d=>by rw [hp'.mem_iff];exact hmem d
  have hnd':=(hp'.pairwise_iff (fun {a b} h=>Ne.symm h)).2 hnd;exact (hs'.and hnd').imp fun {a b} ⟨h3,h4⟩=>by simp [ltPart] at h3;omega
theorem order_told (c:List TPart) (h:Sm c):ctx_order (toldM c) = pure (normC c):=by
 refine order_eq _ _ _ (by have:=told_len c;have:=h.1;omega) (fun e he=>?_) (told_nodup c) (devs_sorted c) (fun e he h0=>?_) (fun k hk h0=>?_)
 ·rw [(told_mem he).1];have:=rawC_len c e.1;have:=h.2;omega
 ·obtain ⟨h1,h2,h3⟩:=told_mem he;exact ⟨h3,by rw [h1]⟩
 ·exact ⟨_,told_at (fun e=>h0 (by rw [e];exact nrm_nil)),rfl⟩
theorem Norm_eq (c:List TPart) (h:Sm c):ctx_Norm c = pure (normC c):=by
 unfold ctx_Norm;rw [told_eq c h,det_pure,pure_bind,order_told c h,det_pure,pure_bind]
theorem Runs_eq (c:List TPart) (k:Int) (h:Sm c):ctx_Runs c k = pure (R.nrm (rawC c k)):=by
 unfold ctx_Runs;rw [told_eq c h,det_pure,pure_bind,told_get,R.norm_eq _ (by have:=rawC_len c k;have:=h.2;omega),det_pure,pure_bind]
theorem Has_eq (c:List TPart) (d:TDot) (h:Sm c):ctx_Has c d = pure (hasC c d.dev d.n):=by
 unfold ctx_Has;rw [cond_dec]
 by_cases h0:0 < d.dev
 ·rw [if_pos h0,Runs_eq c _ h,det_pure,pure_bind,R.has_eq _ _ (by have:=R.nrm_len (rawC c d.dev);have:=rawC_len c d.dev;have:=h.2;omega),det_pure,pure_bind,pure_bind,R.nrm_has]
  rfl
 ·rw [if_neg h0,pure_bind];show pure false = pure (R.hasR (rawC c d.dev) d.n);rw [rawC_bad h0];rfl
def dotsC (l:List TDot):List TPart:=(l.filter V.goodD).map fun d=>⟨d.dev,[⟨d.n,d.n⟩]⟩
theorem dots_len (l:List TDot):(dotsC l).length ≤ l.length:=by rw [dotsC,List.length_map];exact List.length_filter_le _ _
theorem dots_tot (l:List TDot):totC (dotsC l) ≤ l.length:=by
 have:totC (dotsC l) = (dotsC l).length:=by
  unfold dotsC
  generalize l.filter V.goodD = q
  induction q with
  | nil=>rfl
  | cons x r ih=>simp [totC] at ih ⊢;omega
 have:=dots_len l;omega
theorem has_dots (l:List TDot) (k n:Int):hasC (dotsC l) k n = true ↔ ∃ d ∈ l,V.goodD d = true ∧ d.dev = k ∧ d.n = n:=by
 induction l with
 | nil=>simp [hasC,dotsC,rawC,R.hasR]
 | cons d r ih=>
  have e:dotsC (d :: r) = (if V.goodD d = true then [⟨d.dev,[⟨d.n,d.n⟩]⟩] else []) ++ dotsC r:=by
   unfold dotsC;rw [List.filter_cons]
   by_cases h:V.goodD d = true <;> simp [h]
  rw [e,hasC_app,Bool.or_eq_true,ih];have h1:hasC (if V.goodD d = true then [⟨d.dev,[⟨d.n,d.n⟩]⟩] else []) k n = true ↔ V.goodD d = true ∧ d.dev = k ∧ d.n = n:=by
   by_cases h:V.goodD d = true
   ·have hg:=V.goodD_iff.1 h;rw [if_pos h];unfold hasC;rw [rawC_cons,rawC_nil,List.append_nil]
    by_cases hk:d.dev = k ∧ 0 < k
    ·rw [if_pos hk,R.hasR_one,R.inR_iff];show (1 ≤ d.n ∧ d.n ≤ d.n ∧ d.n ≤ 281474976710655) ∧ d.n ≤ n ∧ n ≤ d.n ↔ _
     constructor
     ·intro h2;exact ⟨h,hk.1,by omega⟩
     ·rintro ⟨_,_,h3⟩;omega
    ·rw [if_neg hk]
     constructor
     ·intro h2;cases h2
     ·rintro ⟨_,h2,_⟩;exact absurd ⟨h2,by omega⟩ hk
   ·rw [if_neg h]
    constructor
    ·intro h2;cases h2
    ·rintro ⟨h2,_⟩;exact absurd h2 h
  rw [h1]
  constructor
  ·rintro (h2 | ⟨x,h2,h3⟩)
   ·exact ⟨d,by simp,h2⟩
   ·exact ⟨x,by simp [h2],h3⟩
  ·rintro ⟨x,h2,h3⟩;rcases List.mem_cons.1 h2 with rfl | h2
   ·exact .inl h3
   ·exact .inr ⟨x,h2,h3⟩
theorem growC_eq (n:Int) (h0:0 ≤ n) (h:n ≤ 1000000000000):slices_Grow_Ctx_Part_nil n = pure []:=by
 unfold slices_Grow_Ctx_Part_nil;have e:IntKind.i64.wrap (n - IntKind.i64.wrap (0 - 0)) = n:=by
  rw [wI64 (n:=0 - 0) (by omega) (by omega),wI64 (by omega) (by omega)];omega
 simp only [e,cond_dec];rw [if_neg (by omega)]
 split
 ·rw [need_true ⟨by omega,by omega⟩,need_true ⟨by omega,by omega,by omega⟩];simp [pure_bind]
 ·simp [pure_bind]
theorem concatC_eq (a b:List TPart) (h:a.length + b.length ≤ 1000000000000):slices_Concat_Ctx_Part [a,b] = pure (a ++ b):=by
 unfold slices_Concat_Ctx_Part;have e1:slices_Concat_Ctx_Part_l0 [a,b] (0,0) = pure (.next ((a.length:Int),1)):=by
  unfold slices_Concat_Ctx_Part_l0;have:IntKind.i64.wrap (0 + (a.length:Int)) = a.length:=by rw [wI64 (by omega) (by omega)];omega
  simp only [cond_dec,idx_eq (l:=[a,b]) (i:=0) (y:=a) (by omega) rfl,pure_bind,this];rw [if_pos (by simp),if_neg (by omega),wI64 (by omega) (by omega)];rfl
 have e2:slices_Concat_Ctx_Part_l0 [a,b] ((a.length:Int),1) = pure (.next ((a.length:Int) + b.length,2)):=by
  unfold slices_Concat_Ctx_Part_l0;have:IntKind.i64.wrap ((a.length:Int) + b.length) = a.length + b.length:=by rw [wI64 (by omega) (by omega)]
  simp only [cond_dec,idx_eq (l:=[a,b]) (i:=1) (y:=b) (by omega) rfl,pure_bind,this];rw [if_pos (by simp),if_neg (by omega),wI64 (by omega) (by omega)];rfl
 have e3:slices_Concat_Ctx_Part_l0 [a,b] ((a.length:Int) + b.length,2) = pure (.done ((a.length:Int) + b.length)):=by
  unfold slices_Concat_Ctx_Part_l0;simp
 have f1:slices_Concat_Ctx_Part_l1 [a,b] (0,[]) = pure (.next (1,a)):=by
  unfold slices_Concat_Ctx_Part_l1;simp only [cond_dec,idx_eq (l:=[a,b]) (i:=0) (y:=a) (by omega) rfl,pure_bind];rw [if_pos (by simp),need_true (by simp;omega),wI64 (by omega) (by omega)];rfl
 have f2:slices_Concat_Ctx_Part_l1 [a,b] (1,a) = pure (.next (2,a ++ b)):=by
  unfold slices_Concat_Ctx_Part_l1;simp only [cond_dec,idx_eq (l:=[a,b]) (i:=1) (y:=b) (by omega) rfl,pure_bind];rw [if_pos (by simp),need_true (by omega),wI64 (by omega) (by omega)];rfl
 have f3:slices_Concat_Ctx_Part_l1 [a,b] (2,a ++ b) = pure (.done (a ++ b)):=by
  unfold slices_Concat_Ctx_Part_l1;simp
 rw [loop_next e1,loop_next e2,loop_done e3,pure_bind,growC_eq _ (by omega) (by omega),det_pure,pure_bind,loop_next f1,loop_next f2,loop_done f3,pure_bind]
theorem sm_app {a b:List TPart} (ha:a.length + b.length ≤ 10000000000) (hb:totC a + totC b ≤ 10000000000):Sm (a ++ b):=⟨by rw [List.length_append];exact ha,by rw [totC_app];exact hb⟩
theorem Join_eq (a b:List TPart) (h:Sm (a ++ b)):ctx_Join a b = pure (opC (· || ·) a b):=by
 unfold ctx_Join;rw [concatC_eq a b (by have:=h.1;rw [List.length_append] at this;omega),det_pure,pure_bind,Norm_eq _ h,det_pure,pure_bind,norm_or]
def updM (h:Int × List TRun → List TRun) (m:List (Int × List TRun)) (L:List Nat):List (Int × List TRun):=m.zipIdx.map fun y=>if y.2 ∈ L then (y.1.1,h y.1) else y.1
theorem updM_get {h:Int × List TRun → List TRun} {m:List (Int × List TRun)} {L:List Nat} {i:Nat}:(updM h m L)[i]? = (m[i]?).map fun e=>if i ∈ L then (e.1,h e) else e:=by
 unfold updM;rw [List.getElem?_map,List.getElem?_zipIdx]
 cases m[i]? <;> simp
theorem updM_len {h:Int × List TRun → List TRun} {m:List (Int × List TRun)} {L:List Nat}:(updM h m L).length = m.length:=by simp [updM]
theorem set_at {m:List (Int × List TRun)} (hn:(m.map (·.1)).Nodup) {i:Nat} {e:Int × List TRun} (hi:m[i]? = some e) (v:List TRun):AL.set m e.1 v = m.set i (e.1,v):=by
 induction m generalizing i with
 | nil=>simp at hi
 | cons x r ih=>
  obtain ⟨a,u⟩:=x;simp only [List.map_cons,List.nodup_cons] at hn
  cases i with
  | zero=>simp at hi;subst hi;simp [AL.set]
  | succ i=>
   simp at hi;have:a ≠ e.1:=fun q=>hn.1 (by rw [q];exact List.mem_map.2 ⟨e,List.mem_of_getElem? hi,rfl⟩)
   simp only [AL.set,this,if_false,List.set_cons_succ];rw [ih hn.2 hi]
theorem updM_keys {h:Int × List TRun → List TRun} {m:List (Int × List TRun)} {L:List Nat}:(updM h m L).map (·.1) = m.map (·.1):=by
 apply List.ext_getElem?;intro i;rw [List.getElem?_map,updM_get,List.getElem?_map]
 cases m[i]? with
 | none=>rfl
 | some e=>simp only [Option.map_some];split <;> rfl
theorem updM_snoc {h:Int × List TRun → List TRun} {m:List (Int × List TRun)} (hn:(m.map (·.1)).Nodup) {L:List Nat} {i:Nat} {e:Int × List TRun} (hi:m[i]? = some e) (hL:i ∉ L):AL.set (updM h m L) e.1 (h e) = updM h m (L ++ [i]):=by
 have h1:(updM h m L)[i]? = some e:=by rw [updM_get,hi];simp [hL]
 rw [set_at (by rw [updM_keys];exact hn) h1];apply List.ext_getElem?;intro j;rw [List.getElem?_set,updM_get,updM_get]
 by_cases hj:i = j
 ·subst hj;have hlt:i < (updM h m L).length:=by rw [updM_len];exact (List.getElem?_eq_some_iff.1 hi).1
  rw [if_pos rfl,if_pos hlt,hi];simp
 ·rw [if_neg hj]
  cases m[j]? with
  | none=>rfl
  | some x=>simp [Ne.symm hj]
theorem updM_all {h:Int × List TRun → List TRun} {m:List (Int × List TRun)} {L:List Nat} (hL:∀ i,i < m.length → i ∈ L):updM h m L = m.map fun e=>(e.1,h e):=by
 apply List.ext_getElem?;intro i;rw [updM_get,List.getElem?_map]
 cases hi:m[i]? with
 | none=>rfl
 | some e=>simp [hL i (List.getElem?_eq_some_iff.1 hi).1]
theorem has_key {m:List (Int × List TRun)} {k:Int} (h:k ∈ m.map (·.1)):AL.has m k = true:=by
 unfold AL.has
 cases hg:AL.get m k with
 | none=>exact absurd h (AL.get_none.1 hg)
 | some v=>rfl
theorem each_loop (body:List (Int × List TRun) → List Nat × List (Int × List TRun) → M (Step (List Nat × List (Int × List TRun)) (List (Int × List TRun)))) (do_:List TRun → List TRun → M (List TRun)) (F:List TRun → List TRun → List TRun) (m y:List (Int × List TRun)) (hn:(m.map (·.1)).Nodup)
  (hb:∀ L v,body y (L,v) = need (∀ i ∈ L,i < v.length) ((nxt v.length L).bind fun o=>match o with | none=>pure (.done v) | some j=>(idx v (Int.ofNat j)).bind fun kv=>(do_ kv.2 (AL.getZ y kv.1 [])).det.bind fun r=>need (AL.has v kv.1 = true) (pure (.next (L ++ [j],AL.set v kv.1 r)))))
  (hdo:∀ e ∈ m,do_ e.2 (AL.getZ y e.1 []) = pure (F e.2 (AL.getZ y e.1 []))):loop (body y) ([],m) = pure (m.map fun e=>(e.1,F e.2 (AL.getZ y e.1 []))):=by
 refine eq_pure ?_;have:=loopN (body:=body y) m.length (fun L (v:List (Int × List TRun))=>(L,v)) (fun L v=>v = updM (fun e=>F e.2 (AL.getZ y e.1 [])) m L) (fun r=>r = m.map fun e=>(e.1,F e.2 (AL.getZ y e.1 []))) (fun L v hv hL hlt=>by
  have hlen:v.length = m.length:=by rw [hv];exact updM_len
  refine ⟨fun o=>match o with | none=>pure (.done v) | some j=>(idx v (Int.ofNat j)).bind fun kv=>(do_ kv.2 (AL.getZ y kv.1 [])).det.bind fun r=>need (AL.has v kv.1 = true) (pure (.next (L ++ [j],AL.set v kv.1 r))),?_,?_,?_⟩
  ·rw [hb,hlen]
  ·intro hall;show v = _;rw [hv];exact updM_all hall
  ·intro i hi hiL;have hm:=List.getElem?_eq_getElem hi;have hvi:v[i]? = some m[i]:=by rw [hv,updM_get,hm];simp [hiL]
   refine ⟨AL.set v (m[i]).1 (F (m[i]).2 (AL.getZ y (m[i]).1 [])),?_,?_⟩
   ·show (idx v (Int.ofNat i)).bind _ = _;rw [show (Int.ofNat i) = (i:Int) from rfl,idx_nat hvi,pure_bind,hdo _ (List.getElem_mem hi),det_pure,pure_bind,need_true];refine has_key ?_;rw [hv,updM_keys];exact List.mem_map.2 ⟨m[i],List.getElem_mem hi,rfl⟩
   ·rw [hv];exact updM_snoc hn hm hiL) m (by
  apply List.ext_getElem?;intro i;rw [updM_get]
  cases m[i]? <;> simp)
 exact this
theorem nrm_setR {op:Bool → Bool → Bool} (h0:op false false = false) (a b:List TRun):R.nrm (R.setR op a b) = R.setR op a b:=R.nrm_self (R.setR_props op h0 a b).1
theorem order_each {op:Bool → Bool → Bool} (h0:op false false = false) (hr:∀ x,op false x = false) (a b:List TPart) (ha:Sm a) (hb:Sm b) :
  ctx_order ((toldM a).map fun e=>(e.1,R.setR op e.2 (AL.getZ (toldM b) e.1 []))) = pure (opC op a b):=by
 have hlenR:∀ x y:List TRun,(R.setR op x y).length ≤ 2 * (x.length + y.length):=fun x y=>(R.setR_props op h0 x y).2.2
 refine order_eq _ _ _ (by have:=told_len a;have:=ha.1;simp;omega) (fun e he=>?_) (by rw [List.map_map];exact told_nodup a) (devs_sorted _) (fun e he hne=>?_) (fun k hk hne=>?_)
 ·obtain ⟨x,hx,rfl⟩:=List.mem_map.1 he;have h1:=hlenR x.2 (AL.getZ (toldM b) x.1 []);rw [(told_mem hx).1,told_get] at h1;have:=rawC_len a x.1;have:=rawC_len b x.1;have:=ha.2;have:=hb.2;show (R.setR op x.2 (AL.getZ (toldM b) x.1 [])).length ≤ _;rw [(told_mem hx).1,told_get];omega
 ·obtain ⟨x,hx,rfl⟩:=List.mem_map.1 he;obtain ⟨h1,h2,h3⟩:=told_mem hx;refine ⟨?_,?_⟩
  ·show x.1 ∈ _;obtain ⟨⟨p,hp,hd⟩,_⟩:=mem_devs.1 h3;exact mem_devs.2 ⟨⟨p,List.mem_append_left _ hp,hd⟩,h2⟩
  ·show R.nrm (R.setR op x.2 (AL.getZ (toldM b) x.1 [])) = _;rw [nrm_setR h0,told_get,h1]
 ·have hra:rawC a k ≠ []:=fun e=>hne (by
   rw [e];exact R.nf_ext (R.setR_props op h0 _ _).1 trivial fun n=>by rw [(R.setR_props op h0 _ _).2.1];show op (R.hasR [] n) _ = _;exact hr _)
  refine ⟨R.setR op (rawC a k) (AL.getZ (toldM b) k []),List.mem_map.2 ⟨(k,rawC a k),told_at hra,rfl⟩,?_⟩;rw [nrm_setR h0,told_get]
theorem Meet_eq (a b:List TPart) (ha:Sm a) (hb:Sm b):ctx_Meet a b = pure (opC (· && ·) a b):=by
 unfold ctx_Meet ctx_each_runs_Meet;rw [told_eq a ha,det_pure,pure_bind,told_eq b hb,det_pure,pure_bind,each_loop ctx_each_runs_Meet_l0 runs_Meet (R.setR (· && ·)) (toldM a) (toldM b) (told_nodup a) (fun L v=>rfl) (fun e he=>?_),pure_bind,order_each rfl (fun _=>rfl) a b ha hb,det_pure,pure_bind,det_pure,pure_bind];rw [(told_mem he).1,told_get];have:=rawC_len a e.1;have:=rawC_len b e.1;have:=ha.2;have:=hb.2;exact R.meetN_eq _ _ (by omega) (by omega)
theorem Minus_eq (a b:List TPart) (ha:Sm a) (hb:Sm b):ctx_Minus a b = pure (opC (fun x y=>x && !y) a b):=by
 unfold ctx_Minus ctx_each_runs_Minus;rw [told_eq a ha,det_pure,pure_bind,told_eq b hb,det_pure,pure_bind,each_loop ctx_each_runs_Minus_l0 runs_Minus (R.setR (fun x y=>x && !y)) (toldM a) (toldM b) (told_nodup a) (fun L v=>rfl) (fun e he=>?_),pure_bind,order_each rfl (fun _=>rfl) a b ha hb,det_pure,pure_bind,det_pure,pure_bind];rw [(told_mem he).1,told_get];have:=rawC_len a e.1;have:=rawC_len b e.1;have:=ha.2;have:=hb.2;exact R.minus_eq _ _ (by omega) (by omega)
theorem Within_eq (a b:List TPart) (ha:Sm a) (hb:Sm b):ctx_Within a b = pure (decide (opC (fun x y=>x && !y) a b = [])):=by
 unfold ctx_Within;rw [Minus_eq a b ha hb,det_pure,pure_bind];refine congrArg pure ?_
 cases opC (fun x y=>x && !y) a b with
 | nil=>rfl
 | cons p r=>simp;omega
theorem partEq (x y:TPart):(decide (x.dev = y.dev) && decide (x.runs = y.runs)) = decide (x = y):=by
 rw [Bool.eq_iff_iff]
 cases x;cases y
 simp
theorem run_le {c:List TPart}:∀ p ∈ c,p.runs.length ≤ totC c:=by
 induction c with
 | nil=>intro p hp;simp at hp
 | cons q r ih=>
  intro p hp;have e:totC (q :: r) = q.runs.length + totC r:=by simp [totC]
  rcases List.mem_cons.1 hp with rfl | hp
  ·omega
  ·have:=ih p hp;omega

theorem rEq_eq (a b:List TPart) (ha:a.length ≤ 1000000000000) (hr:∀ p ∈ a,p.runs.length ≤ 1000000000000):r09_Eq a b = pure (decide (a = b)):=by
 unfold r09_Eq
 by_cases hl:(a.length:Int) = b.length
 ·simp only [hl,decide_true,Bool.not_true,cond_false];have:=loopAll (body:=r09_Eq_l0 a b) a (fun i=>(i:Int)) (fun i x=>decide (b[i]? = some x)) (.brk ()) (.ret false) (fun i x hx hi=>by
   have hb:i < b.length:=by omega
   have hby:=List.getElem?_eq_getElem hb;unfold r09_Eq_l0;have h1:decide ((i:Int) < (a.length:Int)) = true:=by simpa using hi
   simp only [h1,cond_true,idx_nat hx,idx_nat hby,pure_bind,R.req_eq x.runs _ (hr x (List.mem_of_getElem? hx)),det_pure,wSucc (show i < 9223372036854775807 by omega)];rw [hby];have he:=partEq x b[i]
   by_cases hd:x.dev = (b[i]).dev
   ·by_cases hq:x.runs = (b[i]).runs
    ·simp only [hd,hq,decide_true,Bool.and_self,eq_comm (a:=true),decide_eq_true_eq] at he;simp [hd,hq,he,pure_bind]
    ·have hne:¬ x = b[i]:=fun e=>hq (by rw [e])
     have hne2:¬ b[i] = x:=fun e=>hne e.symm
     simp [hd,hq,hne2,pure_bind]
   ·have hne2:¬ b[i] = x:=fun e=>hd (by rw [e])
    simp [hd,hne2,pure_bind]) (by unfold r09_Eq_l0;simp)
  rw [show (0:Int) = ((0:Nat):Int) from rfl,this];have hiff:(a.zipIdx.all fun y=>decide (b[y.2]? = some y.1)) = decide (a = b):=by
   rw [Bool.eq_iff_iff,List.all_eq_true,decide_eq_true_eq]
   constructor
   ·intro h;apply List.ext_getElem?;intro i
    by_cases hi:i < a.length
    ·have:=h (a[i],i) (by rw [List.mem_zipIdx_iff_getElem?];exact List.getElem?_eq_getElem hi);simp only [decide_eq_true_eq] at this;rw [this,List.getElem?_eq_getElem hi]
    ·rw [List.getElem?_eq_none (by omega),List.getElem?_eq_none (by omega)]
   ·rintro rfl y hy;rw [List.mem_zipIdx_iff_getElem?] at hy;simpa using hy
  rw [hiff]
  by_cases h:a = b <;> simp [h,exk,pure_bind]
 ·have:¬ a = b:=fun e=>hl (by rw [e])
  simp [hl,this]
theorem rEq_sm (a b:List TPart) (h:Sm a):r09_Eq a b = pure (decide (a = b)):=rEq_eq a b (by have:=h.1;omega) fun p hp=>by have:=run_le p hp;have:=h.2;omega
theorem join_nrm (u v:List TRun):R.setR (· || ·) (R.nrm u) v = R.nrm (u ++ v):=R.nf_ext (R.setR_props _ rfl _ _).1 (R.nrm_nf _) fun n=>by rw [(R.setR_props _ rfl _ _).2.1,R.nrm_has,R.nrm_has,R.hasR_app]
theorem rRuns_eq (c:List TPart) (k:Int) (hk:0 ≤ k) (h:c.length ≤ 1000000000) (ht:totC c ≤ 1000000000):r09_Runs c k = pure (R.nrm (rawC c k)):=by
 unfold r09_Runs;have hpre:∀ i,(rawC (c.take i) k).length ≤ 1000000000:=fun i=>by
  have h1:=rawC_len (c.take i) k;have h2:totC (c.take i) ≤ totC c:=by
   conv=>rhs;rw [← List.take_append_drop i c]
   rw [totC_app];omega
  omega
 have:=loopL (body:=r09_Runs_l0 c k) c (fun i (t:List TRun)=>(t,(i:Int))) (fun t p=>if p.dev = k ∧ 0 < k then R.setR (· || ·) t p.runs else t) (fun t=>pure t) (fun i t=>t = R.nrm (rawC (c.take i) k)) (fun i x t hx hi ht2=>by
  have h1:decide ((i:Int) < (c.length:Int)) = true:=by simpa using hi
  have hxl:x.runs.length ≤ 1000000000:=by have:=run_le x (List.mem_of_getElem? hx);omega
  have htl:t.length ≤ 2000000000:=by have:=R.nrm_len (rawC (c.take i) k);have:=hpre i;rw [ht2];omega
  unfold r09_Runs_l0;simp only [h1,cond_true,idx_nat hx,pure_bind,wSucc (show i < 9223372036854775807 by omega),cond_dec];have hnext:(if x.dev = k ∧ 0 < k then R.setR (· || ·) t x.runs else t) = R.nrm (rawC (c.take (i + 1)) k):=by
   rw [List.take_add_one,hx,rawC_app,Option.toList,rawC_cons,rawC_nil,List.append_nil,ht2]
   split
   ·exact join_nrm _ _
   ·rw [List.append_nil]
  refine ⟨?_,hnext⟩
  by_cases hd:x.dev = k
  ·by_cases h0:k = 0
   ·have:¬ (x.dev = k ∧ 0 < k):=by omega
    rw [if_neg this,if_pos hd];simp [h0,pure_bind]
   ·rw [if_pos (show x.dev = k ∧ 0 < k from ⟨hd,by omega⟩),if_pos hd];simp only [h0,decide_false,Bool.not_false,pure_bind,cond_true];rw [R.rjoin_eq _ _ (by omega),det_pure,pure_bind,pure_bind]
  ·rw [if_neg (fun (q:x.dev = k ∧ 0 < k)=>hd q.1),if_neg hd]
   rfl) (fun t _=>by unfold r09_Runs_l0;simp [pure_bind]) [] (by rw [List.take_zero,rawC_nil,nrm_nil])
 rw [show (([]:List TRun),(0:Int)) = ([],((0:Nat):Int)) from rfl,this];have key:∀ (l:List TPart) (u:List TRun),l.foldl (fun t p=>if p.dev = k ∧ 0 < k then R.setR (· || ·) t p.runs else t) (R.nrm u) = R.nrm (u ++ rawC l k):=by
  intro l
  induction l with
  | nil=>intro u;simp [rawC]
  | cons p r ih=>
   intro u;rw [List.foldl_cons,rawC_cons]
   by_cases hp:p.dev = k ∧ 0 < k
   ·rw [if_pos hp,if_pos hp,join_nrm,ih,List.append_assoc]
   ·rw [if_neg hp,if_neg hp,ih,List.nil_append]
 have h2:=key c [];rw [nrm_nil,List.nil_append] at h2;rw [h2];rfl
def allD (c:List TPart):List Int:=c.foldl (fun l p=>V.insI l p.dev) []
theorem allD_gen (c:List TPart):∀ l:List Int,l.Pairwise (· < ·) → (c.foldl (fun l p=>V.insI l p.dev) l).Pairwise (· < ·) ∧ (∀ k,k ∈ c.foldl (fun l p=>V.insI l p.dev) l ↔ k ∈ l ∨ ∃ p ∈ c,p.dev = k) ∧ (c.foldl (fun l p=>V.insI l p.dev) l).length ≤ l.length + c.length:=by
 induction c with
 | nil=>intro l h;simp [h]
 | cons p r ih=>
  intro l h;rw [List.foldl_cons];obtain ⟨h1,h2,h3⟩:=ih _ (V.insI_sorted h p.dev);refine ⟨h1,fun k=>?_,by have:=V.len_insI l p.dev;simp;omega⟩;rw [h2,V.mem_insI]
  constructor
  ·rintro ((rfl | h4) | ⟨x,h4,h5⟩)
   ·exact .inr ⟨p,by simp,rfl⟩
   ·exact .inl h4
   ·exact .inr ⟨x,by simp [h4],h5⟩
  ·rintro (h4 | ⟨x,h4,h5⟩)
   ·exact .inl (.inr h4)
   ·rcases List.mem_cons.1 h4 with rfl | h4
    ·exact .inl (.inl h5.symm)
    ·exact .inr ⟨x,h4,h5⟩
theorem allD_sorted (c:List TPart):(allD c).Pairwise (· < ·):=(allD_gen c [] List.Pairwise.nil).1
theorem mem_allD {c:List TPart} {k:Int}:k ∈ allD c ↔ ∃ p ∈ c,p.dev = k:=by
 have:=(allD_gen c [] List.Pairwise.nil).2.1 k;unfold allD;rw [this];simp
theorem len_allD (c:List TPart):(allD c).length ≤ c.length:=by simpa [allD] using (allD_gen c [] List.Pairwise.nil).2.2
theorem ones_len (l:List Int):(V.ones l).length = l.length:=by simp [V.ones]
theorem rdevs_eq (a b:List TPart) (h:a.length + b.length ≤ 10000000000):r09_devs a b = pure (V.ones (allD (a ++ b))):=by
 unfold r09_devs;have h1:=loopL (body:=r09_devs_l0 a) a (fun i (l:List Int)=>(V.ones l,(i:Int))) (fun l p=>V.insI l p.dev) (fun l=>pure (V.ones l)) (fun i l=>l.Pairwise (· < ·) ∧ l.length ≤ i) (fun i x l hx hi ⟨hs,hl⟩=>by
  have h1:decide ((i:Int) < (a.length:Int)) = true:=by simpa using hi
  unfold r09_devs_l0;simp only [h1,cond_true,idx_nat hx,pure_bind,wSucc (show i < 9223372036854775807 by omega)];rw [V.r07_Put_eq _ _ (by rw [ones_len];omega),det_pure,pure_bind,V.put_ones hs];exact ⟨rfl,V.insI_sorted hs _,by have:=V.len_insI l x.dev;omega⟩) (fun l _=>by unfold r09_devs_l0;simp [pure_bind]) [] ⟨List.Pairwise.nil,by simp⟩
 have h2:=loopL (body:=r09_devs_l1 b) b (fun i (l:List Int)=>(V.ones l,(i:Int))) (fun l p=>V.insI l p.dev) (fun l=>pure (V.ones l)) (fun i l=>l.Pairwise (· < ·) ∧ l.length ≤ a.length + i) (fun i x l hx hi ⟨hs,hl⟩=>by
  have h1:decide ((i:Int) < (b.length:Int)) = true:=by simpa using hi
  unfold r09_devs_l1;simp only [h1,cond_true,idx_nat hx,pure_bind,wSucc (show i < 9223372036854775807 by omega)];rw [V.r07_Put_eq _ _ (by rw [ones_len];omega),det_pure,pure_bind,V.put_ones hs];exact ⟨rfl,V.insI_sorted hs _,by have:=V.len_insI l x.dev;omega⟩) (fun l _=>by unfold r09_devs_l1;simp [pure_bind]) (allD a) ⟨allD_sorted a,by have:=len_allD a;omega⟩
 rw [show (([]:List TDot),(0:Int)) = (V.ones [],((0:Nat):Int)) from rfl,h1,pure_bind];show (loop (r09_devs_l1 b) (V.ones (allD a),((0:Nat):Int))).bind _ = _;rw [h2,pure_bind];unfold allD;rw [List.foldl_append]
theorem rset_eq (op:Bool → Bool → Bool) (how:Int) (hop:∀ x y,op x y = if how = 2 then (x && !y) else if how = 1 then (x && y) else (x || y)) (h0:op false false = false) (a b:List TPart) (oa:∀ p ∈ a,0 ≤ p.dev) (ob:∀ p ∈ b,0 ≤ p.dev) (ha:a.length ≤ 1000000000) (hb:b.length ≤ 1000000000) (ta:totC a ≤ 1000000000) (tb:totC b ≤ 1000000000):r09_set a b how = pure (opC op a b):=by
 unfold r09_set;rw [rdevs_eq a b (by omega),det_pure,pure_bind];have hlenA:∀ k,(R.nrm (rawC a k)).length ≤ 2000000000:=fun k=>by have:=R.nrm_len (rawC a k);have:=rawC_len a k;omega
 have hlenB:∀ k,(R.nrm (rawC b k)).length ≤ 2000000000:=fun k=>by have:=R.nrm_len (rawC b k);have:=rawC_len b k;omega
 have hop':∀ k,R.setR op (R.nrm (rawC a k)) (R.nrm (rawC b k)) = R.setR op (rawC a k) (rawC b k):=fun k=>R.nf_ext (R.setR_props op h0 _ _).1 (R.setR_props op h0 _ _).1 fun n=>by rw [(R.setR_props op h0 _ _).2.1,(R.setR_props op h0 _ _).2.1,R.nrm_has,R.nrm_has]
 have hkey:∀ k ∈ allD (a ++ b),0 ≤ k:=fun k hk=>by
  obtain ⟨p,hp,rfl⟩:=mem_allD.1 hk;rcases List.mem_append.1 hp with hp | hp
  ·exact oa p hp
  ·exact ob p hp
 have hnd:(allD (a ++ b)).length ≤ 2000000000:=by have:=len_allD (a ++ b);rw [List.length_append] at this;omega
 have hgo:=loopL (body:=r09_set_l0 (V.ones (allD (a ++ b))) a b how) (allD (a ++ b)) (fun i (t:List TPart)=>((i:Int),t)) (fun t k=>if R.setR op (rawC a k) (rawC b k) = [] then t else t ++ [⟨k,R.setR op (rawC a k) (rawC b k)⟩]) (fun t=>pure t) (fun i t=>t.length ≤ i) (fun i k t hk hi hl=>by
  have h1:decide ((i:Int) < ((V.ones (allD (a ++ b))).length:Int)) = true:=by rw [ones_len];simpa using hi
  have hx:(V.ones (allD (a ++ b)))[i]? = some ⟨k,1⟩:=by simp [V.ones,hk]
  have hk0:0 ≤ k:=hkey k (List.mem_of_getElem? hk);unfold r09_set_l0;simp only [h1,cond_true,idx_nat hx,pure_bind,rRuns_eq a k hk0 ha ta,rRuns_eq b k hk0 hb tb,det_pure,wSucc (show i < 9223372036854775807 by omega)];have hl1:=hlenA k;have hl2:=hlenB k;rw [R.rjoin_eq _ _ (by omega),det_pure,pure_bind,R.rmeet_eq _ _ (by omega),det_pure,pure_bind,R.rminus_eq _ _ (by omega),det_pure,pure_bind];have hz:(cond (decide (how = 1)) (pure (R.setR (· && ·) (R.nrm (rawC a k)) (R.nrm (rawC b k)))) (pure (R.setR (· || ·) (R.nrm (rawC a k)) (R.nrm (rawC b k)))):M (List TRun)).bind (fun z=>cond (decide (how = 2)) (pure (R.setR (fun x y=>x && !y) (R.nrm (rawC a k)) (R.nrm (rawC b k)))) (pure z)) = pure (R.setR op (rawC a k) (rawC b k)):=by
   rw [← hop' k]
   by_cases h2:how = 2
   ·subst h2;have:op = fun x y=>x && !y:=by funext x y;rw [hop];simp
    rw [this];rfl
   ·by_cases h1:how = 1
    ·subst h1;have:op = fun x y=>x && y:=by funext x y;rw [hop];simp
     rw [this];rfl
    ·have:op = fun x y=>x || y:=by funext x y;rw [hop];simp [h1,h2]
     rw [this];simp [h1,h2,pure_bind]
  rw [← bind_assoc,hz,pure_bind];have hsl:=(R.setR_props op h0 (rawC a k) (rawC b k)).2.2
  by_cases hz0:R.setR op (rawC a k) (rawC b k) = []
  ·rw [if_pos hz0];simp only [hz0,List.length_nil];exact ⟨rfl,by omega⟩
  ·rw [if_neg hz0];have:decide (0 < ((R.setR op (rawC a k) (rawC b k)).length:Int)) = true:=by
    have:=List.length_pos_iff.2 hz0;simp;omega
   rw [this,cond_true,need_true (by simp;omega)];exact ⟨rfl,by simp;omega⟩) (fun t _=>by unfold r09_set_l0;rw [ones_len];simp [pure_bind]) [] (by simp)
 rw [show ((0:Int),([]:List TPart)) = (((0:Nat):Int),[]) from rfl,hgo,pure_bind];have key:∀ (ks:List Int) (t:List TPart),ks.foldl (fun t k=>if R.setR op (rawC a k) (rawC b k) = [] then t else t ++ [⟨k,R.setR op (rawC a k) (rawC b k)⟩]) t = t ++ partsOf (fun k=>R.setR op (rawC a k) (rawC b k)) ks:=by
  intro ks
  induction ks with
  | nil=>intro t;simp [partsOf]
  | cons k ks ih=>
   intro t;rw [List.foldl_cons,ih]
   by_cases h:R.setR op (rawC a k) (rawC b k) = []
   ·rw [if_pos h];simp [partsOf,h]
   ·rw [if_neg h];simp [partsOf,h]
 rw [key,List.nil_append];refine congrArg pure (partsOf_ext (allD_sorted _) (devs_sorted _) (fun _=>rfl) fun k hk=>?_);have hr:rawC (a ++ b) k ≠ []:=fun e=>hk (by
  rw [rawC_app] at e;have:=List.append_eq_nil_iff.1 e;rw [this.1,this.2];exact setR_nil h0)
 exact ⟨fun _=>raw_devs hr,fun _=>mem_allD.2 (mem_devs.1 (raw_devs hr)).1⟩
structure Ok (c:List TPart):Prop where
 dev:∀ p ∈ c,0 ≤ p.dev
 len:c.length ≤ 1000000000
 tot:totC c ≤ 1000000000
theorem Ok.sm {c:List TPart} (h:Ok c):Sm c:=⟨by have:=h.len;omega,by have:=h.tot;omega⟩
section
variable (a b:List TPart) (ha:Ok a) (hb:Ok b)
include ha hb
theorem rJoin_eq : r09_Join a b = pure (opC (· || ·) a b):=by
 unfold r09_Join;rw [rset_eq (· || ·) 0 (fun x y=>by simp) rfl a b ha.dev hb.dev ha.len hb.len ha.tot hb.tot,det_pure,pure_bind]
end
theorem ok_nil : Ok []:=⟨fun p h=>by simp at h,by simp,by simp [totC]⟩
theorem opC_nil (c:List TPart):opC (· || ·) c [] = normC c:=by rw [← norm_or,List.append_nil]
theorem rNorm_eq (c:List TPart) (h:Ok c):r09_Norm c = pure (normC c):=by
 unfold r09_Norm;rw [rset_eq (· || ·) 0 (fun x y=>by simp) rfl c [] h.dev ok_nil.dev h.len ok_nil.len h.tot ok_nil.tot,det_pure,pure_bind,opC_nil]
theorem sm_norm {c:List TPart} (h:Ok c):Sm (normC c):=⟨by have:=len_normC c;have:=h.len;omega,by have:=tot_normC c;have:=h.tot;omega⟩
theorem rSame_eq (a b:List TPart) (ha:Ok a) (hb:Ok b):r09_Same a b = pure (decide (normC a = normC b)):=by
 unfold r09_Same;rw [rNorm_eq a ha,det_pure,pure_bind,rNorm_eq b hb,det_pure,pure_bind,rEq_sm _ _ (sm_norm ha),det_pure,pure_bind]
theorem rFew_eq (c:List TPart):r09_Few c = pure (decide (c.length ≤ 30) && c.all fun p=>decide (p.runs.length ≤ 30)):=by
 unfold r09_Few
 by_cases h0:30 < c.length
 ·have:decide ((30:Int) < (c.length:Int)) = true:=by simp;omega
  rw [this,cond_true];have:decide (c.length ≤ 30) = false:=by simp;omega
  rw [this];rfl
 ·have h1:decide ((30:Int) < (c.length:Int)) = false:=by simp;omega
  rw [h1,cond_false];have:=loopAll (body:=r09_Few_l0 c) c (fun i=>(i:Int)) (fun i x=>decide (x.runs.length ≤ 30)) (.brk ()) (.ret false) (fun i x hx hi=>by
   have h2:decide ((i:Int) < (c.length:Int)) = true:=by simpa using hi
   unfold r09_Few_l0;simp only [h2,cond_true,idx_nat hx,pure_bind,cond_dec,wSucc (show i < 9223372036854775807 by omega),decide_eq_true_eq]
   by_cases h3:x.runs.length ≤ 30
   ·rw [if_neg (by omega),if_pos h3]
   ·rw [if_pos (by omega),if_neg h3]) (by unfold r09_Few_l0;simp)
  rw [show (0:Int) = ((0:Nat):Int) from rfl,this];have hiff:(c.zipIdx.all fun y=>decide (y.1.runs.length ≤ 30)) = c.all fun p=>decide (p.runs.length ≤ 30):=by
   rw [Bool.eq_iff_iff,List.all_eq_true,List.all_eq_true]
   constructor
   ·intro h p hp;obtain ⟨i,hi⟩:=List.mem_iff_getElem?.1 hp;exact h (p,i) (List.mem_zipIdx_iff_getElem?.2 hi)
   ·intro h y hy;exact h _ (List.mem_of_getElem? (List.mem_zipIdx_iff_getElem?.1 hy))
  rw [hiff];have h4:decide (c.length ≤ 30) = true:=by simp;omega
  rw [h4,Bool.true_and]
  cases c.all fun p=>decide (p.runs.length ≤ 30) <;> rfl
theorem few_tot {c:List TPart} (h:(decide (c.length ≤ 30) && c.all fun p=>decide (p.runs.length ≤ 30)) = true):c.length ≤ 30 ∧ totC c ≤ 900:=by
 rw [Bool.and_eq_true,decide_eq_true_eq,List.all_eq_true] at h;refine ⟨h.1,?_⟩;have:∀ l:List TPart,(∀ p ∈ l,decide (p.runs.length ≤ 30) = true) → totC l ≤ l.length * 30:=by
  intro l
  induction l with
  | nil=>intro _;simp [totC]
  | cons p r ih=>
   intro hl;have e:totC (p :: r) = p.runs.length + totC r:=by simp [totC]
   have h1:=ih fun q hq=>hl q (by simp [hq])
   have h2:=hl p (by simp);simp only [decide_eq_true_eq] at h2;simp only [List.length_cons];omega
 have:=this c h.2;omega


theorem dotsC_snoc (l:List TDot) (d:TDot):dotsC (l ++ [d]) = dotsC l ++ if V.goodD d = true then [⟨d.dev,[⟨d.n,d.n⟩]⟩] else []:=by
 unfold dotsC;rw [List.filter_append,List.map_append]
 congr 1
 by_cases h:V.goodD d = true <;> simp [h]
theorem or_norm (a b:List TPart):opC (· || ·) (normC a) b = normC (a ++ b):=(canon_op rfl _ _).ext (canon_norm _) fun k n=>by rw [has_opC rfl,has_normC,has_normC,hasC_app]
theorem ok_dots {l:List TDot} (h:l.length ≤ 400000000):Ok (normC (dotsC l)):=⟨fun p hp=>by have:=((canon_norm (dotsC l)).nf p hp).1;omega,by have:=len_normC (dotsC l);have:=dots_len l;omega,by have:=tot_normC (dotsC l);have:=dots_tot l;omega⟩
theorem rOf_eq (l:List TDot) (h:l.length ≤ 400000000):r09_Of l = pure (normC (dotsC l)):=by
 unfold r09_Of;have:=loopL (body:=r09_Of_l0 l) l (fun i (t:List TPart)=>(t,(i:Int))) (fun t d=>if V.goodD d = true then opC (· || ·) t [⟨d.dev,[⟨d.n,d.n⟩]⟩] else t) (fun t=>pure t) (fun i t=>t = normC (dotsC (l.take i))) (fun i x t hx hi ht=>by
  have h1:decide ((i:Int) < (l.length:Int)) = true:=by simpa using hi
  have hok:Ok t:=by rw [ht];exact ok_dots (by rw [List.length_take];omega)
  have hnext:(if V.goodD x = true then opC (· || ·) t [⟨x.dev,[⟨x.n,x.n⟩]⟩] else t) = normC (dotsC (l.take (i + 1))):=by
   rw [List.take_add_one,hx,Option.toList,dotsC_snoc,ht]
   split
   ·exact or_norm _ _
   ·rw [List.append_nil]
  refine ⟨?_,hnext⟩;unfold r09_Of_l0;simp only [h1,cond_true,idx_nat hx,pure_bind,V.r07_Good_eq,det_pure,wSucc (show i < 9223372036854775807 by omega)]
  by_cases hg:V.goodD x = true
  ·have h2:=V.goodD_iff.1 hg;rw [if_pos hg,hg,cond_true,rJoin_eq t _ hok ⟨fun p hp=>by rw [List.mem_singleton] at hp;subst hp;show 0 ≤ x.dev;omega,by simp,by simp [totC]⟩,det_pure,pure_bind,pure_bind]
  ·have hg':V.goodD x = false:=by simpa using hg
   rw [if_neg hg,hg',cond_false,pure_bind]) (fun t _=>by unfold r09_Of_l0;simp [pure_bind]) [] (by rw [List.take_zero];exact (norm_canon canon_nil).symm)
 rw [show (([]:List TPart),(0:Int)) = ([],((0:Nat):Int)) from rfl,this,pure_bind];have key:∀ (q pre:List TDot),q.foldl (fun t d=>if V.goodD d = true then opC (· || ·) t [⟨d.dev,[⟨d.n,d.n⟩]⟩] else t) (normC (dotsC pre)) = normC (dotsC (pre ++ q)):=by
  intro q
  induction q with
  | nil=>intro pre;rw [List.append_nil];rfl
  | cons d r ih=>
   intro pre;rw [List.foldl_cons];have:(if V.goodD d = true then opC (· || ·) (normC (dotsC pre)) [⟨d.dev,[⟨d.n,d.n⟩]⟩] else normC (dotsC pre)) = normC (dotsC (pre ++ [d])):=by
    rw [dotsC_snoc]
    split
    ·exact or_norm _ _
    ·rw [List.append_nil]
   rw [this,ih,List.append_assoc];rfl
 have h2:=key l [];rw [show normC (dotsC []) = [] from norm_canon canon_nil,List.nil_append] at h2;rw [h2]
theorem ok_few {c:List TPart} (o:∀ p ∈ c,0 ≤ p.dev) (h:c.length ≤ 30 ∧ totC c ≤ 900):Ok c:=⟨o,by omega,by omega⟩
end Go.Ep.M.C

namespace Go.Ep.M.I
open Go

abbrev lI : Int → Int → Bool:=Go.Sort.ltInt
theorem less_eq (x y:Int):cmp_Less_uint16 x y = pure (lI x y):=by
 unfold cmp_Less_uint16 cmp_isNaN_uint16 lI Go.Sort.ltInt;simp only [decide_true,Bool.not_true,det_pure,pure_bind,cond_false]
section
variable {d:Array Int}
theorem rd {i:Nat} (h:i < d.size):idx d.toList (i:Int) = pure d[i]!:=idx_nat (by rw [getElem!_pos d i h];simp [h])
theorem rdI {β:Type} {l:List Int} {i:Nat} (h:i < l.length) (K:M β):((idx l (i:Int)).bind fun _=>K) = K:=by
 rw [idx_nat (List.getElem?_eq_getElem h),pure_bind]
theorem setset (i j:Nat):List.set (List.set d.toList (Int.toNat (i:Int)) d[j]!) (Int.toNat (j:Int)) d[i]! = (Go.Sort.swp d i j).toList:=by
 simp [Go.Sort.swp]
end
theorem wS {i:Nat} (h:i ≤ 5000):IntKind.i64.wrap ((i:Int) + 1) = ((i + 1:Nat):Int):=wSucc (by omega)
theorem wP {i:Nat} (h:i ≤ 5000):IntKind.i64.wrap (((i + 1:Nat):Int) - 1) = (i:Int):=by rw [wI64 (by omega) (by omega)];omega
theorem wP' {i:Nat} (h0:1 ≤ i) (h:i ≤ 5000):IntKind.i64.wrap ((i:Int) - 1) = ((i - 1:Nat):Int):=by rw [wI64 (by omega) (by omega)];omega
theorem wA {i j:Nat} (h:i ≤ 5000) (h':j ≤ 5000):IntKind.i64.wrap ((i:Int) + (j:Int)) = ((i + j:Nat):Int):=by rw [wI64 (by omega) (by omega)];omega
theorem wD {i j:Nat} (h:j ≤ i) (h':i ≤ 5000):IntKind.i64.wrap ((i:Int) - (j:Int)) = ((i - j:Nat):Int):=by rw [wI64 (by omega) (by omega)];omega

theorem insI_size (a:Nat):∀ (j:Nat) (d:Array Int),(Go.Sort.insInner lI a j d).size = d.size
 | 0,_=>rfl
 | j + 1,d=>by
  unfold Go.Sort.insInner
  split
  ·rw [insI_size,Go.Sort.size_swp]
  ·rfl
theorem ins_body (a j:Nat) (d:Array Int) (hj:j + 1 < d.size) (hN:d.size ≤ 1000):slices_insertionSortOrdered_uint16_o_l0 (a:Int) (((j + 1:Nat):Int),d.toList) = if (decide (j + 1 > a) && lI d[j + 1]! d[j]!) = true then pure (.next ((j:Int),(Go.Sort.swp d (j + 1) j).toList)) else pure (.done d.toList):=by
 unfold slices_insertionSortOrdered_uint16_o_l0;have e1:=wP (i:=j) (by omega)
 by_cases h:j + 1 > a
 ·have hd:decide ((a:Int) < ((j + 1:Nat):Int)) = true:=decide_eq_true (by omega);simp only [hd,cond_true,e1];rw [rd hj,pure_bind,rd (show j < d.size by omega),pure_bind,less_eq,det_pure,pure_bind,pure_bind]
  cases hc:lI d[j + 1]! d[j]!
  ·simp
  ·rw [cond_true,pure_bind,pure_bind,pure_bind,rdI,setset]
   ·simp [h]
   ·simp;omega
 ·have hd:decide ((a:Int) < ((j + 1:Nat):Int)) = false:=decide_eq_false (by omega);simp only [hd,cond_false,pure_bind];simp [h]
theorem ins0 (a:Nat):∀ (j:Nat) (d:Array Int),j < d.size → d.size ≤ 1000 → loop (slices_insertionSortOrdered_uint16_o_l0 (a:Int)) ((j:Int),d.toList) = pure (Go.Sort.insInner lI a j d).toList
 | 0,d,_,_=>loop_done (by
   unfold slices_insertionSortOrdered_uint16_o_l0;have hd:decide ((a:Int) < ((0:Nat):Int)) = false:=decide_eq_false (by omega);simp only [hd,cond_false,pure_bind]
   rfl)
 | j + 1,d,hj,hN=>by
  have hb:=ins_body a j d hj hN;unfold Go.Sort.insInner
  split
  ·rename_i hc
   rw [if_pos hc] at hb;rw [loop_next hb];exact ins0 a j _ (by rw [Go.Sort.size_swp];omega) (by rw [Go.Sort.size_swp];omega)
  ·rename_i hc
   rw [if_neg hc] at hb;exact loop_done hb
theorem ins1 (a b:Nat):∀ (n i:Nat) (d:Array Int),b - i = n → i ≤ 1000 → b ≤ d.size → d.size ≤ 1000 → loop (slices_insertionSortOrdered_uint16_o_l1 (b:Int) (a:Int)) ((i:Int),d.toList) = pure (Go.Sort.insOuter lI a b i d).toList:=by
 intro n
 induction n with
 | zero=>
  intro i d hn _ hb hN;rw [Go.Sort.insOuter,if_neg (by omega)];refine loop_done ?_;unfold slices_insertionSortOrdered_uint16_o_l1;have hd:decide ((i:Int) < (b:Int)) = false:=decide_eq_false (by omega);simp only [hd,cond_false]
 | succ n ih=>
  intro i d hn hi hb hN;rw [Go.Sort.insOuter,if_pos (by omega)];rw [loop_next (s':=(((i + 1:Nat):Int),(Go.Sort.insInner lI a i d).toList)) (by
   unfold slices_insertionSortOrdered_uint16_o_l1;have hd:decide ((i:Int) < (b:Int)) = true:=decide_eq_true (by omega);simp only [hd,cond_true];rw [ins0 a i d (by omega) hN,pure_bind,wS (by omega)])]
  exact ih (i + 1) _ (by omega) (by omega) (by rw [insI_size];exact hb) (by rw [insI_size];exact hN)
theorem ins_eq (a b:Nat) (d:Array Int) (hb:b ≤ d.size) (hab:a ≤ b) (hN:d.size ≤ 900):slices_insertionSortOrdered_uint16_o (a:Int) (b:Int) d.toList = pure (Go.Sort.insertionSort lI d a b).toList:=by
 unfold slices_insertionSortOrdered_uint16_o Go.Sort.insertionSort;rw [wS (by omega)];exact ins1 a b _ _ d rfl (by omega) hb (by omega)

theorem sift_size (hi first:Nat):∀ (n root:Nat) (d:Array Int),hi - root ≤ n → (Go.Sort.siftDown lI hi first root d).size = d.size:=by
 intro n
 induction n with
 | zero=>intro root d h;rw [Go.Sort.siftDown,dif_pos (by omega)]
 | succ n ih=>
  intro root d h;rw [Go.Sort.siftDown]
  split
  ·rfl
  ·split
   ·split
    ·rfl
    ·split
     ·rw [ih _ _ (by omega),Go.Sort.size_swp]
     ·rfl
   ·split
    ·rfl
    ·rw [ih _ _ (by omega),Go.Sort.size_swp]
theorem sift0 (hi first:Nat):∀ (n root:Nat) (d:Array Int),hi - root ≤ n → root ≤ 1000 → first + hi ≤ d.size → d.size ≤ 1000 → loop (slices_siftDownOrdered_uint16_o_l0 (hi:Int) (first:Int)) ((root:Int),d.toList) = pure (Go.Sort.siftDown lI hi first root d).toList:=by
 have e1:∀ {root:Nat},root ≤ 1000 → IntKind.i64.wrap (IntKind.i64.wrap (2 * (root:Int)) + 1) = ((2 * root + 1:Nat):Int):=fun {root} h=>by
  rw [wI64 (n:=2 * (root:Int)) (by omega) (by omega),wI64 (by omega) (by omega)];omega
 have stop:∀ (root:Nat) (d:Array Int),root ≤ 1000 → 2 * root + 1 ≥ hi → loop (slices_siftDownOrdered_uint16_o_l0 (hi:Int) (first:Int)) ((root:Int),d.toList) = pure (Go.Sort.siftDown lI hi first root d).toList:=fun root d hr h=>by
  rw [Go.Sort.siftDown,dif_pos h];refine loop_done ?_;unfold slices_siftDownOrdered_uint16_o_l0;have hd:decide ((hi:Int) ≤ ((2 * root + 1:Nat):Int)) = true:=decide_eq_true (by omega);simp only [e1 hr,hd,cond_true]
 intro n
 induction n with
 | zero=>intro root d h hr hs hN;exact stop root d hr (by omega)
 | succ n ih=>
  intro root d h hr hs hN
  by_cases h1:2 * root + 1 ≥ hi
  ·exact stop root d hr h1
  have hd:decide ((hi:Int) ≤ ((2 * root + 1:Nat):Int)) = false:=decide_eq_false (by omega);have e2:IntKind.i64.wrap (((2 * root + 1:Nat):Int) + 1) = ((2 * root + 2:Nat):Int):=wS (by omega);have e3:IntKind.i64.wrap ((first:Int) + ((2 * root + 1:Nat):Int)) = ((first + (2 * root + 1):Nat):Int):=wA (by omega) (by omega);have e4:IntKind.i64.wrap (((first + (2 * root + 1):Nat):Int) + 1) = ((first + (2 * root + 1) + 1:Nat):Int):=wS (by omega);have e5:IntKind.i64.wrap ((first:Int) + (root:Int)) = ((first + root:Nat):Int):=wA (by omega) (by omega);have e6:IntKind.i64.wrap ((first:Int) + ((2 * root + 2:Nat):Int)) = ((first + (2 * root + 2):Nat):Int):=wA (by omega) (by omega);have hr0:first + root < d.size:=by omega
  have hr1:first + (2 * root + 1) < d.size:=by omega
  rw [Go.Sort.siftDown,dif_neg h1]
  split
  ·rename_i hc
   obtain ⟨hc1,hc2⟩:=(Bool.and_eq_true _ _).mp hc;have hc1':=of_decide_eq_true hc1;have hr2:first + (2 * root + 2) < d.size:=by omega
   have hd2:decide (((2 * root + 2:Nat):Int) < (hi:Int)) = true:=decide_eq_true (by omega);have hbd:slices_siftDownOrdered_uint16_o_l0 (hi:Int) (first:Int) ((root:Int),d.toList) = if (!lI d[first + root]! d[first + (2 * root + 2)]!) = true then pure (.done d.toList) else pure (.next (((2 * root + 2:Nat):Int),(Go.Sort.swp d (first + root) (first + (2 * root + 2))).toList)):=by
    unfold slices_siftDownOrdered_uint16_o_l0;simp only [e1 hr,e2,e3,e4,e5,hd,hd2,cond_true,cond_false];rw [rd hr1,pure_bind,rd (show first + (2 * root + 1) + 1 < d.size by omega),pure_bind,less_eq,det_pure,pure_bind,pure_bind,hc2,cond_true,pure_bind];simp only [e6];rw [rd hr0,pure_bind,rd hr2,pure_bind,less_eq,det_pure,pure_bind]
    cases hl:lI d[first + root]! d[first + (2 * root + 2)]!
    ·rfl
    ·rw [Bool.not_true,cond_false,pure_bind,pure_bind,pure_bind,rdI,setset]
     ·rfl
     ·simp;omega
   split
   ·rename_i hq
    rw [if_pos hq] at hbd;exact loop_done hbd
   ·rename_i hq
    rw [if_neg hq] at hbd
    try rw [dif_pos hc1']
    rw [loop_next hbd];exact ih _ _ (by omega) (by omega) (by rw [Go.Sort.size_swp];exact hs) (by rw [Go.Sort.size_swp];exact hN)
  ·rename_i hc
   have hbd:slices_siftDownOrdered_uint16_o_l0 (hi:Int) (first:Int) ((root:Int),d.toList) = if (!lI d[first + root]! d[first + (2 * root + 1)]!) = true then pure (.done d.toList) else pure (.next (((2 * root + 1:Nat):Int),(Go.Sort.swp d (first + root) (first + (2 * root + 1))).toList)):=by
    unfold slices_siftDownOrdered_uint16_o_l0;have hv:(cond (decide (((2 * root + 2:Nat):Int) < (hi:Int))) ((idx d.toList ((first + (2 * root + 1):Nat):Int)).bind fun x=>(idx d.toList ((first + (2 * root + 1) + 1:Nat):Int)).bind fun y=>(det (cmp_Less_uint16 x y)).bind fun v=>pure v) (pure false):M Bool) = pure false:=by
     by_cases hq:2 * root + 2 < hi
     ·have hd2:decide (((2 * root + 2:Nat):Int) < (hi:Int)) = true:=decide_eq_true (by omega);rw [hd2,cond_true,rd hr1,pure_bind,rd (show first + (2 * root + 1) + 1 < d.size by omega),pure_bind,less_eq,det_pure,pure_bind];have:lI d[first + (2 * root + 1)]! d[first + (2 * root + 1) + 1]! = false:=by
       cases hz:lI d[first + (2 * root + 1)]! d[first + (2 * root + 1) + 1]!
       ·rfl
       ·exact absurd (by rw [Bool.and_eq_true];exact ⟨decide_eq_true hq,hz⟩) hc
      rw [this]
     ·have hd2:decide (((2 * root + 2:Nat):Int) < (hi:Int)) = false:=decide_eq_false (by omega);rw [hd2,cond_false]
    simp only [e1 hr,e2,e3,e4,e5,hd,cond_false];rw [hv,pure_bind,cond_false,pure_bind];simp only [e3];rw [rd hr0,pure_bind,rd hr1,pure_bind,less_eq,det_pure,pure_bind]
    cases hl:lI d[first + root]! d[first + (2 * root + 1)]!
    ·rfl
    ·rw [Bool.not_true,cond_false,pure_bind,pure_bind,pure_bind,rdI,setset]
     ·rfl
     ·simp;omega
   split
   ·rename_i hq
    rw [if_pos hq] at hbd;exact loop_done hbd
   ·rename_i hq
    rw [if_neg hq] at hbd;rw [loop_next hbd];exact ih _ _ (by omega) (by omega) (by rw [Go.Sort.size_swp];exact hs) (by rw [Go.Sort.size_swp];exact hN)
theorem sift_eq (hi first root:Nat) (d:Array Int) (hr:root ≤ 1000) (hs:first + hi ≤ d.size) (hN:d.size ≤ 1000):slices_siftDownOrdered_uint16_o (root:Int) (hi:Int) (first:Int) d.toList = pure (Go.Sort.siftDown lI hi first root d).toList:=sift0 hi first _ root d (Nat.le_refl _) hr hs hN
theorem build_size (hi first:Nat):∀ (k:Nat) (d:Array Int),(Go.Sort.heapBuild lI hi first k d).size = d.size
 | 0,_=>rfl
 | k + 1,d=>by unfold Go.Sort.heapBuild;rw [build_size,sift_size hi first _ _ _ (Nat.le_refl _)]
theorem heap0 (a b:Nat) (hab:a ≤ b):∀ (k:Nat) (d:Array Int),k ≤ 1000 → b ≤ d.size → d.size ≤ 1000 → loop (slices_heapSortOrdered_uint16_o_l0 (b:Int) (a:Int)) ((k:Int) - 1,d.toList) = pure (Go.Sort.heapBuild lI (b - a) a k d).toList
 | 0,d,_,_,_=>loop_done (by
   unfold slices_heapSortOrdered_uint16_o_l0;have hd:decide ((0:Int) ≤ ((0:Nat):Int) - 1) = false:=rfl;simp only [hd,cond_false]
   rfl)
 | k + 1,d,hk,hb,hN=>by
  rw [show (((k + 1:Nat):Int) - 1) = (k:Int) by omega];unfold Go.Sort.heapBuild;rw [loop_next (s':=((k:Int) - 1,(Go.Sort.siftDown lI (b - a) a k d).toList)) (by
   unfold slices_heapSortOrdered_uint16_o_l0;have hd:decide ((0:Int) ≤ (k:Int)) = true:=decide_eq_true (by omega);simp only [hd,cond_true];rw [wD hab (by omega),sift_eq _ _ _ _ (by omega) (by omega) hN,det_pure,pure_bind,need_true (by simp [sift_size (b - a) a _ k d (Nat.le_refl _)]),wI64 (by omega) (by omega)])]
  exact heap0 a b hab k _ (by omega) (by rw [sift_size _ _ _ _ _ (Nat.le_refl _)];exact hb) (by rw [sift_size _ _ _ _ _ (Nat.le_refl _)];exact hN)
theorem heap1 (a:Nat):∀ (k:Nat) (d:Array Int),a + k ≤ d.size → d.size ≤ 1000 → loop (slices_heapSortOrdered_uint16_o_l1 (a:Int)) ((k:Int) - 1,d.toList) = pure (Go.Sort.heapPop lI a k d).toList
 | 0,d,_,_=>loop_done (by
   unfold slices_heapSortOrdered_uint16_o_l1;have hd:decide ((0:Int) ≤ ((0:Nat):Int) - 1) = false:=rfl;simp only [hd,cond_false]
   rfl)
 | k + 1,d,hk,hN=>by
  have hz:(Go.Sort.siftDown lI k a 0 (Go.Sort.swp d a (a + k))).size = d.size:=by rw [sift_size _ _ _ _ _ (Nat.le_refl _),Go.Sort.size_swp]
  rw [show (((k + 1:Nat):Int) - 1) = (k:Int) by omega];unfold Go.Sort.heapPop;rw [loop_next (s':=((k:Int) - 1,(Go.Sort.siftDown lI k a 0 (Go.Sort.swp d a (a + k))).toList)) (by
   unfold slices_heapSortOrdered_uint16_o_l1;have hd:decide ((0:Int) ≤ (k:Int)) = true:=decide_eq_true (by omega);simp only [hd,cond_true];rw [wA (by omega) (by omega),rd (show a + k < d.size by omega),pure_bind,rd (show a < d.size by omega),pure_bind,pure_bind,rdI,setset,show (0:Int) = ((0:Nat):Int) from rfl,sift_eq _ _ _ _ (by omega) (by rw [Go.Sort.size_swp];omega) (by rw [Go.Sort.size_swp];exact hN),det_pure,pure_bind,need_true (by simp [hz]),wI64 (by omega) (by omega)];simp;omega)]
  exact heap1 a k _ (by rw [hz];omega) (by rw [hz];exact hN)
theorem heap_eq (a b:Nat) (d:Array Int) (hab:a < b) (hb:b ≤ d.size) (hN:d.size ≤ 900):slices_heapSortOrdered_uint16_o (a:Int) (b:Int) d.toList = pure (Go.Sort.heapSort lI d a b).toList:=by
 unfold slices_heapSortOrdered_uint16_o Go.Sort.heapSort;have e1:IntKind.i64.wrap (Int.tdiv (IntKind.i64.wrap ((((b - a:Nat)):Int) - 1)) 2) = ((((b - a - 1) / 2 + 1:Nat)):Int) - 1:=by
  rw [wP' (by omega) (by omega),show Int.tdiv (((b - a - 1:Nat)):Int) 2 = ((((b - a - 1) / 2:Nat)):Int) from rfl,wI64 (by omega) (by omega)];omega
 rw [wD (by omega) (by omega),e1,heap0 a b (by omega) _ _ (by omega) hb (by omega),pure_bind,wI64 (by omega) (by omega)];exact heap1 a (b - a) _ (by rw [build_size];omega) (by rw [build_size];omega)


theorem scanUp_loop {body:Int → M (Step Int Int)} (p:Int → Bool) (d:Array Int) (j:Nat) (hb:∀ i:Nat,i ≤ 2000 → body (i:Int) = if (decide (i ≤ j) && p d[i]!) = true then pure (.next ((i + 1:Nat):Int)) else pure (.done (i:Int))) (hj:j ≤ 1000) :
  ∀ n i:Nat,j + 1 - i = n → i ≤ 1001 → loop body (i:Int) = pure ((Go.Sort.scanUp p d j i:Nat):Int):=by
 intro n
 induction n with
 | zero=>
  intro i hn hi;rw [Go.Sort.scanUp];have hc:¬ (decide (i ≤ j) && p d[i]!) = true:=by
   have:decide (i ≤ j) = false:=decide_eq_false (by omega);rw [this];simp
  have h1:=hb i (by omega);rw [if_neg hc] at h1;rw [if_neg hc];exact loop_done h1
 | succ n ih=>
  intro i hn hi;rw [Go.Sort.scanUp];have h1:=hb i (by omega)
  split
  ·rename_i hc
   rw [if_pos hc] at h1;rw [loop_next h1];exact ih (i + 1) (by omega) (by omega)
  ·rename_i hc
   rw [if_neg hc] at h1;exact loop_done h1
theorem scanDown_loop {body:Int → M (Step Int Int)} (p:Int → Bool) (d:Array Int) (i N:Nat) (hi:1 ≤ i) (hb:∀ j:Nat,j < N → body (j:Int) = if (decide (i ≤ j) && p d[j]!) = true then pure (.next ((j - 1:Nat):Int)) else pure (.done (j:Int))) :
  ∀ j:Nat,j < N → loop body (j:Int) = pure ((Go.Sort.scanDown p d i j:Nat):Int)
 | 0,hj=>by
  have h1:=hb 0 hj;have hc:¬ (decide (i ≤ 0) && p d[0]!) = true:=by
   have:decide (i ≤ 0) = false:=decide_eq_false (by omega);rw [this];simp
  rw [if_neg hc] at h1;exact loop_done h1
 | j + 1,hj=>by
  have h1:=hb (j + 1) hj;rw [Go.Sort.scanDown]
  split
  ·rename_i hc
   rw [if_pos hc] at h1;rw [loop_next h1];exact scanDown_loop p d i N hi hb j (by omega)
  ·rename_i hc
   rw [if_neg hc] at h1;exact loop_done h1
theorem scanSorted_loop {body:Int → M (Step Int Int)} (d:Array Int) (b:Nat) (hb:∀ i:Nat,1 ≤ i → i ≤ 2000 → body (i:Int) = if (decide (i < b) && !lI d[i]! d[i - 1]!) = true then pure (.next ((i + 1:Nat):Int)) else pure (.done (i:Int))) (hj:b ≤ 1000) :
  ∀ n i:Nat,b - i = n → 1 ≤ i → i ≤ 1001 → loop body (i:Int) = pure ((Go.Sort.scanSorted lI d b i:Nat):Int):=by
 intro n
 induction n with
 | zero=>
  intro i hn h0 hi;rw [Go.Sort.scanSorted];have hc:¬ (decide (i < b) && !lI d[i]! d[i - 1]!) = true:=by
   have:decide (i < b) = false:=decide_eq_false (by omega);rw [this];simp
  have h1:=hb i h0 (by omega);rw [if_neg hc] at h1;rw [if_neg hc];exact loop_done h1
 | succ n ih=>
  intro i hn h0 hi;rw [Go.Sort.scanSorted];have h1:=hb i h0 (by omega)
  split
  ·rename_i hc
   rw [if_pos hc] at h1;rw [loop_next h1];exact ih (i + 1) (by omega) (by omega) (by omega)
  ·rename_i hc
   rw [if_neg hc] at h1;exact loop_done h1

theorem pt0 {b a pivot:Nat} {row:List Int} {x y:Int} {d:Array Int} (hd:List.set (List.set row (Int.toNat (a:Int)) x) (Int.toNat (pivot:Int)) y = d.toList) (hb:1 ≤ b) (hs:b ≤ d.size) (ha:a < d.size) (hN:d.size ≤ 900) (i:Nat) (hi:i ≤ 1001) :
  loop (slices_partitionOrdered_uint16_o_l0 (b:Int) row (a:Int) x (pivot:Int) y) (i:Int) = pure ((Go.Sort.scanUp (fun z=>lI z d[a]!) d (b - 1) i:Nat):Int):=by
 refine scanUp_loop _ d (b - 1) (fun i hi=>?_) (by omega) _ i rfl hi;unfold slices_partitionOrdered_uint16_o_l0;rw [wP' hb (by omega),hd,wS (by omega)]
 by_cases h:i ≤ b - 1
 ·rw [show decide ((i:Int) ≤ ((b - 1:Nat):Int)) = true from decide_eq_true (by omega),cond_true,rd (show i < d.size by omega),pure_bind,rd ha,pure_bind,less_eq,det_pure,pure_bind,pure_bind];simp only [h,decide_true,Bool.true_and]
  cases lI d[i]! d[a]! <;> rfl
 ·rw [show decide ((i:Int) ≤ ((b - 1:Nat):Int)) = false from decide_eq_false (by omega),cond_false,pure_bind];simp [h]
theorem pt1 {a pivot i:Nat} {row:List Int} {x y:Int} {d:Array Int} (hd:List.set (List.set row (Int.toNat (a:Int)) x) (Int.toNat (pivot:Int)) y = d.toList) (h1:1 ≤ i) (ha:a < d.size) (hN:d.size ≤ 900) (j:Nat) (hj:j < d.size) :
  loop (slices_partitionOrdered_uint16_o_l1 (i:Int) row (a:Int) x (pivot:Int) y) (j:Int) = pure ((Go.Sort.scanDown (fun z=>!lI z d[a]!) d i j:Nat):Int):=by
 refine scanDown_loop _ d i d.size h1 (fun j hj=>?_) j hj;unfold slices_partitionOrdered_uint16_o_l1;rw [hd]
 by_cases h:i ≤ j
 ·rw [show decide ((i:Int) ≤ (j:Int)) = true from decide_eq_true (by omega),cond_true,rd hj,pure_bind,rd ha,pure_bind,less_eq,det_pure,pure_bind,pure_bind,wP' (by omega) (by omega)];simp only [h,decide_true,Bool.true_and]
  cases lI d[j]! d[a]! <;> rfl
 ·rw [show decide ((i:Int) ≤ (j:Int)) = false from decide_eq_false (by omega),cond_false,pure_bind];simp [h]
theorem pt2 {a j:Nat} {d:Array Int} (hj:j < d.size) (ha:a < d.size) (hN:d.size ≤ 900) (i:Nat) (hi:i ≤ 1001) :
  loop (slices_partitionOrdered_uint16_o_l2 (j:Int) d.toList (a:Int)) (i:Int) = pure ((Go.Sort.scanUp (fun z=>lI z d[a]!) d j i:Nat):Int):=by
 refine scanUp_loop _ d j (fun i hi=>?_) (by omega) _ i rfl hi;unfold slices_partitionOrdered_uint16_o_l2;rw [wS (by omega)]
 by_cases h:i ≤ j
 ·rw [show decide ((i:Int) ≤ (j:Int)) = true from decide_eq_true (by omega),cond_true,rd (show i < d.size by omega),pure_bind,rd ha,pure_bind,less_eq,det_pure,pure_bind,pure_bind];simp only [h,decide_true,Bool.true_and]
  cases lI d[i]! d[a]! <;> rfl
 ·rw [show decide ((i:Int) ≤ (j:Int)) = false from decide_eq_false (by omega),cond_false,pure_bind];simp [h]
theorem pt3 {a i:Nat} {d:Array Int} (h1:1 ≤ i) (ha:a < d.size) (hN:d.size ≤ 900) (j:Nat) (hj:j < d.size) :
  loop (slices_partitionOrdered_uint16_o_l3 (i:Int) d.toList (a:Int)) (j:Int) = pure ((Go.Sort.scanDown (fun z=>!lI z d[a]!) d i j:Nat):Int):=by
 refine scanDown_loop _ d i d.size h1 (fun j hj=>?_) j hj;unfold slices_partitionOrdered_uint16_o_l3
 by_cases h:i ≤ j
 ·rw [show decide ((i:Int) ≤ (j:Int)) = true from decide_eq_true (by omega),cond_true,rd hj,pure_bind,rd ha,pure_bind,less_eq,det_pure,pure_bind,pure_bind,wP' (by omega) (by omega)];simp only [h,decide_true,Bool.true_and]
  cases lI d[j]! d[a]! <;> rfl
 ·rw [show decide ((i:Int) ≤ (j:Int)) = false from decide_eq_false (by omega),cond_false,pure_bind];simp [h]
theorem pt4 (a:Nat):∀ (n i j:Nat) (d:Array Int),j + 1 - i ≤ n → a < i → i ≤ 1001 → j < d.size → d.size ≤ 900 → a < d.size →
  loop (slices_partitionOrdered_uint16_o_l4 (a:Int)) ((i:Int),(j:Int),d.toList) = pure (((Go.Sort.partLoop lI a i j d).1:Int),(Go.Sort.partLoop lI a i j d).2.toList):=by
 intro n
 induction n with
 | zero=>
  intro i j d hn hai hi hj hN ha;have h2:=pt2 (a:=a) hj ha hN i hi;have h3:=pt3 (a:=a) (i:=Go.Sort.scanUp (fun z=>lI z d[a]!) d j i) (by have:=Go.Sort.scanUp_ge (fun z=>lI z d[a]!) d j i;omega) ha hN j hj;have g1:=Go.Sort.scanUp_ge (fun z=>lI z d[a]!) d j i;have g2:=Go.Sort.scanDown_le (fun z=>!lI z d[a]!) d (Go.Sort.scanUp (fun z=>lI z d[a]!) d j i) j;rw [Go.Sort.partLoop_eq,if_pos (by omega)];refine loop_done ?_;unfold slices_partitionOrdered_uint16_o_l4;simp only [h2,pure_bind,h3];rw [decide_eq_true (by omega),cond_true]
 | succ n ih=>
  intro i j d hn hai hi hj hN ha;have h2:=pt2 (a:=a) hj ha hN i hi;have h3:=pt3 (a:=a) (i:=Go.Sort.scanUp (fun z=>lI z d[a]!) d j i) (by have:=Go.Sort.scanUp_ge (fun z=>lI z d[a]!) d j i;omega) ha hN j hj;have g1:=Go.Sort.scanUp_ge (fun z=>lI z d[a]!) d j i;have g2:=Go.Sort.scanDown_le (fun z=>!lI z d[a]!) d (Go.Sort.scanUp (fun z=>lI z d[a]!) d j i) j;rw [Go.Sort.partLoop_eq]
  generalize hI:Go.Sort.scanUp (fun z=>lI z d[a]!) d j i = i2 at h2 h3 g1 g2 ⊢
  generalize hJ:Go.Sort.scanDown (fun z=>!lI z d[a]!) d i2 j = j2 at h3 g2 ⊢
  split
  ·refine loop_done ?_;unfold slices_partitionOrdered_uint16_o_l4;simp only [h2,pure_bind,h3];rw [decide_eq_true (by omega),cond_true]
  ·rw [loop_next (s':=(((i2 + 1:Nat):Int),((j2 - 1:Nat):Int),(Go.Sort.swp d i2 j2).toList)) (by
    unfold slices_partitionOrdered_uint16_o_l4;simp only [h2,pure_bind,h3];rw [decide_eq_false (by omega),cond_false,rd (show j2 < d.size by omega),pure_bind,rd (show i2 < d.size by omega),pure_bind,pure_bind,rdI,setset,wS (by omega),wP' (by omega) (by omega)];simp;omega)]
   exact ih _ _ _ (by omega) (by omega) (by omega) (by rw [Go.Sort.size_swp];omega) (by rw [Go.Sort.size_swp];exact hN) (by rw [Go.Sort.size_swp];exact ha)
theorem partLoop_size (a:Nat):∀ (n i j:Nat) (d:Array Int),j + 1 - i ≤ n → (Go.Sort.partLoop lI a i j d).2.size = d.size:=by
 intro n
 induction n with
 | zero=>
  intro i j d hn;have g1:=Go.Sort.scanUp_ge (fun z=>lI z d[a]!) d j i;have g2:=Go.Sort.scanDown_le (fun z=>!lI z d[a]!) d (Go.Sort.scanUp (fun z=>lI z d[a]!) d j i) j;rw [Go.Sort.partLoop_eq]
  split
  ·rfl
  ·omega
 | succ n ih=>
  intro i j d hn;have g1:=Go.Sort.scanUp_ge (fun z=>lI z d[a]!) d j i;have g2:=Go.Sort.scanDown_le (fun z=>!lI z d[a]!) d (Go.Sort.scanUp (fun z=>lI z d[a]!) d j i) j;rw [Go.Sort.partLoop_eq]
  split
  ·rfl
  ·rw [ih _ _ _ (by omega),Go.Sort.size_swp]
theorem swoI : Go.Sort.SWO lI:=Go.Sort.swo_ltInt
theorem part_eq (a b pivot:Nat) (d:Array Int) (h1:a ≤ pivot) (h2:pivot < b) (hb:b ≤ d.size) (hN:d.size ≤ 900) :
  slices_partitionOrdered_uint16_o (a:Int) (b:Int) (pivot:Int) d.toList = pure (((Go.Sort.partition lI d a b pivot).1:Int),(Go.Sort.partition lI d a b pivot).2.1,(Go.Sort.partition lI d a b pivot).2.2.toList):=by
 have hsp:=Go.Sort.partition_holds (lt:=lI) swoI d a b pivot h1 h2 hb;have hss:=setset (d:=d) a pivot;have ha:a < d.size:=by omega
 have hz:(Go.Sort.swp d a pivot).size = d.size:=Go.Sort.size_swp _ _ _;unfold slices_partitionOrdered_uint16_o;rw [rd (show pivot < d.size by omega),pure_bind,rd ha,pure_bind,pure_bind,rdI (by simp;omega)];have e0:=pt0 (b:=b) hss (by omega) (by omega) (by omega) (by omega) (a + 1) (by omega);have g0:=Go.Sort.scanUp_ge (fun z=>lI z (Go.Sort.swp d a pivot)[a]!) (Go.Sort.swp d a pivot) (b - 1) (a + 1);have e1:=pt1 (i:=Go.Sort.scanUp (fun z=>lI z (Go.Sort.swp d a pivot)[a]!) (Go.Sort.swp d a pivot) (b - 1) (a + 1)) hss (by omega) (by omega) (by omega) (b - 1) (by omega);rw [wS (by omega),e0,pure_bind,wP' (by omega) (by omega),e1,pure_bind,hss];have g1:=Go.Sort.scanDown_le (fun z=>!lI z (Go.Sort.swp d a pivot)[a]!) (Go.Sort.swp d a pivot) (Go.Sort.scanUp (fun z=>lI z (Go.Sort.swp d a pivot)[a]!) (Go.Sort.swp d a pivot) (b - 1) (a + 1)) (b - 1);unfold Go.Sort.partition at hsp ⊢;simp only [] at hsp ⊢
 generalize Go.Sort.scanUp (fun z=>lI z (Go.Sort.swp d a pivot)[a]!) (Go.Sort.swp d a pivot) (b - 1) (a + 1) = i2 at *
 generalize Go.Sort.scanDown (fun z=>!lI z (Go.Sort.swp d a pivot)[a]!) (Go.Sort.swp d a pivot) i2 (b - 1) = j2 at *
 generalize Go.Sort.swp d a pivot = D at *
 by_cases hc:i2 > j2
 ·rw [decide_eq_true (show (j2:Int) < (i2:Int) by omega),cond_true];simp only [if_pos hc] at hsp ⊢;rw [rd (show a < D.size by omega),pure_bind,rd (show j2 < D.size by omega),pure_bind,pure_bind,rdI (by simp;omega),setset]
 ·rw [decide_eq_false (show ¬ (j2:Int) < (i2:Int) by omega),cond_false];simp only [if_neg hc] at hsp ⊢;have hz2:(Go.Sort.swp D i2 j2).size = D.size:=Go.Sort.size_swp _ _ _;rw [rd (show j2 < D.size by omega),pure_bind,rd (show i2 < D.size by omega),pure_bind,pure_bind,rdI (by simp;omega),setset,wS (by omega),wP' (by omega) (by omega),pt4 a _ _ _ _ (Nat.le_refl _) (by omega) (by omega) (by omega) (by omega) (by omega),pure_bind];have hz3:=partLoop_size a _ (i2 + 1) (j2 - 1) (Go.Sort.swp D i2 j2) (Nat.le_refl _)
  generalize Go.Sort.partLoop lI a (i2 + 1) (j2 - 1) (Go.Sort.swp D i2 j2) = r at *
  have hr:=hsp.2.1;simp only [];rw [rd (show a < r.2.size by omega),pure_bind,rd (show r.1 < r.2.size by omega),pure_bind,pure_bind,rdI (by simp;omega),setset]

theorem pe0 {a j:Nat} {d:Array Int} (hj:j < d.size) (ha:a < d.size) (hN:d.size ≤ 900) (i:Nat) (hi:i ≤ 1001) :
  loop (slices_partitionEqualOrdered_uint16_o_l0 (j:Int) d.toList (a:Int)) (i:Int) = pure ((Go.Sort.scanUp (fun z=>!lI d[a]! z) d j i:Nat):Int):=by
 refine scanUp_loop _ d j (fun i hi=>?_) (by omega) _ i rfl hi;unfold slices_partitionEqualOrdered_uint16_o_l0;rw [wS (by omega)]
 by_cases h:i ≤ j
 ·rw [show decide ((i:Int) ≤ (j:Int)) = true from decide_eq_true (by omega),cond_true,rd ha,pure_bind,rd (show i < d.size by omega),pure_bind,less_eq,det_pure,pure_bind,pure_bind];simp only [h,decide_true,Bool.true_and]
  cases lI d[a]! d[i]! <;> rfl
 ·rw [show decide ((i:Int) ≤ (j:Int)) = false from decide_eq_false (by omega),cond_false,pure_bind];simp [h]
theorem pe1 {a i:Nat} {d:Array Int} (h1:1 ≤ i) (ha:a < d.size) (hN:d.size ≤ 900) (j:Nat) (hj:j < d.size) :
  loop (slices_partitionEqualOrdered_uint16_o_l1 (i:Int) d.toList (a:Int)) (j:Int) = pure ((Go.Sort.scanDown (fun z=>lI d[a]! z) d i j:Nat):Int):=by
 refine scanDown_loop _ d i d.size h1 (fun j hj=>?_) j hj;unfold slices_partitionEqualOrdered_uint16_o_l1
 by_cases h:i ≤ j
 ·rw [show decide ((i:Int) ≤ (j:Int)) = true from decide_eq_true (by omega),cond_true,rd ha,pure_bind,rd hj,pure_bind,less_eq,det_pure,pure_bind,pure_bind,wP' (by omega) (by omega)];simp only [h,decide_true,Bool.true_and]
  cases lI d[a]! d[j]! <;> rfl
 ·rw [show decide ((i:Int) ≤ (j:Int)) = false from decide_eq_false (by omega),cond_false,pure_bind];simp [h]
theorem pe2 (a:Nat):∀ (n i j:Nat) (d:Array Int),j + 1 - i ≤ n → a < i → i ≤ 1001 → j < d.size → d.size ≤ 900 → a < d.size →
  loop (slices_partitionEqualOrdered_uint16_o_l2 (a:Int)) ((i:Int),(j:Int),d.toList) = pure (((Go.Sort.partEqLoop lI a i j d).1:Int),(Go.Sort.partEqLoop lI a i j d).2.toList):=by
 intro n
 induction n with
 | zero=>
  intro i j d hn hai hi hj hN ha;have h2:=pe0 (a:=a) hj ha hN i hi;have h3:=pe1 (a:=a) (i:=Go.Sort.scanUp (fun z=>!lI d[a]! z) d j i) (by have:=Go.Sort.scanUp_ge (fun z=>!lI d[a]! z) d j i;omega) ha hN j hj;have g1:=Go.Sort.scanUp_ge (fun z=>!lI d[a]! z) d j i;have g2:=Go.Sort.scanDown_le (fun z=>lI d[a]! z) d (Go.Sort.scanUp (fun z=>!lI d[a]! z) d j i) j;rw [Go.Sort.partEqLoop_eq,if_pos (by omega)];refine loop_done ?_;unfold slices_partitionEqualOrdered_uint16_o_l2;simp only [h2,pure_bind,h3];rw [decide_eq_true (by omega),cond_true]
 | succ n ih=>
  intro i j d hn hai hi hj hN ha;have h2:=pe0 (a:=a) hj ha hN i hi;have h3:=pe1 (a:=a) (i:=Go.Sort.scanUp (fun z=>!lI d[a]! z) d j i) (by have:=Go.Sort.scanUp_ge (fun z=>!lI d[a]! z) d j i;omega) ha hN j hj;have g1:=Go.Sort.scanUp_ge (fun z=>!lI d[a]! z) d j i;have g2:=Go.Sort.scanDown_le (fun z=>lI d[a]! z) d (Go.Sort.scanUp (fun z=>!lI d[a]! z) d j i) j;rw [Go.Sort.partEqLoop_eq]
  generalize hI:Go.Sort.scanUp (fun z=>!lI d[a]! z) d j i = i2 at h2 h3 g1 g2 ⊢
  generalize hJ:Go.Sort.scanDown (fun z=>lI d[a]! z) d i2 j = j2 at h3 g2 ⊢
  split
  ·refine loop_done ?_;unfold slices_partitionEqualOrdered_uint16_o_l2;simp only [h2,pure_bind,h3];rw [decide_eq_true (by omega),cond_true]
  ·rw [loop_next (s':=(((i2 + 1:Nat):Int),((j2 - 1:Nat):Int),(Go.Sort.swp d i2 j2).toList)) (by
    unfold slices_partitionEqualOrdered_uint16_o_l2;simp only [h2,pure_bind,h3];rw [decide_eq_false (by omega),cond_false,rd (show j2 < d.size by omega),pure_bind,rd (show i2 < d.size by omega),pure_bind,pure_bind,rdI,setset,wS (by omega),wP' (by omega) (by omega)];simp;omega)]
   exact ih _ _ _ (by omega) (by omega) (by omega) (by rw [Go.Sort.size_swp];omega) (by rw [Go.Sort.size_swp];exact hN) (by rw [Go.Sort.size_swp];exact ha)
theorem pe_eq (a b pivot:Nat) (d:Array Int) (h1:a ≤ pivot) (h2:pivot < b) (hb:b ≤ d.size) (hN:d.size ≤ 900) :
  slices_partitionEqualOrdered_uint16_o (a:Int) (b:Int) (pivot:Int) d.toList = pure (((Go.Sort.partitionEqual lI d a b pivot).1:Int),(Go.Sort.partitionEqual lI d a b pivot).2.toList):=by
 have hz:(Go.Sort.swp d a pivot).size = d.size:=Go.Sort.size_swp _ _ _;unfold slices_partitionEqualOrdered_uint16_o Go.Sort.partitionEqual;rw [rd (show pivot < d.size by omega),pure_bind,rd (show a < d.size by omega),pure_bind,pure_bind,rdI (by simp;omega),setset,wS (by omega),wP' (by omega) (by omega),pe2 a _ _ _ _ (Nat.le_refl _) (by omega) (by omega) (by omega) (by omega) (by omega),pure_bind]

theorem pi0 {b:Nat} {d:Array Int} (hb:b ≤ d.size) (hN:d.size ≤ 900) (i:Nat) (h0:1 ≤ i) (hi:i ≤ 1001) :
  loop (slices_partialInsertionSortOrdered_uint16_o_l0 (b:Int) d.toList) (i:Int) = pure ((Go.Sort.scanSorted lI d b i:Nat):Int):=by
 refine scanSorted_loop d b (fun i h0 hi=>?_) (by omega) _ i rfl h0 hi;unfold slices_partialInsertionSortOrdered_uint16_o_l0;rw [wS (by omega),wP' h0 (by omega)]
 by_cases h:i < b
 ·rw [show decide ((i:Int) < (b:Int)) = true from decide_eq_true (by omega),cond_true,rd (show i < d.size by omega),pure_bind,rd (show i - 1 < d.size by omega),pure_bind,less_eq,det_pure,pure_bind,pure_bind];simp only [h,decide_true,Bool.true_and]
  cases lI d[i]! d[i - 1]! <;> rfl
 ·rw [show decide ((i:Int) < (b:Int)) = false from decide_eq_false (by omega),cond_false,pure_bind];simp [h]
theorem pi_eq (a b:Nat) (d:Array Int) (hab:a < b) (h50:b - a < 50) (hb:b ≤ d.size) (hN:d.size ≤ 900) :
  slices_partialInsertionSortOrdered_uint16_o (a:Int) (b:Int) d.toList = pure ((Go.Sort.partialInsertionSort lI d a b).2,(Go.Sort.partialInsertionSort lI d a b).1.toList):=by
 unfold slices_partialInsertionSortOrdered_uint16_o Go.Sort.partialInsertionSort Go.Sort.partialIns;simp only [];have e:=pi0 hb hN (a + 1) (by omega) (by omega)
 by_cases hc:Go.Sort.scanSorted lI d b (a + 1) = b
 ·rw [if_pos hc,wS (by omega),loop_done (r:=.ret (true,d.toList)) (by
   unfold slices_partialInsertionSortOrdered_uint16_o_l3;simp only [];rw [show decide ((0:Int) < 5) = true from rfl,cond_true,e,pure_bind,hc,decide_eq_true rfl,cond_true]
   rfl),pure_bind,exk_ret]
 ·rw [if_neg hc,if_pos h50,wS (by omega),loop_done (r:=.ret (false,d.toList)) (by
   unfold slices_partialInsertionSortOrdered_uint16_o_l3;simp only [];rw [show decide ((0:Int) < 5) = true from rfl,cond_true,e,pure_bind,decide_eq_false (by omega),cond_false,wD (by omega) (by omega),decide_eq_true (by omega),cond_true]
   rfl),pure_bind,exk_ret]


theorem order2_eq (a b s:Nat) (d:Array Int) (ha:a < d.size) (hb:b < d.size) (hs:s ≤ 1000) :
  slices_order2Ordered_uint16_o1 (a:Int) (b:Int) d.toList (s:Int) = pure (((Go.Sort.order2 lI d a b s).1:Int),((Go.Sort.order2 lI d a b s).2.1:Int),((Go.Sort.order2 lI d a b s).2.2:Int)):=by
 unfold slices_order2Ordered_uint16_o1 Go.Sort.order2;rw [rd hb,pure_bind,rd ha,pure_bind,less_eq,det_pure,pure_bind,wS (by omega)]
 cases lI d[b]! d[a]! <;> rfl
theorem order2_lt {a b s N:Nat} (d:Array Int) (ha:a < N) (hb:b < N):(Go.Sort.order2 lI d a b s).1 < N ∧ (Go.Sort.order2 lI d a b s).2.1 < N:=by
 rcases Go.Sort.order2_mem lI d a b s with ⟨h1,h2⟩ | ⟨h1,h2⟩ <;> rw [h1,h2] <;> exact ⟨by assumption,by assumption⟩
theorem median_eq (a b c:Nat) (d:Array Int) (ha:a < d.size) (hb:b < d.size) (hc:c < d.size) :
  slices_medianOrdered_uint16_o1 (a:Int) (b:Int) (c:Int) d.toList 0 = pure (((Go.Sort.median lI d a b c 0).1:Int),((Go.Sort.median lI d a b c 0).2:Int)):=by
 unfold slices_medianOrdered_uint16_o1 Go.Sort.median;have h1:=order2_lt (s:=0) d ha hb;have c1:=Go.Sort.order2_count lI d a b 0;rw [show (0:Int) = ((0:Nat):Int) from rfl,order2_eq a b 0 d ha hb (by omega),det_pure,pure_bind];simp only []
 generalize Go.Sort.order2 lI d a b 0 = r1 at *
 have h2:=order2_lt (s:=r1.2.2) d h1.2 hc;have c2:=Go.Sort.order2_count lI d r1.2.1 c r1.2.2;rw [order2_eq _ _ _ d h1.2 hc (by omega),det_pure,pure_bind];simp only []
 generalize Go.Sort.order2 lI d r1.2.1 c r1.2.2 = r2 at *
 rw [order2_eq _ _ _ d h1.1 h2.1 (by omega),det_pure,pure_bind]
theorem choose_eq (a b:Nat) (d:Array Int) (hab:a + 8 ≤ b) (h50:b - a < 50) (hb:b ≤ d.size) (hN:d.size ≤ 900) :
  ∃ (p:Nat) (h:Int),slices_choosePivotOrdered_uint16_o (a:Int) (b:Int) d.toList = pure ((p:Int),h) ∧ a ≤ p ∧ p < b ∧ h ≠ 2:=by
 have eI:IntKind.i64.wrap ((a:Int) + IntKind.i64.wrap (IntKind.i64.wrap (Int.tdiv (IntKind.i64.wrap ((b:Int) - (a:Int))) 4) * 1)) = ((a + (b - a) / 4:Nat):Int):=by
  rw [wD (by omega) (by omega),show Int.tdiv (((b - a:Nat)):Int) 4 = ((((b - a) / 4:Nat)):Int) from rfl,wI64 (n:=(((b - a) / 4:Nat):Int)) (by omega) (by omega),wI64 (n:=(((b - a) / 4:Nat):Int) * 1) (by omega) (by omega),wI64 (by omega) (by omega)];omega
 have eJ:IntKind.i64.wrap ((a:Int) + IntKind.i64.wrap (IntKind.i64.wrap (Int.tdiv (IntKind.i64.wrap ((b:Int) - (a:Int))) 4) * 2)) = ((a + (b - a) / 4 * 2:Nat):Int):=by
  rw [wD (by omega) (by omega),show Int.tdiv (((b - a:Nat)):Int) 4 = ((((b - a) / 4:Nat)):Int) from rfl,wI64 (n:=(((b - a) / 4:Nat):Int)) (by omega) (by omega),wI64 (n:=(((b - a) / 4:Nat):Int) * 2) (by omega) (by omega),wI64 (by omega) (by omega)];omega
 have eK:IntKind.i64.wrap ((a:Int) + IntKind.i64.wrap (IntKind.i64.wrap (Int.tdiv (IntKind.i64.wrap ((b:Int) - (a:Int))) 4) * 3)) = ((a + (b - a) / 4 * 3:Nat):Int):=by
  rw [wD (by omega) (by omega),show Int.tdiv (((b - a:Nat)):Int) 4 = ((((b - a) / 4:Nat)):Int) from rfl,wI64 (n:=(((b - a) / 4:Nat):Int)) (by omega) (by omega),wI64 (n:=(((b - a) / 4:Nat):Int) * 3) (by omega) (by omega),wI64 (by omega) (by omega)];omega
 have hm:=Go.Sort.median_mem lI d (a + (b - a) / 4) (a + (b - a) / 4 * 2) (a + (b - a) / 4 * 3) 0;have hc:=Go.Sort.median_count lI d (a + (b - a) / 4) (a + (b - a) / 4 * 2) (a + (b - a) / 4 * 3) 0;refine ⟨(Go.Sort.median lI d (a + (b - a) / 4) (a + (b - a) / 4 * 2) (a + (b - a) / 4 * 3) 0).1,if (Go.Sort.median lI d (a + (b - a) / 4) (a + (b - a) / 4 * 2) (a + (b - a) / 4 * 3) 0).2 = 0 then 1 else 0,?_,by omega,by omega,by split <;> decide⟩;unfold slices_choosePivotOrdered_uint16_o;rw [eI,eJ,eK,wD (by omega) (by omega),decide_eq_true (by omega),cond_true,decide_eq_false (by omega),cond_false,pure_bind];simp only [];rw [median_eq _ _ _ d (by omega) (by omega) (by omega),det_pure,pure_bind,pure_bind];simp only []
 generalize Go.Sort.median lI d (a + (b - a) / 4) (a + (b - a) / 4 * 2) (a + (b - a) / 4 * 3) 0 = r at *
 by_cases h0:r.2 = 0
 ·rw [decide_eq_true (by omega),cond_true,if_pos h0]
 ·rw [decide_eq_false (by omega),cond_false,decide_eq_false (by omega),cond_false,if_neg h0]

set_option maxRecDepth 20000
theorem len64_ex : ∃ T:List Int,((List.range 50).all fun n=>match T[n]? with | some v=>decide (0 ≤ v) && decide (v ≤ 6) && (decide (n < 8) || decide (2 ^ v.toNat ≤ 2 * n)) | none=>false) = true ∧ ∀ n:Nat,n < 50 → math_bits_Len64 (n:Int) = (idx T (n:Int)).bind fun b=>pure (IntKind.i64.wrap (0 + IntKind.i64.wrap b)):=by
 refine ⟨?T,?_,fun n hn=>?_⟩
 rotate_right
 ·unfold math_bits_Len64;rw [decide_eq_false (show ¬ (4294967296:Int) ≤ (n:Int) by omega),cond_false,pure_bind];simp only [];rw [decide_eq_false (show ¬ (65536:Int) ≤ (n:Int) by omega),cond_false,pure_bind];simp only [];rw [decide_eq_false (show ¬ (256:Int) ≤ (n:Int) by omega),cond_false,pure_bind];simp only [];rw [wU8 (show (0:Int) ≤ (n:Int) by omega) (by omega)]
 ·decide +kernel
theorem len_eq (n:Nat) (hn:n < 50):∃ v:Nat,math_bits_Len (n:Int) = pure (v:Int) ∧ v ≤ 6 ∧ (8 ≤ n → 2 ^ v ≤ 2 * n):=by
 obtain ⟨T,h1,h2⟩:=len64_ex;have h3:=List.all_eq_true.1 h1 n (List.mem_range.2 hn)
 cases hT:T[n]? with
 | none=>rw [hT] at h3;cases h3
 | some v=>
  rw [hT] at h3;simp only [Bool.and_eq_true,Bool.or_eq_true,decide_eq_true_eq] at h3;obtain ⟨⟨g0,g6⟩,g8⟩:=h3;refine ⟨v.toNat,?_,by omega,fun h8=>by rcases g8 with g | g;omega;exact g⟩;unfold math_bits_Len;rw [h2 n hn,idx_nat hT,pure_bind,det_pure,pure_bind,wI64 (n:=v) (by omega) (by omega),wI64 (by omega) (by omega)]
  congr 1
  omega

theorem bAnd_le {x y:Int} (h0:0 ≤ y) (h:y < 18446744073709551616):0 ≤ bAnd .u64 x y ∧ bAnd .u64 x y ≤ y:=by
 unfold bAnd;have h1:(BitVec.ofInt IntKind.u64.bits x &&& BitVec.ofInt IntKind.u64.bits y).toNat ≤ y.toNat:=by
  rw [BitVec.toNat_and];refine Nat.le_trans Nat.and_le_right ?_;simp only [IntKind.bits,BitVec.toNat_ofInt];omega
 rw [wU64 (by omega) (by omega)];omega
theorem bp0 (a b m:Nat) (hab:a + 8 ≤ b) (h50:b - a < 50) (hm:1 ≤ m ∧ m ≤ 2 * (b - a)):∀ (n i:Nat) (r:Int) (d:Array Int),a + (b - a) / 4 * 2 + 2 - i ≤ n → a ≤ i → i ≤ 1001 → b ≤ d.size → d.size ≤ 900 →
  ∃ d':Array Int,loop (slices_breakPatternsOrdered_uint16_o_l0 (a:Int) (b:Int) (m:Int)) ((i:Int),r,d.toList) = pure d'.toList ∧ Go.Sort.PermIn a b d d':=by
 have eJ:IntKind.i64.wrap (IntKind.i64.wrap ((a:Int) + IntKind.i64.wrap (IntKind.i64.wrap (Int.tdiv (IntKind.i64.wrap ((b:Int) - (a:Int))) 4) * 2)) + 1) = ((a + (b - a) / 4 * 2 + 1:Nat):Int) ∨ ¬ (b ≤ 900):=by
  by_cases h:b ≤ 900
  ·left
   rw [wD (by omega) (by omega),show Int.tdiv (((b - a:Nat)):Int) 4 = ((((b - a) / 4:Nat)):Int) from rfl,wI64 (n:=(((b - a) / 4:Nat):Int)) (by omega) (by omega),wI64 (n:=(((b - a) / 4:Nat):Int) * 2) (by omega) (by omega),wI64 (n:=(a:Int) + (((b - a) / 4:Nat):Int) * 2) (by omega) (by omega),wI64 (by omega) (by omega)];omega
  ·exact .inr h
 have stop:∀ (i:Nat) (r:Int) (d:Array Int),¬ i ≤ a + (b - a) / 4 * 2 + 1 → b ≤ d.size → d.size ≤ 900 →
  ∃ d':Array Int,loop (slices_breakPatternsOrdered_uint16_o_l0 (a:Int) (b:Int) (m:Int)) ((i:Int),r,d.toList) = pure d'.toList ∧ Go.Sort.PermIn a b d d':=fun i r d hi hb hN=>by
  have eJ:=eJ.resolve_right (by omega);refine ⟨d,loop_done ?_,Go.Sort.permIn_refl _ _ _⟩;unfold slices_breakPatternsOrdered_uint16_o_l0;simp only [];rw [eJ,decide_eq_false (by omega),cond_false]
 intro n
 induction n with
 | zero=>intro i r d hn ha hi hb hN;exact stop i r d (by omega) hb hN
 | succ n ih=>
  intro i r d hn ha hi hb hN
  by_cases hc:i ≤ a + (b - a) / 4 * 2 + 1
  ·have eJ:=eJ.resolve_right (by omega);have hx:∃ p q:Int,slices_xorshift_Next_o r = pure (p,q):=⟨_,_,rfl⟩
   obtain ⟨p,q,hx⟩:=hx;have hA:=bAnd_le (x:=p) (y:=(m:Int) - 1) (by omega) (by omega)
   generalize hz:bAnd .u64 p ((m:Int) - 1) = z at hA
   obtain ⟨k,rfl⟩:=Int.eq_ofNat_of_zero_le hA.1;have hex:∃ o:Nat,o < b - a ∧ (cond (decide ((((b - a:Nat)):Int) ≤ (k:Int))) (pure (IntKind.i64.wrap ((k:Int) - (((b - a:Nat)):Int)))) (pure (k:Int)):M Int) = pure (o:Int):=by
    by_cases h:b - a ≤ k
    ·exact ⟨k - (b - a),by omega,by rw [decide_eq_true (by omega),cond_true,wD h (by omega)]⟩
    ·exact ⟨k,by omega,by rw [decide_eq_false (by omega),cond_false]⟩
   obtain ⟨o,ho,he⟩:=hex;have hbd:slices_breakPatternsOrdered_uint16_o_l0 (a:Int) (b:Int) (m:Int) ((i:Int),r,d.toList) = pure (.next (((i + 1:Nat):Int),q,(Go.Sort.swp d i (a + o)).toList)):=by
    unfold slices_breakPatternsOrdered_uint16_o_l0;simp only [];rw [eJ,decide_eq_true (by omega),cond_true,hx,det_pure,pure_bind];simp only [];rw [wU64 (n:=(m:Int) - 1) (by omega) (by omega),hz,wI64 (n:=((k:Nat):Int)) (by omega) (by omega),wD (show a ≤ b by omega) (by omega),he,pure_bind,wA (by omega) (by omega),rd (show a + o < d.size by omega),pure_bind,rd (show i < d.size by omega),pure_bind,pure_bind,rdI (by simp;omega),setset,wS (by omega)]
   rw [loop_next hbd];obtain ⟨d',h1,h2⟩:=ih (i + 1) q (Go.Sort.swp d i (a + o)) (by omega) (by omega) (by omega) (by rw [Go.Sort.size_swp];exact hb) (by rw [Go.Sort.size_swp];exact hN);exact ⟨d',h1,Go.Sort.permIn_trans _ _ _ _ _ (Go.Sort.swp_permIn d a b i (a + o) ha (by omega) (by omega) (by omega) hb) h2⟩
  ·exact stop i r d hc hb hN
theorem bp_eq (a b:Nat) (d:Array Int) (hab:a + 8 ≤ b) (h50:b - a < 50) (hb:b ≤ d.size) (hN:d.size ≤ 900) :
  ∃ d':Array Int,slices_breakPatternsOrdered_uint16_o (a:Int) (b:Int) d.toList = pure d'.toList ∧ Go.Sort.PermIn a b d d':=by
 obtain ⟨v,h1,h2,h3⟩:=len_eq (b - a) h50;have hp:2 ^ v ≤ 64:=Nat.le_trans (Nat.pow_le_pow_right (by omega) h2) (by decide);have hp1:1 ≤ 2 ^ v:=Nat.one_le_two_pow;have e1:slices_nextPowerOfTwo (((b - a:Nat)):Int) = pure (((2 ^ v:Nat)):Int):=by
  unfold slices_nextPowerOfTwo;rw [wU64 (by omega) (by omega),h1,det_pure,pure_bind,need_true (by omega),Int.toNat_natCast,Nat.min_eq_left (by omega),Int.one_mul];rw [show ((2:Int) ^ v) = ((2 ^ v:Nat):Int) by simp,wU64 (by omega) (by omega)]
 have eI:IntKind.i64.wrap (IntKind.i64.wrap ((a:Int) + IntKind.i64.wrap (IntKind.i64.wrap (Int.tdiv (((b - a:Nat)):Int) 4) * 2)) - 1) = ((a + (b - a) / 4 * 2 - 1:Nat):Int):=by
  rw [show Int.tdiv (((b - a:Nat)):Int) 4 = ((((b - a) / 4:Nat)):Int) from rfl,wI64 (n:=(((b - a) / 4:Nat):Int)) (by omega) (by omega),wI64 (n:=(((b - a) / 4:Nat):Int) * 2) (by omega) (by omega),wI64 (n:=(a:Int) + (((b - a) / 4:Nat):Int) * 2) (by omega) (by omega),wI64 (by omega) (by omega)];omega
 unfold slices_breakPatternsOrdered_uint16_o;rw [wD (by omega) (by omega),decide_eq_true (by omega),cond_true,e1,det_pure,pure_bind,eI];exact bp0 a b (2 ^ v) hab h50 ⟨hp1,h3 (by omega)⟩ _ _ _ d (Nat.le_refl _) (by omega) (by omega) hb hN

abbrev Good (a b:Nat) (d d':Array Int):Prop:=Go.Sort.PermIn a b d d' ∧ Go.Sort.SortedIn lI a b d'
theorem pdq_round (self:Int → Int → Int → List Int → M (List Int)) (n:Nat)
  (hself:∀ (a b v:Nat) (d:Array Int),b - a < n → a ≤ b → b - a < 50 → b ≤ d.size → d.size ≤ 900 → v ≤ 1000 → Go.Sort.Below lI a b d → ∃ d':Array Int,self (a:Int) (b:Int) (v:Int) d.toList = pure d'.toList ∧ Good a b d d') :
  ∀ (k a b v:Nat) (wb wp:Bool) (d:Array Int),b - a ≤ k → b - a ≤ n → a ≤ b → b - a < 50 → b ≤ d.size → d.size ≤ 900 → v ≤ 1000 → Go.Sort.Below lI a b d →
   ∃ d':Array Int,loop (slices_pdqsortOrdered_uint16_o_l0 self) ((a:Int),(b:Int),(v:Int),wb,wp,d.toList) = pure d'.toList ∧ Good a b d d':=by
 intro k
 induction k with
 | zero=>
  intro a b v wb wp d hk hn hab h50 hb hN hv hB;have h:=Go.Sort.insertionSort_holds (lt:=lI) swoI d a b hab hb;refine ⟨Go.Sort.insertionSort lI d a b,loop_done ?_,h⟩;unfold slices_pdqsortOrdered_uint16_o_l0;simp only [];rw [wD hab (by omega),decide_eq_true (by omega),cond_true,ins_eq a b d hb hab hN,det_pure,pure_bind,need_true (by simpa using h.1.1)]
 | succ k ih=>
  intro a b v wb wp d hk hn hab h50 hb hN hv hB
  by_cases h12:b - a ≤ 12
  ·have h:=Go.Sort.insertionSort_holds (lt:=lI) swoI d a b hab hb;refine ⟨Go.Sort.insertionSort lI d a b,loop_done ?_,h⟩;unfold slices_pdqsortOrdered_uint16_o_l0;simp only [];rw [wD hab (by omega),decide_eq_true (by omega),cond_true,ins_eq a b d hb hab hN,det_pure,pure_bind,need_true (by simpa using h.1.1)]
  by_cases hv0:v = 0
  ·have h:=Go.Sort.heapSort_holds (lt:=lI) swoI d a b hab hb;refine ⟨Go.Sort.heapSort lI d a b,loop_done ?_,h⟩;unfold slices_pdqsortOrdered_uint16_o_l0;simp only [];rw [wD hab (by omega),decide_eq_false (by omega),cond_false,decide_eq_true (by omega),cond_true,heap_eq a b d (by omega) hb hN,det_pure,pure_bind,need_true (by simpa using h.1.1)]
  -- the patterns
  obtain ⟨d1,v1,e1,p1,hv1⟩:∃ (d1:Array Int) (v1:Nat),(cond (!wb) ((det (slices_breakPatternsOrdered_uint16_o (a:Int) (b:Int) d.toList)).bind fun y=>need (List.length y = List.length d.toList)<|pure (IntKind.i64.wrap ((v:Int) - 1),y)) (pure ((v:Int),d.toList)):M (Int × List Int)) = pure ((v1:Int),d1.toList) ∧ Go.Sort.PermIn a b d d1 ∧ v1 ≤ 1000:=by
   cases wb
   ·obtain ⟨d1,h1,h2⟩:=bp_eq a b d (by omega) h50 hb hN;exact ⟨d1,v - 1,by rw [Bool.not_false,cond_true,h1,det_pure,pure_bind,need_true (by simpa using h2.1),wP' (by omega) (by omega)],h2,by omega⟩
   ·exact ⟨d,v,rfl,Go.Sort.permIn_refl _ _ _,hv⟩
  have hb1:b ≤ d1.size:=by rw [p1.1];exact hb
  have hN1:d1.size ≤ 900:=by rw [p1.1];exact hN
  have hB1:Go.Sort.Below lI a b d1:=hB.perm hb p1;obtain ⟨pv,hint,e2,hp1,hp2,hh⟩:=choose_eq a b d1 (by omega) h50 hb1 hN1;have hps:=Go.Sort.partialInsertionSort_holds (lt:=lI) swoI d1 a b (by omega) hb1 hB1
  -- already sorted?
  obtain ⟨o,e3,h3⟩:∃ o:Ex (List Int) (Step (Int × Int × Int × Bool × Bool × List Int) (List Int)),(∀ c:Bool,c = (wb && (wp && decide (hint = 1))) → (cond c ((det (slices_partialInsertionSortOrdered_uint16_o (a:Int) (b:Int) d1.toList)).bind fun y=>need (List.length y.2 = List.length d1.toList)<|cond y.1 (pure (.ret (.done y.2))) (pure (.brk y.2))) (pure (.brk d1.toList))) = pure o) ∧
    ((∃ d':Array Int,o = .ret (.done d'.toList) ∧ Good a b d1 d') ∨ ∃ d3:Array Int,o = .brk d3.toList ∧ Go.Sort.PermIn a b d1 d3):=by
   cases hc:(wb && (wp && decide (hint = 1)))
   ·exact ⟨.brk d1.toList,fun c h=>by rw [h];rfl,.inr ⟨d1,rfl,Go.Sort.permIn_refl _ _ _⟩⟩
   ·cases hs:(Go.Sort.partialInsertionSort lI d1 a b).2
    ·exact ⟨.brk (Go.Sort.partialInsertionSort lI d1 a b).1.toList,fun c h=>by rw [h,cond_true,pi_eq a b d1 (by omega) h50 hb1 hN1,det_pure,pure_bind,need_true (by simpa using hps.1.1),hs,cond_false],.inr ⟨_,rfl,hps.1⟩⟩
    ·exact ⟨.ret (.done (Go.Sort.partialInsertionSort lI d1 a b).1.toList),fun c h=>by rw [h,cond_true,pi_eq a b d1 (by omega) h50 hb1 hN1,det_pure,pure_bind,need_true (by simpa using hps.1.1),hs,cond_true],.inl ⟨_,rfl,hps.1,hps.2 hs⟩⟩
  have ecc:(cond wb (cond wp (pure (decide (hint = 1))) (pure false)) (pure false):M Bool) = pure (wb && (wp && decide (hint = 1))):=by cases wb <;> cases wp <;> rfl
  rcases h3 with ⟨d',rfl,hg⟩ | ⟨d3,rfl,p3⟩
  ·refine ⟨d',loop_done ?_,Go.Sort.permIn_trans _ _ _ _ _ p1 hg.1,hg.2⟩;unfold slices_pdqsortOrdered_uint16_o_l0;simp only [];rw [wD hab (by omega),decide_eq_false (by omega),cond_false,decide_eq_false (by omega),cond_false,e1,pure_bind];simp only [];rw [e2,det_pure,pure_bind];simp only [];rw [decide_eq_false hh,cond_false,pure_bind];simp only [];rw [ecc,pure_bind,e3 _ rfl,pure_bind,exk_ret]
  have hb3:b ≤ d3.size:=by rw [p3.1];exact hb1
  have hN3:d3.size ≤ 900:=by rw [p3.1];exact hN1
  have hB3:Go.Sort.Below lI a b d3:=hB1.perm hb1 p3;have pA:Go.Sort.PermIn a b d d3:=Go.Sort.permIn_trans _ _ _ _ _ p1 p3;have ecd:(cond (decide (0 < (a:Int))) ((idx d3.toList (IntKind.i64.wrap ((a:Int) - 1))).bind fun x=>(idx d3.toList (pv:Int)).bind fun y=>(det (cmp_Less_uint16 x y)).bind fun v=>pure (!v)) (pure false):M Bool) = pure (decide (a > 0) && !lI d3[a - 1]! d3[pv]!):=by
   by_cases h:a > 0
   ·rw [decide_eq_true (show (0:Int) < (a:Int) by omega),cond_true,wP' (by omega) (by omega),rd (show a - 1 < d3.size by omega),pure_bind,rd (show pv < d3.size by omega),pure_bind,less_eq,det_pure,pure_bind];simp only [h,decide_true,Bool.true_and]
   ·rw [decide_eq_false (show ¬ (0:Int) < (a:Int) by omega),cond_false];simp only [h,decide_false,Bool.false_and]
  have hbody:slices_pdqsortOrdered_uint16_o_l0 self ((a:Int),(b:Int),(v:Int),wb,wp,d.toList) =
    cond (decide (a > 0) && !lI d3[a - 1]! d3[pv]!)
     ((det (slices_partitionEqualOrdered_uint16_o (a:Int) (b:Int) (pv:Int) d3.toList)).bind fun y=>need (List.length y.2 = List.length d3.toList)<|pure (.next (y.1,(b:Int),(v1:Int),wb,wp,y.2)))
     ((det (slices_partitionOrdered_uint16_o (a:Int) (b:Int) (pv:Int) d3.toList)).bind fun y=>need (List.length y.2.2 = List.length d3.toList) <|
      cond (decide (IntKind.i64.wrap (y.1 - (a:Int)) < IntKind.i64.wrap ((b:Int) - y.1)))
       ((det (self (a:Int) y.1 (v1:Int) y.2.2)).bind fun z=>need (List.length z = List.length d3.toList)<|pure (.next (IntKind.i64.wrap (y.1 + 1),(b:Int),(v1:Int),decide (IntKind.i64.wrap (Int.tdiv (IntKind.i64.wrap ((b:Int) - (a:Int))) 8) ≤ IntKind.i64.wrap (y.1 - (a:Int))),y.2.1,z)))
       ((det (self (IntKind.i64.wrap (y.1 + 1)) (b:Int) (v1:Int) y.2.2)).bind fun z=>need (List.length z = List.length d3.toList)<|pure (.next ((a:Int),y.1,(v1:Int),decide (IntKind.i64.wrap (Int.tdiv (IntKind.i64.wrap ((b:Int) - (a:Int))) 8) ≤ IntKind.i64.wrap ((b:Int) - y.1)),y.2.1,z)))):=by
   unfold slices_pdqsortOrdered_uint16_o_l0;simp only [];rw [decide_eq_false (show ¬ IntKind.i64.wrap ((b:Int) - (a:Int)) ≤ 12 by rw [wD hab (by omega)];omega),cond_false,decide_eq_false (by omega),cond_false,e1,pure_bind];simp only [];rw [e2,det_pure,pure_bind];simp only [];rw [decide_eq_false hh,cond_false,pure_bind];simp only [];rw [ecc,pure_bind,e3 _ rfl,pure_bind,exk_brk,ecd,pure_bind]
  cases hc:(decide (a > 0) && !lI d3[a - 1]! d3[pv]!)
  ·-- partition
   have hx:Go.Sort.partition lI d3 a b pv = ((Go.Sort.partition lI d3 a b pv).1,(Go.Sort.partition lI d3 a b pv).2.1,(Go.Sort.partition lI d3 a b pv).2.2):=rfl;have hr:=Go.Sort.round_part (lt:=lI) swoI (Go.Sort.partition_holds _) hp1 hp2 hb3 hB3 hx;have he:=part_eq a b pv d3 hp1 hp2 hb3 hN3
   generalize (Go.Sort.partition lI d3 a b pv).1 = mid at hr he
   generalize (Go.Sort.partition lI d3 a b pv).2.1 = ap at hr he
   generalize (Go.Sort.partition lI d3 a b pv).2.2 = d4 at hr he
   obtain ⟨m1,m2,hs4,hBl,hBr,hL,hR⟩:=hr
   by_cases hlr:mid - a < b - mid
   ·obtain ⟨L,hl1,hl2⟩:=hself a mid v1 d4 (by omega) m1 (by omega) (by omega) (by omega) hv1 hBl;obtain ⟨hBL,hfin⟩:=hL L hl2.1 hl2.2;have hLs:L.size = d3.size:=by rw [hl2.1.1,hs4]
    obtain ⟨R,hr1,hr2⟩:=ih (mid + 1) b v1 (decide (IntKind.i64.wrap (Int.tdiv (IntKind.i64.wrap ((b:Int) - (a:Int))) 8) ≤ IntKind.i64.wrap ((mid:Int) - (a:Int)))) ap L (by omega) (by omega) (by omega) (by omega) (by omega) (by omega) hv1 hBL;have hf:=hfin R hr2.1 hr2.2;refine ⟨R,?_,Go.Sort.permIn_trans _ _ _ _ _ pA hf.1,hf.2⟩;rw [loop_next (s':=(((mid + 1:Nat):Int),(b:Int),(v1:Int),decide (IntKind.i64.wrap (Int.tdiv (IntKind.i64.wrap ((b:Int) - (a:Int))) 8) ≤ IntKind.i64.wrap ((mid:Int) - (a:Int))),ap,L.toList)) (by
     rw [hbody,hc,cond_false,he,det_pure,pure_bind,need_true (by simpa using hs4),decide_eq_true (by rw [wD m1 (by omega),wD (by omega) (by omega)];omega),cond_true,hl1,det_pure,pure_bind,need_true (by simpa using hLs),wS (by omega)])]
    exact hr1
   ·obtain ⟨L,hl1,hl2⟩:=hself (mid + 1) b v1 d4 (by omega) (by omega) (by omega) (by omega) (by omega) hv1 hBr;obtain ⟨hBL,hfin⟩:=hR L hl2.1 hl2.2;have hLs:L.size = d3.size:=by rw [hl2.1.1,hs4]
    obtain ⟨R,hr1,hr2⟩:=ih a mid v1 (decide (IntKind.i64.wrap (Int.tdiv (IntKind.i64.wrap ((b:Int) - (a:Int))) 8) ≤ IntKind.i64.wrap ((b:Int) - (mid:Int)))) ap L (by omega) (by omega) m1 (by omega) (by omega) (by omega) hv1 hBL;have hf:=hfin R hr2.1 hr2.2;refine ⟨R,?_,Go.Sort.permIn_trans _ _ _ _ _ pA hf.1,hf.2⟩;rw [loop_next (s':=((a:Int),(mid:Int),(v1:Int),decide (IntKind.i64.wrap (Int.tdiv (IntKind.i64.wrap ((b:Int) - (a:Int))) 8) ≤ IntKind.i64.wrap ((b:Int) - (mid:Int))),ap,L.toList)) (by
     rw [hbody,hc,cond_false,he,det_pure,pure_bind,need_true (by simpa using hs4),decide_eq_false (by rw [wD m1 (by omega),wD (by omega) (by omega)];omega),cond_false,wS (by omega),hl1,det_pure,pure_bind,need_true (by simpa using hLs)])]
    exact hr1
  ·-- partitionEqual
   obtain ⟨c1,c2⟩:=(Bool.and_eq_true _ _).mp hc;have c1:=of_decide_eq_true c1;have c2:lI d3[a - 1]! d3[pv]! = false:=by simpa using c2
   have hx:Go.Sort.partitionEqual lI d3 a b pv = ((Go.Sort.partitionEqual lI d3 a b pv).1,(Go.Sort.partitionEqual lI d3 a b pv).2):=rfl;have hr:=Go.Sort.round_eq (lt:=lI) swoI (Go.Sort.partitionEqual_holds _) c1 hp1 hp2 hb3 hB3 c2 hx;have he:=pe_eq a b pv d3 hp1 hp2 hb3 hN3
   generalize (Go.Sort.partitionEqual lI d3 a b pv).1 = mid at hr he
   generalize (Go.Sort.partitionEqual lI d3 a b pv).2 = d4 at hr he
   obtain ⟨m1,m2,hs4,hB4,hfin⟩:=hr;obtain ⟨R,hr1,hr2⟩:=ih mid b v1 wb wp d4 (by omega) (by omega) m2 (by omega) (by omega) (by omega) hv1 hB4;have hf:=hfin R hr2.1 hr2.2;refine ⟨R,?_,Go.Sort.permIn_trans _ _ _ _ _ pA hf.1,hf.2⟩;rw [loop_next (s':=((mid:Int),(b:Int),(v1:Int),wb,wp,d4.toList)) (by
    rw [hbody,hc,cond_true,he,det_pure,pure_bind,need_true (by simpa using hs4)])]
   exact hr1
theorem pdq_F : ∀ (n a b v:Nat) (d:Array Int),b - a < n → a ≤ b → b - a < 50 → b ≤ d.size → d.size ≤ 900 → v ≤ 1000 → Go.Sort.Below lI a b d →
  ∃ d':Array Int,slices_pdqsortOrdered_uint16_o_F n (a:Int) (b:Int) (v:Int) d.toList = pure d'.toList ∧ Good a b d d'
 | 0,_,_,_,_,h,_,_,_,_,_,_=>by omega
 | n + 1,a,b,v,d,h,hab,h50,hb,hN,hv,hB=>by
  unfold slices_pdqsortOrdered_uint16_o_F slices_pdqsortOrdered_uint16_o_b;exact pdq_round _ n (fun a b v d h hab h50 hb hN hv hB=>pdq_F n a b v d h hab h50 hb hN hv hB) _ a b v true true d (Nat.le_refl _) (by omega) hab h50 hb hN hv hB
theorem sort_eq (l:List Int) (h:l.length < 50):∃ l':List Int,slices_Sort_sl_uint16_uint16_o l = pure l' ∧ l'.Perm l ∧ l'.Pairwise fun x y=>x ≤ y:=by
 obtain ⟨v,h1,h2,_⟩:=len_eq l.length h;obtain ⟨d',h3,hp,hs⟩:=pdq_F (l.length + 1) 0 l.length v l.toArray (by omega) (by omega) (by omega) (by simp) (by simp;omega) (by omega) (.inl rfl);have hz:d'.size = l.length:=by rw [hp.1];simp
 refine ⟨d'.toList,?_,?_,?_⟩
 ·unfold slices_Sort_sl_uint16_uint16_o slices_pdqsortOrdered_uint16_o;rw [wU64 (by omega) (by omega),h1,det_pure,pure_bind,show Int.toNat ((l.length:Int) - 0) + 1 = l.length + 1 by omega];have h3':slices_pdqsortOrdered_uint16_o_F (l.length + 1) 0 (l.length:Int) (v:Int) l = pure d'.toList:=h3;rw [h3',det_pure,pure_bind,need_true (by simpa using hz)]
 ·have:=hp.2.2;rw [show d'.extract 0 l.length = d' by rw [← hz];simp,show l.toArray.extract 0 l.length = l.toArray by simp] at this;simpa using this
 ·rw [List.pairwise_iff_getElem];intro i j hi hj hij;have hi':i < d'.size:=by simpa using hi
  have hj':j < d'.size:=by simpa using hj
  have h5:=hs i j (by omega) hij (by omega);rw [getElem!_pos d' i hi',getElem!_pos d' j hj'] at h5;have h6:¬ d'[j] < d'[i]:=of_decide_eq_false h5;simp only [Array.getElem_toList];omega
end Go.Ep.M.I


/- Texts that the walks and laws lean on, side by side. -/
import Derived.Test.YtnknnlhpcfmdpaaGreatAMo4
import Derived.Test.YtnknnlhpcfmdpaaGreatAMo10
set_option linter.unusedVariables false
set_option linter.unusedSimpArgs false
namespace Go.Ep.M.C
open Go
def rawC(c:List TPart)(k:Int):List TRun:=(c.filter fun p=>decide (p.dev=k)&&decide (0 < k)).flatMap (·.runs)
theorem rawC_nil(k:Int):rawC [] k=[]:=rfl
theorem rawC_cons(p:TPart)(c:List TPart)(k:Int):rawC (p::c) k=(if p.dev=k ∧ 0 < k then p.runs else [])++rawC c k:=by
 unfold rawC;rw[List.filter_cons]
 by_cases h:p.dev=k ∧ 0 < k
 ·simp[h.1,h.2]
 ·rw[if_neg (by simpa using h),if_neg h];rfl
theorem rawC_app(a b:List TPart)(k:Int):rawC (a++b) k=rawC a k++rawC b k:=by simp[rawC,List.filter_append]
theorem rawC_bad{c:List TPart}{k:Int}(h:¬ 0 < k):rawC c k=[]:=by simp[rawC,h]
def hasC(c:List TPart)(k n:Int):Bool:=R.hasR (rawC c k) n
theorem hasC_app(a b:List TPart)(k n:Int):hasC (a++b) k n=(hasC a k n||hasC b k n):=by simp[hasC,rawC_app,R.hasR_app]
def totC(c:List TPart):Nat:=(c.map fun p=>p.runs.length).sum
theorem totC_app(a b:List TPart):totC (a++b)=totC a+totC b:=by simp[totC]
theorem rawC_len(c:List TPart)(k:Int):(rawC c k).length ≤ totC c:=by
 induction c with
 | nil=>simp[rawC]
 | cons p r ih=>
  rw[rawC_cons,List.length_append];have:totC (p::r)=p.runs.length+totC r:=by simp[totC]
  split
  ·omega
  ·simp;omega
theorem sum_zero(ks:List Int):(ks.map fun _=>0).sum=0:=by
 induction ks with
 | nil=>rfl
 | cons k r ih=>rw[List.map_cons,List.sum_cons,ih]
theorem rawC_sum(c:List TPart)(ks:List Int)(h:ks.Nodup):(ks.map fun k=>(rawC c k).length).sum ≤ totC c:=by
 induction c with
 | nil=>simp only[rawC_nil,List.length_nil,sum_zero];exact Nat.zero_le _
 | cons p r ih=>
  have e:totC (p::r)=p.runs.length+totC r:=by simp[totC]
  have h1:(ks.map fun k=>(rawC (p::r) k).length).sum=(ks.map fun k=>if p.dev=k ∧ 0 < k then p.runs.length else 0).sum+(ks.map fun k=>(rawC r k).length).sum:=by
   clear h ih
   induction ks with
   | nil=>rfl
   | cons k ks ih2=>
    simp only[List.map_cons,List.sum_cons,rawC_cons,List.length_append] at ih2 ⊢
    by_cases hc:p.dev=k ∧ 0 < k
    ·rw[if_pos hc,if_pos hc];omega
    ·rw[if_neg hc,if_neg hc,List.length_nil];omega
  have h2:(ks.map fun k=>if p.dev=k ∧ 0 < k then p.runs.length else 0).sum ≤ p.runs.length:=by
   clear ih h1 e
   induction ks with
   | nil=>simp
   | cons k ks ih2=>
    obtain⟨n1,n2⟩:=List.nodup_cons.1 h;simp only[List.map_cons,List.sum_cons]
    by_cases hk:p.dev=k
    ·have h0:(ks.map fun k=>if p.dev=k ∧ 0 < k then p.runs.length else 0).sum=0:=by
      have:(ks.map fun k=>if p.dev=k ∧ 0 < k then p.runs.length else 0)=ks.map fun _=>0:=by
       refine List.map_congr_left fun q hq=>?_
       rw[if_neg];rintro⟨e,_⟩;exact n1 (by rw[← hk,e];exact hq)
      rw[this];exact sum_zero ks
     rw[h0]
     split <;> omega
    ·rw[if_neg (fun h=>hk h.1)];have:=ih2 n2;omega
  omega
def OrdP(l:List TPart):Prop:=l.Pairwise fun x y=>x.dev < y.dev
theorem ordP_ext : ∀ {l l':List TPart},OrdP l → OrdP l' → (∀ d,d∈l↔d∈l') → l=l'
 | [],[],_,_,_=>rfl
 | [],y::r,_,_,h=>absurd ((h y).2 (by simp)) (by simp)
 | x::r,[],_,_,h=>absurd ((h x).1 (by simp)) (by simp)
 | x::r,y::q,h1,h2,h=>by
  obtain⟨a1,a2⟩:=List.pairwise_cons.1 h1;obtain⟨b1,b2⟩:=List.pairwise_cons.1 h2;have e:x=y:=by
   rcases List.mem_cons.1 ((h x).1 (by simp)) with e | hx
   ·exact e
   ·rcases List.mem_cons.1 ((h y).2 (by simp)) with e | hy
    ·exact e.symm
    ·have:=a1 y hy;have:=b1 x hx;omega
  subst e
  congr 1
  refine ordP_ext a2 b2 fun d=>⟨fun hd=>?_,fun hd=>?_⟩
  ·rcases List.mem_cons.1 ((h d).1 (List.mem_cons_of_mem _ hd)) with e | hx
   ·subst e;have:=a1 d hd;omega
   ·exact hx
  ·rcases List.mem_cons.1 ((h d).2 (List.mem_cons_of_mem _ hd)) with e | hx
   ·subst e;have:=b1 d hd;omega
   ·exact hx
def partsOf(f:Int → List TRun)(ks:List Int):List TPart:=ks.filterMap fun k=>if f k=[] then none else some ⟨k,f k⟩
theorem mem_partsOf{f:Int → List TRun}{ks:List Int}{p:TPart}:p∈partsOf f ks↔p.dev∈ks ∧ p.runs≠[] ∧ p.runs=f p.dev:=by
 unfold partsOf;rw[List.mem_filterMap]
 constructor
 ·rintro⟨k,hk,h⟩
  split at h
  ·cases h
  ·rename_i h0;cases h;exact⟨hk,h0,rfl⟩
 ·rintro⟨h1,h2,h3⟩;refine⟨p.dev,h1,?_⟩;rw[if_neg (by rw[← h3];exact h2),← h3]
theorem ord_partsOf{f:Int → List TRun}{ks:List Int}(h:ks.Pairwise (· < ·)):OrdP (partsOf f ks):=by
 unfold OrdP partsOf;rw[List.pairwise_filterMap];refine h.imp fun {a b} hab x hx y hy=>?_
 split at hx
 ·cases hx
 ·split at hy
  ·cases hy
  ·cases hx;cases hy;exact hab
theorem partsOf_ext{f g:Int → List TRun}{ks ls:List Int}(h1:ks.Pairwise (· < ·))(h2:ls.Pairwise (· < ·))(hf:∀ k,f k=g k)(h:∀ k,f k≠[] → (k∈ks↔k∈ls)):partsOf f ks=partsOf g ls:=by
 refine ordP_ext (ord_partsOf h1) (ord_partsOf h2) fun p=>?_
 rw[mem_partsOf,mem_partsOf]
 constructor
 ·rintro⟨a,b,c⟩;exact⟨(h _ (by rw[← c];exact b)).1 a,b,by rw[c,hf]⟩
 ·rintro⟨a,b,c⟩;exact⟨(h _ (by rw[hf,← c];exact b)).2 a,b,by rw[c,hf]⟩
theorem len_partsOf(f:Int → List TRun)(ks:List Int):(partsOf f ks).length ≤ ks.length:=List.length_filterMap_le _ _
theorem tot_partsOf(f:Int → List TRun)(ks:List Int):totC (partsOf f ks)=(ks.map fun k=>(f k).length).sum:=by
 induction ks with
 | nil=>rfl
 | cons k ks ih=>
  have:partsOf f (k::ks)=(if f k=[] then [] else [⟨k,f k⟩])++partsOf f ks:=by
   unfold partsOf
   by_cases h:f k=[] <;> simp[h]
  rw[this,totC_app,ih]
  by_cases h:f k=[] <;> simp[h,totC]
theorem raw_partsOf{f:Int → List TRun}{ks:List Int}(h:ks.Nodup)(k:Int):rawC (partsOf f ks) k=if k∈ks ∧ 0 < k then f k else []:=by
 induction ks with
 | nil=>simp[partsOf,rawC]
 | cons q ks ih=>
  obtain⟨n1,n2⟩:=List.nodup_cons.1 h;have e:partsOf f (q::ks)=(if f q=[] then [] else [⟨q,f q⟩])++partsOf f ks:=by
   unfold partsOf
   by_cases h:f q=[] <;> simp[h]
  rw[e,rawC_app,ih n2]
  by_cases hq:q=k
  ·subst hq;rw[if_neg (fun(h:q∈ks ∧ 0 < q)=>n1 h.1),List.append_nil]
   by_cases h0:f q=[]
   ·rw[if_pos h0,h0];simp[rawC]
   ·rw[if_neg h0]
    by_cases hp:0 < q
    ·rw[if_pos ⟨List.mem_cons_self,hp⟩];simp[rawC,hp]
    ·rw[if_neg (fun h=>hp h.2)];exact rawC_bad hp
  ·have:rawC (if f q=[] then [] else [(⟨q,f q⟩:TPart)]) k=[]:=by
    by_cases h0:f q=[] <;> simp[h0,rawC,hq]
   rw[this];have hm:(k∈q::ks)↔k∈ks:=by simp[Ne.symm hq]
   simp only[hm,List.nil_append]
def dstep(l:List Int)(p:TPart):List Int:=if 0 < p.dev then V.insI l p.dev else l
def devsC(c:List TPart):List Int:=c.foldl dstep []
theorem devs_gen(c:List TPart):∀ l:List Int,l.Pairwise (· < ·) → (c.foldl dstep l).Pairwise (· < ·) ∧ (∀ k,k∈c.foldl dstep l↔k∈l ∨ ∃ p∈c,p.dev=k ∧ 0 < k) ∧ (c.foldl dstep l).length ≤ l.length+c.length:=by
 induction c with
 | nil=>intro l h;simp[h]
 | cons p r ih=>
  intro l h;rw[List.foldl_cons]
  by_cases hp:0 < p.dev
  ·have e:dstep l p=V.insI l p.dev:=by simp[dstep,hp]
   rw[e];obtain⟨h1,h2,h3⟩:=ih _ (V.insI_sorted h p.dev);refine⟨h1,fun k=>?_,by have:=V.len_insI l p.dev;simp;omega⟩;rw[h2,V.mem_insI]
   constructor
   ·rintro((rfl | h4) | ⟨x,h4,h5⟩)
    ·exact .inr ⟨p,by simp,rfl,hp⟩
    ·exact .inl h4
    ·exact .inr ⟨x,by simp[h4],h5⟩
   ·rintro(h4 | ⟨x,h4,h5,h6⟩)
    ·exact .inl (.inr h4)
    ·rcases List.mem_cons.1 h4 with rfl | h4
     ·exact .inl (.inl h5.symm)
     ·exact .inr ⟨x,h4,h5,h6⟩
  ·have e:dstep l p=l:=by simp[dstep,hp]
   rw[e];obtain⟨h1,h2,h3⟩:=ih _ h;refine⟨h1,fun k=>?_,by simp;omega⟩;rw[h2]
   constructor
   ·rintro(h4 | ⟨x,h4,h5⟩)
    ·exact .inl h4
    ·exact .inr ⟨x,by simp[h4],h5⟩
   ·rintro(h4 | ⟨x,h4,h5,h6⟩)
    ·exact .inl h4
    ·rcases List.mem_cons.1 h4 with rfl | h4
     ·rw[h5] at hp;exact absurd h6 hp
     ·exact .inr ⟨x,h4,h5,h6⟩
theorem devs_sorted(c:List TPart):(devsC c).Pairwise (· < ·):=(devs_gen c [] List.Pairwise.nil).1
theorem sorted_nodup{l:List Int}(h:l.Pairwise (· < ·)):l.Nodup:=h.imp fun {a b} h e=>by omega
theorem devs_nodup(c:List TPart):(devsC c).Nodup:=sorted_nodup (devs_sorted c)
theorem mem_devs{c:List TPart}{k:Int}:k∈devsC c↔(∃ p∈c,p.dev=k) ∧ 0 < k:=by
 have:=(devs_gen c [] List.Pairwise.nil).2.1 k;unfold devsC;rw[this];simp only[List.not_mem_nil,false_or]
 constructor
 ·rintro⟨p,h1,h2,h3⟩;exact⟨⟨p,h1,h2⟩,h3⟩
 ·rintro⟨⟨p,h1,h2⟩,h3⟩;exact⟨p,h1,h2,h3⟩
theorem len_devs(c:List TPart):(devsC c).length ≤ c.length:=by simpa[devsC] using (devs_gen c [] List.Pairwise.nil).2.2
theorem raw_devs{c:List TPart}{k:Int}(h:rawC c k≠[]):k∈devsC c:=by
 rw[mem_devs];refine Classical.byContradiction fun hn=>h ?_
 unfold rawC;have:(c.filter fun p=>decide (p.dev=k)&&decide (0 < k))=[]:=by
  rw[List.filter_eq_nil_iff];intro p hp;simp only[Bool.and_eq_true,decide_eq_true_eq];rintro⟨h1,h2⟩;exact hn ⟨⟨p,hp,h1⟩,h2⟩
 rw[this];rfl
def opC(op:Bool → Bool → Bool)(a b:List TPart):List TPart:=partsOf (fun k=>R.setR op (rawC a k) (rawC b k)) (devsC (a++b))
def normC(c:List TPart):List TPart:=partsOf (fun k=>R.nrm (rawC c k)) (devsC c)
theorem setR_nil{op:Bool → Bool → Bool}(h0:op false false=false):R.setR op [] []=[]:=by
 have:=R.setR_props op h0 [] [];exact R.nf_ext this.1 trivial fun n=>by rw[this.2.1];exact h0
theorem nrm_nil : R.nrm []=[]:=setR_nil rfl
theorem has_opC{op:Bool → Bool → Bool}(h0:op false false=false)(a b:List TPart)(k n:Int):hasC (opC op a b) k n=op (hasC a k n) (hasC b k n):=by
 unfold hasC opC;rw[raw_partsOf (devs_nodup _)]
 split
 ·rw[(R.setR_props op h0 _ _).2.1]
 ·rename_i h
  have e:rawC a k=[] ∧ rawC b k=[]:=by
   have h1:rawC (a++b) k=[]:=Classical.byContradiction fun h2=>h ⟨raw_devs h2,(mem_devs.1 (raw_devs h2)).2⟩
   rw[rawC_app] at h1;simpa using h1
  rw[e.1,e.2];show R.hasR [] n=_;simp[R.hasR,h0]
theorem has_normC(c:List TPart)(k n:Int):hasC (normC c) k n=hasC c k n:=by
 unfold hasC normC;rw[raw_partsOf (devs_nodup _)]
 split
 ·rw[R.nrm_has]
 ·rename_i h
  have e:rawC c k=[]:=Classical.byContradiction fun h2=>h ⟨raw_devs h2,(mem_devs.1 (raw_devs h2)).2⟩
  rw[e]
structure Canon(c:List TPart):Prop where
 ord:OrdP c
 nf:∀ p∈c,0 < p.dev ∧ p.runs≠[] ∧ R.Nf p.runs
theorem canon_parts{f:Int → List TRun}{c:List TPart}(h:∀ k,R.Nf (f k)):Canon (partsOf f (devsC c)):=⟨ord_partsOf (devs_sorted c),fun p hp=>by
 obtain⟨h1,h2,h3⟩:=mem_partsOf.1 hp;exact⟨(mem_devs.1 h1).2,h2,by rw[h3];exact h _⟩⟩
theorem canon_op{op:Bool → Bool → Bool}(h0:op false false=false)(a b:List TPart):Canon (opC op a b):=canon_parts fun _=>(R.setR_props op h0 _ _).1
theorem canon_norm(c:List TPart):Canon (normC c):=canon_parts fun _=>R.nrm_nf _
theorem ordP_raw : ∀ {c:List TPart},OrdP c → ∀ p∈c,0 < p.dev → rawC c p.dev=p.runs
 | [],_,p,hp,_=>by simp at hp
 | q::r,h,p,hp,h0=>by
  obtain⟨h1,h2⟩:=List.pairwise_cons.1 h;rw[rawC_cons];rcases List.mem_cons.1 hp with rfl | hp
  ·rw[if_pos ⟨rfl,h0⟩];have:rawC r p.dev=[]:=by
    unfold rawC;have:(r.filter fun x=>decide (x.dev=p.dev)&&decide (0 < p.dev))=[]:=by
     rw[List.filter_eq_nil_iff];intro x hx;have:=h1 x hx;simp;omega
    rw[this];rfl
   rw[this,List.append_nil]
  ·have:=h1 p hp;rw[if_neg (by omega),ordP_raw h2 p hp h0];rfl
theorem Canon.eq_norm{c:List TPart}(h:Canon c):c=normC c:=by
 refine ordP_ext h.ord (canon_norm c).ord fun p=>?_
 unfold normC;rw[mem_partsOf]
 constructor
 ·intro hp;obtain⟨h1,h2,h3⟩:=h.nf p hp;exact⟨mem_devs.2 ⟨⟨p,hp,rfl⟩,h1⟩,h2,by rw[ordP_raw h.ord p hp h1,R.nrm_self h3]⟩
 ·rintro⟨h1,h2,h3⟩;obtain⟨⟨q,hq,hd⟩,h0⟩:=mem_devs.1 h1;obtain⟨g1,g2,g3⟩:=h.nf q hq;have e:rawC c p.dev=q.runs:=by rw[← hd];exact ordP_raw h.ord q hq g1
  rw[e,R.nrm_self g3] at h3;have:p=q:=by cases p;cases q;simp_all
  rw[this];exact hq
theorem normC_ext{a b:List TPart}(h:∀ k n,hasC a k n=hasC b k n):normC a=normC b:=by
 have hf:∀ k,R.nrm (rawC a k)=R.nrm (rawC b k):=fun k=>R.nf_ext (R.nrm_nf _) (R.nrm_nf _) fun n=>by rw[R.nrm_has,R.nrm_has];exact h k n
 refine partsOf_ext (devs_sorted a) (devs_sorted b) hf fun k hk=>?_
 have ha:rawC a k≠[]:=fun e=>hk (by rw[e];exact nrm_nil)
 have hb:rawC b k≠[]:=fun e=>hk (by rw[hf,e];exact nrm_nil)
 exact⟨fun _=>raw_devs hb,fun _=>raw_devs ha⟩
theorem Canon.ext{a b:List TPart}(ha:Canon a)(hb:Canon b)(h:∀ k n,hasC a k n=hasC b k n):a=b:=by rw[ha.eq_norm,hb.eq_norm];exact normC_ext h
theorem norm_canon{c:List TPart}(h:Canon c):normC c=c:=h.eq_norm.symm
theorem norm_or(a b:List TPart):normC (a++b)=opC (·||·) a b:=(canon_norm _).ext (canon_op rfl a b) fun k n=>by rw[has_normC,hasC_app,has_opC rfl]
theorem canon_nil : Canon []:=⟨List.Pairwise.nil,fun p h=>by simp at h⟩
theorem canon_none{c:List TPart}(h:Canon c)(h2:∀ k n,hasC c k n=false):c=[]:=h.ext canon_nil fun k n=>by rw[h2];rfl
theorem len_normC(c:List TPart):(normC c).length ≤ c.length:=Nat.le_trans (len_partsOf _ _) (len_devs c)
theorem sum_le{ks:List Int}{f g:Int → Nat}(h:∀ k,f k ≤ g k):(ks.map f).sum ≤ (ks.map g).sum:=by
 induction ks with
 | nil=>simp
 | cons k r ih=>have:=h k;simp;omega
theorem sum_two(ks:List Int)(f g:Int → Nat):(ks.map fun k=>2*(f k+g k)).sum=2*((ks.map f).sum+(ks.map g).sum):=by
 induction ks with
 | nil=>rfl
 | cons k r ih=>simp;omega
theorem tot_normC(c:List TPart):totC (normC c) ≤ 2*totC c:=by
 unfold normC;rw[tot_partsOf];refine Nat.le_trans (sum_le (g:=fun k=>2*((rawC c k).length+0)) fun k=>by have:=R.nrm_len (rawC c k);omega) ?_;rw[sum_two];have h1:=rawC_sum c (devsC c) (devs_nodup _);have h2:=sum_zero (devsC c);omega
theorem get_grow(l:List (Int×List TRun)):∀ (m:List (Int×List TRun)) (k:Int),AL.getZ (AL.grow m l) k []=AL.getZ m k []++(l.filter fun x=>decide (x.1=k)).flatMap (·.2):=by
 induction l with
 | nil=>intro m k;simp[AL.grow]
 | cons x r ih=>
  intro m k;show AL.getZ (AL.grow (AL.set m x.1 (AL.getZ m x.1 []++x.2)) r) k []=_;rw[ih,AL.getZ_set,List.filter_cons]
  by_cases h:x.1=k
  ·subst h;simp
  ·simp[h]
theorem nodup_grow(l:List (Int×List TRun)):∀ m:List (Int×List TRun),(m.map (·.1)).Nodup → ((AL.grow m l).map (·.1)).Nodup:=by
 induction l with
 | nil=>intro m h;exact h
 | cons x r ih=>intro m h;exact ih _ (AL.nodup_set h _ _)
theorem len_grow(l:List (Int×List TRun)):∀ m:List (Int×List TRun),(AL.grow m l).length ≤ m.length+l.length:=by
 induction l with
 | nil=>intro m;exact Nat.le_refl _
 | cons x r ih=>
  intro m;have h1:=ih (AL.set m x.1 (AL.getZ m x.1 []++x.2));have h2:=AL.len_set m x.1 (AL.getZ m x.1 []++x.2);show(AL.grow (AL.set m x.1 (AL.getZ m x.1 []++x.2)) r).length ≤ _;simp only[List.length_cons];omega
theorem key_grow(l:List (Int×List TRun)):∀ (m:List (Int×List TRun)) (k:Int),k∈(AL.grow m l).map (·.1) → k∈m.map (·.1) ∨ ∃ x∈l,x.1=k:=by
 induction l with
 | nil=>intro m k h;exact .inl h
 | cons x r ih=>
  intro m k h;rcases ih _ k h with h | ⟨y,hy,e⟩
  ·rw[AL.keys_set] at h
   split at h
   ·exact .inl h
   ·rcases List.mem_append.1 h with h | h
    ·exact .inl h
    ·exact .inr ⟨x,by simp,(List.mem_singleton.1 h).symm⟩
  ·exact .inr ⟨y,by simp[hy],e⟩
def toldM(c:List TPart):List (Int×List TRun):=AL.grow [] (c.filterMap ctx_toldF)
theorem told_get(c:List TPart)(k:Int):AL.getZ (toldM c) k []=rawC c k:=by
 unfold toldM;rw[get_grow];show[]++_=_;rw[List.nil_append]
 induction c with
 | nil=>rfl
 | cons p r ih=>
  rw[rawC_cons,← ih,List.filterMap_cons]
  by_cases h0:0 < p.dev
  ·have e:ctx_toldF p=some (p.dev,p.runs):=by simp[ctx_toldF,h0]
   rw[e];simp only[List.filter_cons]
   by_cases h:p.dev=k
   ·subst h;simp[h0]
   ·simp[h]
  ·have e:ctx_toldF p=none:=by simp[ctx_toldF,h0]
   rw[e,if_neg (by rintro⟨h1,h2⟩;omega)];rfl
theorem told_nodup(c:List TPart):((toldM c).map (·.1)).Nodup:=nodup_grow _ _ (by simp)
theorem told_len(c:List TPart):(toldM c).length ≤ c.length:=by
 have h1:=len_grow (c.filterMap ctx_toldF) [];have h2:=List.length_filterMap_le ctx_toldF c;unfold toldM;simp at h1;omega
theorem told_pos{c:List TPart}{k:Int}(h:k∈(toldM c).map (·.1)):0 < k ∧ k∈devsC c:=by
 rcases key_grow _ _ _ h with h | ⟨x,hx,rfl⟩
 ·simp at h
 ·rw[List.mem_filterMap] at hx;obtain⟨p,hp,hx⟩:=hx;unfold ctx_toldF at hx
  split at hx
  ·rename_i h0;cases hx;exact⟨h0,mem_devs.2 ⟨⟨p,hp,rfl⟩,h0⟩⟩
  ·cases hx
theorem told_mem{c:List TPart}{e:Int×List TRun}(h:e∈toldM c):e.2=rawC c e.1 ∧ 0 < e.1 ∧ e.1∈devsC c:=by
 have h1:=AL.mem_get (told_nodup c) (k:=e.1) (v:=e.2) h;have h2:=told_get c e.1;unfold AL.getZ at h2;rw[h1] at h2;exact⟨h2,told_pos (List.mem_map.2 ⟨e,h,rfl⟩)⟩
theorem told_at{c:List TPart}{k:Int}(h:rawC c k≠[]):(k,rawC c k)∈toldM c:=by
 have h2:=told_get c k;unfold AL.getZ at h2
 cases hg:AL.get (toldM c) k with
 | none=>rw[hg] at h2;exact absurd h2.symm h
 | some v=>rw[hg] at h2;simp only[Option.getD_some] at h2;subst h2;exact AL.get_mem hg
theorem tot_told(c:List TPart):((c.filterMap ctx_toldF).map fun x=>x.2.length).sum ≤ totC c:=by
 induction c with
 | nil=>simp
 | cons p r ih=>
  have e:totC (p::r)=p.runs.length+totC r:=by simp[totC]
  rw[List.filterMap_cons]
  by_cases h0:0 < p.dev
  ·have e2:ctx_toldF p=some (p.dev,p.runs):=by simp[ctx_toldF,h0]
   rw[e2];simp only[List.map_cons,List.sum_cons];omega
  ·have e2:ctx_toldF p=none:=by simp[ctx_toldF,h0]
   rw[e2];simp only;omega
def Sm(c:List TPart):Prop:=c.length ≤ 10000000000 ∧ totC c ≤ 10000000000
theorem told_eq(c:List TPart)(h:Sm c):ctx_told c=pure (toldM c):=by
 unfold ctx_told;rw[need_true]
 ·rfl
 ·have:=tot_told c;refine⟨by have:=h.1;omega,?_⟩;have:=h.2;omega
theorem order_eq(m:List (Int×List TRun))(f:Int → List TRun)(ks:List Int)(hl:m.length ≤ 1000000000000)(hr:∀ e∈m,e.2.length ≤ 1000000000000)(hn:(m.map (·.1)).Nodup)(hs:ks.Pairwise (· < ·))(h1:∀ e∈m,R.nrm e.2≠[] → e.1∈ks ∧ R.nrm e.2=f e.1)(h2:∀ k∈ks,f k≠[] → ∃ r,(k,r)∈m ∧ R.nrm r=f k):ctx_order m=pure (partsOf f ks):=by
 unfold ctx_order;have hall:∀ Q:List TPart → Prop,(∀ l:List (Int×List TRun),l.Perm m → Q ((l.filter fun e=>decide (R.nrm e.2≠[])).map fun e=>(⟨e.1,R.nrm e.2⟩:TPart))) → (loop (ctx_order_l0 m) ([],([]:List TPart))).wp Q:=by
  intro Q hQ;refine M.loopM (body:=ctx_order_l0 m) m (fun L (t:List TPart)=>(L,t)) (fun t e=>(runs_Norm e.2).det.bind fun v=>if 0 < v.length then need ((t.length+1)*32 ≤ 140737488355328) (pure (t++[(⟨e.1,v⟩:TPart)])) else pure t) (fun t=>pure t)
   (fun l t=>t=((l.filter fun e=>decide (R.nrm e.2≠[])).map fun e=>(⟨e.1,R.nrm e.2⟩:TPart))) Q (fun L t hL=>?_) (fun l t y ht hlen hy=>?_) (fun l t hp ht=>?_) [] rfl
  ·unfold ctx_order_l0;show need _ ((nxt _ _).bind _)=need _ ((nxt _ _).bind _);refine congrArg (fun k=>need _ ((nxt _ _).bind k)) (funext fun o=>?_)
   cases o with
   | none=>rfl
   | some i=>
    refine congrArg (fun k=>(idx m (Int.ofNat i)).bind k) (funext fun y=>?_);rw[bind_assoc];refine congrArg (fun k=>(runs_Norm y.2).det.bind k) (funext fun v=>?_);rw[cond_dec]
    by_cases h:0 < v.length
    ·rw[if_pos (by omega),if_pos h];rfl
    ·rw[if_neg (by omega),if_neg h];rfl
  ·have hle:=List.length_filter_le (fun e:Int×List TRun=>decide (R.nrm e.2≠[])) l;have htl:t.length ≤ l.length:=by rw[ht,List.length_map];exact hle
   rw[R.norm_eq y.2 (hr y hy),det_pure,pure_bind];refine⟨if R.nrm y.2=[] then t else t++[⟨y.1,R.nrm y.2⟩],?_,?_⟩
   ·by_cases h:R.nrm y.2=[]
    ·rw[if_neg (by rw[h];simp),if_pos h]
    ·rw[if_pos (by rw[List.length_pos_iff];exact h),if_neg h,need_true (by omega)]
   ·subst ht;rw[List.filter_append,List.map_append]
    by_cases h:R.nrm y.2=[] <;> simp[h]
  ·subst ht;exact hQ l hp
 refine eq_pure (hall _ fun l hp=>?_);show(need _ _).wp _;have hll:=hp.length_eq;have hle:=List.length_filter_le (fun e:Int×List TRun=>decide (R.nrm e.2≠[])) l;have hmem:∀ d:TPart,d∈((l.filter fun e=>decide (R.nrm e.2≠[])).map fun e=>(⟨e.1,R.nrm e.2⟩:TPart))↔d∈partsOf f ks:=by
  intro d;rw[mem_partsOf,List.mem_map]
  constructor
  ·rintro⟨e,he,rfl⟩;rw[List.mem_filter,hp.mem_iff] at he;have h0:R.nrm e.2≠[]:=by simpa using he.2
   obtain⟨h3,h4⟩:=h1 e he.1 h0;exact⟨h3,h0,h4⟩
  ·rintro⟨h3,h4,h5⟩;obtain⟨r,h6,h7⟩:=h2 d.dev h3 (by rw[← h5];exact h4);refine⟨(d.dev,r),?_,by show(⟨d.dev,R.nrm r⟩:TPart)=d;rw[h7,← h5]⟩;rw[List.mem_filter,hp.mem_iff];refine⟨h6,?_⟩;simp only[decide_eq_true_eq];rw[h7,← h5];exact h4
 have hnd:((l.filter fun e=>decide (R.nrm e.2≠[])).map fun e=>(⟨e.1,R.nrm e.2⟩:TPart)).Pairwise (fun x y=>x.dev≠y.dev):=by
  rw[List.pairwise_map];have:l.Pairwise (fun x y=>x.1≠y.1):=by
   have:=(hp.map (·.1)).nodup_iff.2 hn;exact List.pairwise_map.1 this
  exact(this.filter _)
 refine⟨by simp only[List.length_map];omega,⟨?_,fun l' ⟨hp',hs'⟩=>?_⟩⟩
 ·refine⟨partsOf f ks,?_,?_⟩
  ·refine(List.perm_ext_iff_of_nodup ?_ ?_).2 fun d=>(hmem d).symm
   ·exact(ord_partsOf hs).imp fun {a b} h e=>by subst e;omega
   ·exact hnd.imp fun {a b} h e=>by subst e;exact h rfl
  ·exact(ord_partsOf hs).imp fun {a b} h=>by simp[ltPart];omega
 ·show l'=_;refine ordP_ext ?_ (ord_partsOf hs) fun d=>by rw[hp'.mem_iff];exact hmem d
  have hnd':=(hp'.pairwise_iff (fun {a b} h=>Ne.symm h)).2 hnd;exact(hs'.and hnd').imp fun {a b} ⟨h3,h4⟩=>by simp[ltPart] at h3;omega
theorem order_told(c:List TPart)(h:Sm c):ctx_order (toldM c)=pure (normC c):=by
 refine order_eq _ _ _ (by have:=told_len c;have:=h.1;omega) (fun e he=>?_) (told_nodup c) (devs_sorted c) (fun e he h0=>?_) (fun k hk h0=>?_)
 ·rw[(told_mem he).1];have:=rawC_len c e.1;have:=h.2;omega
 ·obtain⟨h1,h2,h3⟩:=told_mem he;exact⟨h3,by rw[h1]⟩
 ·exact⟨_,told_at (fun e=>h0 (by rw[e];exact nrm_nil)),rfl⟩
theorem Norm_eq(c:List TPart)(h:Sm c):ctx_Norm c=pure (normC c):=by
 unfold ctx_Norm;rw[told_eq c h,det_pure,pure_bind,order_told c h,det_pure,pure_bind]
theorem Runs_eq(c:List TPart)(k:Int)(h:Sm c):ctx_Runs c k=pure (R.nrm (rawC c k)):=by
 unfold ctx_Runs;rw[told_eq c h,det_pure,pure_bind,told_get,R.norm_eq _ (by have:=rawC_len c k;have:=h.2;omega),det_pure,pure_bind]
theorem Has_eq(c:List TPart)(d:TDot)(h:Sm c):ctx_Has c d=pure (hasC c d.dev d.n):=by
 unfold ctx_Has;rw[cond_dec]
 by_cases h0:0 < d.dev
 ·rw[if_pos h0,Runs_eq c _ h,det_pure,pure_bind,R.has_eq _ _ (by have:=R.nrm_len (rawC c d.dev);have:=rawC_len c d.dev;have:=h.2;omega),det_pure,pure_bind,pure_bind,R.nrm_has]
  rfl
 ·rw[if_neg h0,pure_bind];show pure false=pure (R.hasR (rawC c d.dev) d.n);rw[rawC_bad h0];rfl
def updM(h:Int×List TRun → List TRun)(m:List (Int×List TRun))(L:List Nat):List (Int×List TRun):=m.zipIdx.map fun y=>if y.2∈L then (y.1.1,h y.1) else y.1
theorem updM_get{h:Int×List TRun → List TRun}{m:List (Int×List TRun)}{L:List Nat}{i:Nat}:(updM h m L)[i]?=(m[i]?).map fun e=>if i∈L then (e.1,h e) else e:=by
 unfold updM;rw[List.getElem?_map,List.getElem?_zipIdx]
 cases m[i]? <;> simp
theorem updM_len{h:Int×List TRun → List TRun}{m:List (Int×List TRun)}{L:List Nat}:(updM h m L).length=m.length:=by simp[updM]
theorem set_at{m:List (Int×List TRun)}(hn:(m.map (·.1)).Nodup){i:Nat}{e:Int×List TRun}(hi:m[i]?=some e)(v:List TRun):AL.set m e.1 v=m.set i (e.1,v):=by
 induction m generalizing i with
 | nil=>simp at hi
 | cons x r ih=>
  obtain⟨a,u⟩:=x;simp only[List.map_cons,List.nodup_cons] at hn
  cases i with
  | zero=>simp at hi;subst hi;simp[AL.set]
  | succ i=>
   simp at hi;have:a≠e.1:=fun q=>hn.1 (by rw[q];exact List.mem_map.2 ⟨e,List.mem_of_getElem? hi,rfl⟩)
   simp only[AL.set,this,if_false,List.set_cons_succ];rw[ih hn.2 hi]
theorem updM_keys{h:Int×List TRun → List TRun}{m:List (Int×List TRun)}{L:List Nat}:(updM h m L).map (·.1)=m.map (·.1):=by
 apply List.ext_getElem?;intro i;rw[List.getElem?_map,updM_get,List.getElem?_map]
 cases m[i]? with
 | none=>rfl
 | some e=>simp only[Option.map_some];split <;> rfl
theorem updM_snoc{h:Int×List TRun → List TRun}{m:List (Int×List TRun)}(hn:(m.map (·.1)).Nodup){L:List Nat}{i:Nat}{e:Int×List TRun}(hi:m[i]?=some e)(hL:i∉L):AL.set (updM h m L) e.1 (h e)=updM h m (L++[i]):=by
 have h1:(updM h m L)[i]?=some e:=by rw[updM_get,hi];simp[hL]
 rw[set_at (by rw[updM_keys];exact hn) h1];apply List.ext_getElem?;intro j;rw[List.getElem?_set,updM_get,updM_get]
 by_cases hj:i=j
 ·subst hj;have hlt:i < (updM h m L).length:=by rw[updM_len];exact(List.getElem?_eq_some_iff.1 hi).1
  rw[if_pos rfl,if_pos hlt,hi];simp
 ·rw[if_neg hj]
  cases m[j]? with
  | none=>rfl
  | some x=>simp[Ne.symm hj]
theorem updM_all{h:Int×List TRun → List TRun}{m:List (Int×List TRun)}{L:List Nat}(hL:∀ i,i < m.length → i∈L):updM h m L=m.map fun e=>(e.1,h e):=by
 apply List.ext_getElem?;intro i;rw[updM_get,List.getElem?_map]
 cases hi:m[i]? with
 | none=>rfl
 | some e=>simp[hL i (List.getElem?_eq_some_iff.1 hi).1]
theorem has_key{m:List (Int×List TRun)}{k:Int}(h:k∈m.map (·.1)):AL.has m k=true:=by
 unfold AL.has
 cases hg:AL.get m k with
 | none=>exact absurd h (AL.get_none.1 hg)
 | some v=>rfl
theorem each_loop(body:List (Int×List TRun) → List Nat×List (Int×List TRun) → M (Step (List Nat×List (Int×List TRun)) (List (Int×List TRun))))(do_:List TRun → List TRun → M (List TRun))(F:List TRun → List TRun → List TRun)(m y:List (Int×List TRun))(hn:(m.map (·.1)).Nodup)
  (hb:∀ L v,body y (L,v)=need (∀ i∈L,i < v.length) ((nxt v.length L).bind fun o=>match o with | none=>pure (.done v) | some j=>(idx v (Int.ofNat j)).bind fun kv=>(do_ kv.2 (AL.getZ y kv.1 [])).det.bind fun r=>need (AL.has v kv.1=true) (pure (.next (L++[j],AL.set v kv.1 r)))))
  (hdo:∀ e∈m,do_ e.2 (AL.getZ y e.1 [])=pure (F e.2 (AL.getZ y e.1 []))):loop (body y) ([],m)=pure (m.map fun e=>(e.1,F e.2 (AL.getZ y e.1 []))):=by
 refine eq_pure ?_;have:=loopN (body:=body y) m.length (fun L (v:List (Int×List TRun))=>(L,v)) (fun L v=>v=updM (fun e=>F e.2 (AL.getZ y e.1 [])) m L) (fun r=>r=m.map fun e=>(e.1,F e.2 (AL.getZ y e.1 []))) (fun L v hv hL hlt=>by
  have hlen:v.length=m.length:=by rw[hv];exact updM_len
  refine⟨fun o=>match o with | none=>pure (.done v) | some j=>(idx v (Int.ofNat j)).bind fun kv=>(do_ kv.2 (AL.getZ y kv.1 [])).det.bind fun r=>need (AL.has v kv.1=true) (pure (.next (L++[j],AL.set v kv.1 r))),?_,?_,?_⟩
  ·rw[hb,hlen]
  ·intro hall;show v=_;rw[hv];exact updM_all hall
  ·intro i hi hiL;have hm:=List.getElem?_eq_getElem hi;have hvi:v[i]?=some m[i]:=by rw[hv,updM_get,hm];simp[hiL]
   refine⟨AL.set v (m[i]).1 (F (m[i]).2 (AL.getZ y (m[i]).1 [])),?_,?_⟩
   ·show(idx v (Int.ofNat i)).bind _=_;rw[show(Int.ofNat i)=(i:Int) from rfl,idx_nat hvi,pure_bind,hdo _ (List.getElem_mem hi),det_pure,pure_bind,need_true];refine has_key ?_;rw[hv,updM_keys];exact List.mem_map.2 ⟨m[i],List.getElem_mem hi,rfl⟩
   ·rw[hv];exact updM_snoc hn hm hiL) m (by
  apply List.ext_getElem?;intro i;rw[updM_get]
  cases m[i]? <;> simp)
 exact this
theorem nrm_setR{op:Bool → Bool → Bool}(h0:op false false=false)(a b:List TRun):R.nrm (R.setR op a b)=R.setR op a b:=R.nrm_self (R.setR_props op h0 a b).1
theorem order_each{op:Bool → Bool → Bool}(h0:op false false=false)(hr:∀ x,op false x=false)(a b:List TPart)(ha:Sm a)(hb:Sm b) :
  ctx_order ((toldM a).map fun e=>(e.1,R.setR op e.2 (AL.getZ (toldM b) e.1 [])))=pure (opC op a b):=by
 have hlenR:∀ x y:List TRun,(R.setR op x y).length ≤ 2*(x.length+y.length):=fun x y=>(R.setR_props op h0 x y).2.2
 refine order_eq _ _ _ (by have:=told_len a;have:=ha.1;simp;omega) (fun e he=>?_) (by rw[List.map_map];exact told_nodup a) (devs_sorted _) (fun e he hne=>?_) (fun k hk hne=>?_)
 ·obtain⟨x,hx,rfl⟩:=List.mem_map.1 he;have h1:=hlenR x.2 (AL.getZ (toldM b) x.1 []);rw[(told_mem hx).1,told_get] at h1;have:=rawC_len a x.1;have:=rawC_len b x.1;have:=ha.2;have:=hb.2;show(R.setR op x.2 (AL.getZ (toldM b) x.1 [])).length ≤ _;rw[(told_mem hx).1,told_get];omega
 ·obtain⟨x,hx,rfl⟩:=List.mem_map.1 he;obtain⟨h1,h2,h3⟩:=told_mem hx;refine⟨?_,?_⟩
  ·show x.1∈_;obtain⟨⟨p,hp,hd⟩,_⟩:=mem_devs.1 h3;exact mem_devs.2 ⟨⟨p,List.mem_append_left _ hp,hd⟩,h2⟩
  ·show R.nrm (R.setR op x.2 (AL.getZ (toldM b) x.1 []))=_;rw[nrm_setR h0,told_get,h1]
 ·have hra:rawC a k≠[]:=fun e=>hne (by
   rw[e];exact R.nf_ext (R.setR_props op h0 _ _).1 trivial fun n=>by rw[(R.setR_props op h0 _ _).2.1];show op (R.hasR [] n) _=_;exact hr _)
  refine⟨R.setR op (rawC a k) (AL.getZ (toldM b) k []),List.mem_map.2 ⟨(k,rawC a k),told_at hra,rfl⟩,?_⟩;rw[nrm_setR h0,told_get]
theorem Minus_eq(a b:List TPart)(ha:Sm a)(hb:Sm b):ctx_Minus a b=pure (opC (fun x y=>x&&!y) a b):=by
 unfold ctx_Minus ctx_each_runs_Minus;rw[told_eq a ha,det_pure,pure_bind,told_eq b hb,det_pure,pure_bind,each_loop ctx_each_runs_Minus_l0 runs_Minus (R.setR (fun x y=>x&&!y)) (toldM a) (toldM b) (told_nodup a) (fun L v=>rfl) (fun e he=>?_),pure_bind,order_each rfl (fun _=>rfl) a b ha hb,det_pure,pure_bind,det_pure,pure_bind];rw[(told_mem he).1,told_get];have:=rawC_len a e.1;have:=rawC_len b e.1;have:=ha.2;have:=hb.2;exact R.minus_eq _ _ (by omega) (by omega)
theorem Within_eq(a b:List TPart)(ha:Sm a)(hb:Sm b):ctx_Within a b=pure (decide (opC (fun x y=>x&&!y) a b=[])):=by
 unfold ctx_Within;rw[Minus_eq a b ha hb,det_pure,pure_bind];refine congrArg pure ?_
 cases opC (fun x y=>x&&!y) a b with
 | nil=>rfl
 | cons p r=>simp;omega
theorem partEq(x y:TPart):(decide (x.dev=y.dev)&&decide (x.runs=y.runs))=decide (x=y):=by
 rw[Bool.eq_iff_iff]
 cases x;cases y
 simp
theorem eqP_eq(a b:List TPart)(ha:a.length ≤ 1000000000000)(hr:∀ p∈a,p.runs.length ≤ 1000000000000):slices_EqualFunc_Ctx_Ctx_Part_Part_ctx_eq_c1 a b=pure (decide (a=b)):=by
 unfold slices_EqualFunc_Ctx_Ctx_Part_Part_ctx_eq_c1
 by_cases hl:(a.length:Int)=b.length
 ·simp only[hl,decide_true,Bool.not_true,cond_false];have:=loopAll (body:=slices_EqualFunc_Ctx_Ctx_Part_Part_ctx_eq_c1_l0 a b) a (fun i=>(i:Int)) (fun i x=>decide (b[i]?=some x)) (.brk ()) (.ret false) (fun i x hx hi=>by
   have hb:i < b.length:=by omega
   have hby:=List.getElem?_eq_getElem hb;unfold slices_EqualFunc_Ctx_Ctx_Part_Part_ctx_eq_c1_l0 ctx_eq_c1;have h1:decide ((i:Int) < (a.length:Int))=true:=by simpa using hi
   simp only[h1,cond_true,idx_nat hx,idx_nat hby,pure_bind,R.seq_eq x.runs _ (hr x (List.mem_of_getElem? hx)),det_pure,cond_pure_and,partEq,wSucc (show i < 9223372036854775807 by omega)];rw[hby]
   by_cases hxy:x=b[i] <;> simp[hxy,eq_comm,pure_bind]) (by unfold slices_EqualFunc_Ctx_Ctx_Part_Part_ctx_eq_c1_l0;simp)
  rw[show(0:Int)=((0:Nat):Int) from rfl,this];have hiff:(a.zipIdx.all fun y=>decide (b[y.2]?=some y.1))=decide (a=b):=by
   rw[Bool.eq_iff_iff,List.all_eq_true,decide_eq_true_eq]
   constructor
   ·intro h;apply List.ext_getElem?;intro i
    by_cases hi:i < a.length
    ·have:=h (a[i],i) (by rw[List.mem_zipIdx_iff_getElem?];exact List.getElem?_eq_getElem hi);simp only[decide_eq_true_eq] at this;rw[this,List.getElem?_eq_getElem hi]
    ·rw[List.getElem?_eq_none (by omega),List.getElem?_eq_none (by omega)]
   ·rintro rfl y hy;rw[List.mem_zipIdx_iff_getElem?] at hy;simpa using hy
  rw[hiff]
  by_cases h:a=b <;> simp[h,exk,pure_bind]
 ·have:¬ a=b:=fun e=>hl (by rw[e])
  simp[hl,this]
theorem eq_eq(a b:List TPart)(ha:a.length ≤ 1000000000000)(hr:∀ p∈a,p.runs.length ≤ 1000000000000):ctx_eq a b=pure (decide (a=b)):=by
 unfold ctx_eq;rw[eqP_eq a b ha hr,det_pure,pure_bind]
theorem run_le{c:List TPart}:∀ p∈c,p.runs.length ≤ totC c:=by
 induction c with
 | nil=>intro p hp;simp at hp
 | cons q r ih=>
  intro p hp;have e:totC (q::r)=q.runs.length+totC r:=by simp[totC]
  rcases List.mem_cons.1 hp with rfl | hp
  ·omega
  ·have:=ih p hp;omega
theorem Same_eq(a b:List TPart)(ha:Sm a)(hb:Sm b):ctx_Same a b=pure (decide (normC a=normC b)):=by
 unfold ctx_Same;have h1:=len_normC a;have h2:=tot_normC a;have h3:=ha.1;have h4:=ha.2;rw[Norm_eq a ha,det_pure,pure_bind,Norm_eq b hb,det_pure,pure_bind,eq_eq _ _ (by omega) (fun p hp=>by have:=run_le p hp;omega),det_pure,pure_bind]
theorem Good_eq(c:List TPart)(h:Sm c):ctx_Good c=pure (decide (c=normC c)):=by
 unfold ctx_Good;rw[Norm_eq c h,det_pure,pure_bind,eq_eq _ _ (by have:=h.1;omega) (fun p hp=>by have:=run_le p hp;have:=h.2;omega),det_pure,pure_bind]
theorem rEq_eq(a b:List TPart)(ha:a.length ≤ 1000000000000)(hr:∀ p∈a,p.runs.length ≤ 1000000000000):r09_Eq a b=pure (decide (a=b)):=by
 unfold r09_Eq
 by_cases hl:(a.length:Int)=b.length
 ·simp only[hl,decide_true,Bool.not_true,cond_false];have:=loopAll (body:=r09_Eq_l0 a b) a (fun i=>(i:Int)) (fun i x=>decide (b[i]?=some x)) (.brk ()) (.ret false) (fun i x hx hi=>by
   have hb:i < b.length:=by omega
   have hby:=List.getElem?_eq_getElem hb;unfold r09_Eq_l0;have h1:decide ((i:Int) < (a.length:Int))=true:=by simpa using hi
   simp only[h1,cond_true,idx_nat hx,idx_nat hby,pure_bind,R.req_eq x.runs _ (hr x (List.mem_of_getElem? hx)),det_pure,wSucc (show i < 9223372036854775807 by omega)];rw[hby];have he:=partEq x b[i]
   by_cases hd:x.dev=(b[i]).dev
   ·by_cases hq:x.runs=(b[i]).runs
    ·simp only[hd,hq,decide_true,Bool.and_self,eq_comm (a:=true),decide_eq_true_eq] at he;simp[hd,hq,he,pure_bind]
    ·have hne:¬ x=b[i]:=fun e=>hq (by rw[e])
     have hne2:¬ b[i]=x:=fun e=>hne e.symm
     simp[hd,hq,hne2,pure_bind]
   ·have hne2:¬ b[i]=x:=fun e=>hd (by rw[e])
    simp[hd,hne2,pure_bind]) (by unfold r09_Eq_l0;simp)
  rw[show(0:Int)=((0:Nat):Int) from rfl,this];have hiff:(a.zipIdx.all fun y=>decide (b[y.2]?=some y.1))=decide (a=b):=by
   rw[Bool.eq_iff_iff,List.all_eq_true,decide_eq_true_eq]
   constructor
   ·intro h;apply List.ext_getElem?;intro i
    by_cases hi:i < a.length
    ·have:=h (a[i],i) (by rw[List.mem_zipIdx_iff_getElem?];exact List.getElem?_eq_getElem hi);simp only[decide_eq_true_eq] at this;rw[this,List.getElem?_eq_getElem hi]
    ·rw[List.getElem?_eq_none (by omega),List.getElem?_eq_none (by omega)]
   ·rintro rfl y hy;rw[List.mem_zipIdx_iff_getElem?] at hy;simpa using hy
  rw[hiff]
  by_cases h:a=b <;> simp[h,exk,pure_bind]
 ·have:¬ a=b:=fun e=>hl (by rw[e])
  simp[hl,this]
theorem rEq_sm(a b:List TPart)(h:Sm a):r09_Eq a b=pure (decide (a=b)):=rEq_eq a b (by have:=h.1;omega) fun p hp=>by have:=run_le p hp;have:=h.2;omega
theorem join_nrm(u v:List TRun):R.setR (·||·) (R.nrm u) v=R.nrm (u++v):=R.nf_ext (R.setR_props _ rfl _ _).1 (R.nrm_nf _) fun n=>by rw[(R.setR_props _ rfl _ _).2.1,R.nrm_has,R.nrm_has,R.hasR_app]
theorem rRuns_eq(c:List TPart)(k:Int)(hk:0 ≤ k)(h:c.length ≤ 1000000000)(ht:totC c ≤ 1000000000):r09_Runs c k=pure (R.nrm (rawC c k)):=by
 unfold r09_Runs;have hpre:∀ i,(rawC (c.take i) k).length ≤ 1000000000:=fun i=>by
  have h1:=rawC_len (c.take i) k;have h2:totC (c.take i) ≤ totC c:=by
   conv=>rhs;rw[← List.take_append_drop i c]
   rw[totC_app];omega
  omega
 have:=loopL (body:=r09_Runs_l0 c k) c (fun i (t:List TRun)=>(t,(i:Int))) (fun t p=>if p.dev=k ∧ 0 < k then R.setR (·||·) t p.runs else t) (fun t=>pure t) (fun i t=>t=R.nrm (rawC (c.take i) k)) (fun i x t hx hi ht2=>by
  have h1:decide ((i:Int) < (c.length:Int))=true:=by simpa using hi
  have hxl:x.runs.length ≤ 1000000000:=by have:=run_le x (List.mem_of_getElem? hx);omega
  have htl:t.length ≤ 2000000000:=by have:=R.nrm_len (rawC (c.take i) k);have:=hpre i;rw[ht2];omega
  unfold r09_Runs_l0;simp only[h1,cond_true,idx_nat hx,pure_bind,wSucc (show i < 9223372036854775807 by omega),cond_dec];have hnext:(if x.dev=k ∧ 0 < k then R.setR (·||·) t x.runs else t)=R.nrm (rawC (c.take (i+1)) k):=by
   rw[List.take_add_one,hx,rawC_app,Option.toList,rawC_cons,rawC_nil,List.append_nil,ht2]
   split
   ·exact join_nrm _ _
   ·rw[List.append_nil]
  refine⟨?_,hnext⟩
  by_cases hd:x.dev=k
  ·by_cases h0:k=0
   ·have:¬ (x.dev=k ∧ 0 < k):=by omega
    rw[if_neg this,if_pos hd];simp[h0,pure_bind]
   ·rw[if_pos (show x.dev=k ∧ 0 < k from ⟨hd,by omega⟩),if_pos hd];simp only[h0,decide_false,Bool.not_false,pure_bind,cond_true];rw[R.rjoin_eq _ _ (by omega),det_pure,pure_bind,pure_bind]
  ·rw[if_neg (fun(q:x.dev=k ∧ 0 < k)=>hd q.1),if_neg hd]
   rfl) (fun t _=>by unfold r09_Runs_l0;simp[pure_bind]) [] (by rw[List.take_zero,rawC_nil,nrm_nil])
 rw[show(([]:List TRun),(0:Int))=([],((0:Nat):Int)) from rfl,this];have key:∀ (l:List TPart) (u:List TRun),l.foldl (fun t p=>if p.dev=k ∧ 0 < k then R.setR (·||·) t p.runs else t) (R.nrm u)=R.nrm (u++rawC l k):=by
  intro l
  induction l with
  | nil=>intro u;simp[rawC]
  | cons p r ih=>
   intro u;rw[List.foldl_cons,rawC_cons]
   by_cases hp:p.dev=k ∧ 0 < k
   ·rw[if_pos hp,if_pos hp,join_nrm,ih,List.append_assoc]
   ·rw[if_neg hp,if_neg hp,ih,List.nil_append]
 have h2:=key c [];rw[nrm_nil,List.nil_append] at h2;rw[h2];rfl
def allD(c:List TPart):List Int:=c.foldl (fun l p=>V.insI l p.dev) []
theorem allD_gen(c:List TPart):∀ l:List Int,l.Pairwise (· < ·) → (c.foldl (fun l p=>V.insI l p.dev) l).Pairwise (· < ·) ∧ (∀ k,k∈c.foldl (fun l p=>V.insI l p.dev) l↔k∈l ∨ ∃ p∈c,p.dev=k) ∧ (c.foldl (fun l p=>V.insI l p.dev) l).length ≤ l.length+c.length:=by
 induction c with
 | nil=>intro l h;simp[h]
 | cons p r ih=>
  intro l h;rw[List.foldl_cons];obtain⟨h1,h2,h3⟩:=ih _ (V.insI_sorted h p.dev);refine⟨h1,fun k=>?_,by have:=V.len_insI l p.dev;simp;omega⟩;rw[h2,V.mem_insI]
  constructor
  ·rintro((rfl | h4) | ⟨x,h4,h5⟩)
   ·exact .inr ⟨p,by simp,rfl⟩
   ·exact .inl h4
   ·exact .inr ⟨x,by simp[h4],h5⟩
  ·rintro(h4 | ⟨x,h4,h5⟩)
   ·exact .inl (.inr h4)
   ·rcases List.mem_cons.1 h4 with rfl | h4
    ·exact .inl (.inl h5.symm)
    ·exact .inr ⟨x,h4,h5⟩
theorem allD_sorted(c:List TPart):(allD c).Pairwise (· < ·):=(allD_gen c [] List.Pairwise.nil).1
theorem mem_allD{c:List TPart}{k:Int}:k∈allD c↔∃ p∈c,p.dev=k:=by
 have:=(allD_gen c [] List.Pairwise.nil).2.1 k;unfold allD;rw[this];simp
theorem len_allD(c:List TPart):(allD c).length ≤ c.length:=by simpa[allD] using (allD_gen c [] List.Pairwise.nil).2.2
theorem ones_len(l:List Int):(V.ones l).length=l.length:=by simp[V.ones]
theorem rdevs_eq(a b:List TPart)(h:a.length+b.length ≤ 10000000000):r09_devs a b=pure (V.ones (allD (a++b))):=by
 unfold r09_devs;have h1:=loopL (body:=r09_devs_l0 a) a (fun i (l:List Int)=>(V.ones l,(i:Int))) (fun l p=>V.insI l p.dev) (fun l=>pure (V.ones l)) (fun i l=>l.Pairwise (· < ·) ∧ l.length ≤ i) (fun i x l hx hi ⟨hs,hl⟩=>by
  have h1:decide ((i:Int) < (a.length:Int))=true:=by simpa using hi
  unfold r09_devs_l0;simp only[h1,cond_true,idx_nat hx,pure_bind,wSucc (show i < 9223372036854775807 by omega)];rw[V.r07_Put_eq _ _ (by rw[ones_len];omega),det_pure,pure_bind,V.put_ones hs];exact⟨rfl,V.insI_sorted hs _,by have:=V.len_insI l x.dev;omega⟩) (fun l _=>by unfold r09_devs_l0;simp[pure_bind]) [] ⟨List.Pairwise.nil,by simp⟩
 have h2:=loopL (body:=r09_devs_l1 b) b (fun i (l:List Int)=>(V.ones l,(i:Int))) (fun l p=>V.insI l p.dev) (fun l=>pure (V.ones l)) (fun i l=>l.Pairwise (· < ·) ∧ l.length ≤ a.length+i) (fun i x l hx hi ⟨hs,hl⟩=>by
  have h1:decide ((i:Int) < (b.length:Int))=true:=by simpa using hi
  unfold r09_devs_l1;simp only[h1,cond_true,idx_nat hx,pure_bind,wSucc (show i < 9223372036854775807 by omega)];rw[V.r07_Put_eq _ _ (by rw[ones_len];omega),det_pure,pure_bind,V.put_ones hs];exact⟨rfl,V.insI_sorted hs _,by have:=V.len_insI l x.dev;omega⟩) (fun l _=>by unfold r09_devs_l1;simp[pure_bind]) (allD a) ⟨allD_sorted a,by have:=len_allD a;omega⟩
 rw[show(([]:List TDot),(0:Int))=(V.ones [],((0:Nat):Int)) from rfl,h1,pure_bind];show(loop (r09_devs_l1 b) (V.ones (allD a),((0:Nat):Int))).bind _=_;rw[h2,pure_bind];unfold allD;rw[List.foldl_append]
theorem rset_eq(op:Bool → Bool → Bool)(how:Int)(hop:∀ x y,op x y=if how=2 then (x&&!y) else if how=1 then (x&&y) else (x||y))(h0:op false false=false)(a b:List TPart)(oa:∀ p∈a,0 ≤ p.dev)(ob:∀ p∈b,0 ≤ p.dev)(ha:a.length ≤ 1000000000)(hb:b.length ≤ 1000000000)(ta:totC a ≤ 1000000000)(tb:totC b ≤ 1000000000):r09_set a b how=pure (opC op a b):=by
 unfold r09_set;rw[rdevs_eq a b (by omega),det_pure,pure_bind];have hlenA:∀ k,(R.nrm (rawC a k)).length ≤ 2000000000:=fun k=>by have:=R.nrm_len (rawC a k);have:=rawC_len a k;omega
 have hlenB:∀ k,(R.nrm (rawC b k)).length ≤ 2000000000:=fun k=>by have:=R.nrm_len (rawC b k);have:=rawC_len b k;omega
 have hop':∀ k,R.setR op (R.nrm (rawC a k)) (R.nrm (rawC b k))=R.setR op (rawC a k) (rawC b k):=fun k=>R.nf_ext (R.setR_props op h0 _ _).1 (R.setR_props op h0 _ _).1 fun n=>by rw[(R.setR_props op h0 _ _).2.1,(R.setR_props op h0 _ _).2.1,R.nrm_has,R.nrm_has]
 have hkey:∀ k∈allD (a++b),0 ≤ k:=fun k hk=>by
  obtain⟨p,hp,rfl⟩:=mem_allD.1 hk;rcases List.mem_append.1 hp with hp | hp
  ·exact oa p hp
  ·exact ob p hp
 have hnd:(allD (a++b)).length ≤ 2000000000:=by have:=len_allD (a++b);rw[List.length_append] at this;omega
 have hgo:=loopL (body:=r09_set_l0 (V.ones (allD (a++b))) a b how) (allD (a++b)) (fun i (t:List TPart)=>((i:Int),t)) (fun t k=>if R.setR op (rawC a k) (rawC b k)=[] then t else t++[⟨k,R.setR op (rawC a k) (rawC b k)⟩]) (fun t=>pure t) (fun i t=>t.length ≤ i) (fun i k t hk hi hl=>by
  have h1:decide ((i:Int) < ((V.ones (allD (a++b))).length:Int))=true:=by rw[ones_len];simpa using hi
  have hx:(V.ones (allD (a++b)))[i]?=some ⟨k,1⟩:=by simp[V.ones,hk]
  have hk0:0 ≤ k:=hkey k (List.mem_of_getElem? hk);unfold r09_set_l0;simp only[h1,cond_true,idx_nat hx,pure_bind,rRuns_eq a k hk0 ha ta,rRuns_eq b k hk0 hb tb,det_pure,wSucc (show i < 9223372036854775807 by omega)];have hl1:=hlenA k;have hl2:=hlenB k;rw[R.rjoin_eq _ _ (by omega),det_pure,pure_bind,R.rmeet_eq _ _ (by omega),det_pure,pure_bind,R.rminus_eq _ _ (by omega),det_pure,pure_bind];have hz:(cond (decide (how=1)) (pure (R.setR (·&&·) (R.nrm (rawC a k)) (R.nrm (rawC b k)))) (pure (R.setR (·||·) (R.nrm (rawC a k)) (R.nrm (rawC b k)))):M (List TRun)).bind (fun z=>cond (decide (how=2)) (pure (R.setR (fun x y=>x&&!y) (R.nrm (rawC a k)) (R.nrm (rawC b k)))) (pure z))=pure (R.setR op (rawC a k) (rawC b k)):=by
   rw[← hop' k]
   by_cases h2:how=2
   ·subst h2;have:op=fun x y=>x&&!y:=by funext x y;rw[hop];simp
    rw[this];rfl
   ·by_cases h1:how=1
    ·subst h1;have:op=fun x y=>x&&y:=by funext x y;rw[hop];simp
     rw[this];rfl
    ·have:op=fun x y=>x||y:=by funext x y;rw[hop];simp[h1,h2]
     rw[this];simp[h1,h2,pure_bind]
  rw[← bind_assoc,hz,pure_bind];have hsl:=(R.setR_props op h0 (rawC a k) (rawC b k)).2.2
  by_cases hz0:R.setR op (rawC a k) (rawC b k)=[]
  ·rw[if_pos hz0];simp only[hz0,List.length_nil];exact⟨rfl,by omega⟩
  ·rw[if_neg hz0];have:decide (0 < ((R.setR op (rawC a k) (rawC b k)).length:Int))=true:=by
    have:=List.length_pos_iff.2 hz0;simp;omega
   rw[this,cond_true,need_true (by simp;omega)];exact⟨rfl,by simp;omega⟩) (fun t _=>by unfold r09_set_l0;rw[ones_len];simp[pure_bind]) [] (by simp)
 rw[show((0:Int),([]:List TPart))=(((0:Nat):Int),[]) from rfl,hgo,pure_bind];have key:∀ (ks:List Int) (t:List TPart),ks.foldl (fun t k=>if R.setR op (rawC a k) (rawC b k)=[] then t else t++[⟨k,R.setR op (rawC a k) (rawC b k)⟩]) t=t++partsOf (fun k=>R.setR op (rawC a k) (rawC b k)) ks:=by
  intro ks
  induction ks with
  | nil=>intro t;simp[partsOf]
  | cons k ks ih=>
   intro t;rw[List.foldl_cons,ih]
   by_cases h:R.setR op (rawC a k) (rawC b k)=[]
   ·rw[if_pos h];simp[partsOf,h]
   ·rw[if_neg h];simp[partsOf,h]
 rw[key,List.nil_append];refine congrArg pure (partsOf_ext (allD_sorted _) (devs_sorted _) (fun _=>rfl) fun k hk=>?_);have hr:rawC (a++b) k≠[]:=fun e=>hk (by
  rw[rawC_app] at e;have:=List.append_eq_nil_iff.1 e;rw[this.1,this.2];exact setR_nil h0)
 exact⟨fun _=>raw_devs hr,fun _=>mem_allD.2 (mem_devs.1 (raw_devs hr)).1⟩
structure Ok(c:List TPart):Prop where
 dev:∀ p∈c,0 ≤ p.dev
 len:c.length ≤ 1000000000
 tot:totC c ≤ 1000000000
theorem Ok.sm{c:List TPart}(h:Ok c):Sm c:=⟨by have:=h.len;omega,by have:=h.tot;omega⟩
section
variable(a b:List TPart)(ha:Ok a)(hb:Ok b)
include ha hb
theorem rMinus_eq : r09_Minus a b=pure (opC (fun x y=>x&&!y) a b):=by
 unfold r09_Minus;rw[rset_eq (fun x y=>x&&!y) 2 (fun x y=>by simp) rfl a b ha.dev hb.dev ha.len hb.len ha.tot hb.tot,det_pure,pure_bind]
theorem rWithin_eq : r09_Within a b=pure (decide (opC (fun x y=>x&&!y) a b=[])):=by
 unfold r09_Within;rw[rMinus_eq a b ha hb,det_pure,pure_bind];refine congrArg pure ?_
 cases opC (fun x y=>x&&!y) a b with
 | nil=>rfl
 | cons p r=>simp;omega
end
theorem ok_nil : Ok []:=⟨fun p h=>by simp at h,by simp,by simp[totC]⟩
theorem opC_nil(c:List TPart):opC (·||·) c []=normC c:=by rw[← norm_or,List.append_nil]
theorem rNorm_eq(c:List TPart)(h:Ok c):r09_Norm c=pure (normC c):=by
 unfold r09_Norm;rw[rset_eq (·||·) 0 (fun x y=>by simp) rfl c [] h.dev ok_nil.dev h.len ok_nil.len h.tot ok_nil.tot,det_pure,pure_bind,opC_nil]
theorem sm_norm{c:List TPart}(h:Ok c):Sm (normC c):=⟨by have:=len_normC c;have:=h.len;omega,by have:=tot_normC c;have:=h.tot;omega⟩
theorem rSame_eq(a b:List TPart)(ha:Ok a)(hb:Ok b):r09_Same a b=pure (decide (normC a=normC b)):=by
 unfold r09_Same;rw[rNorm_eq a ha,det_pure,pure_bind,rNorm_eq b hb,det_pure,pure_bind,rEq_sm _ _ (sm_norm ha),det_pure,pure_bind]
theorem rGood_eq(c:List TPart)(h:Ok c):r09_Good c=pure (decide (c=normC c)):=by
 unfold r09_Good;rw[rNorm_eq c h,det_pure,pure_bind,rEq_sm _ _ h.sm,det_pure,pure_bind]
theorem has_pos{c:List TPart}{k n:Int}(h:hasC c k n=true):0 < k ∧ 1 ≤ n ∧ n ≤ 281474976710655:=by
 refine⟨Classical.byContradiction fun h0=>?_,R.hasR_range h⟩;unfold hasC at h;rw[rawC_bad h0] at h
 cases h
theorem rHas_eq(c:List TPart)(d:TDot)(h:Ok c):r09_Has c d=pure (hasC c d.dev d.n):=by
 unfold r09_Has;rw[V.r07_Good_eq,det_pure,pure_bind]
 by_cases hg:V.goodD d=true
 ·have h1:=V.goodD_iff.1 hg;rw[hg,cond_true,rRuns_eq c d.dev (by omega) h.len h.tot,det_pure,pure_bind,R.rhas_eq _ _ (by have:=R.nrm_len (rawC c d.dev);have:=rawC_len c d.dev;have:=h.tot;omega),det_pure,pure_bind,pure_bind,R.nrm_has]
  rfl
 ·have hg':V.goodD d=false:=by simpa using hg
  rw[hg',cond_false,pure_bind]
  cases hh:hasC c d.dev d.n with
  | false=>rfl
  | true=>obtain⟨h1,h2,h3⟩:=has_pos hh;exact absurd (V.goodD_iff.2 ⟨by omega,h2,h3⟩) hg
theorem rFew_eq(c:List TPart):r09_Few c=pure (decide (c.length ≤ 30)&&c.all fun p=>decide (p.runs.length ≤ 30)):=by
 unfold r09_Few
 by_cases h0:30 < c.length
 ·have:decide ((30:Int) < (c.length:Int))=true:=by simp;omega
  rw[this,cond_true];have:decide (c.length ≤ 30)=false:=by simp;omega
  rw[this];rfl
 ·have h1:decide ((30:Int) < (c.length:Int))=false:=by simp;omega
  rw[h1,cond_false];have:=loopAll (body:=r09_Few_l0 c) c (fun i=>(i:Int)) (fun i x=>decide (x.runs.length ≤ 30)) (.brk ()) (.ret false) (fun i x hx hi=>by
   have h2:decide ((i:Int) < (c.length:Int))=true:=by simpa using hi
   unfold r09_Few_l0;simp only[h2,cond_true,idx_nat hx,pure_bind,cond_dec,wSucc (show i < 9223372036854775807 by omega),decide_eq_true_eq]
   by_cases h3:x.runs.length ≤ 30
   ·rw[if_neg (by omega),if_pos h3]
   ·rw[if_pos (by omega),if_neg h3]) (by unfold r09_Few_l0;simp)
  rw[show(0:Int)=((0:Nat):Int) from rfl,this];have hiff:(c.zipIdx.all fun y=>decide (y.1.runs.length ≤ 30))=c.all fun p=>decide (p.runs.length ≤ 30):=by
   rw[Bool.eq_iff_iff,List.all_eq_true,List.all_eq_true]
   constructor
   ·intro h p hp;obtain⟨i,hi⟩:=List.mem_iff_getElem?.1 hp;exact h (p,i) (List.mem_zipIdx_iff_getElem?.2 hi)
   ·intro h y hy;exact h _ (List.mem_of_getElem? (List.mem_zipIdx_iff_getElem?.1 hy))
  rw[hiff];have h4:decide (c.length ≤ 30)=true:=by simp;omega
  rw[h4,Bool.true_and]
  cases c.all fun p=>decide (p.runs.length ≤ 30) <;> rfl
theorem few_tot{c:List TPart}(h:(decide (c.length ≤ 30)&&c.all fun p=>decide (p.runs.length ≤ 30))=true):c.length ≤ 30 ∧ totC c ≤ 900:=by
 rw[Bool.and_eq_true,decide_eq_true_eq,List.all_eq_true] at h;refine⟨h.1,?_⟩;have:∀ l:List TPart,(∀ p∈l,decide (p.runs.length ≤ 30)=true) → totC l ≤ l.length*30:=by
  intro l
  induction l with
  | nil=>intro _;simp[totC]
  | cons p r ih=>
   intro hl;have e:totC (p::r)=p.runs.length+totC r:=by simp[totC]
   have h1:=ih fun q hq=>hl q (by simp[hq])
   have h2:=hl p (by simp);simp only[decide_eq_true_eq] at h2;simp only[List.length_cons];omega
 have:=this c h.2;omega
def onlyC(c:List TPart)(k:Int):List TPart:=normC [⟨k,R.nrm (rawC c k)⟩]
theorem Only_eq(c:List TPart)(k:Int)(h:Ok c):ctx_Only c k=pure (onlyC c k):=by
 unfold ctx_Only onlyC;have h1:=R.nrm_len (rawC c k);have h2:=rawC_len c k;have h3:=h.tot;rw[Runs_eq c k h.sm,det_pure,pure_bind,Norm_eq _ ⟨by simp,by simp[totC];omega⟩,det_pure,pure_bind]
theorem only_form(c:List TPart)(k:Int):onlyC c k=if R.nrm (rawC c k)=[] then [] else [⟨k,R.nrm (rawC c k)⟩]:=by
 unfold onlyC
 by_cases h:R.nrm (rawC c k)=[]
 ·rw[if_pos h,h];refine canon_none (canon_norm _) fun q n=>?_
  rw[has_normC];unfold hasC;rw[rawC_cons,rawC_nil]
  split <;> rfl
 ·rw[if_neg h];have h0:0 < k:=Classical.byContradiction fun h0=>h (by rw[rawC_bad h0];exact nrm_nil)
  exact norm_canon ⟨List.pairwise_singleton _ _,fun p hp=>by rw[List.mem_singleton] at hp;subst hp;exact⟨h0,h,R.nrm_nf _⟩⟩
theorem rOnly_eq(c:List TPart)(k:Int)(hk:0 ≤ k)(h:Ok c):r09_Only c k=pure (onlyC c k):=by
 unfold r09_Only;rw[rRuns_eq c k hk h.len h.tot,det_pure,pure_bind,only_form]
 cases R.nrm (rawC c k) with
 | nil=>rfl
 | cons x r=>
  have:decide (((x::r).length:Int)=0)=false:=by simp;omega
  rw[this];simp
theorem ok_few{c:List TPart}(o:∀ p∈c,0 ≤ p.dev)(h:c.length ≤ 30 ∧ totC c ≤ 900):Ok c:=⟨o,by omega,by omega⟩
end Go.Ep.M.C
namespace Go.Ep.M.N
open Go
def lenN(n:Nat):Nat:=if n=0 then 0 else lenN (n / 256)+1
def byteAt(n i:Nat):Int:=((n / 256 ^ i % 256:Nat):Int)
def be(n:Nat):Nat → List Int
 | 0=>[]
 | k+1=>byteAt n k::be n k
def encN(n:Nat):List Int:=(lenN n:Int)::be n (lenN n)
def encI(v:Int):List Int:=encN v.toNat
def By(l:List Int):Prop:=∀ x∈l,0 ≤ x ∧ x ≤ 255
theorem By.drop{l:List Int}(h:By l)(n:Nat):By (l.drop n):=fun x hx=>h x (List.mem_of_mem_drop hx)
theorem By.take{l:List Int}(h:By l)(n:Nat):By (l.take n):=fun x hx=>h x (List.mem_of_mem_take hx)
theorem By.app{a b:List Int}(ha:By a)(hb:By b):By (a++b):=fun x hx=>(List.mem_append.1 hx).elim (ha x) (hb x)
theorem By.nil : By []:=fun x hx=>by cases hx
def valB(l:List Int):Int:=l.foldl (fun v x=>v*256+x) 0
def rdN : List Int → Int×Nat×Int
 | []=>(0,0,2)
 | n::r=>if 8 < n ∨ (0 < n ∧ r.head?=some 0) then (0,0,4) else if (r.length:Int) < n then (0,0,2) else (valB (r.take n.toNat),n.toNat+1,0)
abbrev RS:=List Int×Int
structure Ok(s:RS):Prop where
 by_:By s.1
 len:s.1.length ≤ 1000000000
 nil:s.2≠0 → s.1=[]
def failS(e:Int)(s:RS):RS:=if s.2=0 ∧ e≠0 then ([],e) else s
def numS(s:RS):Int×RS:=if s.2≠0 then (0,s) else if (rdN s.1).2.2≠0 then (0,failS (rdN s.1).2.2 s) else ((rdN s.1).1,(s.1.drop (rdN s.1).2.1,0))
def uptoS(m:Int)(s:RS):Int×RS:=if m < (numS s).1 then (0,failS 4 (numS s).2) else numS s
def byteS(s:RS):Int×RS:=if s.2≠0 then (0,s) else match s.1 with | []=>(0,failS 2 s) | x::r=>(x,(r,0))
def textS(m:Int)(s:RS):ByteArray×RS:=
 if (numS s).2.2≠0 then (⟨#[]⟩,(numS s).2) else if max m 0 < (numS s).1 then (⟨#[]⟩,failS 3 (numS s).2) else if ((numS s).2.1.length:Int) < (numS s).1 then (⟨#[]⟩,failS 2 (numS s).2)
 else (strL ((numS s).2.1.take (numS s).1.toNat),((numS s).2.1.drop (numS s).1.toNat,0))
structure Sim(B:List Int)(a:Int)(s:RS):Prop where
 lo:0 ≤ a
 hi:a ≤ B.length
 eq:s.2=0 → s.1=B.drop a.toNat
structure OkB(B:List Int):Prop where
 by_:By B
 len:B.length ≤ 1000000000
variable{B:List Int}{a:Int}{s:RS}
end Go.Ep.M.N
namespace Go.Ep.M.D
open Go
theorem lt_iff{a b:TDot}:ltDot a b=true↔a.dev < b.dev ∨ (a.dev=b.dev ∧ a.n < b.n):=by simp[ltDot]
theorem lt_irr(a:TDot):ltDot a a=false:=by
 cases h:ltDot a a with
 | false=>rfl
 | true=>rw[lt_iff] at h;omega
theorem lt_trans{a b c:TDot}(h1:ltDot a b=true)(h2:ltDot b c=true):ltDot a c=true:=by rw[lt_iff] at *;omega
theorem lt_asym{a b:TDot}(h:ltDot a b=true):ltDot b a=false:=by
 cases h2:ltDot b a with
 | false=>rfl
 | true=>rw[lt_iff] at h h2;omega
theorem lt_tri{a b:TDot}(h1:ltDot a b=false)(h2:ltDot b a=false):a=b:=by
 have h3:¬ (ltDot a b=true):=by simp[h1]
 have h4:¬ (ltDot b a=true):=by simp[h2]
 rw[lt_iff] at h3 h4
 cases a;cases b
 simp only[TDot.mk.injEq] at *
 omega
abbrev Srt(l:List TDot):Prop:=l.Pairwise fun x y=>ltDot x y=true
theorem srt_ext : ∀ {l l':List TDot},Srt l → Srt l' → (∀ d,d∈l↔d∈l') → l=l'
 | [],[],_,_,_=>rfl
 | [],y::r,_,_,h=>by have:=(h y).2 (by simp);simp at this
 | x::r,[],_,_,h=>by have:=(h x).1 (by simp);simp at this
 | x::r,y::t,h1,h2,h=>by
  have hx:=(h x).1 (by simp);have hy:=(h y).2 (by simp);have e:x=y:=by
   rcases List.mem_cons.1 hx with e | hx
   ·exact e
   ·rcases List.mem_cons.1 hy with e | hy
    ·exact e.symm
    ·have a1:=(List.pairwise_cons.1 h2).1 x hx;have a2:=(List.pairwise_cons.1 h1).1 y hy;rw[lt_asym a1] at a2;cases a2
  subst e
  congr 1
  refine srt_ext (List.pairwise_cons.1 h1).2 (List.pairwise_cons.1 h2).2 fun d=>?_
  have h3:=h d;simp only[List.mem_cons] at h3
  constructor
  ·intro hd;rcases h3.1 (.inr hd) with e | h4
   ·have:=(List.pairwise_cons.1 h1).1 d hd;rw[e,lt_irr] at this;cases this
   ·exact h4
  ·intro hd;rcases h3.2 (.inr hd) with e | h4
   ·have:=(List.pairwise_cons.1 h2).1 d hd;rw[e,lt_irr] at this;cases this
   ·exact h4
def insD(s:List TDot)(d:TDot):List TDot:=(s.filter fun x=>ltDot x d)++[d]++(s.filter fun x=>ltDot d x)
theorem ins_mem{s:List TDot}{d x:TDot}:x∈insD s d↔x=d ∨ x∈s:=by
 simp only[insD,List.mem_append,List.mem_filter,List.mem_singleton]
 constructor
 ·rintro((h | h) | h)
  ·exact .inr h.1
  ·exact .inl h
  ·exact .inr h.1
 ·rintro(h | h)
  ·exact .inl (.inr h)
  ·cases h1:ltDot x d with
   | true=>exact .inl (.inl ⟨h,rfl⟩)
   | false=>
    cases h2:ltDot d x with
    | true=>exact .inr ⟨h,rfl⟩
    | false=>exact .inl (.inr (lt_tri h1 h2))
theorem ins_srt{s:List TDot}(h:Srt s)(d:TDot):Srt (insD s d):=by
 unfold Srt insD;rw[List.pairwise_append,List.pairwise_append];refine⟨⟨h.filter _,by simp,fun a ha b hb=>?_⟩,h.filter _,fun a ha b hb=>?_⟩
 ·rw[List.mem_singleton.1 hb];exact(List.mem_filter.1 ha).2
 ·have hb:=(List.mem_filter.1 hb).2;rcases List.mem_append.1 ha with ha | ha
  ·exact lt_trans (List.mem_filter.1 ha).2 hb
  ·rw[List.mem_singleton.1 ha];exact hb
theorem ins_len(s:List TDot)(d:TDot):(insD s d).length ≤ s.length+1:=by
 unfold insD;have h:∀ l:List TDot,(l.filter fun x=>ltDot x d).length+(l.filter fun x=>ltDot d x).length ≤ l.length:=by
  intro l
  induction l with
  | nil=>simp
  | cons x r ih=>
   cases h1:ltDot x d with
   | true=>simp[h1,lt_asym h1];omega
   | false=>
    cases h2:ltDot d x with
    | true=>simp[h1,h2];omega
    | false=>simp[h1,h2];omega
 have:=h s;simp;omega
def sortD(l:List TDot):List TDot:=l.foldl insD []
theorem sort_gen : ∀ (l s:List TDot),Srt s → Srt (l.foldl insD s) ∧ (∀ d,d∈l.foldl insD s↔d∈s ∨ d∈l) ∧ (l.foldl insD s).length ≤ s.length+l.length
 | [],s,h=>⟨h,by simp,by simp⟩
 | x::r,s,h=>by
  obtain⟨h1,h2,h3⟩:=sort_gen r (insD s x) (ins_srt h x);refine⟨h1,fun d=>?_,?_⟩
  ·rw[List.foldl_cons,h2 d,ins_mem,List.mem_cons]
   constructor
   ·rintro((h | h) | h)
    ·exact .inr (.inl h)
    ·exact .inl h
    ·exact .inr (.inr h)
   ·rintro(h | h | h)
    ·exact .inl (.inr h)
    ·exact .inl (.inl h)
    ·exact .inr h
  ·have:=ins_len s x;rw[List.foldl_cons,List.length_cons];omega
theorem sort_srt(l:List TDot):Srt (sortD l):=(sort_gen l [] List.Pairwise.nil).1
theorem sort_mem{l:List TDot}{d:TDot}:d∈sortD l↔d∈l:=by simpa[sortD] using (sort_gen l [] List.Pairwise.nil).2.1 d
theorem sort_len(l:List TDot):(sortD l).length ≤ l.length:=by simpa[sortD] using (sort_gen l [] List.Pairwise.nil).2.2
theorem rPut_eq(s:List TDot)(d:TDot)(h:s.length ≤ 1000000000000):r07_Put s d=pure (insD s d):=V.r07_Put_eq s d h
def ddS(out:List TDot)(x:TDot):List TDot:=if out.getLast?=some x then out else out++[x]
def dd(l:List TDot):List TDot:=l.foldl ddS []
theorem dd_snoc(l:List TDot)(x:TDot):dd (l++[x])=ddS (dd l) x:=by simp[dd]
theorem dd_last(l:List TDot):(dd l).getLast?=l.getLast?:=by
 rcases R.snoc_cases l with rfl | ⟨r,y,rfl⟩
 ·rfl
 ·rw[dd_snoc];unfold ddS
  by_cases c:(dd r).getLast?=some y
  ·rw[if_pos c,c];simp
  ·rw[if_neg c];simp
theorem dd_mem{l:List TDot}{d:TDot}:d∈dd l↔d∈l:=by
 have:∀ (l s:List TDot),d∈l.foldl ddS s↔d∈s ∨ d∈l:=by
  intro l
  induction l with
  | nil=>intro s;simp
  | cons x r ih=>
   intro s;rw[List.foldl_cons,ih];have h2:d∈ddS s x↔d∈s ∨ d=x:=by
    unfold ddS
    split
    ·rename_i h
     exact⟨.inl,fun h3=>h3.elim id fun e=>by rw[e];exact List.mem_of_getLast? h⟩
    ·simp
   rw[h2,List.mem_cons];exact or_assoc
 simpa[dd] using this l []
theorem dd_srt{l:List TDot}(h:l.Pairwise fun x y=>ltDot y x=false):Srt (dd l):=by
 have:∀ (n:Nat) (l:List TDot),l.length=n → (l.Pairwise fun x y=>ltDot y x=false) → Srt (dd l):=by
  intro n
  induction n with
  | zero=>intro l hl _;have:=List.eq_nil_of_length_eq_zero hl;subst this;exact List.Pairwise.nil
  | succ n ih=>
   intro l hl h;rcases R.snoc_cases l with rfl | ⟨r,y,rfl⟩
   ·simp at hl
   ·rw[List.pairwise_append] at h;have hr:=ih r (by simpa using hl) h.1;rw[dd_snoc];unfold ddS
    split
    ·exact hr
    ·rename_i hne
     unfold Srt;rw[List.pairwise_append];refine⟨hr,by simp,fun a ha b hb=>?_⟩;rw[List.mem_singleton.1 hb];have ha':=dd_mem.1 ha;have h1:=h.2.2 a ha' y (by simp)
     cases h2:ltDot a y with
     | true=>rfl
     | false=>
      exfalso;have e:=lt_tri h2 h1;subst e;rw[dd_last] at hne;rcases R.snoc_cases r with rfl | ⟨q,z,rfl⟩
      ·simp at ha'
      ·have hz:ltDot a z=false:=h.2.2 z (by simp) a (by simp);rcases List.mem_append.1 ha' with h5 | h5
       ·have h6:ltDot z a=false:=by
         have:=(List.pairwise_append.1 h.1).2.2 a h5 z (by simp);exact this
        have:=lt_tri hz h6;subst this;simp at hne
       ·rw[List.mem_singleton.1 h5] at hne;simp at hne
 exact this l.length l rfl h
theorem Clone_eq(l:List TDot)(h:l.length ≤ 1000000000000):slices_Clone_sl_Dot_Dot l=pure l:=by
 unfold slices_Clone_sl_Dot_Dot;refine eq_pure ⟨⟨false,fun h=>by cases h⟩,fun b hb=>?_⟩
 cases b with
 | true=>show([]:List TDot)=l;exact(hb rfl).symm
 | false=>
  show _ ∧ ([]++l=l)
  exact⟨by simp;omega,List.nil_append l⟩
theorem dotEq(x y:TDot):(decide (x.dev=y.dev)&&decide (x.n=y.n))=decide (x=y):=by
 cases x;cases y;simp[Bool.decide_and]
theorem take_snoc{l:List TDot}{m:Nat}{x:TDot}(h:l[m]?=some x):l.take (m+1)=l.take m++[x]:=by
 rw[List.take_add_one,h];rfl
theorem last_take{l:List TDot}{m:Nat}{x:TDot}(h:l[m]?=some x):(l.take (m+1)).getLast?=some x:=by rw[take_snoc h];simp
theorem inner_loop(s:List TDot)(k:Nat)(hk:k < s.length)(hl:s.length ≤ 1000000000000):∀ (d k2 kk:Nat) (v:List TDot),k+k2+d=s.length → 1 ≤ k2 → v.length=s.length → kk+1 ≤ k+k2 → v.take kk=dd (s.take (k+k2)) → v.drop (k+k2 - 1)=s.drop (k+k2 - 1) →
  ∃ (kk':Nat) (v':List TDot),loop (slices_Compact_sl_Dot_Dot_o_l0 s (k:Int)) ((kk:Int),(k2:Int),v)=pure ((kk':Int),v') ∧ v'.length=s.length ∧ kk' ≤ s.length ∧ v'.take kk'=dd s
 | 0,k2,kk,v,hd,h1,hv,hkk,ht,_=>by
  refine⟨kk,v,loop_done ?_,hv,by omega,by rw[ht,show k+k2=s.length by omega,List.take_length]⟩;unfold slices_Compact_sl_Dot_Dot_o_l0;have:decide ((k2:Int) < (((s.length - (k:Int).toNat:Nat)):Int))=false:=by simp;omega
  simp only[this,cond_false]
 | d+1,k2,kk,v,hd,h1,hv,hkk,ht,hdr=>by
  have hvg:∀ j,k+k2 - 1 ≤ j → v[j]?=s[j]?:=fun j hj=>by
   have:=congrArg (fun l=>l[j - (k+k2 - 1)]?) hdr;simp only[List.getElem?_drop] at this;rw[show k+k2 - 1+(j - (k+k2 - 1))=j by omega] at this;exact this
  obtain⟨x,hx⟩:∃ x,s[k+k2]?=some x:=⟨_,List.getElem?_eq_getElem (by omega)⟩
  obtain⟨y,hy⟩:∃ y,s[k+k2 - 1]?=some y:=⟨_,List.getElem?_eq_getElem (by omega)⟩
  have hlast:(dd (s.take (k+k2))).getLast?=some y:=by
   rw[dd_last];have:=last_take hy
   rwa [show k+k2 - 1+1=k+k2 by omega] at this
  have hdd:dd (s.take (k+k2+1))=if y=x then dd (s.take (k+k2)) else dd (s.take (k+k2))++[x]:=by
   rw[take_snoc hx,dd_snoc];unfold ddS;rw[hlast]
   by_cases c:y=x
   ·rw[if_pos c,if_pos (by rw[c])]
   ·rw[if_neg c,if_neg (by intro e;exact c (Option.some.inj e))]
  have hb:slices_Compact_sl_Dot_Dot_o_l0 s (k:Int) ((kk:Int),(k2:Int),v)=pure (.next (if y=x then ((kk:Int),((k2+1:Nat):Int),v) else (((kk+1:Nat):Int),((k2+1:Nat):Int),v.set kk x))):=by
   unfold slices_Compact_sl_Dot_Dot_o_l0;have hc:decide ((k2:Int) < (((s.length - (k:Int).toNat:Nat)):Int))=true:=by simp;omega
   have e1:IntKind.i64.wrap ((k2:Int) - 1)=((k2 - 1:Nat):Int):=by rw[wI64 (by omega) (by omega)];omega
   have i1:idx v ((((k:Int).toNat+(k2:Int).toNat:Nat)):Int)=pure x:=idx_nat (by rw[Int.toNat_natCast,Int.toNat_natCast,hvg _ (by omega)];exact hx);have i2:idx v ((((k:Int).toNat+(((k2 - 1:Nat):Int)).toNat:Nat)):Int)=pure y:=idx_nat (by rw[Int.toNat_natCast,Int.toNat_natCast,hvg _ (by omega),show k+(k2 - 1)=k+k2 - 1 by omega];exact hy);obtain⟨z,hz⟩:∃ z,v[kk]?=some z:=⟨_,List.getElem?_eq_getElem (by omega)⟩
   have i3:idx v (kk:Int)=pure z:=idx_nat hz;simp only[hc,cond_true,e1];rw[need_true (by simp;omega),i1,pure_bind,need_true (by simp;omega),i2,pure_bind];simp only[dotEq]
   by_cases c:y=x
   ·have c1:decide (x=y)=true:=decide_eq_true c.symm;simp only[c1,Bool.not_true,cond_false,pure_bind,wSucc (show k2 < 9223372036854775807 by omega),if_pos c]
   ·have c1:decide (x=y)=false:=decide_eq_false (fun e=>c e.symm);simp only[c1,Bool.not_false,cond_true,if_neg c];rw[need_true (by simp;omega),i3];simp only[pure_bind,wSucc (show k2 < 9223372036854775807 by omega),wSucc (show kk < 9223372036854775807 by omega),Int.toNat_natCast]
  by_cases c:y=x
  ·rw[if_pos c] at hb hdd;rw[loop_next hb];refine inner_loop s k hk hl d (k2+1) kk v (by omega) (by omega) hv (by omega) (by rw[ht,← hdd];rfl) ?_;have:=congrArg (List.drop 1) hdr;rw[List.drop_drop,List.drop_drop,show k+k2 - 1+1=k+(k2+1) - 1 by omega] at this;exact this
  ·rw[if_neg c] at hb hdd;rw[loop_next hb];refine inner_loop s k hk hl d (k2+1) (kk+1) (v.set kk x) (by omega) (by omega) (by simpa using hv) (by omega) ?_ ?_
   ·have h5:(v.set kk x)[kk]?=some x:=by rw[List.getElem?_set];simp;omega
    rw[take_snoc h5,List.take_set,List.set_eq_of_length_le (by rw[List.length_take];omega),ht,← hdd];rfl
   ·rw[List.drop_set,if_pos (by omega)];have:=congrArg (List.drop 1) hdr;rw[List.drop_drop,List.drop_drop,show k+k2 - 1+1=k+(k2+1) - 1 by omega] at this;exact this
theorem Compact_eq(s:List TDot)(hl:s.length ≤ 1000000000000):slices_Compact_sl_Dot_Dot_o s=pure (dd s):=by
 unfold slices_Compact_sl_Dot_Dot_o
 by_cases h2:s.length < 2
 ·have:decide ((s.length:Int) < 2)=true:=by simp;omega
  rw[this,cond_true]
  match s,h2 with
  | [],_=>rfl
  | [x],_=>rfl
 ·have:decide ((s.length:Int) < 2)=false:=by simp;omega
  rw[this,cond_false];have key:∀ d k,k+d=s.length → 1 ≤ k → dd (s.take k)=s.take k → (loop (slices_Compact_sl_Dot_Dot_o_l1 s) (k:Int)).bind (exk fun _=>pure s)=pure (dd s):=by
   intro d
   induction d with
   | zero=>
    intro k hk h1 hd;rw[loop_done (r:=.brk ()) (by
     unfold slices_Compact_sl_Dot_Dot_o_l1;have:decide ((k:Int) < (s.length:Int))=false:=by simp;omega
     simp only[this,cond_false])]
    rw[show k=s.length by omega,List.take_length] at hd;show pure s=pure (dd s);rw[hd]
   | succ d ih=>
    intro k hk h1 hd;obtain⟨x,hx⟩:∃ x,s[k]?=some x:=⟨_,List.getElem?_eq_getElem (by omega)⟩
    obtain⟨y,hy⟩:∃ y,s[k - 1]?=some y:=⟨_,List.getElem?_eq_getElem (by omega)⟩
    have hlast:(dd (s.take k)).getLast?=some y:=by
     rw[dd_last];have:=last_take hy
     rwa [show k - 1+1=k by omega] at this
    have hc:decide ((k:Int) < (s.length:Int))=true:=by simp;omega
    have i1:idx s (k:Int)=pure x:=idx_nat hx;have i2:idx s (IntKind.i64.wrap ((k:Int) - 1))=pure y:=by
     rw[wI64 (by omega) (by omega)];exact idx_eq (by omega) (by rw[show((k:Int) - 1).toNat=k - 1 by omega];exact hy)
    by_cases c:x=y
    ·subst c;obtain⟨kk,v,h5,h6,h7,h8⟩:=inner_loop s k (by omega) hl d 1 k s (by omega) (by omega) rfl (by omega) (by
      rw[take_snoc hx,dd_snoc,ddS,if_pos hlast,hd]) (by rw[show k+1 - 1=k by omega])
     rw[loop_done (r:=.ret (dd s)) (by
      unfold slices_Compact_sl_Dot_Dot_o_l1;simp only[hc,cond_true,i1,i2,pure_bind,dotEq,decide_true];rw[need_true (by omega),show(1:Int)=((1:Nat):Int) from rfl,h5,pure_bind];simp only[];rw[need_true (by omega),need_true (by simp;omega),need_true (by
       simp only[List.length_append,List.length_take,List.length_replicate,List.length_drop,Int.toNat_natCast];omega),pure_bind,exk_ret]
      congr 3
      rw[Int.toNat_natCast,List.append_assoc,List.take_append_of_le_length (by rw[List.length_take];omega),List.take_take,Nat.min_self,h8])]
     rfl
    ·have c1:decide (x=y)=false:=decide_eq_false c;rw[loop_next (s':=((k+1:Nat):Int)) (by
      unfold slices_Compact_sl_Dot_Dot_o_l1;simp only[hc,cond_true,i1,i2,pure_bind,dotEq,c1,cond_false,exk_brk,wSucc (show k < 9223372036854775807 by omega)])]
     refine ih (k+1) (by omega) (by omega) ?_;rw[take_snoc hx,dd_snoc,ddS,if_neg (by rw[hlast];intro e;exact c (Option.some.inj e).symm),hd]
  have:=key (s.length - 1) 1 (by omega) (by omega) (by
   obtain⟨x,r,rfl⟩:∃ x r,s=x::r:=by
    cases s with
    | nil=>simp at h2
    | cons x r=>exact⟨x,r,rfl⟩
   rfl)
  exact this
theorem srt_wp{l:List TDot}{Q:List TDot → Prop}(h:∀ s,s.Perm l → (s.Pairwise fun x y=>ltDot y x=false) → Q s):(srt ltDot l).wp Q:=by
 refine⟨⟨l.mergeSort (fun x y=>!ltDot y x),List.mergeSort_perm _ _,?_⟩,fun s ⟨h1,h2⟩=>h s h1 h2⟩;refine(List.pairwise_mergeSort (fun a b c h1 h2=>?_) (fun a b=>?_) l).imp fun {x y} h=>by simpa using h
 ·simp only[Bool.not_eq_true'] at h1 h2 ⊢
  cases h3:ltDot c a with
  | false=>rfl
  | true=>
   rw[lt_iff] at h3;have h4:¬ (ltDot b a=true):=by simp[h1]
   have h5:¬ (ltDot c b=true):=by simp[h2]
   rw[lt_iff] at h4 h5;omega
 ·cases h1:ltDot b a with
  | false=>rfl
  | true=>rw[lt_asym h1];rfl
theorem Sort_eq(l:List TDot)(h:l.length ≤ 1000000000000):dot_Sort l=pure (sortD l):=by
 unfold dot_Sort;rw[Clone_eq l h,det_pure,pure_bind,need_true (by omega)];refine eq_pure (srt_wp fun s hs hp=>?_);show(bind (det (slices_Compact_sl_Dot_Dot_o s)) fun y8=>pure y8).wp _;rw[Compact_eq s (by rw[hs.length_eq];exact h),det_pure,pure_bind];exact srt_ext (dd_srt hp) (sort_srt l) fun d=>by rw[dd_mem,sort_mem];exact hs.mem_iff
theorem cmp16_eq(x y:Int):cmp_Compare_uint16 x y=pure (R.cmp3 x y):=by
 unfold cmp_Compare_uint16 cmp_isNaN_uint16 R.cmp3;simp only[decide_true,Bool.not_true,det_pure,pure_bind,cond_false,cond_dec]
 split
 ·rfl
 ·split <;> rfl
theorem Cmp_eq(a b:TDot):dot_Cmp a b=pure (V.cmpD a b):=by
 unfold dot_Cmp;rw[cmp16_eq,det_pure,pure_bind,R.cmp3_eq,det_pure,pure_bind];unfold V.cmpD R.cmp3
 cases a with | mk d n=>cases b with | mk e m=>
 simp only[TDot.mk.injEq,ltDot]
 by_cases h1:d < e
 ·have:¬ d=e:=by omega
  simp[h1,this]
 ·by_cases h2:e < d
  ·have:¬ d=e:=by omega
   simp[h1,h2,this]
  ·have h3:d=e:=by omega
   subst h3
   by_cases h4:n < m
   ·have:¬ n=m:=by omega
    simp[h4,this]
   ·by_cases h5:m < n
    ·have:¬ n=m:=by omega
     simp[h4,h5,this]
    ·have:n=m:=by omega
     simp[this]
structure OkD(d:TDot):Prop where
 d0:0 ≤ d.dev
 d1:d.dev ≤ 65535
 n0:0 ≤ d.n
 n1:d.n ≤ 18446744073709551615
def encD(d:TDot):List Int:=N.encI d.dev++N.encI d.n
def encR(x:TRun):List Int:=N.encI x.lo++N.encI x.hi
def encP(p:TPart):List Int:=N.encI p.dev++(N.encI p.runs.length++p.runs.flatMap encR)
def encN(c:List TPart):List Int:=N.encI c.length++c.flatMap encP
structure OkP(p:TPart):Prop where
 d0:0 ≤ p.dev
 d1:p.dev ≤ 65535
 r:∀ x∈p.runs,(0 ≤ x.lo ∧ x.lo ≤ 18446744073709551615) ∧ 0 ≤ x.hi ∧ x.hi ≤ 18446744073709551615
open N (RS Ok numS uptoS failS OkB Sim)
def bad4(c:Bool)(s:RS):RS:=if c=true then failS 4 s else s
def fin{α:Type}(z x:α)(t:RS):α×RS:=if t.2≠0 then (z,t) else (x,t)
def dotR(s:RS):TDot:=⟨(uptoS 65535 s).1,(numS (uptoS 65535 s).2).1⟩
def dotT(s:RS):RS:=bad4 (!V.goodD (dotR s)) (numS (uptoS 65535 s).2).2
def dotS(s:RS):TDot×RS:=fin ⟨0,0⟩ (dotR s) (dotT s)
variable{B:List Int}{a:Int}{s:RS}
def lastGe(out:List TDot)(x:TDot):Bool:=match out.getLast? with | some y=>decide (0 ≤ V.cmpD y x) | none=>false
def dotsT(out:List TDot)(s:RS):RS:=bad4 (lastGe out (dotS s).1) (dotS s).2
def dotsL : Nat → List TDot → RS → List TDot×RS
 | 0,out,s=>(out,s)
 | k+1,out,s=>if (dotsT out s).2≠0 then ([],dotsT out s) else dotsL k (out++[(dotS s).1]) (dotsT out s)
def dotsS(most:Int)(s:RS):List TDot×RS:=if max most 0 < (numS s).1 then ([],failS 3 (numS s).2) else dotsL (numS s).1.toNat [] (numS s).2
open N (RS Ok numS uptoS failS OkB Sim)
variable{B:List Int}{a:Int}{s:RS}
open N (RS Ok numS uptoS failS OkB Sim)
def riseB : List TDot → Bool
 | []=>true
 | x::r=>(match r with | []=>true | y::_=>ltDot x y)&&riseB r
theorem cmp_ge(x y:TDot):decide (0 ≤ V.cmpD x y)=!ltDot x y:=by
 by_cases h:ltDot x y=true
 ·have:=V.cmpD_neg.2 h;rw[h];simp;omega
 ·have h2:¬ V.cmpD x y < 0:=fun e=>h (V.cmpD_neg.1 e)
  simp only[Bool.not_eq_true] at h;rw[h];simp;omega
theorem rRising_eq(l:List TDot)(hl:l.length ≤ 1000000000000):r07_Rising l=pure (riseB l):=by
 unfold r07_Rising;have key:∀ (k i:Nat) (x:TDot) (r:List TDot),i+k=l.length → l.drop i=r → i≠0 → l[i - 1]?=some x → loop (r07_Rising_l0 l) (i:Int)=pure (if riseB (x::r)=true then .brk () else .ret false):=by
  intro k
  induction k with
  | zero=>
   intro i x r hi hr h1 hx;have:r=[]:=by rw[← hr];exact List.drop_eq_nil_of_le (by omega)
   subst this;exact loop_done (by
    unfold r07_Rising_l0;have:decide ((i:Int) < (l.length:Int))=false:=by simp;omega
    simp only[this,cond_false];rfl)
  | succ k ih=>
   intro i x r hi hr h1 hx;have hlt:i < l.length:=by omega
   have hr2:r=l[i]::l.drop (i+1):=by rw[← hr];exact List.drop_eq_getElem_cons hlt
   have hy:=List.getElem?_eq_getElem hlt;have hi1:idx l (IntKind.i64.wrap ((i:Int) - 1))=pure x:=by
    rw[wI64 (by omega) (by omega)];exact idx_eq (by omega) (by rw[show((i:Int) - 1).toNat=i - 1 by omega];exact hx)
   have hb:r07_Rising_l0 l (i:Int)=cond (!ltDot x l[i]) (pure (.done (.ret false))) (pure (.next ((i+1:Nat):Int))):=by
    unfold r07_Rising_l0;have:decide ((i:Int) < (l.length:Int))=true:=by simp;omega
    simp only[this,cond_true,hi1,idx_nat hy,pure_bind,V.r07_Cmp_eq,det_pure,cmp_ge,wSucc (show i < 9223372036854775807 by omega)]
   rw[hr2];show _=(pure (if (ltDot x l[i]&&riseB (l[i]::l.drop (i+1)))=true then Ex.brk () else Ex.ret false):M (Ex Unit Bool))
   cases c:ltDot x l[i] with
   | true=>
    rw[c] at hb;rw[loop_next hb,Bool.true_and];exact ih (i+1) l[i] _ (by omega) rfl (by omega) hy
   | false=>
    rw[c] at hb;rw[loop_done hb];rfl
 cases l with
 | nil=>
  rw[loop_done (r:=.brk ()) (by unfold r07_Rising_l0;rfl)];rfl
 | cons x r=>
  have:=key r.length 1 x r (by simp;omega) rfl (by decide) rfl;rw[show((1:Nat):Int)=1 from rfl] at this;rw[this,pure_bind]
  cases riseB (x::r) <;> rfl
open N (RS Ok numS uptoS failS OkB Sim)
end Go.Ep.M.D
namespace Go.Ep.M.E
open Go
theorem bytes_len(s:ByteArray):(bytesL s).length=s.size:=by simp[bytesL]
def cidD(v:Int):TDot:=⟨v / 281474976710656,v % 281474976710656⟩
theorem band48{v:Int}(h0:0 ≤ v)(h:v ≤ 18446744073709551615):bAnd .u64 v 281474976710655=v % 281474976710656:=by
 obtain⟨n,rfl⟩:=Int.eq_ofNat_of_zero_le h0;unfold bAnd;have bv:∀ q:Nat,q < 18446744073709551616 → (BitVec.ofInt IntKind.u64.bits (q:Int)).toNat=q:=fun q hq=>by
  show(BitVec.ofInt 64 (q:Int)).toNat=q;rw[BitVec.toNat_ofInt];omega
 have e:(281474976710655:Int)=((281474976710655:Nat):Int):=rfl;rw[e,BitVec.toNat_and,bv n (by omega),bv _ (by decide)];have h2:n &&& 281474976710655=n % 281474976710656:=Nat.and_two_pow_sub_one_eq_mod n 48;rw[h2,wU64 (by omega) (by omega)];omega
theorem Split_eq{v:Int}(h0:0 ≤ v)(h:v ≤ 18446744073709551615):shift_Split v=pure ((cidD v).dev,(cidD v).n):=by
 unfold shift_Split cidD;have e:(2 ^ 48:Int)=281474976710656:=rfl;rw[band48 h0 h,Int.fdiv_eq_ediv_of_nonneg _ (by decide),e,wU16 (by omega) (by omega)]
theorem rSplit_eq{v:Int}(h0:0 ≤ v)(h:v ≤ 18446744073709551615):r01_Split v=pure ((cidD v).dev,(cidD v).n):=by
 unfold r01_Split cidD;rw[Int.tdiv_eq_ediv_of_nonneg h0,Int.tmod_eq_emod_of_nonneg h0,wU64 (by omega) (by omega),wU16 (by omega) (by omega)]
def goodC(v:Int):Bool:=V.goodD (cidD v)
theorem Unpack_eq{v:Int}(h0:0 ≤ v)(h:v ≤ 18446744073709551615):dot_Unpack v=pure (if goodC v=true then cidD v else ⟨0,0⟩,goodC v):=by
 unfold dot_Unpack;rw[Split_eq h0 h,det_pure,pure_bind,V.dot_Good_eq,det_pure,pure_bind];show cond (!goodC v) _ _=_
 cases goodC v <;> rfl
theorem rUnpack_eq{v:Int}(h0:0 ≤ v)(h:v ≤ 18446744073709551615):r07_Unpack v=pure (if goodC v=true then cidD v else ⟨0,0⟩,goodC v):=by
 unfold r07_Unpack;rw[rSplit_eq h0 h,det_pure,pure_bind,V.r07_Good_eq,det_pure,pure_bind];show cond (!goodC v) _ _=_
 cases goodC v <;> rfl
def goodF(f:Int):Bool:=decide (1 ≤ f)&&decide (f ≤ 5)
theorem Field_eq(f:Int):field_Good f=pure (goodF f):=by unfold field_Good goodF;rw[cond_pure_and];rfl
theorem rField_eq(f:Int):r11_Good f=pure (goodF f):=by unfold r11_Good goodF;rw[cond_pure_and];rfl
def okB(x:Int):Bool:=decide (32 ≤ x)&&decide (x ≤ 126)
def goodT(s:ByteArray):Bool:=decide (s.size ≤ 60)&&(bytesL s).all okB
theorem all_zip{α:Type}(l:List α)(p:α → Bool):(l.zipIdx.all fun y=>p y.1)=l.all p:=by
 rw[Bool.eq_iff_iff,List.all_eq_true,List.all_eq_true]
 constructor
 ·intro h x hx;obtain⟨i,hi⟩:=List.getElem?_of_mem hx;exact h (x,i) (by rw[List.mk_mem_zipIdx_iff_getElem?];exact hi)
 ·intro h y hy;exact h y.1 (List.fst_mem_of_mem_zipIdx hy)
theorem okB_eq(x:Int)(f:M Bool)(hf:f=pure (decide (126 < x))):(cond (decide (x < 32)) (pure true) f:M Bool)=pure (!okB x):=by
 rw[hf];unfold okB
 by_cases h1:x < 32
 ·have:¬ 32 ≤ x:=by omega
  simp[h1,this]
 ·have:32 ≤ x:=by omega
  by_cases h2:126 < x
  ·have:¬ x ≤ 126:=by omega
   simp[h1,h2,this]
  ·have:x ≤ 126:=by omega
   simp[h1,h2, *]
theorem text_loop(s:ByteArray)(hs:s.size ≤ 1000000000000):loop (field_Text_l0 s) 0=pure (if (bytesL s).all okB=true then Ex.brk () else Ex.ret false):=by
 have:=loopAll (body:=field_Text_l0 s) (bytesL s) (fun i=>(i:Int)) (fun _ x=>okB x) (Ex.brk ()) (Ex.ret false) (fun i x hx hi=>by
  have hd:decide ((i:Int) < (s.size:Int))=true:=by rw[← bytes_len];simpa using hi
  have hi2:i < s.size:=by rw[← bytes_len];exact hi
  unfold field_Text_l0;simp only[hd,cond_true,idx_nat hx,pure_bind,okB_eq x _ rfl,wSucc (show i < 9223372036854775807 by omega)]
  cases okB x <;> rfl) (by
  unfold field_Text_l0;simp[bytes_len])
 rw[show(0:Int)=((0:Nat):Int) from rfl,this,all_zip]
theorem rtext_loop(s:ByteArray)(hs:s.size ≤ 1000000000000):loop (r11_Text_l0 s) 0=pure (if (bytesL s).all okB=true then Ex.brk () else Ex.ret false):=by
 have:=loopAll (body:=r11_Text_l0 s) (bytesL s) (fun i=>(i:Int)) (fun _ x=>okB x) (Ex.brk ()) (Ex.ret false) (fun i x hx hi=>by
  have hd:decide ((i:Int) < (s.size:Int))=true:=by rw[← bytes_len];simpa using hi
  have hi2:i < s.size:=by rw[← bytes_len];exact hi
  unfold r11_Text_l0;simp only[hd,cond_true,idx_nat hx,pure_bind,okB_eq x _ rfl,wSucc (show i < 9223372036854775807 by omega)]
  cases okB x <;> rfl) (by
  unfold r11_Text_l0;simp[bytes_len])
 rw[show(0:Int)=((0:Nat):Int) from rfl,this,all_zip]
theorem Text_eq(s:ByteArray)(hs:s.size ≤ 1000000000000):field_Text s=pure (goodT s):=by
 unfold field_Text goodT;rw[text_loop s hs]
 by_cases h:s.size ≤ 60
 ·have:decide ((60:Int) < (s.size:Int))=false:=by simp;omega
  rw[this,cond_false,pure_bind,decide_eq_true h,Bool.true_and]
  cases (bytesL s).all okB <;> rfl
 ·have:decide ((60:Int) < (s.size:Int))=true:=by simp;omega
  rw[this,cond_true,decide_eq_false h,Bool.false_and]
theorem rText_eq(s:ByteArray)(hs:s.size ≤ 1000000000000):r11_Text s=pure (goodT s):=by
 unfold r11_Text goodT;rw[rtext_loop s hs,pure_bind]
 cases (bytesL s).all okB with
 | false=>rw[Bool.and_false];rfl
 | true=>
  rw[if_pos rfl,exk_brk,Bool.and_true]
  congr 1
  by_cases h:s.size ≤ 60
  ·rw[decide_eq_true h];simp;omega
  ·rw[decide_eq_false h];simp;omega
structure OkE(e:TEvent):Prop where
 dot:D.OkD e.dot
 kind:0 ≤ e.kind ∧ e.kind ≤ 255
 cid:0 ≤ e.cid ∧ e.cid ≤ 18446744073709551615
 field:0 ≤ e.field ∧ e.field ≤ 255
 text:e.text.size ≤ 1000000000
 kills:∀ d∈e.kills,D.OkD d
 klen:e.kills.length ≤ 1000000000
def noText(s:ByteArray):Bool:=decide (s=⟨#[]⟩)
def goodK(e:TEvent):Bool:=(decide (e.kind=1)&&(goodF e.field&&goodT e.text))||(decide (e.kind=2)&&(decide (e.field=0)&&noText e.text))
def goodL(e:TEvent):Bool:=decide (e.kills.length ≤ 256)&&(D.riseB e.kills&&e.kills.all fun d=>V.goodD d&&!decide (d=e.dot))
def goodE(e:TEvent):Bool:=(goodC e.cid&&V.goodD e.dot)&&(goodK e&&goodL e)
theorem Rising_eq(l:List TDot)(hl:l.length ≤ 1000000000000):dot_Rising l=pure (D.riseB l):=by
 unfold dot_Rising;have key:∀ (k i:Nat) (x:TDot) (r:List TDot),i+k=l.length → l.drop i=r → i≠0 → l[i - 1]?=some x → loop (dot_Rising_l0 l) (i:Int)=pure (if D.riseB (x::r)=true then Ex.brk () else Ex.ret false):=by
  intro k
  induction k with
  | zero=>
   intro i x r hi hr h1 hx;have:r=[]:=by rw[← hr];exact List.drop_eq_nil_of_le (by omega)
   subst this;exact loop_done (by
    unfold dot_Rising_l0;have:decide ((i:Int) < (l.length:Int))=false:=by simp;omega
    simp only[this,cond_false];rfl)
  | succ k ih=>
   intro i x r hi hr h1 hx;have hlt:i < l.length:=by omega
   have hr2:r=l[i]::l.drop (i+1):=by rw[← hr];exact List.drop_eq_getElem_cons hlt
   have hy:=List.getElem?_eq_getElem hlt;have hi1:idx l (IntKind.i64.wrap ((i:Int) - 1))=pure x:=by
    rw[wI64 (by omega) (by omega)];exact idx_eq (by omega) (by rw[show((i:Int) - 1).toNat=i - 1 by omega];exact hx)
   have hb:dot_Rising_l0 l (i:Int)=cond (!ltDot x l[i]) (pure (.done (.ret false))) (pure (.next ((i+1:Nat):Int))):=by
    unfold dot_Rising_l0;have h2:decide ((i:Int) < (l.length:Int))=true:=by simp;omega
    have h3:decide ((0:Int) < (i:Int))=true:=by simp;omega
    simp only[h2,h3,cond_true,hi1,idx_nat hy,pure_bind,D.Cmp_eq,det_pure,D.cmp_ge,wSucc (show i < 9223372036854775807 by omega)]
   rw[hr2];show _=(pure (if (ltDot x l[i]&&D.riseB (l[i]::l.drop (i+1)))=true then Ex.brk () else Ex.ret false):M (Ex Unit Bool))
   cases c:ltDot x l[i] with
   | true=>
    rw[c] at hb;rw[loop_next hb,Bool.true_and];exact ih (i+1) l[i] _ (by omega) rfl (by omega) hy
   | false=>
    rw[c] at hb;rw[loop_done hb];rfl
 cases l with
 | nil=>
  rw[loop_done (r:=Ex.brk ()) (by unfold dot_Rising_l0;rfl)];rfl
 | cons x r=>
  have h0:dot_Rising_l0 (x::r) 0=pure (.next 1):=by
   unfold dot_Rising_l0;have h2:decide ((0:Int) < ((x::r).length:Int))=true:=decide_eq_true (by rw[List.length_cons];omega);simp only[h2,cond_true,show decide ((0:Int) < 0)=false from rfl,cond_false,pure_bind];rw[wI64 (by omega) (by omega)]
   rfl
  have:=key r.length 1 x r (by simp;omega) rfl (by decide) rfl;rw[show((1:Nat):Int)=1 from rfl] at this;rw[loop_next h0,this,pure_bind]
  cases D.riseB (x::r) <;> rfl
theorem kills_loop(e:TEvent)(hl:e.kills.length ≤ 1000000000000):loop (event_Good_l0 e) 0=pure (if (e.kills.all fun d=>V.goodD d&&!decide (d=e.dot))=true then Ex.brk () else Ex.ret false):=by
 have:=loopAll (body:=event_Good_l0 e) e.kills (fun i=>(i:Int)) (fun _ d=>V.goodD d&&!decide (d=e.dot)) (Ex.brk ()) (Ex.ret false) (fun i x hx hi=>by
  have hd:decide ((i:Int) < (e.kills.length:Int))=true:=by simpa using hi
  unfold event_Good_l0;simp only[hd,cond_true,idx_nat hx,pure_bind,V.dot_Good_eq,det_pure,D.dotEq,wSucc (show i < 9223372036854775807 by omega)]
  cases V.goodD x <;> cases decide (x=e.dot) <;> rfl) (by
  unfold event_Good_l0;simp)
 rw[show(0:Int)=((0:Nat):Int) from rfl,this,all_zip e.kills fun d=>V.goodD d&&!decide (d=e.dot)]
theorem Good_eq{e:TEvent}(h:OkE e):event_Good e=pure (goodE e):=by
 have hk:=h.klen;have ht:=h.text;unfold event_Good goodE;rw[Unpack_eq h.cid.1 h.cid.2,det_pure,pure_bind,V.dot_Good_eq,det_pure,pure_bind,kills_loop e (by omega),Rising_eq e.kills (by omega),Field_eq,Text_eq e.text (by omega)];simp only[]
 cases goodC e.cid with
 | false=>rfl
 | true=>
  cases V.goodD e.dot with
  | false=>rfl
  | true=>
   have hl:decide ((256:Int) < (e.kills.length:Int))=!decide (e.kills.length ≤ 256):=by
    by_cases c:e.kills.length ≤ 256
    ·rw[decide_eq_true c];simp;omega
    ·rw[decide_eq_false c];simp;omega
   have tail:(cond (decide ((256:Int) < (e.kills.length:Int))) (pure true) ((det (pure (D.riseB e.kills))).bind fun v23=>pure (!v23))).bind (fun v21=>cond v21 (pure false) ((pure (if (e.kills.all fun d=>V.goodD d&&!decide (d=e.dot))=true then Ex.brk () else Ex.ret false)).bind (exk fun _=>pure true)))=pure (goodL e):=by
    unfold goodL;rw[hl,det_pure,pure_bind]
    cases decide (e.kills.length ≤ 256) with
    | false=>rfl
    | true=>
     cases D.riseB e.kills with
     | false=>rfl
     | true=>cases e.kills.all fun d=>V.goodD d&&!decide (d=e.dot) <;> rfl
   simp only[Bool.not_true,cond_false,pure_bind,det_pure,Bool.true_and] at tail ⊢;unfold goodK noText
   by_cases k1:e.kind=1
   ·have k2:decide (e.kind=2)=false:=by rw[k1];rfl
    rw[decide_eq_true k1,cond_true,k2,Bool.true_and,Bool.false_and,Bool.or_false]
    cases goodF e.field with
    | false=>rfl
    | true=>
     cases goodT e.text with
     | false=>rfl
     | true=>exact tail
   ·rw[decide_eq_false k1,cond_false,Bool.false_and,Bool.false_or]
    by_cases k2:e.kind=2
    ·rw[decide_eq_true k2,cond_true,Bool.true_and]
     cases decide (e.field=0) with
     | false=>rfl
     | true=>
      cases decide (e.text=(⟨#[]⟩:ByteArray)) with
      | false=>rfl
      | true=>exact tail
    ·rw[decide_eq_false k2];rfl
theorem rHas_eq(l:List TDot)(d:TDot)(hl:l.length ≤ 1000000000000):r07_Has l d=pure (l.any fun x=>decide (x=d)):=by
 unfold r07_Has;have:=loopAll (body:=r07_Has_l0 l d) l (fun i=>(i:Int)) (fun _ x=>!decide (x=d)) (Ex.brk ()) (Ex.ret true) (fun i x hx hi=>by
  have hd:decide ((i:Int) < (l.length:Int))=true:=by simpa using hi
  unfold r07_Has_l0;simp only[hd,cond_true,idx_nat hx,pure_bind,D.dotEq,wSucc (show i < 9223372036854775807 by omega)]
  cases decide (x=d) <;> rfl) (by
  unfold r07_Has_l0;simp)
 rw[show(0:Int)=((0:Nat):Int) from rfl,this,pure_bind,all_zip l fun x=>!decide (x=d)];have e:(l.any fun x=>decide (x=d))=!(l.all fun x=>!decide (x=d)):=by simp[List.all_eq_not_any_not]
 rw[e]
 cases l.all fun x=>!decide (x=d) <;> rfl
theorem rgood_loop(e:TEvent)(hl:e.kills.length ≤ 1000000000000):loop (r13_Good_l0 e) 0=pure (if e.kills.all V.goodD=true then Ex.brk () else Ex.ret false):=by
 have:=loopAll (body:=r13_Good_l0 e) e.kills (fun i=>(i:Int)) (fun _ d=>V.goodD d) (Ex.brk ()) (Ex.ret false) (fun i x hx hi=>by
  have hd:decide ((i:Int) < (e.kills.length:Int))=true:=by simpa using hi
  unfold r13_Good_l0;simp only[hd,cond_true,idx_nat hx,pure_bind,V.r07_Good_eq,det_pure,wSucc (show i < 9223372036854775807 by omega)]
  cases V.goodD x <;> rfl) (by
  unfold r13_Good_l0;simp)
 rw[show(0:Int)=((0:Nat):Int) from rfl,this,all_zip e.kills V.goodD]
theorem rGood_eq{e:TEvent}(h:OkE e):r13_Good e=pure (goodE e):=by
 have hk:=h.klen;have ht:=h.text;unfold r13_Good goodE;rw[rUnpack_eq h.cid.1 h.cid.2,det_pure,pure_bind,V.r07_Good_eq,det_pure,pure_bind,rgood_loop e (by omega),D.rRising_eq e.kills (by omega),rField_eq,rText_eq e.text (by omega),rHas_eq e.kills e.dot (by omega)];simp only[]
 cases goodC e.cid with
 | false=>rfl
 | true=>
  cases V.goodD e.dot with
  | false=>rfl
  | true=>
   have hl:decide ((e.kills.length:Int) ≤ 256)=decide (e.kills.length ≤ 256):=by
    by_cases c:e.kills.length ≤ 256
    ·rw[decide_eq_true c];simp;omega
    ·rw[decide_eq_false c];simp;omega
   have hall:(e.kills.all fun d=>V.goodD d&&!decide (d=e.dot))=(e.kills.all V.goodD&&!(e.kills.any fun x=>decide (x=e.dot))):=by
    rw[Bool.eq_iff_iff,Bool.and_eq_true,List.all_eq_true,List.all_eq_true,Bool.not_eq_true',List.any_eq_false]
    constructor
    ·intro h;exact⟨fun x hx=>by have:=h x hx;rw[Bool.and_eq_true] at this;exact this.1,fun x hx=>by have:=h x hx;rw[Bool.and_eq_true] at this;simpa using this.2⟩
    ·rintro⟨h1,h2⟩ x hx;rw[Bool.and_eq_true];exact⟨h1 x hx,by simpa using h2 x hx⟩
   have tail:((pure (if e.kills.all V.goodD=true then Ex.brk () else Ex.ret false):M (Ex Unit Bool)).bind (exk fun _=>(cond (decide ((e.kills.length:Int) ≤ 256)) ((det (pure (D.riseB e.kills))).bind fun v46=>cond v46 ((det (pure (e.kills.any fun x=>decide (x=e.dot)))).bind fun v49=>pure (!v49)) (pure false)) (pure false)).bind fun v44=>pure v44))=pure (goodL e):=by
    unfold goodL;rw[hl,hall];simp only[det_pure,pure_bind]
    cases e.kills.all V.goodD with
    | false=>cases decide (e.kills.length ≤ 256) <;> cases D.riseB e.kills <;> rfl
    | true=>cases decide (e.kills.length ≤ 256) <;> cases D.riseB e.kills <;> cases e.kills.any fun x=>decide (x=e.dot) <;> rfl
   simp only[Bool.not_true,cond_false,pure_bind,det_pure,Bool.true_and] at tail ⊢;unfold goodK noText
   by_cases k1:e.kind=1
   ·have k2:decide (e.kind=2)=false:=by rw[k1];rfl
    rw[decide_eq_true k1,k2];simp only[Bool.not_true,cond_false,cond_true,pure_bind,Bool.true_and,Bool.false_and,Bool.or_false]
    cases goodF e.field with
    | false=>rfl
    | true=>
     cases goodT e.text with
     | false=>rfl
     | true=>exact tail
   ·rw[decide_eq_false k1];simp only[Bool.not_false,cond_true,pure_bind,Bool.false_and,Bool.false_or]
    by_cases k2:e.kind=2
    ·rw[decide_eq_true k2];simp only[Bool.not_true,cond_false,cond_true,Bool.true_and]
     cases decide (e.field=0) with
     | false=>rfl
     | true=>
      cases decide (e.text=(⟨#[]⟩:ByteArray)) with
      | false=>rfl
      | true=>exact tail
    ·rw[decide_eq_false k2];rfl
def fewE(l:List TEvent)(most:Nat):Bool:=decide (l.length ≤ most)&&l.all fun e=>decide (e.kills.length ≤ 300)&&decide (e.text.size ≤ 200)
theorem rFew_eq(l:List TEvent)(most:Nat)(hm:most ≤ 1000000):r13_Few l (most:Int)=pure (fewE l most):=by
 unfold r13_Few fewE
 by_cases h:l.length ≤ most
 ·have hd:decide ((most:Int) < (l.length:Int))=false:=by simp;omega
  have:=loopAll (body:=r13_Few_l0 l) l (fun i=>(i:Int)) (fun _ e=>decide (e.kills.length ≤ 300)&&decide (e.text.size ≤ 200)) (Ex.brk ()) (Ex.ret false) (fun i x hx hi=>by
   have hd:decide ((i:Int) < (l.length:Int))=true:=by simpa using hi
   unfold r13_Few_l0;simp only[hd,cond_true,idx_nat hx,pure_bind,wSucc (show i < 9223372036854775807 by omega)]
   by_cases c:x.kills.length ≤ 300
   ·have h1:decide ((300:Int) < (x.kills.length:Int))=false:=by simp;omega
    rw[h1,cond_false,decide_eq_true c,Bool.true_and,pure_bind]
    by_cases c2:x.text.size ≤ 200
    ·have h2:decide ((200:Int) < (x.text.size:Int))=false:=by simp;omega
     rw[h2,decide_eq_true c2];rfl
    ·have h2:decide ((200:Int) < (x.text.size:Int))=true:=by simp;omega
     rw[h2,decide_eq_false c2];rfl
   ·have h1:decide ((300:Int) < (x.kills.length:Int))=true:=by simp;omega
    rw[h1,cond_true,decide_eq_false c,Bool.false_and];rfl) (by
   unfold r13_Few_l0;simp)
  rw[hd,cond_false,decide_eq_true h,Bool.true_and,show(0:Int)=((0:Nat):Int) from rfl,this,pure_bind,all_zip l fun e=>decide (e.kills.length ≤ 300)&&decide (e.text.size ≤ 200)]
  cases l.all fun e=>decide (e.kills.length ≤ 300)&&decide (e.text.size ≤ 200) <;> rfl
 ·have hd:decide ((most:Int) < (l.length:Int))=true:=by simp;omega
  rw[hd,cond_true,decide_eq_false h,Bool.false_and]
theorem few_mem{l:List TEvent}{most:Nat}(h:fewE l most=true):l.length ≤ most ∧ ∀ e∈l,e.kills.length ≤ 300 ∧ e.text.size ≤ 200:=by
 unfold fewE at h;rw[Bool.and_eq_true,List.all_eq_true] at h;exact⟨by simpa using h.1,fun e he=>by simpa using h.2 e he⟩
theorem rSame_eq(a b:TEvent)(h:a.kills.length ≤ 1000000000000):r13_Same a b=pure (decide (a=b)):=by
 unfold r13_Same;rw[D.dotEq,V.r07_Same_eq a.kills b.kills h,det_pure,pure_bind];have e:decide (a=b)=(decide (a.dot=b.dot)&&(decide (a.kind=b.kind)&&(decide (a.cid=b.cid)&&(decide (a.field=b.field)&&(decide (a.text=b.text)&&decide (a.kills=b.kills)))))):=by
  cases a;cases b;simp only[TEvent.mk.injEq,Bool.decide_and]
 rw[e]
 cases decide (a.dot=b.dot) <;> cases decide (a.kind=b.kind) <;> cases decide (a.cid=b.cid) <;> cases decide (a.field=b.field) <;> cases decide (a.text=b.text) <;> rfl
theorem rAll_eq(a b:List TEvent)(ha:a.length ≤ 1000000000000)(hk:∀ e∈a,e.kills.length ≤ 1000000000000):r13_All a b=pure (decide (a=b)):=by
 unfold r13_All
 by_cases hlen:a.length=b.length
 ·have h1:decide ((a.length:Int)=(b.length:Int))=true:=by simp[hlen]
  rw[h1,Bool.not_true,cond_false];have:=loopAll (body:=r13_All_l0 a b) a (fun i=>(i:Int)) (fun i x=>decide (b[i]?=some x)) (Ex.brk ()) (Ex.ret false) (fun i x hx hi=>by
   have hd:decide ((i:Int) < (a.length:Int))=true:=by simpa using hi
   obtain⟨y,hy⟩:∃ y,b[i]?=some y:=⟨_,List.getElem?_eq_getElem (by omega)⟩
   unfold r13_All_l0;simp only[hd,cond_true,idx_nat hx,idx_nat hy,pure_bind,rSame_eq x y (hk x (List.mem_of_getElem? hx)),det_pure,wSucc (show i < 9223372036854775807 by omega),hy]
   by_cases c:x=y
   ·subst c;simp
   ·have:¬ some y=some x:=fun e=>c (Option.some.inj e).symm
    simp[c,this]) (by
   unfold r13_All_l0;simp)
  rw[show(0:Int)=((0:Nat):Int) from rfl,this,pure_bind];have e:(a.zipIdx.all fun y=>decide (b[y.2]?=some y.1))=decide (a=b):=by
   rw[Bool.eq_iff_iff,List.all_eq_true,decide_eq_true_eq]
   constructor
   ·intro h;apply List.ext_getElem?;intro i
    by_cases hi:i < a.length
    ·have:=h (a[i],i) (by rw[List.mk_mem_zipIdx_iff_getElem?];exact List.getElem?_eq_getElem hi);simp only[decide_eq_true_eq] at this;rw[this,List.getElem?_eq_getElem hi]
    ·rw[List.getElem?_eq_none (by omega),List.getElem?_eq_none (by omega)]
   ·intro h y hy;subst h;rw[List.mem_zipIdx_iff_getElem?] at hy;simpa using hy
  rw[e]
  cases decide (a=b) <;> rfl
 ·have h1:decide ((a.length:Int)=(b.length:Int))=false:=by simp;omega
  have h2:decide (a=b)=false:=decide_eq_false fun e=>hlen (by rw[e])
  rw[h1,Bool.not_false,cond_true,h2]
open N (RS Ok numS uptoS byteS textS failS OkB Sim)
open D (bad4 fin)
def s1(s:RS):RS:=(D.dotS s).2
def s2(s:RS):RS:=(byteS (s1 s)).2
def s3(s:RS):RS:=(numS (s2 s)).2
def s4(s:RS):RS:=(byteS (s3 s)).2
def s5(s:RS):RS:=(textS 60 (s4 s)).2
def s6(s:RS):RS:=(D.dotsS 256 (s5 s)).2
def getE(s:RS):TEvent:=⟨(D.dotS s).1,(byteS (s1 s)).1,(numS (s2 s)).1,(byteS (s3 s)).1,(textS 60 (s4 s)).1,(D.dotsS 256 (s5 s)).1⟩
def noE : TEvent:=⟨⟨0,0⟩,0,0,0,⟨#[]⟩,[]⟩
def getT(s:RS):RS:=bad4 (!goodE (getE s)) (s6 s)
def getS(s:RS):TEvent×RS:=fin noE (getE s) (getT s)
variable{B:List Int}{a:Int}{s:RS}
open N (RS Ok numS uptoS byteS textS failS OkB Sim)
open D (bad4 fin)
variable{B:List Int}{a:Int}{s:RS}
end Go.Ep.M.E

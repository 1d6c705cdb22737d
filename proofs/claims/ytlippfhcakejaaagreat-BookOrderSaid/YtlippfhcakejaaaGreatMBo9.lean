/- Side texts. -/
import Derived.Test.YtlippfhcakejaaaGreatMBo8
set_option linter.unusedVariables false
set_option linter.unusedSimpArgs false
namespace Go.Ep.M.C
open Go

def yN (c:List PT) (k:Int):List RN:=(c.filter fun p=>decide (p.dev = k) && decide (0 < k)).flatMap (·.runs)
theorem WF (k:Int):yN [] k = []:=rfl
theorem vZ (p:PT) (c:List PT) (k:Int):yN (p :: c) k = (if p.dev = k /\ 0 < k then p.runs else []) ++ yN c k:=by
 unfold yN;rw [List.filter_cons]
 by_cases h:p.dev = k /\ 0 < k
 ·simp [h.1,h.2]
 ·rw [if_neg (by simpa using h),if_neg h];rfl
theorem Yu (a b:List PT) (k:Int):yN (a ++ b) k = yN a k ++ yN b k:=by simp [yN,List.filter_append]
theorem Uf {c:List PT} {k:Int} (h:¬ 0 < k):yN c k = []:=by simp [yN,h]
def vA (c:List PT) (k n:Int):Bool:=R.yU (yN c k) n
theorem Zl (a b:List PT) (k n:Int):vA (a ++ b) k n = (vA a k n || vA b k n):=by simp [vA,Yu,R.vi]
theorem hasC_nil (k n:Int):vA [] k n = false:=rfl
def vq (c:List PT):Nat:=(c.map fun p=>p.runs.length).sum
theorem WG (a b:List PT):vq (a ++ b) = vq a + vq b:=by simp [vq]
theorem ud (c:List PT) (k:Int):(yN c k).length <= vq c:=by
 induction c with
 | nil=>simp [yN]
 | cons p r ih=>
  rw [vZ,List.length_append];have:vq (p :: r) = p.runs.length + vq r:=by simp [vq]
  split
  ·omega
  ·simp;omega
theorem Ug (ks:List Int):(ks.map fun _=>0).sum = 0:=by
 induction ks with
 | nil=>rfl
 | cons k r ih=>rw [List.map_cons,List.sum_cons,ih]
theorem rawC_sum (c:List PT) (ks:List Int) (h:ks.Nodup):(ks.map fun k=>(yN c k).length).sum <= vq c:=by
 induction c with
 | nil=>simp only [WF,List.length_nil,Ug];exact Nat.zero_le _
 | cons p r ih=>
  have e:vq (p :: r) = p.runs.length + vq r:=by simp [vq]
  have h1:(ks.map fun k=>(yN (p :: r) k).length).sum = (ks.map fun k=>if p.dev = k /\ 0 < k then p.runs.length else 0).sum + (ks.map fun k=>(yN r k).length).sum:=by
   clear h ih
   induction ks with
   | nil=>rfl
   | cons k ks ih2=>
    simp only [List.map_cons,List.sum_cons,vZ,List.length_append] at ih2 ⊢
    by_cases hc:p.dev = k /\ 0 < k
    ·rw [if_pos hc,if_pos hc];omega
    ·rw [if_neg hc,if_neg hc,List.length_nil];omega
  have h2:(ks.map fun k=>if p.dev = k /\ 0 < k then p.runs.length else 0).sum <= p.runs.length:=by
   clear ih h1 e
   induction ks with
   | nil=>simp
   | cons k ks ih2=>
    obtain ⟨n1,n2⟩:=List.nodup_cons.1 h;simp only [List.map_cons,List.sum_cons]
    by_cases hk:p.dev = k
    ·have h0:(ks.map fun k=>if p.dev = k /\ 0 < k then p.runs.length else 0).sum = 0:=by
      have:(ks.map fun k=>if p.dev = k /\ 0 < k then p.runs.length else 0) = ks.map fun _=>0:=by
       refine List.map_congr_left fun q hq=>?_
       rw [if_neg];rintro ⟨e,_⟩;exact n1 (by rw [<- hk,e];exact hq)
      rw [this];exact Ug ks
     rw [h0]
     split <;> omega
    ·rw [if_neg (fun h=>hk h.1)];have:=ih2 n2;omega
  omega

def OrdP (l:List PT):Prop:=l.Pairwise fun x y=>x.dev < y.dev
theorem WH : ∀ {l l':List PT},OrdP l -> OrdP l' -> (∀ d,d ∈ l ↔ d ∈ l') -> l = l'
 | [],[],_,_,_=>rfl
 | [],y :: r,_,_,h=>absurd ((h y).2 (by simp)) (by simp)
 | x :: r,[],_,_,h=>absurd ((h x).1 (by simp)) (by simp)
 | x :: r,y :: q,h1,h2,h=>by
  obtain ⟨a1,a2⟩:=List.pairwise_cons.1 h1;obtain ⟨b1,b2⟩:=List.pairwise_cons.1 h2;have e:x = y:=by
   rcases List.mem_cons.1 ((h x).1 (by simp)) with e | hx
   ·exact e
   ·rcases List.mem_cons.1 ((h y).2 (by simp)) with e | hy
    ·exact e.symm
    ·have:=a1 y hy;have:=b1 x hx;omega
  subst e
  congr 1
  refine WH a2 b2 fun d=>⟨fun hd=>?_,fun hd=>?_⟩
  ·rcases List.mem_cons.1 ((h d).1 (List.mem_cons_of_mem _ hd)) with e | hx
   ·subst e;have:=a1 d hd;omega
   ·exact hx
  ·rcases List.mem_cons.1 ((h d).2 (List.mem_cons_of_mem _ hd)) with e | hx
   ·subst e;have:=b1 d hd;omega
   ·exact hx
def zx (f:Int -> List RN) (ks:List Int):List PT:=ks.filterMap fun k=>if f k = [] then none else some ⟨k,f k⟩
theorem va {f:Int -> List RN} {ks:List Int} {p:PT}:p ∈ zx f ks ↔ p.dev ∈ ks /\ p.runs ≠ [] /\ p.runs = f p.dev:=by
 unfold zx;rw [List.mem_filterMap]
 constructor
 ·rintro ⟨k,hk,h⟩
  split at h
  ·cases h
  ·rename_i h0;cases h;exact ⟨hk,h0,rfl⟩
 ·rintro ⟨h1,h2,h3⟩;refine ⟨p.dev,h1,?_⟩;rw [if_neg (by rw [<- h3];exact h2),<- h3]
theorem xg {f:Int -> List RN} {ks:List Int} (h:ks.Pairwise (· < ·)):OrdP (zx f ks):=by
 unfold OrdP zx;rw [List.pairwise_filterMap];refine h.imp fun {a b} hab x hx y hy=>?_
 split at hx
 ·cases hx
 ·split at hy
  ·cases hy
  ·cases hx;cases hy;exact hab
theorem Wv {f g:Int -> List RN} {ks ls:List Int} (h1:ks.Pairwise (· < ·)) (h2:ls.Pairwise (· < ·)) (hf:∀ k,f k = g k) (h:∀ k,f k ≠ [] -> (k ∈ ks ↔ k ∈ ls)):zx f ks = zx g ls:=by
 refine WH (xg h1) (xg h2) fun p=>?_
 rw [va,va]
 constructor
 ·rintro ⟨a,b,c⟩;exact ⟨(h _ (by rw [<- c];exact b)).1 a,b,by rw [c,hf]⟩
 ·rintro ⟨a,b,c⟩;exact ⟨(h _ (by rw [hf,<- c];exact b)).2 a,b,by rw [c,hf]⟩
theorem Ja (f:Int -> List RN) (ks:List Int):(zx f ks).length <= ks.length:=List.length_filterMap_le _ _
theorem Jb (f:Int -> List RN) (ks:List Int):vq (zx f ks) = (ks.map fun k=>(f k).length).sum:=by
 induction ks with
 | nil=>rfl
 | cons k ks ih=>
  have:zx f (k :: ks) = (if f k = [] then [] else [⟨k,f k⟩]) ++ zx f ks:=by
   unfold zx
   by_cases h:f k = [] <;> simp [h]
  rw [this,WG,ih]
  by_cases h:f k = [] <;> simp [h,vq]
theorem Ww {f:Int -> List RN} {ks:List Int} (h:ks.Nodup) (k:Int):yN (zx f ks) k = if k ∈ ks /\ 0 < k then f k else []:=by
 induction ks with
 | nil=>simp [zx,yN]
 | cons q ks ih=>
  obtain ⟨n1,n2⟩:=List.nodup_cons.1 h;have e:zx f (q :: ks) = (if f q = [] then [] else [⟨q,f q⟩]) ++ zx f ks:=by
   unfold zx
   by_cases h:f q = [] <;> simp [h]
  rw [e,Yu,ih n2]
  by_cases hq:q = k
  ·subst hq;rw [if_neg (fun (h:q ∈ ks /\ 0 < q)=>n1 h.1),List.append_nil]
   by_cases h0:f q = []
   ·rw [if_pos h0,h0];simp [yN]
   ·rw [if_neg h0]
    by_cases hp:0 < q
    ·rw [if_pos ⟨List.mem_cons_self,hp⟩];simp [yN,hp]
    ·rw [if_neg (fun h=>hp h.2)];exact Uf hp
  ·have:yN (if f q = [] then [] else [(⟨q,f q⟩:PT)]) k = []:=by
    by_cases h0:f q = [] <;> simp [h0,yN,hq]
   rw [this];have hm:(k ∈ q :: ks) ↔ k ∈ ks:=by simp [Ne.symm hq]
   simp only [hm,List.nil_append]

def jc (l:List Int) (p:PT):List Int:=if 0 < p.dev then V.VL l p.dev else l
def Yv (c:List PT):List Int:=c.foldl jc []
theorem Yq (c:List PT):∀ l:List Int,l.Pairwise (· < ·) -> (c.foldl jc l).Pairwise (· < ·) /\ (∀ k,k ∈ c.foldl jc l ↔ k ∈ l \/ ∃ p ∈ c,p.dev = k /\ 0 < k) /\ (c.foldl jc l).length <= l.length + c.length:=by
 induction c with
 | nil=>intro l h;simp [h]
 | cons p r ih=>
  intro l h;rw [List.foldl_cons]
  by_cases hp:0 < p.dev
  ·have e:jc l p = V.VL l p.dev:=by simp [jc,hp]
   rw [e];obtain ⟨h1,h2,h3⟩:=ih _ (V.vX h p.dev);refine ⟨h1,fun k=>?_,by have:=V.Yp l p.dev;simp;omega⟩;rw [h2,V.WE]
   constructor
   ·rintro ((rfl | h4) | ⟨x,h4,h5⟩)
    ·exact .inr ⟨p,by simp,rfl,hp⟩
    ·exact .inl h4
    ·exact .inr ⟨x,by simp [h4],h5⟩
   ·rintro (h4 | ⟨x,h4,h5,h6⟩)
    ·exact .inl (.inr h4)
    ·rcases List.mem_cons.1 h4 with rfl | h4
     ·exact .inl (.inl h5.symm)
     ·exact .inr ⟨x,h4,h5,h6⟩
  ·have e:jc l p = l:=by simp [jc,hp]
   rw [e];obtain ⟨h1,h2,h3⟩:=ih _ h;refine ⟨h1,fun k=>?_,by simp;omega⟩;rw [h2]
   constructor
   ·rintro (h4 | ⟨x,h4,h5⟩)
    ·exact .inl h4
    ·exact .inr ⟨x,by simp [h4],h5⟩
   ·rintro (h4 | ⟨x,h4,h5,h6⟩)
    ·exact .inl h4
    ·rcases List.mem_cons.1 h4 with rfl | h4
     ·rw [h5] at hp;exact absurd h6 hp
     ·exact .inr ⟨x,h4,h5,h6⟩
theorem xh (c:List PT):(Yv c).Pairwise (· < ·):=(Yq c [] List.Pairwise.nil).1
theorem jd {l:List Int} (h:l.Pairwise (· < ·)):l.Nodup:=h.imp fun {a b} h e=>by omega
theorem XT (c:List PT):(Yv c).Nodup:=jd (xh c)
theorem wv {c:List PT} {k:Int}:k ∈ Yv c ↔ (∃ p ∈ c,p.dev = k) /\ 0 < k:=by
 have:=(Yq c [] List.Pairwise.nil).2.1 k;unfold Yv;rw [this];simp only [List.not_mem_nil,false_or]
 constructor
 ·rintro ⟨p,h1,h2,h3⟩;exact ⟨⟨p,h1,h2⟩,h3⟩
 ·rintro ⟨⟨p,h1,h2⟩,h3⟩;exact ⟨p,h1,h2,h3⟩
theorem len_devs (c:List PT):(Yv c).length <= c.length:=by simpa [Yv] using (Yq c [] List.Pairwise.nil).2.2
theorem vj {c:List PT} {k:Int} (h:yN c k ≠ []):k ∈ Yv c:=by
 rw [wv];refine Classical.byContradiction fun hn=>h ?_
 unfold yN;have:(c.filter fun p=>decide (p.dev = k) && decide (0 < k)) = []:=by
  rw [List.filter_eq_nil_iff];intro p hp;simp only [Bool.and_eq_true,decide_eq_true_eq];rintro ⟨h1,h2⟩;exact hn ⟨⟨p,hp,h1⟩,h2⟩
 rw [this];rfl

def opC (op:Bool -> Bool -> Bool) (a b:List PT):List PT:=zx (fun k=>R.Zs op (yN a k) (yN b k)) (Yv (a ++ b))
def yI (c:List PT):List PT:=zx (fun k=>R.nrm (yN c k)) (Yv c)
theorem qa {op:Bool -> Bool -> Bool} (h0:op false false = false):R.Zs op [] [] = []:=by
 have:=R.yJ op h0 [] [];exact R.Vh this.1 trivial fun n=>by rw [this.2.1];exact h0
theorem Wx : R.nrm [] = []:=qa rfl
theorem Wy {op:Bool -> Bool -> Bool} (h0:op false false = false) (a b:List PT) (k n:Int):vA (opC op a b) k n = op (vA a k n) (vA b k n):=by
 unfold vA opC;rw [Ww (XT _)]
 split
 ·rw [(R.yJ op h0 _ _).2.1]
 ·rename_i h
  have e:yN a k = [] /\ yN b k = []:=by
   have h1:yN (a ++ b) k = []:=Classical.byContradiction fun h2=>h ⟨vj h2,(wv.1 (vj h2)).2⟩
   rw [Yu] at h1;simpa using h1
  rw [e.1,e.2];show R.yU [] n = _;simp [R.yU,h0]
theorem ya (c:List PT) (k n:Int):vA (yI c) k n = vA c k n:=by
 unfold vA yI;rw [Ww (XT _)]
 split
 ·rw [R.vY]
 ·rename_i h
  have e:yN c k = []:=Classical.byContradiction fun h2=>h ⟨vj h2,(wv.1 (vj h2)).2⟩
  rw [e]
structure Canon (c:List PT):Prop where
 ord:OrdP c
 nf:∀ p ∈ c,0 < p.dev /\ p.runs ≠ [] /\ R.Nf p.runs
theorem Wz {f:Int -> List RN} {c:List PT} (h:∀ k,R.Nf (f k)):Canon (zx f (Yv c)):=⟨xg (xh c),fun p hp=>by
 obtain ⟨h1,h2,h3⟩:=va.1 hp;exact ⟨(wv.1 h1).2,h2,by rw [h3];exact h _⟩⟩
theorem Yw {op:Bool -> Bool -> Bool} (h0:op false false = false) (a b:List PT):Canon (opC op a b):=Wz fun _=>(R.yJ op h0 _ _).1
theorem xi (c:List PT):Canon (yI c):=Wz fun _=>R.Wr _
theorem Uh : ∀ {c:List PT},OrdP c -> ∀ p ∈ c,0 < p.dev -> yN c p.dev = p.runs
 | [],_,p,hp,_=>by simp at hp
 | q :: r,h,p,hp,h0=>by
  obtain ⟨h1,h2⟩:=List.pairwise_cons.1 h;rw [vZ];rcases List.mem_cons.1 hp with rfl | hp
  ·rw [if_pos ⟨rfl,h0⟩];have:yN r p.dev = []:=by
    unfold yN;have:(r.filter fun x=>decide (x.dev = p.dev) && decide (0 < p.dev)) = []:=by
     rw [List.filter_eq_nil_iff];intro x hx;have:=h1 x hx;simp;omega
    rw [this];rfl
   rw [this,List.append_nil]
  ·have:=h1 p hp;rw [if_neg (by omega),Uh h2 p hp h0];rfl
theorem Canon.eq_norm {c:List PT} (h:Canon c):c = yI c:=by
 refine WH h.ord (xi c).ord fun p=>?_
 unfold yI;rw [va]
 constructor
 ·intro hp;obtain ⟨h1,h2,h3⟩:=h.nf p hp;exact ⟨wv.2 ⟨⟨p,hp,rfl⟩,h1⟩,h2,by rw [Uh h.ord p hp h1,R.qX h3]⟩
 ·rintro ⟨h1,h2,h3⟩;obtain ⟨⟨q,hq,hd⟩,h0⟩:=wv.1 h1;obtain ⟨g1,g2,g3⟩:=h.nf q hq;have e:yN c p.dev = q.runs:=by rw [<- hd];exact Uh h.ord q hq g1
  rw [e,R.qX g3] at h3;have:p = q:=by cases p;cases q;simp_all
  rw [this];exact hq
theorem je {a b:List PT} (h:∀ k n,vA a k n = vA b k n):yI a = yI b:=by
 have hf:∀ k,R.nrm (yN a k) = R.nrm (yN b k):=fun k=>R.Vh (R.Wr _) (R.Wr _) fun n=>by rw [R.vY,R.vY];exact h k n
 refine Wv (xh a) (xh b) hf fun k hk=>?_
 have ha:yN a k ≠ []:=fun e=>hk (by rw [e];exact Wx)
 have hb:yN b k ≠ []:=fun e=>hk (by rw [hf,e];exact Wx)
 exact ⟨fun _=>vj hb,fun _=>vj ha⟩
theorem Canon.ext {a b:List PT} (ha:Canon a) (hb:Canon b) (h:∀ k n,vA a k n = vA b k n):a = b:=by rw [ha.eq_norm,hb.eq_norm];exact je h
theorem XU {c:List PT} (h:Canon c):yI c = c:=h.eq_norm.symm
theorem norm_or (a b:List PT):yI (a ++ b) = opC (· || ·) a b:=(xi _).ext (Yw rfl a b) fun k n=>by rw [ya,Zl,Wy rfl]
theorem jf : Canon []:=⟨List.Pairwise.nil,fun p h=>by simp at h⟩
theorem VA (c:List PT):(yI c).length <= c.length:=Nat.le_trans (Ja _ _) (len_devs c)
theorem sum_le {ks:List Int} {f g:Int -> Nat} (h:∀ k,f k <= g k):(ks.map f).sum <= (ks.map g).sum:=by
 induction ks with
 | nil=>simp
 | cons k r ih=>have:=h k;simp;omega
theorem sum_two (ks:List Int) (f g:Int -> Nat):(ks.map fun k=>2 * (f k + g k)).sum = 2 * ((ks.map f).sum + (ks.map g).sum):=by
 induction ks with
 | nil=>rfl
 | cons k r ih=>simp;omega
theorem VB (c:List PT):vq (yI c) <= 2 * vq c:=by
 unfold yI;rw [Jb];refine Nat.le_trans (sum_le (g:=fun k=>2 * ((yN c k).length + 0)) fun k=>by have:=R.YI (yN c k);omega) ?_;rw [sum_two];have h1:=rawC_sum c (Yv c) (XT _);have h2:=Ug (Yv c);omega


theorem get_grow (l:List (Int × List RN)):∀ (m:List (Int × List RN)) (k:Int),AL.getZ (AL.grow m l) k [] = AL.getZ m k [] ++ (l.filter fun x=>decide (x.1 = k)).flatMap (·.2):=by
 induction l with
 | nil=>intro m k;simp [AL.grow]
 | cons x r ih=>
  intro m k;show AL.getZ (AL.grow (AL.set m x.1 (AL.getZ m x.1 [] ++ x.2)) r) k [] = _;rw [ih,AL.getZ_set,List.filter_cons]
  by_cases h:x.1 = k
  ·subst h;simp
  ·simp [h]
theorem QT (l:List (Int × List RN)):∀ m:List (Int × List RN),(m.map (·.1)).Nodup -> ((AL.grow m l).map (·.1)).Nodup:=by
 induction l with
 | nil=>intro m h;exact h
 | cons x r ih=>intro m h;exact ih _ (AL.nodup_set h _ _)
theorem len_grow (l:List (Int × List RN)):∀ m:List (Int × List RN),(AL.grow m l).length <= m.length + l.length:=by
 induction l with
 | nil=>intro m;exact Nat.le_refl _
 | cons x r ih=>
  intro m;have h1:=ih (AL.set m x.1 (AL.getZ m x.1 [] ++ x.2));have h2:=AL.len_set m x.1 (AL.getZ m x.1 [] ++ x.2);show (AL.grow (AL.set m x.1 (AL.getZ m x.1 [] ++ x.2)) r).length <= _;simp only [List.length_cons];omega
theorem key_grow (l:List (Int × List RN)):∀ (m:List (Int × List RN)) (k:Int),k ∈ (AL.grow m l).map (·.1) -> k ∈ m.map (·.1) \/ ∃ x ∈ l,x.1 = k:=by
 induction l with
 | nil=>intro m k h;exact .inl h
 | cons x r ih=>
  intro m k h;rcases ih _ k h with h | ⟨y,hy,e⟩
  ·rw [AL.keys_set] at h
   split at h
   ·exact .inl h
   ·rcases List.mem_append.1 h with h | h
    ·exact .inl h
    ·exact .inr ⟨x,by simp,(List.mem_singleton.1 h).symm⟩
  ·exact .inr ⟨y,by simp [hy],e⟩
def uh (c:List PT):List (Int × List RN):=AL.grow [] (c.filterMap zU)
theorem Yr (c:List PT) (k:Int):AL.getZ (uh c) k [] = yN c k:=by
 unfold uh;rw [get_grow];show [] ++ _ = _;rw [List.nil_append]
 induction c with
 | nil=>rfl
 | cons p r ih=>
  rw [vZ,<- ih,List.filterMap_cons]
  by_cases h0:0 < p.dev
  ·have e:zU p = some (p.dev,p.runs):=by simp [zU,h0]
   rw [e];simp only [List.filter_cons]
   by_cases h:p.dev = k
   ·subst h;simp [h0]
   ·simp [h]
  ·have e:zU p = none:=by simp [zU,h0]
   rw [e,if_neg (by rintro ⟨h1,h2⟩;omega)];rfl
theorem Zj (c:List PT):((uh c).map (·.1)).Nodup:=QT _ _ (by simp)
theorem told_len (c:List PT):(uh c).length <= c.length:=by
 have h1:=len_grow (c.filterMap zU) [];have h2:=List.length_filterMap_le zU c;unfold uh;simp at h1;omega
theorem told_pos {c:List PT} {k:Int} (h:k ∈ (uh c).map (·.1)):0 < k /\ k ∈ Yv c:=by
 rcases key_grow _ _ _ h with h | ⟨x,hx,rfl⟩
 ·simp at h
 ·rw [List.mem_filterMap] at hx;obtain ⟨p,hp,hx⟩:=hx;unfold zU at hx
  split at hx
  ·rename_i h0;cases hx;exact ⟨h0,wv.2 ⟨⟨p,hp,rfl⟩,h0⟩⟩
  ·cases hx
theorem UW {c:List PT} {e:Int × List RN} (h:e ∈ uh c):e.2 = yN c e.1 /\ 0 < e.1 /\ e.1 ∈ Yv c:=by
 have h1:=AL.mem_get (Zj c) (k:=e.1) (v:=e.2) h;have h2:=Yr c e.1;unfold AL.getZ at h2;rw [h1] at h2;exact ⟨h2,told_pos (List.mem_map.2 ⟨e,h,rfl⟩)⟩
theorem told_at {c:List PT} {k:Int} (h:yN c k ≠ []):(k,yN c k) ∈ uh c:=by
 have h2:=Yr c k;unfold AL.getZ at h2
 cases hg:AL.get (uh c) k with
 | none=>rw [hg] at h2;exact absurd h2.symm h
 | some v=>rw [hg] at h2;simp only [Option.getD_some] at h2;subst h2;exact AL.get_mem hg
theorem qb (c:List PT):((c.filterMap zU).map fun x=>x.2.length).sum <= vq c:=by
 induction c with
 | nil=>simp
 | cons p r ih=>
  have e:vq (p :: r) = p.runs.length + vq r:=by simp [vq]
  rw [List.filterMap_cons]
  by_cases h0:0 < p.dev
  ·have e2:zU p = some (p.dev,p.runs):=by simp [zU,h0]
   rw [e2];simp only [List.map_cons,List.sum_cons];omega
  ·have e2:zU p = none:=by simp [zU,h0]
   rw [e2];simp only;omega
def Sm (c:List PT):Prop:=c.length <= 10000000000 /\ vq c <= 10000000000
theorem z2a (c:List PT) (h:Sm c):YT c = pure (uh c):=by
 unfold YT;rw [zE]
 ·rfl
 ·have:=qb c;refine ⟨by have:=h.1;omega,?_⟩;have:=h.2;omega
theorem order_eq (m:List (Int × List RN)) (f:Int -> List RN) (ks:List Int) (hl:m.length <= 1000000000000) (hr:∀ e ∈ m,e.2.length <= 1000000000000) (hn:(m.map (·.1)).Nodup) (hs:ks.Pairwise (· < ·)) (h1:∀ e ∈ m,R.nrm e.2 ≠ [] -> e.1 ∈ ks /\ R.nrm e.2 = f e.1) (h2:∀ k ∈ ks,f k ≠ [] -> ∃ r,(k,r) ∈ m /\ R.nrm r = f k):vy m = pure (zx f ks):=by
 unfold vy;have hall:∀ Q:List PT -> Prop,(∀ l:List (Int × List RN),l.Perm m -> Q ((l.filter fun e=>decide (R.nrm e.2 ≠ [])).map fun e=>(⟨e.1,R.nrm e.2⟩:PT))) -> (loop (ve m) ([],([]:List PT))).wp Q:=by
  intro Q hQ;refine M.loopM (body:=ve m) m (fun L (t:List PT)=>(L,t)) (fun t e=>(xu e.2).det.bind fun v=>if 0 < v.length then yY ((t.length + 1) * 32 <= 140737488355328) (pure (t ++ [(⟨e.1,v⟩:PT)])) else pure t) (fun t=>pure t)
   (fun l t=>t = ((l.filter fun e=>decide (R.nrm e.2 ≠ [])).map fun e=>(⟨e.1,R.nrm e.2⟩:PT))) Q (fun L t hL=>?_) (fun l t y ht hlen hy=>?_) (fun l t hp ht=>?_) [] rfl
  ·unfold ve;show yY _ ((nxt _ _).bind _) = yY _ ((nxt _ _).bind _);refine congrArg (fun k=>yY _ ((nxt _ _).bind k)) (funext fun o=>?_)
   cases o with
   | none=>rfl
   | some i=>
    refine congrArg (fun k=>(idx m (Int.ofNat i)).bind k) (funext fun y=>?_);rw [VZ];refine congrArg (fun k=>(xu y.2).det.bind k) (funext fun v=>?_);rw [yV]
    by_cases h:0 < v.length
    ·rw [if_pos (by omega),if_pos h];rfl
    ·rw [if_neg (by omega),if_neg h];rfl
  ·have hle:=List.length_filter_le (fun e:Int × List RN=>decide (R.nrm e.2 ≠ [])) l;have htl:t.length <= l.length:=by rw [ht,List.length_map];exact hle
   rw [R.JZ y.2 (hr y hy),zB,zA];refine ⟨if R.nrm y.2 = [] then t else t ++ [⟨y.1,R.nrm y.2⟩],?_,?_⟩
   ·by_cases h:R.nrm y.2 = []
    ·rw [if_neg (by rw [h];simp),if_pos h]
    ·rw [if_pos (by rw [List.length_pos_iff];exact h),if_neg h,zE (by omega)]
   ·subst ht;rw [List.filter_append,List.map_append]
    by_cases h:R.nrm y.2 = [] <;> simp [h]
  ·subst ht;exact hQ l hp
 refine uL (hall _ fun l hp=>?_);show (yY _ _).wp _;have hll:=hp.length_eq;have hle:=List.length_filter_le (fun e:Int × List RN=>decide (R.nrm e.2 ≠ [])) l;have hmem:∀ d:PT,d ∈ ((l.filter fun e=>decide (R.nrm e.2 ≠ [])).map fun e=>(⟨e.1,R.nrm e.2⟩:PT)) ↔ d ∈ zx f ks:=by
  intro d;rw [va,List.mem_map]
  constructor
  ·rintro ⟨e,he,rfl⟩;rw [List.mem_filter,hp.mem_iff] at he;have h0:R.nrm e.2 ≠ []:=by simpa using he.2
   obtain ⟨h3,h4⟩:=h1 e he.1 h0;exact ⟨h3,h0,h4⟩
  ·rintro ⟨h3,h4,h5⟩;obtain ⟨r,h6,h7⟩:=h2 d.dev h3 (by rw [<- h5];exact h4);refine ⟨(d.dev,r),?_,by show (⟨d.dev,R.nrm r⟩:PT) = d;rw [h7,<- h5]⟩;rw [List.mem_filter,hp.mem_iff];refine ⟨h6,?_⟩;simp only [decide_eq_true_eq];rw [h7,<- h5];exact h4
 have hnd:((l.filter fun e=>decide (R.nrm e.2 ≠ [])).map fun e=>(⟨e.1,R.nrm e.2⟩:PT)).Pairwise (fun x y=>x.dev ≠ y.dev):=by
  rw [List.pairwise_map];have:l.Pairwise (fun x y=>x.1 ≠ y.1):=by
   have:=(hp.map (·.1)).nodup_iff.2 hn;exact List.pairwise_map.1 this
  exact (this.filter _)
 refine ⟨by simp only [List.length_map];omega,⟨?_,fun l' ⟨hp',hs'⟩=>?_⟩⟩
 ·refine ⟨zx f ks,?_,?_⟩
  ·refine (List.perm_ext_iff_of_nodup ?_ ?_).2 fun d=>(hmem d).symm
   ·exact (xg hs).imp fun {a b} h e=>by subst e;omega
   ·exact hnd.imp fun {a b} h e=>by subst e;exact h rfl
  ·exact (xg hs).imp fun {a b} h=>by simp [Va];omega
 ·show l' = _;refine WH ?_ (xg hs) fun d=>by rw [hp'.mem_iff];exact hmem d
  have hnd':=(hp'.pairwise_iff (fun {a b} h=>Ne.symm h)).2 hnd;exact (hs'.and hnd').imp fun {a b} ⟨h3,h4⟩=>by simp [Va] at h3;omega
theorem Vk (c:List PT) (h:Sm c):vy (uh c) = pure (yI c):=by
 refine order_eq _ _ _ (by have:=told_len c;have:=h.1;omega) (fun e he=>?_) (Zj c) (xh c) (fun e he h0=>?_) (fun k hk h0=>?_)
 ·rw [(UW he).1];have:=ud c e.1;have:=h.2;omega
 ·obtain ⟨h1,h2,h3⟩:=UW he;exact ⟨h3,by rw [h1]⟩
 ·exact ⟨_,told_at (fun e=>h0 (by rw [e];exact Wx)),rfl⟩
theorem z3a (c:List PT) (h:Sm c):YU c = pure (yI c):=by
 unfold YU;rw [z2a c h,zB,zA,Vk c h,zB,zA]
theorem Runs_eq (c:List PT) (k:Int) (h:Sm c):Xq c k = pure (R.nrm (yN c k)):=by
 unfold Xq;rw [z2a c h,zB,zA,Yr,R.JZ _ (by have:=ud c k;have:=h.2;omega),zB,zA]
theorem z4a (c:List PT) (d:DT) (h:Sm c):uO c d = pure (vA c d.dev d.n):=by
 unfold uO;rw [yV]
 by_cases h0:0 < d.dev
 ·rw [if_pos h0,Runs_eq c _ h,zB,zA,R.has_eq _ _ (by have:=R.YI (yN c d.dev);have:=ud c d.dev;have:=h.2;omega),zB,zA,zA,R.vY]
  rfl
 ·rw [if_neg h0,zA];show pure false = pure (R.yU (yN c d.dev) d.n);rw [Uf h0];rfl
def zf (l:List DT):List PT:=(l.filter V.zr).map fun d=>⟨d.dev,[⟨d.n,d.n⟩]⟩
theorem goodB (d:DT):vz d = V.zr d:=by
 rw [Bool.eq_iff_iff,V.yl];simp [vz];omega
theorem ofF (d:DT):xP d = if V.zr d = true then some (d.dev,[⟨d.n,d.n⟩]) else none:=by unfold xP;rw [goodB]
theorem z5a (l:List DT):l.filterMap xP = (zf l).filterMap zU:=by
 induction l with
 | nil=>rfl
 | cons d r ih=>
  unfold zf at ih ⊢;rw [List.filterMap_cons,List.filter_cons,ofF]
  by_cases h:V.zr d = true
  ·rw [if_pos h,if_pos h,List.map_cons,List.filterMap_cons];have:zU ⟨d.dev,[⟨d.n,d.n⟩]⟩ = some (d.dev,[⟨d.n,d.n⟩]):=by
    have:=V.yl.1 h;unfold zU;rw [if_pos (by show 0 < d.dev;omega)]
   rw [this,<- ih]
  ·rw [if_neg h,if_neg h,<- ih]
theorem vB (l:List DT):(zf l).length <= l.length:=by rw [zf,List.length_map];exact List.length_filter_le _ _
theorem Yx (l:List DT):vq (zf l) <= l.length:=by
 have:vq (zf l) = (zf l).length:=by
  unfold zf
  generalize l.filter V.zr = q
  induction q with
  | nil=>rfl
  | cons x r ih=>simp [vq] at ih ⊢;omega
 have:=vB l;omega
theorem sm_dots {l:List DT} (h:l.length <= 10000000000):Sm (zf l):=⟨by have:=vB l;omega,by have:=Yx l;omega⟩
theorem qc (l:List DT) (k n:Int):vA (zf l) k n = true ↔ ∃ d ∈ l,V.zr d = true /\ d.dev = k /\ d.n = n:=by
 induction l with
 | nil=>simp [vA,zf,yN,R.yU]
 | cons d r ih=>
  have e:zf (d :: r) = (if V.zr d = true then [⟨d.dev,[⟨d.n,d.n⟩]⟩] else []) ++ zf r:=by
   unfold zf;rw [List.filter_cons]
   by_cases h:V.zr d = true <;> simp [h]
  rw [e,Zl,Bool.or_eq_true,ih];have h1:vA (if V.zr d = true then [⟨d.dev,[⟨d.n,d.n⟩]⟩] else []) k n = true ↔ V.zr d = true /\ d.dev = k /\ d.n = n:=by
   by_cases h:V.zr d = true
   ·have hg:=V.yl.1 h;rw [if_pos h];unfold vA;rw [vZ,WF,List.append_nil]
    by_cases hk:d.dev = k /\ 0 < k
    ·rw [if_pos hk,R.wx,R.wY];show (1 <= d.n /\ d.n <= d.n /\ d.n <= 281474976710655) /\ d.n <= n /\ n <= d.n ↔ _
     constructor
     ·intro h2;exact ⟨h,hk.1,by omega⟩
     ·rintro ⟨_,_,h3⟩;omega
    ·rw [if_neg hk]
     constructor
     ·intro h2;cases h2
     ·rintro ⟨_,h2,_⟩;exact absurd ⟨h2,by omega⟩ hk
   ·rw [if_neg h]
    constructor
    ·intro h2;cases h2
    ·rintro ⟨h2,_⟩;exact absurd h2 h
  rw [h1]
  constructor
  ·rintro (h2 | ⟨x,h2,h3⟩)
   ·exact ⟨d,by simp,h2⟩
   ·exact ⟨x,by simp [h2],h3⟩
  ·rintro ⟨x,h2,h3⟩;rcases List.mem_cons.1 h2 with rfl | h2
   ·exact .inl h3
   ·exact .inr ⟨x,h2,h3⟩
theorem Of_eq (l:List DT) (h:l.length <= 10000000000):Jy l = pure (yI (zf l)):=by
 unfold Jy;rw [z5a,zE]
 ·have:=Vk (zf l) (sm_dots h);unfold uh at this;rw [this,zB,zA]
 ·have h1:=qb (zf l);have h2:=Yx l;exact ⟨by omega,by omega⟩
theorem growC_eq (n:Int) (h0:0 <= n) (h:n <= 1000000000000):yB n = pure []:=by
 unfold yB;have e:IntKind.i64.wrap (n - IntKind.i64.wrap (0 - 0)) = n:=by
  rw [Xh (n:=0 - 0) (by omega) (by omega),Xh (by omega) (by omega)];omega
 simp only [e,yV];rw [if_neg (by omega)]
 split
 ·rw [zE ⟨by omega,by omega⟩,zE ⟨by omega,by omega,by omega⟩];simp [zA]
 ·simp [zA]
theorem QU (a b:List PT) (h:a.length + b.length <= 1000000000000):yM [a,b] = pure (a ++ b):=by
 unfold yM;have e1:zR [a,b] (0,0) = pure (.next ((a.length:Int),1)):=by
  unfold zR;have:IntKind.i64.wrap (0 + (a.length:Int)) = a.length:=by rw [Xh (by omega) (by omega)];omega
  simp only [yV,Xd (l:=[a,b]) (i:=0) (y:=a) (by omega) rfl,zA,this];rw [if_pos (by simp),if_neg (by omega),Xh (by omega) (by omega)];rfl
 have e2:zR [a,b] ((a.length:Int),1) = pure (.next ((a.length:Int) + b.length,2)):=by
  unfold zR;have:IntKind.i64.wrap ((a.length:Int) + b.length) = a.length + b.length:=by rw [Xh (by omega) (by omega)]
  simp only [yV,Xd (l:=[a,b]) (i:=1) (y:=b) (by omega) rfl,zA,this];rw [if_pos (by simp),if_neg (by omega),Xh (by omega) (by omega)];rfl
 have e3:zR [a,b] ((a.length:Int) + b.length,2) = pure (.done ((a.length:Int) + b.length)):=by
  unfold zR;simp
 have f1:zS [a,b] (0,[]) = pure (.next (1,a)):=by
  unfold zS;simp only [yV,Xd (l:=[a,b]) (i:=0) (y:=a) (by omega) rfl,zA];rw [if_pos (by simp),zE (by simp;omega),Xh (by omega) (by omega)];rfl
 have f2:zS [a,b] (1,a) = pure (.next (2,a ++ b)):=by
  unfold zS;simp only [yV,Xd (l:=[a,b]) (i:=1) (y:=b) (by omega) rfl,zA];rw [if_pos (by simp),zE (by omega),Xh (by omega) (by omega)];rfl
 have f3:zS [a,b] (2,a ++ b) = pure (.done (a ++ b)):=by
  unfold zS;simp
 rw [yE e1,yE e2,zu e3,zA,growC_eq _ (by omega) (by omega),zB,zA,yE f1,yE f2,zu f3,zA]
theorem sm_app {a b:List PT} (ha:a.length + b.length <= 10000000000) (hb:vq a + vq b <= 10000000000):Sm (a ++ b):=⟨by rw [List.length_append];exact ha,by rw [WG];exact hb⟩
theorem Join_eq (a b:List PT) (h:Sm (a ++ b)):Xr a b = pure (opC (· || ·) a b):=by
 unfold Xr;rw [QU a b (by have:=h.1;rw [List.length_append] at this;omega),zB,zA,z3a _ h,zB,zA,norm_or]
theorem Add_eq (c:List PT) (l:List DT) (hl:l.length <= 1000000000) (h1:c.length <= 1000000000) (h2:vq c <= 1000000000):WU c l = pure (opC (· || ·) c (zf l)):=by
 unfold WU;have h3:=vB l;have h4:=Yx l;have h5:=VA (zf l);have h6:=VB (zf l);rw [Of_eq l (by omega),zB,zA,Join_eq _ _ (sm_app (by omega) (by omega)),zB,zA];refine congrArg pure ((Yw rfl _ _).ext (Yw rfl _ _) fun k n=>?_);rw [Wy rfl,Wy rfl,ya]
theorem partEq (x y:PT):(decide (x.dev = y.dev) && decide (x.runs = y.runs)) = decide (x = y):=by
 rw [Bool.eq_iff_iff]
 cases x;cases y
 simp
theorem run_le {c:List PT}:∀ p ∈ c,p.runs.length <= vq c:=by
 induction c with
 | nil=>intro p hp;simp at hp
 | cons q r ih=>
  intro p hp;have e:vq (q :: r) = q.runs.length + vq r:=by simp [vq]
  rcases List.mem_cons.1 hp with rfl | hp
  ·omega
  ·have:=ih p hp;omega

theorem rEq_eq (a b:List PT) (ha:a.length <= 1000000000000) (hr:∀ p ∈ a,p.runs.length <= 1000000000000):jN a b = pure (decide (a = b)):=by
 unfold jN
 by_cases hl:(a.length:Int) = b.length
 ·simp only [hl,decide_true,Bool.not_true,cond_false];have:=yk (body:=Yc a b) a (fun i=>(i:Int)) (fun i x=>decide (b[i]? = some x)) (.brk ()) (.ret false) (fun i x hx hi=>by
   have hb:i < b.length:=by omega
   have hby:=List.getElem?_eq_getElem hb;unfold Yc;have h1:decide ((i:Int) < (a.length:Int)) = true:=by simpa using hi
   simp only [h1,cond_true,zF hx,zF hby,zA,R.req_eq x.runs _ (hr x (List.mem_of_getElem? hx)),zB,zh (show i < 9223372036854775807 by omega)];rw [hby];have he:=partEq x b[i]
   by_cases hd:x.dev = (b[i]).dev
   ·by_cases hq:x.runs = (b[i]).runs
    ·simp only [hd,hq,decide_true,Bool.and_self,eq_comm (a:=true),decide_eq_true_eq] at he;simp [hd,hq,he,zA]
    ·have hne:¬ x = b[i]:=fun e=>hq (by rw [e])
     have hne2:¬ b[i] = x:=fun e=>hne e.symm
     simp [hd,hq,hne2,zA]
   ·have hne2:¬ b[i] = x:=fun e=>hd (by rw [e])
    simp [hd,hne2,zA]) (by unfold Yc;simp)
  rw [show (0:Int) = ((0:Nat):Int) from rfl,this];have hiff:(a.zipIdx.all fun y=>decide (b[y.2]? = some y.1)) = decide (a = b):=by
   rw [Bool.eq_iff_iff,List.all_eq_true,decide_eq_true_eq]
   constructor
   ·intro h;apply List.ext_getElem?;intro i
    by_cases hi:i < a.length
    ·have:=h (a[i],i) (by rw [List.mem_zipIdx_iff_getElem?];exact List.getElem?_eq_getElem hi);simp only [decide_eq_true_eq] at this;rw [this,List.getElem?_eq_getElem hi]
    ·rw [List.getElem?_eq_none (by omega),List.getElem?_eq_none (by omega)]
   ·rintro rfl y hy;rw [List.mem_zipIdx_iff_getElem?] at hy;simpa using hy
  rw [hiff]
  by_cases h:a = b <;> simp [h,exk,zA]
 ·have:¬ a = b:=fun e=>hl (by rw [e])
  simp [hl,this]
theorem rEq_sm (a b:List PT) (h:Sm a):jN a b = pure (decide (a = b)):=rEq_eq a b (by have:=h.1;omega) fun p hp=>by have:=run_le p hp;have:=h.2;omega
theorem qd (u v:List RN):R.Zs (· || ·) (R.nrm u) v = R.nrm (u ++ v):=R.Vh (R.yJ _ rfl _ _).1 (R.Wr _) fun n=>by rw [(R.yJ _ rfl _ _).2.1,R.vY,R.vY,R.vi]
theorem Ui (c:List PT) (k:Int) (hk:0 <= k) (h:c.length <= 1000000000) (ht:vq c <= 1000000000):ZW c k = pure (R.nrm (yN c k)):=by
 unfold ZW;have hpre:∀ i,(yN (c.take i) k).length <= 1000000000:=fun i=>by
  have h1:=ud (c.take i) k;have h2:vq (c.take i) <= vq c:=by
   conv=>rhs;rw [<- List.take_append_drop i c]
   rw [WG];omega
  omega
 have:=uX (body:=uQ c k) c (fun i (t:List RN)=>(t,(i:Int))) (fun t p=>if p.dev = k /\ 0 < k then R.Zs (· || ·) t p.runs else t) (fun t=>pure t) (fun i t=>t = R.nrm (yN (c.take i) k)) (fun i x t hx hi ht2=>by
  have h1:decide ((i:Int) < (c.length:Int)) = true:=by simpa using hi
  have hxl:x.runs.length <= 1000000000:=by have:=run_le x (List.mem_of_getElem? hx);omega
  have htl:t.length <= 2000000000:=by have:=R.YI (yN (c.take i) k);have:=hpre i;rw [ht2];omega
  unfold uQ;simp only [h1,cond_true,zF hx,zA,zh (show i < 9223372036854775807 by omega),yV];have hnext:(if x.dev = k /\ 0 < k then R.Zs (· || ·) t x.runs else t) = R.nrm (yN (c.take (i + 1)) k):=by
   rw [List.take_add_one,hx,Yu,Option.toList,vZ,WF,List.append_nil,ht2]
   split
   ·exact qd _ _
   ·rw [List.append_nil]
  refine ⟨?_,hnext⟩
  by_cases hd:x.dev = k
  ·by_cases h0:k = 0
   ·have:¬ (x.dev = k /\ 0 < k):=by omega
    rw [if_neg this,if_pos hd];simp [h0,zA]
   ·rw [if_pos (show x.dev = k /\ 0 < k from ⟨hd,by omega⟩),if_pos hd];simp only [h0,decide_false,Bool.not_false,zA,cond_true];rw [R.qY _ _ (by omega),zB,zA,zA]
  ·rw [if_neg (fun (q:x.dev = k /\ 0 < k)=>hd q.1),if_neg hd]
   rfl) (fun t _=>by unfold uQ;simp [zA]) [] (by rw [List.take_zero,WF,Wx])
 rw [show (([]:List RN),(0:Int)) = ([],((0:Nat):Int)) from rfl,this];have key:∀ (l:List PT) (u:List RN),l.foldl (fun t p=>if p.dev = k /\ 0 < k then R.Zs (· || ·) t p.runs else t) (R.nrm u) = R.nrm (u ++ yN l k):=by
  intro l
  induction l with
  | nil=>intro u;simp [yN]
  | cons p r ih=>
   intro u;rw [List.foldl_cons,vZ]
   by_cases hp:p.dev = k /\ 0 < k
   ·rw [if_pos hp,if_pos hp,qd,ih,List.append_assoc]
   ·rw [if_neg hp,if_neg hp,ih,List.nil_append]
 have h2:=key c [];rw [Wx,List.nil_append] at h2;rw [h2];rfl
def Jc (c:List PT):List Int:=c.foldl (fun l p=>V.VL l p.dev) []
theorem Uj (c:List PT):∀ l:List Int,l.Pairwise (· < ·) -> (c.foldl (fun l p=>V.VL l p.dev) l).Pairwise (· < ·) /\ (∀ k,k ∈ c.foldl (fun l p=>V.VL l p.dev) l ↔ k ∈ l \/ ∃ p ∈ c,p.dev = k) /\ (c.foldl (fun l p=>V.VL l p.dev) l).length <= l.length + c.length:=by
 induction c with
 | nil=>intro l h;simp [h]
 | cons p r ih=>
  intro l h;rw [List.foldl_cons];obtain ⟨h1,h2,h3⟩:=ih _ (V.vX h p.dev);refine ⟨h1,fun k=>?_,by have:=V.Yp l p.dev;simp;omega⟩;rw [h2,V.WE]
  constructor
  ·rintro ((rfl | h4) | ⟨x,h4,h5⟩)
   ·exact .inr ⟨p,by simp,rfl⟩
   ·exact .inl h4
   ·exact .inr ⟨x,by simp [h4],h5⟩
  ·rintro (h4 | ⟨x,h4,h5⟩)
   ·exact .inl (.inr h4)
   ·rcases List.mem_cons.1 h4 with rfl | h4
    ·exact .inl (.inl h5.symm)
    ·exact .inr ⟨x,h4,h5⟩
theorem VC (c:List PT):(Jc c).Pairwise (· < ·):=(Uj c [] List.Pairwise.nil).1
theorem qe {c:List PT} {k:Int}:k ∈ Jc c ↔ ∃ p ∈ c,p.dev = k:=by
 have:=(Uj c [] List.Pairwise.nil).2.1 k;unfold Jc;rw [this];simp
theorem qf (c:List PT):(Jc c).length <= c.length:=by simpa [Jc] using (Uj c [] List.Pairwise.nil).2.2
theorem Yt (l:List Int):(V.Zr l).length = l.length:=by simp [V.Zr]
theorem rdevs_eq (a b:List PT) (h:a.length + b.length <= 10000000000):Xt a b = pure (V.Zr (Jc (a ++ b))):=by
 unfold Xt;have h1:=uX (body:=uS a) a (fun i (l:List Int)=>(V.Zr l,(i:Int))) (fun l p=>V.VL l p.dev) (fun l=>pure (V.Zr l)) (fun i l=>l.Pairwise (· < ·) /\ l.length <= i) (fun i x l hx hi ⟨hs,hl⟩=>by
  have h1:decide ((i:Int) < (a.length:Int)) = true:=by simpa using hi
  unfold uS;simp only [h1,cond_true,zF hx,zA,zh (show i < 9223372036854775807 by omega)];rw [V.XQ _ _ (by rw [Yt];omega),zB,zA,V.qP hs];exact ⟨rfl,V.vX hs _,by have:=V.Yp l x.dev;omega⟩) (fun l _=>by unfold uS;simp [zA]) [] ⟨List.Pairwise.nil,by simp⟩
 have h2:=uX (body:=vL b) b (fun i (l:List Int)=>(V.Zr l,(i:Int))) (fun l p=>V.VL l p.dev) (fun l=>pure (V.Zr l)) (fun i l=>l.Pairwise (· < ·) /\ l.length <= a.length + i) (fun i x l hx hi ⟨hs,hl⟩=>by
  have h1:decide ((i:Int) < (b.length:Int)) = true:=by simpa using hi
  unfold vL;simp only [h1,cond_true,zF hx,zA,zh (show i < 9223372036854775807 by omega)];rw [V.XQ _ _ (by rw [Yt];omega),zB,zA,V.qP hs];exact ⟨rfl,V.vX hs _,by have:=V.Yp l x.dev;omega⟩) (fun l _=>by unfold vL;simp [zA]) (Jc a) ⟨VC a,by have:=qf a;omega⟩
 rw [show (([]:List DT),(0:Int)) = (V.Zr [],((0:Nat):Int)) from rfl,h1,zA];show (loop (vL b) (V.Zr (Jc a),((0:Nat):Int))).bind _ = _;rw [h2,zA];unfold Jc;rw [List.foldl_append]
theorem Ws (op:Bool -> Bool -> Bool) (how:Int) (hop:∀ x y,op x y = if how = 2 then (x && !y) else if how = 1 then (x && y) else (x || y)) (h0:op false false = false) (a b:List PT) (oa:∀ p ∈ a,0 <= p.dev) (ob:∀ p ∈ b,0 <= p.dev) (ha:a.length <= 1000000000) (hb:b.length <= 1000000000) (ta:vq a <= 1000000000) (tb:vq b <= 1000000000):UG a b how = pure (opC op a b):=by
 unfold UG;rw [rdevs_eq a b (by omega),zB,zA];have hlenA:∀ k,(R.nrm (yN a k)).length <= 2000000000:=fun k=>by have:=R.YI (yN a k);have:=ud a k;omega
 have hlenB:∀ k,(R.nrm (yN b k)).length <= 2000000000:=fun k=>by have:=R.YI (yN b k);have:=ud b k;omega
 have hop':∀ k,R.Zs op (R.nrm (yN a k)) (R.nrm (yN b k)) = R.Zs op (yN a k) (yN b k):=fun k=>R.Vh (R.yJ op h0 _ _).1 (R.yJ op h0 _ _).1 fun n=>by rw [(R.yJ op h0 _ _).2.1,(R.yJ op h0 _ _).2.1,R.vY,R.vY]
 have hkey:∀ k ∈ Jc (a ++ b),0 <= k:=fun k hk=>by
  obtain ⟨p,hp,rfl⟩:=qe.1 hk;rcases List.mem_append.1 hp with hp | hp
  ·exact oa p hp
  ·exact ob p hp
 have hnd:(Jc (a ++ b)).length <= 2000000000:=by have:=qf (a ++ b);rw [List.length_append] at this;omega
 have hgo:=uX (body:=ZY (V.Zr (Jc (a ++ b))) a b how) (Jc (a ++ b)) (fun i (t:List PT)=>((i:Int),t)) (fun t k=>if R.Zs op (yN a k) (yN b k) = [] then t else t ++ [⟨k,R.Zs op (yN a k) (yN b k)⟩]) (fun t=>pure t) (fun i t=>t.length <= i) (fun i k t hk hi hl=>by
  have h1:decide ((i:Int) < ((V.Zr (Jc (a ++ b))).length:Int)) = true:=by rw [Yt];simpa using hi
  have hx:(V.Zr (Jc (a ++ b)))[i]? = some ⟨k,1⟩:=by simp [V.Zr,hk]
  have hk0:0 <= k:=hkey k (List.mem_of_getElem? hk);unfold ZY;simp only [h1,cond_true,zF hx,zA,Ui a k hk0 ha ta,Ui b k hk0 hb tb,zB,zh (show i < 9223372036854775807 by omega)];have hl1:=hlenA k;have hl2:=hlenB k;rw [R.qY _ _ (by omega),zB,zA,R.rmeet_eq _ _ (by omega),zB,zA,R.zwa _ _ (by omega),zB,zA];have hz:(cond (decide (how = 1)) (pure (R.Zs (· && ·) (R.nrm (yN a k)) (R.nrm (yN b k)))) (pure (R.Zs (· || ·) (R.nrm (yN a k)) (R.nrm (yN b k)))):M (List RN)).bind (fun z=>cond (decide (how = 2)) (pure (R.Zs (fun x y=>x && !y) (R.nrm (yN a k)) (R.nrm (yN b k)))) (pure z)) = pure (R.Zs op (yN a k) (yN b k)):=by
   rw [<- hop' k]
   by_cases h2:how = 2
   ·subst h2;have:op = fun x y=>x && !y:=by funext x y;rw [hop];simp
    rw [this];rfl
   ·by_cases h1:how = 1
    ·subst h1;have:op = fun x y=>x && y:=by funext x y;rw [hop];simp
     rw [this];rfl
    ·have:op = fun x y=>x || y:=by funext x y;rw [hop];simp [h1,h2]
     rw [this];simp [h1,h2,zA]
  rw [<- VZ,hz,zA];have hsl:=(R.yJ op h0 (yN a k) (yN b k)).2.2
  by_cases hz0:R.Zs op (yN a k) (yN b k) = []
  ·rw [if_pos hz0];simp only [hz0,List.length_nil];exact ⟨rfl,by omega⟩
  ·rw [if_neg hz0];have:decide (0 < ((R.Zs op (yN a k) (yN b k)).length:Int)) = true:=by
    have:=List.length_pos_iff.2 hz0;simp;omega
   rw [this,cond_true,zE (by simp;omega)];exact ⟨rfl,by simp;omega⟩) (fun t _=>by unfold ZY;rw [Yt];simp [zA]) [] (by simp)
 rw [show ((0:Int),([]:List PT)) = (((0:Nat):Int),[]) from rfl,hgo,zA];have key:∀ (ks:List Int) (t:List PT),ks.foldl (fun t k=>if R.Zs op (yN a k) (yN b k) = [] then t else t ++ [⟨k,R.Zs op (yN a k) (yN b k)⟩]) t = t ++ zx (fun k=>R.Zs op (yN a k) (yN b k)) ks:=by
  intro ks
  induction ks with
  | nil=>intro t;simp [zx]
  | cons k ks ih=>
   intro t;rw [List.foldl_cons,ih]
   by_cases h:R.Zs op (yN a k) (yN b k) = []
   ·rw [if_pos h];simp [zx,h]
   ·rw [if_neg h];simp [zx,h]
 rw [key,List.nil_append];refine congrArg pure (Wv (VC _) (xh _) (fun _=>rfl) fun k hk=>?_);have hr:yN (a ++ b) k ≠ []:=fun e=>hk (by
  rw [Yu] at e;have:=List.append_eq_nil_iff.1 e;rw [this.1,this.2];exact qa h0)
 exact ⟨fun _=>vj hr,fun _=>qe.2 (wv.1 (vj hr)).1⟩
structure Ok (c:List PT):Prop where
 dev:∀ p ∈ c,0 <= p.dev
 len:c.length <= 1000000000
 tot:vq c <= 1000000000
theorem Ok.sm {c:List PT} (h:Ok c):Sm c:=⟨by have:=h.len;omega,by have:=h.tot;omega⟩
section
variable (a b:List PT) (ha:Ok a) (hb:Ok b)
include ha hb
theorem qg : ZZ a b = pure (opC (· || ·) a b):=by
 unfold ZZ;rw [Ws (· || ·) 0 (fun x y=>by simp) rfl a b ha.dev hb.dev ha.len hb.len ha.tot hb.tot,zB,zA]
end
theorem ok_nil : Ok []:=⟨fun p h=>by simp at h,by simp,by simp [vq]⟩
theorem has_pos {c:List PT} {k n:Int} (h:vA c k n = true):0 < k /\ 1 <= n /\ n <= 281474976710655:=by
 refine ⟨Classical.byContradiction fun h0=>?_,R.QQ h⟩;unfold vA at h;rw [Uf h0] at h
 cases h
theorem vo (c:List PT) (d:DT) (h:Ok c):xe c d = pure (vA c d.dev d.n):=by
 unfold xe;rw [V.vW,zB,zA]
 by_cases hg:V.zr d = true
 ·have h1:=V.yl.1 hg;rw [hg,cond_true,Ui c d.dev (by omega) h.len h.tot,zB,zA,R.JY _ _ (by have:=R.YI (yN c d.dev);have:=ud c d.dev;have:=h.tot;omega),zB,zA,zA,R.vY]
  rfl
 ·have hg':V.zr d = false:=by simpa using hg
  rw [hg',cond_false,zA]
  cases hh:vA c d.dev d.n with
  | false=>rfl
  | true=>obtain ⟨h1,h2,h3⟩:=has_pos hh;exact absurd (V.yl.2 ⟨by omega,h2,h3⟩) hg
theorem Vl (l:List DT) (d:DT):zf (l ++ [d]) = zf l ++ if V.zr d = true then [⟨d.dev,[⟨d.n,d.n⟩]⟩] else []:=by
 unfold zf;rw [List.filter_append,List.map_append]
 congr 1
 by_cases h:V.zr d = true <;> simp [h]
theorem Jd (a b:List PT):opC (· || ·) (yI a) b = yI (a ++ b):=(Yw rfl _ _).ext (xi _) fun k n=>by rw [Wy rfl,ya,ya,Zl]
theorem Uk {l:List DT} (h:l.length <= 400000000):Ok (yI (zf l)):=⟨fun p hp=>by have:=((xi (zf l)).nf p hp).1;omega,by have:=VA (zf l);have:=vB l;omega,by have:=VB (zf l);have:=Yx l;omega⟩
theorem rOf_eq (l:List DT) (h:l.length <= 400000000):jL l = pure (yI (zf l)):=by
 unfold jL;have:=uX (body:=YX l) l (fun i (t:List PT)=>(t,(i:Int))) (fun t d=>if V.zr d = true then opC (· || ·) t [⟨d.dev,[⟨d.n,d.n⟩]⟩] else t) (fun t=>pure t) (fun i t=>t = yI (zf (l.take i))) (fun i x t hx hi ht=>by
  have h1:decide ((i:Int) < (l.length:Int)) = true:=by simpa using hi
  have hok:Ok t:=by rw [ht];exact Uk (by rw [List.length_take];omega)
  have hnext:(if V.zr x = true then opC (· || ·) t [⟨x.dev,[⟨x.n,x.n⟩]⟩] else t) = yI (zf (l.take (i + 1))):=by
   rw [List.take_add_one,hx,Option.toList,Vl,ht]
   split
   ·exact Jd _ _
   ·rw [List.append_nil]
  refine ⟨?_,hnext⟩;unfold YX;simp only [h1,cond_true,zF hx,zA,V.vW,zB,zh (show i < 9223372036854775807 by omega)]
  by_cases hg:V.zr x = true
  ·have h2:=V.yl.1 hg;rw [if_pos hg,hg,cond_true,qg t _ hok ⟨fun p hp=>by rw [List.mem_singleton] at hp;subst hp;show 0 <= x.dev;omega,by simp,by simp [vq]⟩,zB,zA,zA]
  ·have hg':V.zr x = false:=by simpa using hg
   rw [if_neg hg,hg',cond_false,zA]) (fun t _=>by unfold YX;simp [zA]) [] (by rw [List.take_zero];exact (XU jf).symm)
 rw [show (([]:List PT),(0:Int)) = ([],((0:Nat):Int)) from rfl,this,zA];have key:∀ (q pre:List DT),q.foldl (fun t d=>if V.zr d = true then opC (· || ·) t [⟨d.dev,[⟨d.n,d.n⟩]⟩] else t) (yI (zf pre)) = yI (zf (pre ++ q)):=by
  intro q
  induction q with
  | nil=>intro pre;rw [List.append_nil];rfl
  | cons d r ih=>
   intro pre;rw [List.foldl_cons];have:(if V.zr d = true then opC (· || ·) (yI (zf pre)) [⟨d.dev,[⟨d.n,d.n⟩]⟩] else yI (zf pre)) = yI (zf (pre ++ [d])):=by
    rw [Vl]
    split
    ·exact Jd _ _
    ·rw [List.append_nil]
   rw [this,ih,List.append_assoc];rfl
 have h2:=key l [];rw [show yI (zf []) = [] from XU jf,List.nil_append] at h2;rw [h2]
end Go.Ep.M.C

namespace Go.Ep.M.N
open Go

def lenN (n:Nat):Nat:=if n = 0 then 0 else lenN (n / 256) + 1
def byteAt (n i:Nat):Int:=((n / 256 ^ i % 256:Nat):Int)
def be (n:Nat):Nat -> List Int
 | 0=>[]
 | k + 1=>byteAt n k :: be n k
def encN (n:Nat):List Int:=(lenN n:Int) :: be n (lenN n)
def encI (v:Int):List Int:=encN v.toNat
def By (l:List Int):Prop:=∀ x ∈ l,0 <= x /\ x <= 255
theorem By.drop {l:List Int} (h:By l) (n:Nat):By (l.drop n):=fun x hx=>h x (List.mem_of_mem_drop hx)
theorem By.take {l:List Int} (h:By l) (n:Nat):By (l.take n):=fun x hx=>h x (List.mem_of_mem_take hx)
theorem By.app {a b:List Int} (ha:By a) (hb:By b):By (a ++ b):=fun x hx=>(List.mem_append.1 hx).elim (ha x) (hb x)
theorem By.nil : By []:=fun x hx=>by cases hx
def valB (l:List Int):Int:=l.foldl (fun v x=>v * 256 + x) 0
theorem z6a : ∀ (l:List Int) (v k:Nat),By l -> v < 256 ^ k -> ∃ n:Nat,l.foldl (fun v x=>v * 256 + x) (v:Int) = (n:Int) /\ n < 256 ^ (k + l.length) /\ v * 256 ^ l.length <= n
 | [],v,k,_,hv=>⟨v,rfl,by simpa using hv,by simp⟩
 | x :: r,v,k,hb,hv=>by
  have hx:=hb x (by simp);obtain ⟨n,h1,h2,h3⟩:=z6a r (v * 256 + x.toNat) (k + 1) (fun y hy=>hb y (by simp [hy])) (by rw [Nat.pow_succ];omega);refine ⟨n,?_,by rw [show k + (x :: r).length = k + 1 + r.length by simp;omega];exact h2,?_⟩
  ·rw [List.foldl_cons,<- h1]
   congr 1;omega
  ·refine Nat.le_trans ?_ h3;rw [List.length_cons,Nat.pow_succ];have:v * (256 ^ r.length * 256) = v * 256 * 256 ^ r.length:=by rw [Nat.mul_comm (256 ^ r.length),Nat.mul_assoc]
   rw [this];exact Nat.mul_le_mul_right _ (by omega)
theorem z7a {l:List Int} (h:By l) (h8:l.length <= 8):0 <= valB l /\ valB l <= 18446744073709551615:=by
 obtain ⟨n,h1,h2,_⟩:=z6a l 0 0 h (by decide);have h3:256 ^ (0 + l.length) <= 256 ^ 8:=Nat.pow_le_pow_right (by decide) (by omega);have h4:(256:Nat) ^ 8 = 18446744073709551616:=by decide
 rw [valB,show (0:Int) = ((0:Nat):Int) from rfl,h1];omega
def rdN : List Int -> Int × Nat × Int
 | []=>(0,0,2)
 | n :: r=>if 8 < n \/ (0 < n /\ r.head? = some 0) then (0,0,4) else if (r.length:Int) < n then (0,0,2) else (valB (r.take n.toNat),n.toNat + 1,0)
theorem rdN_cons (n:Int) (r:List Int):rdN (n :: r) = if 8 < n \/ (0 < n /\ r.head? = some 0) then (0,0,4) else if (r.length:Int) < n then (0,0,2) else (valB (r.take n.toNat),n.toNat + 1,0):=rfl
theorem z8a (b:List Int) (hb:By b):(rdN b = (0,0,2) \/ rdN b = (0,0,4)) \/ ∃ n r,b = n :: r /\ 0 <= n /\ n <= 8 /\ n <= (r.length:Int) /\ ¬ (0 < n /\ r.head? = some 0) /\ rdN b = (valB (r.take n.toNat),n.toNat + 1,0):=by
 cases b with
 | nil=>exact .inl (.inl rfl)
 | cons n r=>
  have hn:=hb n (by simp);rw [rdN_cons]
  by_cases h1:8 < n \/ (0 < n /\ r.head? = some 0)
  ·rw [if_pos h1];exact .inl (.inr rfl)
  ·rw [if_neg h1]
   by_cases h2:(r.length:Int) < n
   ·rw [if_pos h2];exact .inl (.inl rfl)
   ·rw [if_neg h2];exact .inr ⟨n,r,rfl,hn.1,by omega,by omega,fun h=>h1 (.inr h),rfl⟩
theorem z9a (b:List Int) (hb:By b):0 <= (rdN b).1 /\ (rdN b).1 <= 18446744073709551615 /\ (rdN b).2.1 <= b.length /\ ((rdN b).2.2 = 0 \/ (rdN b).2.2 = 2 \/ (rdN b).2.2 = 4):=by
 rcases z8a b hb with (h | h) | ⟨n,r,rfl,h0,h8,hl,_,h⟩
 ·rw [h];simp
 ·rw [h];simp
 ·rw [h];have:=z7a (l:=r.take n.toNat) (fun x hx=>hb x (by simp [List.mem_of_mem_take hx])) (by rw [List.length_take];omega);refine ⟨this.1,this.2,?_,.inl rfl⟩;simp;omega
abbrev RS:=List Int × Int
structure Ok (s:RS):Prop where
 by_:By s.1
 len:s.1.length <= 1000000000
 nil:s.2 ≠ 0 -> s.1 = []
def YJ (e:Int) (s:RS):RS:=if s.2 = 0 /\ e ≠ 0 then ([],e) else s
def Zt (s:RS):Int × RS:=if s.2 ≠ 0 then (0,s) else if (rdN s.1).2.2 ≠ 0 then (0,YJ (rdN s.1).2.2 s) else ((rdN s.1).1,(s.1.drop (rdN s.1).2.1,0))
def XV (m:Int) (s:RS):Int × RS:=if m < (Zt s).1 then (0,YJ 4 (Zt s).2) else Zt s
def QV (s:RS):Int × RS:=if s.2 ≠ 0 then (0,s) else match s.1 with | []=>(0,YJ 2 s) | x :: r=>(x,(r,0))
def textS (m:Int) (s:RS):ByteArray × RS:=
 if (Zt s).2.2 ≠ 0 then (⟨#[]⟩,(Zt s).2) else if max m 0 < (Zt s).1 then (⟨#[]⟩,YJ 3 (Zt s).2) else if ((Zt s).2.1.length:Int) < (Zt s).1 then (⟨#[]⟩,YJ 2 (Zt s).2)
 else (strL ((Zt s).2.1.take (Zt s).1.toNat),((Zt s).2.1.drop (Zt s).1.toNat,0))
theorem Ul {s:RS} (h:Ok s) (e:Int):Ok (YJ e s):=by
 unfold YJ
 by_cases c:s.2 = 0 /\ e ≠ 0
 ·rw [if_pos c];exact ⟨By.nil,by simp,fun _=>rfl⟩
 ·rw [if_neg c];exact h
theorem yAa {s:RS} (h:Ok s):Ok (Zt s).2 /\ 0 <= (Zt s).1 /\ (Zt s).1 <= 18446744073709551615:=by
 unfold Zt;have hr:=z9a s.1 h.by_
 by_cases c:s.2 ≠ 0
 ·rw [if_pos c];exact ⟨h,by simp,by simp⟩
 ·rw [if_neg c]
  by_cases c2:(rdN s.1).2.2 ≠ 0
  ·rw [if_pos c2];exact ⟨Ul h _,by simp,by simp⟩
  ·rw [if_neg c2];exact ⟨⟨h.by_.drop _,by simp;have:=h.len;omega,fun h=>absurd rfl h⟩,hr.1,hr.2.1⟩
theorem ok_upto {s:RS} (h:Ok s) {m:Int} (hm:0 <= m):Ok (XV m s).2 /\ 0 <= (XV m s).1 /\ (XV m s).1 <= m:=by
 unfold XV;obtain ⟨h1,h2,h3⟩:=yAa h
 by_cases c:m < (Zt s).1
 ·rw [if_pos c];exact ⟨Ul h1 _,by simp,hm⟩
 ·rw [if_neg c];exact ⟨h1,h2,by omega⟩
structure Sim (B:List Int) (a:Int) (s:RS):Prop where
 lo:0 <= a
 hi:a <= B.length
 eq:s.2 = 0 -> s.1 = B.drop a.toNat
structure OkB (B:List Int):Prop where
 by_:By B
 len:B.length <= 1000000000
variable {B:List Int} {a:Int} {s:RS}
end Go.Ep.M.N

namespace Go.Ep.M.D
open Go

theorem Xi {a b:DT}:zJ a b = true ↔ a.dev < b.dev \/ (a.dev = b.dev /\ a.n < b.n):=by simp [zJ]
theorem ZC (a:DT):zJ a a = false:=by
 cases h:zJ a a with
 | false=>rfl
 | true=>rw [Xi] at h;omega
theorem Yy {a b c:DT} (h1:zJ a b = true) (h2:zJ b c = true):zJ a c = true:=by rw [Xi] at *;omega
theorem ZD {a b:DT} (h:zJ a b = true):zJ b a = false:=by
 cases h2:zJ b a with
 | false=>rfl
 | true=>rw [Xi] at h h2;omega
theorem Vm {a b:DT} (h1:zJ a b = false) (h2:zJ b a = false):a = b:=by
 have h3:¬ (zJ a b = true):=by simp [h1]
 have h4:¬ (zJ b a = true):=by simp [h2]
 rw [Xi] at h3 h4
 cases a;cases b
 simp only [DT.mk.injEq] at *
 omega
abbrev Srt (l:List DT):Prop:=l.Pairwise fun x y=>zJ x y = true
theorem yBa : ∀ {l l':List DT},Srt l -> Srt l' -> (∀ d,d ∈ l ↔ d ∈ l') -> l = l'
 | [],[],_,_,_=>rfl
 | [],y :: r,_,_,h=>by have:=(h y).2 (by simp);simp at this
 | x :: r,[],_,_,h=>by have:=(h x).1 (by simp);simp at this
 | x :: r,y :: t,h1,h2,h=>by
  have hx:=(h x).1 (by simp);have hy:=(h y).2 (by simp);have e:x = y:=by
   rcases List.mem_cons.1 hx with e | hx
   ·exact e
   ·rcases List.mem_cons.1 hy with e | hy
    ·exact e.symm
    ·have a1:=(List.pairwise_cons.1 h2).1 x hx;have a2:=(List.pairwise_cons.1 h1).1 y hy;rw [ZD a1] at a2;cases a2
  subst e
  congr 1
  refine yBa (List.pairwise_cons.1 h1).2 (List.pairwise_cons.1 h2).2 fun d=>?_
  have h3:=h d;simp only [List.mem_cons] at h3
  constructor
  ·intro hd;rcases h3.1 (.inr hd) with e | h4
   ·have:=(List.pairwise_cons.1 h1).1 d hd;rw [e,ZC] at this;cases this
   ·exact h4
  ·intro hd;rcases h3.2 (.inr hd) with e | h4
   ·have:=(List.pairwise_cons.1 h2).1 d hd;rw [e,ZC] at this;cases this
   ·exact h4

def Um (s:List DT) (d:DT):List DT:=(s.filter fun x=>zJ x d) ++ [d] ++ (s.filter fun x=>zJ d x)
theorem ins_mem {s:List DT} {d x:DT}:x ∈ Um s d ↔ x = d \/ x ∈ s:=by
 simp only [Um,List.mem_append,List.mem_filter,List.mem_singleton]
 constructor
 ·rintro ((h | h) | h)
  ·exact .inr h.1
  ·exact .inl h
  ·exact .inr h.1
 ·rintro (h | h)
  ·exact .inl (.inr h)
  ·cases h1:zJ x d with
   | true=>exact .inl (.inl ⟨h,rfl⟩)
   | false=>
    cases h2:zJ d x with
    | true=>exact .inr ⟨h,rfl⟩
    | false=>exact .inl (.inr (Vm h1 h2))
theorem ins_srt {s:List DT} (h:Srt s) (d:DT):Srt (Um s d):=by
 unfold Srt Um;rw [List.pairwise_append,List.pairwise_append];refine ⟨⟨h.filter _,by simp,fun a ha b hb=>?_⟩,h.filter _,fun a ha b hb=>?_⟩
 ·rw [List.mem_singleton.1 hb];exact (List.mem_filter.1 ha).2
 ·have hb:=(List.mem_filter.1 hb).2;rcases List.mem_append.1 ha with ha | ha
  ·exact Yy (List.mem_filter.1 ha).2 hb
  ·rw [List.mem_singleton.1 ha];exact hb
theorem Je (s:List DT) (d:DT):(Um s d).length <= s.length + 1:=by
 unfold Um;have h:∀ l:List DT,(l.filter fun x=>zJ x d).length + (l.filter fun x=>zJ d x).length <= l.length:=by
  intro l
  induction l with
  | nil=>simp
  | cons x r ih=>
   cases h1:zJ x d with
   | true=>simp [h1,ZD h1];omega
   | false=>
    cases h2:zJ d x with
    | true=>simp [h1,h2];omega
    | false=>simp [h1,h2];omega
 have:=h s;simp;omega
def vp (l:List DT):List DT:=l.foldl Um []
theorem WI : ∀ (l s:List DT),Srt s -> Srt (l.foldl Um s) /\ (∀ d,d ∈ l.foldl Um s ↔ d ∈ s \/ d ∈ l) /\ (l.foldl Um s).length <= s.length + l.length
 | [],s,h=>⟨h,by simp,by simp⟩
 | x :: r,s,h=>by
  obtain ⟨h1,h2,h3⟩:=WI r (Um s x) (ins_srt h x);refine ⟨h1,fun d=>?_,?_⟩
  ·rw [List.foldl_cons,h2 d,ins_mem,List.mem_cons]
   constructor
   ·rintro ((h | h) | h)
    ·exact .inr (.inl h)
    ·exact .inl h
    ·exact .inr (.inr h)
   ·rintro (h | h | h)
    ·exact .inl (.inr h)
    ·exact .inl (.inl h)
    ·exact .inr h
  ·have:=Je s x;rw [List.foldl_cons,List.length_cons];omega
theorem qh (l:List DT):Srt (vp l):=(WI l [] List.Pairwise.nil).1
theorem Yz {l:List DT} {d:DT}:d ∈ vp l ↔ d ∈ l:=by simpa [vp] using (WI l [] List.Pairwise.nil).2.1 d
theorem Un (l:List DT):(vp l).length <= l.length:=by simpa [vp] using (WI l [] List.Pairwise.nil).2.2
theorem Jg (s:List DT) (d:DT) (h:s.length <= 1000000000000):uR s d = pure (Um s d):=V.XQ s d h

def ddS (out:List DT) (x:DT):List DT:=if out.getLast? = some x then out else out ++ [x]
def dd (l:List DT):List DT:=l.foldl ddS []
theorem VD (l:List DT) (x:DT):dd (l ++ [x]) = ddS (dd l) x:=by simp [dd]
theorem Jh (l:List DT):(dd l).getLast? = l.getLast?:=by
 rcases R.xK l with rfl | ⟨r,y,rfl⟩
 ·rfl
 ·rw [VD];unfold ddS
  by_cases c:(dd r).getLast? = some y
  ·rw [if_pos c,c];simp
  ·rw [if_neg c];simp
theorem dd_mem {l:List DT} {d:DT}:d ∈ dd l ↔ d ∈ l:=by
 have:∀ (l s:List DT),d ∈ l.foldl ddS s ↔ d ∈ s \/ d ∈ l:=by
  intro l
  induction l with
  | nil=>intro s;simp
  | cons x r ih=>
   intro s;rw [List.foldl_cons,ih];have h2:d ∈ ddS s x ↔ d ∈ s \/ d = x:=by
    unfold ddS
    split
    ·rename_i h
     exact ⟨.inl,fun h3=>h3.elim id fun e=>by rw [e];exact List.mem_of_getLast? h⟩
    ·simp
   rw [h2,List.mem_cons];exact or_assoc
 simpa [dd] using this l []
theorem dd_srt {l:List DT} (h:l.Pairwise fun x y=>zJ y x = false):Srt (dd l):=by
 have:∀ (n:Nat) (l:List DT),l.length = n -> (l.Pairwise fun x y=>zJ y x = false) -> Srt (dd l):=by
  intro n
  induction n with
  | zero=>intro l hl _;have:=List.eq_nil_of_length_eq_zero hl;subst this;exact List.Pairwise.nil
  | succ n ih=>
   intro l hl h;rcases R.xK l with rfl | ⟨r,y,rfl⟩
   ·simp at hl
   ·rw [List.pairwise_append] at h;have hr:=ih r (by simpa using hl) h.1;rw [VD];unfold ddS
    split
    ·exact hr
    ·rename_i hne
     unfold Srt;rw [List.pairwise_append];refine ⟨hr,by simp,fun a ha b hb=>?_⟩;rw [List.mem_singleton.1 hb];have ha':=dd_mem.1 ha;have h1:=h.2.2 a ha' y (by simp)
     cases h2:zJ a y with
     | true=>rfl
     | false=>
      exfalso;have e:=Vm h2 h1;subst e;rw [Jh] at hne;rcases R.xK r with rfl | ⟨q,z,rfl⟩
      ·simp at ha'
      ·have hz:zJ a z = false:=h.2.2 z (by simp) a (by simp);rcases List.mem_append.1 ha' with h5 | h5
       ·have h6:zJ z a = false:=by
         have:=(List.pairwise_append.1 h.1).2.2 a h5 z (by simp);exact this
        have:=Vm hz h6;subst this;simp at hne
       ·rw [List.mem_singleton.1 h5] at hne;simp at hne
 exact this l.length l rfl h

theorem Uo (l:List DT) (h:l.length <= 1000000000000):zj l = pure l:=by
 unfold zj;refine uL ⟨⟨false,fun h=>by cases h⟩,fun b hb=>?_⟩
 cases b with
 | true=>show ([]:List DT) = l;exact (hb rfl).symm
 | false=>
  show _ /\ ([] ++ l = l)
  exact ⟨by simp;omega,List.nil_append l⟩
theorem QW (x y:DT):(decide (x.dev = y.dev) && decide (x.n = y.n)) = decide (x = y):=by
 cases x;cases y;simp [Bool.decide_and]
theorem ZE {l:List DT} {m:Nat} {x:DT} (h:l[m]? = some x):l.take (m + 1) = l.take m ++ [x]:=by
 rw [List.take_add_one,h];rfl
theorem jg {l:List DT} {m:Nat} {x:DT} (h:l[m]? = some x):(l.take (m + 1)).getLast? = some x:=by rw [ZE h];simp
theorem XW (s:List DT) (k:Nat) (hk:k < s.length) (hl:s.length <= 1000000000000):∀ (d k2 kk:Nat) (v:List DT),k + k2 + d = s.length -> 1 <= k2 -> v.length = s.length -> kk + 1 <= k + k2 -> v.take kk = dd (s.take (k + k2)) -> v.drop (k + k2 - 1) = s.drop (k + k2 - 1) ->
  ∃ (kk':Nat) (v':List DT),loop (zV s (k:Int)) ((kk:Int),(k2:Int),v) = pure ((kk':Int),v') /\ v'.length = s.length /\ kk' <= s.length /\ v'.take kk' = dd s
 | 0,k2,kk,v,hd,h1,hv,hkk,ht,_=>by
  refine ⟨kk,v,zu ?_,hv,by omega,by rw [ht,show k + k2 = s.length by omega,List.take_length]⟩;unfold zV;have:decide ((k2:Int) < (((s.length - (k:Int).toNat:Nat)):Int)) = false:=by simp;omega
  simp only [this,cond_false]
 | d + 1,k2,kk,v,hd,h1,hv,hkk,ht,hdr=>by
  have hvg:∀ j,k + k2 - 1 <= j -> v[j]? = s[j]?:=fun j hj=>by
   have:=congrArg (fun l=>l[j - (k + k2 - 1)]?) hdr;simp only [List.getElem?_drop] at this;rw [show k + k2 - 1 + (j - (k + k2 - 1)) = j by omega] at this;exact this
  obtain ⟨x,hx⟩:∃ x,s[k + k2]? = some x:=⟨_,List.getElem?_eq_getElem (by omega)⟩
  obtain ⟨y,hy⟩:∃ y,s[k + k2 - 1]? = some y:=⟨_,List.getElem?_eq_getElem (by omega)⟩
  have hlast:(dd (s.take (k + k2))).getLast? = some y:=by
   rw [Jh];have:=jg hy
   rwa [show k + k2 - 1 + 1 = k + k2 by omega] at this
  have hdd:dd (s.take (k + k2 + 1)) = if y = x then dd (s.take (k + k2)) else dd (s.take (k + k2)) ++ [x]:=by
   rw [ZE hx,VD];unfold ddS;rw [hlast]
   by_cases c:y = x
   ·rw [if_pos c,if_pos (by rw [c])]
   ·rw [if_neg c,if_neg (by intro e;exact c (Option.some.inj e))]
  have hb:zV s (k:Int) ((kk:Int),(k2:Int),v) = pure (.next (if y = x then ((kk:Int),((k2 + 1:Nat):Int),v) else (((kk + 1:Nat):Int),((k2 + 1:Nat):Int),v.set kk x))):=by
   unfold zV;have hc:decide ((k2:Int) < (((s.length - (k:Int).toNat:Nat)):Int)) = true:=by simp;omega
   have e1:IntKind.i64.wrap ((k2:Int) - 1) = ((k2 - 1:Nat):Int):=by rw [Xh (by omega) (by omega)];omega
   have i1:idx v ((((k:Int).toNat + (k2:Int).toNat:Nat)):Int) = pure x:=zF (by rw [Int.toNat_natCast,Int.toNat_natCast,hvg _ (by omega)];exact hx);have i2:idx v ((((k:Int).toNat + (((k2 - 1:Nat):Int)).toNat:Nat)):Int) = pure y:=zF (by rw [Int.toNat_natCast,Int.toNat_natCast,hvg _ (by omega),show k + (k2 - 1) = k + k2 - 1 by omega];exact hy);obtain ⟨z,hz⟩:∃ z,v[kk]? = some z:=⟨_,List.getElem?_eq_getElem (by omega)⟩
   have i3:idx v (kk:Int) = pure z:=zF hz;simp only [hc,cond_true,e1];rw [zE (by simp;omega),i1,zA,zE (by simp;omega),i2,zA];simp only [QW]
   by_cases c:y = x
   ·have c1:decide (x = y) = true:=decide_eq_true c.symm;simp only [c1,Bool.not_true,cond_false,zA,zh (show k2 < 9223372036854775807 by omega),if_pos c]
   ·have c1:decide (x = y) = false:=decide_eq_false (fun e=>c e.symm);simp only [c1,Bool.not_false,cond_true,if_neg c];rw [zE (by simp;omega),i3];simp only [zA,zh (show k2 < 9223372036854775807 by omega),zh (show kk < 9223372036854775807 by omega),Int.toNat_natCast]
  by_cases c:y = x
  ·rw [if_pos c] at hb hdd;rw [yE hb];refine XW s k hk hl d (k2 + 1) kk v (by omega) (by omega) hv (by omega) (by rw [ht,<- hdd];rfl) ?_;have:=congrArg (List.drop 1) hdr;rw [List.drop_drop,List.drop_drop,show k + k2 - 1 + 1 = k + (k2 + 1) - 1 by omega] at this;exact this
  ·rw [if_neg c] at hb hdd;rw [yE hb];refine XW s k hk hl d (k2 + 1) (kk + 1) (v.set kk x) (by omega) (by omega) (by simpa using hv) (by omega) ?_ ?_
   ·have h5:(v.set kk x)[kk]? = some x:=by rw [List.getElem?_set];simp;omega
    rw [ZE h5,List.take_set,List.set_eq_of_length_le (by rw [List.length_take];omega),ht,<- hdd];rfl
   ·rw [List.drop_set,if_pos (by omega)];have:=congrArg (List.drop 1) hdr;rw [List.drop_drop,List.drop_drop,show k + k2 - 1 + 1 = k + (k2 + 1) - 1 by omega] at this;exact this
theorem QX (s:List DT) (hl:s.length <= 1000000000000):za s = pure (dd s):=by
 unfold za
 by_cases h2:s.length < 2
 ·have:decide ((s.length:Int) < 2) = true:=by simp;omega
  rw [this,cond_true]
  match s,h2 with
  | [],_=>rfl
  | [x],_=>rfl
 ·have:decide ((s.length:Int) < 2) = false:=by simp;omega
  rw [this,cond_false];have key:∀ d k,k + d = s.length -> 1 <= k -> dd (s.take k) = s.take k -> (loop (zW s) (k:Int)).bind (exk fun _=>pure s) = pure (dd s):=by
   intro d
   induction d with
   | zero=>
    intro k hk h1 hd;rw [zu (r:=.brk ()) (by
     unfold zW;have:decide ((k:Int) < (s.length:Int)) = false:=by simp;omega
     simp only [this,cond_false])]
    rw [show k = s.length by omega,List.take_length] at hd;show pure s = pure (dd s);rw [hd]
   | succ d ih=>
    intro k hk h1 hd;obtain ⟨x,hx⟩:∃ x,s[k]? = some x:=⟨_,List.getElem?_eq_getElem (by omega)⟩
    obtain ⟨y,hy⟩:∃ y,s[k - 1]? = some y:=⟨_,List.getElem?_eq_getElem (by omega)⟩
    have hlast:(dd (s.take k)).getLast? = some y:=by
     rw [Jh];have:=jg hy
     rwa [show k - 1 + 1 = k by omega] at this
    have hc:decide ((k:Int) < (s.length:Int)) = true:=by simp;omega
    have i1:idx s (k:Int) = pure x:=zF hx;have i2:idx s (IntKind.i64.wrap ((k:Int) - 1)) = pure y:=by
     rw [Xh (by omega) (by omega)];exact Xd (by omega) (by rw [show ((k:Int) - 1).toNat = k - 1 by omega];exact hy)
    by_cases c:x = y
    ·subst c;obtain ⟨kk,v,h5,h6,h7,h8⟩:=XW s k (by omega) hl d 1 k s (by omega) (by omega) rfl (by omega) (by
      rw [ZE hx,VD,ddS,if_pos hlast,hd]) (by rw [show k + 1 - 1 = k by omega])
     rw [zu (r:=.ret (dd s)) (by
      unfold zW;simp only [hc,cond_true,i1,i2,zA,QW,decide_true];rw [zE (by omega),show (1:Int) = ((1:Nat):Int) from rfl,h5,zA];simp only [];rw [zE (by omega),zE (by simp;omega),zE (by
       simp only [List.length_append,List.length_take,List.length_replicate,List.length_drop,Int.toNat_natCast];omega),zA,JA]
      congr 3
      rw [Int.toNat_natCast,List.append_assoc,List.take_append_of_le_length (by rw [List.length_take];omega),List.take_take,Nat.min_self,h8])]
     rfl
    ·have c1:decide (x = y) = false:=decide_eq_false c;rw [yE (s':=((k + 1:Nat):Int)) (by
      unfold zW;simp only [hc,cond_true,i1,i2,zA,QW,c1,cond_false,YB,zh (show k < 9223372036854775807 by omega)])]
     refine ih (k + 1) (by omega) (by omega) ?_;rw [ZE hx,VD,ddS,if_neg (by rw [hlast];intro e;exact c (Option.some.inj e).symm),hd]
  have:=key (s.length - 1) 1 (by omega) (by omega) (by
   obtain ⟨x,r,rfl⟩:∃ x r,s = x :: r:=by
    cases s with
    | nil=>simp at h2
    | cons x r=>exact ⟨x,r,rfl⟩
   rfl)
  exact this
theorem zxa {l:List DT} {Q:List DT -> Prop} (h:∀ s,s.Perm l -> (s.Pairwise fun x y=>zJ y x = false) -> Q s):(srt zJ l).wp Q:=by
 refine ⟨⟨l.mergeSort (fun x y=>!zJ y x),List.mergeSort_perm _ _,?_⟩,fun s ⟨h1,h2⟩=>h s h1 h2⟩;refine (List.pairwise_mergeSort (fun a b c h1 h2=>?_) (fun a b=>?_) l).imp fun {x y} h=>by simpa using h
 ·simp only [Bool.not_eq_true'] at h1 h2 ⊢
  cases h3:zJ c a with
  | false=>rfl
  | true=>
   rw [Xi] at h3;have h4:¬ (zJ b a = true):=by simp [h1]
   have h5:¬ (zJ c b = true):=by simp [h2]
   rw [Xi] at h4 h5;omega
 ·cases h1:zJ b a with
  | false=>rfl
  | true=>rw [ZD h1];rfl
theorem Sort_eq (l:List DT) (h:l.length <= 1000000000000):Xs l = pure (vp l):=by
 unfold Xs;rw [Uo l h,zB,zA,zE (by omega)];refine uL (zxa fun s hs hp=>?_);show (bind (det (za s)) fun y8=>pure y8).wp _;rw [QX s (by rw [hs.length_eq];exact h),zB,zA];exact yBa (dd_srt hp) (qh l) fun d=>by rw [dd_mem,Yz];exact hs.mem_iff

theorem cmp16_eq (x y:Int):yd x y = pure (R.zya x y):=by
 unfold yd xB R.zya;simp only [decide_true,Bool.not_true,zB,zA,cond_false,yV]
 split
 ·rfl
 ·split <;> rfl
theorem Cmp_eq (a b:DT):UF a b = pure (V.UX a b):=by
 unfold UF;rw [cmp16_eq,zB,zA,R.zza,zB,zA];unfold V.UX R.zya
 cases a with | mk d n=>cases b with | mk e m=>
 simp only [DT.mk.injEq,zJ]
 by_cases h1:d < e
 ·have:¬ d = e:=by omega
  simp [h1,this]
 ·by_cases h2:e < d
  ·have:¬ d = e:=by omega
   simp [h1,h2,this]
  ·have h3:d = e:=by omega
   subst h3
   by_cases h4:n < m
   ·have:¬ n = m:=by omega
    simp [h4,this]
   ·by_cases h5:m < n
    ·have:¬ n = m:=by omega
     simp [h4,h5,this]
    ·have:n = m:=by omega
     simp [this]


structure OkD (d:DT):Prop where
 d0:0 <= d.dev
 d1:d.dev <= 65535
 n0:0 <= d.n
 n1:d.n <= 18446744073709551615
def encD (d:DT):List Int:=N.encI d.dev ++ N.encI d.n
def encR (x:RN):List Int:=N.encI x.lo ++ N.encI x.hi
def encP (p:PT):List Int:=N.encI p.dev ++ (N.encI p.runs.length ++ p.runs.flatMap encR)
def encN (c:List PT):List Int:=N.encI c.length ++ c.flatMap encP
structure OkP (p:PT):Prop where
 d0:0 <= p.dev
 d1:p.dev <= 65535
 r:∀ x ∈ p.runs,(0 <= x.lo /\ x.lo <= 18446744073709551615) /\ 0 <= x.hi /\ x.hi <= 18446744073709551615
open N (RS Ok Zt XV YJ OkB Sim)

def bad4 (c:Bool) (s:RS):RS:=if c = true then YJ 4 s else s
def fin {α:Type} (z x:α) (t:RS):α × RS:=if t.2 ≠ 0 then (z,t) else (x,t)
theorem yCa {s:RS} (h:Ok s) (c:Bool):Ok (bad4 c s):=by unfold bad4;split;exact N.Ul h _;exact h
theorem fin_ok {α:Type} {z x:α} {t:RS} (h:t.2 = 0):fin z x t = (x,t):=if_neg (by simp [h])
theorem fin_bad {α:Type} {z x:α} {t:RS} (h:t.2 ≠ 0):fin z x t = (z,t):=if_pos h
def dotR (s:RS):DT:=⟨(XV 65535 s).1,(Zt (XV 65535 s).2).1⟩
def dotT (s:RS):RS:=bad4 (!V.zr (dotR s)) (Zt (XV 65535 s).2).2
def dotS (s:RS):DT × RS:=fin ⟨0,0⟩ (dotR s) (dotT s)
theorem ok_dot {s:RS} (h:Ok s):Ok (dotS s).2 /\ OkD (dotS s).1 /\ OkD (dotR s):=by
 obtain ⟨h1,h2,h3⟩:=N.ok_upto h (m:=65535) (by decide);obtain ⟨h4,h5,h6⟩:=N.yAa h1;have ht:Ok (dotT s):=yCa h4 _;have hr:OkD (dotR s):=⟨h2,h3,h5,h6⟩
 unfold dotS
 by_cases c:(dotT s).2 = 0
 ·rw [fin_ok c];exact ⟨ht,hr,hr⟩
 ·rw [fin_bad c];exact ⟨ht,⟨Int.le_refl _,by simp,Int.le_refl _,by simp⟩,hr⟩
variable {B:List Int} {a:Int} {s:RS}
def lastGe (out:List DT) (x:DT):Bool:=match out.getLast? with | some y=>decide (0 <= V.UX y x) | none=>false
def Uq (out:List DT) (s:RS):RS:=bad4 (lastGe out (dotS s).1) (dotS s).2
def zm : Nat -> List DT -> RS -> List DT × RS
 | 0,out,s=>(out,s)
 | k + 1,out,s=>if (Uq out s).2 ≠ 0 then ([],Uq out s) else zm k (out ++ [(dotS s).1]) (Uq out s)
def dotsS (most:Int) (s:RS):List DT × RS:=if max most 0 < (Zt s).1 then ([],YJ 3 (Zt s).2) else zm (Zt s).1.toNat [] (Zt s).2
theorem yDa {k:Nat} {out:List DT} {s:RS} (h:(Uq out s).2 ≠ 0):zm (k + 1) out s = ([],Uq out s):=if_pos h
theorem QY {k:Nat} {out:List DT} {s:RS} (h:(Uq out s).2 = 0):zm (k + 1) out s = zm k (out ++ [(dotS s).1]) (Uq out s):=if_neg (by simp [h])
theorem qi {s:RS} (h:Ok s) (out:List DT):Ok (Uq out s):=yCa (ok_dot h).1 _
theorem qj : ∀ (k:Nat) (out:List DT) (s:RS),Ok s -> Ok (zm k out s).2
 | 0,_,_,h=>h
 | k + 1,out,s,h=>by
  by_cases c:(Uq out s).2 = 0
  ·rw [QY c];exact qj k _ _ (qi h out)
  ·rw [yDa c];exact qi h out
theorem Uk {s:RS} (h:Ok s) (most:Int):Ok (dotsS most s).2:=by
 have h1:=N.yAa h;unfold dotsS
 split
 ·exact N.Ul h1.1 _
 ·exact qj _ _ _ h1.1
open N (RS Ok Zt XV YJ OkB Sim)

variable {B:List Int} {a:Int} {s:RS}
open N (RS Ok Zt XV YJ OkB Sim)

def ZF : List DT -> Bool
 | []=>true
 | x :: r=>(match r with | []=>true | y :: _=>zJ x y) && ZF r
theorem ql : ∀ {l:List DT},ZF l = true ↔ Srt l
 | []=>⟨fun _=>List.Pairwise.nil,fun _=>rfl⟩
 | [x]=>⟨fun _=>by simp [Srt],fun _=>rfl⟩
 | x :: y :: r=>by
  show (zJ x y && ZF (y :: r)) = true ↔ _;rw [Bool.and_eq_true,ql (l:=y :: r)];unfold Srt;rw [List.pairwise_cons (a:=x)]
  constructor
  ·rintro ⟨h1,h2⟩;refine ⟨fun z hz=>?_,h2⟩;rcases List.mem_cons.1 hz with rfl | hz
   ·exact h1
   ·exact Yy h1 ((List.pairwise_cons.1 h2).1 z hz)
  ·rintro ⟨h1,h2⟩;exact ⟨h1 y (by simp),h2⟩
theorem cmp_ge (x y:DT):decide (0 <= V.UX x y) = !zJ x y:=by
 by_cases h:zJ x y = true
 ·have:=V.Zk.2 h;rw [h];simp;omega
 ·have h2:¬ V.UX x y < 0:=fun e=>h (V.Zk.1 e)
  simp only [Bool.not_eq_true] at h;rw [h];simp;omega
theorem QZ (l:List DT) (hl:l.length <= 1000000000000):Ze l = pure (ZF l):=by
 unfold Ze;have key:∀ (k i:Nat) (x:DT) (r:List DT),i + k = l.length -> l.drop i = r -> i ≠ 0 -> l[i - 1]? = some x -> loop (yr l) (i:Int) = pure (if ZF (x :: r) = true then .brk () else .ret false):=by
  intro k
  induction k with
  | zero=>
   intro i x r hi hr h1 hx;have:r = []:=by rw [<- hr];exact List.drop_eq_nil_of_le (by omega)
   subst this;exact zu (by
    unfold yr;have:decide ((i:Int) < (l.length:Int)) = false:=by simp;omega
    simp only [this,cond_false];rfl)
  | succ k ih=>
   intro i x r hi hr h1 hx;have hlt:i < l.length:=by omega
   have hr2:r = l[i] :: l.drop (i + 1):=by rw [<- hr];exact List.drop_eq_getElem_cons hlt
   have hy:=List.getElem?_eq_getElem hlt;have hi1:idx l (IntKind.i64.wrap ((i:Int) - 1)) = pure x:=by
    rw [Xh (by omega) (by omega)];exact Xd (by omega) (by rw [show ((i:Int) - 1).toNat = i - 1 by omega];exact hx)
   have hb:yr l (i:Int) = cond (!zJ x l[i]) (pure (.done (.ret false))) (pure (.next ((i + 1:Nat):Int))):=by
    unfold yr;have:decide ((i:Int) < (l.length:Int)) = true:=by simp;omega
    simp only [this,cond_true,hi1,zF hy,zA,V.vH,zB,cmp_ge,zh (show i < 9223372036854775807 by omega)]
   rw [hr2];show _ = (pure (if (zJ x l[i] && ZF (l[i] :: l.drop (i + 1))) = true then Ex.brk () else Ex.ret false):M (Ex Unit Bool))
   cases c:zJ x l[i] with
   | true=>
    rw [c] at hb;rw [yE hb,Bool.true_and];exact ih (i + 1) l[i] _ (by omega) rfl (by omega) hy
   | false=>
    rw [c] at hb;rw [zu hb];rfl
 cases l with
 | nil=>
  rw [zu (r:=.brk ()) (by unfold yr;rfl)];rfl
 | cons x r=>
  have:=key r.length 1 x r (by simp;omega) rfl (by decide) rfl;rw [show ((1:Nat):Int) = 1 from rfl] at this;rw [this,zA]
  cases ZF (x :: r) <;> rfl

open N (RS Ok Zt XV YJ OkB Sim)

end Go.Ep.M.D

namespace Go.Ep.M.E
open Go

theorem uG (s:ByteArray):(wc s).length = s.size:=by simp [wc]
def cidD (v:Int):DT:=⟨v / 281474976710656,v % 281474976710656⟩
theorem band48 {v:Int} (h0:0 <= v) (h:v <= 18446744073709551615):bAnd .u64 v 281474976710655 = v % 281474976710656:=by
 obtain ⟨n,rfl⟩:=Int.eq_ofNat_of_zero_le h0;unfold bAnd;have bv:∀ q:Nat,q < 18446744073709551616 -> (BitVec.ofInt IntKind.u64.bits (q:Int)).toNat = q:=fun q hq=>by
  show (BitVec.ofInt 64 (q:Int)).toNat = q;rw [BitVec.toNat_ofInt];omega
 have e:(281474976710655:Int) = ((281474976710655:Nat):Int):=rfl;rw [e,BitVec.toNat_and,bv n (by omega),bv _ (by decide)];have h2:n &&& 281474976710655 = n % 281474976710656:=Nat.and_two_pow_sub_one_eq_mod n 48;rw [h2,wU64 (by omega) (by omega)];omega
theorem Split_eq {v:Int} (h0:0 <= v) (h:v <= 18446744073709551615):uN v = pure ((cidD v).dev,(cidD v).n):=by
 unfold uN cidD;have e:(2 ^ 48:Int) = 281474976710656:=rfl;rw [band48 h0 h,Int.fdiv_eq_ediv_of_nonneg _ (by decide),e,wU16 (by omega) (by omega)]
theorem yEa {v:Int} (h0:0 <= v) (h:v <= 18446744073709551615):Yd v = pure ((cidD v).dev,(cidD v).n):=by
 unfold Yd cidD;rw [Int.tdiv_eq_ediv_of_nonneg h0,Int.tmod_eq_emod_of_nonneg h0,wU64 (by omega) (by omega),wU16 (by omega) (by omega)]
def VE (v:Int):Bool:=V.zr (cidD v)
theorem yFa {v:Int} (h0:0 <= v) (h:v <= 18446744073709551615):ZO v = pure (if VE v = true then cidD v else ⟨0,0⟩,VE v):=by
 unfold ZO;rw [Split_eq h0 h,zB,zA,V.YH,zB,zA];show cond (!VE v) _ _ = _
 cases VE v <;> rfl
theorem Qa {v:Int} (h0:0 <= v) (h:v <= 18446744073709551615):Zd v = pure (if VE v = true then cidD v else ⟨0,0⟩,VE v):=by
 unfold Zd;rw [yEa h0 h,zB,zA,V.vW,zB,zA];show cond (!VE v) _ _ = _
 cases VE v <;> rfl

def Ji (f:Int):Bool:=decide (1 <= f) && decide (f <= 5)
theorem Field_eq (f:Int):ZP f = pure (Ji f):=by unfold ZP Ji;rw [zX];rfl
theorem yGa (f:Int):Xy f = pure (Ji f):=by unfold Xy Ji;rw [zX];rfl
def okB (x:Int):Bool:=decide (32 <= x) && decide (x <= 126)
def Jj (s:ByteArray):Bool:=decide (s.size <= 60) && (wc s).all okB
theorem XX {α:Type} (l:List α) (p:α -> Bool):(l.zipIdx.all fun y=>p y.1) = l.all p:=by
 rw [Bool.eq_iff_iff,List.all_eq_true,List.all_eq_true]
 constructor
 ·intro h x hx;obtain ⟨i,hi⟩:=List.getElem?_of_mem hx;exact h (x,i) (by rw [List.mk_mem_zipIdx_iff_getElem?];exact hi)
 ·intro h y hy;exact h y.1 (List.fst_mem_of_mem_zipIdx hy)
theorem okB_eq (x:Int) (f:M Bool) (hf:f = pure (decide (126 < x))):(cond (decide (x < 32)) (pure true) f:M Bool) = pure (!okB x):=by
 rw [hf];unfold okB
 by_cases h1:x < 32
 ·have:¬ 32 <= x:=by omega
  simp [h1,this]
 ·have:32 <= x:=by omega
  by_cases h2:126 < x
  ·have:¬ x <= 126:=by omega
   simp [h1,h2,this]
  ·have:x <= 126:=by omega
   simp [h1,h2, *]
theorem yHa (s:ByteArray) (hs:s.size <= 1000000000000):loop (xL s) 0 = pure (if (wc s).all okB = true then Ex.brk () else Ex.ret false):=by
 have:=yk (body:=xL s) (wc s) (fun i=>(i:Int)) (fun _ x=>okB x) (Ex.brk ()) (Ex.ret false) (fun i x hx hi=>by
  have hd:decide ((i:Int) < (s.size:Int)) = true:=by rw [<- uG];simpa using hi
  have hi2:i < s.size:=by rw [<- uG];exact hi
  unfold xL;simp only [hd,cond_true,zF hx,zA,okB_eq x _ rfl,zh (show i < 9223372036854775807 by omega)]
  cases okB x <;> rfl) (by
  unfold xL;simp [uG])
 rw [show (0:Int) = ((0:Nat):Int) from rfl,this,XX]
theorem Qb (s:ByteArray) (hs:s.size <= 1000000000000):loop (vM s) 0 = pure (if (wc s).all okB = true then Ex.brk () else Ex.ret false):=by
 have:=yk (body:=vM s) (wc s) (fun i=>(i:Int)) (fun _ x=>okB x) (Ex.brk ()) (Ex.ret false) (fun i x hx hi=>by
  have hd:decide ((i:Int) < (s.size:Int)) = true:=by rw [<- uG];simpa using hi
  have hi2:i < s.size:=by rw [<- uG];exact hi
  unfold vM;simp only [hd,cond_true,zF hx,zA,okB_eq x _ rfl,zh (show i < 9223372036854775807 by omega)]
  cases okB x <;> rfl) (by
  unfold vM;simp [uG])
 rw [show (0:Int) = ((0:Nat):Int) from rfl,this,XX]
theorem Text_eq (s:ByteArray) (hs:s.size <= 1000000000000):ZQ s = pure (Jj s):=by
 unfold ZQ Jj;rw [yHa s hs]
 by_cases h:s.size <= 60
 ·have:decide ((60:Int) < (s.size:Int)) = false:=by simp;omega
  rw [this,cond_false,zA,decide_eq_true h,Bool.true_and]
  cases (wc s).all okB <;> rfl
 ·have:decide ((60:Int) < (s.size:Int)) = true:=by simp;omega
  rw [this,cond_true,decide_eq_false h,Bool.false_and]
theorem rText_eq (s:ByteArray) (hs:s.size <= 1000000000000):Xz s = pure (Jj s):=by
 unfold Xz Jj;rw [Qb s hs,zA]
 cases (wc s).all okB with
 | false=>rw [Bool.and_false];rfl
 | true=>
  rw [if_pos rfl,YB,Bool.and_true]
  congr 1
  by_cases h:s.size <= 60
  ·rw [decide_eq_true h];simp;omega
  ·rw [decide_eq_false h];simp;omega

structure OkE (e:EV):Prop where
 dot:D.OkD e.dot
 kind:0 <= e.kind /\ e.kind <= 255
 cid:0 <= e.cid /\ e.cid <= 18446744073709551615
 field:0 <= e.field /\ e.field <= 255
 text:e.text.size <= 1000000000
 kills:∀ d ∈ e.kills,D.OkD d
 klen:e.kills.length <= 1000000000
def yIa (s:ByteArray):Bool:=decide (s = ⟨#[]⟩)
def goodK (e:EV):Bool:=(decide (e.kind = 1) && (Ji e.field && Jj e.text)) || (decide (e.kind = 2) && (decide (e.field = 0) && yIa e.text))
def Jk (e:EV):Bool:=decide (e.kills.length <= 256) && (D.ZF e.kills && e.kills.all fun d=>V.zr d && !decide (d = e.dot))
def zy (e:EV):Bool:=(VE e.cid && V.zr e.dot) && (goodK e && Jk e)
theorem yJa (l:List DT) (hl:l.length <= 1000000000000):ZR l = pure (D.ZF l):=by
 unfold ZR;have key:∀ (k i:Nat) (x:DT) (r:List DT),i + k = l.length -> l.drop i = r -> i ≠ 0 -> l[i - 1]? = some x -> loop (yR l) (i:Int) = pure (if D.ZF (x :: r) = true then Ex.brk () else Ex.ret false):=by
  intro k
  induction k with
  | zero=>
   intro i x r hi hr h1 hx;have:r = []:=by rw [<- hr];exact List.drop_eq_nil_of_le (by omega)
   subst this;exact zu (by
    unfold yR;have:decide ((i:Int) < (l.length:Int)) = false:=by simp;omega
    simp only [this,cond_false];rfl)
  | succ k ih=>
   intro i x r hi hr h1 hx;have hlt:i < l.length:=by omega
   have hr2:r = l[i] :: l.drop (i + 1):=by rw [<- hr];exact List.drop_eq_getElem_cons hlt
   have hy:=List.getElem?_eq_getElem hlt;have hi1:idx l (IntKind.i64.wrap ((i:Int) - 1)) = pure x:=by
    rw [Xh (by omega) (by omega)];exact Xd (by omega) (by rw [show ((i:Int) - 1).toNat = i - 1 by omega];exact hx)
   have hb:yR l (i:Int) = cond (!zJ x l[i]) (pure (.done (.ret false))) (pure (.next ((i + 1:Nat):Int))):=by
    unfold yR;have h2:decide ((i:Int) < (l.length:Int)) = true:=by simp;omega
    have h3:decide ((0:Int) < (i:Int)) = true:=by simp;omega
    simp only [h2,h3,cond_true,hi1,zF hy,zA,D.Cmp_eq,zB,D.cmp_ge,zh (show i < 9223372036854775807 by omega)]
   rw [hr2];show _ = (pure (if (zJ x l[i] && D.ZF (l[i] :: l.drop (i + 1))) = true then Ex.brk () else Ex.ret false):M (Ex Unit Bool))
   cases c:zJ x l[i] with
   | true=>
    rw [c] at hb;rw [yE hb,Bool.true_and];exact ih (i + 1) l[i] _ (by omega) rfl (by omega) hy
   | false=>
    rw [c] at hb;rw [zu hb];rfl
 cases l with
 | nil=>
  rw [zu (r:=Ex.brk ()) (by unfold yR;rfl)];rfl
 | cons x r=>
  have h0:yR (x :: r) 0 = pure (.next 1):=by
   unfold yR;have h2:decide ((0:Int) < ((x :: r).length:Int)) = true:=decide_eq_true (by rw [List.length_cons];omega);simp only [h2,cond_true,show decide ((0:Int) < 0) = false from rfl,cond_false,zA];rw [Xh (by omega) (by omega)]
   rfl
  have:=key r.length 1 x r (by simp;omega) rfl (by decide) rfl;rw [show ((1:Nat):Int) = 1 from rfl] at this;rw [yE h0,this,zA]
  cases D.ZF (x :: r) <;> rfl
theorem Qc (e:EV) (hl:e.kills.length <= 1000000000000):loop (xM e) 0 = pure (if (e.kills.all fun d=>V.zr d && !decide (d = e.dot)) = true then Ex.brk () else Ex.ret false):=by
 have:=yk (body:=xM e) e.kills (fun i=>(i:Int)) (fun _ d=>V.zr d && !decide (d = e.dot)) (Ex.brk ()) (Ex.ret false) (fun i x hx hi=>by
  have hd:decide ((i:Int) < (e.kills.length:Int)) = true:=by simpa using hi
  unfold xM;simp only [hd,cond_true,zF hx,zA,V.YH,zB,D.QW,zh (show i < 9223372036854775807 by omega)]
  cases V.zr x <;> cases decide (x = e.dot) <;> rfl) (by
  unfold xM;simp)
 rw [show (0:Int) = ((0:Nat):Int) from rfl,this,XX e.kills fun d=>V.zr d && !decide (d = e.dot)]
theorem XY {e:EV} (h:OkE e):vw e = pure (zy e):=by
 have hk:=h.klen;have ht:=h.text;unfold vw zy;rw [yFa h.cid.1 h.cid.2,zB,zA,V.YH,zB,zA,Qc e (by omega),yJa e.kills (by omega),Field_eq,Text_eq e.text (by omega)];simp only []
 cases VE e.cid with
 | false=>rfl
 | true=>
  cases V.zr e.dot with
  | false=>rfl
  | true=>
   have hl:decide ((256:Int) < (e.kills.length:Int)) = !decide (e.kills.length <= 256):=by
    by_cases c:e.kills.length <= 256
    ·rw [decide_eq_true c];simp;omega
    ·rw [decide_eq_false c];simp;omega
   have tail:(cond (decide ((256:Int) < (e.kills.length:Int))) (pure true) ((det (pure (D.ZF e.kills))).bind fun v23=>pure (!v23))).bind (fun v21=>cond v21 (pure false) ((pure (if (e.kills.all fun d=>V.zr d && !decide (d = e.dot)) = true then Ex.brk () else Ex.ret false)).bind (exk fun _=>pure true))) = pure (Jk e):=by
    unfold Jk;rw [hl,zB,zA]
    cases decide (e.kills.length <= 256) with
    | false=>rfl
    | true=>
     cases D.ZF e.kills with
     | false=>rfl
     | true=>cases e.kills.all fun d=>V.zr d && !decide (d = e.dot) <;> rfl
   simp only [Bool.not_true,cond_false,zA,zB,Bool.true_and] at tail ⊢;unfold goodK yIa
   by_cases k1:e.kind = 1
   ·have k2:decide (e.kind = 2) = false:=by rw [k1];rfl
    rw [decide_eq_true k1,cond_true,k2,Bool.true_and,Bool.false_and,Bool.or_false]
    cases Ji e.field with
    | false=>rfl
    | true=>
     cases Jj e.text with
     | false=>rfl
     | true=>exact tail
   ·rw [decide_eq_false k1,cond_false,Bool.false_and,Bool.false_or]
    by_cases k2:e.kind = 2
    ·rw [decide_eq_true k2,cond_true,Bool.true_and]
     cases decide (e.field = 0) with
     | false=>rfl
     | true=>
      cases decide (e.text = (⟨#[]⟩:ByteArray)) with
      | false=>rfl
      | true=>exact tail
    ·rw [decide_eq_false k2];rfl
theorem vo (l:List DT) (d:DT) (hl:l.length <= 1000000000000):wI l d = pure (l.any fun x=>decide (x = d)):=by
 unfold wI;have:=yk (body:=Za l d) l (fun i=>(i:Int)) (fun _ x=>!decide (x = d)) (Ex.brk ()) (Ex.ret true) (fun i x hx hi=>by
  have hd:decide ((i:Int) < (l.length:Int)) = true:=by simpa using hi
  unfold Za;simp only [hd,cond_true,zF hx,zA,D.QW,zh (show i < 9223372036854775807 by omega)]
  cases decide (x = d) <;> rfl) (by
  unfold Za;simp)
 rw [show (0:Int) = ((0:Nat):Int) from rfl,this,zA,XX l fun x=>!decide (x = d)];have e:(l.any fun x=>decide (x = d)) = !(l.all fun x=>!decide (x = d)):=by simp [List.all_eq_not_any_not]
 rw [e]
 cases l.all fun x=>!decide (x = d) <;> rfl
theorem Qd (e:EV) (hl:e.kills.length <= 1000000000000):loop (vN e) 0 = pure (if e.kills.all V.zr = true then Ex.brk () else Ex.ret false):=by
 have:=yk (body:=vN e) e.kills (fun i=>(i:Int)) (fun _ d=>V.zr d) (Ex.brk ()) (Ex.ret false) (fun i x hx hi=>by
  have hd:decide ((i:Int) < (e.kills.length:Int)) = true:=by simpa using hi
  unfold vN;simp only [hd,cond_true,zF hx,zA,V.vW,zB,zh (show i < 9223372036854775807 by omega)]
  cases V.zr x <;> rfl) (by
  unfold vN;simp)
 rw [show (0:Int) = ((0:Nat):Int) from rfl,this,XX e.kills V.zr]
theorem XA {e:EV} (h:OkE e):Zf e = pure (zy e):=by
 have hk:=h.klen;have ht:=h.text;unfold Zf zy;rw [Qa h.cid.1 h.cid.2,zB,zA,V.vW,zB,zA,Qd e (by omega),D.QZ e.kills (by omega),yGa,rText_eq e.text (by omega),vo e.kills e.dot (by omega)];simp only []
 cases VE e.cid with
 | false=>rfl
 | true=>
  cases V.zr e.dot with
  | false=>rfl
  | true=>
   have hl:decide ((e.kills.length:Int) <= 256) = decide (e.kills.length <= 256):=by
    by_cases c:e.kills.length <= 256
    ·rw [decide_eq_true c];simp;omega
    ·rw [decide_eq_false c];simp;omega
   have hall:(e.kills.all fun d=>V.zr d && !decide (d = e.dot)) = (e.kills.all V.zr && !(e.kills.any fun x=>decide (x = e.dot))):=by
    rw [Bool.eq_iff_iff,Bool.and_eq_true,List.all_eq_true,List.all_eq_true,Bool.not_eq_true',List.any_eq_false]
    constructor
    ·intro h;exact ⟨fun x hx=>by have:=h x hx;rw [Bool.and_eq_true] at this;exact this.1,fun x hx=>by have:=h x hx;rw [Bool.and_eq_true] at this;simpa using this.2⟩
    ·rintro ⟨h1,h2⟩ x hx;rw [Bool.and_eq_true];exact ⟨h1 x hx,by simpa using h2 x hx⟩
   have tail:((pure (if e.kills.all V.zr = true then Ex.brk () else Ex.ret false):M (Ex Unit Bool)).bind (exk fun _=>(cond (decide ((e.kills.length:Int) <= 256)) ((det (pure (D.ZF e.kills))).bind fun v46=>cond v46 ((det (pure (e.kills.any fun x=>decide (x = e.dot)))).bind fun v49=>pure (!v49)) (pure false)) (pure false)).bind fun v44=>pure v44)) = pure (Jk e):=by
    unfold Jk;rw [hl,hall];simp only [zB,zA]
    cases e.kills.all V.zr with
    | false=>cases decide (e.kills.length <= 256) <;> cases D.ZF e.kills <;> rfl
    | true=>cases decide (e.kills.length <= 256) <;> cases D.ZF e.kills <;> cases e.kills.any fun x=>decide (x = e.dot) <;> rfl
   simp only [Bool.not_true,cond_false,zA,zB,Bool.true_and] at tail ⊢;unfold goodK yIa
   by_cases k1:e.kind = 1
   ·have k2:decide (e.kind = 2) = false:=by rw [k1];rfl
    rw [decide_eq_true k1,k2];simp only [Bool.not_true,cond_false,cond_true,zA,Bool.true_and,Bool.false_and,Bool.or_false]
    cases Ji e.field with
    | false=>rfl
    | true=>
     cases Jj e.text with
     | false=>rfl
     | true=>exact tail
   ·rw [decide_eq_false k1];simp only [Bool.not_false,cond_true,zA,Bool.false_and,Bool.false_or]
    by_cases k2:e.kind = 2
    ·rw [decide_eq_true k2];simp only [Bool.not_true,cond_false,cond_true,Bool.true_and]
     cases decide (e.field = 0) with
     | false=>rfl
     | true=>
      cases decide (e.text = (⟨#[]⟩:ByteArray)) with
      | false=>rfl
      | true=>exact tail
    ·rw [decide_eq_false k2];rfl


def fewE (l:List EV) (most:Nat):Bool:=decide (l.length <= most) && l.all fun e=>decide (e.kills.length <= 300) && decide (e.text.size <= 200)
theorem rFew_eq (l:List EV) (most:Nat) (hm:most <= 1000000):UE l (most:Int) = pure (fewE l most):=by
 unfold UE fewE
 by_cases h:l.length <= most
 ·have hd:decide ((most:Int) < (l.length:Int)) = false:=by simp;omega
  have:=yk (body:=ZM l) l (fun i=>(i:Int)) (fun _ e=>decide (e.kills.length <= 300) && decide (e.text.size <= 200)) (Ex.brk ()) (Ex.ret false) (fun i x hx hi=>by
   have hd:decide ((i:Int) < (l.length:Int)) = true:=by simpa using hi
   unfold ZM;simp only [hd,cond_true,zF hx,zA,zh (show i < 9223372036854775807 by omega)]
   by_cases c:x.kills.length <= 300
   ·have h1:decide ((300:Int) < (x.kills.length:Int)) = false:=by simp;omega
    rw [h1,cond_false,decide_eq_true c,Bool.true_and,zA]
    by_cases c2:x.text.size <= 200
    ·have h2:decide ((200:Int) < (x.text.size:Int)) = false:=by simp;omega
     rw [h2,decide_eq_true c2];rfl
    ·have h2:decide ((200:Int) < (x.text.size:Int)) = true:=by simp;omega
     rw [h2,decide_eq_false c2];rfl
   ·have h1:decide ((300:Int) < (x.kills.length:Int)) = true:=by simp;omega
    rw [h1,cond_true,decide_eq_false c,Bool.false_and];rfl) (by
   unfold ZM;simp)
  rw [hd,cond_false,decide_eq_true h,Bool.true_and,show (0:Int) = ((0:Nat):Int) from rfl,this,zA,XX l fun e=>decide (e.kills.length <= 300) && decide (e.text.size <= 200)]
  cases l.all fun e=>decide (e.kills.length <= 300) && decide (e.text.size <= 200) <;> rfl
 ·have hd:decide ((most:Int) < (l.length:Int)) = true:=by simp;omega
  rw [hd,cond_true,decide_eq_false h,Bool.false_and]
theorem few_mem {l:List EV} {most:Nat} (h:fewE l most = true):l.length <= most /\ ∀ e ∈ l,e.kills.length <= 300 /\ e.text.size <= 200:=by
 unfold fewE at h;rw [Bool.and_eq_true,List.all_eq_true] at h;exact ⟨by simpa using h.1,fun e he=>by simpa using h.2 e he⟩
theorem rSame_eq (a b:EV) (h:a.kills.length <= 1000000000000):Xx a b = pure (decide (a = b)):=by
 unfold Xx;rw [D.QW,V.JV a.kills b.kills h,zB,zA];have e:decide (a = b) = (decide (a.dot = b.dot) && (decide (a.kind = b.kind) && (decide (a.cid = b.cid) && (decide (a.field = b.field) && (decide (a.text = b.text) && decide (a.kills = b.kills)))))):=by
  cases a;cases b;simp only [EV.mk.injEq,Bool.decide_and]
 rw [e]
 cases decide (a.dot = b.dot) <;> cases decide (a.kind = b.kind) <;> cases decide (a.cid = b.cid) <;> cases decide (a.field = b.field) <;> cases decide (a.text = b.text) <;> rfl
theorem rAll_eq (a b:List EV) (ha:a.length <= 1000000000000) (hk:∀ e ∈ a,e.kills.length <= 1000000000000):Wc a b = pure (decide (a = b)):=by
 unfold Wc
 by_cases hlen:a.length = b.length
 ·have h1:decide ((a.length:Int) = (b.length:Int)) = true:=by simp [hlen]
  rw [h1,Bool.not_true,cond_false];have:=yk (body:=Zc a b) a (fun i=>(i:Int)) (fun i x=>decide (b[i]? = some x)) (Ex.brk ()) (Ex.ret false) (fun i x hx hi=>by
   have hd:decide ((i:Int) < (a.length:Int)) = true:=by simpa using hi
   obtain ⟨y,hy⟩:∃ y,b[i]? = some y:=⟨_,List.getElem?_eq_getElem (by omega)⟩
   unfold Zc;simp only [hd,cond_true,zF hx,zF hy,zA,rSame_eq x y (hk x (List.mem_of_getElem? hx)),zB,zh (show i < 9223372036854775807 by omega),hy]
   by_cases c:x = y
   ·subst c;simp
   ·have:¬ some y = some x:=fun e=>c (Option.some.inj e).symm
    simp [c,this]) (by
   unfold Zc;simp)
  rw [show (0:Int) = ((0:Nat):Int) from rfl,this,zA];have e:(a.zipIdx.all fun y=>decide (b[y.2]? = some y.1)) = decide (a = b):=by
   rw [Bool.eq_iff_iff,List.all_eq_true,decide_eq_true_eq]
   constructor
   ·intro h;apply List.ext_getElem?;intro i
    by_cases hi:i < a.length
    ·have:=h (a[i],i) (by rw [List.mk_mem_zipIdx_iff_getElem?];exact List.getElem?_eq_getElem hi);simp only [decide_eq_true_eq] at this;rw [this,List.getElem?_eq_getElem hi]
    ·rw [List.getElem?_eq_none (by omega),List.getElem?_eq_none (by omega)]
   ·intro h y hy;subst h;rw [List.mem_zipIdx_iff_getElem?] at hy;simpa using hy
  rw [e]
  cases decide (a = b) <;> rfl
 ·have h1:decide ((a.length:Int) = (b.length:Int)) = false:=by simp;omega
  have h2:decide (a = b) = false:=decide_eq_false fun e=>hlen (by rw [e])
  rw [h1,Bool.not_false,cond_true,h2]

open N (RS Ok Zt XV QV textS YJ OkB Sim)
open D (bad4 fin)

def s1 (s:RS):RS:=(D.dotS s).2
def s2 (s:RS):RS:=(QV (s1 s)).2
def s3 (s:RS):RS:=(Zt (s2 s)).2
def s4 (s:RS):RS:=(QV (s3 s)).2
def s5 (s:RS):RS:=(textS 60 (s4 s)).2
def s6 (s:RS):RS:=(D.dotsS 256 (s5 s)).2
def getE (s:RS):EV:=⟨(D.dotS s).1,(QV (s1 s)).1,(Zt (s2 s)).1,(QV (s3 s)).1,(textS 60 (s4 s)).1,(D.dotsS 256 (s5 s)).1⟩
def noE : EV:=⟨⟨0,0⟩,0,0,0,⟨#[]⟩,[]⟩
def getT (s:RS):RS:=bad4 (!zy (getE s)) (s6 s)
def xY (s:RS):EV × RS:=fin noE (getE s) (getT s)
variable {B:List Int} {a:Int} {s:RS}
open N (RS Ok Zt XV QV textS YJ OkB Sim)
open D (bad4 fin)

variable {B:List Int} {a:Int} {s:RS}
abbrev yx (l:List EV):Prop:=l.Pairwise fun x y=>zJ x.dot y.dot = true
theorem Ur (e:EV) (h:e.kills.length <= 1000000000000):yP e = pure e:=by
 unfold yP;rw [D.Uo _ h,zB,zA]
end Go.Ep.M.E

namespace Go.Ep.M.F
open Go
open E (OkE zy)

def xH (l:List DT) (d:DT):Bool:=l.any fun x=>decide (x = d)
def Zu (l:List EV) (d:DT):Bool:=l.any fun e=>xH e.kills d
def zm (l:List EV):List DT:=l.flatMap fun e=>e.dot :: e.kills
def zn (l:List EV):List DT:=D.vp (zm l)
theorem vB (l:List EV) (k:Nat) (h:∀ e ∈ l,e.kills.length <= k):(zm l).length <= l.length * (k + 1):=by
 induction l with
 | nil=>simp [zm]
 | cons e r ih=>
  have h1:=ih fun x hx=>h x (by simp [hx])
  have h2:=h e (by simp);have e1:(zm (e :: r)).length = e.kills.length + 1 + (zm r).length:=by simp [zm];omega
  rw [e1,List.length_cons,Nat.add_mul];omega
theorem VF {l:List EV} {i:Nat} {x:EV} (h:l[i]? = some x):zm (l.take (i + 1)) = zm (l.take i) ++ x.dot :: x.kills:=by
 rw [List.take_add_one,h];simp [zm]
theorem jh (l:List EV) (i:Nat):(zm (l.take i)).length <= (zm l).length:=by
 have:zm l = zm (l.take i) ++ zm (l.drop i):=by unfold zm;rw [<- List.flatMap_append,List.take_append_drop]
 rw [this,List.length_append];omega
theorem Us (l:List EV) (hl:l.length <= 1000000000) (hs:(zm l).length <= 1000000000):vF l = pure (zn l):=by
 unfold vF;have key:∀ (k i:Nat),i + k = l.length -> loop (wi l) ((i:Int),zm (l.take i)) = pure (zm l):=by
  intro k
  induction k with
  | zero=>
   intro i hi;refine zu ?_;unfold wi;have:decide ((i:Int) < (l.length:Int)) = false:=by simp;omega
   simp only [this,cond_false];rw [List.take_of_length_le (by omega)]
  | succ k ih=>
   intro i hi;obtain ⟨x,hx⟩:∃ x,l[i]? = some x:=⟨_,List.getElem?_eq_getElem (by omega)⟩
   have hd:decide ((i:Int) < (l.length:Int)) = true:=by simp;omega
   have h1:=jh l (i + 1);rw [VF hx,List.length_append,List.length_cons] at h1;rw [yE (s':=(((i + 1:Nat):Int),zm (l.take (i + 1)))) ?_]
   ·exact ih (i + 1) (by omega)
   ·unfold wi;simp only [hd,cond_true,zF hx,zA,zh (show i < 9223372036854775807 by omega)];rw [zE (by simp;omega),zE (by simp;omega),VF hx,List.append_assoc];rfl
 have:=key l.length 0 (by omega);rw [show zm (l.take 0) = [] from rfl] at this;rw [show (0:Int) = ((0:Nat):Int) from rfl,this,zA,D.Sort_eq _ (by omega),zB,zA,zn]
theorem rdots_in (l:List EV) {i:Nat} {x:EV} (hx:l[i]? = some x) (hk:x.kills.length <= 1000000000) (s:List DT) (hs:s.length <= 1000000000):loop (vV l (i:Int)) (s,0) = pure (x.kills.foldl D.Um s):=by
 have:=uX (body:=vV l (i:Int)) x.kills (fun k t=>(t,(k:Int))) D.Um (fun t=>pure t) (fun k t=>t.length <= 1000000000 + k) (fun k d t hd hi hI=>by
  have hc:decide ((k:Int) < (x.kills.length:Int)) = true:=by simpa using hi
  refine ⟨?_,by have:=D.Je t d;omega⟩;unfold vV;simp only [zF hx,zA,hc,cond_true,zF hd,D.Jg t d (by omega),zB,zh (show k < 9223372036854775807 by omega)]) (fun t _=>by
  unfold vV;simp [zF hx,zA]) s (by omega)
 exact this
theorem Ut (l:List EV) (hl:l.length <= 1000000) (hk:∀ e ∈ l,e.kills.length <= 300):Yo l = pure (zn l):=by
 unfold Yo;have key:∀ (k i:Nat),i + k = l.length -> loop (uY l) (D.vp (zm (l.take i)),(i:Int)) = pure (zn l):=by
  intro k
  induction k with
  | zero=>
   intro i hi;refine zu ?_;unfold uY;have:decide ((i:Int) < (l.length:Int)) = false:=by simp;omega
   simp only [this,cond_false];rw [List.take_of_length_le (by omega)];rfl
  | succ k ih=>
   intro i hi;obtain ⟨x,hx⟩:∃ x,l[i]? = some x:=⟨_,List.getElem?_eq_getElem (by omega)⟩
   have hd:decide ((i:Int) < (l.length:Int)) = true:=by simp;omega
   have h1:=jh l i;have h2:=vB l 300 hk;have h3:=D.Un (zm (l.take i));have h4:=D.Je (D.vp (zm (l.take i))) x.dot;have h5:=hk x (List.mem_of_getElem? hx);rw [yE (s':=(D.vp (zm (l.take (i + 1))),((i + 1:Nat):Int))) ?_]
   ·exact ih (i + 1) (by omega)
   ·unfold uY;simp only [hd,cond_true,zF hx,zA,D.Jg _ x.dot (show (D.vp (zm (l.take i))).length <= 1000000000000 by omega),zB,rdots_in l hx (show x.kills.length <= 1000000000 by omega) _ (show (D.Um (D.vp (zm (l.take i))) x.dot).length <= 1000000000 by omega),zh (show i < 9223372036854775807 by omega)];rw [VF hx];unfold D.vp;rw [List.foldl_append];rfl
 have:=key l.length 0 (by omega);rw [show D.vp (zm (l.take 0)) = [] from rfl] at this;rw [show (0:Int) = ((0:Nat):Int) from rfl,this,zA]

open E (OkE zy)

end Go.Ep.M.F


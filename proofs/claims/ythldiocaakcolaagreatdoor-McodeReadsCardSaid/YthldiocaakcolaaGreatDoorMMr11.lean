/- Side texts. -/
import Derived.Test.YthldiocaakcolaaGreatDoorMMr3
import Derived.Test.YthldiocaakcolaaGreatDoorMMr10
set_option linter.unusedVariables false
set_option linter.unusedSimpArgs false
namespace Go.Ep.M.C
open Go

def yU (c:List PT) (k:Int):List RN:=(c.filter fun p=>decide (p.dev = k) && decide (0 < k)).flatMap (·.runs)
theorem Vs (k:Int):yU [] k = []:=rfl
theorem uF (p:PT) (c:List PT) (k:Int):yU (p :: c) k = (if p.dev = k /\ 0 < k then p.runs else []) ++ yU c k:=by
 unfold yU;rw [List.filter_cons]
 by_cases h:p.dev = k /\ 0 < k
 ·simp [h.1,h.2]
 ·rw [if_neg (by simpa using h),if_neg h];rfl
theorem Vt (a b:List PT) (k:Int):yU (a ++ b) k = yU a k ++ yU b k:=by simp [yU,List.filter_append]
theorem Vu {c:List PT} {k:Int} (h:¬ 0 < k):yU c k = []:=by simp [yU,h]
def wV (c:List PT) (k n:Int):Bool:=R.yM (yU c k) n
theorem hasC_app (a b:List PT) (k n:Int):wV (a ++ b) k n = (wV a k n || wV b k n):=by simp [wV,Vt,R.uh]
def yf (c:List PT):Nat:=(c.map fun p=>p.runs.length).sum
theorem zEa (a b:List PT):yf (a ++ b) = yf a + yf b:=by simp [yf]
theorem xt (c:List PT) (k:Int):(yU c k).length <= yf c:=by
 induction c with
 | nil=>simp [yU]
 | cons p r ih=>
  rw [uF,List.length_append];have:yf (p :: r) = p.runs.length + yf r:=by simp [yf]
  split
  ·omega
  ·simp;omega
theorem zFa (ks:List Int):(ks.map fun _=>0).sum = 0:=by
 induction ks with
 | nil=>rfl
 | cons k r ih=>rw [List.map_cons,List.sum_cons,ih]
theorem rawC_sum (c:List PT) (ks:List Int) (h:ks.Nodup):(ks.map fun k=>(yU c k).length).sum <= yf c:=by
 induction c with
 | nil=>simp only [Vs,List.length_nil,zFa];exact Nat.zero_le _
 | cons p r ih=>
  have e:yf (p :: r) = p.runs.length + yf r:=by simp [yf]
  have h1:(ks.map fun k=>(yU (p :: r) k).length).sum = (ks.map fun k=>if p.dev = k /\ 0 < k then p.runs.length else 0).sum + (ks.map fun k=>(yU r k).length).sum:=by
   clear h ih
   induction ks with
   | nil=>rfl
   | cons k ks ih2=>
    simp only [List.map_cons,List.sum_cons,uF,List.length_append] at ih2 ⊢
    by_cases hc:p.dev = k /\ 0 < k
    ·rw [if_pos hc,if_pos hc];omega
    ·rw [if_neg hc,if_neg hc,List.length_nil];omega
  have h2:(ks.map fun k=>if p.dev = k /\ 0 < k then p.runs.length else 0).sum <= p.runs.length:=by
   clear ih h1 e
   induction ks with
   | nil=>simp
   | cons k ks ih2=>
    obtain ⟨n1,n2⟩:=List.nodup_cons.1 h;simp only [List.map_cons,List.sum_cons]
    by_cases hk:p.dev = k
    ·have h0:(ks.map fun k=>if p.dev = k /\ 0 < k then p.runs.length else 0).sum = 0:=by
      have:(ks.map fun k=>if p.dev = k /\ 0 < k then p.runs.length else 0) = ks.map fun _=>0:=by
       refine List.map_congr_left fun q hq=>?_
       rw [if_neg];rintro ⟨e,_⟩;exact n1 (by rw [<- hk,e];exact hq)
      rw [this];exact zFa ks
     rw [h0]
     split <;> omega
    ·rw [if_neg (fun h=>hk h.1)];have:=ih2 n2;omega
  omega

def OrdP (l:List PT):Prop:=l.Pairwise fun x y=>x.dev < y.dev
theorem jT : ∀ {l l':List PT},OrdP l -> OrdP l' -> (∀ d,d ∈ l ↔ d ∈ l') -> l = l'
 | [],[],_,_,_=>rfl
 | [],y :: r,_,_,h=>absurd ((h y).2 (by simp)) (by simp)
 | x :: r,[],_,_,h=>absurd ((h x).1 (by simp)) (by simp)
 | x :: r,y :: q,h1,h2,h=>by
  obtain ⟨a1,a2⟩:=List.pairwise_cons.1 h1;obtain ⟨b1,b2⟩:=List.pairwise_cons.1 h2;have e:x = y:=by
   rcases List.mem_cons.1 ((h x).1 (by simp)) with e | hx
   ·exact e
   ·rcases List.mem_cons.1 ((h y).2 (by simp)) with e | hy
    ·exact e.symm
    ·have:=a1 y hy;have:=b1 x hx;omega
  subst e
  congr 1
  refine jT a2 b2 fun d=>⟨fun hd=>?_,fun hd=>?_⟩
  ·rcases List.mem_cons.1 ((h d).1 (List.mem_cons_of_mem _ hd)) with e | hx
   ·subst e;have:=a1 d hd;omega
   ·exact hx
  ·rcases List.mem_cons.1 ((h d).2 (List.mem_cons_of_mem _ hd)) with e | hx
   ·subst e;have:=b1 d hd;omega
   ·exact hx
def yP (f:Int -> List RN) (ks:List Int):List PT:=ks.filterMap fun k=>if f k = [] then none else some ⟨k,f k⟩
theorem vb {f:Int -> List RN} {ks:List Int} {p:PT}:p ∈ yP f ks ↔ p.dev ∈ ks /\ p.runs ≠ [] /\ p.runs = f p.dev:=by
 unfold yP;rw [List.mem_filterMap]
 constructor
 ·rintro ⟨k,hk,h⟩
  split at h
  ·cases h
  ·rename_i h0;cases h;exact ⟨hk,h0,rfl⟩
 ·rintro ⟨h1,h2,h3⟩;refine ⟨p.dev,h1,?_⟩;rw [if_neg (by rw [<- h3];exact h2),<- h3]
theorem vc {f:Int -> List RN} {ks:List Int} (h:ks.Pairwise (· < ·)):OrdP (yP f ks):=by
 unfold OrdP yP;rw [List.pairwise_filterMap];refine h.imp fun {a b} hab x hx y hy=>?_
 split at hx
 ·cases hx
 ·split at hy
  ·cases hy
  ·cases hx;cases hy;exact hab
theorem JU {f g:Int -> List RN} {ks ls:List Int} (h1:ks.Pairwise (· < ·)) (h2:ls.Pairwise (· < ·)) (hf:∀ k,f k = g k) (h:∀ k,f k ≠ [] -> (k ∈ ks ↔ k ∈ ls)):yP f ks = yP g ls:=by
 refine jT (vc h1) (vc h2) fun p=>?_
 rw [vb,vb]
 constructor
 ·rintro ⟨a,b,c⟩;exact ⟨(h _ (by rw [<- c];exact b)).1 a,b,by rw [c,hf]⟩
 ·rintro ⟨a,b,c⟩;exact ⟨(h _ (by rw [hf,<- c];exact b)).2 a,b,by rw [c,hf]⟩
theorem xba (f:Int -> List RN) (ks:List Int):(yP f ks).length <= ks.length:=List.length_filterMap_le _ _
theorem xca (f:Int -> List RN) (ks:List Int):yf (yP f ks) = (ks.map fun k=>(f k).length).sum:=by
 induction ks with
 | nil=>rfl
 | cons k ks ih=>
  have:yP f (k :: ks) = (if f k = [] then [] else [⟨k,f k⟩]) ++ yP f ks:=by
   unfold yP
   by_cases h:f k = [] <;> simp [h]
  rw [this,zEa,ih]
  by_cases h:f k = [] <;> simp [h,yf]
theorem JV {f:Int -> List RN} {ks:List Int} (h:ks.Nodup) (k:Int):yU (yP f ks) k = if k ∈ ks /\ 0 < k then f k else []:=by
 induction ks with
 | nil=>simp [yP,yU]
 | cons q ks ih=>
  obtain ⟨n1,n2⟩:=List.nodup_cons.1 h;have e:yP f (q :: ks) = (if f q = [] then [] else [⟨q,f q⟩]) ++ yP f ks:=by
   unfold yP
   by_cases h:f q = [] <;> simp [h]
  rw [e,Vt,ih n2]
  by_cases hq:q = k
  ·subst hq;rw [if_neg (fun (h:q ∈ ks /\ 0 < q)=>n1 h.1),List.append_nil]
   by_cases h0:f q = []
   ·rw [if_pos h0,h0];simp [yU]
   ·rw [if_neg h0]
    by_cases hp:0 < q
    ·rw [if_pos ⟨List.mem_cons_self,hp⟩];simp [yU,hp]
    ·rw [if_neg (fun h=>hp h.2)];exact Vu hp
  ·have:yU (if f q = [] then [] else [(⟨q,f q⟩:PT)]) k = []:=by
    by_cases h0:f q = [] <;> simp [h0,yU,hq]
   rw [this];have hm:(k ∈ q :: ks) ↔ k ∈ ks:=by simp [Ne.symm hq]
   simp only [hm,List.nil_append]

def yMa (l:List Int) (p:PT):List Int:=if 0 < p.dev then V.Ju l p.dev else l
def Vv (c:List PT):List Int:=c.foldl yMa []
theorem Vn (c:List PT):∀ l:List Int,l.Pairwise (· < ·) -> (c.foldl yMa l).Pairwise (· < ·) /\ (∀ k,k ∈ c.foldl yMa l ↔ k ∈ l \/ ∃ p ∈ c,p.dev = k /\ 0 < k) /\ (c.foldl yMa l).length <= l.length + c.length:=by
 induction c with
 | nil=>intro l h;simp [h]
 | cons p r ih=>
  intro l h;rw [List.foldl_cons]
  by_cases hp:0 < p.dev
  ·have e:yMa l p = V.Ju l p.dev:=by simp [yMa,hp]
   rw [e];obtain ⟨h1,h2,h3⟩:=ih _ (V.ZM h p.dev);refine ⟨h1,fun k=>?_,by have:=V.Vm l p.dev;simp;omega⟩;rw [h2,V.jS]
   constructor
   ·rintro ((rfl | h4) | ⟨x,h4,h5⟩)
    ·exact .inr ⟨p,by simp,rfl,hp⟩
    ·exact .inl h4
    ·exact .inr ⟨x,by simp [h4],h5⟩
   ·rintro (h4 | ⟨x,h4,h5,h6⟩)
    ·exact .inl (.inr h4)
    ·rcases List.mem_cons.1 h4 with rfl | h4
     ·exact .inl (.inl h5.symm)
     ·exact .inr ⟨x,h4,h5,h6⟩
  ·have e:yMa l p = l:=by simp [yMa,hp]
   rw [e];obtain ⟨h1,h2,h3⟩:=ih _ h;refine ⟨h1,fun k=>?_,by simp;omega⟩;rw [h2]
   constructor
   ·rintro (h4 | ⟨x,h4,h5⟩)
    ·exact .inl h4
    ·exact .inr ⟨x,by simp [h4],h5⟩
   ·rintro (h4 | ⟨x,h4,h5,h6⟩)
    ·exact .inl h4
    ·rcases List.mem_cons.1 h4 with rfl | h4
     ·rw [h5] at hp;exact absurd h6 hp
     ·exact .inr ⟨x,h4,h5,h6⟩
theorem wv (c:List PT):(Vv c).Pairwise (· < ·):=(Vn c [] List.Pairwise.nil).1
theorem yNa {l:List Int} (h:l.Pairwise (· < ·)):l.Nodup:=h.imp fun {a b} h e=>by omega
theorem Ua (c:List PT):(Vv c).Nodup:=yNa (wv c)
theorem wg {c:List PT} {k:Int}:k ∈ Vv c ↔ (∃ p ∈ c,p.dev = k) /\ 0 < k:=by
 have:=(Vn c [] List.Pairwise.nil).2.1 k;unfold Vv;rw [this];simp only [List.not_mem_nil,false_or]
 constructor
 ·rintro ⟨p,h1,h2,h3⟩;exact ⟨⟨p,h1,h2⟩,h3⟩
 ·rintro ⟨⟨p,h1,h2⟩,h3⟩;exact ⟨p,h1,h2,h3⟩
theorem len_devs (c:List PT):(Vv c).length <= c.length:=by simpa [Vv] using (Vn c [] List.Pairwise.nil).2.2
theorem Zh {c:List PT} {k:Int} (h:yU c k ≠ []):k ∈ Vv c:=by
 rw [wg];refine Classical.byContradiction fun hn=>h ?_
 unfold yU;have:(c.filter fun p=>decide (p.dev = k) && decide (0 < k)) = []:=by
  rw [List.filter_eq_nil_iff];intro p hp;simp only [Bool.and_eq_true,decide_eq_true_eq];rintro ⟨h1,h2⟩;exact hn ⟨⟨p,hp,h1⟩,h2⟩
 rw [this];rfl

def opC (op:Bool -> Bool -> Bool) (a b:List PT):List PT:=yP (fun k=>R.Zl op (yU a k) (yU b k)) (Vv (a ++ b))
def yC (c:List PT):List PT:=yP (fun k=>R.nrm (yU c k)) (Vv c)
theorem wZa {op:Bool -> Bool -> Bool} (h0:op false false = false):R.Zl op [] [] = []:=by
 have:=R.zq op h0 [] [];exact R.Vo this.1 trivial fun n=>by rw [this.2.1];exact h0
theorem Ub : R.nrm [] = []:=wZa rfl
theorem xda {op:Bool -> Bool -> Bool} (h0:op false false = false) (a b:List PT) (k n:Int):wV (opC op a b) k n = op (wV a k n) (wV b k n):=by
 unfold wV opC;rw [JV (Ua _)]
 split
 ·rw [(R.zq op h0 _ _).2.1]
 ·rename_i h
  have e:yU a k = [] /\ yU b k = []:=by
   have h1:yU (a ++ b) k = []:=Classical.byContradiction fun h2=>h ⟨Zh h2,(wg.1 (Zh h2)).2⟩
   rw [Vt] at h1;simpa using h1
  rw [e.1,e.2];show R.yM [] n = _;simp [R.yM,h0]
theorem YK (c:List PT) (k n:Int):wV (yC c) k n = wV c k n:=by
 unfold wV yC;rw [JV (Ua _)]
 split
 ·rw [R.wq]
 ·rename_i h
  have e:yU c k = []:=Classical.byContradiction fun h2=>h ⟨Zh h2,(wg.1 (Zh h2)).2⟩
  rw [e]
structure Canon (c:List PT):Prop where
 ord:OrdP c
 nf:∀ p ∈ c,0 < p.dev /\ p.runs ≠ [] /\ R.Nf p.runs
theorem JW {f:Int -> List RN} {c:List PT} (h:∀ k,R.Nf (f k)):Canon (yP f (Vv c)):=⟨vc (wv c),fun p hp=>by
 obtain ⟨h1,h2,h3⟩:=vb.1 hp;exact ⟨(wg.1 h1).2,h2,by rw [h3];exact h _⟩⟩
theorem waa {op:Bool -> Bool -> Bool} (h0:op false false = false) (a b:List PT):Canon (opC op a b):=JW fun _=>(R.zq op h0 _ _).1
theorem YL (c:List PT):Canon (yC c):=JW fun _=>R.YJ _
theorem zGa : ∀ {c:List PT},OrdP c -> ∀ p ∈ c,0 < p.dev -> yU c p.dev = p.runs
 | [],_,p,hp,_=>by simp at hp
 | q :: r,h,p,hp,h0=>by
  obtain ⟨h1,h2⟩:=List.pairwise_cons.1 h;rw [uF];rcases List.mem_cons.1 hp with rfl | hp
  ·rw [if_pos ⟨rfl,h0⟩];have:yU r p.dev = []:=by
    unfold yU;have:(r.filter fun x=>decide (x.dev = p.dev) && decide (0 < p.dev)) = []:=by
     rw [List.filter_eq_nil_iff];intro x hx;have:=h1 x hx;simp;omega
    rw [this];rfl
   rw [this,List.append_nil]
  ·have:=h1 p hp;rw [if_neg (by omega),zGa h2 p hp h0];rfl
theorem Canon.eq_norm {c:List PT} (h:Canon c):c = yC c:=by
 refine jT h.ord (YL c).ord fun p=>?_
 unfold yC;rw [vb]
 constructor
 ·intro hp;obtain ⟨h1,h2,h3⟩:=h.nf p hp;exact ⟨wg.2 ⟨⟨p,hp,rfl⟩,h1⟩,h2,by rw [zGa h.ord p hp h1,R.zBa h3]⟩
 ·rintro ⟨h1,h2,h3⟩;obtain ⟨⟨q,hq,hd⟩,h0⟩:=wg.1 h1;obtain ⟨g1,g2,g3⟩:=h.nf q hq;have e:yU c p.dev = q.runs:=by rw [<- hd];exact zGa h.ord q hq g1
  rw [e,R.zBa g3] at h3;have:p = q:=by cases p;cases q;simp_all
  rw [this];exact hq
theorem yOa {a b:List PT} (h:∀ k n,wV a k n = wV b k n):yC a = yC b:=by
 have hf:∀ k,R.nrm (yU a k) = R.nrm (yU b k):=fun k=>R.Vo (R.YJ _) (R.YJ _) fun n=>by rw [R.wq,R.wq];exact h k n
 refine JU (wv a) (wv b) hf fun k hk=>?_
 have ha:yU a k ≠ []:=fun e=>hk (by rw [e];exact Ub)
 have hb:yU b k ≠ []:=fun e=>hk (by rw [hf,e];exact Ub)
 exact ⟨fun _=>Zh hb,fun _=>Zh ha⟩
theorem Canon.ext {a b:List PT} (ha:Canon a) (hb:Canon b) (h:∀ k n,wV a k n = wV b k n):a = b:=by rw [ha.eq_norm,hb.eq_norm];exact yOa h
theorem qj {c:List PT} (h:Canon c):yC c = c:=h.eq_norm.symm
theorem norm_or (a b:List PT):yC (a ++ b) = opC (· || ·) a b:=(YL _).ext (waa rfl a b) fun k n=>by rw [YK,hasC_app,xda rfl]
theorem yPa : Canon []:=⟨List.Pairwise.nil,fun p h=>by simp at h⟩
theorem ql {c:List PT} (h:Canon c) (h2:∀ k n,wV c k n = false):c = []:=h.ext yPa fun k n=>by rw [h2];rfl
theorem Xa (c:List PT):(yC c).length <= c.length:=Nat.le_trans (xba _ _) (len_devs c)
theorem sum_le {ks:List Int} {f g:Int -> Nat} (h:∀ k,f k <= g k):(ks.map f).sum <= (ks.map g).sum:=by
 induction ks with
 | nil=>simp
 | cons k r ih=>have:=h k;simp;omega
theorem sum_two (ks:List Int) (f g:Int -> Nat):(ks.map fun k=>2 * (f k + g k)).sum = 2 * ((ks.map f).sum + (ks.map g).sum):=by
 induction ks with
 | nil=>rfl
 | cons k r ih=>simp;omega
theorem Xb (c:List PT):yf (yC c) <= 2 * yf c:=by
 unfold yC;rw [xca];refine Nat.le_trans (sum_le (g:=fun k=>2 * ((yU c k).length + 0)) fun k=>by have:=R.va (yU c k);omega) ?_;rw [sum_two];have h1:=rawC_sum c (Vv c) (Ua _);have h2:=zFa (Vv c);omega


theorem get_grow (l:List (Int × List RN)):∀ (m:List (Int × List RN)) (k:Int),AL.getZ (AL.grow m l) k [] = AL.getZ m k [] ++ (l.filter fun x=>decide (x.1 = k)).flatMap (·.2):=by
 induction l with
 | nil=>intro m k;simp [AL.grow]
 | cons x r ih=>
  intro m k;show AL.getZ (AL.grow (AL.set m x.1 (AL.getZ m x.1 [] ++ x.2)) r) k [] = _;rw [ih,AL.getZ_set,List.filter_cons]
  by_cases h:x.1 = k
  ·subst h;simp
  ·simp [h]
theorem vea (l:List (Int × List RN)):∀ m:List (Int × List RN),(m.map (·.1)).Nodup -> ((AL.grow m l).map (·.1)).Nodup:=by
 induction l with
 | nil=>intro m h;exact h
 | cons x r ih=>intro m h;exact ih _ (AL.nodup_set h _ _)
theorem len_grow (l:List (Int × List RN)):∀ m:List (Int × List RN),(AL.grow m l).length <= m.length + l.length:=by
 induction l with
 | nil=>intro m;exact Nat.le_refl _
 | cons x r ih=>
  intro m;have h1:=ih (AL.set m x.1 (AL.getZ m x.1 [] ++ x.2));have h2:=AL.len_set m x.1 (AL.getZ m x.1 [] ++ x.2);show (AL.grow (AL.set m x.1 (AL.getZ m x.1 [] ++ x.2)) r).length <= _;simp only [List.length_cons];omega
theorem key_grow (l:List (Int × List RN)):∀ (m:List (Int × List RN)) (k:Int),k ∈ (AL.grow m l).map (·.1) -> k ∈ m.map (·.1) \/ ∃ x ∈ l,x.1 = k:=by
 induction l with
 | nil=>intro m k h;exact .inl h
 | cons x r ih=>
  intro m k h;rcases ih _ k h with h | ⟨y,hy,e⟩
  ·rw [AL.keys_set] at h
   split at h
   ·exact .inl h
   ·rcases List.mem_append.1 h with h | h
    ·exact .inl h
    ·exact .inr ⟨x,by simp,(List.mem_singleton.1 h).symm⟩
  ·exact .inr ⟨y,by simp [hy],e⟩
def uS (c:List PT):List (Int × List RN):=AL.grow [] (c.filterMap zr)
theorem vo (c:List PT) (k:Int):AL.getZ (uS c) k [] = yU c k:=by
 unfold uS;rw [get_grow];show [] ++ _ = _;rw [List.nil_append]
 induction c with
 | nil=>rfl
 | cons p r ih=>
  rw [uF,<- ih,List.filterMap_cons]
  by_cases h0:0 < p.dev
  ·have e:zr p = some (p.dev,p.runs):=by simp [zr,h0]
   rw [e];simp only [List.filter_cons]
   by_cases h:p.dev = k
   ·subst h;simp [h0]
   ·simp [h]
  ·have e:zr p = none:=by simp [zr,h0]
   rw [e,if_neg (by rintro ⟨h1,h2⟩;omega)];rfl
theorem un (c:List PT):((uS c).map (·.1)).Nodup:=vea _ _ (by simp)
theorem wba (c:List PT):(uS c).length <= c.length:=by
 have h1:=len_grow (c.filterMap zr) [];have h2:=List.length_filterMap_le zr c;unfold uS;simp at h1;omega
theorem told_pos {c:List PT} {k:Int} (h:k ∈ (uS c).map (·.1)):0 < k /\ k ∈ Vv c:=by
 rcases key_grow _ _ _ h with h | ⟨x,hx,rfl⟩
 ·simp at h
 ·rw [List.mem_filterMap] at hx;obtain ⟨p,hp,hx⟩:=hx;unfold zr at hx
  split at hx
  ·rename_i h0;cases hx;exact ⟨h0,wg.2 ⟨⟨p,hp,rfl⟩,h0⟩⟩
  ·cases hx
theorem Yz {c:List PT} {e:Int × List RN} (h:e ∈ uS c):e.2 = yU c e.1 /\ 0 < e.1 /\ e.1 ∈ Vv c:=by
 have h1:=AL.mem_get (un c) (k:=e.1) (v:=e.2) h;have h2:=vo c e.1;unfold AL.getZ at h2;rw [h1] at h2;exact ⟨h2,told_pos (List.mem_map.2 ⟨e,h,rfl⟩)⟩
theorem u1a {c:List PT} {k:Int} (h:yU c k ≠ []):(k,yU c k) ∈ uS c:=by
 have h2:=vo c k;unfold AL.getZ at h2
 cases hg:AL.get (uS c) k with
 | none=>rw [hg] at h2;exact absurd h2.symm h
 | some v=>rw [hg] at h2;simp only [Option.getD_some] at h2;subst h2;exact AL.get_mem hg
theorem tot_told (c:List PT):((c.filterMap zr).map fun x=>x.2.length).sum <= yf c:=by
 induction c with
 | nil=>simp
 | cons p r ih=>
  have e:yf (p :: r) = p.runs.length + yf r:=by simp [yf]
  rw [List.filterMap_cons]
  by_cases h0:0 < p.dev
  ·have e2:zr p = some (p.dev,p.runs):=by simp [zr,h0]
   rw [e2];simp only [List.map_cons,List.sum_cons];omega
  ·have e2:zr p = none:=by simp [zr,h0]
   rw [e2];simp only;omega
def Sm (c:List PT):Prop:=c.length <= 10000000000 /\ yf c <= 10000000000
theorem zHa (c:List PT) (h:Sm c):YV c = pure (uS c):=by
 unfold YV;rw [zD]
 ·rfl
 ·have:=tot_told c;refine ⟨by have:=h.1;omega,?_⟩;have:=h.2;omega
theorem wca (m:List (Int × List RN)) (f:Int -> List RN) (ks:List Int) (hl:m.length <= 1000000000000) (hr:∀ e ∈ m,e.2.length <= 1000000000000) (hn:(m.map (·.1)).Nodup) (hs:ks.Pairwise (· < ·)) (h1:∀ e ∈ m,R.nrm e.2 ≠ [] -> e.1 ∈ ks /\ R.nrm e.2 = f e.1) (h2:∀ k ∈ ks,f k ≠ [] -> ∃ r,(k,r) ∈ m /\ R.nrm r = f k):ut m = pure (yP f ks):=by
 unfold ut;have hall:∀ Q:List PT -> Prop,(∀ l:List (Int × List RN),l.Perm m -> Q ((l.filter fun e=>decide (R.nrm e.2 ≠ [])).map fun e=>(⟨e.1,R.nrm e.2⟩:PT))) -> (loop (ZY m) ([],([]:List PT))).wp Q:=by
  intro Q hQ;refine M.loopM (body:=ZY m) m (fun L (t:List PT)=>(L,t)) (fun t e=>(xf e.2).det.bind fun v=>if 0 < v.length then yV ((t.length + 1) * 32 <= 140737488355328) (pure (t ++ [(⟨e.1,v⟩:PT)])) else pure t) (fun t=>pure t)
   (fun l t=>t = ((l.filter fun e=>decide (R.nrm e.2 ≠ [])).map fun e=>(⟨e.1,R.nrm e.2⟩:PT))) Q (fun L t hL=>?_) (fun l t y ht hlen hy=>?_) (fun l t hp ht=>?_) [] rfl
  ·unfold ZY;show yV _ ((nxt _ _).bind _) = yV _ ((nxt _ _).bind _);refine congrArg (fun k=>yV _ ((nxt _ _).bind k)) (funext fun o=>?_)
   cases o with
   | none=>rfl
   | some i=>
    refine congrArg (fun k=>(idx m (Int.ofNat i)).bind k) (funext fun y=>?_);rw [qR];refine congrArg (fun k=>(xf y.2).det.bind k) (funext fun v=>?_);rw [vN]
    by_cases h:0 < v.length
    ·rw [if_pos (by omega),if_pos h];rfl
    ·rw [if_neg (by omega),if_neg h];rfl
  ·have hle:=List.length_filter_le (fun e:Int × List RN=>decide (R.nrm e.2 ≠ [])) l;have htl:t.length <= l.length:=by rw [ht,List.length_map];exact hle
   rw [R.UZ y.2 (hr y hy),zB,zA];refine ⟨if R.nrm y.2 = [] then t else t ++ [⟨y.1,R.nrm y.2⟩],?_,?_⟩
   ·by_cases h:R.nrm y.2 = []
    ·rw [if_neg (by rw [h];simp),if_pos h]
    ·rw [if_pos (by rw [List.length_pos_iff];exact h),if_neg h,zD (by omega)]
   ·subst ht;rw [List.filter_append,List.map_append]
    by_cases h:R.nrm y.2 = [] <;> simp [h]
  ·subst ht;exact hQ l hp
 refine YU (hall _ fun l hp=>?_);show (yV _ _).wp _;have hll:=hp.length_eq;have hle:=List.length_filter_le (fun e:Int × List RN=>decide (R.nrm e.2 ≠ [])) l;have hmem:∀ d:PT,d ∈ ((l.filter fun e=>decide (R.nrm e.2 ≠ [])).map fun e=>(⟨e.1,R.nrm e.2⟩:PT)) ↔ d ∈ yP f ks:=by
  intro d;rw [vb,List.mem_map]
  constructor
  ·rintro ⟨e,he,rfl⟩;rw [List.mem_filter,hp.mem_iff] at he;have h0:R.nrm e.2 ≠ []:=by simpa using he.2
   obtain ⟨h3,h4⟩:=h1 e he.1 h0;exact ⟨h3,h0,h4⟩
  ·rintro ⟨h3,h4,h5⟩;obtain ⟨r,h6,h7⟩:=h2 d.dev h3 (by rw [<- h5];exact h4);refine ⟨(d.dev,r),?_,by show (⟨d.dev,R.nrm r⟩:PT) = d;rw [h7,<- h5]⟩;rw [List.mem_filter,hp.mem_iff];refine ⟨h6,?_⟩;simp only [decide_eq_true_eq];rw [h7,<- h5];exact h4
 have hnd:((l.filter fun e=>decide (R.nrm e.2 ≠ [])).map fun e=>(⟨e.1,R.nrm e.2⟩:PT)).Pairwise (fun x y=>x.dev ≠ y.dev):=by
  rw [List.pairwise_map];have:l.Pairwise (fun x y=>x.1 ≠ y.1):=by
   have:=(hp.map (·.1)).nodup_iff.2 hn;exact List.pairwise_map.1 this
  exact (this.filter _)
 refine ⟨by simp only [List.length_map];omega,⟨?_,fun l' ⟨hp',hs'⟩=>?_⟩⟩
 ·refine ⟨yP f ks,?_,?_⟩
  ·refine (List.perm_ext_iff_of_nodup ?_ ?_).2 fun d=>(hmem d).symm
   ·exact (vc hs).imp fun {a b} h e=>by subst e;omega
   ·exact hnd.imp fun {a b} h e=>by subst e;exact h rfl
  ·exact (vc hs).imp fun {a b} h=>by simp [qV];omega
 ·show l' = _;refine jT ?_ (vc hs) fun d=>by rw [hp'.mem_iff];exact hmem d
  have hnd':=(hp'.pairwise_iff (fun {a b} h=>Ne.symm h)).2 hnd;exact (hs'.and hnd').imp fun {a b} ⟨h3,h4⟩=>by simp [qV] at h3;omega
theorem vfa (c:List PT) (h:Sm c):ut (uS c) = pure (yC c):=by
 refine wca _ _ _ (by have:=wba c;have:=h.1;omega) (fun e he=>?_) (un c) (wv c) (fun e he h0=>?_) (fun k hk h0=>?_)
 ·rw [(Yz he).1];have:=xt c e.1;have:=h.2;omega
 ·obtain ⟨h1,h2,h3⟩:=Yz he;exact ⟨h3,by rw [h1]⟩
 ·exact ⟨_,u1a (fun e=>h0 (by rw [e];exact Ub)),rfl⟩
theorem xea (c:List PT) (h:Sm c):Xq c = pure (yC c):=by
 unfold Xq;rw [zHa c h,zB,zA,vfa c h,zB,zA]
theorem u2a (c:List PT) (k:Int) (h:Sm c):VM c k = pure (R.nrm (yU c k)):=by
 unfold VM;rw [zHa c h,zB,zA,vo,R.UZ _ (by have:=xt c k;have:=h.2;omega),zB,zA]
theorem qp (c:List PT) (d:DT) (h:Sm c):Wp c d = pure (wV c d.dev d.n):=by
 unfold Wp;rw [vN]
 by_cases h0:0 < d.dev
 ·rw [if_pos h0,u2a c _ h,zB,zA,R.has_eq _ _ (by have:=R.va (yU c d.dev);have:=xt c d.dev;have:=h.2;omega),zB,zA,zA,R.wq]
  rfl
 ·rw [if_neg h0,zA];show pure false = pure (R.yM (yU c d.dev) d.n);rw [Vu h0];rfl
def dotsC (l:List DT):List PT:=(l.filter V.yZ).map fun d=>⟨d.dev,[⟨d.n,d.n⟩]⟩
def yHa (h:Int × List RN -> List RN) (m:List (Int × List RN)) (L:List Nat):List (Int × List RN):=m.zipIdx.map fun y=>if y.2 ∈ L then (y.1.1,h y.1) else y.1
theorem ug {h:Int × List RN -> List RN} {m:List (Int × List RN)} {L:List Nat} {i:Nat}:(yHa h m L)[i]? = (m[i]?).map fun e=>if i ∈ L then (e.1,h e) else e:=by
 unfold yHa;rw [List.getElem?_map,List.getElem?_zipIdx]
 cases m[i]? <;> simp
theorem Qs {h:Int × List RN -> List RN} {m:List (Int × List RN)} {L:List Nat}:(yHa h m L).length = m.length:=by simp [yHa]
theorem set_at {m:List (Int × List RN)} (hn:(m.map (·.1)).Nodup) {i:Nat} {e:Int × List RN} (hi:m[i]? = some e) (v:List RN):AL.set m e.1 v = m.set i (e.1,v):=by
 induction m generalizing i with
 | nil=>simp at hi
 | cons x r ih=>
  obtain ⟨a,u⟩:=x;simp only [List.map_cons,List.nodup_cons] at hn
  cases i with
  | zero=>simp at hi;subst hi;simp [AL.set]
  | succ i=>
   simp at hi;have:a ≠ e.1:=fun q=>hn.1 (by rw [q];exact List.mem_map.2 ⟨e,List.mem_of_getElem? hi,rfl⟩)
   simp only [AL.set,this,if_false,List.set_cons_succ];rw [ih hn.2 hi]
theorem JO {h:Int × List RN -> List RN} {m:List (Int × List RN)} {L:List Nat}:(yHa h m L).map (·.1) = m.map (·.1):=by
 apply List.ext_getElem?;intro i;rw [List.getElem?_map,ug,List.getElem?_map]
 cases m[i]? with
 | none=>rfl
 | some e=>simp only [Option.map_some];split <;> rfl
theorem u3a {h:Int × List RN -> List RN} {m:List (Int × List RN)} (hn:(m.map (·.1)).Nodup) {L:List Nat} {i:Nat} {e:Int × List RN} (hi:m[i]? = some e) (hL:i ∉ L):AL.set (yHa h m L) e.1 (h e) = yHa h m (L ++ [i]):=by
 have h1:(yHa h m L)[i]? = some e:=by rw [ug,hi];simp [hL]
 rw [set_at (by rw [JO];exact hn) h1];apply List.ext_getElem?;intro j;rw [List.getElem?_set,ug,ug]
 by_cases hj:i = j
 ·subst hj;have hlt:i < (yHa h m L).length:=by rw [Qs];exact (List.getElem?_eq_some_iff.1 hi).1
  rw [if_pos rfl,if_pos hlt,hi];simp
 ·rw [if_neg hj]
  cases m[j]? with
  | none=>rfl
  | some x=>simp [Ne.symm hj]
theorem updM_all {h:Int × List RN -> List RN} {m:List (Int × List RN)} {L:List Nat} (hL:∀ i,i < m.length -> i ∈ L):yHa h m L = m.map fun e=>(e.1,h e):=by
 apply List.ext_getElem?;intro i;rw [ug,List.getElem?_map]
 cases hi:m[i]? with
 | none=>rfl
 | some e=>simp [hL i (List.getElem?_eq_some_iff.1 hi).1]
theorem has_key {m:List (Int × List RN)} {k:Int} (h:k ∈ m.map (·.1)):AL.has m k = true:=by
 unfold AL.has
 cases hg:AL.get m k with
 | none=>exact absurd h (AL.get_none.1 hg)
 | some v=>rfl
theorem u4a (body:List (Int × List RN) -> List Nat × List (Int × List RN) -> M (Step (List Nat × List (Int × List RN)) (List (Int × List RN)))) (do_:List RN -> List RN -> M (List RN)) (F:List RN -> List RN -> List RN) (m y:List (Int × List RN)) (hn:(m.map (·.1)).Nodup)
  (hb:∀ L v,body y (L,v) = yV (∀ i ∈ L,i < v.length) ((nxt v.length L).bind fun o=>match o with | none=>pure (.done v) | some j=>(idx v (Int.ofNat j)).bind fun kv=>(do_ kv.2 (AL.getZ y kv.1 [])).det.bind fun r=>yV (AL.has v kv.1 = true) (pure (.next (L ++ [j],AL.set v kv.1 r)))))
  (hdo:∀ e ∈ m,do_ e.2 (AL.getZ y e.1 []) = pure (F e.2 (AL.getZ y e.1 []))):loop (body y) ([],m) = pure (m.map fun e=>(e.1,F e.2 (AL.getZ y e.1 []))):=by
 refine YU ?_;have:=loopN (body:=body y) m.length (fun L (v:List (Int × List RN))=>(L,v)) (fun L v=>v = yHa (fun e=>F e.2 (AL.getZ y e.1 [])) m L) (fun r=>r = m.map fun e=>(e.1,F e.2 (AL.getZ y e.1 []))) (fun L v hv hL hlt=>by
  have hlen:v.length = m.length:=by rw [hv];exact Qs
  refine ⟨fun o=>match o with | none=>pure (.done v) | some j=>(idx v (Int.ofNat j)).bind fun kv=>(do_ kv.2 (AL.getZ y kv.1 [])).det.bind fun r=>yV (AL.has v kv.1 = true) (pure (.next (L ++ [j],AL.set v kv.1 r))),?_,?_,?_⟩
  ·rw [hb,hlen]
  ·intro hall;show v = _;rw [hv];exact updM_all hall
  ·intro i hi hiL;have hm:=List.getElem?_eq_getElem hi;have hvi:v[i]? = some m[i]:=by rw [hv,ug,hm];simp [hiL]
   refine ⟨AL.set v (m[i]).1 (F (m[i]).2 (AL.getZ y (m[i]).1 [])),?_,?_⟩
   ·show (idx v (Int.ofNat i)).bind _ = _;rw [show (Int.ofNat i) = (i:Int) from rfl,zN hvi,zA,hdo _ (List.getElem_mem hi),zB,zA,zD];refine has_key ?_;rw [hv,JO];exact List.mem_map.2 ⟨m[i],List.getElem_mem hi,rfl⟩
   ·rw [hv];exact u3a hn hm hiL) m (by
  apply List.ext_getElem?;intro i;rw [ug]
  cases m[i]? <;> simp)
 exact this
theorem wda {op:Bool -> Bool -> Bool} (h0:op false false = false) (a b:List RN):R.nrm (R.Zl op a b) = R.Zl op a b:=R.zBa (R.zq op h0 a b).1
theorem vga {op:Bool -> Bool -> Bool} (h0:op false false = false) (hr:∀ x,op false x = false) (a b:List PT) (ha:Sm a) (hb:Sm b) :
  ut ((uS a).map fun e=>(e.1,R.Zl op e.2 (AL.getZ (uS b) e.1 []))) = pure (opC op a b):=by
 have hlenR:∀ x y:List RN,(R.Zl op x y).length <= 2 * (x.length + y.length):=fun x y=>(R.zq op h0 x y).2.2
 refine wca _ _ _ (by have:=wba a;have:=ha.1;simp;omega) (fun e he=>?_) (by rw [List.map_map];exact un a) (wv _) (fun e he hne=>?_) (fun k hk hne=>?_)
 ·obtain ⟨x,hx,rfl⟩:=List.mem_map.1 he;have h1:=hlenR x.2 (AL.getZ (uS b) x.1 []);rw [(Yz hx).1,vo] at h1;have:=xt a x.1;have:=xt b x.1;have:=ha.2;have:=hb.2;show (R.Zl op x.2 (AL.getZ (uS b) x.1 [])).length <= _;rw [(Yz hx).1,vo];omega
 ·obtain ⟨x,hx,rfl⟩:=List.mem_map.1 he;obtain ⟨h1,h2,h3⟩:=Yz hx;refine ⟨?_,?_⟩
  ·show x.1 ∈ _;obtain ⟨⟨p,hp,hd⟩,_⟩:=wg.1 h3;exact wg.2 ⟨⟨p,List.mem_append_left _ hp,hd⟩,h2⟩
  ·show R.nrm (R.Zl op x.2 (AL.getZ (uS b) x.1 [])) = _;rw [wda h0,vo,h1]
 ·have hra:yU a k ≠ []:=fun e=>hne (by
   rw [e];exact R.Vo (R.zq op h0 _ _).1 trivial fun n=>by rw [(R.zq op h0 _ _).2.1];show op (R.yM [] n) _ = _;exact hr _)
  refine ⟨R.Zl op (yU a k) (AL.getZ (uS b) k []),List.mem_map.2 ⟨(k,yU a k),u1a hra,rfl⟩,?_⟩;rw [wda h0,vo]
theorem Minus_eq (a b:List PT) (ha:Sm a) (hb:Sm b):VL a b = pure (opC (fun x y=>x && !y) a b):=by
 unfold VL wj;rw [zHa a ha,zB,zA,zHa b hb,zB,zA,u4a vR Zx (R.Zl (fun x y=>x && !y)) (uS a) (uS b) (un a) (fun L v=>rfl) (fun e he=>?_),zA,vga rfl (fun _=>rfl) a b ha hb,zB,zA,zB,zA];rw [(Yz he).1,vo];have:=xt a e.1;have:=xt b e.1;have:=ha.2;have:=hb.2;exact R.minus_eq _ _ (by omega) (by omega)
theorem JX (a b:List PT) (ha:Sm a) (hb:Sm b):uj a b = pure (decide (opC (fun x y=>x && !y) a b = [])):=by
 unfold uj;rw [Minus_eq a b ha hb,zB,zA];refine congrArg pure ?_
 cases opC (fun x y=>x && !y) a b with
 | nil=>rfl
 | cons p r=>simp;omega
theorem partEq (x y:PT):(decide (x.dev = y.dev) && decide (x.runs = y.runs)) = decide (x = y):=by
 rw [Bool.eq_iff_iff]
 cases x;cases y
 simp
theorem eqP_eq (a b:List PT) (ha:a.length <= 1000000000000) (hr:∀ p ∈ a,p.runs.length <= 1000000000000):zd a b = pure (decide (a = b)):=by
 unfold zd
 by_cases hl:(a.length:Int) = b.length
 ·simp only [hl,decide_true,Bool.not_true,cond_false];have:=xS (body:=zb a b) a (fun i=>(i:Int)) (fun i x=>decide (b[i]? = some x)) (.brk ()) (.ret false) (fun i x hx hi=>by
   have hb:i < b.length:=by omega
   have hby:=List.getElem?_eq_getElem hb;unfold zb jp;have h1:decide ((i:Int) < (a.length:Int)) = true:=by simpa using hi
   simp only [h1,cond_true,zN hx,zN hby,zA,R.seq_eq x.runs _ (hr x (List.mem_of_getElem? hx)),zB,za,partEq,yT (show i < 9223372036854775807 by omega)];rw [hby]
   by_cases hxy:x = b[i] <;> simp [hxy,eq_comm,zA]) (by unfold zb;simp)
  rw [show (0:Int) = ((0:Nat):Int) from rfl,this];have hiff:(a.zipIdx.all fun y=>decide (b[y.2]? = some y.1)) = decide (a = b):=by
   rw [Bool.eq_iff_iff,List.all_eq_true,decide_eq_true_eq]
   constructor
   ·intro h;apply List.ext_getElem?;intro i
    by_cases hi:i < a.length
    ·have:=h (a[i],i) (by rw [List.mem_zipIdx_iff_getElem?];exact List.getElem?_eq_getElem hi);simp only [decide_eq_true_eq] at this;rw [this,List.getElem?_eq_getElem hi]
    ·rw [List.getElem?_eq_none (by omega),List.getElem?_eq_none (by omega)]
   ·rintro rfl y hy;rw [List.mem_zipIdx_iff_getElem?] at hy;simpa using hy
  rw [hiff]
  by_cases h:a = b <;> simp [h,exk,zA]
 ·have:¬ a = b:=fun e=>hl (by rw [e])
  simp [hl,this]
theorem eq_eq (a b:List PT) (ha:a.length <= 1000000000000) (hr:∀ p ∈ a,p.runs.length <= 1000000000000):wLa a b = pure (decide (a = b)):=by
 unfold wLa;rw [eqP_eq a b ha hr,zB,zA]
theorem yQa {c:List PT}:∀ p ∈ c,p.runs.length <= yf c:=by
 induction c with
 | nil=>intro p hp;simp at hp
 | cons q r ih=>
  intro p hp;have e:yf (q :: r) = q.runs.length + yf r:=by simp [yf]
  rcases List.mem_cons.1 hp with rfl | hp
  ·omega
  ·have:=ih p hp;omega
theorem Zm (c:List PT) (h:Sm c):we c = pure (decide (c = yC c)):=by
 unfold we;rw [xea c h,zB,zA,eq_eq _ _ (by have:=h.1;omega) (fun p hp=>by have:=yQa p hp;have:=h.2;omega),zB,zA]


theorem rEq_eq (a b:List PT) (ha:a.length <= 1000000000000) (hr:∀ p ∈ a,p.runs.length <= 1000000000000):qW a b = pure (decide (a = b)):=by
 unfold qW
 by_cases hl:(a.length:Int) = b.length
 ·simp only [hl,decide_true,Bool.not_true,cond_false];have:=xS (body:=VS a b) a (fun i=>(i:Int)) (fun i x=>decide (b[i]? = some x)) (.brk ()) (.ret false) (fun i x hx hi=>by
   have hb:i < b.length:=by omega
   have hby:=List.getElem?_eq_getElem hb;unfold VS;have h1:decide ((i:Int) < (a.length:Int)) = true:=by simpa using hi
   simp only [h1,cond_true,zN hx,zN hby,zA,R.req_eq x.runs _ (hr x (List.mem_of_getElem? hx)),zB,yT (show i < 9223372036854775807 by omega)];rw [hby];have he:=partEq x b[i]
   by_cases hd:x.dev = (b[i]).dev
   ·by_cases hq:x.runs = (b[i]).runs
    ·simp only [hd,hq,decide_true,Bool.and_self,eq_comm (a:=true),decide_eq_true_eq] at he;simp [hd,hq,he,zA]
    ·have hne:¬ x = b[i]:=fun e=>hq (by rw [e])
     have hne2:¬ b[i] = x:=fun e=>hne e.symm
     simp [hd,hq,hne2,zA]
   ·have hne2:¬ b[i] = x:=fun e=>hd (by rw [e])
    simp [hd,hne2,zA]) (by unfold VS;simp)
  rw [show (0:Int) = ((0:Nat):Int) from rfl,this];have hiff:(a.zipIdx.all fun y=>decide (b[y.2]? = some y.1)) = decide (a = b):=by
   rw [Bool.eq_iff_iff,List.all_eq_true,decide_eq_true_eq]
   constructor
   ·intro h;apply List.ext_getElem?;intro i
    by_cases hi:i < a.length
    ·have:=h (a[i],i) (by rw [List.mem_zipIdx_iff_getElem?];exact List.getElem?_eq_getElem hi);simp only [decide_eq_true_eq] at this;rw [this,List.getElem?_eq_getElem hi]
    ·rw [List.getElem?_eq_none (by omega),List.getElem?_eq_none (by omega)]
   ·rintro rfl y hy;rw [List.mem_zipIdx_iff_getElem?] at hy;simpa using hy
  rw [hiff]
  by_cases h:a = b <;> simp [h,exk,zA]
 ·have:¬ a = b:=fun e=>hl (by rw [e])
  simp [hl,this]
theorem rEq_sm (a b:List PT) (h:Sm a):qW a b = pure (decide (a = b)):=rEq_eq a b (by have:=h.1;omega) fun p hp=>by have:=yQa p hp;have:=h.2;omega
theorem wea (u v:List RN):R.Zl (· || ·) (R.nrm u) v = R.nrm (u ++ v):=R.Vo (R.zq _ rfl _ _).1 (R.YJ _) fun n=>by rw [(R.zq _ rfl _ _).2.1,R.wq,R.wq,R.uh]
theorem jU (c:List PT) (k:Int) (hk:0 <= k) (h:c.length <= 1000000000) (ht:yf c <= 1000000000):Yb c k = pure (R.nrm (yU c k)):=by
 unfold Yb;have hpre:∀ i,(yU (c.take i) k).length <= 1000000000:=fun i=>by
  have h1:=xt (c.take i) k;have h2:yf (c.take i) <= yf c:=by
   conv=>rhs;rw [<- List.take_append_drop i c]
   rw [zEa];omega
  omega
 have:=XO (body:=Ya c k) c (fun i (t:List RN)=>(t,(i:Int))) (fun t p=>if p.dev = k /\ 0 < k then R.Zl (· || ·) t p.runs else t) (fun t=>pure t) (fun i t=>t = R.nrm (yU (c.take i) k)) (fun i x t hx hi ht2=>by
  have h1:decide ((i:Int) < (c.length:Int)) = true:=by simpa using hi
  have hxl:x.runs.length <= 1000000000:=by have:=yQa x (List.mem_of_getElem? hx);omega
  have htl:t.length <= 2000000000:=by have:=R.va (yU (c.take i) k);have:=hpre i;rw [ht2];omega
  unfold Ya;simp only [h1,cond_true,zN hx,zA,yT (show i < 9223372036854775807 by omega),vN];have hnext:(if x.dev = k /\ 0 < k then R.Zl (· || ·) t x.runs else t) = R.nrm (yU (c.take (i + 1)) k):=by
   rw [List.take_add_one,hx,Vt,Option.toList,uF,Vs,List.append_nil,ht2]
   split
   ·exact wea _ _
   ·rw [List.append_nil]
  refine ⟨?_,hnext⟩
  by_cases hd:x.dev = k
  ·by_cases h0:k = 0
   ·have:¬ (x.dev = k /\ 0 < k):=by omega
    rw [if_neg this,if_pos hd];simp [h0,zA]
   ·rw [if_pos (show x.dev = k /\ 0 < k from ⟨hd,by omega⟩),if_pos hd];simp only [h0,decide_false,Bool.not_false,zA,cond_true];rw [R.wXa _ _ (by omega),zB,zA,zA]
  ·rw [if_neg (fun (q:x.dev = k /\ 0 < k)=>hd q.1),if_neg hd]
   rfl) (fun t _=>by unfold Ya;simp [zA]) [] (by rw [List.take_zero,Vs,Ub])
 rw [show (([]:List RN),(0:Int)) = ([],((0:Nat):Int)) from rfl,this];have key:∀ (l:List PT) (u:List RN),l.foldl (fun t p=>if p.dev = k /\ 0 < k then R.Zl (· || ·) t p.runs else t) (R.nrm u) = R.nrm (u ++ yU l k):=by
  intro l
  induction l with
  | nil=>intro u;simp [yU]
  | cons p r ih=>
   intro u;rw [List.foldl_cons,uF]
   by_cases hp:p.dev = k /\ 0 < k
   ·rw [if_pos hp,if_pos hp,wea,ih,List.append_assoc]
   ·rw [if_neg hp,if_neg hp,ih,List.nil_append]
 have h2:=key c [];rw [Ub,List.nil_append] at h2;rw [h2];rfl
def xfa (c:List PT):List Int:=c.foldl (fun l p=>V.Ju l p.dev) []
theorem zIa (c:List PT):∀ l:List Int,l.Pairwise (· < ·) -> (c.foldl (fun l p=>V.Ju l p.dev) l).Pairwise (· < ·) /\ (∀ k,k ∈ c.foldl (fun l p=>V.Ju l p.dev) l ↔ k ∈ l \/ ∃ p ∈ c,p.dev = k) /\ (c.foldl (fun l p=>V.Ju l p.dev) l).length <= l.length + c.length:=by
 induction c with
 | nil=>intro l h;simp [h]
 | cons p r ih=>
  intro l h;rw [List.foldl_cons];obtain ⟨h1,h2,h3⟩:=ih _ (V.ZM h p.dev);refine ⟨h1,fun k=>?_,by have:=V.Vm l p.dev;simp;omega⟩;rw [h2,V.jS]
  constructor
  ·rintro ((rfl | h4) | ⟨x,h4,h5⟩)
   ·exact .inr ⟨p,by simp,rfl⟩
   ·exact .inl h4
   ·exact .inr ⟨x,by simp [h4],h5⟩
  ·rintro (h4 | ⟨x,h4,h5⟩)
   ·exact .inl (.inr h4)
   ·rcases List.mem_cons.1 h4 with rfl | h4
    ·exact .inl (.inl h5.symm)
    ·exact .inr ⟨x,h4,h5⟩
theorem JY (c:List PT):(xfa c).Pairwise (· < ·):=(zIa c [] List.Pairwise.nil).1
theorem wfa {c:List PT} {k:Int}:k ∈ xfa c ↔ ∃ p ∈ c,p.dev = k:=by
 have:=(zIa c [] List.Pairwise.nil).2.1 k;unfold xfa;rw [this];simp
theorem wga (c:List PT):(xfa c).length <= c.length:=by simpa [xfa] using (zIa c [] List.Pairwise.nil).2.2
theorem Vr (l:List Int):(V.WZ l).length = l.length:=by simp [V.WZ]
theorem rdevs_eq (a b:List PT) (h:a.length + b.length <= 10000000000):jD a b = pure (V.WZ (xfa (a ++ b))):=by
 unfold jD;have h1:=XO (body:=Yd a) a (fun i (l:List Int)=>(V.WZ l,(i:Int))) (fun l p=>V.Ju l p.dev) (fun l=>pure (V.WZ l)) (fun i l=>l.Pairwise (· < ·) /\ l.length <= i) (fun i x l hx hi ⟨hs,hl⟩=>by
  have h1:decide ((i:Int) < (a.length:Int)) = true:=by simpa using hi
  unfold Yd;simp only [h1,cond_true,zN hx,zA,yT (show i < 9223372036854775807 by omega)];rw [V.UV _ _ (by rw [Vr];omega),zB,zA,V.wUa hs];exact ⟨rfl,V.ZM hs _,by have:=V.Vm l x.dev;omega⟩) (fun l _=>by unfold Yd;simp [zA]) [] ⟨List.Pairwise.nil,by simp⟩
 have h2:=XO (body:=uw b) b (fun i (l:List Int)=>(V.WZ l,(i:Int))) (fun l p=>V.Ju l p.dev) (fun l=>pure (V.WZ l)) (fun i l=>l.Pairwise (· < ·) /\ l.length <= a.length + i) (fun i x l hx hi ⟨hs,hl⟩=>by
  have h1:decide ((i:Int) < (b.length:Int)) = true:=by simpa using hi
  unfold uw;simp only [h1,cond_true,zN hx,zA,yT (show i < 9223372036854775807 by omega)];rw [V.UV _ _ (by rw [Vr];omega),zB,zA,V.wUa hs];exact ⟨rfl,V.ZM hs _,by have:=V.Vm l x.dev;omega⟩) (fun l _=>by unfold uw;simp [zA]) (xfa a) ⟨JY a,by have:=wga a;omega⟩
 rw [show (([]:List DT),(0:Int)) = (V.WZ [],((0:Nat):Int)) from rfl,h1,zA];show (loop (uw b) (V.WZ (xfa a),((0:Nat):Int))).bind _ = _;rw [h2,zA];unfold xfa;rw [List.foldl_append]
theorem UY (op:Bool -> Bool -> Bool) (how:Int) (hop:∀ x y,op x y = if how = 2 then (x && !y) else if how = 1 then (x && y) else (x || y)) (h0:op false false = false) (a b:List PT) (oa:∀ p ∈ a,0 <= p.dev) (ob:∀ p ∈ b,0 <= p.dev) (ha:a.length <= 1000000000) (hb:b.length <= 1000000000) (ta:yf a <= 1000000000) (tb:yf b <= 1000000000):jx a b how = pure (opC op a b):=by
 unfold jx;rw [rdevs_eq a b (by omega),zB,zA];have hlenA:∀ k,(R.nrm (yU a k)).length <= 2000000000:=fun k=>by have:=R.va (yU a k);have:=xt a k;omega
 have hlenB:∀ k,(R.nrm (yU b k)).length <= 2000000000:=fun k=>by have:=R.va (yU b k);have:=xt b k;omega
 have hop':∀ k,R.Zl op (R.nrm (yU a k)) (R.nrm (yU b k)) = R.Zl op (yU a k) (yU b k):=fun k=>R.Vo (R.zq op h0 _ _).1 (R.zq op h0 _ _).1 fun n=>by rw [(R.zq op h0 _ _).2.1,(R.zq op h0 _ _).2.1,R.wq,R.wq]
 have hkey:∀ k ∈ xfa (a ++ b),0 <= k:=fun k hk=>by
  obtain ⟨p,hp,rfl⟩:=wfa.1 hk;rcases List.mem_append.1 hp with hp | hp
  ·exact oa p hp
  ·exact ob p hp
 have hnd:(xfa (a ++ b)).length <= 2000000000:=by have:=wga (a ++ b);rw [List.length_append] at this;omega
 have hgo:=XO (body:=WJ (V.WZ (xfa (a ++ b))) a b how) (xfa (a ++ b)) (fun i (t:List PT)=>((i:Int),t)) (fun t k=>if R.Zl op (yU a k) (yU b k) = [] then t else t ++ [⟨k,R.Zl op (yU a k) (yU b k)⟩]) (fun t=>pure t) (fun i t=>t.length <= i) (fun i k t hk hi hl=>by
  have h1:decide ((i:Int) < ((V.WZ (xfa (a ++ b))).length:Int)) = true:=by rw [Vr];simpa using hi
  have hx:(V.WZ (xfa (a ++ b)))[i]? = some ⟨k,1⟩:=by simp [V.WZ,hk]
  have hk0:0 <= k:=hkey k (List.mem_of_getElem? hk);unfold WJ;simp only [h1,cond_true,zN hx,zA,jU a k hk0 ha ta,jU b k hk0 hb tb,zB,yT (show i < 9223372036854775807 by omega)];have hl1:=hlenA k;have hl2:=hlenB k;rw [R.wXa _ _ (by omega),zB,zA,R.rmeet_eq _ _ (by omega),zB,zA,R.uta _ _ (by omega),zB,zA];have hz:(cond (decide (how = 1)) (pure (R.Zl (· && ·) (R.nrm (yU a k)) (R.nrm (yU b k)))) (pure (R.Zl (· || ·) (R.nrm (yU a k)) (R.nrm (yU b k)))):M (List RN)).bind (fun z=>cond (decide (how = 2)) (pure (R.Zl (fun x y=>x && !y) (R.nrm (yU a k)) (R.nrm (yU b k)))) (pure z)) = pure (R.Zl op (yU a k) (yU b k)):=by
   rw [<- hop' k]
   by_cases h2:how = 2
   ·subst h2;have:op = fun x y=>x && !y:=by funext x y;rw [hop];simp
    rw [this];rfl
   ·by_cases h1:how = 1
    ·subst h1;have:op = fun x y=>x && y:=by funext x y;rw [hop];simp
     rw [this];rfl
    ·have:op = fun x y=>x || y:=by funext x y;rw [hop];simp [h1,h2]
     rw [this];simp [h1,h2,zA]
  rw [<- qR,hz,zA];have hsl:=(R.zq op h0 (yU a k) (yU b k)).2.2
  by_cases hz0:R.Zl op (yU a k) (yU b k) = []
  ·rw [if_pos hz0];simp only [hz0,List.length_nil];exact ⟨rfl,by omega⟩
  ·rw [if_neg hz0];have:decide (0 < ((R.Zl op (yU a k) (yU b k)).length:Int)) = true:=by
    have:=List.length_pos_iff.2 hz0;simp;omega
   rw [this,cond_true,zD (by simp;omega)];exact ⟨rfl,by simp;omega⟩) (fun t _=>by unfold WJ;rw [Vr];simp [zA]) [] (by simp)
 rw [show ((0:Int),([]:List PT)) = (((0:Nat):Int),[]) from rfl,hgo,zA];have key:∀ (ks:List Int) (t:List PT),ks.foldl (fun t k=>if R.Zl op (yU a k) (yU b k) = [] then t else t ++ [⟨k,R.Zl op (yU a k) (yU b k)⟩]) t = t ++ yP (fun k=>R.Zl op (yU a k) (yU b k)) ks:=by
  intro ks
  induction ks with
  | nil=>intro t;simp [yP]
  | cons k ks ih=>
   intro t;rw [List.foldl_cons,ih]
   by_cases h:R.Zl op (yU a k) (yU b k) = []
   ·rw [if_pos h];simp [yP,h]
   ·rw [if_neg h];simp [yP,h]
 rw [key,List.nil_append];refine congrArg pure (JU (JY _) (wv _) (fun _=>rfl) fun k hk=>?_);have hr:yU (a ++ b) k ≠ []:=fun e=>hk (by
  rw [Vt] at e;have:=List.append_eq_nil_iff.1 e;rw [this.1,this.2];exact wZa h0)
 exact ⟨fun _=>Zh hr,fun _=>wfa.2 (wg.1 (Zh hr)).1⟩
structure Ok (c:List PT):Prop where
 dev:∀ p ∈ c,0 <= p.dev
 len:c.length <= 1000000000
 tot:yf c <= 1000000000
theorem Ok.sm {c:List PT} (h:Ok c):Sm c:=⟨by have:=h.len;omega,by have:=h.tot;omega⟩
section
variable (a b:List PT) (ha:Ok a) (hb:Ok b)
include ha hb
theorem u5a : VV a b = pure (opC (fun x y=>x && !y) a b):=by
 unfold VV;rw [UY (fun x y=>x && !y) 2 (fun x y=>by simp) rfl a b ha.dev hb.dev ha.len hb.len ha.tot hb.tot,zB,zA]
theorem Uc : um a b = pure (decide (opC (fun x y=>x && !y) a b = [])):=by
 unfold um;rw [u5a a b ha hb,zB,zA];refine congrArg pure ?_
 cases opC (fun x y=>x && !y) a b with
 | nil=>rfl
 | cons p r=>simp;omega
end
theorem ok_nil : Ok []:=⟨fun p h=>by simp at h,by simp,by simp [yf]⟩
theorem opC_nil (c:List PT):opC (· || ·) c [] = yC c:=by rw [<- norm_or,List.append_nil]
theorem zJa (c:List PT) (h:Ok c):WK c = pure (yC c):=by
 unfold WK;rw [UY (· || ·) 0 (fun x y=>by simp) rfl c [] h.dev ok_nil.dev h.len ok_nil.len h.tot ok_nil.tot,zB,zA,opC_nil]
theorem sm_norm {c:List PT} (h:Ok c):Sm (yC c):=⟨by have:=Xa c;have:=h.len;omega,by have:=Xb c;have:=h.tot;omega⟩
theorem Zi (a b:List PT) (ha:Ok a) (hb:Ok b):vL a b = pure (decide (yC a = yC b)):=by
 unfold vL;rw [zJa a ha,zB,zA,zJa b hb,zB,zA,rEq_sm _ _ (sm_norm ha),zB,zA]
theorem vO (c:List PT) (h:Ok c):vj c = pure (decide (c = yC c)):=by
 unfold vj;rw [zJa c h,zB,zA,rEq_sm _ _ h.sm,zB,zA]
theorem has_pos {c:List PT} {k n:Int} (h:wV c k n = true):0 < k /\ 1 <= n /\ n <= 281474976710655:=by
 refine ⟨Classical.byContradiction fun h0=>?_,R.qg h⟩;unfold wV at h;rw [Vu h0] at h
 cases h
theorem Ud (c:List PT) (d:DT) (h:Ok c):Wr c d = pure (wV c d.dev d.n):=by
 unfold Wr;rw [V.ZL,zB,zA]
 by_cases hg:V.yZ d = true
 ·have h1:=V.ZJ.1 hg;rw [hg,cond_true,jU c d.dev (by omega) h.len h.tot,zB,zA,R.xaa _ _ (by have:=R.va (yU c d.dev);have:=xt c d.dev;have:=h.tot;omega),zB,zA,zA,R.wq]
  rfl
 ·have hg':V.yZ d = false:=by simpa using hg
  rw [hg',cond_false,zA]
  cases hh:wV c d.dev d.n with
  | false=>rfl
  | true=>obtain ⟨h1,h2,h3⟩:=has_pos hh;exact absurd (V.ZJ.2 ⟨by omega,h2,h3⟩) hg
theorem zKa {c:List PT} (h:(decide (c.length <= 30) && c.all fun p=>decide (p.runs.length <= 30)) = true):c.length <= 30 /\ yf c <= 900:=by
 rw [Bool.and_eq_true,decide_eq_true_eq,List.all_eq_true] at h;refine ⟨h.1,?_⟩;have:∀ l:List PT,(∀ p ∈ l,decide (p.runs.length <= 30) = true) -> yf l <= l.length * 30:=by
  intro l
  induction l with
  | nil=>intro _;simp [yf]
  | cons p r ih=>
   intro hl;have e:yf (p :: r) = p.runs.length + yf r:=by simp [yf]
   have h1:=ih fun q hq=>hl q (by simp [hq])
   have h2:=hl p (by simp);simp only [decide_eq_true_eq] at h2;simp only [List.length_cons];omega
 have:=this c h.2;omega


def ZN (c:List PT) (k:Int):List PT:=yC [⟨k,R.nrm (yU c k)⟩]
theorem Only_eq (c:List PT) (k:Int) (h:Ok c):jB c k = pure (ZN c k):=by
 unfold jB ZN;have h1:=R.va (yU c k);have h2:=xt c k;have h3:=h.tot;rw [u2a c k h.sm,zB,zA,xea _ ⟨by simp,by simp [yf];omega⟩,zB,zA]
theorem yRa (c:List PT) (k:Int):ZN c k = if R.nrm (yU c k) = [] then [] else [⟨k,R.nrm (yU c k)⟩]:=by
 unfold ZN
 by_cases h:R.nrm (yU c k) = []
 ·rw [if_pos h,h];refine ql (YL _) fun q n=>?_
  rw [YK];unfold wV;rw [uF,Vs]
  split <;> rfl
 ·rw [if_neg h];have h0:0 < k:=Classical.byContradiction fun h0=>h (by rw [Vu h0];exact Ub)
  exact qj ⟨List.pairwise_singleton _ _,fun p hp=>by rw [List.mem_singleton] at hp;subst hp;exact ⟨h0,h,R.YJ _⟩⟩
theorem wha (c:List PT) (k:Int) (hk:0 <= k) (h:Ok c):Ye c k = pure (ZN c k):=by
 unfold Ye;rw [jU c k hk h.len h.tot,zB,zA,yRa]
 cases R.nrm (yU c k) with
 | nil=>rfl
 | cons x r=>
  have:decide (((x :: r).length:Int) = 0) = false:=by simp;omega
  rw [this];simp
theorem wia {c:List PT} (o:∀ p ∈ c,0 <= p.dev) (h:c.length <= 30 /\ yf c <= 900):Ok c:=⟨o,by omega,by omega⟩
end Go.Ep.M.C

namespace Go.Ep.M.N
open Go

theorem wU8_mod (n:Int):IntKind.u8.wrap n = n % 256:=by simp [IntKind.wrap,IntKind.bits,IntKind.signed]
def jV (n:Nat):Nat:=if n = 0 then 0 else jV (n / 256) + 1
theorem Xc : jV 0 = 0:=by rw [jV];rfl
theorem WR {n:Nat} (h:n ≠ 0):jV n = jV (n / 256) + 1:=by rw [jV,if_neg h]
theorem xga : ∀ (k n:Nat),n < 256 ^ k -> jV n <= k
 | 0,n,h=>by
  have:n = 0:=by simpa using h
  rw [this,Xc];exact Nat.le_refl _
 | k + 1,n,h=>by
  by_cases h0:n = 0
  ·rw [h0,Xc];omega
  ·rw [WR h0];have:=xga k (n / 256) (by rw [Nat.pow_succ] at h;omega);omega
theorem u6a : ∀ (k n:Nat),256 ^ k <= n -> k + 1 <= jV n
 | 0,n,h=>by
  have:n ≠ 0:=by intro h0;rw [h0] at h;simp at h
  rw [WR this];omega
 | k + 1,n,h=>by
  have hp:0 < 256 ^ k:=Nat.pow_pos (by decide);rw [Nat.pow_succ] at h;have:n ≠ 0:=by omega
  rw [WR this];have:=u6a k (n / 256) (by omega);omega
theorem wja {n:Nat} (h:n < 18446744073709551616):jV n <= 8:=xga 8 n (by simpa using h)

theorem fdiv256 (n:Nat):Int.fdiv (n:Int) (2 ^ 8) = ((n / 256:Nat):Int):=by
 rw [Int.fdiv_eq_ediv_of_nonneg _ (by decide)];have:(2 ^ 8:Int) = 256:=rfl;rw [this];omega
theorem len_loop : ∀ (n k:Nat),k + jV n <= 1000 -> loop Zd ((n:Int),(k:Int)) = pure (((k + jV n:Nat)):Int):=by
 intro n
 induction n using Nat.strongRecOn with
 | _ n ih=>
  intro k hk
  by_cases h0:n = 0
  ·subst h0;rw [Xc,Nat.add_zero];exact zP (by unfold Zd;simp)
  ·rw [WR h0] at hk ⊢;rw [zW (s':=(((n / 256:Nat):Int),((k + 1:Nat):Int))) (by
    unfold Zd;have:decide ((0:Int) < (n:Int)) = true:=by simp;omega
    simp only [this,cond_true,fdiv256,yT (show k < 9223372036854775807 by omega)]),ih (n / 256) (by omega) (k + 1) (by omega)]
   congr 2;omega
theorem Len_eq {v:Int} (h0:0 <= v) (h:v <= 18446744073709551615):VO v = pure (jV v.toNat:Int):=by
 obtain ⟨n,rfl⟩:=Int.eq_ofNat_of_zero_le h0;unfold VO;have:=len_loop n 0 (by have:=wja (n:=n) (by omega);omega);rw [show (0:Int) = ((0:Nat):Int) from rfl,this,zA,Nat.zero_add,Int.toNat_natCast]
def Xd (n i:Nat):Int:=((n / 256 ^ i % 256:Nat):Int)
theorem ySa (n i:Nat):0 <= Xd n i /\ Xd n i <= 255:=by unfold Xd;omega
theorem Byte_eq (n i:Nat) (hi:i <= 7):WA (n:Int) (i:Int) = pure (Xd n i):=by
 have h8:i = 0 \/ i = 1 \/ i = 2 \/ i = 3 \/ i = 4 \/ i = 5 \/ i = 6 \/ i = 7:=by omega
 unfold WA Xd;rw [Zs (show (0:Int) <= (i:Int) by omega) (by omega),Zs (show (0:Int) <= 8 * (i:Int) by omega) (by omega)];have hd:decide ((7:Int) < (i:Int)) = false:=by simp;omega
 simp only [hd,cond_false];rw [zD (by omega),wU8_mod,Int.fdiv_eq_ediv_of_nonneg _ (by exact Int.le_of_lt (Int.pow_pos (by decide)))]
 congr 1
 have e:(2:Int) ^ min (8 * (i:Int)).toNat 64 = ((256 ^ i:Nat):Int):=by
  rcases h8 with rfl | rfl | rfl | rfl | rfl | rfl | rfl | rfl <;> rfl
 rw [e];exact (by rw [Int.natCast_emod,Int.natCast_ediv];rfl)
def be (n:Nat):Nat -> List Int
 | 0=>[]
 | k + 1=>Xd n k :: be n k
theorem be_len (n:Nat):∀ k,(be n k).length = k
 | 0=>rfl
 | k + 1=>by simp [be,be_len n k]
def v0a (n:Nat):List Int:=(jV n:Int) :: be n (jV n)
def vB (v:Int):List Int:=v0a v.toNat
theorem zn {v:Int} (h:v <= 18446744073709551615):(vB v).length <= 9:=by
 have:=wja (n:=v.toNat) (by omega);simp [vB,v0a,be_len];omega
theorem wka (n:Nat):∀ (k:Nat) (out:List Int),k <= 8 -> out.length + k <= 100000000000000 -> loop (ua (n:Int)) ((k:Int) - 1,out) = pure (out ++ be n k)
 | 0,out,_,_=>by
  rw [be,List.append_nil];exact zP (by unfold ua;simp)
 | k + 1,out,hk,ho=>by
  have e:((k + 1:Nat):Int) - 1 = (k:Int):=by omega
  rw [e,zW (s':=((k:Int) - 1,out ++ [Xd n k])) (by
   unfold ua;have h1:decide ((0:Int) <= (k:Int)) = true:=by simp
   simp only [h1,cond_true,Byte_eq n k (by omega),zB,zA];rw [zD (by simp;omega),uJ (by omega) (by omega)]),wka n k _ (by omega) (by simp;omega),be,List.append_assoc]
  rfl
theorem u7a (b:List Int) {v:Int} (h0:0 <= v) (h:v <= 18446744073709551615) (hb:b.length <= 10000000000000):WB b v = pure (b ++ vB v):=by
 have h8:=wja (n:=v.toNat) (by omega);unfold WB;rw [Len_eq h0 h,zB,zA,uJ (show -9223372036854775808 <= (b.length:Int) + (jV v.toNat:Int) by omega) (by omega),uJ (by omega) (by omega),zD (by omega),zD (by simp;omega),zD (by simp;omega),wU8 (by omega) (by omega),uJ (by omega) (by omega)];have:=wka v.toNat (jV v.toNat) (([]:List Int) ++ b ++ [(jV v.toNat:Int)]) h8 (by simp;omega);rw [show ((v.toNat:Nat):Int) = v by omega] at this;rw [this,zA];simp [vB,v0a]

def By (l:List Int):Prop:=∀ x ∈ l,0 <= x /\ x <= 255
theorem By.drop {l:List Int} (h:By l) (n:Nat):By (l.drop n):=fun x hx=>h x (List.mem_of_mem_drop hx)
theorem By.take {l:List Int} (h:By l) (n:Nat):By (l.take n):=fun x hx=>h x (List.mem_of_mem_take hx)
theorem By.app {a b:List Int} (ha:By a) (hb:By b):By (a ++ b):=fun x hx=>(List.mem_append.1 hx).elim (ha x) (hb x)
theorem By.nil : By []:=fun x hx=>by cases hx
theorem by_be (n:Nat):∀ k,By (be n k)
 | 0=>By.nil
 | k + 1=>fun x hx=>by
  rcases List.mem_cons.1 hx with rfl | h
  ·exact ySa n k
  ·exact by_be n k x h
theorem uV {v:Int} (h:v <= 18446744073709551615):By (vB v):=fun x hx=>by
 have:=wja (n:=v.toNat) (by omega);rcases List.mem_cons.1 hx with rfl | h
 ·omega
 ·exact by_be _ _ x h

def qJ (l:List Int):Int:=l.foldl (fun v x=>v * 256 + x) 0
theorem JZ : ∀ (l:List Int) (v k:Nat),By l -> v < 256 ^ k -> ∃ n:Nat,l.foldl (fun v x=>v * 256 + x) (v:Int) = (n:Int) /\ n < 256 ^ (k + l.length) /\ v * 256 ^ l.length <= n
 | [],v,k,_,hv=>⟨v,rfl,by simpa using hv,by simp⟩
 | x :: r,v,k,hb,hv=>by
  have hx:=hb x (by simp);obtain ⟨n,h1,h2,h3⟩:=JZ r (v * 256 + x.toNat) (k + 1) (fun y hy=>hb y (by simp [hy])) (by rw [Nat.pow_succ];omega);refine ⟨n,?_,by rw [show k + (x :: r).length = k + 1 + r.length by simp;omega];exact h2,?_⟩
  ·rw [List.foldl_cons,<- h1]
   congr 1;omega
  ·refine Nat.le_trans ?_ h3;rw [List.length_cons,Nat.pow_succ];have:v * (256 ^ r.length * 256) = v * 256 * 256 ^ r.length:=by rw [Nat.mul_comm (256 ^ r.length),Nat.mul_assoc]
   rw [this];exact Nat.mul_le_mul_right _ (by omega)
theorem u8a {l:List Int} (h:By l) (h8:l.length <= 8):0 <= qJ l /\ qJ l <= 18446744073709551615:=by
 obtain ⟨n,h1,h2,_⟩:=JZ l 0 0 h (by decide);have h3:256 ^ (0 + l.length) <= 256 ^ 8:=Nat.pow_le_pow_right (by decide) (by omega);have h4:(256:Nat) ^ 8 = 18446744073709551616:=by decide
 rw [qJ,show (0:Int) = ((0:Nat):Int) from rfl,h1];omega
theorem bor_eq {v:Nat} {x:Int} (hv:v < 72057594037927936) (hx:0 <= x /\ x <= 255):bOr .u64 (IntKind.u64.wrap ((v:Int) * 2 ^ 8)) (IntKind.u64.wrap x) = (v:Int) * 256 + x:=by
 obtain ⟨y,rfl⟩:=Int.eq_ofNat_of_zero_le hx.1;have e:((v:Int) * 2 ^ 8) = ((2 ^ 8 * v:Nat):Int):=by
  have:(2 ^ 8:Int) = 256:=rfl;have:(2 ^ 8:Nat) = 256:=rfl;omega
 have hb:2 ^ 8 * v + y < 18446744073709551616:=by
  have:(2 ^ 8:Nat) = 256:=rfl;omega
 rw [e,Zs (by omega) (by omega),Zs (by omega) (by omega)];unfold bOr;have bv:∀ q:Nat,q < 18446744073709551616 -> (BitVec.ofInt IntKind.u64.bits (q:Int)).toNat = q:=fun q hq=>by
  show (BitVec.ofInt 64 (q:Int)).toNat = q;rw [BitVec.toNat_ofInt];omega
 rw [BitVec.toNat_or,bv _ (by omega),bv _ (by omega),<- Nat.two_pow_add_eq_or_of_lt (show y < 2 ^ 8 by have:(2 ^ 8:Nat) = 256:=rfl;omega) v,Zs (by omega) (by omega)];have:(2 ^ 8:Nat) = 256:=rfl;omega

def rdN : List Int -> Int × Nat × Int
 | []=>(0,0,2)
 | n :: r=>if 8 < n \/ (0 < n /\ r.head? = some 0) then (0,0,4) else if (r.length:Int) < n then (0,0,2) else (qJ (r.take n.toNat),n.toNat + 1,0)
theorem zLa (n:Int) (r:List Int):rdN (n :: r) = if 8 < n \/ (0 < n /\ r.head? = some 0) then (0,0,4) else if (r.length:Int) < n then (0,0,2) else (qJ (r.take n.toNat),n.toNat + 1,0):=rfl
theorem Ja (b:List Int) (hb:By b):(rdN b = (0,0,2) \/ rdN b = (0,0,4)) \/ ∃ n r,b = n :: r /\ 0 <= n /\ n <= 8 /\ n <= (r.length:Int) /\ ¬ (0 < n /\ r.head? = some 0) /\ rdN b = (qJ (r.take n.toNat),n.toNat + 1,0):=by
 cases b with
 | nil=>exact .inl (.inl rfl)
 | cons n r=>
  have hn:=hb n (by simp);rw [zLa]
  by_cases h1:8 < n \/ (0 < n /\ r.head? = some 0)
  ·rw [if_pos h1];exact .inl (.inr rfl)
  ·rw [if_neg h1]
   by_cases h2:(r.length:Int) < n
   ·rw [if_pos h2];exact .inl (.inl rfl)
   ·rw [if_neg h2];exact .inr ⟨n,r,rfl,hn.1,by omega,by omega,fun h=>h1 (.inr h),rfl⟩
theorem Jb (b:List Int) (hb:By b):0 <= (rdN b).1 /\ (rdN b).1 <= 18446744073709551615 /\ (rdN b).2.1 <= b.length /\ ((rdN b).2.2 = 0 \/ (rdN b).2.2 = 2 \/ (rdN b).2.2 = 4):=by
 rcases Ja b hb with (h | h) | ⟨n,r,rfl,h0,h8,hl,_,h⟩
 ·rw [h];simp
 ·rw [h];simp
 ·rw [h];have:=u8a (l:=r.take n.toNat) (fun x hx=>hb x (by simp [List.mem_of_mem_take hx])) (by rw [List.length_take];omega);refine ⟨this.1,this.2,?_,.inl rfl⟩;simp;omega
theorem wla {r:List Int} (h:r ≠ []):∃ y,r.head? = some y /\ r[0]? = some y:=by
 cases r with
 | nil=>exact absurd rfl h
 | cons y t=>exact ⟨y,rfl,rfl⟩
theorem Read_eq (b:List Int) (hb:By b) (hl:b.length <= 1000000000000):jC b 0 = pure ((rdN b).1,((rdN b).2.1:Int),(rdN b).2.2):=by
 unfold jC;have h0:decide ((b.length:Int) < 0) = false:=by simp
 rw [show decide ((0:Int) < 0) = false from rfl,cond_false,h0,zA,cond_false]
 cases b with
 | nil=>rfl
 | cons n r=>
  have hn:=hb n (by simp);have hr:By r:=fun x hx=>hb x (by simp [hx])
  have h1:decide ((0:Int) = ((n :: r).length:Int)) = false:=by simp;omega
  have hrl:r.length <= 1000000000000:=by simp at hl;omega
  have e1:List.drop (Int.toNat (IntKind.i64.wrap (0 + 1))) (List.take (Int.toNat ((n :: r).length:Int)) (n :: r)) = r:=by
   rw [uJ (by omega) (by omega),Int.toNat_natCast,List.take_length];rfl
  rw [h1,cond_false,Wb (y:=n) (by omega) rfl,zA,zD (by rw [uJ (by omega) (by omega)];simp;omega),e1,uJ (n:=n) (by omega) (by omega)];rw [zLa];have hc:(cond (decide (8 < n)) (pure true) (cond (decide (0 < n)) (cond (decide ((0:Int) < (r.length:Int))) ((idx r 0).bind fun x14=>pure (decide (x14 = 0))) (pure false)) (pure false)):M Bool) = pure (decide (8 < n \/ (0 < n /\ r.head? = some 0))):=by
   by_cases c1:8 < n
   ·simp [c1]
   ·by_cases c2:0 < n
    ·by_cases c3:r = []
     ·subst c3;simp [c1,c2]
     ·obtain ⟨y,h5,h6⟩:=wla c3;have c4:0 < r.length:=List.length_pos_iff.2 c3;simp [c1,c2,c4,Wb (l:=r) (i:=0) (y:=y) (by omega) h6,h5,zA]
    ·simp [c1,c2]
  rw [hc,zA]
  by_cases c1:8 < n \/ (0 < n /\ r.head? = some 0)
  ·rw [decide_eq_true c1,cond_true,if_pos c1];rfl
  ·rw [decide_eq_false c1,cond_false,if_neg c1]
   by_cases c2:(r.length:Int) < n
   ·rw [decide_eq_true c2,cond_true,if_pos c2];rfl
   ·rw [decide_eq_false c2,cond_false,if_neg c2,zD (by omega)];have e2:List.drop (Int.toNat 0) (List.take (Int.toNat (IntKind.i64.wrap n)) (List.drop (Int.toNat (IntKind.i64.wrap (0 + 1))) (List.take (Int.toNat ((n :: r).length:Int)) (n :: r)))) = r.take n.toNat:=by
     rw [e1,uJ (by omega) (by omega)];rfl
    have hlen:(r.take n.toNat).length = n.toNat:=by rw [List.length_take];omega
    have hloop:=XO (body:=uv n 0 (n :: r)) (r.take n.toNat) (fun i t=>(t,(i:Int))) (fun v x=>v * 256 + x) (fun t=>pure t) (fun i t=>∃ m:Nat,t = (m:Int) /\ m < 256 ^ i) (fun i x t hx hi hI=>by
     obtain ⟨m,rfl,hm⟩:=hI;have hxr:=(hr.take n.toNat) x (List.mem_of_getElem? hx);have hm7:m < 72057594037927936:=by
      have h3:256 ^ i <= 256 ^ 7:=Nat.pow_le_pow_right (by decide) (by omega);have h4:(256:Nat) ^ 7 = 72057594037927936:=by decide
      omega
     refine ⟨?_,m * 256 + x.toNat,by omega,by rw [Nat.pow_succ];omega⟩;unfold uv;have hd:decide ((i:Int) < ((r.take n.toNat).length:Int)) = true:=by simpa using hi
     simp only [e2,hd,cond_true,zN hx,zA,bor_eq hm7 hxr,yT (show i < 9223372036854775807 by omega)]) (fun t _=>by
     unfold uv;have hd:decide (((r.take n.toNat).length:Int) < ((r.take n.toNat).length:Int)) = false:=by simp
     simp only [e2,hd,cond_false,zA]) 0 ⟨0,rfl,by decide⟩
    have hloop':loop (uv n 0 (n :: r)) (0,0) = pure (qJ (r.take n.toNat)):=hloop;rw [hloop',zA,uJ (n:=0 + 1) (by omega) (by omega),uJ (by omega) (by omega)];have:((0:Int) + 1 + n) = ((n.toNat + 1:Nat):Int):=by omega
    rw [this]
theorem rRead_eq (B:List Int) (at_:Nat) (hB:By B) (hl:B.length <= 1000000000000) (ha:at_ <= B.length) :
  jN B (at_:Int) = pure ((rdN (B.drop at_)).1,(if (rdN (B.drop at_)).2.2 = 0 then ((at_ + (rdN (B.drop at_)).2.1:Nat):Int) else 0),(rdN (B.drop at_)).2.2):=by
 unfold jN;have h0:decide ((at_:Int) < 0) = false:=by simp
 have h0':decide ((B.length:Int) < (at_:Int)) = false:=by simp;omega
 rw [h0,cond_false,h0',zA,cond_false]
 by_cases hend:at_ = B.length
 ·have hd:B.drop at_ = []:=by rw [hend,List.drop_length]
  have h1:decide ((at_:Int) = (B.length:Int)) = true:=by simp [hend]
  rw [h1,cond_true,hd];rfl
 ·have h1:decide ((at_:Int) = (B.length:Int)) = false:=by simp;omega
  have hlt:at_ < B.length:=by omega
  obtain ⟨n,r,hd⟩:∃ n r,B.drop at_ = n :: r:=by
   rw [List.drop_eq_getElem_cons hlt];exact ⟨_,_,rfl⟩
  have hnB:B[at_]? = some n:=by
   have:=congrArg List.head? hd;rw [List.head?_drop] at this;exact this
  have hrB:∀ j,B[at_ + 1 + j]? = r[j]?:=fun j=>by
   have:=congrArg (fun l=>l[j + 1]?) hd;simp only [List.getElem?_drop,List.getElem?_cons_succ] at this;rw [<- this];congr 1;omega
  have hlenr:r.length + 1 + at_ = B.length:=by
   have:=congrArg List.length hd;simp at this;omega
  have hb:By (n :: r):=hd ▸ hB.drop at_;have hn:=hb n (by simp);have hr:By r:=fun x hx=>hb x (by simp [hx])
  rw [h1,cond_false,zN hnB,zA,uJ (n:=n) (by omega) (by omega),hd];rw [zLa];have hleft:IntKind.i64.wrap (IntKind.i64.wrap ((B.length:Int) - (at_:Int)) - 1) = (r.length:Int):=by
   rw [uJ (n:=(B.length:Int) - (at_:Int)) (by omega) (by omega),uJ (by omega) (by omega)];omega
  have hc:(cond (decide (8 < n)) (pure true) (cond (decide (0 < n)) (cond (decide ((0:Int) < (IntKind.i64.wrap (IntKind.i64.wrap ((B.length:Int) - (at_:Int)) - 1)))) ((idx B (IntKind.i64.wrap ((at_:Int) + 1))).bind fun x14=>pure (decide (x14 = 0))) (pure false)) (pure false)):M Bool) = pure (decide (8 < n \/ (0 < n /\ r.head? = some 0))):=by
   rw [hleft]
   by_cases c1:8 < n
   ·simp [c1]
   ·by_cases c2:0 < n
    ·by_cases c3:r = []
     ·subst c3;simp [c1,c2]
     ·obtain ⟨y,h5,h6⟩:=wla c3;have c4:0 < r.length:=List.length_pos_iff.2 c3;have h7:idx B (IntKind.i64.wrap ((at_:Int) + 1)) = pure y:=by
       rw [uJ (by omega) (by omega)];exact zN (i:=at_ + 1) (by rw [<- h6,<- hrB 0])
      simp [c1,c2,c4,h7,h5,zA]
    ·simp [c1,c2]
  rw [hc,zA]
  by_cases c1:8 < n \/ (0 < n /\ r.head? = some 0)
  ·rw [decide_eq_true c1,cond_true,if_pos c1];rfl
  ·rw [decide_eq_false c1,cond_false,if_neg c1,hleft]
   by_cases c2:(r.length:Int) < n
   ·rw [decide_eq_true c2,cond_true,if_pos c2];rfl
   ·rw [decide_eq_false c2,cond_false,if_neg c2];have hlen:(r.take n.toNat).length = n.toNat:=by rw [List.length_take];omega
    have hloop:=XO (body:=ZB n B (at_:Int)) (r.take n.toNat) (fun i t=>(t,((i + 1:Nat):Int))) (fun v x=>v * 256 + x) (fun t=>pure t) (fun i t=>∃ m:Nat,t = (m:Int) /\ m < 256 ^ i) (fun i x t hx hi hI=>by
     obtain ⟨m,rfl,hm⟩:=hI;have hxr:=(hr.take n.toNat) x (List.mem_of_getElem? hx);have hm7:m < 72057594037927936:=by
      have h3:256 ^ i <= 256 ^ 7:=Nat.pow_le_pow_right (by decide) (by omega);have h4:(256:Nat) ^ 7 = 72057594037927936:=by decide
      omega
     refine ⟨?_,m * 256 + x.toNat,by omega,by rw [Nat.pow_succ];omega⟩;unfold ZB;have hd2:decide (((i + 1:Nat):Int) <= n) = true:=by simp;omega
     have hx2:B[at_ + (i + 1)]? = some x:=by
      rw [List.getElem?_take] at hx
      split at hx
      ·rw [<- hx,<- hrB i];congr 1;omega
      ·cases hx
     have hix:idx B (IntKind.i64.wrap ((at_:Int) + ((i + 1:Nat):Int))) = pure x:=by
      rw [uJ (by omega) (by omega)];exact zN (i:=at_ + (i + 1)) hx2
     simp only [uJ (n:=n) (by omega) (by omega),hd2,cond_true,hix,zA,Zs (n:=(m:Int) * 256) (by omega) (by omega),Zs (n:=x) (by omega) (by omega),Zs (n:=(m:Int) * 256 + x) (by omega) (by omega),yT (show i + 1 < 9223372036854775807 by omega)]) (fun t _=>by
     unfold ZB;have hd2:decide (((((r.take n.toNat).length + 1:Nat)):Int) <= n) = false:=by rw [hlen];simp;omega
     simp only [uJ (n:=n) (by omega) (by omega),hd2,cond_false,zA]) 0 ⟨0,rfl,by decide⟩
    have hloop':loop (ZB n B (at_:Int)) (0,1) = pure (qJ (r.take n.toNat)):=hloop;rw [hloop',zA,uJ (n:=(at_:Int) + 1) (by omega) (by omega),uJ (by omega) (by omega)];have:((at_:Int) + 1 + n) = ((at_ + (n.toNat + 1):Nat):Int):=by omega
    rw [this];rfl


theorem be_of : ∀ (l:List Int),By l -> ∀ n:Nat,qJ l = (n:Int) -> be n l.length = l:=by
 intro l;have key:∀ (m:Nat) (l:List Int),l.length = m -> By l -> ∀ n:Nat,qJ l = (n:Int) -> be n l.length = l:=by
  intro m
  induction m with
  | zero=>intro l hl _ n _;have:=List.eq_nil_of_length_eq_zero hl;subst this;rfl
  | succ m ih=>
   intro l hl hb n hn
   cases l with
   | nil=>simp at hl
   | cons x r=>
    have hx:=hb x (by simp);have hr:By r:=fun y hy=>hb y (by simp [hy])
    obtain ⟨q,h1,h2,h3⟩:=JZ r 0 0 hr (by decide);obtain ⟨q2,h4,h5,h6⟩:=JZ r x.toNat 1 hr (by omega);have hq:qJ r = (q:Int):=h1;have hq2:qJ (x :: r) = (q2:Int):=by
     rw [qJ,List.foldl_cons,<- h4];congr 1;omega
    have hrl:r.length = m:=by simpa using hl
    have e:q2 = n:=by omega
    subst e;have hlin:∀ (l:List Int) (v:Int),l.foldl (fun v x=>v * 256 + x) v = v * 256 ^ l.length + qJ l:=by
     intro l
     induction l with
     | nil=>intro v;simp [qJ]
     | cons y t iht=>
      intro v;have e:qJ (y :: t) = y * 256 ^ t.length + qJ t:=by rw [qJ,List.foldl_cons,iht];simp
      rw [List.foldl_cons,iht,e,List.length_cons,Int.pow_succ,Int.add_mul,Int.mul_assoc,Int.mul_comm 256,Int.add_assoc]
    have hsum:(q2:Int) = x * 256 ^ r.length + (q:Int):=by
     rw [<- hq,<- hlin r x,<- hq2,qJ,List.foldl_cons];congr 1;omega
    have hqlt:q < 256 ^ r.length:=by simpa using h2
    have hnat:q2 = x.toNat * 256 ^ r.length + q:=by
     have:((q2:Nat):Int) = ((x.toNat * 256 ^ r.length + q:Nat):Int):=by
      rw [hsum,Int.natCast_add,Int.natCast_mul,Int.natCast_pow,Int.toNat_of_nonneg hx.1];rfl
     exact Int.ofNat.inj this
    have hp:0 < 256 ^ r.length:=Nat.pow_pos (by decide);have hdiv:q2 / 256 ^ r.length = x.toNat:=by
     rw [hnat,Nat.mul_comm,Nat.mul_add_div hp,Nat.div_eq_of_lt hqlt,Nat.add_zero]
    rw [List.length_cons,be];have hb1:Xd q2 r.length = x:=by unfold Xd;rw [hdiv];omega
    rw [hb1]
    congr 1
    have hbe:∀ k,k <= r.length -> be q2 k = be q k:=by
     intro k hk
     induction k with
     | zero=>rfl
     | succ k ihk=>
      rw [be,be,ihk (by omega)]
      congr 1
      show ((q2 / 256 ^ k % 256:Nat):Int) = ((q / 256 ^ k % 256:Nat):Int)
      congr 1
      have hs:256 ^ r.length = 256 ^ k * (256 * 256 ^ (r.length - k - 1)):=by
       rw [<- Nat.pow_succ',<- Nat.pow_add];congr 1;omega
      have hpk:0 < 256 ^ k:=Nat.pow_pos (by decide);rw [hnat,hs,Nat.mul_left_comm,Nat.mul_add_div hpk];rw [Nat.mul_left_comm,Nat.mul_add_mod]
    rw [hbe _ (Nat.le_refl _)];exact ih r hrl hr q hq
 exact key l.length l rfl
theorem rdN_one {b:List Int} (hb:By b) (h:(rdN b).2.2 = 0):b = vB (rdN b).1 ++ b.drop (rdN b).2.1:=by
 rcases Ja b hb with (h1 | h1) | ⟨n,r,rfl,h0,h8,hl,hh,h1⟩
 ·rw [h1] at h;simp at h
 ·rw [h1] at h;simp at h
 ·rw [h1];have hr:By r:=fun x hx=>hb x (by simp [hx])
  have hbt:=hr.take n.toNat;have hlt:(r.take n.toNat).length = n.toNat:=by rw [List.length_take];omega
  obtain ⟨q,h2,h3,h4⟩:=JZ (r.take n.toNat) 0 0 hbt (by decide);have hq:qJ (r.take n.toNat) = (q:Int):=h2;have hbe:=be_of _ hbt q hq;rw [hlt] at hbe;have hlen:jV q = n.toNat:=by
   apply Nat.le_antisymm
   ·exact xga _ _ (by simpa [hlt] using h3)
   ·rcases Nat.eq_zero_or_pos n.toNat with hz | hz
    ·omega
    ·obtain ⟨k,hk⟩:∃ k,n.toNat = k + 1:=⟨n.toNat - 1,by omega⟩
     rw [hk];refine u6a k q ?_;rw [hk,be] at hbe;have hne:Xd q k ≠ 0:=by
      intro e;rw [e] at hbe;refine hh ⟨by omega,?_⟩;have:=congrArg List.head? hbe;rw [List.head?_cons,List.head?_take,if_neg (by omega)] at this;exact this.symm
     unfold Xd at hne;have hp:0 < 256 ^ k:=Nat.pow_pos (by decide);rcases Nat.lt_or_ge q (256 ^ k) with hlt2 | hge
     ·rw [Nat.div_eq_of_lt hlt2] at hne;simp at hne
     ·exact hge
  show n :: r = vB (qJ (r.take n.toNat)) ++ (n :: r).drop (n.toNat + 1);rw [hq,vB,Int.toNat_natCast,v0a,hlen,hbe,List.drop_succ_cons,List.cons_append,List.take_append_drop]
  congr 1;omega

abbrev RS:=List Int × Int
structure Ok (s:RS):Prop where
 by_:By s.1
 len:s.1.length <= 1000000000
 nil:s.2 ≠ 0 -> s.1 = []
def wW (e:Int) (s:RS):RS:=if s.2 = 0 /\ e ≠ 0 then ([],e) else s
def zM (s:RS):Int × RS:=if s.2 ≠ 0 then (0,s) else if (rdN s.1).2.2 ≠ 0 then (0,wW (rdN s.1).2.2 s) else ((rdN s.1).1,(s.1.drop (rdN s.1).2.1,0))
def zu (m:Int) (s:RS):Int × RS:=if m < (zM s).1 then (0,wW 4 (zM s).2) else zM s
def xZ (s:RS):Int × RS:=if s.2 ≠ 0 then (0,s) else match s.1 with | []=>(0,wW 2 s) | x :: r=>(x,(r,0))
def ZO (m:Int) (s:RS):ByteArray × RS:=
 if (zM s).2.2 ≠ 0 then (⟨#[]⟩,(zM s).2) else if max m 0 < (zM s).1 then (⟨#[]⟩,wW 3 (zM s).2) else if ((zM s).2.1.length:Int) < (zM s).1 then (⟨#[]⟩,wW 2 (zM s).2)
 else (XK ((zM s).2.1.take (zM s).1.toNat),((zM s).2.1.drop (zM s).1.toNat,0))
def zba (s:RS):Int × RS:=let t:=if 0 < s.1.length then wW 4 s else s;(t.2,t)
theorem Xe {s:RS} (h:Ok s) (e:Int):Ok (wW e s):=by
 unfold wW
 by_cases c:s.2 = 0 /\ e ≠ 0
 ·rw [if_pos c];exact ⟨By.nil,by simp,fun _=>rfl⟩
 ·rw [if_neg c];exact h
theorem xu {s:RS} {e:Int} (h:e ≠ 0):(wW e s).2 ≠ 0:=by
 unfold wW
 by_cases c:s.2 = 0
 ·rw [if_pos ⟨c,h⟩];exact h
 ·rw [if_neg (fun q=>c q.1)];exact c
theorem fail_of {s:RS} (e:Int) (h:s.2 ≠ 0):wW e s = s:=if_neg fun q=>h q.1
theorem num_of {s:RS} (h:s.2 ≠ 0):zM s = (0,s):=if_pos h
theorem yb {s:RS} (h:Ok s):Ok (zM s).2 /\ 0 <= (zM s).1 /\ (zM s).1 <= 18446744073709551615:=by
 unfold zM;have hr:=Jb s.1 h.by_
 by_cases c:s.2 ≠ 0
 ·rw [if_pos c];exact ⟨h,by simp,by simp⟩
 ·rw [if_neg c]
  by_cases c2:(rdN s.1).2.2 ≠ 0
  ·rw [if_pos c2];exact ⟨Xe h _,by simp,by simp⟩
  ·rw [if_neg c2];exact ⟨⟨h.by_.drop _,by simp;have:=h.len;omega,fun h=>absurd rfl h⟩,hr.1,hr.2.1⟩
theorem ZP {s:RS} (h:Ok s) {m:Int} (hm:0 <= m):Ok (zu m s).2 /\ 0 <= (zu m s).1 /\ (zu m s).1 <= m:=by
 unfold zu;obtain ⟨h1,h2,h3⟩:=yb h
 by_cases c:m < (zM s).1
 ·rw [if_pos c];exact ⟨Xe h1 _,by simp,hm⟩
 ·rw [if_neg c];exact ⟨h1,h2,by omega⟩
theorem Jc {s:RS} (h:Ok s):Ok (xZ s).2 /\ 0 <= (xZ s).1 /\ (xZ s).1 <= 255:=by
 unfold xZ
 by_cases c:s.2 ≠ 0
 ·rw [if_pos c];exact ⟨h,by simp,by simp⟩
 ·rw [if_neg c]
  cases hs:s.1 with
  | nil=>exact ⟨Xe h _,by simp,by simp⟩
  | cons x r=>
   have hb:=h.by_;have hl:=h.len;rw [hs] at hb hl;exact ⟨⟨fun y hy=>hb y (by simp [hy]),by simp at hl ⊢;omega,fun h=>absurd rfl h⟩,(hb x (by simp)).1,(hb x (by simp)).2⟩
theorem ok_text {s:RS} (h:Ok s) (m:Int):Ok (ZO m s).2:=by
 unfold ZO;obtain ⟨h1,h2,h3⟩:=yb h
 split
 ·exact h1
 ·split
  ·exact Xe h1 _
  ·split
   ·exact Xe h1 _
   ·exact ⟨h1.by_.drop _,by simp;have:=h1.len;omega,fun h=>absurd rfl h⟩

theorem New_eq (b:List Int) (h:b.length <= 1000000000):WD b = pure (b,0):=by
 unfold WD;rw [zD (by omega)]
theorem Wg (b:List Int) (e:Int):zX b e = pure (e,b,e):=rfl
theorem Zn (e:Int) (s:RS):zL e s.1 s.2 = pure (wW e s):=by
 unfold zL wW
 by_cases c:s.2 = 0 <;> by_cases c2:e = 0 <;> simp [c,c2,zA] <;> rw [<- c]
theorem xha (b:List Int) (n:Nat) (e:Int) (h:n <= b.length):yk (n:Int) b e = pure (b.take n,b.drop n,e):=by
 unfold yk;rw [zD (by omega),zD (by omega)];simp
theorem XF {s:RS} (h:Ok s):zS s.1 s.2 = pure (zM s):=by
 unfold zS zM;rw [Wg,zB,zA]
 by_cases c:s.2 = 0
 ·have hr:=Jb s.1 h.by_;simp only [c,decide_true,Bool.not_true,cond_false,Read_eq s.1 h.by_ (by have:=h.len;omega),zB,zA,ne_eq,not_true_eq_false,if_false]
  by_cases c2:(rdN s.1).2.2 = 0
  ·simp only [c2,decide_true,Bool.not_true,cond_false,xha s.1 (rdN s.1).2.1 0 hr.2.2.1,zB,zA,not_true_eq_false,if_false]
  ·have:=Zn (rdN s.1).2.2 s;rw [c] at this;simp only [c2,decide_false,Bool.not_false,cond_true,this,zB,zA,not_false_eq_true,if_true]
 ·simp [c]
theorem xia {s:RS} (h:Ok s) (m:Int):yI m s.1 s.2 = pure (zu m s):=by
 unfold yI zu;rw [XF h,zB,zA]
 by_cases c:m < (zM s).1
 ·rw [decide_eq_true c,cond_true,if_pos c,Zn 4 (zM s).2,zB,zA]
 ·rw [decide_eq_false c,cond_false,if_neg c]
theorem xja (s:RS):yR s.1 s.2 = pure ((s.1.length:Int),s):=by
 unfold yR uM;rw [zB,zA]
theorem jW {s:RS} (h:Ok s):zj s.1 s.2 = pure (xZ s):=by
 unfold zj xZ;rw [Wg,zB,zA]
 by_cases c:s.2 = 0
 ·obtain ⟨b,e⟩:=s;simp only at c;subst c;have hL:=xja (b,0);simp only at hL
  cases b with
  | nil=>
   have:=Zn 2 ([],0);simp only at this;simp [hL,zB,zA,this]
  | cons x r=>
   have ht:=xha (x :: r) 1 0 (by simp);simp only [show ((1:Nat):Int) = 1 from rfl] at ht;have hd:decide (((x :: r).length:Int) = 0) = false:=by simp;omega
   simp only [decide_true,Bool.not_true,cond_false,hL,zB,zA,hd,ht];rw [Wb (l:=List.take 1 (x :: r)) (i:=0) (y:=x) (by omega) rfl,zA];simp
 ·simp [c]
theorem xka {s:RS} (h:Ok s) {m:Int} (hm:m <= 9223372036854775807):yu m s.1 s.2 = pure (ZO m s):=by
 unfold yu ZO;obtain ⟨h1,h2,h3⟩:=yb h;rw [XF h,zB,zA,Wg,zB,zA]
 by_cases c:(zM s).2.2 = 0
 ·simp only [c,decide_true,Bool.not_true,cond_false,ne_eq,not_true_eq_false,if_false];rw [Zs (n:=max m 0) (by omega) (by omega)]
  by_cases c2:max m 0 < (zM s).1
  ·have hF:=Zn 3 (zM s).2;rw [c] at hF;rw [decide_eq_true c2,cond_true,if_pos c2,hF,zB,zA]
  ·have hL:=xja (zM s).2;rw [c] at hL;rw [decide_eq_false c2,cond_false,if_neg c2,hL,zB,zA];have hlen:=h1.len;rw [Zs (n:=((zM s).2.1.length:Int)) (by omega) (by omega)]
   by_cases c3:((zM s).2.1.length:Int) < (zM s).1
   ·have hF:=Zn 2 (zM s).2;rw [decide_eq_true c3,cond_true,if_pos c3,hF,zB,zA]
   ·rw [decide_eq_false c3,cond_false,if_neg c3,uJ (by omega) (by omega)];have ht:=xha (zM s).2.1 (zM s).1.toNat (zM s).2.2 (by omega);rw [Int.toNat_of_nonneg h2] at ht;rw [ht,zB,zA,c]
 ·simp [c]
theorem End_eq (s:RS):xq s.1 s.2 = pure (zba s):=by
 unfold xq zba;rw [xja,zB,zA]
 by_cases c:0 < s.1.length
 ·have:decide ((0:Int) < (s.1.length:Int)) = true:=by simpa using c
  simp only [this,cond_true,Zn,zB,zA,if_pos c,Wg]
 ·have:decide ((0:Int) < (s.1.length:Int)) = false:=by simpa using c
  simp only [this,cond_false,zA,if_neg c,Wg,zB]

theorem u9a (b row:List Int) (h:row.length + b.length <= 100000000000000):yc b row = pure (row ++ b):=by
 unfold yc;rw [zD (by omega)]
theorem vP {v:Int} (row:List Int) (h0:0 <= v) (h:v <= 18446744073709551615) (hr:row.length <= 10000000000000):zO v row = pure (row ++ vB v):=by
 unfold zO;have:=zn h;rw [u7a [] h0 h (by simp),zB,zA,List.nil_append,u9a _ _ (by omega),zB,zA]
theorem Bytes_eq (row:List Int) (h:row.length <= 100000000000000):ye row = pure (row,row):=by
 unfold ye;rw [zD (by omega)]
theorem zMa (c:Int) (row:List Int) (hr:row.length <= 10000000000000):zy c row = pure (row ++ [c]):=by
 unfold zy;rw [u9a _ _ (by simp;omega),zB,zA]


structure Sim (B:List Int) (a:Int) (s:RS):Prop where
 lo:0 <= a
 hi:a <= B.length
 eq:s.2 = 0 -> s.1 = B.drop a.toNat
structure OkB (B:List Int):Prop where
 by_:By B
 len:B.length <= 1000000000
theorem Sim.start (B:List Int):Sim B 0 (B,0):=⟨Int.le_refl _,by omega,fun _=>rfl⟩
theorem OkB.ok {B:List Int} (h:OkB B):Ok (B,0):=⟨h.by_,h.len,fun h=>absurd rfl h⟩
theorem Sim.fail {B:List Int} {a:Int} {s:RS} (h:Sim B a s) {e:Int} (he:e ≠ 0):Sim B a (wW e s):=⟨h.lo,h.hi,fun h2=>absurd h2 (xu he)⟩
theorem Sim.bad {B:List Int} {a:Int} {s t:RS} (h:Sim B a s) (ht:t.2 ≠ 0):Sim B a t:=⟨h.lo,h.hi,fun h2=>absurd h2 ht⟩
variable {B:List Int} {a:Int} {s:RS}
theorem vq (B:List Int) (a:Int) (s:RS) {e:Int} (he:e ≠ 0):zC e B a s.2 = pure (B,a,(wW e s).2):=by
 unfold zC wW
 by_cases c:s.2 = 0 <;> simp [c,he]
theorem uT (hB:OkB B) (h:Sim B a s):∃ a',zE B a s.2 = pure ((zM s).1,B,a',(zM s).2.2) /\ Sim B a' (zM s).2:=by
 obtain ⟨m,rfl⟩:=Int.eq_ofNat_of_zero_le h.lo;have hm:m <= B.length:=by have:=h.hi;omega
 unfold zE zM
 by_cases c:s.2 = 0
 ·have hd:=h.eq c;rw [Int.toNat_natCast] at hd;have hr:=Jb s.1 (by rw [hd];exact hB.by_.drop _);rw [hd] at hr ⊢;simp only [c,decide_true,Bool.not_true,cond_false,rRead_eq B m hB.by_ (by have:=hB.len;omega) hm,zB,zA,ne_eq,not_true_eq_false,if_false]
  by_cases c2:(rdN (B.drop m)).2.2 = 0
  ·simp only [c2,decide_true,Bool.not_true,cond_false,if_true,not_true_eq_false,if_false];refine ⟨_,rfl,by omega,?_,fun _=>?_⟩
   ·have:=hr.2.2.1;rw [List.length_drop] at this;omega
   ·rw [List.drop_drop];congr 1
  ·have:=vq B (m:Int) s c2;rw [c] at this;simp only [c2,decide_false,Bool.not_false,cond_true,if_false,this,zB,zA,not_false_eq_true,if_true];exact ⟨_,rfl,h.fail c2⟩
 ·have:decide (s.2 = 0) = false:=by simp [c]
  simp only [this,Bool.not_false,cond_true,ne_eq,c,not_false_eq_true,if_true];exact ⟨_,rfl,h⟩
theorem zNa (hB:OkB B) (h:Sim B a s) (m:Int):∃ a',zY m B a s.2 = pure ((zu m s).1,B,a',(zu m s).2.2) /\ Sim B a' (zu m s).2:=by
 obtain ⟨a1,h1,h2⟩:=uT hB h;unfold zY zu;rw [h1,zB,zA]
 by_cases c:m < (zM s).1
 ·rw [decide_eq_true c,cond_true,if_pos c,vq B a1 (zM s).2 (by decide),zB,zA];exact ⟨_,rfl,h2.fail (by decide)⟩
 ·rw [decide_eq_false c,cond_false,if_neg c];exact ⟨_,rfl,h2⟩
theorem Vw (hB:OkB B) (h:Sim B a s):∃ a',zQ B a s.2 = pure ((xZ s).1,B,a',(xZ s).2.2) /\ Sim B a' (xZ s).2:=by
 obtain ⟨m,rfl⟩:=Int.eq_ofNat_of_zero_le h.lo;have hm:m <= B.length:=by have:=h.hi;omega
 have hlen:=hB.len;unfold zQ xZ
 by_cases c:s.2 = 0
 ·have hd:=h.eq c;rw [Int.toNat_natCast] at hd;simp only [c,decide_true,Bool.not_true,cond_false,ne_eq,not_true_eq_false,if_false]
  by_cases hend:B.length <= m
  ·have:decide ((B.length:Int) <= (m:Int)) = true:=by simpa using hend
   have hnil:s.1 = []:=by rw [hd];exact List.drop_eq_nil_of_le hend
   have hF:=vq B (m:Int) s (e:=2) (by decide);rw [c] at hF;simp only [this,cond_true,hF,zB,zA,hnil];exact ⟨_,rfl,h.fail (by decide)⟩
  ·have:decide ((B.length:Int) <= (m:Int)) = false:=by simp;omega
   have hlt:m < B.length:=by omega
   have hs:s.1 = B[m] :: B.drop (m + 1):=by rw [hd];exact List.drop_eq_getElem_cons hlt
   have hi:idx B (IntKind.i64.wrap (IntKind.i64.wrap ((m:Int) + 1) - 1)) = pure B[m]:=by
    rw [uJ (n:=(m:Int) + 1) (by omega) (by omega),uJ (by omega) (by omega)];exact Wb (by omega) (by rw [show ((m:Int) + 1 - 1).toNat = m by omega];exact List.getElem?_eq_getElem hlt)
   simp only [this,cond_false,hi,zA,hs];refine ⟨_,rfl,?_,?_,fun _=>?_⟩
   ·rw [uJ (by omega) (by omega)];omega
   ·rw [uJ (by omega) (by omega)];omega
   ·rw [uJ (by omega) (by omega)];show B.drop (m + 1) = _
    congr 1
 ·have:decide (s.2 = 0) = false:=by simp [c]
  simp only [this,Bool.not_false,cond_true,ne_eq,c,not_false_eq_true,if_true];exact ⟨_,rfl,h⟩
theorem ZAa (hB:OkB B) (hO:Ok s) (h:Sim B a s) {q:Int} (hq:q <= 9223372036854775807):∃ a',zx q B a s.2 = pure ((ZO q s).1,B,a',(ZO q s).2.2) /\ Sim B a' (ZO q s).2:=by
 obtain ⟨a1,h1,h2⟩:=uT hB h;obtain ⟨k1,k2,k3⟩:=yb hO;have hlen:=hB.len;unfold zx ZO;rw [h1,zB,zA];have hmost:(cond (decide (q < 0)) (pure 0) (pure q):M Int) = pure (max q 0):=by
  by_cases c:q < 0
  ·rw [decide_eq_true c,cond_true];congr 1;omega
  ·rw [decide_eq_false c,cond_false];congr 1;omega
 rw [hmost,zA,Zs (n:=max q 0) (by omega) (by omega)]
 generalize hns:zM s = ns at *
 obtain ⟨n,b,e⟩:=ns;simp only at *
 by_cases c:e = 0
 ·subst c
  by_cases c2:max q 0 < n
  ·have hF:=vq B a1 (b,0) (e:=3) (by decide);simp only at hF;simp only [decide_eq_true c2,cond_true,hF,zB,zA];have hb:(wW 3 (b,0)).2 = 3:=rfl;simp only [hb,show decide ((3:Int) = 0) = false from rfl,cond_false,zA,Bool.not_false,cond_true,ne_eq,not_true_eq_false,if_false,if_pos c2];exact ⟨_,rfl,h2.fail (by decide)⟩
  ·simp only [decide_eq_false c2,cond_false,zA,decide_true,cond_true,ne_eq,not_true_eq_false,if_false,if_neg c2];have hbl:(b.length:Int) = B.length - a1:=by
    have h3:=h2.eq rfl;simp only at h3;rw [h3,List.length_drop];have:=h2.lo;have:=h2.hi;omega
   have h4:=h2.lo;have h5:=h2.hi;rw [uJ (n:=(B.length:Int) - a1) (by omega) (by omega),Zs (n:=(B.length:Int) - a1) (by omega) (by omega),<- hbl]
   by_cases c3:(b.length:Int) < n
   ·have hF:=vq B a1 (b,0) (e:=2) (by decide);simp only at hF;have hb:(wW 2 (b,0)).2 = 2:=rfl;simp only [decide_eq_true c3,cond_true,hF,zB,zA,hb,show decide ((2:Int) = 0) = false from rfl,Bool.not_false,if_pos c3];exact ⟨_,rfl,h2.fail (by decide)⟩
   ·have hn:IntKind.i64.wrap n = n:=uJ (by omega) (by omega);simp only [decide_eq_false c3,cond_false,zA,decide_true,Bool.not_true,if_neg c3,hn];rw [uJ (n:=a1 + n) (by omega) (by omega),zD (by omega)];have h3:=h2.eq rfl;simp only at h3;refine ⟨_,by congr 2;rw [h3];congr 1;rw [List.drop_take];congr 1;omega,?_,?_,fun _=>?_⟩
    ·omega
    ·omega
    ·show b.drop n.toNat = _;rw [h3,List.drop_drop];congr 1;omega
 ·have hd:decide (e = 0) = false:=by simp [c]
  have hx:max q 0 < n \/ ¬ max q 0 < n:=by omega
  have hz:n = 0:=by
   unfold zM at hns
   by_cases c4:s.2 = 0
   ·rw [if_neg (by simp [c4])] at hns
    by_cases c5:(rdN s.1).2.2 = 0
    ·rw [if_neg (by simp [c5])] at hns;have:=congrArg (fun x=>x.2.2) hns;simp only at this;exact absurd this.symm c
    ·rw [if_pos c5] at hns;exact (congrArg (fun x=>x.1) hns).symm
   ·rw [if_pos c4] at hns;exact (congrArg (fun x=>x.1) hns).symm
  subst hz;have hd2:decide (max q 0 < 0) = false:=by simp;omega
  rw [if_pos (show e ≠ 0 from c)];simp only [hd2,cond_false,zA,hd,Bool.not_false,cond_true];exact ⟨_,rfl,h2⟩
theorem rEndS_eq (hB:OkB B) (hO:Ok s) (h:Sim B a s):∃ a',yA B a s.2 = pure ((zba s).1,B,a',(zba s).1):=by
 have hlen:=hB.len;unfold yA yh zba
 by_cases c:s.2 = 0
 ·have h3:=h.eq c;have h4:=h.lo;have h5:=h.hi;have hbl:(s.1.length:Int) = B.length - a:=by rw [h3,List.length_drop];omega
  have e1:IntKind.i64.wrap ((B.length:Int) - a) = (s.1.length:Int):=by rw [uJ (by omega) (by omega)];omega
  simp only [c,decide_true,Bool.not_true,cond_false,e1,zB,zA]
  by_cases c2:0 < s.1.length
  ·have:decide ((0:Int) < (s.1.length:Int)) = true:=by simpa using c2
   have hF:=vq B a s (e:=4) (by decide);rw [c] at hF;simp only [this,cond_true,hF,zB,zA,if_pos c2];exact ⟨_,rfl⟩
  ·have:decide ((0:Int) < (s.1.length:Int)) = false:=by simpa using c2
   simp only [this,cond_false,zA,if_neg c2,c];exact ⟨_,rfl⟩
 ·have hn:=hO.nil c;have:decide (s.2 = 0) = false:=by simp [c]
  simp only [this,Bool.not_false,cond_true,zB,zA,show decide ((0:Int) < 0) = false from rfl,cond_false,hn,List.length_nil,show ¬ (0 < 0) by omega,if_false];exact ⟨_,rfl⟩
end Go.Ep.M.N


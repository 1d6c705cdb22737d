/- Side texts. -/
import Derived.Test.YtkebaehlcmgccaaGreatBBk10
set_option linter.unusedVariables false
set_option linter.unusedSimpArgs false
namespace Go.Ep.M.C
open Go

def yg (c:List PT) (k:Int):List RN:=(c.filter fun p=>decide (p.dev = k) && decide (0 < k)).flatMap (·.runs)
theorem jo (k:Int):yg [] k = []:=rfl
theorem Zc (p:PT) (c:List PT) (k:Int):yg (p :: c) k = (if p.dev = k /\ 0 < k then p.runs else []) ++ yg c k:=by
 unfold yg;rw [List.filter_cons]
 by_cases h:p.dev = k /\ 0 < k
 ·simp [h.1,h.2]
 ·rw [if_neg (by simpa using h),if_neg h];rfl
theorem UJ (a b:List PT) (k:Int):yg (a ++ b) k = yg a k ++ yg b k:=by simp [yg,List.filter_append]
theorem zca {c:List PT} {k:Int} (h:¬ 0 < k):yg c k = []:=by simp [yg,h]
def ve (c:List PT) (k n:Int):Bool:=R.yS (yg c k) n
theorem XP (a b:List PT) (k n:Int):ve (a ++ b) k n = (ve a k n || ve b k n):=by simp [ve,UJ,R.ux]
def xC (c:List PT):Nat:=(c.map fun p=>p.runs.length).sum
theorem XQ (a b:List PT):xC (a ++ b) = xC a + xC b:=by simp [xC]
theorem vf (c:List PT) (k:Int):(yg c k).length <= xC c:=by
 induction c with
 | nil=>simp [yg]
 | cons p r ih=>
  rw [Zc,List.length_append];have:xC (p :: r) = p.runs.length + xC r:=by simp [xC]
  split
  ·omega
  ·simp;omega
theorem zda (ks:List Int):(ks.map fun _=>0).sum = 0:=by
 induction ks with
 | nil=>rfl
 | cons k r ih=>rw [List.map_cons,List.sum_cons,ih]
theorem rawC_sum (c:List PT) (ks:List Int) (h:ks.Nodup):(ks.map fun k=>(yg c k).length).sum <= xC c:=by
 induction c with
 | nil=>simp only [jo,List.length_nil,zda];exact Nat.zero_le _
 | cons p r ih=>
  have e:xC (p :: r) = p.runs.length + xC r:=by simp [xC]
  have h1:(ks.map fun k=>(yg (p :: r) k).length).sum = (ks.map fun k=>if p.dev = k /\ 0 < k then p.runs.length else 0).sum + (ks.map fun k=>(yg r k).length).sum:=by
   clear h ih
   induction ks with
   | nil=>rfl
   | cons k ks ih2=>
    simp only [List.map_cons,List.sum_cons,Zc,List.length_append] at ih2 ⊢
    by_cases hc:p.dev = k /\ 0 < k
    ·rw [if_pos hc,if_pos hc];omega
    ·rw [if_neg hc,if_neg hc,List.length_nil];omega
  have h2:(ks.map fun k=>if p.dev = k /\ 0 < k then p.runs.length else 0).sum <= p.runs.length:=by
   clear ih h1 e
   induction ks with
   | nil=>simp
   | cons k ks ih2=>
    obtain ⟨n1,n2⟩:=List.nodup_cons.1 h;simp only [List.map_cons,List.sum_cons]
    by_cases hk:p.dev = k
    ·have h0:(ks.map fun k=>if p.dev = k /\ 0 < k then p.runs.length else 0).sum = 0:=by
      have:(ks.map fun k=>if p.dev = k /\ 0 < k then p.runs.length else 0) = ks.map fun _=>0:=by
       refine List.map_congr_left fun q hq=>?_
       rw [if_neg];rintro ⟨e,_⟩;exact n1 (by rw [<- hk,e];exact hq)
      rw [this];exact zda ks
     rw [h0]
     split <;> omega
    ·rw [if_neg (fun h=>hk h.1)];have:=ih2 n2;omega
  omega

def OrdP (l:List PT):Prop:=l.Pairwise fun x y=>x.dev < y.dev
theorem jp : ∀ {l l':List PT},OrdP l -> OrdP l' -> (∀ d,d ∈ l ↔ d ∈ l') -> l = l'
 | [],[],_,_,_=>rfl
 | [],y :: r,_,_,h=>absurd ((h y).2 (by simp)) (by simp)
 | x :: r,[],_,_,h=>absurd ((h x).1 (by simp)) (by simp)
 | x :: r,y :: q,h1,h2,h=>by
  obtain ⟨a1,a2⟩:=List.pairwise_cons.1 h1;obtain ⟨b1,b2⟩:=List.pairwise_cons.1 h2;have e:x = y:=by
   rcases List.mem_cons.1 ((h x).1 (by simp)) with e | hx
   ·exact e
   ·rcases List.mem_cons.1 ((h y).2 (by simp)) with e | hy
    ·exact e.symm
    ·have:=a1 y hy;have:=b1 x hx;omega
  subst e
  congr 1
  refine jp a2 b2 fun d=>⟨fun hd=>?_,fun hd=>?_⟩
  ·rcases List.mem_cons.1 ((h d).1 (List.mem_cons_of_mem _ hd)) with e | hx
   ·subst e;have:=a1 d hd;omega
   ·exact hx
  ·rcases List.mem_cons.1 ((h d).2 (List.mem_cons_of_mem _ hd)) with e | hx
   ·subst e;have:=b1 d hd;omega
   ·exact hx
def yV (f:Int -> List RN) (ks:List Int):List PT:=ks.filterMap fun k=>if f k = [] then none else some ⟨k,f k⟩
theorem uD {f:Int -> List RN} {ks:List Int} {p:PT}:p ∈ yV f ks ↔ p.dev ∈ ks /\ p.runs ≠ [] /\ p.runs = f p.dev:=by
 unfold yV;rw [List.mem_filterMap]
 constructor
 ·rintro ⟨k,hk,h⟩
  split at h
  ·cases h
  ·rename_i h0;cases h;exact ⟨hk,h0,rfl⟩
 ·rintro ⟨h1,h2,h3⟩;refine ⟨p.dev,h1,?_⟩;rw [if_neg (by rw [<- h3];exact h2),<- h3]
theorem uE {f:Int -> List RN} {ks:List Int} (h:ks.Pairwise (· < ·)):OrdP (yV f ks):=by
 unfold OrdP yV;rw [List.pairwise_filterMap];refine h.imp fun {a b} hab x hx y hy=>?_
 split at hx
 ·cases hx
 ·split at hy
  ·cases hy
  ·cases hx;cases hy;exact hab
theorem Jo {f g:Int -> List RN} {ks ls:List Int} (h1:ks.Pairwise (· < ·)) (h2:ls.Pairwise (· < ·)) (hf:∀ k,f k = g k) (h:∀ k,f k ≠ [] -> (k ∈ ks ↔ k ∈ ls)):yV f ks = yV g ls:=by
 refine jp (uE h1) (uE h2) fun p=>?_
 rw [uD,uD]
 constructor
 ·rintro ⟨a,b,c⟩;exact ⟨(h _ (by rw [<- c];exact b)).1 a,b,by rw [c,hf]⟩
 ·rintro ⟨a,b,c⟩;exact ⟨(h _ (by rw [hf,<- c];exact b)).2 a,b,by rw [c,hf]⟩
theorem x3a (f:Int -> List RN) (ks:List Int):(yV f ks).length <= ks.length:=List.length_filterMap_le _ _
theorem x4a (f:Int -> List RN) (ks:List Int):xC (yV f ks) = (ks.map fun k=>(f k).length).sum:=by
 induction ks with
 | nil=>rfl
 | cons k ks ih=>
  have:yV f (k :: ks) = (if f k = [] then [] else [⟨k,f k⟩]) ++ yV f ks:=by
   unfold yV
   by_cases h:f k = [] <;> simp [h]
  rw [this,XQ,ih]
  by_cases h:f k = [] <;> simp [h,xC]
theorem Jp {f:Int -> List RN} {ks:List Int} (h:ks.Nodup) (k:Int):yg (yV f ks) k = if k ∈ ks /\ 0 < k then f k else []:=by
 induction ks with
 | nil=>simp [yV,yg]
 | cons q ks ih=>
  obtain ⟨n1,n2⟩:=List.nodup_cons.1 h;have e:yV f (q :: ks) = (if f q = [] then [] else [⟨q,f q⟩]) ++ yV f ks:=by
   unfold yV
   by_cases h:f q = [] <;> simp [h]
  rw [e,UJ,ih n2]
  by_cases hq:q = k
  ·subst hq;rw [if_neg (fun (h:q ∈ ks /\ 0 < q)=>n1 h.1),List.append_nil]
   by_cases h0:f q = []
   ·rw [if_pos h0,h0];simp [yg]
   ·rw [if_neg h0]
    by_cases hp:0 < q
    ·rw [if_pos ⟨List.mem_cons_self,hp⟩];simp [yg,hp]
    ·rw [if_neg (fun h=>hp h.2)];exact zca hp
  ·have:yg (if f q = [] then [] else [(⟨q,f q⟩:PT)]) k = []:=by
    by_cases h0:f q = [] <;> simp [h0,yg,hq]
   rw [this];have hm:(k ∈ q :: ks) ↔ k ∈ ks:=by simp [Ne.symm hq]
   simp only [hm,List.nil_append]

def ysa (l:List Int) (p:PT):List Int:=if 0 < p.dev then V.qV l p.dev else l
def UK (c:List PT):List Int:=c.foldl ysa []
theorem UF (c:List PT):∀ l:List Int,l.Pairwise (· < ·) -> (c.foldl ysa l).Pairwise (· < ·) /\ (∀ k,k ∈ c.foldl ysa l ↔ k ∈ l \/ ∃ p ∈ c,p.dev = k /\ 0 < k) /\ (c.foldl ysa l).length <= l.length + c.length:=by
 induction c with
 | nil=>intro l h;simp [h]
 | cons p r ih=>
  intro l h;rw [List.foldl_cons]
  by_cases hp:0 < p.dev
  ·have e:ysa l p = V.qV l p.dev:=by simp [ysa,hp]
   rw [e];obtain ⟨h1,h2,h3⟩:=ih _ (V.Za h p.dev);refine ⟨h1,fun k=>?_,by have:=V.UE l p.dev;simp;omega⟩;rw [h2,V.jm]
   constructor
   ·rintro ((rfl | h4) | ⟨x,h4,h5⟩)
    ·exact .inr ⟨p,by simp,rfl,hp⟩
    ·exact .inl h4
    ·exact .inr ⟨x,by simp [h4],h5⟩
   ·rintro (h4 | ⟨x,h4,h5,h6⟩)
    ·exact .inl (.inr h4)
    ·rcases List.mem_cons.1 h4 with rfl | h4
     ·exact .inl (.inl h5.symm)
     ·exact .inr ⟨x,h4,h5,h6⟩
  ·have e:ysa l p = l:=by simp [ysa,hp]
   rw [e];obtain ⟨h1,h2,h3⟩:=ih _ h;refine ⟨h1,fun k=>?_,by simp;omega⟩;rw [h2]
   constructor
   ·rintro (h4 | ⟨x,h4,h5⟩)
    ·exact .inl h4
    ·exact .inr ⟨x,by simp [h4],h5⟩
   ·rintro (h4 | ⟨x,h4,h5,h6⟩)
    ·exact .inl h4
    ·rcases List.mem_cons.1 h4 with rfl | h4
     ·rw [h5] at hp;exact absurd h6 hp
     ·exact .inr ⟨x,h4,h5,h6⟩
theorem vJ (c:List PT):(UK c).Pairwise (· < ·):=(UF c [] List.Pairwise.nil).1
theorem yta {l:List Int} (h:l.Pairwise (· < ·)):l.Nodup:=h.imp fun {a b} h e=>by omega
theorem Uv (c:List PT):(UK c).Nodup:=yta (vJ c)
theorem vA {c:List PT} {k:Int}:k ∈ UK c ↔ (∃ p ∈ c,p.dev = k) /\ 0 < k:=by
 have:=(UF c [] List.Pairwise.nil).2.1 k;unfold UK;rw [this];simp only [List.not_mem_nil,false_or]
 constructor
 ·rintro ⟨p,h1,h2,h3⟩;exact ⟨⟨p,h1,h2⟩,h3⟩
 ·rintro ⟨⟨p,h1,h2⟩,h3⟩;exact ⟨p,h1,h2,h3⟩
theorem len_devs (c:List PT):(UK c).length <= c.length:=by simpa [UK] using (UF c [] List.Pairwise.nil).2.2
theorem YC {c:List PT} {k:Int} (h:yg c k ≠ []):k ∈ UK c:=by
 rw [vA];refine Classical.byContradiction fun hn=>h ?_
 unfold yg;have:(c.filter fun p=>decide (p.dev = k) && decide (0 < k)) = []:=by
  rw [List.filter_eq_nil_iff];intro p hp;simp only [Bool.and_eq_true,decide_eq_true_eq];rintro ⟨h1,h2⟩;exact hn ⟨⟨p,hp,h1⟩,h2⟩
 rw [this];rfl

def opC (op:Bool -> Bool -> Bool) (a b:List PT):List PT:=yV (fun k=>R.YH op (yg a k) (yg b k)) (UK (a ++ b))
def zQ (c:List PT):List PT:=yV (fun k=>R.nrm (yg c k)) (UK c)
theorem wqa {op:Bool -> Bool -> Bool} (h0:op false false = false):R.YH op [] [] = []:=by
 have:=R.zp op h0 [] [];exact R.UG this.1 trivial fun n=>by rw [this.2.1];exact h0
theorem Jq : R.nrm [] = []:=wqa rfl
theorem Uw {op:Bool -> Bool -> Bool} (h0:op false false = false) (a b:List PT) (k n:Int):ve (opC op a b) k n = op (ve a k n) (ve b k n):=by
 unfold ve opC;rw [Jp (Uv _)]
 split
 ·rw [(R.zp op h0 _ _).2.1]
 ·rename_i h
  have e:yg a k = [] /\ yg b k = []:=by
   have h1:yg (a ++ b) k = []:=Classical.byContradiction fun h2=>h ⟨YC h2,(vA.1 (YC h2)).2⟩
   rw [UJ] at h1;simpa using h1
  rw [e.1,e.2];show R.yS [] n = _;simp [R.yS,h0]
theorem xx (c:List PT) (k n:Int):ve (zQ c) k n = ve c k n:=by
 unfold ve zQ;rw [Jp (Uv _)]
 split
 ·rw [R.vd]
 ·rename_i h
  have e:yg c k = []:=Classical.byContradiction fun h2=>h ⟨YC h2,(vA.1 (YC h2)).2⟩
  rw [e]
structure Canon (c:List PT):Prop where
 ord:OrdP c
 nf:∀ p ∈ c,0 < p.dev /\ p.runs ≠ [] /\ R.Nf p.runs
theorem Jr {f:Int -> List RN} {c:List PT} (h:∀ k,R.Nf (f k)):Canon (yV f (UK c)):=⟨uE (vJ c),fun p hp=>by
 obtain ⟨h1,h2,h3⟩:=uD.1 hp;exact ⟨(vA.1 h1).2,h2,by rw [h3];exact h _⟩⟩
theorem Wm {op:Bool -> Bool -> Bool} (h0:op false false = false) (a b:List PT):Canon (opC op a b):=Jr fun _=>(R.zp op h0 _ _).1
theorem yM (c:List PT):Canon (zQ c):=Jr fun _=>R.Xc _
theorem zea : ∀ {c:List PT},OrdP c -> ∀ p ∈ c,0 < p.dev -> yg c p.dev = p.runs
 | [],_,p,hp,_=>by simp at hp
 | q :: r,h,p,hp,h0=>by
  obtain ⟨h1,h2⟩:=List.pairwise_cons.1 h;rw [Zc];rcases List.mem_cons.1 hp with rfl | hp
  ·rw [if_pos ⟨rfl,h0⟩];have:yg r p.dev = []:=by
    unfold yg;have:(r.filter fun x=>decide (x.dev = p.dev) && decide (0 < p.dev)) = []:=by
     rw [List.filter_eq_nil_iff];intro x hx;have:=h1 x hx;simp;omega
    rw [this];rfl
   rw [this,List.append_nil]
  ·have:=h1 p hp;rw [if_neg (by omega),zea h2 p hp h0];rfl
theorem Canon.eq_norm {c:List PT} (h:Canon c):c = zQ c:=by
 refine jp h.ord (yM c).ord fun p=>?_
 unfold zQ;rw [uD]
 constructor
 ·intro hp;obtain ⟨h1,h2,h3⟩:=h.nf p hp;exact ⟨vA.2 ⟨⟨p,hp,rfl⟩,h1⟩,h2,by rw [zea h.ord p hp h1,R.zZa h3]⟩
 ·rintro ⟨h1,h2,h3⟩;obtain ⟨⟨q,hq,hd⟩,h0⟩:=vA.1 h1;obtain ⟨g1,g2,g3⟩:=h.nf q hq;have e:yg c p.dev = q.runs:=by rw [<- hd];exact zea h.ord q hq g1
  rw [e,R.zZa g3] at h3;have:p = q:=by cases p;cases q;simp_all
  rw [this];exact hq
theorem Js {a b:List PT} (h:∀ k n,ve a k n = ve b k n):zQ a = zQ b:=by
 have hf:∀ k,R.nrm (yg a k) = R.nrm (yg b k):=fun k=>R.UG (R.Xc _) (R.Xc _) fun n=>by rw [R.vd,R.vd];exact h k n
 refine Jo (vJ a) (vJ b) hf fun k hk=>?_
 have ha:yg a k ≠ []:=fun e=>hk (by rw [e];exact Jq)
 have hb:yg b k ≠ []:=fun e=>hk (by rw [hf,e];exact Jq)
 exact ⟨fun _=>YC hb,fun _=>YC ha⟩
theorem Canon.ext {a b:List PT} (ha:Canon a) (hb:Canon b) (h:∀ k n,ve a k n = ve b k n):a = b:=by rw [ha.eq_norm,hb.eq_norm];exact Js h
theorem xg {c:List PT} (h:Canon c):zQ c = c:=h.eq_norm.symm
theorem ZLa (a b:List PT):zQ (a ++ b) = opC (· || ·) a b:=(yM _).ext (Wm rfl a b) fun k n=>by rw [xx,XP,Uw rfl]
theorem yua : Canon []:=⟨List.Pairwise.nil,fun p h=>by simp at h⟩
theorem yw (c:List PT):(zQ c).length <= c.length:=Nat.le_trans (x3a _ _) (len_devs c)
theorem sum_le {ks:List Int} {f g:Int -> Nat} (h:∀ k,f k <= g k):(ks.map f).sum <= (ks.map g).sum:=by
 induction ks with
 | nil=>simp
 | cons k r ih=>have:=h k;simp;omega
theorem sum_two (ks:List Int) (f g:Int -> Nat):(ks.map fun k=>2 * (f k + g k)).sum = 2 * ((ks.map f).sum + (ks.map g).sum):=by
 induction ks with
 | nil=>rfl
 | cons k r ih=>simp;omega
theorem yx (c:List PT):xC (zQ c) <= 2 * xC c:=by
 unfold zQ;rw [x4a];refine Nat.le_trans (sum_le (g:=fun k=>2 * ((yg c k).length + 0)) fun k=>by have:=R.Zb (yg c k);omega) ?_;rw [sum_two];have h1:=rawC_sum c (UK c) (Uv _);have h2:=zda (UK c);omega


theorem get_grow (l:List (Int × List RN)):∀ (m:List (Int × List RN)) (k:Int),AL.getZ (AL.grow m l) k [] = AL.getZ m k [] ++ (l.filter fun x=>decide (x.1 = k)).flatMap (·.2):=by
 induction l with
 | nil=>intro m k;simp [AL.grow]
 | cons x r ih=>
  intro m k;show AL.getZ (AL.grow (AL.set m x.1 (AL.getZ m x.1 [] ++ x.2)) r) k [] = _;rw [ih,AL.getZ_set,List.filter_cons]
  by_cases h:x.1 = k
  ·subst h;simp
  ·simp [h]
theorem vta (l:List (Int × List RN)):∀ m:List (Int × List RN),(m.map (·.1)).Nodup -> ((AL.grow m l).map (·.1)).Nodup:=by
 induction l with
 | nil=>intro m h;exact h
 | cons x r ih=>intro m h;exact ih _ (AL.nodup_set h _ _)
theorem len_grow (l:List (Int × List RN)):∀ m:List (Int × List RN),(AL.grow m l).length <= m.length + l.length:=by
 induction l with
 | nil=>intro m;exact Nat.le_refl _
 | cons x r ih=>
  intro m;have h1:=ih (AL.set m x.1 (AL.getZ m x.1 [] ++ x.2));have h2:=AL.len_set m x.1 (AL.getZ m x.1 [] ++ x.2);show (AL.grow (AL.set m x.1 (AL.getZ m x.1 [] ++ x.2)) r).length <= _;simp only [List.length_cons];omega
theorem key_grow (l:List (Int × List RN)):∀ (m:List (Int × List RN)) (k:Int),k ∈ (AL.grow m l).map (·.1) -> k ∈ m.map (·.1) \/ ∃ x ∈ l,x.1 = k:=by
 induction l with
 | nil=>intro m k h;exact .inl h
 | cons x r ih=>
  intro m k h;rcases ih _ k h with h | ⟨y,hy,e⟩
  ·rw [AL.keys_set] at h
   split at h
   ·exact .inl h
   ·rcases List.mem_append.1 h with h | h
    ·exact .inl h
    ·exact .inr ⟨x,by simp,(List.mem_singleton.1 h).symm⟩
  ·exact .inr ⟨y,by simp [hy],e⟩
def uZ (c:List PT):List (Int × List RN):=AL.grow [] (c.filterMap zi)
theorem uL (c:List PT) (k:Int):AL.getZ (uZ c) k [] = yg c k:=by
 unfold uZ;rw [get_grow];show [] ++ _ = _;rw [List.nil_append]
 induction c with
 | nil=>rfl
 | cons p r ih=>
  rw [Zc,<- ih,List.filterMap_cons]
  by_cases h0:0 < p.dev
  ·have e:zi p = some (p.dev,p.runs):=by simp [zi,h0]
   rw [e];simp only [List.filter_cons]
   by_cases h:p.dev = k
   ·subst h;simp [h0]
   ·simp [h]
  ·have e:zi p = none:=by simp [zi,h0]
   rw [e,if_neg (by rintro ⟨h1,h2⟩;omega)];rfl
theorem ZF (c:List PT):((uZ c).map (·.1)).Nodup:=vta _ _ (by simp)
theorem wra (c:List PT):(uZ c).length <= c.length:=by
 have h1:=len_grow (c.filterMap zi) [];have h2:=List.length_filterMap_le zi c;unfold uZ;simp at h1;omega
theorem told_pos {c:List PT} {k:Int} (h:k ∈ (uZ c).map (·.1)):0 < k /\ k ∈ UK c:=by
 rcases key_grow _ _ _ h with h | ⟨x,hx,rfl⟩
 ·simp at h
 ·rw [List.mem_filterMap] at hx;obtain ⟨p,hp,hx⟩:=hx;unfold zi at hx
  split at hx
  ·rename_i h0;cases hx;exact ⟨h0,vA.2 ⟨⟨p,hp,rfl⟩,h0⟩⟩
  ·cases hx
theorem XL {c:List PT} {e:Int × List RN} (h:e ∈ uZ c):e.2 = yg c e.1 /\ 0 < e.1 /\ e.1 ∈ UK c:=by
 have h1:=AL.mem_get (ZF c) (k:=e.1) (v:=e.2) h;have h2:=uL c e.1;unfold AL.getZ at h2;rw [h1] at h2;exact ⟨h2,told_pos (List.mem_map.2 ⟨e,h,rfl⟩)⟩
theorem ZMa {c:List PT} {k:Int} (h:yg c k ≠ []):(k,yg c k) ∈ uZ c:=by
 have h2:=uL c k;unfold AL.getZ at h2
 cases hg:AL.get (uZ c) k with
 | none=>rw [hg] at h2;exact absurd h2.symm h
 | some v=>rw [hg] at h2;simp only [Option.getD_some] at h2;subst h2;exact AL.get_mem hg
theorem wsa (c:List PT):((c.filterMap zi).map fun x=>x.2.length).sum <= xC c:=by
 induction c with
 | nil=>simp
 | cons p r ih=>
  have e:xC (p :: r) = p.runs.length + xC r:=by simp [xC]
  rw [List.filterMap_cons]
  by_cases h0:0 < p.dev
  ·have e2:zi p = some (p.dev,p.runs):=by simp [zi,h0]
   rw [e2];simp only [List.map_cons,List.sum_cons];omega
  ·have e2:zi p = none:=by simp [zi,h0]
   rw [e2];simp only;omega
def Sm (c:List PT):Prop:=c.length <= 10000000000 /\ xC c <= 10000000000
theorem zfa (c:List PT) (h:Sm c):Yl c = pure (uZ c):=by
 unfold Yl;rw [zD]
 ·rfl
 ·have:=wsa c;refine ⟨by have:=h.1;omega,?_⟩;have:=h.2;omega
theorem wta (m:List (Int × List RN)) (f:Int -> List RN) (ks:List Int) (hl:m.length <= 1000000000000) (hr:∀ e ∈ m,e.2.length <= 1000000000000) (hn:(m.map (·.1)).Nodup) (hs:ks.Pairwise (· < ·)) (h1:∀ e ∈ m,R.nrm e.2 ≠ [] -> e.1 ∈ ks /\ R.nrm e.2 = f e.1) (h2:∀ k ∈ ks,f k ≠ [] -> ∃ r,(k,r) ∈ m /\ R.nrm r = f k):uQ m = pure (yV f ks):=by
 unfold uQ;have hall:∀ Q:List PT -> Prop,(∀ l:List (Int × List RN),l.Perm m -> Q ((l.filter fun e=>decide (R.nrm e.2 ≠ [])).map fun e=>(⟨e.1,R.nrm e.2⟩:PT))) -> (loop (Zr m) ([],([]:List PT))).wp Q:=by
  intro Q hQ;refine M.loopM (body:=Zr m) m (fun L (t:List PT)=>(L,t)) (fun t e=>(xu e.2).det.bind fun v=>if 0 < v.length then yW ((t.length + 1) * 32 <= 140737488355328) (pure (t ++ [(⟨e.1,v⟩:PT)])) else pure t) (fun t=>pure t)
   (fun l t=>t = ((l.filter fun e=>decide (R.nrm e.2 ≠ [])).map fun e=>(⟨e.1,R.nrm e.2⟩:PT))) Q (fun L t hL=>?_) (fun l t y ht hlen hy=>?_) (fun l t hp ht=>?_) [] rfl
  ·unfold Zr;show yW _ ((nxt _ _).bind _) = yW _ ((nxt _ _).bind _);refine congrArg (fun k=>yW _ ((nxt _ _).bind k)) (funext fun o=>?_)
   cases o with
   | none=>rfl
   | some i=>
    refine congrArg (fun k=>(idx m (Int.ofNat i)).bind k) (funext fun y=>?_);rw [qx];refine congrArg (fun k=>(xu y.2).det.bind k) (funext fun v=>?_);rw [yb]
    by_cases h:0 < v.length
    ·rw [if_pos (by omega),if_pos h];rfl
    ·rw [if_neg (by omega),if_neg h];rfl
  ·have hle:=List.length_filter_le (fun e:Int × List RN=>decide (R.nrm e.2 ≠ [])) l;have htl:t.length <= l.length:=by rw [ht,List.length_map];exact hle
   rw [R.Uu y.2 (hr y hy),zB,zA];refine ⟨if R.nrm y.2 = [] then t else t ++ [⟨y.1,R.nrm y.2⟩],?_,?_⟩
   ·by_cases h:R.nrm y.2 = []
    ·rw [if_neg (by rw [h];simp),if_pos h]
    ·rw [if_pos (by rw [List.length_pos_iff];exact h),if_neg h,zD (by omega)]
   ·subst ht;rw [List.filter_append,List.map_append]
    by_cases h:R.nrm y.2 = [] <;> simp [h]
  ·subst ht;exact hQ l hp
 refine ZJ (hall _ fun l hp=>?_);show (yW _ _).wp _;have hll:=hp.length_eq;have hle:=List.length_filter_le (fun e:Int × List RN=>decide (R.nrm e.2 ≠ [])) l;have hmem:∀ d:PT,d ∈ ((l.filter fun e=>decide (R.nrm e.2 ≠ [])).map fun e=>(⟨e.1,R.nrm e.2⟩:PT)) ↔ d ∈ yV f ks:=by
  intro d;rw [uD,List.mem_map]
  constructor
  ·rintro ⟨e,he,rfl⟩;rw [List.mem_filter,hp.mem_iff] at he;have h0:R.nrm e.2 ≠ []:=by simpa using he.2
   obtain ⟨h3,h4⟩:=h1 e he.1 h0;exact ⟨h3,h0,h4⟩
  ·rintro ⟨h3,h4,h5⟩;obtain ⟨r,h6,h7⟩:=h2 d.dev h3 (by rw [<- h5];exact h4);refine ⟨(d.dev,r),?_,by show (⟨d.dev,R.nrm r⟩:PT) = d;rw [h7,<- h5]⟩;rw [List.mem_filter,hp.mem_iff];refine ⟨h6,?_⟩;simp only [decide_eq_true_eq];rw [h7,<- h5];exact h4
 have hnd:((l.filter fun e=>decide (R.nrm e.2 ≠ [])).map fun e=>(⟨e.1,R.nrm e.2⟩:PT)).Pairwise (fun x y=>x.dev ≠ y.dev):=by
  rw [List.pairwise_map];have:l.Pairwise (fun x y=>x.1 ≠ y.1):=by
   have:=(hp.map (·.1)).nodup_iff.2 hn;exact List.pairwise_map.1 this
  exact (this.filter _)
 refine ⟨by simp only [List.length_map];omega,⟨?_,fun l' ⟨hp',hs'⟩=>?_⟩⟩
 ·refine ⟨yV f ks,?_,?_⟩
  ·refine (List.perm_ext_iff_of_nodup ?_ ?_).2 fun d=>(hmem d).symm
   ·exact (uE hs).imp fun {a b} h e=>by subst e;omega
   ·exact hnd.imp fun {a b} h e=>by subst e;exact h rfl
  ·exact (uE hs).imp fun {a b} h=>by simp [qy];omega
 ·show l' = _;refine jp ?_ (uE hs) fun d=>by rw [hp'.mem_iff];exact hmem d
  have hnd':=(hp'.pairwise_iff (fun {a b} h=>Ne.symm h)).2 hnd;exact (hs'.and hnd').imp fun {a b} ⟨h3,h4⟩=>by simp [qy] at h3;omega
theorem QL (c:List PT) (h:Sm c):uQ (uZ c) = pure (zQ c):=by
 refine wta _ _ _ (by have:=wra c;have:=h.1;omega) (fun e he=>?_) (ZF c) (vJ c) (fun e he h0=>?_) (fun k hk h0=>?_)
 ·rw [(XL he).1];have:=vf c e.1;have:=h.2;omega
 ·obtain ⟨h1,h2,h3⟩:=XL he;exact ⟨h3,by rw [h1]⟩
 ·exact ⟨_,ZMa (fun e=>h0 (by rw [e];exact Jq)),rfl⟩
theorem VR (c:List PT) (h:Sm c):uH c = pure (zQ c):=by
 unfold uH;rw [zfa c h,zB,zA,QL c h,zB,zA]
theorem Runs_eq (c:List PT) (k:Int) (h:Sm c):jY c k = pure (R.nrm (yg c k)):=by
 unfold jY;rw [zfa c h,zB,zA,uL,R.Uu _ (by have:=vf c k;have:=h.2;omega),zB,zA]
theorem Jt (c:List PT) (d:DT) (h:Sm c):ZN c d = pure (ve c d.dev d.n):=by
 unfold ZN;rw [yb]
 by_cases h0:0 < d.dev
 ·rw [if_pos h0,Runs_eq c _ h,zB,zA,R.has_eq _ _ (by have:=R.Zb (yg c d.dev);have:=vf c d.dev;have:=h.2;omega),zB,zA,zA,R.vd]
  rfl
 ·rw [if_neg h0,zA];show pure false = pure (R.yS (yg c d.dev) d.n);rw [zca h0];rfl
def yU (l:List DT):List PT:=(l.filter V.zt).map fun d=>⟨d.dev,[⟨d.n,d.n⟩]⟩
theorem goodB (d:DT):Jd d = V.zt d:=by
 rw [Bool.eq_iff_iff,V.xv];simp [Jd];omega
theorem ofF (d:DT):Je d = if V.zt d = true then some (d.dev,[⟨d.n,d.n⟩]) else none:=by unfold Je;rw [goodB]
theorem ZNa (l:List DT):l.filterMap Je = (yU l).filterMap zi:=by
 induction l with
 | nil=>rfl
 | cons d r ih=>
  unfold yU at ih ⊢;rw [List.filterMap_cons,List.filter_cons,ofF]
  by_cases h:V.zt d = true
  ·rw [if_pos h,if_pos h,List.map_cons,List.filterMap_cons];have:zi ⟨d.dev,[⟨d.n,d.n⟩]⟩ = some (d.dev,[⟨d.n,d.n⟩]):=by
    have:=V.xv.1 h;unfold zi;rw [if_pos (by show 0 < d.dev;omega)]
   rw [this,<- ih]
  ·rw [if_neg h,if_neg h,<- ih]
theorem vg (l:List DT):(yU l).length <= l.length:=by rw [yU,List.length_map];exact List.length_filter_le _ _
theorem UL (l:List DT):xC (yU l) <= l.length:=by
 have:xC (yU l) = (yU l).length:=by
  unfold yU
  generalize l.filter V.zt = q
  induction q with
  | nil=>rfl
  | cons x r ih=>simp [xC] at ih ⊢;omega
 have:=vg l;omega
theorem sm_dots {l:List DT} (h:l.length <= 10000000000):Sm (yU l):=⟨by have:=vg l;omega,by have:=UL l;omega⟩
theorem has_dots (l:List DT) (k n:Int):ve (yU l) k n = true ↔ ∃ d ∈ l,V.zt d = true /\ d.dev = k /\ d.n = n:=by
 induction l with
 | nil=>simp [ve,yU,yg,R.yS]
 | cons d r ih=>
  have e:yU (d :: r) = (if V.zt d = true then [⟨d.dev,[⟨d.n,d.n⟩]⟩] else []) ++ yU r:=by
   unfold yU;rw [List.filter_cons]
   by_cases h:V.zt d = true <;> simp [h]
  rw [e,XP,Bool.or_eq_true,ih];have h1:ve (if V.zt d = true then [⟨d.dev,[⟨d.n,d.n⟩]⟩] else []) k n = true ↔ V.zt d = true /\ d.dev = k /\ d.n = n:=by
   by_cases h:V.zt d = true
   ·have hg:=V.xv.1 h;rw [if_pos h];unfold ve;rw [Zc,jo,List.append_nil]
    by_cases hk:d.dev = k /\ 0 < k
    ·rw [if_pos hk,R.vc,R.yj];show (1 <= d.n /\ d.n <= d.n /\ d.n <= 281474976710655) /\ d.n <= n /\ n <= d.n ↔ _
     constructor
     ·intro h2;exact ⟨h,hk.1,by omega⟩
     ·rintro ⟨_,_,h3⟩;omega
    ·rw [if_neg hk]
     constructor
     ·intro h2;cases h2
     ·rintro ⟨_,h2,_⟩;exact absurd ⟨h2,by omega⟩ hk
   ·rw [if_neg h]
    constructor
    ·intro h2;cases h2
    ·rintro ⟨h2,_⟩;exact absurd h2 h
  rw [h1]
  constructor
  ·rintro (h2 | ⟨x,h2,h3⟩)
   ·exact ⟨d,by simp,h2⟩
   ·exact ⟨x,by simp [h2],h3⟩
  ·rintro ⟨x,h2,h3⟩;rcases List.mem_cons.1 h2 with rfl | h2
   ·exact .inl h3
   ·exact .inr ⟨x,h2,h3⟩
theorem Of_eq (l:List DT) (h:l.length <= 10000000000):u6a l = pure (zQ (yU l)):=by
 unfold u6a;rw [ZNa,zD]
 ·have:=QL (yU l) (sm_dots h);unfold uZ at this;rw [this,zB,zA]
 ·have h1:=wsa (yU l);have h2:=UL l;exact ⟨by omega,by omega⟩
theorem growC_eq (n:Int) (h0:0 <= n) (h:n <= 1000000000000):xR n = pure []:=by
 unfold xR;have e:IntKind.i64.wrap (n - IntKind.i64.wrap (0 - 0)) = n:=by
  rw [Xi (n:=0 - 0) (by omega) (by omega),Xi (by omega) (by omega)];omega
 simp only [e,yb];rw [if_neg (by omega)]
 split
 ·rw [zD ⟨by omega,by omega⟩,zD ⟨by omega,by omega,by omega⟩];simp [zA]
 ·simp [zA]
theorem vua (a b:List PT) (h:a.length + b.length <= 1000000000000):xj [a,b] = pure (a ++ b):=by
 unfold xj;have e1:ze [a,b] (0,0) = pure (.next ((a.length:Int),1)):=by
  unfold ze;have:IntKind.i64.wrap (0 + (a.length:Int)) = a.length:=by rw [Xi (by omega) (by omega)];omega
  simp only [yb,YM (l:=[a,b]) (i:=0) (y:=a) (by omega) rfl,zA,this];rw [if_pos (by simp),if_neg (by omega),Xi (by omega) (by omega)];rfl
 have e2:ze [a,b] ((a.length:Int),1) = pure (.next ((a.length:Int) + b.length,2)):=by
  unfold ze;have:IntKind.i64.wrap ((a.length:Int) + b.length) = a.length + b.length:=by rw [Xi (by omega) (by omega)]
  simp only [yb,YM (l:=[a,b]) (i:=1) (y:=b) (by omega) rfl,zA,this];rw [if_pos (by simp),if_neg (by omega),Xi (by omega) (by omega)];rfl
 have e3:ze [a,b] ((a.length:Int) + b.length,2) = pure (.done ((a.length:Int) + b.length)):=by
  unfold ze;simp
 have f1:zf [a,b] (0,[]) = pure (.next (1,a)):=by
  unfold zf;simp only [yb,YM (l:=[a,b]) (i:=0) (y:=a) (by omega) rfl,zA];rw [if_pos (by simp),zD (by simp;omega),Xi (by omega) (by omega)];rfl
 have f2:zf [a,b] (1,a) = pure (.next (2,a ++ b)):=by
  unfold zf;simp only [yb,YM (l:=[a,b]) (i:=1) (y:=b) (by omega) rfl,zA];rw [if_pos (by simp),zD (by omega),Xi (by omega) (by omega)];rfl
 have f3:zf [a,b] (2,a ++ b) = pure (.done (a ++ b)):=by
  unfold zf;simp
 rw [zl e1,zl e2,zY e3,zA,growC_eq _ (by omega) (by omega),zB,zA,zl f1,zl f2,zY f3,zA]
theorem sm_app {a b:List PT} (ha:a.length + b.length <= 10000000000) (hb:xC a + xC b <= 10000000000):Sm (a ++ b):=⟨by rw [List.length_append];exact ha,by rw [XQ];exact hb⟩
theorem ZOa (a b:List PT) (h:Sm (a ++ b)):jl a b = pure (opC (· || ·) a b):=by
 unfold jl;rw [vua a b (by have:=h.1;rw [List.length_append] at this;omega),zB,zA,VR _ h,zB,zA,ZLa]
theorem Add_eq (c:List PT) (l:List DT) (hl:l.length <= 1000000000) (h1:c.length <= 1000000000) (h2:xC c <= 1000000000):zQa c l = pure (opC (· || ·) c (yU l)):=by
 unfold zQa;have h3:=vg l;have h4:=UL l;have h5:=yw (yU l);have h6:=yx (yU l);rw [Of_eq l (by omega),zB,zA,ZOa _ _ (sm_app (by omega) (by omega)),zB,zA];refine congrArg pure ((Wm rfl _ _).ext (Wm rfl _ _) fun k n=>?_);rw [Uw rfl,Uw rfl,xx]
def yna (h:Int × List RN -> List RN) (m:List (Int × List RN)) (L:List Nat):List (Int × List RN):=m.zipIdx.map fun y=>if y.2 ∈ L then (y.1.1,h y.1) else y.1
theorem uw {h:Int × List RN -> List RN} {m:List (Int × List RN)} {L:List Nat} {i:Nat}:(yna h m L)[i]? = (m[i]?).map fun e=>if i ∈ L then (e.1,h e) else e:=by
 unfold yna;rw [List.getElem?_map,List.getElem?_zipIdx]
 cases m[i]? <;> simp
theorem zSa {h:Int × List RN -> List RN} {m:List (Int × List RN)} {L:List Nat}:(yna h m L).length = m.length:=by simp [yna]
theorem set_at {m:List (Int × List RN)} (hn:(m.map (·.1)).Nodup) {i:Nat} {e:Int × List RN} (hi:m[i]? = some e) (v:List RN):AL.set m e.1 v = m.set i (e.1,v):=by
 induction m generalizing i with
 | nil=>simp at hi
 | cons x r ih=>
  obtain ⟨a,u⟩:=x;simp only [List.map_cons,List.nodup_cons] at hn
  cases i with
  | zero=>simp at hi;subst hi;simp [AL.set]
  | succ i=>
   simp at hi;have:a ≠ e.1:=fun q=>hn.1 (by rw [q];exact List.mem_map.2 ⟨e,List.mem_of_getElem? hi,rfl⟩)
   simp only [AL.set,this,if_false,List.set_cons_succ];rw [ih hn.2 hi]
theorem Jh {h:Int × List RN -> List RN} {m:List (Int × List RN)} {L:List Nat}:(yna h m L).map (·.1) = m.map (·.1):=by
 apply List.ext_getElem?;intro i;rw [List.getElem?_map,uw,List.getElem?_map]
 cases m[i]? with
 | none=>rfl
 | some e=>simp only [Option.map_some];split <;> rfl
theorem ZPa {h:Int × List RN -> List RN} {m:List (Int × List RN)} (hn:(m.map (·.1)).Nodup) {L:List Nat} {i:Nat} {e:Int × List RN} (hi:m[i]? = some e) (hL:i ∉ L):AL.set (yna h m L) e.1 (h e) = yna h m (L ++ [i]):=by
 have h1:(yna h m L)[i]? = some e:=by rw [uw,hi];simp [hL]
 rw [set_at (by rw [Jh];exact hn) h1];apply List.ext_getElem?;intro j;rw [List.getElem?_set,uw,uw]
 by_cases hj:i = j
 ·subst hj;have hlt:i < (yna h m L).length:=by rw [zSa];exact (List.getElem?_eq_some_iff.1 hi).1
  rw [if_pos rfl,if_pos hlt,hi];simp
 ·rw [if_neg hj]
  cases m[j]? with
  | none=>rfl
  | some x=>simp [Ne.symm hj]
theorem updM_all {h:Int × List RN -> List RN} {m:List (Int × List RN)} {L:List Nat} (hL:∀ i,i < m.length -> i ∈ L):yna h m L = m.map fun e=>(e.1,h e):=by
 apply List.ext_getElem?;intro i;rw [uw,List.getElem?_map]
 cases hi:m[i]? with
 | none=>rfl
 | some e=>simp [hL i (List.getElem?_eq_some_iff.1 hi).1]
theorem has_key {m:List (Int × List RN)} {k:Int} (h:k ∈ m.map (·.1)):AL.has m k = true:=by
 unfold AL.has
 cases hg:AL.get m k with
 | none=>exact absurd h (AL.get_none.1 hg)
 | some v=>rfl
theorem ZQa (body:List (Int × List RN) -> List Nat × List (Int × List RN) -> M (Step (List Nat × List (Int × List RN)) (List (Int × List RN)))) (do_:List RN -> List RN -> M (List RN)) (F:List RN -> List RN -> List RN) (m y:List (Int × List RN)) (hn:(m.map (·.1)).Nodup)
  (hb:∀ L v,body y (L,v) = yW (∀ i ∈ L,i < v.length) ((nxt v.length L).bind fun o=>match o with | none=>pure (.done v) | some j=>(idx v (Int.ofNat j)).bind fun kv=>(do_ kv.2 (AL.getZ y kv.1 [])).det.bind fun r=>yW (AL.has v kv.1 = true) (pure (.next (L ++ [j],AL.set v kv.1 r)))))
  (hdo:∀ e ∈ m,do_ e.2 (AL.getZ y e.1 []) = pure (F e.2 (AL.getZ y e.1 []))):loop (body y) ([],m) = pure (m.map fun e=>(e.1,F e.2 (AL.getZ y e.1 []))):=by
 refine ZJ ?_;have:=loopN (body:=body y) m.length (fun L (v:List (Int × List RN))=>(L,v)) (fun L v=>v = yna (fun e=>F e.2 (AL.getZ y e.1 [])) m L) (fun r=>r = m.map fun e=>(e.1,F e.2 (AL.getZ y e.1 []))) (fun L v hv hL hlt=>by
  have hlen:v.length = m.length:=by rw [hv];exact zSa
  refine ⟨fun o=>match o with | none=>pure (.done v) | some j=>(idx v (Int.ofNat j)).bind fun kv=>(do_ kv.2 (AL.getZ y kv.1 [])).det.bind fun r=>yW (AL.has v kv.1 = true) (pure (.next (L ++ [j],AL.set v kv.1 r))),?_,?_,?_⟩
  ·rw [hb,hlen]
  ·intro hall;show v = _;rw [hv];exact updM_all hall
  ·intro i hi hiL;have hm:=List.getElem?_eq_getElem hi;have hvi:v[i]? = some m[i]:=by rw [hv,uw,hm];simp [hiL]
   refine ⟨AL.set v (m[i]).1 (F (m[i]).2 (AL.getZ y (m[i]).1 [])),?_,?_⟩
   ·show (idx v (Int.ofNat i)).bind _ = _;rw [show (Int.ofNat i) = (i:Int) from rfl,zF hvi,zA,hdo _ (List.getElem_mem hi),zB,zA,zD];refine has_key ?_;rw [hv,Jh];exact List.mem_map.2 ⟨m[i],List.getElem_mem hi,rfl⟩
   ·rw [hv];exact ZPa hn hm hiL) m (by
  apply List.ext_getElem?;intro i;rw [uw]
  cases m[i]? <;> simp)
 exact this
theorem wua {op:Bool -> Bool -> Bool} (h0:op false false = false) (a b:List RN):R.nrm (R.YH op a b) = R.YH op a b:=R.zZa (R.zp op h0 a b).1
theorem vva {op:Bool -> Bool -> Bool} (h0:op false false = false) (hr:∀ x,op false x = false) (a b:List PT) (ha:Sm a) (hb:Sm b) :
  uQ ((uZ a).map fun e=>(e.1,R.YH op e.2 (AL.getZ (uZ b) e.1 []))) = pure (opC op a b):=by
 have hlenR:∀ x y:List RN,(R.YH op x y).length <= 2 * (x.length + y.length):=fun x y=>(R.zp op h0 x y).2.2
 refine wta _ _ _ (by have:=wra a;have:=ha.1;simp;omega) (fun e he=>?_) (by rw [List.map_map];exact ZF a) (vJ _) (fun e he hne=>?_) (fun k hk hne=>?_)
 ·obtain ⟨x,hx,rfl⟩:=List.mem_map.1 he;have h1:=hlenR x.2 (AL.getZ (uZ b) x.1 []);rw [(XL hx).1,uL] at h1;have:=vf a x.1;have:=vf b x.1;have:=ha.2;have:=hb.2;show (R.YH op x.2 (AL.getZ (uZ b) x.1 [])).length <= _;rw [(XL hx).1,uL];omega
 ·obtain ⟨x,hx,rfl⟩:=List.mem_map.1 he;obtain ⟨h1,h2,h3⟩:=XL hx;refine ⟨?_,?_⟩
  ·show x.1 ∈ _;obtain ⟨⟨p,hp,hd⟩,_⟩:=vA.1 h3;exact vA.2 ⟨⟨p,List.mem_append_left _ hp,hd⟩,h2⟩
  ·show R.nrm (R.YH op x.2 (AL.getZ (uZ b) x.1 [])) = _;rw [wua h0,uL,h1]
 ·have hra:yg a k ≠ []:=fun e=>hne (by
   rw [e];exact R.UG (R.zp op h0 _ _).1 trivial fun n=>by rw [(R.zp op h0 _ _).2.1];show op (R.yS [] n) _ = _;exact hr _)
  refine ⟨R.YH op (yg a k) (AL.getZ (uZ b) k []),List.mem_map.2 ⟨(k,yg a k),ZMa hra,rfl⟩,?_⟩;rw [wua h0,uL]
theorem Minus_eq (a b:List PT) (ha:Sm a) (hb:Sm b):Vn a b = pure (opC (fun x y=>x && !y) a b):=by
 unfold Vn vE;rw [zfa a ha,zB,zA,zfa b hb,zB,zA,ZQa vn YQ (R.YH (fun x y=>x && !y)) (uZ a) (uZ b) (ZF a) (fun L v=>rfl) (fun e he=>?_),zA,vva rfl (fun _=>rfl) a b ha hb,zB,zA,zB,zA];rw [(XL he).1,uL];have:=vf a e.1;have:=vf b e.1;have:=ha.2;have:=hb.2;exact R.minus_eq _ _ (by omega) (by omega)
theorem ZRa (a b:List PT) (ha:Sm a) (hb:Sm b):WZ a b = pure (decide (opC (fun x y=>x && !y) a b = [])):=by
 unfold WZ;rw [Minus_eq a b ha hb,zB,zA];refine congrArg pure ?_
 cases opC (fun x y=>x && !y) a b with
 | nil=>rfl
 | cons p r=>simp;omega
theorem partEq (x y:PT):(decide (x.dev = y.dev) && decide (x.runs = y.runs)) = decide (x = y):=by
 rw [Bool.eq_iff_iff]
 cases x;cases y
 simp
theorem eqP_eq (a b:List PT) (ha:a.length <= 1000000000000) (hr:∀ p ∈ a,p.runs.length <= 1000000000000):zX a b = pure (decide (a = b)):=by
 unfold zX
 by_cases hl:(a.length:Int) = b.length
 ·simp only [hl,decide_true,Bool.not_true,cond_false];have:=xX (body:=zS a b) a (fun i=>(i:Int)) (fun i x=>decide (b[i]? = some x)) (.brk ()) (.ret false) (fun i x hx hi=>by
   have hb:i < b.length:=by omega
   have hby:=List.getElem?_eq_getElem hb;unfold zS JR;have h1:decide ((i:Int) < (a.length:Int)) = true:=by simpa using hi
   simp only [h1,cond_true,zF hx,zF hby,zA,R.seq_eq x.runs _ (hr x (List.mem_of_getElem? hx)),zB,zh,partEq,zo (show i < 9223372036854775807 by omega)];rw [hby]
   by_cases hxy:x = b[i] <;> simp [hxy,eq_comm,zA]) (by unfold zS;simp)
  rw [show (0:Int) = ((0:Nat):Int) from rfl,this];have hiff:(a.zipIdx.all fun y=>decide (b[y.2]? = some y.1)) = decide (a = b):=by
   rw [Bool.eq_iff_iff,List.all_eq_true,decide_eq_true_eq]
   constructor
   ·intro h;apply List.ext_getElem?;intro i
    by_cases hi:i < a.length
    ·have:=h (a[i],i) (by rw [List.mem_zipIdx_iff_getElem?];exact List.getElem?_eq_getElem hi);simp only [decide_eq_true_eq] at this;rw [this,List.getElem?_eq_getElem hi]
    ·rw [List.getElem?_eq_none (by omega),List.getElem?_eq_none (by omega)]
   ·rintro rfl y hy;rw [List.mem_zipIdx_iff_getElem?] at hy;simpa using hy
  rw [hiff]
  by_cases h:a = b <;> simp [h,exk,zA]
 ·have:¬ a = b:=fun e=>hl (by rw [e])
  simp [hl,this]
theorem eq_eq (a b:List PT) (ha:a.length <= 1000000000000) (hr:∀ p ∈ a,p.runs.length <= 1000000000000):yLa a b = pure (decide (a = b)):=by
 unfold yLa;rw [eqP_eq a b ha hr,zB,zA]
theorem Ju {c:List PT}:∀ p ∈ c,p.runs.length <= xC c:=by
 induction c with
 | nil=>intro p hp;simp at hp
 | cons q r ih=>
  intro p hp;have e:xC (q :: r) = q.runs.length + xC r:=by simp [xC]
  rcases List.mem_cons.1 hp with rfl | hp
  ·omega
  ·have:=ih p hp;omega
theorem Same_eq (a b:List PT) (ha:Sm a) (hb:Sm b):jg a b = pure (decide (zQ a = zQ b)):=by
 unfold jg;have h1:=yw a;have h2:=yx a;have h3:=ha.1;have h4:=ha.2;rw [VR a ha,zB,zA,VR b hb,zB,zA,eq_eq _ _ (by omega) (fun p hp=>by have:=Ju p hp;omega),zB,zA]
theorem uF (c:List PT) (h:Sm c):uI c = pure (decide (c = zQ c)):=by
 unfold uI;rw [VR c h,zB,zA,eq_eq _ _ (by have:=h.1;omega) (fun p hp=>by have:=Ju p hp;have:=h.2;omega),zB,zA]


theorem rEq_eq (a b:List PT) (ha:a.length <= 1000000000000) (hr:∀ p ∈ a,p.runs.length <= 1000000000000):qz a b = pure (decide (a = b)):=by
 unfold qz
 by_cases hl:(a.length:Int) = b.length
 ·simp only [hl,decide_true,Bool.not_true,cond_false];have:=xX (body:=Vi a b) a (fun i=>(i:Int)) (fun i x=>decide (b[i]? = some x)) (.brk ()) (.ret false) (fun i x hx hi=>by
   have hb:i < b.length:=by omega
   have hby:=List.getElem?_eq_getElem hb;unfold Vi;have h1:decide ((i:Int) < (a.length:Int)) = true:=by simpa using hi
   simp only [h1,cond_true,zF hx,zF hby,zA,R.req_eq x.runs _ (hr x (List.mem_of_getElem? hx)),zB,zo (show i < 9223372036854775807 by omega)];rw [hby];have he:=partEq x b[i]
   by_cases hd:x.dev = (b[i]).dev
   ·by_cases hq:x.runs = (b[i]).runs
    ·simp only [hd,hq,decide_true,Bool.and_self,eq_comm (a:=true),decide_eq_true_eq] at he;simp [hd,hq,he,zA]
    ·have hne:¬ x = b[i]:=fun e=>hq (by rw [e])
     have hne2:¬ b[i] = x:=fun e=>hne e.symm
     simp [hd,hq,hne2,zA]
   ·have hne2:¬ b[i] = x:=fun e=>hd (by rw [e])
    simp [hd,hne2,zA]) (by unfold Vi;simp)
  rw [show (0:Int) = ((0:Nat):Int) from rfl,this];have hiff:(a.zipIdx.all fun y=>decide (b[y.2]? = some y.1)) = decide (a = b):=by
   rw [Bool.eq_iff_iff,List.all_eq_true,decide_eq_true_eq]
   constructor
   ·intro h;apply List.ext_getElem?;intro i
    by_cases hi:i < a.length
    ·have:=h (a[i],i) (by rw [List.mem_zipIdx_iff_getElem?];exact List.getElem?_eq_getElem hi);simp only [decide_eq_true_eq] at this;rw [this,List.getElem?_eq_getElem hi]
    ·rw [List.getElem?_eq_none (by omega),List.getElem?_eq_none (by omega)]
   ·rintro rfl y hy;rw [List.mem_zipIdx_iff_getElem?] at hy;simpa using hy
  rw [hiff]
  by_cases h:a = b <;> simp [h,exk,zA]
 ·have:¬ a = b:=fun e=>hl (by rw [e])
  simp [hl,this]
theorem rEq_sm (a b:List PT) (h:Sm a):qz a b = pure (decide (a = b)):=rEq_eq a b (by have:=h.1;omega) fun p hp=>by have:=Ju p hp;have:=h.2;omega
theorem wva (u v:List RN):R.YH (· || ·) (R.nrm u) v = R.nrm (u ++ v):=R.UG (R.zp _ rfl _ _).1 (R.Xc _) fun n=>by rw [(R.zp _ rfl _ _).2.1,R.vd,R.vd,R.ux]
theorem zga (c:List PT) (k:Int) (hk:0 <= k) (h:c.length <= 1000000000) (ht:xC c <= 1000000000):WR c k = pure (R.nrm (yg c k)):=by
 unfold WR;have hpre:∀ i,(yg (c.take i) k).length <= 1000000000:=fun i=>by
  have h1:=vf (c.take i) k;have h2:xC (c.take i) <= xC c:=by
   conv=>rhs;rw [<- List.take_append_drop i c]
   rw [XQ];omega
  omega
 have:=uu (body:=Yn c k) c (fun i (t:List RN)=>(t,(i:Int))) (fun t p=>if p.dev = k /\ 0 < k then R.YH (· || ·) t p.runs else t) (fun t=>pure t) (fun i t=>t = R.nrm (yg (c.take i) k)) (fun i x t hx hi ht2=>by
  have h1:decide ((i:Int) < (c.length:Int)) = true:=by simpa using hi
  have hxl:x.runs.length <= 1000000000:=by have:=Ju x (List.mem_of_getElem? hx);omega
  have htl:t.length <= 2000000000:=by have:=R.Zb (yg (c.take i) k);have:=hpre i;rw [ht2];omega
  unfold Yn;simp only [h1,cond_true,zF hx,zA,zo (show i < 9223372036854775807 by omega),yb];have hnext:(if x.dev = k /\ 0 < k then R.YH (· || ·) t x.runs else t) = R.nrm (yg (c.take (i + 1)) k):=by
   rw [List.take_add_one,hx,UJ,Option.toList,Zc,jo,List.append_nil,ht2]
   split
   ·exact wva _ _
   ·rw [List.append_nil]
  refine ⟨?_,hnext⟩
  by_cases hd:x.dev = k
  ·by_cases h0:k = 0
   ·have:¬ (x.dev = k /\ 0 < k):=by omega
    rw [if_neg this,if_pos hd];simp [h0,zA]
   ·rw [if_pos (show x.dev = k /\ 0 < k from ⟨hd,by omega⟩),if_pos hd];simp only [h0,decide_false,Bool.not_false,zA,cond_true];rw [R.woa _ _ (by omega),zB,zA,zA]
  ·rw [if_neg (fun (q:x.dev = k /\ 0 < k)=>hd q.1),if_neg hd]
   rfl) (fun t _=>by unfold Yn;simp [zA]) [] (by rw [List.take_zero,jo,Jq])
 rw [show (([]:List RN),(0:Int)) = ([],((0:Nat):Int)) from rfl,this];have key:∀ (l:List PT) (u:List RN),l.foldl (fun t p=>if p.dev = k /\ 0 < k then R.YH (· || ·) t p.runs else t) (R.nrm u) = R.nrm (u ++ yg l k):=by
  intro l
  induction l with
  | nil=>intro u;simp [yg]
  | cons p r ih=>
   intro u;rw [List.foldl_cons,Zc]
   by_cases hp:p.dev = k /\ 0 < k
   ·rw [if_pos hp,if_pos hp,wva,ih,List.append_assoc]
   ·rw [if_neg hp,if_neg hp,ih,List.nil_append]
 have h2:=key c [];rw [Jq,List.nil_append] at h2;rw [h2];rfl
def x5a (c:List PT):List Int:=c.foldl (fun l p=>V.qV l p.dev) []
theorem zha (c:List PT):∀ l:List Int,l.Pairwise (· < ·) -> (c.foldl (fun l p=>V.qV l p.dev) l).Pairwise (· < ·) /\ (∀ k,k ∈ c.foldl (fun l p=>V.qV l p.dev) l ↔ k ∈ l \/ ∃ p ∈ c,p.dev = k) /\ (c.foldl (fun l p=>V.qV l p.dev) l).length <= l.length + c.length:=by
 induction c with
 | nil=>intro l h;simp [h]
 | cons p r ih=>
  intro l h;rw [List.foldl_cons];obtain ⟨h1,h2,h3⟩:=ih _ (V.Za h p.dev);refine ⟨h1,fun k=>?_,by have:=V.UE l p.dev;simp;omega⟩;rw [h2,V.jm]
  constructor
  ·rintro ((rfl | h4) | ⟨x,h4,h5⟩)
   ·exact .inr ⟨p,by simp,rfl⟩
   ·exact .inl h4
   ·exact .inr ⟨x,by simp [h4],h5⟩
  ·rintro (h4 | ⟨x,h4,h5⟩)
   ·exact .inl (.inr h4)
   ·rcases List.mem_cons.1 h4 with rfl | h4
    ·exact .inl (.inl h5.symm)
    ·exact .inr ⟨x,h4,h5⟩
theorem Jv (c:List PT):(x5a c).Pairwise (· < ·):=(zha c [] List.Pairwise.nil).1
theorem wwa {c:List PT} {k:Int}:k ∈ x5a c ↔ ∃ p ∈ c,p.dev = k:=by
 have:=(zha c [] List.Pairwise.nil).2.1 k;unfold x5a;rw [this];simp
theorem wxa (c:List PT):(x5a c).length <= c.length:=by simpa [x5a] using (zha c [] List.Pairwise.nil).2.2
theorem UI (l:List Int):(V.Wt l).length = l.length:=by simp [V.Wt]
theorem rdevs_eq (a b:List PT) (h:a.length + b.length <= 10000000000):jS a b = pure (V.Wt (x5a (a ++ b))):=by
 unfold jS;have h1:=uu (body:=Yq a) a (fun i (l:List Int)=>(V.Wt l,(i:Int))) (fun l p=>V.qV l p.dev) (fun l=>pure (V.Wt l)) (fun i l=>l.Pairwise (· < ·) /\ l.length <= i) (fun i x l hx hi ⟨hs,hl⟩=>by
  have h1:decide ((i:Int) < (a.length:Int)) = true:=by simpa using hi
  unfold Yq;simp only [h1,cond_true,zF hx,zA,zo (show i < 9223372036854775807 by omega)];rw [V.Ur _ _ (by rw [UI];omega),zB,zA,V.wla hs];exact ⟨rfl,V.Za hs _,by have:=V.UE l x.dev;omega⟩) (fun l _=>by unfold Yq;simp [zA]) [] ⟨List.Pairwise.nil,by simp⟩
 have h2:=uu (body:=ZK b) b (fun i (l:List Int)=>(V.Wt l,(i:Int))) (fun l p=>V.qV l p.dev) (fun l=>pure (V.Wt l)) (fun i l=>l.Pairwise (· < ·) /\ l.length <= a.length + i) (fun i x l hx hi ⟨hs,hl⟩=>by
  have h1:decide ((i:Int) < (b.length:Int)) = true:=by simpa using hi
  unfold ZK;simp only [h1,cond_true,zF hx,zA,zo (show i < 9223372036854775807 by omega)];rw [V.Ur _ _ (by rw [UI];omega),zB,zA,V.wla hs];exact ⟨rfl,V.Za hs _,by have:=V.UE l x.dev;omega⟩) (fun l _=>by unfold ZK;simp [zA]) (x5a a) ⟨Jv a,by have:=wxa a;omega⟩
 rw [show (([]:List DT),(0:Int)) = (V.Wt [],((0:Nat):Int)) from rfl,h1,zA];show (loop (ZK b) (V.Wt (x5a a),((0:Nat):Int))).bind _ = _;rw [h2,zA];unfold x5a;rw [List.foldl_append]
theorem VQ (op:Bool -> Bool -> Bool) (how:Int) (hop:∀ x y,op x y = if how = 2 then (x && !y) else if how = 1 then (x && y) else (x || y)) (h0:op false false = false) (a b:List PT) (oa:∀ p ∈ a,0 <= p.dev) (ob:∀ p ∈ b,0 <= p.dev) (ha:a.length <= 1000000000) (hb:b.length <= 1000000000) (ta:xC a <= 1000000000) (tb:xC b <= 1000000000):Ug a b how = pure (opC op a b):=by
 unfold Ug;rw [rdevs_eq a b (by omega),zB,zA];have hlenA:∀ k,(R.nrm (yg a k)).length <= 2000000000:=fun k=>by have:=R.Zb (yg a k);have:=vf a k;omega
 have hlenB:∀ k,(R.nrm (yg b k)).length <= 2000000000:=fun k=>by have:=R.Zb (yg b k);have:=vf b k;omega
 have hop':∀ k,R.YH op (R.nrm (yg a k)) (R.nrm (yg b k)) = R.YH op (yg a k) (yg b k):=fun k=>R.UG (R.zp op h0 _ _).1 (R.zp op h0 _ _).1 fun n=>by rw [(R.zp op h0 _ _).2.1,(R.zp op h0 _ _).2.1,R.vd,R.vd]
 have hkey:∀ k ∈ x5a (a ++ b),0 <= k:=fun k hk=>by
  obtain ⟨p,hp,rfl⟩:=wwa.1 hk;rcases List.mem_append.1 hp with hp | hp
  ·exact oa p hp
  ·exact ob p hp
 have hnd:(x5a (a ++ b)).length <= 2000000000:=by have:=wxa (a ++ b);rw [List.length_append] at this;omega
 have hgo:=uu (body:=WT (V.Wt (x5a (a ++ b))) a b how) (x5a (a ++ b)) (fun i (t:List PT)=>((i:Int),t)) (fun t k=>if R.YH op (yg a k) (yg b k) = [] then t else t ++ [⟨k,R.YH op (yg a k) (yg b k)⟩]) (fun t=>pure t) (fun i t=>t.length <= i) (fun i k t hk hi hl=>by
  have h1:decide ((i:Int) < ((V.Wt (x5a (a ++ b))).length:Int)) = true:=by rw [UI];simpa using hi
  have hx:(V.Wt (x5a (a ++ b)))[i]? = some ⟨k,1⟩:=by simp [V.Wt,hk]
  have hk0:0 <= k:=hkey k (List.mem_of_getElem? hk);unfold WT;simp only [h1,cond_true,zF hx,zA,zga a k hk0 ha ta,zga b k hk0 hb tb,zB,zo (show i < 9223372036854775807 by omega)];have hl1:=hlenA k;have hl2:=hlenB k;rw [R.woa _ _ (by omega),zB,zA,R.rmeet_eq _ _ (by omega),zB,zA,R.ZDa _ _ (by omega),zB,zA];have hz:(cond (decide (how = 1)) (pure (R.YH (· && ·) (R.nrm (yg a k)) (R.nrm (yg b k)))) (pure (R.YH (· || ·) (R.nrm (yg a k)) (R.nrm (yg b k)))):M (List RN)).bind (fun z=>cond (decide (how = 2)) (pure (R.YH (fun x y=>x && !y) (R.nrm (yg a k)) (R.nrm (yg b k)))) (pure z)) = pure (R.YH op (yg a k) (yg b k)):=by
   rw [<- hop' k]
   by_cases h2:how = 2
   ·subst h2;have:op = fun x y=>x && !y:=by funext x y;rw [hop];simp
    rw [this];rfl
   ·by_cases h1:how = 1
    ·subst h1;have:op = fun x y=>x && y:=by funext x y;rw [hop];simp
     rw [this];rfl
    ·have:op = fun x y=>x || y:=by funext x y;rw [hop];simp [h1,h2]
     rw [this];simp [h1,h2,zA]
  rw [<- qx,hz,zA];have hsl:=(R.zp op h0 (yg a k) (yg b k)).2.2
  by_cases hz0:R.YH op (yg a k) (yg b k) = []
  ·rw [if_pos hz0];simp only [hz0,List.length_nil];exact ⟨rfl,by omega⟩
  ·rw [if_neg hz0];have:decide (0 < ((R.YH op (yg a k) (yg b k)).length:Int)) = true:=by
    have:=List.length_pos_iff.2 hz0;simp;omega
   rw [this,cond_true,zD (by simp;omega)];exact ⟨rfl,by simp;omega⟩) (fun t _=>by unfold WT;rw [UI];simp [zA]) [] (by simp)
 rw [show ((0:Int),([]:List PT)) = (((0:Nat):Int),[]) from rfl,hgo,zA];have key:∀ (ks:List Int) (t:List PT),ks.foldl (fun t k=>if R.YH op (yg a k) (yg b k) = [] then t else t ++ [⟨k,R.YH op (yg a k) (yg b k)⟩]) t = t ++ yV (fun k=>R.YH op (yg a k) (yg b k)) ks:=by
  intro ks
  induction ks with
  | nil=>intro t;simp [yV]
  | cons k ks ih=>
   intro t;rw [List.foldl_cons,ih]
   by_cases h:R.YH op (yg a k) (yg b k) = []
   ·rw [if_pos h];simp [yV,h]
   ·rw [if_neg h];simp [yV,h]
 rw [key,List.nil_append];refine congrArg pure (Jo (Jv _) (vJ _) (fun _=>rfl) fun k hk=>?_);have hr:yg (a ++ b) k ≠ []:=fun e=>hk (by
  rw [UJ] at e;have:=List.append_eq_nil_iff.1 e;rw [this.1,this.2];exact wqa h0)
 exact ⟨fun _=>YC hr,fun _=>wwa.2 (vA.1 (YC hr)).1⟩
structure Ok (c:List PT):Prop where
 dev:∀ p ∈ c,0 <= p.dev
 len:c.length <= 1000000000
 tot:xC c <= 1000000000
theorem Ok.sm {c:List PT} (h:Ok c):Sm c:=⟨by have:=h.len;omega,by have:=h.tot;omega⟩
section
variable (a b:List PT) (ha:Ok a) (hb:Ok b)
include ha hb
theorem zia : Yx a b = pure (opC (· || ·) a b):=by
 unfold Yx;rw [VQ (· || ·) 0 (fun x y=>by simp) rfl a b ha.dev hb.dev ha.len hb.len ha.tot hb.tot,zB,zA]
theorem ZSa : Vp a b = pure (opC (fun x y=>x && !y) a b):=by
 unfold Vp;rw [VQ (fun x y=>x && !y) 2 (fun x y=>by simp) rfl a b ha.dev hb.dev ha.len hb.len ha.tot hb.tot,zB,zA]
theorem vwa : We a b = pure (decide (opC (fun x y=>x && !y) a b = [])):=by
 unfold We;rw [ZSa a b ha hb,zB,zA];refine congrArg pure ?_
 cases opC (fun x y=>x && !y) a b with
 | nil=>rfl
 | cons p r=>simp;omega
end
theorem ok_nil : Ok []:=⟨fun p h=>by simp at h,by simp,by simp [xC]⟩
theorem opC_nil (c:List PT):opC (· || ·) c [] = zQ c:=by rw [<- ZLa,List.append_nil]
theorem jq (c:List PT) (h:Ok c):ul c = pure (zQ c):=by
 unfold ul;rw [VQ (· || ·) 0 (fun x y=>by simp) rfl c [] h.dev ok_nil.dev h.len ok_nil.len h.tot ok_nil.tot,zB,zA,opC_nil]
theorem sm_norm {c:List PT} (h:Ok c):Sm (zQ c):=⟨by have:=yw c;have:=h.len;omega,by have:=yx c;have:=h.tot;omega⟩
theorem jr (a b:List PT) (ha:Ok a) (hb:Ok b):Vj a b = pure (decide (zQ a = zQ b)):=by
 unfold Vj;rw [jq a ha,zB,zA,jq b hb,zB,zA,rEq_sm _ _ (sm_norm ha),zB,zA]
theorem YD (c:List PT) (h:Ok c):Vo c = pure (decide (c = zQ c)):=by
 unfold Vo;rw [jq c h,zB,zA,rEq_sm _ _ h.sm,zB,zA]
theorem has_pos {c:List PT} {k n:Int} (h:ve c k n = true):0 < k /\ 1 <= n /\ n <= 281474976710655:=by
 refine ⟨Classical.byContradiction fun h0=>?_,R.QI h⟩;unfold ve at h;rw [zca h0] at h
 cases h
theorem XR (c:List PT) (d:DT) (h:Ok c):uc c d = pure (ve c d.dev d.n):=by
 unfold uc;rw [V.ZZ,zB,zA]
 by_cases hg:V.zt d = true
 ·have h1:=V.xv.1 hg;rw [hg,cond_true,zga c d.dev (by omega) h.len h.tot,zB,zA,R.x2a _ _ (by have:=R.Zb (yg c d.dev);have:=vf c d.dev;have:=h.tot;omega),zB,zA,zA,R.vd]
  rfl
 ·have hg':V.zt d = false:=by simpa using hg
  rw [hg',cond_false,zA]
  cases hh:ve c d.dev d.n with
  | false=>rfl
  | true=>obtain ⟨h1,h2,h3⟩:=has_pos hh;exact absurd (V.xv.2 ⟨by omega,h2,h3⟩) hg
theorem Ux (c:List PT):Ui c = pure (decide (c.length <= 30) && c.all fun p=>decide (p.runs.length <= 30)):=by
 unfold Ui
 by_cases h0:30 < c.length
 ·have:decide ((30:Int) < (c.length:Int)) = true:=by simp;omega
  rw [this,cond_true];have:decide (c.length <= 30) = false:=by simp;omega
  rw [this];rfl
 ·have h1:decide ((30:Int) < (c.length:Int)) = false:=by simp;omega
  rw [h1,cond_false];have:=xX (body:=Wa c) c (fun i=>(i:Int)) (fun i x=>decide (x.runs.length <= 30)) (.brk ()) (.ret false) (fun i x hx hi=>by
   have h2:decide ((i:Int) < (c.length:Int)) = true:=by simpa using hi
   unfold Wa;simp only [h2,cond_true,zF hx,zA,yb,zo (show i < 9223372036854775807 by omega),decide_eq_true_eq]
   by_cases h3:x.runs.length <= 30
   ·rw [if_neg (by omega),if_pos h3]
   ·rw [if_pos (by omega),if_neg h3]) (by unfold Wa;simp)
  rw [show (0:Int) = ((0:Nat):Int) from rfl,this];have hiff:(c.zipIdx.all fun y=>decide (y.1.runs.length <= 30)) = c.all fun p=>decide (p.runs.length <= 30):=by
   rw [Bool.eq_iff_iff,List.all_eq_true,List.all_eq_true]
   constructor
   ·intro h p hp;obtain ⟨i,hi⟩:=List.mem_iff_getElem?.1 hp;exact h (p,i) (List.mem_zipIdx_iff_getElem?.2 hi)
   ·intro h y hy;exact h _ (List.mem_of_getElem? (List.mem_zipIdx_iff_getElem?.1 hy))
  rw [hiff];have h4:decide (c.length <= 30) = true:=by simp;omega
  rw [h4,Bool.true_and]
  cases c.all fun p=>decide (p.runs.length <= 30) <;> rfl
theorem zja {c:List PT} (h:(decide (c.length <= 30) && c.all fun p=>decide (p.runs.length <= 30)) = true):c.length <= 30 /\ xC c <= 900:=by
 rw [Bool.and_eq_true,decide_eq_true_eq,List.all_eq_true] at h;refine ⟨h.1,?_⟩;have:∀ l:List PT,(∀ p ∈ l,decide (p.runs.length <= 30) = true) -> xC l <= l.length * 30:=by
  intro l
  induction l with
  | nil=>intro _;simp [xC]
  | cons p r ih=>
   intro hl;have e:xC (p :: r) = p.runs.length + xC r:=by simp [xC]
   have h1:=ih fun q hq=>hl q (by simp [hq])
   have h2:=hl p (by simp);simp only [decide_eq_true_eq] at h2;simp only [List.length_cons];omega
 have:=this c h.2;omega


theorem QM (l:List DT) (d:DT):yU (l ++ [d]) = yU l ++ if V.zt d = true then [⟨d.dev,[⟨d.n,d.n⟩]⟩] else []:=by
 unfold yU;rw [List.filter_append,List.map_append]
 congr 1
 by_cases h:V.zt d = true <;> simp [h]
theorem zka (a b:List PT):opC (· || ·) (zQ a) b = zQ (a ++ b):=(Wm rfl _ _).ext (yM _) fun k n=>by rw [Uw rfl,xx,xx,XP]
theorem zla {l:List DT} (h:l.length <= 400000000):Ok (zQ (yU l)):=⟨fun p hp=>by have:=((yM (yU l)).nf p hp).1;omega,by have:=yw (yU l);have:=vg l;omega,by have:=yx (yU l);have:=UL l;omega⟩
theorem rOf_eq (l:List DT) (h:l.length <= 400000000):waa l = pure (zQ (yU l)):=by
 unfold waa;have:=uu (body:=Vs l) l (fun i (t:List PT)=>(t,(i:Int))) (fun t d=>if V.zt d = true then opC (· || ·) t [⟨d.dev,[⟨d.n,d.n⟩]⟩] else t) (fun t=>pure t) (fun i t=>t = zQ (yU (l.take i))) (fun i x t hx hi ht=>by
  have h1:decide ((i:Int) < (l.length:Int)) = true:=by simpa using hi
  have hok:Ok t:=by rw [ht];exact zla (by rw [List.length_take];omega)
  have hnext:(if V.zt x = true then opC (· || ·) t [⟨x.dev,[⟨x.n,x.n⟩]⟩] else t) = zQ (yU (l.take (i + 1))):=by
   rw [List.take_add_one,hx,Option.toList,QM,ht]
   split
   ·exact zka _ _
   ·rw [List.append_nil]
  refine ⟨?_,hnext⟩;unfold Vs;simp only [h1,cond_true,zF hx,zA,V.ZZ,zB,zo (show i < 9223372036854775807 by omega)]
  by_cases hg:V.zt x = true
  ·have h2:=V.xv.1 hg;rw [if_pos hg,hg,cond_true,zia t _ hok ⟨fun p hp=>by rw [List.mem_singleton] at hp;subst hp;show 0 <= x.dev;omega,by simp,by simp [xC]⟩,zB,zA,zA]
  ·have hg':V.zt x = false:=by simpa using hg
   rw [if_neg hg,hg',cond_false,zA]) (fun t _=>by unfold Vs;simp [zA]) [] (by rw [List.take_zero];exact (xg yua).symm)
 rw [show (([]:List PT),(0:Int)) = ([],((0:Nat):Int)) from rfl,this,zA];have key:∀ (q pre:List DT),q.foldl (fun t d=>if V.zt d = true then opC (· || ·) t [⟨d.dev,[⟨d.n,d.n⟩]⟩] else t) (zQ (yU pre)) = zQ (yU (pre ++ q)):=by
  intro q
  induction q with
  | nil=>intro pre;rw [List.append_nil];rfl
  | cons d r ih=>
   intro pre;rw [List.foldl_cons];have:(if V.zt d = true then opC (· || ·) (zQ (yU pre)) [⟨d.dev,[⟨d.n,d.n⟩]⟩] else zQ (yU pre)) = zQ (yU (pre ++ [d])):=by
    rw [QM]
    split
    ·exact zka _ _
    ·rw [List.append_nil]
   rw [this,ih,List.append_assoc];rfl
 have h2:=key l [];rw [show zQ (yU []) = [] from xg yua,List.nil_append] at h2;rw [h2]
theorem ZTa {c:List PT} (o:∀ p ∈ c,0 <= p.dev) (h:c.length <= 30 /\ xC c <= 900):Ok c:=⟨o,by omega,by omega⟩
end Go.Ep.M.C

namespace Go.Ep.M.N
open Go

theorem wU8_mod (n:Int):IntKind.u8.wrap n = n % 256:=by simp [IntKind.wrap,IntKind.bits,IntKind.signed]
def VS (n:Nat):Nat:=if n = 0 then 0 else VS (n / 256) + 1
theorem WB : VS 0 = 0:=by rw [VS];rfl
theorem UM {n:Nat} (h:n ≠ 0):VS n = VS (n / 256) + 1:=by rw [VS,if_neg h]
theorem zma : ∀ (k n:Nat),n < 256 ^ k -> VS n <= k
 | 0,n,h=>by
  have:n = 0:=by simpa using h
  rw [this,WB];exact Nat.le_refl _
 | k + 1,n,h=>by
  by_cases h0:n = 0
  ·rw [h0,WB];omega
  ·rw [UM h0];have:=zma k (n / 256) (by rw [Nat.pow_succ] at h;omega);omega
theorem ZUa : ∀ (n:Nat),n < 256 ^ VS n:=by
 intro n
 induction n using Nat.strongRecOn with
 | _ n ih=>
  by_cases h0:n = 0
  ·rw [h0,WB];decide
  ·rw [UM h0,Nat.pow_succ];have:=ih (n / 256) (by omega);omega
theorem ZVa : ∀ (k n:Nat),256 ^ k <= n -> k + 1 <= VS n
 | 0,n,h=>by
  have:n ≠ 0:=by intro h0;rw [h0] at h;simp at h
  rw [UM this];omega
 | k + 1,n,h=>by
  have hp:0 < 256 ^ k:=Nat.pow_pos (by decide);rw [Nat.pow_succ] at h;have:n ≠ 0:=by omega
  rw [UM this];have:=ZVa k (n / 256) (by omega);omega
theorem yva {n:Nat} (h:n < 18446744073709551616):VS n <= 8:=zma 8 n (by simpa using h)

theorem fdiv256 (n:Nat):Int.fdiv (n:Int) (2 ^ 8) = ((n / 256:Nat):Int):=by
 rw [Int.fdiv_eq_ediv_of_nonneg _ (by decide)];have:(2 ^ 8:Int) = 256:=rfl;rw [this];omega
theorem len_loop : ∀ (n k:Nat),k + VS n <= 1000 -> loop Zs ((n:Int),(k:Int)) = pure (((k + VS n:Nat)):Int):=by
 intro n
 induction n using Nat.strongRecOn with
 | _ n ih=>
  intro k hk
  by_cases h0:n = 0
  ·subst h0;rw [WB,Nat.add_zero];exact zY (by unfold Zs;simp)
  ·rw [UM h0] at hk ⊢;rw [zl (s':=(((n / 256:Nat):Int),((k + 1:Nat):Int))) (by
    unfold Zs;have:decide ((0:Int) < (n:Int)) = true:=by simp;omega
    simp only [this,cond_true,fdiv256,zo (show k < 9223372036854775807 by omega)]),ih (n / 256) (by omega) (k + 1) (by omega)]
   congr 2;omega
theorem Len_eq {v:Int} (h0:0 <= v) (h:v <= 18446744073709551615):Vf v = pure (VS v.toNat:Int):=by
 obtain ⟨n,rfl⟩:=Int.eq_ofNat_of_zero_le h0;unfold Vf;have:=len_loop n 0 (by have:=yva (n:=n) (by omega);omega);rw [show (0:Int) = ((0:Nat):Int) from rfl,this,zA,Nat.zero_add,Int.toNat_natCast]
def Zd (n i:Nat):Int:=((n / 256 ^ i % 256:Nat):Int)
theorem ywa (n i:Nat):0 <= Zd n i /\ Zd n i <= 255:=by unfold Zd;omega
theorem Byte_eq (n i:Nat) (hi:i <= 7):WK (n:Int) (i:Int) = pure (Zd n i):=by
 have h8:i = 0 \/ i = 1 \/ i = 2 \/ i = 3 \/ i = 4 \/ i = 5 \/ i = 6 \/ i = 7:=by omega
 unfold WK Zd;rw [VV (show (0:Int) <= (i:Int) by omega) (by omega),VV (show (0:Int) <= 8 * (i:Int) by omega) (by omega)];have hd:decide ((7:Int) < (i:Int)) = false:=by simp;omega
 simp only [hd,cond_false];rw [zD (by omega),wU8_mod,Int.fdiv_eq_ediv_of_nonneg _ (by exact Int.le_of_lt (Int.pow_pos (by decide)))]
 congr 1
 have e:(2:Int) ^ min (8 * (i:Int)).toNat 64 = ((256 ^ i:Nat):Int):=by
  rcases h8 with rfl | rfl | rfl | rfl | rfl | rfl | rfl | rfl <;> rfl
 rw [e];exact (by rw [Int.natCast_emod,Int.natCast_ediv];rfl)
def be (n:Nat):Nat -> List Int
 | 0=>[]
 | k + 1=>Zd n k :: be n k
theorem ZWa (n:Nat):∀ k,(be n k).length = k
 | 0=>rfl
 | k + 1=>by simp [be,ZWa n k]
def wya (n:Nat):List Int:=(VS n:Int) :: be n (VS n)
def vk (v:Int):List Int:=wya v.toNat
theorem yL {v:Int} (h:v <= 18446744073709551615):(vk v).length <= 9:=by
 have:=yva (n:=v.toNat) (by omega);simp [vk,wya,ZWa];omega
theorem wza (n:Nat):∀ (k:Nat) (out:List Int),k <= 8 -> out.length + k <= 100000000000000 -> loop (uj (n:Int)) ((k:Int) - 1,out) = pure (out ++ be n k)
 | 0,out,_,_=>by
  rw [be,List.append_nil];exact zY (by unfold uj;simp)
 | k + 1,out,hk,ho=>by
  have e:((k + 1:Nat):Int) - 1 = (k:Int):=by omega
  rw [e,zl (s':=((k:Int) - 1,out ++ [Zd n k])) (by
   unfold uj;have h1:decide ((0:Int) <= (k:Int)) = true:=by simp
   simp only [h1,cond_true,Byte_eq n k (by omega),zB,zA];rw [zD (by simp;omega),Xi (by omega) (by omega)]),wza n k _ (by omega) (by simp;omega),be,List.append_assoc]
  rfl
theorem ZXa (b:List Int) {v:Int} (h0:0 <= v) (h:v <= 18446744073709551615) (hb:b.length <= 10000000000000):WL b v = pure (b ++ vk v):=by
 have h8:=yva (n:=v.toNat) (by omega);unfold WL;rw [Len_eq h0 h,zB,zA,Xi (show -9223372036854775808 <= (b.length:Int) + (VS v.toNat:Int) by omega) (by omega),Xi (by omega) (by omega),zD (by omega),zD (by simp;omega),zD (by simp;omega),wU8 (by omega) (by omega),Xi (by omega) (by omega)];have:=wza v.toNat (VS v.toNat) (([]:List Int) ++ b ++ [(VS v.toNat:Int)]) h8 (by simp;omega);rw [show ((v.toNat:Nat):Int) = v by omega] at this;rw [this,zA];simp [vk,wya]

def By (l:List Int):Prop:=∀ x ∈ l,0 <= x /\ x <= 255
theorem By.drop {l:List Int} (h:By l) (n:Nat):By (l.drop n):=fun x hx=>h x (List.mem_of_mem_drop hx)
theorem By.take {l:List Int} (h:By l) (n:Nat):By (l.take n):=fun x hx=>h x (List.mem_of_mem_take hx)
theorem By.app {a b:List Int} (ha:By a) (hb:By b):By (a ++ b):=fun x hx=>(List.mem_append.1 hx).elim (ha x) (hb x)
theorem By.nil : By []:=fun x hx=>by cases hx
theorem by_be (n:Nat):∀ k,By (be n k)
 | 0=>By.nil
 | k + 1=>fun x hx=>by
  rcases List.mem_cons.1 hx with rfl | h
  ·exact ywa n k
  ·exact by_be n k x h
theorem Yc {v:Int} (h:v <= 18446744073709551615):By (vk v):=fun x hx=>by
 have:=yva (n:=v.toNat) (by omega);rcases List.mem_cons.1 hx with rfl | h
 ·omega
 ·exact by_be _ _ x h

def qW (l:List Int):Int:=l.foldl (fun v x=>v * 256 + x) 0
theorem Jw : ∀ (l:List Int) (v k:Nat),By l -> v < 256 ^ k -> ∃ n:Nat,l.foldl (fun v x=>v * 256 + x) (v:Int) = (n:Int) /\ n < 256 ^ (k + l.length) /\ v * 256 ^ l.length <= n
 | [],v,k,_,hv=>⟨v,rfl,by simpa using hv,by simp⟩
 | x :: r,v,k,hb,hv=>by
  have hx:=hb x (by simp);obtain ⟨n,h1,h2,h3⟩:=Jw r (v * 256 + x.toNat) (k + 1) (fun y hy=>hb y (by simp [hy])) (by rw [Nat.pow_succ];omega);refine ⟨n,?_,by rw [show k + (x :: r).length = k + 1 + r.length by simp;omega];exact h2,?_⟩
  ·rw [List.foldl_cons,<- h1]
   congr 1;omega
  ·refine Nat.le_trans ?_ h3;rw [List.length_cons,Nat.pow_succ];have:v * (256 ^ r.length * 256) = v * 256 * 256 ^ r.length:=by rw [Nat.mul_comm (256 ^ r.length),Nat.mul_assoc]
   rw [this];exact Nat.mul_le_mul_right _ (by omega)
theorem ZYa {l:List Int} (h:By l) (h8:l.length <= 8):0 <= qW l /\ qW l <= 18446744073709551615:=by
 obtain ⟨n,h1,h2,_⟩:=Jw l 0 0 h (by decide);have h3:256 ^ (0 + l.length) <= 256 ^ 8:=Nat.pow_le_pow_right (by decide) (by omega);have h4:(256:Nat) ^ 8 = 18446744073709551616:=by decide
 rw [qW,show (0:Int) = ((0:Nat):Int) from rfl,h1];omega
theorem bor_eq {v:Nat} {x:Int} (hv:v < 72057594037927936) (hx:0 <= x /\ x <= 255):bOr .u64 (IntKind.u64.wrap ((v:Int) * 2 ^ 8)) (IntKind.u64.wrap x) = (v:Int) * 256 + x:=by
 obtain ⟨y,rfl⟩:=Int.eq_ofNat_of_zero_le hx.1;have e:((v:Int) * 2 ^ 8) = ((2 ^ 8 * v:Nat):Int):=by
  have:(2 ^ 8:Int) = 256:=rfl;have:(2 ^ 8:Nat) = 256:=rfl;omega
 have hb:2 ^ 8 * v + y < 18446744073709551616:=by
  have:(2 ^ 8:Nat) = 256:=rfl;omega
 rw [e,VV (by omega) (by omega),VV (by omega) (by omega)];unfold bOr;have bv:∀ q:Nat,q < 18446744073709551616 -> (BitVec.ofInt IntKind.u64.bits (q:Int)).toNat = q:=fun q hq=>by
  show (BitVec.ofInt 64 (q:Int)).toNat = q;rw [BitVec.toNat_ofInt];omega
 rw [BitVec.toNat_or,bv _ (by omega),bv _ (by omega),<- Nat.two_pow_add_eq_or_of_lt (show y < 2 ^ 8 by have:(2 ^ 8:Nat) = 256:=rfl;omega) v,VV (by omega) (by omega)];have:(2 ^ 8:Nat) = 256:=rfl;omega

def rdN : List Int -> Int × Nat × Int
 | []=>(0,0,2)
 | n :: r=>if 8 < n \/ (0 < n /\ r.head? = some 0) then (0,0,4) else if (r.length:Int) < n then (0,0,2) else (qW (r.take n.toNat),n.toNat + 1,0)
theorem zna (n:Int) (r:List Int):rdN (n :: r) = if 8 < n \/ (0 < n /\ r.head? = some 0) then (0,0,4) else if (r.length:Int) < n then (0,0,2) else (qW (r.take n.toNat),n.toNat + 1,0):=rfl
theorem Jx (b:List Int) (hb:By b):(rdN b = (0,0,2) \/ rdN b = (0,0,4)) \/ ∃ n r,b = n :: r /\ 0 <= n /\ n <= 8 /\ n <= (r.length:Int) /\ ¬ (0 < n /\ r.head? = some 0) /\ rdN b = (qW (r.take n.toNat),n.toNat + 1,0):=by
 cases b with
 | nil=>exact .inl (.inl rfl)
 | cons n r=>
  have hn:=hb n (by simp);rw [zna]
  by_cases h1:8 < n \/ (0 < n /\ r.head? = some 0)
  ·rw [if_pos h1];exact .inl (.inr rfl)
  ·rw [if_neg h1]
   by_cases h2:(r.length:Int) < n
   ·rw [if_pos h2];exact .inl (.inl rfl)
   ·rw [if_neg h2];exact .inr ⟨n,r,rfl,hn.1,by omega,by omega,fun h=>h1 (.inr h),rfl⟩
theorem yxa (b:List Int) (hb:By b):0 <= (rdN b).1 /\ (rdN b).1 <= 18446744073709551615 /\ (rdN b).2.1 <= b.length /\ ((rdN b).2.2 = 0 \/ (rdN b).2.2 = 2 \/ (rdN b).2.2 = 4):=by
 rcases Jx b hb with (h | h) | ⟨n,r,rfl,h0,h8,hl,_,h⟩
 ·rw [h];simp
 ·rw [h];simp
 ·rw [h];have:=ZYa (l:=r.take n.toNat) (fun x hx=>hb x (by simp [List.mem_of_mem_take hx])) (by rw [List.length_take];omega);refine ⟨this.1,this.2,?_,.inl rfl⟩;simp;omega
theorem w0a {r:List Int} (h:r ≠ []):∃ y,r.head? = some y /\ r[0]? = some y:=by
 cases r with
 | nil=>exact absurd rfl h
 | cons y t=>exact ⟨y,rfl,rfl⟩
theorem Read_eq (b:List Int) (hb:By b) (hl:b.length <= 1000000000000):jW b 0 = pure ((rdN b).1,((rdN b).2.1:Int),(rdN b).2.2):=by
 unfold jW;have h0:decide ((b.length:Int) < 0) = false:=by simp
 rw [show decide ((0:Int) < 0) = false from rfl,cond_false,h0,zA,cond_false]
 cases b with
 | nil=>rfl
 | cons n r=>
  have hn:=hb n (by simp);have hr:By r:=fun x hx=>hb x (by simp [hx])
  have h1:decide ((0:Int) = ((n :: r).length:Int)) = false:=by simp;omega
  have hrl:r.length <= 1000000000000:=by simp at hl;omega
  have e1:List.drop (Int.toNat (IntKind.i64.wrap (0 + 1))) (List.take (Int.toNat ((n :: r).length:Int)) (n :: r)) = r:=by
   rw [Xi (by omega) (by omega),Int.toNat_natCast,List.take_length];rfl
  rw [h1,cond_false,YM (y:=n) (by omega) rfl,zA,zD (by rw [Xi (by omega) (by omega)];simp;omega),e1,Xi (n:=n) (by omega) (by omega)];rw [zna];have hc:(cond (decide (8 < n)) (pure true) (cond (decide (0 < n)) (cond (decide ((0:Int) < (r.length:Int))) ((idx r 0).bind fun x14=>pure (decide (x14 = 0))) (pure false)) (pure false)):M Bool) = pure (decide (8 < n \/ (0 < n /\ r.head? = some 0))):=by
   by_cases c1:8 < n
   ·simp [c1]
   ·by_cases c2:0 < n
    ·by_cases c3:r = []
     ·subst c3;simp [c1,c2]
     ·obtain ⟨y,h5,h6⟩:=w0a c3;have c4:0 < r.length:=List.length_pos_iff.2 c3;simp [c1,c2,c4,YM (l:=r) (i:=0) (y:=y) (by omega) h6,h5,zA]
    ·simp [c1,c2]
  rw [hc,zA]
  by_cases c1:8 < n \/ (0 < n /\ r.head? = some 0)
  ·rw [decide_eq_true c1,cond_true,if_pos c1];rfl
  ·rw [decide_eq_false c1,cond_false,if_neg c1]
   by_cases c2:(r.length:Int) < n
   ·rw [decide_eq_true c2,cond_true,if_pos c2];rfl
   ·rw [decide_eq_false c2,cond_false,if_neg c2,zD (by omega)];have e2:List.drop (Int.toNat 0) (List.take (Int.toNat (IntKind.i64.wrap n)) (List.drop (Int.toNat (IntKind.i64.wrap (0 + 1))) (List.take (Int.toNat ((n :: r).length:Int)) (n :: r)))) = r.take n.toNat:=by
     rw [e1,Xi (by omega) (by omega)];rfl
    have hlen:(r.take n.toNat).length = n.toNat:=by rw [List.length_take];omega
    have hloop:=uu (body:=ZL n 0 (n :: r)) (r.take n.toNat) (fun i t=>(t,(i:Int))) (fun v x=>v * 256 + x) (fun t=>pure t) (fun i t=>∃ m:Nat,t = (m:Int) /\ m < 256 ^ i) (fun i x t hx hi hI=>by
     obtain ⟨m,rfl,hm⟩:=hI;have hxr:=(hr.take n.toNat) x (List.mem_of_getElem? hx);have hm7:m < 72057594037927936:=by
      have h3:256 ^ i <= 256 ^ 7:=Nat.pow_le_pow_right (by decide) (by omega);have h4:(256:Nat) ^ 7 = 72057594037927936:=by decide
      omega
     refine ⟨?_,m * 256 + x.toNat,by omega,by rw [Nat.pow_succ];omega⟩;unfold ZL;have hd:decide ((i:Int) < ((r.take n.toNat).length:Int)) = true:=by simpa using hi
     simp only [e2,hd,cond_true,zF hx,zA,bor_eq hm7 hxr,zo (show i < 9223372036854775807 by omega)]) (fun t _=>by
     unfold ZL;have hd:decide (((r.take n.toNat).length:Int) < ((r.take n.toNat).length:Int)) = false:=by simp
     simp only [e2,hd,cond_false,zA]) 0 ⟨0,rfl,by decide⟩
    have hloop':loop (ZL n 0 (n :: r)) (0,0) = pure (qW (r.take n.toNat)):=hloop;rw [hloop',zA,Xi (n:=0 + 1) (by omega) (by omega),Xi (by omega) (by omega)];have:((0:Int) + 1 + n) = ((n.toNat + 1:Nat):Int):=by omega
    rw [this]

theorem be_val (n:Nat):∀ k,qW (be n k) = ((n % 256 ^ k:Nat):Int):=by
 intro k;have key:∀ (k v:Nat),(be n k).foldl (fun v x=>v * 256 + x) (v:Int) = ((v * 256 ^ k + n % 256 ^ k:Nat):Int):=by
  intro k
  induction k with
  | zero=>intro v;simp [be,Nat.mod_one]
  | succ k ih=>
   intro v;rw [be,List.foldl_cons,show (v:Int) * 256 + Zd n k = ((v * 256 + n / 256 ^ k % 256:Nat):Int) by unfold Zd;omega,ih]
   congr 1
   have h1:n % 256 ^ (k + 1) = 256 ^ k * (n / 256 ^ k % 256) + n % 256 ^ k:=by
    rw [Nat.pow_succ,Nat.mod_mul];omega
   rw [h1,Nat.add_mul,Nat.pow_succ,Nat.mul_comm (256 ^ k) (n / 256 ^ k % 256),Nat.add_assoc]
   congr 1
   rw [Nat.mul_comm (256 ^ k) 256,Nat.mul_assoc]
 have:=key k 0;simpa [qW] using this
theorem be_head {n:Nat} (h:VS n ≠ 0):(be n (VS n)).head? ≠ some 0:=by
 obtain ⟨k,hk⟩:∃ k,VS n = k + 1:=⟨VS n - 1,by omega⟩
 rw [hk,be,List.head?_cons];intro e;have h1:Zd n k = 0:=by injection e
 unfold Zd at h1;have h2:=ZUa n;rw [hk,Nat.pow_succ] at h2;have hp:0 < 256 ^ k:=Nat.pow_pos (by decide);have h4:n / 256 ^ k < 256:=(Nat.div_lt_iff_lt_mul hp).2 (by rw [Nat.mul_comm];exact h2);have h3:n / 256 ^ k = 0:=by
  generalize n / 256 ^ k = q at h1 h4 ⊢
  omega
 have h5:n < 256 ^ k:=by
  rcases Nat.div_eq_zero_iff.1 h3 with h | h
  ·omega
  ·exact h
 have:=zma k n h5;omega
theorem rdN_enc {v:Int} (h0:0 <= v) (h:v <= 18446744073709551615) (r:List Int):rdN (vk v ++ r) = (v,(vk v).length,0):=by
 have h8:=yva (n:=v.toNat) (by omega);have hl:=ZWa v.toNat (VS v.toNat);have hv:=be_val v.toNat (VS v.toNat);rw [Nat.mod_eq_of_lt (ZUa _)] at hv;show rdN ((VS v.toNat:Int) :: (be v.toNat (VS v.toNat) ++ r)) = _;rw [zna,if_neg,if_neg (by rw [List.length_append];omega)]
 ·rw [Int.toNat_natCast,List.take_append_of_le_length (by omega),List.take_of_length_le (by omega),hv];simp [vk,wya,hl];omega
 ·intro hc;rcases hc with hc | ⟨hc1,hc2⟩
  ·omega
  ·have hne:VS v.toNat ≠ 0:=by omega
   refine be_head hne ?_;rw [List.head?_append] at hc2;obtain ⟨y,h5,_⟩:=w0a (r:=be v.toNat (VS v.toNat)) (by intro e;rw [e] at hl;simp at hl;omega);rw [h5] at hc2 ⊢;exact hc2
theorem be_of : ∀ (l:List Int),By l -> ∀ n:Nat,qW l = (n:Int) -> be n l.length = l:=by
 intro l;have key:∀ (m:Nat) (l:List Int),l.length = m -> By l -> ∀ n:Nat,qW l = (n:Int) -> be n l.length = l:=by
  intro m
  induction m with
  | zero=>intro l hl _ n _;have:=List.eq_nil_of_length_eq_zero hl;subst this;rfl
  | succ m ih=>
   intro l hl hb n hn
   cases l with
   | nil=>simp at hl
   | cons x r=>
    have hx:=hb x (by simp);have hr:By r:=fun y hy=>hb y (by simp [hy])
    obtain ⟨q,h1,h2,h3⟩:=Jw r 0 0 hr (by decide);obtain ⟨q2,h4,h5,h6⟩:=Jw r x.toNat 1 hr (by omega);have hq:qW r = (q:Int):=h1;have hq2:qW (x :: r) = (q2:Int):=by
     rw [qW,List.foldl_cons,<- h4];congr 1;omega
    have hrl:r.length = m:=by simpa using hl
    have e:q2 = n:=by omega
    subst e;have hlin:∀ (l:List Int) (v:Int),l.foldl (fun v x=>v * 256 + x) v = v * 256 ^ l.length + qW l:=by
     intro l
     induction l with
     | nil=>intro v;simp [qW]
     | cons y t iht=>
      intro v;have e:qW (y :: t) = y * 256 ^ t.length + qW t:=by rw [qW,List.foldl_cons,iht];simp
      rw [List.foldl_cons,iht,e,List.length_cons,Int.pow_succ,Int.add_mul,Int.mul_assoc,Int.mul_comm 256,Int.add_assoc]
    have hsum:(q2:Int) = x * 256 ^ r.length + (q:Int):=by
     rw [<- hq,<- hlin r x,<- hq2,qW,List.foldl_cons];congr 1;omega
    have hqlt:q < 256 ^ r.length:=by simpa using h2
    have hnat:q2 = x.toNat * 256 ^ r.length + q:=by
     have:((q2:Nat):Int) = ((x.toNat * 256 ^ r.length + q:Nat):Int):=by
      rw [hsum,Int.natCast_add,Int.natCast_mul,Int.natCast_pow,Int.toNat_of_nonneg hx.1];rfl
     exact Int.ofNat.inj this
    have hp:0 < 256 ^ r.length:=Nat.pow_pos (by decide);have hdiv:q2 / 256 ^ r.length = x.toNat:=by
     rw [hnat,Nat.mul_comm,Nat.mul_add_div hp,Nat.div_eq_of_lt hqlt,Nat.add_zero]
    rw [List.length_cons,be];have hb1:Zd q2 r.length = x:=by unfold Zd;rw [hdiv];omega
    rw [hb1]
    congr 1
    have hbe:∀ k,k <= r.length -> be q2 k = be q k:=by
     intro k hk
     induction k with
     | zero=>rfl
     | succ k ihk=>
      rw [be,be,ihk (by omega)]
      congr 1
      show ((q2 / 256 ^ k % 256:Nat):Int) = ((q / 256 ^ k % 256:Nat):Int)
      congr 1
      have hs:256 ^ r.length = 256 ^ k * (256 * 256 ^ (r.length - k - 1)):=by
       rw [<- Nat.pow_succ',<- Nat.pow_add];congr 1;omega
      have hpk:0 < 256 ^ k:=Nat.pow_pos (by decide);rw [hnat,hs,Nat.mul_left_comm,Nat.mul_add_div hpk];rw [Nat.mul_left_comm,Nat.mul_add_mod]
    rw [hbe _ (Nat.le_refl _)];exact ih r hrl hr q hq
 exact key l.length l rfl
theorem rdN_one {b:List Int} (hb:By b) (h:(rdN b).2.2 = 0):b = vk (rdN b).1 ++ b.drop (rdN b).2.1:=by
 rcases Jx b hb with (h1 | h1) | ⟨n,r,rfl,h0,h8,hl,hh,h1⟩
 ·rw [h1] at h;simp at h
 ·rw [h1] at h;simp at h
 ·rw [h1];have hr:By r:=fun x hx=>hb x (by simp [hx])
  have hbt:=hr.take n.toNat;have hlt:(r.take n.toNat).length = n.toNat:=by rw [List.length_take];omega
  obtain ⟨q,h2,h3,h4⟩:=Jw (r.take n.toNat) 0 0 hbt (by decide);have hq:qW (r.take n.toNat) = (q:Int):=h2;have hbe:=be_of _ hbt q hq;rw [hlt] at hbe;have hlen:VS q = n.toNat:=by
   apply Nat.le_antisymm
   ·exact zma _ _ (by simpa [hlt] using h3)
   ·rcases Nat.eq_zero_or_pos n.toNat with hz | hz
    ·omega
    ·obtain ⟨k,hk⟩:∃ k,n.toNat = k + 1:=⟨n.toNat - 1,by omega⟩
     rw [hk];refine ZVa k q ?_;rw [hk,be] at hbe;have hne:Zd q k ≠ 0:=by
      intro e;rw [e] at hbe;refine hh ⟨by omega,?_⟩;have:=congrArg List.head? hbe;rw [List.head?_cons,List.head?_take,if_neg (by omega)] at this;exact this.symm
     unfold Zd at hne;have hp:0 < 256 ^ k:=Nat.pow_pos (by decide);rcases Nat.lt_or_ge q (256 ^ k) with hlt2 | hge
     ·rw [Nat.div_eq_of_lt hlt2] at hne;simp at hne
     ·exact hge
  show n :: r = vk (qW (r.take n.toNat)) ++ (n :: r).drop (n.toNat + 1);rw [hq,vk,Int.toNat_natCast,wya,hlen,hbe,List.drop_succ_cons,List.cons_append,List.take_append_drop]
  congr 1;omega

abbrev RS:=List Int × Int
structure Ok (s:RS):Prop where
 by_:By s.1
 len:s.1.length <= 1000000000
 nil:s.2 ≠ 0 -> s.1 = []
def uy (e:Int) (s:RS):RS:=if s.2 = 0 /\ e ≠ 0 then ([],e) else s
def za (s:RS):Int × RS:=if s.2 ≠ 0 then (0,s) else if (rdN s.1).2.2 ≠ 0 then (0,uy (rdN s.1).2.2 s) else ((rdN s.1).1,(s.1.drop (rdN s.1).2.1,0))
def xB (m:Int) (s:RS):Int × RS:=if m < (za s).1 then (0,uy 4 (za s).2) else za s
def Ze (s:RS):Int × RS:=if s.2 ≠ 0 then (0,s) else match s.1 with | []=>(0,uy 2 s) | x :: r=>(x,(r,0))
def Yd (m:Int) (s:RS):ByteArray × RS:=
 if (za s).2.2 ≠ 0 then (⟨#[]⟩,(za s).2) else if max m 0 < (za s).1 then (⟨#[]⟩,uy 3 (za s).2) else if ((za s).2.1.length:Int) < (za s).1 then (⟨#[]⟩,uy 2 (za s).2)
 else (Qh ((za s).2.1.take (za s).1.toNat),((za s).2.1.drop (za s).1.toNat,0))
def ZZa (s:RS):Int × RS:=let t:=if 0 < s.1.length then uy 4 s else s;(t.2,t)
theorem VT {s:RS} (h:Ok s) (e:Int):Ok (uy e s):=by
 unfold uy
 by_cases c:s.2 = 0 /\ e ≠ 0
 ·rw [if_pos c];exact ⟨By.nil,by simp,fun _=>rfl⟩
 ·rw [if_neg c];exact h
theorem uz {s:RS} {e:Int} (h:e ≠ 0):(uy e s).2 ≠ 0:=by
 unfold uy
 by_cases c:s.2 = 0
 ·rw [if_pos ⟨c,h⟩];exact h
 ·rw [if_neg (fun q=>c q.1)];exact c
theorem num_of {s:RS} (h:s.2 ≠ 0):za s = (0,s):=if_pos h
theorem vh {s:RS} (h:Ok s):Ok (za s).2 /\ 0 <= (za s).1 /\ (za s).1 <= 18446744073709551615:=by
 unfold za;have hr:=yxa s.1 h.by_
 by_cases c:s.2 ≠ 0
 ·rw [if_pos c];exact ⟨h,by simp,by simp⟩
 ·rw [if_neg c]
  by_cases c2:(rdN s.1).2.2 ≠ 0
  ·rw [if_pos c2];exact ⟨VT h _,by simp,by simp⟩
  ·rw [if_neg c2];exact ⟨⟨h.by_.drop _,by simp;have:=h.len;omega,fun h=>absurd rfl h⟩,hr.1,hr.2.1⟩
theorem Jy {s:RS} (h:Ok s) {m:Int} (hm:0 <= m):Ok (xB m s).2 /\ 0 <= (xB m s).1 /\ (xB m s).1 <= m:=by
 unfold xB;obtain ⟨h1,h2,h3⟩:=vh h
 by_cases c:m < (za s).1
 ·rw [if_pos c];exact ⟨VT h1 _,by simp,hm⟩
 ·rw [if_neg c];exact ⟨h1,h2,by omega⟩
theorem Zaa {s:RS} (h:Ok s):Ok (Ze s).2 /\ 0 <= (Ze s).1 /\ (Ze s).1 <= 255:=by
 unfold Ze
 by_cases c:s.2 ≠ 0
 ·rw [if_pos c];exact ⟨h,by simp,by simp⟩
 ·rw [if_neg c]
  cases hs:s.1 with
  | nil=>exact ⟨VT h _,by simp,by simp⟩
  | cons x r=>
   have hb:=h.by_;have hl:=h.len;rw [hs] at hb hl;exact ⟨⟨fun y hy=>hb y (by simp [hy]),by simp at hl ⊢;omega,fun h=>absurd rfl h⟩,(hb x (by simp)).1,(hb x (by simp)).2⟩
theorem ok_text {s:RS} (h:Ok s) (m:Int):Ok (Yd m s).2:=by
 unfold Yd;obtain ⟨h1,h2,h3⟩:=vh h
 split
 ·exact h1
 ·split
  ·exact VT h1 _
  ·split
   ·exact VT h1 _
   ·exact ⟨h1.by_.drop _,by simp;have:=h1.len;omega,fun h=>absurd rfl h⟩

theorem New_eq (b:List Int) (h:b.length <= 1000000000):YU b = pure (b,0):=by
 unfold YU;rw [zD (by omega)]
theorem WC (b:List Int) (e:Int):zM b e = pure (e,b,e):=rfl
theorem YI (e:Int) (s:RS):zI e s.1 s.2 = pure (uy e s):=by
 unfold zI uy
 by_cases c:s.2 = 0 <;> by_cases c2:e = 0 <;> simp [c,c2,zA] <;> rw [<- c]
theorem x6a (b:List Int) (n:Nat) (e:Int) (h:n <= b.length):yl (n:Int) b e = pure (b.take n,b.drop n,e):=by
 unfold yl;rw [zD (by omega),zD (by omega)];simp
theorem Wx {s:RS} (h:Ok s):zW s.1 s.2 = pure (za s):=by
 unfold zW za;rw [WC,zB,zA]
 by_cases c:s.2 = 0
 ·have hr:=yxa s.1 h.by_;simp only [c,decide_true,Bool.not_true,cond_false,Read_eq s.1 h.by_ (by have:=h.len;omega),zB,zA,ne_eq,not_true_eq_false,if_false]
  by_cases c2:(rdN s.1).2.2 = 0
  ·simp only [c2,decide_true,Bool.not_true,cond_false,x6a s.1 (rdN s.1).2.1 0 hr.2.2.1,zB,zA,not_true_eq_false,if_false]
  ·have:=YI (rdN s.1).2.2 s;rw [c] at this;simp only [c2,decide_false,Bool.not_false,cond_true,this,zB,zA,not_false_eq_true,if_true]
 ·simp [c]
theorem Zba {s:RS} (h:Ok s) (m:Int):yr m s.1 s.2 = pure (xB m s):=by
 unfold yr xB;rw [Wx h,zB,zA]
 by_cases c:m < (za s).1
 ·rw [decide_eq_true c,cond_true,if_pos c,YI 4 (za s).2,zB,zA]
 ·rw [decide_eq_false c,cond_false,if_neg c]
theorem zoa (s:RS):yB s.1 s.2 = pure ((s.1.length:Int),s):=by
 unfold yB ud;rw [zB,zA]
theorem w1a {s:RS} (h:Ok s):yI s.1 s.2 = pure (Ze s):=by
 unfold yI Ze;rw [WC,zB,zA]
 by_cases c:s.2 = 0
 ·obtain ⟨b,e⟩:=s;simp only at c;subst c;have hL:=zoa (b,0);simp only at hL
  cases b with
  | nil=>
   have:=YI 2 ([],0);simp only at this;simp [hL,zB,zA,this]
  | cons x r=>
   have ht:=x6a (x :: r) 1 0 (by simp);simp only [show ((1:Nat):Int) = 1 from rfl] at ht;have hd:decide (((x :: r).length:Int) = 0) = false:=by simp;omega
   simp only [decide_true,Bool.not_true,cond_false,hL,zB,zA,hd,ht];rw [YM (l:=List.take 1 (x :: r)) (i:=0) (y:=x) (by omega) rfl,zA];simp
 ·simp [c]
theorem x7a {s:RS} (h:Ok s) {m:Int} (hm:m <= 9223372036854775807):yt m s.1 s.2 = pure (Yd m s):=by
 unfold yt Yd;obtain ⟨h1,h2,h3⟩:=vh h;rw [Wx h,zB,zA,WC,zB,zA]
 by_cases c:(za s).2.2 = 0
 ·simp only [c,decide_true,Bool.not_true,cond_false,ne_eq,not_true_eq_false,if_false];rw [VV (n:=max m 0) (by omega) (by omega)]
  by_cases c2:max m 0 < (za s).1
  ·have hF:=YI 3 (za s).2;rw [c] at hF;rw [decide_eq_true c2,cond_true,if_pos c2,hF,zB,zA]
  ·have hL:=zoa (za s).2;rw [c] at hL;rw [decide_eq_false c2,cond_false,if_neg c2,hL,zB,zA];have hlen:=h1.len;rw [VV (n:=((za s).2.1.length:Int)) (by omega) (by omega)]
   by_cases c3:((za s).2.1.length:Int) < (za s).1
   ·have hF:=YI 2 (za s).2;rw [decide_eq_true c3,cond_true,if_pos c3,hF,zB,zA]
   ·rw [decide_eq_false c3,cond_false,if_neg c3,Xi (by omega) (by omega)];have ht:=x6a (za s).2.1 (za s).1.toNat (za s).2.2 (by omega);rw [Int.toNat_of_nonneg h2] at ht;rw [ht,zB,zA,c]
 ·simp [c]
theorem End_eq (s:RS):xP s.1 s.2 = pure (ZZa s):=by
 unfold xP ZZa;rw [zoa,zB,zA]
 by_cases c:0 < s.1.length
 ·have:decide ((0:Int) < (s.1.length:Int)) = true:=by simpa using c
  simp only [this,cond_true,YI,zB,zA,if_pos c,WC]
 ·have:decide ((0:Int) < (s.1.length:Int)) = false:=by simpa using c
  simp only [this,cond_false,zA,if_neg c,WC,zB]

theorem Zca (b row:List Int) (h:row.length + b.length <= 100000000000000):yd b row = pure (row ++ b):=by
 unfold yd;rw [zD (by omega)]
theorem Zf {v:Int} (row:List Int) (h0:0 <= v) (h:v <= 18446744073709551615) (hr:row.length <= 10000000000000):zV v row = pure (row ++ vk v):=by
 unfold zV;have:=yL h;rw [ZXa [] h0 h (by simp),zB,zA,List.nil_append,Zca _ _ (by omega),zB,zA]
theorem w2a (row:List Int) (h:row.length <= 100000000000000):zr row = pure (row,row):=by
 unfold zr;rw [zD (by omega)]
theorem w3a (c:Int) (row:List Int) (hr:row.length <= 10000000000000):yo c row = pure (row ++ [c]):=by
 unfold yo;rw [Zca _ _ (by simp;omega),zB,zA]


structure Sim (B:List Int) (a:Int) (s:RS):Prop where
 lo:0 <= a
 hi:a <= B.length
 eq:s.2 = 0 -> s.1 = B.drop a.toNat
theorem Sim.bad {B:List Int} {a:Int} {s t:RS} (h:Sim B a s) (ht:t.2 ≠ 0):Sim B a t:=⟨h.lo,h.hi,fun h2=>absurd h2 ht⟩
variable {B:List Int} {a:Int} {s:RS}
end Go.Ep.M.N


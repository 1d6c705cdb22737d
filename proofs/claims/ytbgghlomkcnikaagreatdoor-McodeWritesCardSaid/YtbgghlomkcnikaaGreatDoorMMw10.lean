/- Side texts. -/
import Derived.Test.YtbgghlomkcnikaaGreatDoorMMw3
import Derived.Test.YtbgghlomkcnikaaGreatDoorMMw9
set_option linter.unusedVariables false
set_option linter.unusedSimpArgs false
namespace Go.Ep.M.R
open Go

def Zl (x:RN):Bool:=decide (1 <= x.lo) && (decide (x.lo <= x.hi) && decide (x.hi <= 281474976710655))
theorem zU {x:RN}:Zl x = true ↔ 1 <= x.lo /\ x.lo <= x.hi /\ x.hi <= 281474976710655:=by simp [Zl]
def inR (n:Int) (x:RN):Bool:=Zl x && (decide (x.lo <= n) && decide (n <= x.hi))
theorem yT {n:Int} {x:RN}:inR n x = true ↔ (1 <= x.lo /\ x.lo <= x.hi /\ x.hi <= 281474976710655) /\ x.lo <= n /\ n <= x.hi:=by simp [inR,Zl]
def zq (l:List RN) (n:Int):Bool:=l.any (inR n)
theorem xS {l:List RN} {n:Int}:zq l n = true ↔ ∃ x ∈ l,Zl x = true /\ x.lo <= n /\ n <= x.hi:=by
 unfold zq;rw [List.any_eq_true];simp [inR]
@[simp] theorem Ja (n:Int):zq [] n = false:=rfl
theorem ym (x:RN) (l:List RN) (n:Int):zq (x :: l) n = (inR n x || zq l n):=rfl
theorem vR (a b:List RN) (n:Int):zq (a ++ b) n = (zq a n || zq b n):=by simp [zq]
theorem wb (x:RN) (n:Int):zq [x] n = inR n x:=by simp [zq]
theorem wAa {a b:List RN} (h:a.Perm b) (n:Int):zq a n = zq b n:=by
 rw [Bool.eq_iff_iff,xS,xS];simp only [h.mem_iff]
theorem zHa (l:List RN) (n:Int):zq (l.filter Zl) n = zq l n:=by
 rw [Bool.eq_iff_iff,xS,xS];simp only [List.mem_filter];exact ⟨fun ⟨x,⟨h1,_⟩,h3⟩=>⟨x,h1,h3⟩,fun ⟨x,h1,h2,h3⟩=>⟨x,⟨h1,h2⟩,h2,h3⟩⟩
theorem jT {l:List RN} {n:Int} (h:zq l n = true):1 <= n /\ n <= 281474976710655:=by
 obtain ⟨x,_,h2,h3,h4⟩:=xS.1 h;have:=zU.1 h2;omega

def Nf : List RN -> Prop
 | []=>True
 | x :: r=>Zl x = true /\ (∀ y ∈ r,x.hi + 1 < y.lo) /\ Nf r
theorem Nf.may {l:List RN} (h:Nf l):∀ x ∈ l,Zl x = true:=by
 induction l with
 | nil=>simp
 | cons y r ih=>
  intro x hx;rcases List.mem_cons.1 hx with rfl | hx
  ·exact h.1
  ·exact ih h.2.2 x hx
theorem Ze {l:List RN} {z:RN}:Nf (l ++ [z]) ↔ Nf l /\ Zl z = true /\ ∀ p ∈ l,p.hi + 1 < z.lo:=by
 induction l with
 | nil=>simp [Nf]
 | cons x r ih=>
  simp only [List.cons_append,Nf,ih,List.mem_append,List.mem_cons,List.not_mem_nil,or_false]
  constructor
  ·rintro ⟨h1,h2,h3,h4,h5⟩;refine ⟨⟨h1,fun y hy=>h2 y (.inl hy),h3⟩,h4,fun p hp=>?_⟩;rcases hp with rfl | hp
   ·exact h2 z (.inr rfl)
   ·exact h5 p hp
  ·rintro ⟨⟨h1,h2,h3⟩,h4,h5⟩;refine ⟨h1,fun y hy=>?_,h3,h4,fun p hp=>h5 p (.inr hp)⟩;rcases hy with hy | rfl
   ·exact h2 y hy
   ·exact h5 x (.inl rfl)
theorem UL {x:RN} {r:List RN} (h:Nf (x :: r)) {n:Int} (hn:zq r n = true):x.hi + 1 < n:=by
 obtain ⟨y,h1,_,h3,_⟩:=xS.1 hn;have:=h.2.1 y h1;omega
theorem Jb {x:RN} {r:List RN} (h:Nf (x :: r)):zq (x :: r) x.lo = true:=by
 rw [ym];have:=zU.1 h.1;rw [Bool.or_eq_true];exact .inl (yT.2 ⟨this,by omega,by omega⟩)
theorem Jc {x:RN} {r:List RN} (h:Nf (x :: r)) {n:Int} (hn:zq (x :: r) n = true):x.lo <= n:=by
 rw [ym,Bool.or_eq_true] at hn;rcases hn with hn | hn
 ·exact (yT.1 hn).2.1
 ·have:=UL h hn;have:=zU.1 h.1;omega
theorem zIa {x:RN} {r:List RN} (h:Nf (x :: r)) {n:Int} (h1:x.lo <= n):zq (x :: r) n = true ↔ n <= x.hi \/ zq r n = true:=by
 rw [ym,Bool.or_eq_true,yT];have:=zU.1 h.1
 constructor
 ·rintro (h2 | h2)
  ·exact .inl h2.2.2
  ·exact .inr h2
 ·rintro (h2 | h2)
  ·exact .inl ⟨this,h1,h2⟩
  ·exact .inr h2
theorem Xx : ∀ {a b:List RN},Nf a -> Nf b -> (∀ n,zq a n = zq b n) -> a = b
 | [],[],_,_,_=>rfl
 | [],y :: s,_,hb,h=>by have:=h y.lo;rw [Jb hb] at this;simp at this
 | x :: r,[],ha,_,h=>by have:=h x.lo;rw [Jb ha] at this;simp at this
 | x :: r,y :: s,ha,hb,h=>by
  have h1:x.lo = y.lo:=by
   have h2:=Jc hb (by rw [<- h];exact Jb ha);have h3:=Jc ha (by rw [h];exact Jb hb);omega
  have hx:=zU.1 ha.1;have hy:=zU.1 hb.1;have hle:∀ {x y:RN} {r s:List RN},Nf (x :: r) -> Nf (y :: s) -> (∀ n,zq (x :: r) n = zq (y :: s) n) -> x.lo = y.lo -> y.hi <= x.hi:=by
   intro x y r s ha hb h h1;have hx:=zU.1 ha.1;refine Classical.byContradiction fun hc=>?_
   have h2:zq (y :: s) (x.hi + 1) = true:=(zIa hb (by omega)).2 (.inl (by omega));rw [<- h,zIa ha (by omega)] at h2;rcases h2 with h2 | h2
   ·omega
   ·have:=UL ha h2;omega
  have h2:x.hi = y.hi:=by
   have:=hle ha hb h h1;have:=hle hb ha (fun n=>(h n).symm) h1.symm;omega
  have he:x = y:=by cases x;cases y;simp_all
  subst he;rw [Xx ha.2.2 hb.2.2 fun n=>?_];rw [Bool.eq_iff_iff];have h3:=h n
  constructor
  ·intro hn;have:=UL ha hn;have h4:zq (x :: r) n = true:=(zIa ha (by omega)).2 (.inr hn);rw [h3,zIa hb (by omega)] at h4;rcases h4 with h4 | h4
   ·omega
   ·exact h4
  ·intro hn;have:=UL hb hn;have h4:zq (x :: s) n = true:=(zIa hb (by omega)).2 (.inr hn);rw [<- h3,zIa ha (by omega)] at h4;rcases h4 with h4 | h4
   ·omega
   ·exact h4

def Xy (n:Int) (s:Bool × List Int) (x:Int):Bool × List Int:=
 let t:=if s.1 = false /\ n <= x then (true,s.2 ++ [n]) else s
 if x = n then t else (t.1,t.2 ++ [x])
def putP (l:List Int) (n:Int):List Int:=let t:=l.foldl (Xy n) (false,[]);if t.1 then t.2 else t.2 ++ [n]
abbrev Up (l:List Int):Prop:=l.Pairwise (· < ·)
theorem UM {l:List Int} {z:Int}:Up (l ++ [z]) ↔ Up l /\ ∀ p ∈ l,p < z:=by
 unfold Up;rw [List.pairwise_append];simp
theorem Xz (n:Int):∀ (l:List Int) (s:Bool × List Int),Up l -> Up s.2 -> (∀ p ∈ s.2,∀ x ∈ l,p < x \/ (p = n /\ s.1 = true /\ p <= x)) -> (s.1 = true -> n ∈ s.2) -> (s.1 = false -> ∀ p ∈ s.2,p < n) ->
  Up (l.foldl (Xy n) s).2 /\ (∀ m,m ∈ (l.foldl (Xy n) s).2 ↔ m ∈ s.2 \/ (m ∈ l /\ m ≠ n) \/ (m = n /\ (l.foldl (Xy n) s).1 = true)) /\ ((l.foldl (Xy n) s).1 = false -> ∀ p ∈ (l.foldl (Xy n) s).2,p < n) /\ (l.foldl (Xy n) s).2.length <= s.2.length + l.length + (if s.1 then 0 else 1) /\ ((l.foldl (Xy n) s).1 = false -> (l.foldl (Xy n) s).2.length <= s.2.length + l.length)
 | [],s,_,hs,_,h2,h3=>by
  refine ⟨hs,fun m=>?_,h3,by simp,by simp⟩;simp only [List.foldl_nil,List.not_mem_nil,false_and,false_or];exact ⟨fun h=>.inl h,fun h=>h.elim id fun ⟨e,h⟩=>e ▸ h2 h⟩
 | x :: r,(d,out),hl,hs,h1,h2,h3=>by
  rw [List.foldl_cons];have hl':=List.pairwise_cons.1 hl;simp only at hs h1 h2 h3
  by_cases hc:d = false /\ n <= x
  ·obtain ⟨rfl,hnx⟩:=hc
   by_cases hx:x = n
   ·have e:Xy n (false,out) x = (true,out ++ [n]):=by simp [Xy,hx]
    rw [e];obtain ⟨i1,i2,i3,i4,i5⟩:=Xz n r (true,out ++ [n]) hl'.2 (UM.2 ⟨hs,h3 rfl⟩) (fun p hp y hy=>by
     have:=hl'.1 y hy;rcases List.mem_append.1 hp with hp | hp
     ·have:=h3 rfl p hp;left;omega
     ·simp at hp;left;omega) (fun _=>by simp) (fun h=>by cases h)
    refine ⟨i1,fun m=>?_,i3,?_,?_⟩
    ·rw [i2];simp only [List.mem_append,List.mem_cons,List.not_mem_nil,or_false]
     constructor
     ·rintro ((h | h) | h | h)
      ·exact .inl h
      ·refine .inr (.inr ⟨h,?_⟩)
       cases hb:(r.foldl (Xy n) (true,out ++ [n])).1 with
       | true=>rfl
       | false=>have:=i3 hb n ((i2 n).2 (.inl (by simp)));omega
      ·exact .inr (.inl ⟨.inr h.1,h.2⟩)
      ·exact .inr (.inr h)
     ·rintro (h | ⟨h | h,h'⟩ | h)
      ·exact .inl (.inl h)
      ·exact absurd (h.trans hx) h'
      ·exact .inr (.inl ⟨h,h'⟩)
      ·exact .inr (.inr h)
    ·simp at i4 ⊢;omega
    ·intro hf;have:=i5 hf;simp at this ⊢;omega
   ·have e:Xy n (false,out) x = (true,out ++ [n] ++ [x]):=by simp [Xy,hx,hnx]
    rw [e];obtain ⟨i1,i2,i3,i4,i5⟩:=Xz n r (true,out ++ [n] ++ [x]) hl'.2 (UM.2 ⟨UM.2 ⟨hs,h3 rfl⟩,fun p hp=>by
     rcases List.mem_append.1 hp with hp | hp
     ·have:=h3 rfl p hp;omega
     ·simp at hp;omega⟩) (fun p hp y hy=>by
     have:=hl'.1 y hy;simp only [List.mem_append,List.mem_singleton] at hp;rcases hp with (hp | hp) | hp
     ·have:=h3 rfl p hp;left;omega
     ·left;omega
     ·left;omega) (fun _=>by simp) (fun h=>by cases h)
    refine ⟨i1,fun m=>?_,i3,?_,?_⟩
    ·rw [i2];simp only [List.mem_append,List.mem_cons,List.not_mem_nil,or_false]
     constructor
     ·rintro (((h | h) | h) | h | h)
      ·exact .inl h
      ·refine .inr (.inr ⟨h,?_⟩)
       cases hb:(r.foldl (Xy n) (true,out ++ [n] ++ [x])).1 with
       | true=>rfl
       | false=>have:=i3 hb n ((i2 n).2 (.inl (by simp)));omega
      ·exact .inr (.inl ⟨.inl h,fun e=>hx (h.symm.trans e)⟩)
      ·exact .inr (.inl ⟨.inr h.1,h.2⟩)
      ·exact .inr (.inr h)
     ·rintro (h | ⟨h | h,h'⟩ | h)
      ·exact .inl (.inl (.inl h))
      ·exact .inl (.inr h)
      ·exact .inr (.inl ⟨h,h'⟩)
      ·exact .inr (.inr h)
    ·simp at i4 ⊢;omega
    ·intro hf;have:=i5 hf;simp at this ⊢;exfalso;have:=i3 hf n ((i2 n).2 (.inl (by simp)));omega
  ·by_cases hx:x = n
   ·have hd:d = true:=by cases d with | true=>rfl | false=>exact absurd ⟨rfl,by omega⟩ hc
    subst hd;have e:Xy n (true,out) x = (true,out):=by simp [Xy,hx]
    rw [e];obtain ⟨i1,i2,i3,i4,i5⟩:=Xz n r (true,out) hl'.2 hs (fun p hp y hy=>h1 p hp y (List.mem_cons_of_mem _ hy)) h2 h3;refine ⟨i1,fun m=>?_,i3,?_,?_⟩
    ·rw [i2];simp only [List.mem_cons]
     constructor
     ·rintro (h | h | h)
      ·exact .inl h
      ·exact .inr (.inl ⟨.inr h.1,h.2⟩)
      ·exact .inr (.inr h)
     ·rintro (h | ⟨h | h,h'⟩ | h)
      ·exact .inl h
      ·exact absurd (h.trans hx) h'
      ·exact .inr (.inl ⟨h,h'⟩)
      ·exact .inr (.inr h)
    ·simp at i4 ⊢;omega
    ·intro hf;have:=i5 hf;simp at this ⊢;omega
   ·have e:Xy n (d,out) x = (d,out ++ [x]):=by
     unfold Xy;simp only [hc,if_false,hx]
    rw [e];have hlt:d = false -> x < n:=fun h=>by
     have:¬ n <= x:=fun h'=>hc ⟨h,h'⟩
     omega
    obtain ⟨i1,i2,i3,i4,i5⟩:=Xz n r (d,out ++ [x]) hl'.2 (UM.2 ⟨hs,fun p hp=>by
     rcases h1 p hp x (by simp) with h | h
     ·exact h
     ·omega⟩) (fun p hp y hy=>by
     rcases List.mem_append.1 hp with hp | hp
     ·exact h1 p hp y (List.mem_cons_of_mem _ hy)
     ·simp at hp;have:=hl'.1 y hy;left;omega) (fun h=>List.mem_append_left _ (h2 h)) (fun h p hp=>by
     rcases List.mem_append.1 hp with hp | hp
     ·exact h3 h p hp
     ·simp at hp;rw [hp];exact hlt h)
    refine ⟨i1,fun m=>?_,i3,?_,?_⟩
    ·rw [i2];simp only [List.mem_append,List.mem_cons,List.not_mem_nil,or_false]
     constructor
     ·rintro ((h | h) | h | h)
      ·exact .inl h
      ·exact .inr (.inl ⟨.inl h,fun e=>hx (h.symm.trans e)⟩)
      ·exact .inr (.inl ⟨.inr h.1,h.2⟩)
      ·exact .inr (.inr h)
     ·rintro (h | ⟨h | h,h'⟩ | h)
      ·exact .inl (.inl h)
      ·exact .inl (.inr h)
      ·exact .inr (.inl ⟨h,h'⟩)
      ·exact .inr (.inr h)
    ·simp at i4 ⊢;omega
    ·intro hf;have:=i5 hf;simp at this ⊢;omega
theorem WZ {l:List Int} (h:Up l) (n:Int):Up (putP l n) /\ (∀ m,m ∈ putP l n ↔ m ∈ l \/ m = n) /\ (putP l n).length <= l.length + 1:=by
 obtain ⟨i1,i2,i3,i4,i5⟩:=Xz n l (false,[]) h (by simp [Up]) (by simp) (by simp) (by simp);unfold putP;simp only
 cases hb:(l.foldl (Xy n) (false,[])).1 with
 | true=>
  simp only [if_true];refine ⟨i1,fun m=>?_,by simpa using i4⟩;rw [i2,hb];simp only [List.not_mem_nil,false_or,and_true]
  constructor
  ·rintro (h | h)
   ·exact .inl h.1
   ·exact .inr h
  ·rintro (h | h)
   ·by_cases e:m = n
    ·exact .inr e
    ·exact .inl ⟨h,e⟩
   ·exact .inr h
 | false=>
  have:=i5 hb;rw [if_neg (by simp)];refine ⟨UM.2 ⟨i1,i3 hb⟩,fun m=>?_,by simp at this ⊢;omega⟩;simp only [List.mem_append,List.mem_singleton,i2,hb,List.not_mem_nil,false_or]
  constructor
  ·rintro ((h | h) | h)
   ·exact .inl h.1
   ·cases h.2
   ·exact .inr h
  ·rintro (h | h)
   ·by_cases e:m = n
    ·exact .inr e
    ·exact .inl (.inl ⟨h,e⟩)
   ·exact .inr h
def ptS (out:List Int) (x:RN):List Int:=if Zl x then putP (putP out x.lo) (x.hi + 1) else out
def Jd (l:List RN):List Int:=l.foldl ptS []
theorem Je : ∀ (l:List RN) (out:List Int),Up out -> Up (l.foldl ptS out) /\ (∀ m,m ∈ l.foldl ptS out ↔ m ∈ out \/ ∃ x ∈ l,Zl x = true /\ (m = x.lo \/ m = x.hi + 1)) /\ (l.foldl ptS out).length <= out.length + 2 * l.length
 | [],out,h=>⟨h,fun m=>by simp,by simp⟩
 | x :: r,out,h=>by
  rw [List.foldl_cons];obtain ⟨j1,j2,j3⟩:=WZ h x.lo;obtain ⟨k1,k2,k3⟩:=WZ j1 (x.hi + 1)
  by_cases hm:Zl x = true
  ·have e:ptS out x = putP (putP out x.lo) (x.hi + 1):=by simp [ptS,hm]
   rw [e];obtain ⟨i1,i2,i3⟩:=Je r _ k1;refine ⟨i1,fun m=>?_,by simp;omega⟩;rw [i2,k2,j2]
   constructor
   ·rintro (((h | h) | h) | ⟨y,h1,h2⟩)
    ·exact .inl h
    ·exact .inr ⟨x,by simp,hm,.inl h⟩
    ·exact .inr ⟨x,by simp,hm,.inr h⟩
    ·exact .inr ⟨y,by simp [h1],h2⟩
   ·rintro (h | ⟨y,h1,h2,h3⟩)
    ·exact .inl (.inl (.inl h))
    ·rcases List.mem_cons.1 h1 with rfl | h1
     ·rcases h3 with h3 | h3
      ·exact .inl (.inl (.inr h3))
      ·exact .inl (.inr h3)
     ·exact .inr ⟨y,h1,h2,h3⟩
  ·have e:ptS out x = out:=by simp [ptS,hm]
   rw [e];obtain ⟨i1,i2,i3⟩:=Je r _ h;refine ⟨i1,fun m=>?_,by simp;omega⟩;rw [i2]
   constructor
   ·rintro (h | ⟨y,h1,h2⟩)
    ·exact .inl h
    ·exact .inr ⟨y,by simp [h1],h2⟩
   ·rintro (h | ⟨y,h1,h2,h3⟩)
    ·exact .inl h
    ·rcases List.mem_cons.1 h1 with rfl | h1
     ·exact absurd h2 hm
     ·exact .inr ⟨y,h1,h2,h3⟩
theorem jU (l:List RN):Up (Jd l) /\ (∀ m,m ∈ Jd l ↔ ∃ x ∈ l,Zl x = true /\ (m = x.lo \/ m = x.hi + 1)) /\ (Jd l).length <= 2 * l.length:=by
 obtain ⟨h1,h2,h3⟩:=Je l [] (by simp [Up]);exact ⟨h1,fun m=>by rw [Jd,h2];simp,by simpa [Jd] using h3⟩

def z6a (out:List RN) (p:Int) (z:RN -> RN) (x:RN):List RN:=match out.getLast? with
 | some y=>if y.hi + 1 = p then out.dropLast ++ [z y] else out ++ [x]
 | none=>out ++ [x]
def z7a (op:Bool -> Bool -> Bool) (a b:List RN) (out:List RN) (pq:Int × Int):List RN:=
 if op (zq a pq.1) (zq b pq.1) then z6a out pq.1 (fun y=>⟨y.lo,pq.2 - 1⟩) ⟨pq.1,pq.2 - 1⟩ else out
def xA (l:List Int):List (Int × Int):=l.zip l.tail
def uY (op:Bool -> Bool -> Bool) (a b:List RN):List RN:=(xA (Jd (a ++ b))).foldl (z7a op a b) []

theorem ywa (p:Int) (z:RN -> RN) (x:RN):z6a [] p z x = [x]:=rfl
theorem UN (l:List RN) (y:RN) (p:Int) (z:RN -> RN) (x:RN):z6a (l ++ [y]) p z x = if y.hi + 1 = p then l ++ [z y] else l ++ [y] ++ [x]:=by simp [z6a]
theorem yv {α:Type} (l:List α):l = [] \/ ∃ r y,l = r ++ [y]:=by
 rcases List.eq_nil_or_concat l with h | ⟨r,y,h⟩
 ·exact .inl h
 ·exact .inr ⟨r,y,by simpa using h⟩

theorem Jg (op:Bool -> Bool -> Bool) (a b:List RN):∀ (P:List Int) (p:Int) (out:List RN),Up (p :: P) -> (∀ q ∈ p :: P,1 <= q /\ q <= 281474976710656) -> Nf out -> (∀ y ∈ out,y.hi < p) ->
  Nf ((xA (p :: P)).foldl (z7a op a b) out) /\ (∀ n,zq ((xA (p :: P)).foldl (z7a op a b) out) n = true ↔ zq out n = true \/ ∃ pq ∈ xA (p :: P),pq.1 <= n /\ n < pq.2 /\ op (zq a pq.1) (zq b pq.1) = true) /\ ((xA (p :: P)).foldl (z7a op a b) out).length <= out.length + P.length
 | [],p,out,_,_,h,_=>by simp [xA,h]
 | q :: P,p,out,hu,hr,h,hy=>by
  have e:xA (p :: q :: P) = (p,q) :: xA (q :: P):=rfl;rw [e,List.foldl_cons];have hu':=List.pairwise_cons.1 hu;have hpq:p < q:=hu'.1 q (by simp);have hp:=hr p (by simp);have hq:=hr q (by simp);have step:Nf (z7a op a b out (p,q)) /\ (∀ n,zq (z7a op a b out (p,q)) n = true ↔ zq out n = true \/ (p <= n /\ n < q /\ op (zq a p) (zq b p) = true)) /\ (∀ y ∈ z7a op a b out (p,q),y.hi < q) /\ (z7a op a b out (p,q)).length <= out.length + 1:=by
   unfold z7a;simp only
   by_cases hop:op (zq a p) (zq b p) = true
   ·rw [if_pos hop];rcases yv out with rfl | ⟨l,y,rfl⟩
    ·rw [ywa];have hm:Zl (⟨p,q - 1⟩:RN) = true:=zU.2 ⟨hp.1,by simp only;omega,by simp only;omega⟩;refine ⟨⟨hm,by simp,trivial⟩,fun n=>?_,fun y hy=>?_,by simp⟩
     ·rw [wb,yT];have:=zU.1 hm;simp only at this ⊢;simp only [Ja,Bool.false_eq_true,false_or,hop,and_true];omega
     ·simp at hy;subst hy;simp only;omega
    ·rw [UN];obtain ⟨n1,n2,n3⟩:=Ze.1 h;have hym:=zU.1 n2;have hyp:=hy y (by simp)
     by_cases hadj:y.hi + 1 = p
     ·rw [if_pos hadj];have hm:Zl (⟨y.lo,q - 1⟩:RN) = true:=zU.2 ⟨hym.1,by simp only;omega,by simp only;omega⟩;refine ⟨Ze.2 ⟨n1,hm,n3⟩,fun n=>?_,fun z hz=>?_,by simp⟩
      ·rw [vR,vR,wb,wb,Bool.or_eq_true,Bool.or_eq_true,yT,yT];have:=zU.1 hm;simp only at this ⊢;simp only [hop,and_true]
       constructor
       ·rintro (h | h)
        ·exact .inl (.inl h)
        ·by_cases hc:n <= y.hi
         ·exact .inl (.inr ⟨hym,h.2.1,hc⟩)
         ·right;omega
       ·rintro ((h | h) | h)
        ·exact .inl h
        ·right;omega
        ·right;omega
      ·rcases List.mem_append.1 hz with hz | hz
       ·have:=hy z (by simp [hz]);omega
       ·simp at hz;subst hz;simp only;omega
     ·rw [if_neg hadj];have hm:Zl (⟨p,q - 1⟩:RN) = true:=zU.2 ⟨hp.1,by simp only;omega,by simp only;omega⟩;refine ⟨Ze.2 ⟨h,hm,fun z hz=>?_⟩,fun n=>?_,fun z hz=>?_,by simp⟩
      ·simp only;rcases List.mem_append.1 hz with hz | hz
       ·have:=n3 z hz;omega
       ·simp at hz;subst hz;omega
      ·rw [vR (l ++ [y]),wb,Bool.or_eq_true,yT];have:=zU.1 hm;simp only at this ⊢;simp only [hop,and_true]
       constructor
       ·rintro (h | h)
        ·exact .inl h
        ·right;omega
       ·rintro (h | h)
        ·exact .inl h
        ·right;omega
      ·rcases List.mem_append.1 hz with hz | hz
       ·have:=hy z hz;omega
       ·simp at hz;subst hz;simp only;omega
   ·rw [if_neg hop];refine ⟨h,fun n=>?_,fun y hy'=>by have:=hy y hy';omega,by omega⟩;exact ⟨fun h=>.inl h,fun h=>h.elim id fun h=>absurd h.2.2 hop⟩
  obtain ⟨s1,s2,s3,s4⟩:=step;obtain ⟨i1,i2,i3⟩:=Jg op a b P q _ hu'.2 (fun z hz=>hr z (List.mem_cons_of_mem _ hz)) s1 s3;refine ⟨i1,fun n=>?_,by simp;omega⟩;rw [i2,s2];simp only [List.mem_cons,exists_eq_or_imp]
  constructor
  ·rintro ((h | h) | h)
   ·exact .inl h
   ·exact .inr (.inl h)
   ·exact .inr (.inr h)
  ·rintro (h | h | h)
   ·exact .inl (.inl h)
   ·exact .inl (.inr h)
   ·exact .inr h

theorem Wa : ∀ {P:List Int},Up P -> ∀ pq ∈ xA P,pq.1 ∈ P /\ pq.2 ∈ P /\ pq.1 < pq.2 /\ ∀ m ∈ P,m <= pq.1 \/ pq.2 <= m
 | [],_,pq,h=>by simp [xA] at h
 | [p],_,pq,h=>by simp [xA] at h
 | p :: q :: P,hu,pq,h=>by
  have e:xA (p :: q :: P) = (p,q) :: xA (q :: P):=rfl;rw [e] at h;have hu':=List.pairwise_cons.1 hu;rcases List.mem_cons.1 h with rfl | h
  ·refine ⟨by simp,by simp,hu'.1 q (by simp),fun m hm=>?_⟩;rcases List.mem_cons.1 hm with rfl | hm
   ·simp
   ·right
    rcases List.mem_cons.1 hm with rfl | hm
    ·simp
    ·have:=(List.pairwise_cons.1 hu'.2).1 m hm;simp only;omega
  ·obtain ⟨h1,h2,h3,h4⟩:=Wa hu'.2 pq h;refine ⟨List.mem_cons_of_mem _ h1,List.mem_cons_of_mem _ h2,h3,fun m hm=>?_⟩;rcases List.mem_cons.1 hm with rfl | hm
   ·left;have:=hu'.1 _ h1;omega
   ·exact h4 m hm
theorem jV : ∀ {P:List Int},Up P -> ∀ {u v n:Int},u ∈ P -> v ∈ P -> u <= n -> n < v -> ∃ pq ∈ xA P,pq.1 <= n /\ n < pq.2
 | [],_,_,_,_,h,_,_,_=>by simp at h
 | [p],_,u,v,n,h1,h2,h3,h4=>by simp at h1 h2;omega
 | p :: q :: P,hu,u,v,n,h1,h2,h3,h4=>by
  have e:xA (p :: q :: P) = (p,q) :: xA (q :: P):=rfl;have hu':=List.pairwise_cons.1 hu
  by_cases hc:n < q
  ·refine ⟨(p,q),by rw [e];simp,?_,hc⟩;rcases List.mem_cons.1 h1 with rfl | h1
   ·exact h3
   ·have:q <= u:=by
     rcases List.mem_cons.1 h1 with rfl | h1
     ·omega
     ·have:=(List.pairwise_cons.1 hu'.2).1 u h1;omega
    simp only;omega
  ·have hv:v ∈ q :: P:=by
    rcases List.mem_cons.1 h2 with rfl | h2
    ·have:=hu'.1 q (by simp);omega
    ·exact h2
   obtain ⟨pq,h5,h6⟩:=jV hu'.2 (u:=q) (by simp) hv (by omega) h4;exact ⟨pq,by rw [e];exact List.mem_cons_of_mem _ h5,h6⟩
theorem wBa (P:List Int):(xA P).length = P.length - 1:=by simp [xA]

theorem Zf {l:List RN} {P:List Int} (hP:∀ x ∈ l,Zl x = true -> x.lo ∈ P /\ x.hi + 1 ∈ P) {p q n:Int} (h1:∀ m ∈ P,m <= p \/ q <= m) (h2:p <= n) (h3:n < q):zq l n = zq l p:=by
 rw [Bool.eq_iff_iff,xS,xS]
 constructor
 ·rintro ⟨x,hx,hm,h4,h5⟩;obtain ⟨h6,h7⟩:=hP x hx hm;have:=h1 _ h6;have:=h1 _ h7;exact ⟨x,hx,hm,by omega,by omega⟩
 ·rintro ⟨x,hx,hm,h4,h5⟩;obtain ⟨h6,h7⟩:=hP x hx hm;have:=h1 _ h6;have:=h1 _ h7;exact ⟨x,hx,hm,by omega,by omega⟩
theorem zd (op:Bool -> Bool -> Bool) (h0:op false false = false) (a b:List RN):Nf (uY op a b) /\ (∀ n,zq (uY op a b) n = op (zq a n) (zq b n)) /\ (uY op a b).length <= 2 * (a.length + b.length):=by
 obtain ⟨p1,p2,p3⟩:=jU (a ++ b);have hrange:∀ q ∈ Jd (a ++ b),1 <= q /\ q <= 281474976710656:=fun q hq=>by
  obtain ⟨x,_,h2,h3⟩:=(p2 q).1 hq;have:=zU.1 h2;omega
 have main:Nf (uY op a b) /\ (∀ n,zq (uY op a b) n = true ↔ ∃ pq ∈ xA (Jd (a ++ b)),pq.1 <= n /\ n < pq.2 /\ op (zq a pq.1) (zq b pq.1) = true) /\ (uY op a b).length <= (Jd (a ++ b)).length:=by
  unfold uY
  generalize hP:Jd (a ++ b) = P at p1 hrange
  cases P with
  | nil=>simp [xA,Nf]
  | cons p P=>
   obtain ⟨i1,i2,i3⟩:=Jg op a b P p [] p1 hrange trivial (by simp);exact ⟨i1,fun n=>by rw [i2];simp,by simp at i3 ⊢;omega⟩
 obtain ⟨m1,m2,m3⟩:=main;refine ⟨m1,fun n=>?_,by simp at p3;omega⟩;have hPa:∀ x ∈ a,Zl x = true -> x.lo ∈ Jd (a ++ b) /\ x.hi + 1 ∈ Jd (a ++ b):=fun x hx hm=>⟨(p2 _).2 ⟨x,by simp [hx],hm,.inl rfl⟩,(p2 _).2 ⟨x,by simp [hx],hm,.inr rfl⟩⟩
 have hPb:∀ x ∈ b,Zl x = true -> x.lo ∈ Jd (a ++ b) /\ x.hi + 1 ∈ Jd (a ++ b):=fun x hx hm=>⟨(p2 _).2 ⟨x,by simp [hx],hm,.inl rfl⟩,(p2 _).2 ⟨x,by simp [hx],hm,.inr rfl⟩⟩
 rw [Bool.eq_iff_iff,m2]
 constructor
 ·rintro ⟨pq,h1,h2,h3,h4⟩;obtain ⟨_,_,_,h5⟩:=Wa p1 pq h1
  rwa [Zf hPa h5 h2 h3,Zf hPb h5 h2 h3]
 ·intro h;have hex:∃ u ∈ Jd (a ++ b),∃ v ∈ Jd (a ++ b),u <= n /\ n < v:=by
   cases ha:zq a n with
   | true=>
    obtain ⟨x,h1,h2,h3,h4⟩:=xS.1 ha;exact ⟨_,(hPa x h1 h2).1,_,(hPa x h1 h2).2,h3,by omega⟩
   | false=>
    cases hb:zq b n with
    | true=>
     obtain ⟨x,h1,h2,h3,h4⟩:=xS.1 hb;exact ⟨_,(hPb x h1 h2).1,_,(hPb x h1 h2).2,h3,by omega⟩
    | false=>rw [ha,hb,h0] at h;cases h
  obtain ⟨u,hu,v,hv,h1,h2⟩:=hex;obtain ⟨pq,h3,h4,h5⟩:=jV p1 hu hv h1 h2;obtain ⟨_,_,_,h6⟩:=Wa p1 pq h3;exact ⟨pq,h3,h4,h5,by rwa [<- Zf hPa h6 h4 h5,<- Zf hPb h6 h4 h5]⟩

def nrm (l:List RN):List RN:=uY (· || ·) l []
theorem uo (l:List RN):Nf (nrm l):=(zd _ rfl l []).1
theorem xV (l:List RN) (n:Int):zq (nrm l) n = zq l n:=by rw [nrm,(zd _ rfl l []).2.1];simp
theorem wA (l:List RN):(nrm l).length <= 2 * l.length:=by
 have:=(zd (· || ·) rfl l []).2.2;rw [List.length_nil,Nat.add_zero] at this;exact this
theorem nrm_of {l r:List RN} (h:Nf r) (h2:∀ n,zq r n = zq l n):r = nrm l:=Xx h (uo l) fun n=>by rw [h2,xV]
theorem Jh {l:List RN} (h:Nf l):nrm l = l:=(nrm_of h fun _=>rfl).symm


theorem wCa (x y:RN):(decide (x.lo = y.lo) && decide (x.hi = y.hi)) = decide (x = y):=by
 rw [Bool.eq_iff_iff]
 cases x;cases y
 simp
theorem eqLoop {body:Int -> M (Step Int (Ex Unit Bool))} (a b:List RN) (hl:a.length = b.length) (hn:a.length <= 1000000000000)
  (hb:∀ i:Int,body i = cond (decide (i < (a.length:Int))) (M.bind (M.idx a i) fun x=>M.bind (M.idx b i) fun y=>cond (!(decide (x.lo = y.lo) && decide (x.hi = y.hi))) (M.pure (.done (.ret false))) (M.pure (.next (IntKind.i64.wrap (i + 1))))) (M.pure (.done (.brk ())))) :
  M.bind (M.loop body 0) (M.exk fun _=>M.pure true) = pure (decide (a = b)):=by
 have:=yd (body:=body) a (fun i=>(i:Int)) (fun i x=>decide (b[i]? = some x)) (.brk ()) (.ret false) (fun i x hx hi=>by
  have hb':i < b.length:=by omega
  rw [hb,zH hx,zH (List.getElem?_eq_getElem hb'),zn (by omega)];simp only [zA,List.getElem?_eq_getElem hb',Option.some.injEq,wCa];have:decide ((i:Int) < (a.length:Int)) = true:=by simpa using hi
  rw [this,cond_true]
  by_cases he:b[i] = x
  ·subst he;simp
  ·rw [if_neg (by simpa using he)];have:decide (x = b[i]) = false:=by simpa using fun h=>he h.symm
   rw [this];rfl) (by rw [hb];simp)
 rw [show (0:Int) = ((0:Nat):Int) from rfl,this]
 by_cases he:a = b
 ·subst he;rw [if_pos]
  ·simp [zA,xh]
  ·rw [List.all_eq_true];intro ⟨x,i⟩ hx;rw [List.mk_mem_zipIdx_iff_getElem?] at hx;simpa using hx
 ·rw [if_neg]
  ·simp [he,zA,xw]
  ·intro hall;rw [List.all_eq_true] at hall;apply he;apply List.ext_getElem (by omega);intro i h1 h2;have:=hall (a[i],i) (by rw [List.mk_mem_zipIdx_iff_getElem?];exact List.getElem?_eq_getElem h1);simp [h2] at this;exact this.symm
theorem req_eq (a b:List RN) (h:a.length <= 1000000000000):zsa a b = pure (decide (a = b)):=by
 unfold zsa
 by_cases hl:(a.length:Int) = b.length
 ·simp only [hl,decide_true,Bool.not_true,cond_false];exact eqLoop a b (by omega) h fun i=>rfl
 ·have hne:a ≠ b:=fun e=>hl (by rw [e])
  simp [hl,hne]
theorem seq_eq (a b:List RN) (h:a.length <= 1000000000000):yC a b = pure (decide (a = b)):=by
 unfold yC
 by_cases hl:(a.length:Int) = b.length
 ·simp only [hl,decide_true,Bool.not_true,cond_false];exact eqLoop a b (by omega) h fun i=>rfl
 ·have hne:a ≠ b:=fun e=>hl (by rw [e])
  simp [hl,hne]

theorem wDa (x:RN):Vw x = pure (Zl x):=by
 unfold Vw;rw [zM,zM,zA]
 rfl
theorem zJa (l:List RN) (n:Int) (h:l.length <= 1000000000000):WS l n = pure (zq l n):=by
 unfold WS;have:=yd (body:=YU l n) l (fun i=>(i:Int)) (fun _ x=>!inR n x) (.brk ()) (.ret true) (fun i x hx hi=>by
  unfold YU;have h1:decide ((i:Int) < (l.length:Int)) = true:=by simpa using hi
  simp only [h1,cond_true,zH hx,zA,wDa,zB,zn (show i < 9223372036854775807 by omega),zM];unfold inR
  cases Zl x <;> cases decide (x.lo <= n) <;> cases decide (n <= x.hi) <;> rfl) (by unfold YU;simp)
 rw [show (0:Int) = ((0:Nat):Int) from rfl,this,zA];have e:l.zipIdx.all (fun y=>!inR n y.1) = !zq l n:=by
  unfold zq;rw [Bool.eq_iff_iff];simp only [List.all_eq_true,Bool.not_eq_true',List.any_eq_false]
  constructor
  ·intro h x hx;obtain ⟨i,hi,he⟩:=List.getElem_of_mem hx;have:=h (x,i) (by rw [List.mk_mem_zipIdx_iff_getElem?];rw [List.getElem?_eq_getElem hi,he]);simpa using this
  ·intro h y hy;have:=List.fst_mem_of_mem_zipIdx hy;have:=h _ this;simpa using this
 simp only [e]
 cases zq l n <;> rfl
theorem wEa (l:List Int) (n:Int) (h:l.length <= 100000000000):Vx l n = pure (putP l n):=by
 unfold Vx;have:=Zz (body:=YV l n) l (fun i (t:Bool × List Int)=>(t.1,(i:Int),t.2)) (Xy n) (fun t=>pure t) (fun i t=>t.2.length <= 2 * i) (fun i x t hx hi hI=>by
  obtain ⟨d,out⟩:=t;simp only at hI;have h1:decide ((i:Int) < (l.length:Int)) = true:=by simpa using hi
  refine ⟨?_,?_⟩
  ·unfold YV Xy;simp only [h1,cond_true,zH hx,zA,zn (show i < 9223372036854775807 by omega)]
   cases d with
   | true=>
    by_cases hc:x = n
    ·simp [hc,zA]
    ·simp only [Bool.not_true,cond_false,zA,hc,decide_false,Bool.not_false,cond_true,if_false];rw [zD (by simp;omega)];simp [zA]
   | false=>
    by_cases hc1:n <= x
    ·simp only [Bool.not_false,cond_true,zA,hc1,decide_true];rw [zD (by simp;omega),zA]
     by_cases hc:x = n
     ·simp [hc,zA]
     ·simp only [hc,decide_false,Bool.not_false,cond_true];rw [zD (by simp;omega)];simp [zA]
    ·simp only [Bool.not_false,cond_true,zA,hc1,decide_false,cond_false];have hc:x ≠ n:=by omega
     simp only [hc,decide_false,Bool.not_false,cond_true];rw [zD (by simp;omega)];simp [zA]
  ·unfold Xy;simp only
   split <;> split <;> simp <;> omega) (fun t _=>by unfold YV;simp [zA]) (false,[]) (by simp)
 rw [show ((false,(0:Int),([]:List Int)):Bool × Int × List Int) = (false,((0:Nat):Int),[]) from rfl,this,zA];unfold putP;have hlen:(l.foldl (Xy n) (false,[])).2.length <= 2 * l.length:=by
  have:∀ (l:List Int) (s:Bool × List Int),(l.foldl (Xy n) s).2.length <= s.2.length + 2 * l.length:=by
   intro l
   induction l with
   | nil=>intro s;simp
   | cons x r ih=>
    intro s;rw [List.foldl_cons];have:=ih (Xy n s x);have h2:(Xy n s x).2.length <= s.2.length + 2:=by
     unfold Xy;simp only
     split <;> split <;> simp
    simp;omega
  simpa using this l (false,[])
 generalize l.foldl (Xy n) (false,[]) = t at hlen
 obtain ⟨d,out⟩:=t
 cases d with
 | true=>rfl
 | false=>
  simp only [Bool.not_false,cond_true];rw [zD (by simp at hlen ⊢;omega)]
  rfl
theorem rpts_eq (a b:List RN) (h:a.length + b.length <= 10000000000):YW a b = pure (Jd (a ++ b)):=by
 unfold YW;rw [zD (by simp;omega),zD (by simp;omega)];have hup:∀ i,Up (((a ++ b).take i).foldl ptS []) /\ (((a ++ b).take i).foldl ptS []).length <= 2 * (a ++ b).length:=fun i=>by
  obtain ⟨h1,_,h3⟩:=Je ((a ++ b).take i) [] (by simp [Up]);refine ⟨h1,?_⟩;have:((a ++ b).take i).length <= (a ++ b).length:=by simp;omega
  simp only [List.length_nil,Nat.zero_add] at h3;omega
 have:=Zz (body:=vJ a b) (a ++ b) (fun i (t:List Int)=>(t,(i:Int))) ptS (fun t=>pure t) (fun i t=>t = ((a ++ b).take i).foldl ptS []) (fun i x t hx hi hI=>by
  have h1:decide ((i:Int) < ((a ++ b).length:Int)) = true:=decide_eq_true (by omega);have hlen:(a ++ b).length <= 10000000000:=by simp;omega
  obtain ⟨u1,u2⟩:=hup i;rw [<- hI] at u1 u2;refine ⟨?_,?_⟩
  ·unfold vJ ptS;simp only [List.nil_append,h1,cond_true,zH hx,zA,zn (show i < 9223372036854775807 by omega),wDa,zB]
   cases hm:Zl x with
   | false=>simp [zA]
   | true=>
    have hm':=zU.1 hm;have hp:=WZ u1 x.lo;rw [cond_true,wEa _ _ (by omega),zB,zA,Xu (by omega) (by omega),wEa _ _ (by omega),zB];simp [zA]
  ·rw [List.take_add_one,hx];simp [hI]) (fun t _=>by unfold vJ;simp [zA]) [] (by simp)
 rw [show (([]:List Int),(0:Int)) = ([],((0:Nat):Int)) from rfl,this];simp only [zA]
 rfl
theorem qq {P:List Int} {i:Nat} {pq:Int × Int} (h:(xA P)[i]? = some pq):P[i]? = some pq.1 /\ P[i + 1]? = some pq.2:=by
 unfold xA at h;rw [List.getElem?_zip_eq_some] at h;obtain ⟨h1,h2⟩:=h;rw [List.getElem?_tail] at h2;exact ⟨h1,h2⟩
theorem Wb (op:Bool -> Bool -> Bool) (how:Int) (hop:∀ x y,op x y = if how = 2 then (x && !y) else if how = 1 then (x && y) else (x || y)) (_h0:op false false = false) (a b:List RN) (h:a.length + b.length <= 10000000000):WT a b how = pure (uY op a b):=by
 unfold WT;rw [rpts_eq a b h,zB,zA];obtain ⟨p1,p2,p3⟩:=jU (a ++ b);have hrange:∀ q ∈ Jd (a ++ b),1 <= q /\ q <= 281474976710656:=fun q hq=>by
  obtain ⟨x,_,h2,h3⟩:=(p2 q).1 hq;have:=zU.1 h2;omega
 unfold uY
 generalize Jd (a ++ b) = P at p1 hrange p3
 simp only [List.length_append] at p3;have hinv:∀ i,i <= (xA P).length -> Nf (((xA P).take i).foldl (z7a op a b) []) /\ (((xA P).take i).foldl (z7a op a b) []).length <= P.length:=fun i hi=>by
  cases P with
  | nil=>simp [xA,Nf]
  | cons p P=>
   have key:(xA (p :: P)).take i = xA (p :: P.take i):=by
    unfold xA;simp only [List.tail_cons];clear hi p1 hrange p3
    induction i generalizing p P with
    | zero=>simp
    | succ i ih=>
     cases P with
     | nil=>simp
     | cons q P=>
      simp only [List.zip_cons_cons,List.take_succ_cons];rw [ih q P]
   rw [key];have hsub:(p :: P.take i).Sublist (p :: P):=List.Sublist.cons_cons _ (List.take_sublist _ _);obtain ⟨i1,_,i3⟩:=Jg op a b (P.take i) p [] (List.Pairwise.sublist hsub p1) (fun q hq=>hrange q (hsub.subset hq)) trivial (by simp);refine ⟨i1,?_⟩;simp at i3 ⊢;omega
 have:=Zz (body:=YX P a b how) (xA P) (fun i (t:List RN)=>((i:Int),t)) (z7a op a b) (fun t=>pure t) (fun i t=>i <= (xA P).length /\ t = ((xA P).take i).foldl (z7a op a b) []) (fun i pq t hx hi hI=>by
  obtain ⟨hI1,hI⟩:=hI;obtain ⟨g1,g2⟩:=qq hx;have hlt:i + 1 < P.length:=(List.getElem?_eq_some_iff.1 g2).1;have hPl:P.length <= 20000000000:=by omega
  have h1:decide (((i + 1:Nat):Int) < (P.length:Int)) = true:=by rw [decide_eq_true_eq];omega
  obtain ⟨v1,v2⟩:=hinv i hI1;rw [<- hI] at v1 v2;refine ⟨?_,by omega,by rw [List.take_add_one,hx];simp [hI]⟩;unfold YX z7a;have e2:idx P ((i + 1:Nat):Int) = pure pq.2:=zH g2;have hq:=hrange pq.2 (List.mem_of_getElem? g2);simp only [zn (show i < 9223372036854775807 by omega),h1,cond_true,zH g1,e2,zA,zJa a pq.1 (by omega),zJa b pq.1 (by omega),zB];rw [hop];have hin:∀ (x y:Bool),(M.bind (cond x (M.pure true) (M.pure y)) fun in97=>M.bind (cond (decide (how = 1)) (M.bind (cond x (M.pure y) (M.pure false)) fun in101=>M.pure in101) (M.pure in97)) fun in99=>cond (decide (how = 2)) (M.bind (cond x (M.pure (!y)) (M.pure false)) fun in105=>M.pure in105) (M.pure in99)) = pure (if how = 2 then (x && !y) else if how = 1 then (x && y) else (x || y)):=by
   intro x y
   by_cases c2:how = 2
   ·subst c2;cases x <;> cases y <;> rfl
   ·by_cases c1:how = 1
    ·subst c1;cases x <;> cases y <;> rfl
    ·simp only [c1,c2,decide_false,cond_false,if_false]
     cases x <;> cases y <;> rfl
  have hin':=hin (zq a pq.1) (zq b pq.1)
  generalize (if how = 2 then (zq a pq.1 && !zq b pq.1) else if how = 1 then (zq a pq.1 && zq b pq.1) else (zq a pq.1 || zq b pq.1)) = inn at hin'
  -- the three steps are one
  have assoc:∀ (K:Bool -> M (List RN)),(M.bind (cond (zq a pq.1) (M.pure true) (M.pure (zq b pq.1))) fun in97=>M.bind (cond (decide (how = 1)) (M.bind (cond (zq a pq.1) (M.pure (zq b pq.1)) (M.pure false)) fun in101=>M.pure in101) (M.pure in97)) fun in99=>M.bind (cond (decide (how = 2)) (M.bind (cond (zq a pq.1) (M.pure (!zq b pq.1)) (M.pure false)) fun in105=>M.pure in105) (M.pure in99)) K) = K inn:=by
   intro K;have:=congrArg (fun m=>M.bind m K) hin';exact this
  rw [assoc]
  cases inn with
  | false=>rfl
  | true=>
   simp only [cond_true,if_true];rcases yv t with rfl | ⟨l,y,rfl⟩
   ·have e:decide ((0:Int) <= IntKind.i64.wrap (((([]:List RN).length:Nat):Int) - 1)) = false:=by
     rw [Wz (by simp) (by simp)];simp
    rw [e];simp only [cond_false,zA];rw [zD (by simp),Xu (by omega) (by omega)]
    rfl
   ·have hy:=(Ze.1 v1).2.1;have hym:=zU.1 hy;have e0:IntKind.i64.wrap ((((l ++ [y]).length:Nat):Int) - 1) = (l.length:Int):=by
     simp only [List.length_append,List.length_singleton] at v2 ⊢;rw [Wz (by omega) (by omega)];omega
    have e1:idx (l ++ [y]) (l.length:Int) = pure y:=zH (by simp);have e3:decide ((0:Int) <= (l.length:Int)) = true:=by simp
    rw [e0,e3];simp only [cond_true,e1,zA,Xu (show 0 <= y.hi + 1 by omega) (by omega),Xu (show 0 <= pq.2 - 1 by omega) (by omega)];rw [UN]
    by_cases hc:y.hi + 1 = pq.1
    ·simp only [hc,decide_true,cond_true,if_true,Int.toNat_natCast];have:(l ++ [y]).set l.length (⟨y.lo,pq.2 - 1⟩:RN) = l ++ [⟨y.lo,pq.2 - 1⟩]:=by simp
     rw [this]
     rfl
    ·simp only [hc,decide_false,cond_false,if_false];rw [zD (by simp only [List.length_append,List.length_singleton] at v2 ⊢;omega)]
     rfl) (fun t _=>by
  unfold YX;have e:decide (IntKind.i64.wrap (((xA P).length:Int) + 1) < (P.length:Int)) = false:=by
   rw [wBa,Wz (by omega) (by omega)];simp;omega
  simp only [e,cond_false,zA]) [] ⟨Nat.zero_le _,by simp⟩
 rw [show ((0:Int),([]:List RN)) = (((0:Nat):Int),[]) from rfl,this];simp only [zA]

theorem z8a (a b:List RN) (h:a.length + b.length <= 10000000000):XY a b = pure (uY (· || ·) a b):=by
 unfold XY;rw [Wb (· || ·) 0 (fun x y=>by simp) rfl a b h,zB,zA]
theorem rmeet_eq (a b:List RN) (h:a.length + b.length <= 10000000000):VK a b = pure (uY (· && ·) a b):=by
 unfold VK;rw [Wb (· && ·) 1 (fun x y=>by simp) rfl a b h,zB,zA]
theorem wFa (a b:List RN) (h:a.length + b.length <= 10000000000):XZ a b = pure (uY (fun x y=>x && !y) a b):=by
 unfold XZ;rw [Wb (fun x y=>x && !y) 2 (fun x y=>by simp) rfl a b h,zB,zA]

def qr (out:List RN) (x:RN):List RN:=match out.getLast? with
 | some y=>if x.lo <= y.hi + 1 then out.dropLast ++ [⟨y.lo,max y.hi x.hi⟩] else out ++ [x]
 | none=>out ++ [x]
theorem Ji (x:RN):qr [] x = [x]:=rfl
theorem UO (l:List RN) (y x:RN):qr (l ++ [y]) x = if x.lo <= y.hi + 1 then l ++ [⟨y.lo,max y.hi x.hi⟩] else l ++ [y] ++ [x]:=by simp [qr]
theorem yxa {out:List RN} {x:RN} (h:Nf out) (hx:Zl x = true) (hlo:∀ y ∈ out,y.lo <= x.lo):Nf (qr out x) /\ (∀ n,zq (qr out x) n = (zq out n || inR n x)) /\ (∀ y ∈ qr out x,y.lo <= x.lo) /\ (qr out x).length <= out.length + 1:=by
 have hxm:=zU.1 hx;rcases yv out with rfl | ⟨l,y,rfl⟩
 ·rw [Ji];exact ⟨⟨hx,by simp,trivial⟩,fun n=>by rw [wb];simp,by simp,by simp⟩
 ·rw [UO];obtain ⟨n1,n2,n3⟩:=Ze.1 h;have hym:=zU.1 n2;have hyx:=hlo y (by simp)
  by_cases hc:x.lo <= y.hi + 1
  ·rw [if_pos hc];have hm:Zl (⟨y.lo,max y.hi x.hi⟩:RN) = true:=zU.2 ⟨hym.1,by simp only;omega,by simp only;omega⟩;refine ⟨Ze.2 ⟨n1,hm,n3⟩,fun n=>?_,fun z hz=>?_,by simp⟩
   ·rw [vR,vR,wb,wb,Bool.or_assoc]
    congr 1
    rw [Bool.eq_iff_iff,Bool.or_eq_true,yT,yT,yT];have:=zU.1 hm;simp only at this ⊢;omega
   ·rcases List.mem_append.1 hz with hz | hz
    ·exact hlo z (by simp [hz])
    ·simp at hz;subst hz;exact hyx
  ·rw [if_neg hc];refine ⟨Ze.2 ⟨h,hx,fun z hz=>?_⟩,fun n=>by rw [vR (l ++ [y]),wb],fun z hz=>?_,by simp⟩
   ·rcases List.mem_append.1 hz with hz | hz
    ·have:=n3 z hz;omega
    ·simp at hz;subst hz;omega
   ·rcases List.mem_append.1 hz with hz | hz
    ·exact hlo z hz
    ·simp at hz;subst hz;exact Int.le_refl _
theorem UP : ∀ (s out:List RN),Nf out -> (∀ x ∈ s,Zl x = true) -> s.Pairwise (fun x y=>x.lo <= y.lo) -> (∀ y ∈ out,∀ x ∈ s,y.lo <= x.lo) -> Nf (s.foldl qr out) /\ (∀ n,zq (s.foldl qr out) n = (zq out n || zq s n)) /\ (s.foldl qr out).length <= out.length + s.length
 | [],out,h,_,_,_=>⟨h,by simp,by simp⟩
 | x :: r,out,h,hm,hp,hlo=>by
  obtain ⟨a1,a2,a3,a4⟩:=yxa h (hm x (by simp)) fun y hy=>hlo y hy x (by simp)
  obtain ⟨p1,p2⟩:=List.pairwise_cons.1 hp;obtain ⟨i1,i2,i3⟩:=UP r _ a1 (fun y hy=>hm y (List.mem_cons_of_mem _ hy)) p2 fun y hy z hz=>by
   have:=a3 y hy;have:=p1 z hz;omega
  refine ⟨i1,fun n=>?_,by simp;omega⟩;rw [List.foldl_cons,i2,a2,ym,Bool.or_assoc]

theorem wGa {l:List RN} {Q:List RN -> Prop} (h:∀ s,s.Perm l -> s.Pairwise (fun x y=>x.lo <= y.lo) -> Q s):(srt Ur l).wp Q:=by
 refine ⟨⟨l.mergeSort (fun x y=>decide (x.lo <= y.lo)),List.mergeSort_perm _ _,?_⟩,fun s ⟨h1,h2⟩=>h s h1 (h2.imp fun {x y} h=>?_)⟩
 ·refine (List.pairwise_mergeSort (fun a b c h1 h2=>?_) (fun a b=>?_) l).imp fun {x y} h=>?_
  ·simp only [decide_eq_true_eq] at h1 h2 ⊢;omega
  ·simp only [Bool.or_eq_true,decide_eq_true_eq];omega
  ·simp only [decide_eq_true_eq] at h;unfold Ur;simp only [decide_eq_false_iff_not];omega
 ·unfold Ur at h;simp only [decide_eq_false_iff_not] at h;omega
theorem Wc (l:List RN) (h:l.length <= 1000000000000):yk l = pure (nrm l):=by
 unfold yk;have h1:=Zz (body:=wh l) l (fun i (t:List RN)=>((i:Int),t)) (fun t x=>if Zl x then t ++ [x] else t) (fun t=>pure t) (fun i t=>t.length <= i) (fun i x t hx hi hI=>by
  have h1:decide ((i:Int) < (l.length:Int)) = true:=by simpa using hi
  refine ⟨?_,by split <;> (try simp only [List.length_append,List.length_singleton]) <;> omega⟩;unfold wh;simp only [h1,cond_true,zH hx,zA,zn (show i < 9223372036854775807 by omega)];have e:(cond (decide (0 < x.lo)) (cond (decide (x.lo <= x.hi)) (M.pure (decide (x.hi <= 281474976710655))) (M.pure false)) (M.pure false):M Bool) = pure (Zl x):=by
   rw [zM,zM];refine congrArg pure ?_;rw [Bool.eq_iff_iff,zU];simp only [Bool.and_eq_true,decide_eq_true_eq];omega
  rw [e,zA]
  cases hm:Zl x with
  | false=>simp [zA]
  | true=>
   rw [cond_true,zD (by simp;omega)];simp [zA]) (fun t _=>by unfold wh;simp [zA]) [] (by simp)
 have hf:∀ (l t:List RN),l.foldl (fun t x=>if Zl x then t ++ [x] else t) t = t ++ l.filter Zl:=by
  intro l
  induction l with
  | nil=>simp
  | cons x r ih=>
   intro t;rw [List.foldl_cons,ih]
   cases hm:Zl x <;> simp [hm]
 rw [hf,List.nil_append] at h1;have h1':loop (wh l) (0,[]) = pure (l.filter Zl):=h1;have hfl:(l.filter Zl).length <= l.length:=List.length_filter_le _ _;rw [h1',zA,zD (by omega)];refine uw (wGa fun s hs hp=>?_);have hsl:=hs.length_eq;have hmay:∀ x ∈ s,Zl x = true:=fun x hx=>(List.mem_filter.1 (hs.mem_iff.1 hx)).2
 have hpre:∀ i,Nf ((s.take i).foldl qr []) /\ ((s.take i).foldl qr []).length <= i /\ ∀ x,s[i]? = some x -> ∀ y ∈ (s.take i).foldl qr [],y.lo <= x.lo:=fun i=>by
  obtain ⟨i1,i2,i3⟩:=UP (s.take i) [] trivial (fun x hx=>hmay x (List.mem_of_mem_take hx)) (List.Pairwise.sublist (List.take_sublist _ _) hp) (by simp);refine ⟨i1,by simp at i3;omega,fun x hx y hy=>?_⟩;have hmy:=zU.1 (i1.may y hy);have:zq ((s.take i).foldl qr []) y.lo = true:=xS.2 ⟨y,hy,i1.may y hy,by omega,by omega⟩;rw [i2] at this;simp only [Ja,Bool.false_or] at this;obtain ⟨z,hz,_,h3,_⟩:=xS.1 this
  -- z is ahead of x; y begins where one of those ahead begins
  have hall:∀ (s out:List RN),(∀ y ∈ s.foldl qr out,(∃ z ∈ out,y.lo = z.lo) \/ ∃ z ∈ s,y.lo = z.lo):=by
   intro s
   induction s with
   | nil=>intro out y hy;exact .inl ⟨y,hy,rfl⟩
   | cons a r ih=>
    intro out y hy;rcases ih _ y hy with ⟨z,hz,e⟩ | ⟨z,hz,e⟩
    ·rcases yv out with rfl | ⟨q,w,rfl⟩
     ·rw [Ji] at hz;simp at hz;subst hz;exact .inr ⟨z,by simp,e⟩
     ·rw [UO] at hz
      split at hz
      ·rcases List.mem_append.1 hz with hz | hz
       ·exact .inl ⟨z,by simp [hz],e⟩
       ·simp at hz;subst hz;exact .inl ⟨w,by simp,e⟩
      ·rcases List.mem_append.1 hz with hz | hz
       ·exact .inl ⟨z,hz,e⟩
       ·simp at hz;subst hz;exact .inr ⟨z,by simp,e⟩
    ·exact .inr ⟨z,by simp [hz],e⟩
  rcases hall _ _ y hy with ⟨z,hz,_⟩ | ⟨z,hz,e⟩
  ·simp at hz
  ·obtain ⟨j,hj,hje⟩:=List.getElem_of_mem hz;have hlt:=(List.getElem?_eq_some_iff.1 hx).1;have hji:j < i:=by simp at hj;omega
   have:=List.pairwise_iff_getElem.1 hp j i (by omega) hlt hji;rw [List.getElem_take] at hje;have hxe:s[i] = x:=by rw [List.getElem?_eq_getElem hlt] at hx;simpa using hx
   rw [hje,hxe] at this;omega
 have h2:=Zz (body:=wi (l.filter Zl) s) s (fun i (t:List RN)=>((i:Int),t)) qr (fun t=>pure t) (fun i t=>t = (s.take i).foldl qr []) (fun i x t hx hi hI=>by
  obtain ⟨v1,v2,v3⟩:=hpre i;have v3:=v3 x hx;rw [<- hI] at v1 v2 v3;have hxm:=zU.1 (hmay x (List.mem_of_getElem? hx));have h1:decide ((i:Int) < ((l.filter Zl).length:Int)) = true:=by simp;omega
  refine ⟨?_,by rw [List.take_add_one,hx];simp [hI]⟩;unfold wi;simp only [h1,cond_true,zH hx,zA,zn (show i < 9223372036854775807 by omega)];rcases yv t with rfl | ⟨q,y,rfl⟩
  ·have e:decide ((0:Int) <= IntKind.i64.wrap (((([]:List RN).length:Nat):Int) - 1)) = false:=by
    rw [Wz (by simp) (by simp)];simp
   rw [e];simp only [cond_false,zA];rw [zD (by simp),Ji]
   rfl
  ·have hy:=(Ze.1 v1).2.1;have hym:=zU.1 hy;have e0:IntKind.i64.wrap ((((q ++ [y]).length:Nat):Int) - 1) = (q.length:Int):=by
    simp only [List.length_append,List.length_singleton] at v2 ⊢;rw [Wz (by omega) (by omega)];omega
   have e1:idx (q ++ [y]) (q.length:Int) = pure y:=zH (by simp);have e3:decide ((0:Int) <= (q.length:Int)) = true:=by simp
   rw [e0,e3];simp only [cond_true,e1,zA,Xu (show 0 <= y.hi + 1 by omega) (by omega)];rw [UO]
   by_cases hc:x.lo <= y.hi + 1
   ·simp only [hc,decide_true,cond_true,if_true,Int.toNat_natCast];have:(q ++ [y]).set q.length (⟨y.lo,max y.hi x.hi⟩:RN) = q ++ [⟨y.lo,max y.hi x.hi⟩]:=by simp
    rw [this]
    rfl
   ·simp only [hc,decide_false,cond_false,if_false];rw [zD (by simp only [List.length_append,List.length_singleton] at v2 ⊢;omega)]
    rfl) (fun t _=>by
  unfold wi;have e:decide ((s.length:Int) < ((l.filter Zl).length:Int)) = false:=by simp;omega
  simp only [e,cond_false,zA]) [] (by simp)
 show (M.bind (M.loop (wi (l.filter Zl) s) (0,[])) fun out38=>M.pure out38).wp (· = nrm l);rw [show ((0:Int),([]:List RN)) = (((0:Nat):Int),[]) from rfl,h2];obtain ⟨i1,i2,_⟩:=UP s [] trivial hmay hp (by simp);exact nrm_of i1 fun n=>by rw [i2,wAa hs,zHa];simp
def Yk (nums:List Int):List RN:=nums.map fun n=>⟨n,n⟩
def wHa (x y:Int):Int:=if x < y then -1 else if y < x then 1 else 0
theorem wIa (x y:Int):yN x y = pure (wHa x y):=by
 unfold yN xL wHa;simp only [decide_true,Bool.not_true,zB,zA,cond_false,xP]
 split
 ·rfl
 ·split <;> rfl
theorem wJa (x:RN) (n:Int):vh x n = pure (wHa x.hi n):=by
 unfold vh;rw [wIa,zB,zA]
def Jj : List RN -> Int -> Nat
 | [],_=>0
 | x :: r,n=>if x.hi < n then Jj r n + 1 else 0
theorem qu : ∀ {v:List RN} {n:Int} {c:Nat},c <= v.length -> (∀ (k:Nat) (x:RN),k < c -> v[k]? = some x -> x.hi < n) -> (∀ (k:Nat) (x:RN),c <= k -> v[k]? = some x -> n <= x.hi) -> c = Jj v n
 | [],n,c,h,_,_=>by simp at h;simp [Jj,h]
 | x :: r,n,0,_,_,h2=>by
  have:=h2 0 x (by omega) rfl;simp only [Jj];rw [if_neg (by omega)]
 | x :: r,n,c + 1,h,h1,h2=>by
  have:=h1 0 x (by omega) rfl;simp only [Jj];rw [if_pos this,<- qu (v:=r) (n:=n) (c:=c) (by simpa using h) (fun k y hk hy=>h1 (k + 1) y (by omega) (by simpa using hy)) (fun k y hk hy=>h2 (k + 1) y (by omega) (by simpa using hy))]
theorem wKa {v:List RN} (h:Nf v):∀ {i j:Nat} {x y:RN},i < j -> v[i]? = some x -> v[j]? = some y -> x.hi < y.hi:=by
 induction v with
 | nil=>intro i j x y _ hx;simp at hx
 | cons z r ih=>
  intro i j x y hij hx hy
  cases j with
  | zero=>omega
  | succ j=>
   have hyr:r[j]? = some y:=by simpa using hy
   have hym:=List.mem_of_getElem? hyr
   cases i with
   | zero=>
    simp at hx;subst hx;have:=h.2.1 y hym;have:=zU.1 (h.2.2.may y hym);omega
   | succ i=>exact ih h.2.2 (show i < j by omega) (by simpa using hx) hyr
theorem bs_loop (v:List RN) (n:Int) (hv:Nf v) (hl:v.length <= 1000000000000):loop (zO v n) (0,(v.length:Int)) = pure (Jj v n:Int):=by
 refine uw (zna (fun s=>∃ i j:Nat,s = ((i:Int),(j:Int)) /\ i <= j /\ j <= v.length /\ (∀ (k:Nat) (x:RN),k < i -> v[k]? = some x -> x.hi < n) /\ (∀ (k:Nat) (x:RN),j <= k -> v[k]? = some x -> n <= x.hi)) (fun s=>(s.2 - s.1).toNat) ?_ _ ⟨0,v.length,rfl,Nat.zero_le _,Nat.le_refl _,fun k x hk=>absurd hk (Nat.not_lt_zero _),fun k x hk hx=>absurd (List.getElem?_eq_some_iff.1 hx).1 (Nat.not_lt.2 hk)⟩);rintro _ ⟨i,j,rfl,hij,hj,h1,h2⟩;unfold zO;simp only [xP]
 by_cases hc:(i:Int) < j
 ·rw [if_pos hc];have e:IntKind.i64.wrap (Int.fdiv (IntKind.u64.wrap (IntKind.i64.wrap ((i:Int) + j))) (2 ^ 1)) = (((i + j) / 2:Nat):Int):=by
   rw [Wz (n:=(i:Int) + j) (by omega) (by omega),Xu (by omega) (by omega),Int.fdiv_eq_ediv_of_nonneg _ (by decide)];have:((i:Int) + j) / 2 ^ 1 = (((i + j) / 2:Nat):Int):=by omega
   rw [this,Wz (by omega) (by omega)]
  have hm:(i + j) / 2 < v.length:=by omega
  rw [e];simp only [zH (List.getElem?_eq_getElem hm),zA,wJa,zB,zn (show (i + j) / 2 < 9223372036854775807 by omega)]
  by_cases hlt:v[(i + j) / 2].hi < n
  ·have:wHa v[(i + j) / 2].hi n < 0:=by unfold wHa;rw [if_pos hlt];decide
   rw [if_pos this];refine ⟨⟨(i + j) / 2 + 1,j,rfl,by omega,hj,fun k x hk hx=>?_,h2⟩,?_⟩
   ·by_cases e:k = (i + j) / 2
    ·subst e;rw [List.getElem?_eq_getElem hm] at hx;cases hx;exact hlt
    ·have:=wKa hv (show k < (i + j) / 2 by omega) hx (List.getElem?_eq_getElem hm);omega
   ·simp only;omega
  ·have:¬ wHa v[(i + j) / 2].hi n < 0:=by unfold wHa;rw [if_neg hlt];split <;> decide
   rw [if_neg this];refine ⟨⟨i,(i + j) / 2,rfl,by omega,by omega,h1,fun k x hk hx=>?_⟩,?_⟩
   ·by_cases e:k = (i + j) / 2
    ·subst e;rw [List.getElem?_eq_getElem hm] at hx;cases hx;omega
    ·have:=wKa hv (show (i + j) / 2 < k by omega) (List.getElem?_eq_getElem hm) hx;omega
   ·simp only;omega
 ·rw [if_neg hc];have hij':i = j:=by omega
  subst hij';show (i:Int) = (Jj v n:Int)
  rw [<- qu hj h1 h2]
def hitB (v:List RN) (n:Int):Bool:=match v[Jj v n]? with | some x=>decide (wHa x.hi n = 0) | none=>false
theorem bs_eq (v:List RN) (n:Int) (hv:Nf v) (hl:v.length <= 1000000000000):zK v n = pure ((Jj v n:Int),hitB v n):=by
 unfold zK hitB;rw [bs_loop v n hv hl,zA]
 by_cases hc:Jj v n < v.length
 ·have:decide ((Jj v n:Int) < (v.length:Int)) = true:=by simpa using hc
  rw [this,cond_true,zH (List.getElem?_eq_getElem hc)];simp only [zA,wJa,zB,List.getElem?_eq_getElem hc]
 ·have:decide ((Jj v n:Int) < (v.length:Int)) = false:=by simpa using hc
  rw [this,cond_false,zA,List.getElem?_eq_none (by omega)]
theorem z9a : ∀ {v:List RN} (n:Int),Nf v -> zq v n = (match v[Jj v n]? with | some x=>decide (x.lo <= n) | none=>false)
 | [],n,_=>rfl
 | x :: r,n,h=>by
  by_cases hc:x.hi < n
  ·simp only [Jj,if_pos hc,List.getElem?_cons_succ];rw [<- z9a n h.2.2,ym];have:inR n x = false:=by
    rw [Bool.eq_false_iff];intro h;have:=(yT.1 h).2.2;omega
   rw [this,Bool.false_or]
  ·simp only [Jj,if_neg hc,List.getElem?_cons_zero];rw [Bool.eq_iff_iff,decide_eq_true_eq]
   constructor
   ·exact Jc h
   ·intro hle;exact (zIa h hle).2 (.inl (by omega))
theorem has_eq (l:List RN) (n:Int) (h:l.length <= 100000000000):VG l n = pure (zq l n):=by
 unfold VG;have hl:=wA l;rw [Wc l (by omega),zB,zA,bs_eq _ n (uo l) (by omega),zB,zA,<- xV l n,z9a n (uo l)]
 generalize nrm l = v
 by_cases hc:Jj v n < v.length
 ·have:decide ((Jj v n:Int) < (v.length:Int)) = true:=by simpa using hc
  simp only [this,cond_true,zH (List.getElem?_eq_getElem hc),zA,List.getElem?_eq_getElem hc]
 ·have:decide ((Jj v n:Int) < (v.length:Int)) = false:=by simpa using hc
  simp only [this,cond_false,zA,List.getElem?_eq_none (show v.length <= Jj v n by omega)]

theorem wLa (A B:List RN) (hA:Nf A) (hB:Nf B) (hl:A.length + B.length <= 1000000000000):(loop uM (A,B,[])).wp fun r=>Nf r /\ ∀ n,zq r n = (zq A n && zq B n):=by
 refine zna (fun s:List RN × List RN × List RN=>Nf s.1 /\ Nf s.2.1 /\ Nf s.2.2 /\ (∀ y ∈ s.2.2,∀ x ∈ s.1,∀ z ∈ s.2.1,y.hi + 1 < max x.lo z.lo) /\ (∀ n,(zq s.2.2 n || (zq s.1 n && zq s.2.1 n)) = (zq A n && zq B n)) /\ s.2.2.length + s.1.length + s.2.1.length <= A.length + B.length) (fun s=>s.1.length + s.2.1.length) ?_ (A,B,[]) ⟨hA,hB,(trivial:Nf []),by simp,by simp,by simp⟩;rintro ⟨a,b,out⟩ ⟨h1,h2,h3,h4,h5,h6⟩;simp only at h1 h2 h3 h4 h5 h6;unfold uM
 cases a with
 | nil=>exact ⟨h3,fun n=>by rw [<- h5];simp⟩
 | cons x r=>
  cases b with
  | nil=>
   have e1:decide ((0:Int) < ((x :: r).length:Int)) = true:=by simp only [List.length_cons,decide_eq_true_eq];omega
   simp only [e1,cond_true];exact ⟨h3,fun n=>by rw [<- h5];simp⟩
  | cons z q=>
   have hx:=zU.1 h1.1;have hz:=zU.1 h2.1;have e1:decide ((0:Int) < ((x :: r).length:Int)) = true:=by simp only [List.length_cons,decide_eq_true_eq];omega
   have e2:decide ((0:Int) < ((z :: q).length:Int)) = true:=by simp only [List.length_cons,decide_eq_true_eq];omega
   simp only [e1,e2,cond_true,zA,jH (l:=x :: r) (i:=0) (y:=x) (by omega) rfl,jH (l:=z :: q) (i:=0) (y:=z) (by omega) rfl]
   -- the new list
   have hout:∃ out',(cond (decide (max x.lo z.lo <= min x.hi z.hi)) (M.yY ((out.length + List.length [(⟨max x.lo z.lo,min x.hi z.hi⟩:RN)]) * 16 <= 140737488355328) (M.pure (out ++ [⟨max x.lo z.lo,min x.hi z.hi⟩]))) (M.pure out)) = M.pure out' /\ Nf out' /\ (∀ n,zq out' n = (zq out n || (inR n x && inR n z))) /\ (∀ y ∈ out',y ∈ out \/ y.hi = min x.hi z.hi) /\ out'.length <= out.length + 1:=by
    by_cases hc:max x.lo z.lo <= min x.hi z.hi
    ·refine ⟨out ++ [⟨max x.lo z.lo,min x.hi z.hi⟩],?_,Ze.2 ⟨h3,zU.2 ⟨by simp only;omega,hc,by simp only;omega⟩,fun y hy=>h4 y hy x (by simp) z (by simp)⟩,fun n=>?_,fun y hy=>?_,by simp⟩
     ·rw [decide_eq_true hc,cond_true,zD];simp at h6 ⊢;omega
     ·rw [vR,wb]
      congr 1
      rw [Bool.eq_iff_iff,Bool.and_eq_true,yT,yT,yT];simp only;omega
     ·rcases List.mem_append.1 hy with hy | hy
      ·exact .inl hy
      ·simp at hy;subst hy;exact .inr rfl
    ·refine ⟨out,by rw [decide_eq_false hc];rfl,h3,fun n=>?_,fun y hy=>.inl hy,by omega⟩;have:(inR n x && inR n z) = false:=by
      rw [Bool.eq_false_iff];intro h;rw [Bool.and_eq_true,yT,yT] at h;omega
     rw [this,Bool.or_false]
   obtain ⟨out',o1,o2,o3,o4,o5⟩:=hout;have hh:∀ n,zq out' n = (zq out n || (inR n x && inR n z)):=o3;rw [o1];simp only [zA,xP]
   by_cases hc:x.hi < z.hi
   ·rw [if_pos hc,zD ⟨by omega,by simp only [List.length_cons];omega,by omega⟩];have ed:List.drop (Int.toNat 1) (List.take (Int.toNat ((x :: r).length:Int)) (x :: r)) = r:=by simp
    rw [ed];refine ⟨⟨h1.2.2,h2,o2,fun y hy x' hx' z' hz'=>?_,fun n=>?_,by simp at h6 ⊢;omega⟩,by simp only [List.length_cons];omega⟩
    ·rcases o4 y hy with hy | hy
     ·have:=h4 y hy x' (List.mem_cons_of_mem _ hx') z' hz';omega
     ·have:=h1.2.1 x' hx';omega
    ·simp only;rw [hh,<- h5,ym x,ym z,Bool.or_assoc]
     congr 1
     have hxq:(inR n x && zq q n) = false:=by
      rw [Bool.eq_false_iff];intro h;rw [Bool.and_eq_true,yT] at h;have:=UL h2 h.2;omega
     cases hv1:inR n x <;> cases hv2:inR n z <;> cases hv3:zq r n <;> cases hv4:zq q n <;> simp_all
   ·rw [if_neg hc,zD ⟨by omega,by simp only [List.length_cons];omega,by omega⟩];have ed:List.drop (Int.toNat 1) (List.take (Int.toNat ((z :: q).length:Int)) (z :: q)) = q:=by simp
    rw [ed];refine ⟨⟨h1,h2.2.2,o2,fun y hy x' hx' z' hz'=>?_,fun n=>?_,by simp at h6 ⊢;omega⟩,by simp only [List.length_cons];omega⟩
    ·rcases o4 y hy with hy | hy
     ·have:=h4 y hy x' hx' z' (List.mem_cons_of_mem _ hz');omega
     ·have:=h2.2.1 z' hz';omega
    ·simp only;rw [hh,<- h5,ym x,ym z,Bool.or_assoc]
     congr 1
     have hxq:(inR n z && zq r n) = false:=by
      rw [Bool.eq_false_iff];intro h;rw [Bool.and_eq_true,yT] at h;have:=UL h1 h.2;omega
     cases hv1:inR n x <;> cases hv2:inR n z <;> cases hv3:zq r n <;> cases hv4:zq q n <;> simp_all
theorem meetN_eq (a b:List RN) (ha:a.length <= 100000000000) (hb:b.length <= 100000000000):XP a b = pure (uY (· && ·) a b):=by
 unfold XP;have la:=wA a;have lb:=wA b;rw [Wc a (by omega),zB,zA,Wc b (by omega),zB,zA];refine uw ((loop uM (nrm a,nrm b,[])).mono (fun r ⟨h1,h2⟩=>?_) (wLa (nrm a) (nrm b) (uo a) (uo b) (by omega)));obtain ⟨s1,s2,_⟩:=zd (· && ·) rfl a b;exact Xx h1 s1 fun n=>by rw [h2,s2,xV,xV]

def Uy : Int -> List RN -> List RN
 | at_,[]=>[⟨at_,281474976710655⟩]
 | at_,x :: r=>⟨at_,x.lo - 1⟩ :: Uy (x.hi + 1) r
theorem wMa (l:List RN) (p:Int):(Uy p l).length = l.length + 1:=by
 induction l generalizing p with
 | nil=>rfl
 | cons x r ih=>simp [Uy,ih]
theorem qv : ∀ (l:List RN) (p:Int),Nf l -> 1 <= p -> (∀ x ∈ l,p <= x.lo) -> ∀ n,zq (Uy p l) n = true ↔ p <= n /\ n <= 281474976710655 /\ zq l n = false
 | [],p,_,hp,_,n=>by
  rw [Uy,wb,yT];simp only [Ja,and_true];omega
 | x :: r,p,h,hp,hlo,n=>by
  have hx:=zU.1 h.1;have:=hlo x (by simp);rw [Uy,ym,Bool.or_eq_true,qv r (x.hi + 1) h.2.2 (by omega) (fun y hy=>by have:=h.2.1 y hy;omega) n,yT];simp only;have hr:zq (x :: r) n = false ↔ (n < x.lo \/ x.hi < n) /\ zq r n = false:=by
   rw [ym,Bool.or_eq_false_iff];refine and_congr_left fun _=>?_
   rw [Bool.eq_false_iff,ne_eq,yT];omega
  rw [hr];have hrl:n < x.lo -> zq r n = false:=fun hn=>by
   rw [Bool.eq_false_iff];intro h2;have:=UL h h2;omega
  constructor
  ·rintro (h2 | h2)
   ·exact ⟨h2.2.1,by omega,.inl (by omega),hrl (by omega)⟩
   ·exact ⟨by omega,h2.2.1,.inr (by omega),h2.2.2⟩
  ·rintro ⟨h2,h3,h4,h5⟩;rcases h4 with h4 | h4
   ·left;omega
   ·right;exact ⟨by omega,h3,h5⟩
theorem rest_eq (l:List RN) (h:l.length <= 100000000000):XQ l = pure (Uy 1 (nrm l)):=by
 unfold XQ;have hl:=wA l;have hn:=uo l;rw [Wc l (by omega),zB,zA]
 generalize nrm l = v at hl hn
 have h1:=Zz (body:=uN v) v (fun i (t:Int × List RN)=>(t.1,(i:Int),t.2)) (fun t x=>(x.hi + 1,t.2 ++ [⟨t.1,x.lo - 1⟩])) (fun t=>pure t) (fun i t=>t.2.length = i) (fun i x t hx hi hI=>by
  have h1:decide ((i:Int) < (v.length:Int)) = true:=by simpa using hi
  have hm:=zU.1 (hn.may x (List.mem_of_getElem? hx));refine ⟨?_,by simp [hI]⟩;unfold uN;simp only [h1,cond_true,zH hx,zA,zn (show i < 9223372036854775807 by omega),Xu (show 0 <= x.lo - 1 by omega) (by omega),Xu (show 0 <= x.hi + 1 by omega) (by omega)];rw [zD (by simp;omega)]) (fun t _=>by unfold uN;simp [zA]) (1,[]) rfl
 rw [show ((1:Int),(0:Int),([]:List RN)) = (1,((0:Nat):Int),[]) from rfl,h1];simp only [zA];have hf:∀ (l:List RN) (t:Int × List RN),(l.foldl (fun (t:Int × List RN) x=>(x.hi + 1,t.2 ++ [(⟨t.1,x.lo - 1⟩:RN)])) t).2 ++ [⟨(l.foldl (fun (t:Int × List RN) x=>(x.hi + 1,t.2 ++ [(⟨t.1,x.lo - 1⟩:RN)])) t).1,281474976710655⟩] = t.2 ++ Uy t.1 l /\ (l.foldl (fun (t:Int × List RN) x=>(x.hi + 1,t.2 ++ [(⟨t.1,x.lo - 1⟩:RN)])) t).2.length = t.2.length + l.length:=by
  intro l
  induction l with
  | nil=>intro t;exact ⟨rfl,by simp⟩
  | cons x r ih=>
   intro t;rw [List.foldl_cons];obtain ⟨i1,i2⟩:=ih (x.hi + 1,t.2 ++ [⟨t.1,x.lo - 1⟩]);exact ⟨by rw [i1];simp [Uy],by rw [i2];simp;omega⟩
 obtain ⟨f1,f2⟩:=hf v (1,[])
 generalize v.foldl (fun (t:Int × List RN) x=>(x.hi + 1,t.2 ++ [(⟨t.1,x.lo - 1⟩:RN)])) (1,[]) = t at f1 f2
 obtain ⟨p,out⟩:=t;simp only [List.length_nil] at f1 f2 ⊢;rw [zD (by simp;omega),f1]
 rfl
theorem minus_eq (a b:List RN) (ha:a.length <= 10000000000) (hb:b.length <= 10000000000):ud a b = pure (uY (fun x y=>x && !y) a b):=by
 unfold ud;have lb:=wA b;have lr:=wMa (nrm b) 1;rw [rest_eq b (by omega),zB,zA,meetN_eq a _ (by omega) (by omega),zB,zA];refine congrArg pure ?_;obtain ⟨s1,s2,_⟩:=zd (· && ·) rfl a (Uy 1 (nrm b));obtain ⟨t1,t2,_⟩:=zd (fun x y=>x && !y) rfl a b;refine Xx s1 t1 fun n=>?_
 rw [s2,t2,<- xV b]
 cases hh:zq a n with
 | false=>rfl
 | true=>
  have:=jT hh;rw [Bool.true_and,Bool.true_and,Bool.eq_iff_iff,qv (nrm b) 1 (uo b) (by omega) (fun x hx=>(zU.1 ((uo b).may x hx)).1) n];simp only [Bool.not_eq_true'];exact ⟨fun h=>h.2.2,fun h=>⟨this.1,this.2,h⟩⟩

theorem WA (l:List Int):(Yk l).length = l.length:=by simp [Yk]
end Go.Ep.M.R

namespace Go.Ep.M.C
open Go

def yB (c:List PT) (k:Int):List RN:=(c.filter fun p=>decide (p.dev = k) && decide (0 < k)).flatMap (·.runs)
theorem WB (k:Int):yB [] k = []:=rfl
theorem wv (p:PT) (c:List PT) (k:Int):yB (p :: c) k = (if p.dev = k /\ 0 < k then p.runs else []) ++ yB c k:=by
 unfold yB;rw [List.filter_cons]
 by_cases h:p.dev = k /\ 0 < k
 ·simp [h.1,h.2]
 ·rw [if_neg (by simpa using h),if_neg h];rfl
theorem WC (a b:List PT) (k:Int):yB (a ++ b) k = yB a k ++ yB b k:=by simp [yB,List.filter_append]
theorem WD {c:List PT} {k:Int} (h:¬ 0 < k):yB c k = []:=by simp [yB,h]
def xC (c:List PT) (k n:Int):Bool:=R.zq (yB c k) n
theorem hasC_app (a b:List PT) (k n:Int):xC (a ++ b) k n = (xC a k n || xC b k n):=by simp [xC,WC,R.vR]
def xB (c:List PT):Nat:=(c.map fun p=>p.runs.length).sum
theorem yAa (a b:List PT):xB (a ++ b) = xB a + xB b:=by simp [xB]
theorem yw (c:List PT) (k:Int):(yB c k).length <= xB c:=by
 induction c with
 | nil=>simp [yB]
 | cons p r ih=>
  rw [wv,List.length_append];have:xB (p :: r) = p.runs.length + xB r:=by simp [xB]
  split
  ·omega
  ·simp;omega
theorem Jk (ks:List Int):(ks.map fun _=>0).sum = 0:=by
 induction ks with
 | nil=>rfl
 | cons k r ih=>rw [List.map_cons,List.sum_cons,ih]
theorem rawC_sum (c:List PT) (ks:List Int) (h:ks.Nodup):(ks.map fun k=>(yB c k).length).sum <= xB c:=by
 induction c with
 | nil=>simp only [WB,List.length_nil,Jk];exact Nat.zero_le _
 | cons p r ih=>
  have e:xB (p :: r) = p.runs.length + xB r:=by simp [xB]
  have h1:(ks.map fun k=>(yB (p :: r) k).length).sum = (ks.map fun k=>if p.dev = k /\ 0 < k then p.runs.length else 0).sum + (ks.map fun k=>(yB r k).length).sum:=by
   clear h ih
   induction ks with
   | nil=>rfl
   | cons k ks ih2=>
    simp only [List.map_cons,List.sum_cons,wv,List.length_append] at ih2 ⊢
    by_cases hc:p.dev = k /\ 0 < k
    ·rw [if_pos hc,if_pos hc];omega
    ·rw [if_neg hc,if_neg hc,List.length_nil];omega
  have h2:(ks.map fun k=>if p.dev = k /\ 0 < k then p.runs.length else 0).sum <= p.runs.length:=by
   clear ih h1 e
   induction ks with
   | nil=>simp
   | cons k ks ih2=>
    obtain ⟨n1,n2⟩:=List.nodup_cons.1 h;simp only [List.map_cons,List.sum_cons]
    by_cases hk:p.dev = k
    ·have h0:(ks.map fun k=>if p.dev = k /\ 0 < k then p.runs.length else 0).sum = 0:=by
      have:(ks.map fun k=>if p.dev = k /\ 0 < k then p.runs.length else 0) = ks.map fun _=>0:=by
       refine List.map_congr_left fun q hq=>?_
       rw [if_neg];rintro ⟨e,_⟩;exact n1 (by rw [<- hk,e];exact hq)
      rw [this];exact Jk ks
     rw [h0]
     split <;> omega
    ·rw [if_neg (fun h=>hk h.1)];have:=ih2 n2;omega
  omega

def OrdP (l:List PT):Prop:=l.Pairwise fun x y=>x.dev < y.dev
theorem Va : ∀ {l l':List PT},OrdP l -> OrdP l' -> (∀ d,d ∈ l ↔ d ∈ l') -> l = l'
 | [],[],_,_,_=>rfl
 | [],y :: r,_,_,h=>absurd ((h y).2 (by simp)) (by simp)
 | x :: r,[],_,_,h=>absurd ((h x).1 (by simp)) (by simp)
 | x :: r,y :: q,h1,h2,h=>by
  obtain ⟨a1,a2⟩:=List.pairwise_cons.1 h1;obtain ⟨b1,b2⟩:=List.pairwise_cons.1 h2;have e:x = y:=by
   rcases List.mem_cons.1 ((h x).1 (by simp)) with e | hx
   ·exact e
   ·rcases List.mem_cons.1 ((h y).2 (by simp)) with e | hy
    ·exact e.symm
    ·have:=a1 y hy;have:=b1 x hx;omega
  subst e
  congr 1
  refine Va a2 b2 fun d=>⟨fun hd=>?_,fun hd=>?_⟩
  ·rcases List.mem_cons.1 ((h d).1 (List.mem_cons_of_mem _ hd)) with e | hx
   ·subst e;have:=a1 d hd;omega
   ·exact hx
  ·rcases List.mem_cons.1 ((h d).2 (List.mem_cons_of_mem _ hd)) with e | hx
   ·subst e;have:=b1 d hd;omega
   ·exact hx
def zu (f:Int -> List RN) (ks:List Int):List PT:=ks.filterMap fun k=>if f k = [] then none else some ⟨k,f k⟩
theorem wG {f:Int -> List RN} {ks:List Int} {p:PT}:p ∈ zu f ks ↔ p.dev ∈ ks /\ p.runs ≠ [] /\ p.runs = f p.dev:=by
 unfold zu;rw [List.mem_filterMap]
 constructor
 ·rintro ⟨k,hk,h⟩
  split at h
  ·cases h
  ·rename_i h0;cases h;exact ⟨hk,h0,rfl⟩
 ·rintro ⟨h1,h2,h3⟩;refine ⟨p.dev,h1,?_⟩;rw [if_neg (by rw [<- h3];exact h2),<- h3]
theorem wH {f:Int -> List RN} {ks:List Int} (h:ks.Pairwise (· < ·)):OrdP (zu f ks):=by
 unfold OrdP zu;rw [List.pairwise_filterMap];refine h.imp fun {a b} hab x hx y hy=>?_
 split at hx
 ·cases hx
 ·split at hy
  ·cases hy
  ·cases hx;cases hy;exact hab
theorem UQ {f g:Int -> List RN} {ks ls:List Int} (h1:ks.Pairwise (· < ·)) (h2:ls.Pairwise (· < ·)) (hf:∀ k,f k = g k) (h:∀ k,f k ≠ [] -> (k ∈ ks ↔ k ∈ ls)):zu f ks = zu g ls:=by
 refine Va (wH h1) (wH h2) fun p=>?_
 rw [wG,wG]
 constructor
 ·rintro ⟨a,b,c⟩;exact ⟨(h _ (by rw [<- c];exact b)).1 a,b,by rw [c,hf]⟩
 ·rintro ⟨a,b,c⟩;exact ⟨(h _ (by rw [hf,<- c];exact b)).2 a,b,by rw [c,hf]⟩
theorem zKa (f:Int -> List RN) (ks:List Int):(zu f ks).length <= ks.length:=List.length_filterMap_le _ _
theorem zLa (f:Int -> List RN) (ks:List Int):xB (zu f ks) = (ks.map fun k=>(f k).length).sum:=by
 induction ks with
 | nil=>rfl
 | cons k ks ih=>
  have:zu f (k :: ks) = (if f k = [] then [] else [⟨k,f k⟩]) ++ zu f ks:=by
   unfold zu
   by_cases h:f k = [] <;> simp [h]
  rw [this,yAa,ih]
  by_cases h:f k = [] <;> simp [h,xB]
theorem UR {f:Int -> List RN} {ks:List Int} (h:ks.Nodup) (k:Int):yB (zu f ks) k = if k ∈ ks /\ 0 < k then f k else []:=by
 induction ks with
 | nil=>simp [zu,yB]
 | cons q ks ih=>
  obtain ⟨n1,n2⟩:=List.nodup_cons.1 h;have e:zu f (q :: ks) = (if f q = [] then [] else [⟨q,f q⟩]) ++ zu f ks:=by
   unfold zu
   by_cases h:f q = [] <;> simp [h]
  rw [e,WC,ih n2]
  by_cases hq:q = k
  ·subst hq;rw [if_neg (fun (h:q ∈ ks /\ 0 < q)=>n1 h.1),List.append_nil]
   by_cases h0:f q = []
   ·rw [if_pos h0,h0];simp [yB]
   ·rw [if_neg h0]
    by_cases hp:0 < q
    ·rw [if_pos ⟨List.mem_cons_self,hp⟩];simp [yB,hp]
    ·rw [if_neg (fun h=>hp h.2)];exact WD hp
  ·have:yB (if f q = [] then [] else [(⟨q,f q⟩:PT)]) k = []:=by
    by_cases h0:f q = [] <;> simp [h0,yB,hq]
   rw [this];have hm:(k ∈ q :: ks) ↔ k ∈ ks:=by simp [Ne.symm hq]
   simp only [hm,List.nil_append]

def qw (l:List Int) (p:PT):List Int:=if 0 < p.dev then V.Um l p.dev else l
def WE (c:List PT):List Int:=c.foldl qw []
theorem Zc (c:List PT):∀ l:List Int,l.Pairwise (· < ·) -> (c.foldl qw l).Pairwise (· < ·) /\ (∀ k,k ∈ c.foldl qw l ↔ k ∈ l \/ ∃ p ∈ c,p.dev = k /\ 0 < k) /\ (c.foldl qw l).length <= l.length + c.length:=by
 induction c with
 | nil=>intro l h;simp [h]
 | cons p r ih=>
  intro l h;rw [List.foldl_cons]
  by_cases hp:0 < p.dev
  ·have e:qw l p = V.Um l p.dev:=by simp [qw,hp]
   rw [e];obtain ⟨h1,h2,h3⟩:=ih _ (V.uA h p.dev);refine ⟨h1,fun k=>?_,by have:=V.Xv l p.dev;simp;omega⟩;rw [h2,V.VX]
   constructor
   ·rintro ((rfl | h4) | ⟨x,h4,h5⟩)
    ·exact .inr ⟨p,by simp,rfl,hp⟩
    ·exact .inl h4
    ·exact .inr ⟨x,by simp [h4],h5⟩
   ·rintro (h4 | ⟨x,h4,h5,h6⟩)
    ·exact .inl (.inr h4)
    ·rcases List.mem_cons.1 h4 with rfl | h4
     ·exact .inl (.inl h5.symm)
     ·exact .inr ⟨x,h4,h5,h6⟩
  ·have e:qw l p = l:=by simp [qw,hp]
   rw [e];obtain ⟨h1,h2,h3⟩:=ih _ h;refine ⟨h1,fun k=>?_,by simp;omega⟩;rw [h2]
   constructor
   ·rintro (h4 | ⟨x,h4,h5⟩)
    ·exact .inl h4
    ·exact .inr ⟨x,by simp [h4],h5⟩
   ·rintro (h4 | ⟨x,h4,h5,h6⟩)
    ·exact .inl h4
    ·rcases List.mem_cons.1 h4 with rfl | h4
     ·rw [h5] at hp;exact absurd h6 hp
     ·exact .inr ⟨x,h4,h5,h6⟩
theorem yl (c:List PT):(WE c).Pairwise (· < ·):=(Zc c [] List.Pairwise.nil).1
theorem qx {l:List Int} (h:l.Pairwise (· < ·)):l.Nodup:=h.imp fun {a b} h e=>by omega
theorem We (c:List PT):(WE c).Nodup:=qx (yl c)
theorem xR {c:List PT} {k:Int}:k ∈ WE c ↔ (∃ p ∈ c,p.dev = k) /\ 0 < k:=by
 have:=(Zc c [] List.Pairwise.nil).2.1 k;unfold WE;rw [this];simp only [List.not_mem_nil,false_or]
 constructor
 ·rintro ⟨p,h1,h2,h3⟩;exact ⟨⟨p,h1,h2⟩,h3⟩
 ·rintro ⟨⟨p,h1,h2⟩,h3⟩;exact ⟨p,h1,h2,h3⟩
theorem z2a (c:List PT):(WE c).length <= c.length:=by simpa [WE] using (Zc c [] List.Pairwise.nil).2.2
theorem uS {c:List PT} {k:Int} (h:yB c k ≠ []):k ∈ WE c:=by
 rw [xR];refine Classical.byContradiction fun hn=>h ?_
 unfold yB;have:(c.filter fun p=>decide (p.dev = k) && decide (0 < k)) = []:=by
  rw [List.filter_eq_nil_iff];intro p hp;simp only [Bool.and_eq_true,decide_eq_true_eq];rintro ⟨h1,h2⟩;exact hn ⟨⟨p,hp,h1⟩,h2⟩
 rw [this];rfl

def opC (op:Bool -> Bool -> Bool) (a b:List PT):List PT:=zu (fun k=>R.uY op (yB a k) (yB b k)) (WE (a ++ b))
def zm (c:List PT):List PT:=zu (fun k=>R.nrm (yB c k)) (WE c)
theorem yBa {op:Bool -> Bool -> Bool} (h0:op false false = false):R.uY op [] [] = []:=by
 have:=R.zd op h0 [] [];exact R.Xx this.1 trivial fun n=>by rw [this.2.1];exact h0
theorem Wf : R.nrm [] = []:=yBa rfl
theorem zMa {op:Bool -> Bool -> Bool} (h0:op false false = false) (a b:List PT) (k n:Int):xC (opC op a b) k n = op (xC a k n) (xC b k n):=by
 unfold xC opC;rw [UR (We _)]
 split
 ·rw [(R.zd op h0 _ _).2.1]
 ·rename_i h
  have e:yB a k = [] /\ yB b k = []:=by
   have h1:yB (a ++ b) k = []:=Classical.byContradiction fun h2=>h ⟨uS h2,(xR.1 (uS h2)).2⟩
   rw [WC] at h1;simpa using h1
  rw [e.1,e.2];show R.zq [] n = _;simp [R.zq,h0]
theorem up (c:List PT) (k n:Int):xC (zm c) k n = xC c k n:=by
 unfold xC zm;rw [UR (We _)]
 split
 ·rw [R.xV]
 ·rename_i h
  have e:yB c k = []:=Classical.byContradiction fun h2=>h ⟨uS h2,(xR.1 (uS h2)).2⟩
  rw [e]
structure Canon (c:List PT):Prop where
 ord:OrdP c
 nf:∀ p ∈ c,0 < p.dev /\ p.runs ≠ [] /\ R.Nf p.runs
theorem US {f:Int -> List RN} {c:List PT} (h:∀ k,R.Nf (f k)):Canon (zu f (WE c)):=⟨wH (yl c),fun p hp=>by
 obtain ⟨h1,h2,h3⟩:=wG.1 hp;exact ⟨(xR.1 h1).2,h2,by rw [h3];exact h _⟩⟩
theorem yCa {op:Bool -> Bool -> Bool} (h0:op false false = false) (a b:List PT):Canon (opC op a b):=US fun _=>(R.zd op h0 _ _).1
theorem vb (c:List PT):Canon (zm c):=US fun _=>R.uo _
theorem Jl : ∀ {c:List PT},OrdP c -> ∀ p ∈ c,0 < p.dev -> yB c p.dev = p.runs
 | [],_,p,hp,_=>by simp at hp
 | q :: r,h,p,hp,h0=>by
  obtain ⟨h1,h2⟩:=List.pairwise_cons.1 h;rw [wv];rcases List.mem_cons.1 hp with rfl | hp
  ·rw [if_pos ⟨rfl,h0⟩];have:yB r p.dev = []:=by
    unfold yB;have:(r.filter fun x=>decide (x.dev = p.dev) && decide (0 < p.dev)) = []:=by
     rw [List.filter_eq_nil_iff];intro x hx;have:=h1 x hx;simp;omega
    rw [this];rfl
   rw [this,List.append_nil]
  ·have:=h1 p hp;rw [if_neg (by omega),Jl h2 p hp h0];rfl
theorem Canon.eq_norm {c:List PT} (h:Canon c):c = zm c:=by
 refine Va h.ord (vb c).ord fun p=>?_
 unfold zm;rw [wG]
 constructor
 ·intro hp;obtain ⟨h1,h2,h3⟩:=h.nf p hp;exact ⟨xR.2 ⟨⟨p,hp,rfl⟩,h1⟩,h2,by rw [Jl h.ord p hp h1,R.Jh h3]⟩
 ·rintro ⟨h1,h2,h3⟩;obtain ⟨⟨q,hq,hd⟩,h0⟩:=xR.1 h1;obtain ⟨g1,g2,g3⟩:=h.nf q hq;have e:yB c p.dev = q.runs:=by rw [<- hd];exact Jl h.ord q hq g1
  rw [e,R.Jh g3] at h3;have:p = q:=by cases p;cases q;simp_all
  rw [this];exact hq
theorem qy {a b:List PT} (h:∀ k n,xC a k n = xC b k n):zm a = zm b:=by
 have hf:∀ k,R.nrm (yB a k) = R.nrm (yB b k):=fun k=>R.Xx (R.uo _) (R.uo _) fun n=>by rw [R.xV,R.xV];exact h k n
 refine UQ (yl a) (yl b) hf fun k hk=>?_
 have ha:yB a k ≠ []:=fun e=>hk (by rw [e];exact Wf)
 have hb:yB b k ≠ []:=fun e=>hk (by rw [hf,e];exact Wf)
 exact ⟨fun _=>uS hb,fun _=>uS ha⟩
theorem Canon.ext {a b:List PT} (ha:Canon a) (hb:Canon b) (h:∀ k n,xC a k n = xC b k n):a = b:=by rw [ha.eq_norm,hb.eq_norm];exact qy h
theorem jW {c:List PT} (h:Canon c):zm c = c:=h.eq_norm.symm
theorem norm_or (a b:List PT):zm (a ++ b) = opC (· || ·) a b:=(vb _).ext (yCa rfl a b) fun k n=>by rw [up,hasC_app,zMa rfl]
theorem qz : Canon []:=⟨List.Pairwise.nil,fun p h=>by simp at h⟩
theorem jX {c:List PT} (h:Canon c) (h2:∀ k n,xC c k n = false):c = []:=h.ext qz fun k n=>by rw [h2];rfl
theorem uB (c:List PT):(zm c).length <= c.length:=Nat.le_trans (zKa _ _) (z2a c)
theorem sum_le {ks:List Int} {f g:Int -> Nat} (h:∀ k,f k <= g k):(ks.map f).sum <= (ks.map g).sum:=by
 induction ks with
 | nil=>simp
 | cons k r ih=>have:=h k;simp;omega
theorem sum_two (ks:List Int) (f g:Int -> Nat):(ks.map fun k=>2 * (f k + g k)).sum = 2 * ((ks.map f).sum + (ks.map g).sum):=by
 induction ks with
 | nil=>rfl
 | cons k r ih=>simp;omega
theorem uC (c:List PT):xB (zm c) <= 2 * xB c:=by
 unfold zm;rw [zLa];refine Nat.le_trans (sum_le (g:=fun k=>2 * ((yB c k).length + 0)) fun k=>by have:=R.wA (yB c k);omega) ?_;rw [sum_two];have h1:=rawC_sum c (WE c) (We _);have h2:=Jk (WE c);omega


theorem get_grow (l:List (Int × List RN)):∀ (m:List (Int × List RN)) (k:Int),AL.getZ (AL.grow m l) k [] = AL.getZ m k [] ++ (l.filter fun x=>decide (x.1 = k)).flatMap (·.2):=by
 induction l with
 | nil=>intro m k;simp [AL.grow]
 | cons x r ih=>
  intro m k;show AL.getZ (AL.grow (AL.set m x.1 (AL.getZ m x.1 [] ++ x.2)) r) k [] = _;rw [ih,AL.getZ_set,List.filter_cons]
  by_cases h:x.1 = k
  ·subst h;simp
  ·simp [h]
theorem yya (l:List (Int × List RN)):∀ m:List (Int × List RN),(m.map (·.1)).Nodup -> ((AL.grow m l).map (·.1)).Nodup:=by
 induction l with
 | nil=>intro m h;exact h
 | cons x r ih=>intro m h;exact ih _ (AL.nodup_set h _ _)
theorem len_grow (l:List (Int × List RN)):∀ m:List (Int × List RN),(AL.grow m l).length <= m.length + l.length:=by
 induction l with
 | nil=>intro m;exact Nat.le_refl _
 | cons x r ih=>
  intro m;have h1:=ih (AL.set m x.1 (AL.getZ m x.1 [] ++ x.2));have h2:=AL.len_set m x.1 (AL.getZ m x.1 [] ++ x.2);show (AL.grow (AL.set m x.1 (AL.getZ m x.1 [] ++ x.2)) r).length <= _;simp only [List.length_cons];omega
theorem key_grow (l:List (Int × List RN)):∀ (m:List (Int × List RN)) (k:Int),k ∈ (AL.grow m l).map (·.1) -> k ∈ m.map (·.1) \/ ∃ x ∈ l,x.1 = k:=by
 induction l with
 | nil=>intro m k h;exact .inl h
 | cons x r ih=>
  intro m k h;rcases ih _ k h with h | ⟨y,hy,e⟩
  ·rw [AL.keys_set] at h
   split at h
   ·exact .inl h
   ·rcases List.mem_append.1 h with h | h
    ·exact .inl h
    ·exact .inr ⟨x,by simp,(List.mem_singleton.1 h).symm⟩
  ·exact .inr ⟨y,by simp [hy],e⟩
def xb (c:List PT):List (Int × List RN):=AL.grow [] (c.filterMap ze)
theorem xq (c:List PT) (k:Int):AL.getZ (xb c) k [] = yB c k:=by
 unfold xb;rw [get_grow];show [] ++ _ = _;rw [List.nil_append]
 induction c with
 | nil=>rfl
 | cons p r ih=>
  rw [wv,<- ih,List.filterMap_cons]
  by_cases h0:0 < p.dev
  ·have e:ze p = some (p.dev,p.runs):=by simp [ze,h0]
   rw [e];simp only [List.filter_cons]
   by_cases h:p.dev = k
   ·subst h;simp [h0]
   ·simp [h]
  ·have e:ze p = none:=by simp [ze,h0]
   rw [e,if_neg (by rintro ⟨h1,h2⟩;omega)];rfl
theorem va (c:List PT):((xb c).map (·.1)).Nodup:=yya _ _ (by simp)
theorem JY (c:List PT):(xb c).length <= c.length:=by
 have h1:=len_grow (c.filterMap ze) [];have h2:=List.length_filterMap_le ze c;unfold xb;simp at h1;omega
theorem told_pos {c:List PT} {k:Int} (h:k ∈ (xb c).map (·.1)):0 < k /\ k ∈ WE c:=by
 rcases key_grow _ _ _ h with h | ⟨x,hx,rfl⟩
 ·simp at h
 ·rw [List.mem_filterMap] at hx;obtain ⟨p,hp,hx⟩:=hx;unfold ze at hx
  split at hx
  ·rename_i h0;cases hx;exact ⟨h0,xR.2 ⟨⟨p,hp,rfl⟩,h0⟩⟩
  ·cases hx
theorem Zd {c:List PT} {e:Int × List RN} (h:e ∈ xb c):e.2 = yB c e.1 /\ 0 < e.1 /\ e.1 ∈ WE c:=by
 have h1:=AL.mem_get (va c) (k:=e.1) (v:=e.2) h;have h2:=xq c e.1;unfold AL.getZ at h2;rw [h1] at h2;exact ⟨h2,told_pos (List.mem_map.2 ⟨e,h,rfl⟩)⟩
theorem zGa {c:List PT} {k:Int} (h:yB c k ≠ []):(k,yB c k) ∈ xb c:=by
 have h2:=xq c k;unfold AL.getZ at h2
 cases hg:AL.get (xb c) k with
 | none=>rw [hg] at h2;exact absurd h2.symm h
 | some v=>rw [hg] at h2;simp only [Option.getD_some] at h2;subst h2;exact AL.get_mem hg
theorem tot_told (c:List PT):((c.filterMap ze).map fun x=>x.2.length).sum <= xB c:=by
 induction c with
 | nil=>simp
 | cons p r ih=>
  have e:xB (p :: r) = p.runs.length + xB r:=by simp [xB]
  rw [List.filterMap_cons]
  by_cases h0:0 < p.dev
  ·have e2:ze p = some (p.dev,p.runs):=by simp [ze,h0]
   rw [e2];simp only [List.map_cons,List.sum_cons];omega
  ·have e2:ze p = none:=by simp [ze,h0]
   rw [e2];simp only;omega
def Sm (c:List PT):Prop:=c.length <= 10000000000 /\ xB c <= 10000000000
theorem Jm (c:List PT) (h:Sm c):ux c = pure (xb c):=by
 unfold ux;rw [zD]
 ·rfl
 ·have:=tot_told c;refine ⟨by have:=h.1;omega,?_⟩;have:=h.2;omega
theorem yDa (m:List (Int × List RN)) (f:Int -> List RN) (ks:List Int) (hl:m.length <= 1000000000000) (hr:∀ e ∈ m,e.2.length <= 1000000000000) (hn:(m.map (·.1)).Nodup) (hs:ks.Pairwise (· < ·)) (h1:∀ e ∈ m,R.nrm e.2 ≠ [] -> e.1 ∈ ks /\ R.nrm e.2 = f e.1) (h2:∀ k ∈ ks,f k ≠ [] -> ∃ r,(k,r) ∈ m /\ R.nrm r = f k):vg m = pure (zu f ks):=by
 unfold vg;have hall:∀ Q:List PT -> Prop,(∀ l:List (Int × List RN),l.Perm m -> Q ((l.filter fun e=>decide (R.nrm e.2 ≠ [])).map fun e=>(⟨e.1,R.nrm e.2⟩:PT))) -> (loop (uK m) ([],([]:List PT))).wp Q:=by
  intro Q hQ;refine M.loopM (body:=uK m) m (fun L (t:List PT)=>(L,t)) (fun t e=>(yk e.2).det.bind fun v=>if 0 < v.length then yY ((t.length + 1) * 32 <= 140737488355328) (pure (t ++ [(⟨e.1,v⟩:PT)])) else pure t) (fun t=>pure t)
   (fun l t=>t = ((l.filter fun e=>decide (R.nrm e.2 ≠ [])).map fun e=>(⟨e.1,R.nrm e.2⟩:PT))) Q (fun L t hL=>?_) (fun l t y ht hlen hy=>?_) (fun l t hp ht=>?_) [] rfl
  ·unfold uK;show yY _ ((nxt _ _).bind _) = yY _ ((nxt _ _).bind _);refine congrArg (fun k=>yY _ ((nxt _ _).bind k)) (funext fun o=>?_)
   cases o with
   | none=>rfl
   | some i=>
    refine congrArg (fun k=>(idx m (Int.ofNat i)).bind k) (funext fun y=>?_);rw [jG];refine congrArg (fun k=>(yk y.2).det.bind k) (funext fun v=>?_);rw [xP]
    by_cases h:0 < v.length
    ·rw [if_pos (by omega),if_pos h];rfl
    ·rw [if_neg (by omega),if_neg h];rfl
  ·have hle:=List.length_filter_le (fun e:Int × List RN=>decide (R.nrm e.2 ≠ [])) l;have htl:t.length <= l.length:=by rw [ht,List.length_map];exact hle
   rw [R.Wc y.2 (hr y hy),zB,zA];refine ⟨if R.nrm y.2 = [] then t else t ++ [⟨y.1,R.nrm y.2⟩],?_,?_⟩
   ·by_cases h:R.nrm y.2 = []
    ·rw [if_neg (by rw [h];simp),if_pos h]
    ·rw [if_pos (by rw [List.length_pos_iff];exact h),if_neg h,zD (by omega)]
   ·subst ht;rw [List.filter_append,List.map_append]
    by_cases h:R.nrm y.2 = [] <;> simp [h]
  ·subst ht;exact hQ l hp
 refine uw (hall _ fun l hp=>?_);show (yY _ _).wp _;have hll:=hp.length_eq;have hle:=List.length_filter_le (fun e:Int × List RN=>decide (R.nrm e.2 ≠ [])) l;have hmem:∀ d:PT,d ∈ ((l.filter fun e=>decide (R.nrm e.2 ≠ [])).map fun e=>(⟨e.1,R.nrm e.2⟩:PT)) ↔ d ∈ zu f ks:=by
  intro d;rw [wG,List.mem_map]
  constructor
  ·rintro ⟨e,he,rfl⟩;rw [List.mem_filter,hp.mem_iff] at he;have h0:R.nrm e.2 ≠ []:=by simpa using he.2
   obtain ⟨h3,h4⟩:=h1 e he.1 h0;exact ⟨h3,h0,h4⟩
  ·rintro ⟨h3,h4,h5⟩;obtain ⟨r,h6,h7⟩:=h2 d.dev h3 (by rw [<- h5];exact h4);refine ⟨(d.dev,r),?_,by show (⟨d.dev,R.nrm r⟩:PT) = d;rw [h7,<- h5]⟩;rw [List.mem_filter,hp.mem_iff];refine ⟨h6,?_⟩;simp only [decide_eq_true_eq];rw [h7,<- h5];exact h4
 have hnd:((l.filter fun e=>decide (R.nrm e.2 ≠ [])).map fun e=>(⟨e.1,R.nrm e.2⟩:PT)).Pairwise (fun x y=>x.dev ≠ y.dev):=by
  rw [List.pairwise_map];have:l.Pairwise (fun x y=>x.1 ≠ y.1):=by
   have:=(hp.map (·.1)).nodup_iff.2 hn;exact List.pairwise_map.1 this
  exact (this.filter _)
 refine ⟨by simp only [List.length_map];omega,⟨?_,fun l' ⟨hp',hs'⟩=>?_⟩⟩
 ·refine ⟨zu f ks,?_,?_⟩
  ·refine (List.perm_ext_iff_of_nodup ?_ ?_).2 fun d=>(hmem d).symm
   ·exact (wH hs).imp fun {a b} h e=>by subst e;omega
   ·exact hnd.imp fun {a b} h e=>by subst e;exact h rfl
  ·exact (wH hs).imp fun {a b} h=>by simp [jJ];omega
 ·show l' = _;refine Va ?_ (wH hs) fun d=>by rw [hp'.mem_iff];exact hmem d
  have hnd':=(hp'.pairwise_iff (fun {a b} h=>Ne.symm h)).2 hnd;exact (hs'.and hnd').imp fun {a b} ⟨h3,h4⟩=>by simp [jJ] at h3;omega
theorem yza (c:List PT) (h:Sm c):vg (xb c) = pure (zm c):=by
 refine yDa _ _ _ (by have:=JY c;have:=h.1;omega) (fun e he=>?_) (va c) (yl c) (fun e he h0=>?_) (fun k hk h0=>?_)
 ·rw [(Zd he).1];have:=yw c e.1;have:=h.2;omega
 ·obtain ⟨h1,h2,h3⟩:=Zd he;exact ⟨h3,by rw [h1]⟩
 ·exact ⟨_,zGa (fun e=>h0 (by rw [e];exact Wf)),rfl⟩
theorem zNa (c:List PT) (h:Sm c):YI c = pure (zm c):=by
 unfold YI;rw [Jm c h,zB,zA,yza c h,zB,zA]
theorem wNa (c:List PT) (k:Int) (h:Sm c):XS c k = pure (R.nrm (yB c k)):=by
 unfold XS;rw [Jm c h,zB,zA,xq,R.Wc _ (by have:=yw c k;have:=h.2;omega),zB,zA]
theorem jY (c:List PT) (d:DT) (h:Sm c):Yv c d = pure (xC c d.dev d.n):=by
 unfold Yv;rw [xP]
 by_cases h0:0 < d.dev
 ·rw [if_pos h0,wNa c _ h,zB,zA,R.has_eq _ _ (by have:=R.wA (yB c d.dev);have:=yw c d.dev;have:=h.2;omega),zB,zA,zA,R.xV]
  rfl
 ·rw [if_neg h0,zA];show pure false = pure (R.zq (yB c d.dev) d.n);rw [WD h0];rfl
def UT (l:List DT):List PT:=(l.filter V.yA).map fun d=>⟨d.dev,[⟨d.n,d.n⟩]⟩
theorem WF (l:List DT):(UT l).length <= l.length:=by rw [UT,List.length_map];exact List.length_filter_le _ _
theorem dots_tot (l:List DT):xB (UT l) <= l.length:=by
 have:xB (UT l) = (UT l).length:=by
  unfold UT
  generalize l.filter V.yA = q
  induction q with
  | nil=>rfl
  | cons x r ih=>simp [xB] at ih ⊢;omega
 have:=WF l;omega
def Ux (h:Int × List RN -> List RN) (m:List (Int × List RN)) (L:List Nat):List (Int × List RN):=m.zipIdx.map fun y=>if y.2 ∈ L then (y.1.1,h y.1) else y.1
theorem yu {h:Int × List RN -> List RN} {m:List (Int × List RN)} {L:List Nat} {i:Nat}:(Ux h m L)[i]? = (m[i]?).map fun e=>if i ∈ L then (e.1,h e) else e:=by
 unfold Ux;rw [List.getElem?_map,List.getElem?_zipIdx]
 cases m[i]? <;> simp
theorem VZ {h:Int × List RN -> List RN} {m:List (Int × List RN)} {L:List Nat}:(Ux h m L).length = m.length:=by simp [Ux]
theorem x9a {m:List (Int × List RN)} (hn:(m.map (·.1)).Nodup) {i:Nat} {e:Int × List RN} (hi:m[i]? = some e) (v:List RN):AL.set m e.1 v = m.set i (e.1,v):=by
 induction m generalizing i with
 | nil=>simp at hi
 | cons x r ih=>
  obtain ⟨a,u⟩:=x;simp only [List.map_cons,List.nodup_cons] at hn
  cases i with
  | zero=>simp at hi;subst hi;simp [AL.set]
  | succ i=>
   simp at hi;have:a ≠ e.1:=fun q=>hn.1 (by rw [q];exact List.mem_map.2 ⟨e,List.mem_of_getElem? hi,rfl⟩)
   simp only [AL.set,this,if_false,List.set_cons_succ];rw [ih hn.2 hi]
theorem Xw {h:Int × List RN -> List RN} {m:List (Int × List RN)} {L:List Nat}:(Ux h m L).map (·.1) = m.map (·.1):=by
 apply List.ext_getElem?;intro i;rw [List.getElem?_map,yu,List.getElem?_map]
 cases m[i]? with
 | none=>rfl
 | some e=>simp only [Option.map_some];split <;> rfl
theorem qp {h:Int × List RN -> List RN} {m:List (Int × List RN)} (hn:(m.map (·.1)).Nodup) {L:List Nat} {i:Nat} {e:Int × List RN} (hi:m[i]? = some e) (hL:i ∉ L):AL.set (Ux h m L) e.1 (h e) = Ux h m (L ++ [i]):=by
 have h1:(Ux h m L)[i]? = some e:=by rw [yu,hi];simp [hL]
 rw [x9a (by rw [Xw];exact hn) h1];apply List.ext_getElem?;intro j;rw [List.getElem?_set,yu,yu]
 by_cases hj:i = j
 ·subst hj;have hlt:i < (Ux h m L).length:=by rw [VZ];exact (List.getElem?_eq_some_iff.1 hi).1
  rw [if_pos rfl,if_pos hlt,hi];simp
 ·rw [if_neg hj]
  cases m[j]? with
  | none=>rfl
  | some x=>simp [Ne.symm hj]
theorem z3a {h:Int × List RN -> List RN} {m:List (Int × List RN)} {L:List Nat} (hL:∀ i,i < m.length -> i ∈ L):Ux h m L = m.map fun e=>(e.1,h e):=by
 apply List.ext_getElem?;intro i;rw [yu,List.getElem?_map]
 cases hi:m[i]? with
 | none=>rfl
 | some e=>simp [hL i (List.getElem?_eq_some_iff.1 hi).1]
theorem has_key {m:List (Int × List RN)} {k:Int} (h:k ∈ m.map (·.1)):AL.has m k = true:=by
 unfold AL.has
 cases hg:AL.get m k with
 | none=>exact absurd h (AL.get_none.1 hg)
 | some v=>rfl
theorem wOa (body:List (Int × List RN) -> List Nat × List (Int × List RN) -> M (Step (List Nat × List (Int × List RN)) (List (Int × List RN)))) (do_:List RN -> List RN -> M (List RN)) (F:List RN -> List RN -> List RN) (m y:List (Int × List RN)) (hn:(m.map (·.1)).Nodup)
  (hb:∀ L v,body y (L,v) = yY (∀ i ∈ L,i < v.length) ((nxt v.length L).bind fun o=>match o with | none=>pure (.done v) | some j=>(idx v (Int.ofNat j)).bind fun kv=>(do_ kv.2 (AL.getZ y kv.1 [])).det.bind fun r=>yY (AL.has v kv.1 = true) (pure (.next (L ++ [j],AL.set v kv.1 r)))))
  (hdo:∀ e ∈ m,do_ e.2 (AL.getZ y e.1 []) = pure (F e.2 (AL.getZ y e.1 []))):loop (body y) ([],m) = pure (m.map fun e=>(e.1,F e.2 (AL.getZ y e.1 []))):=by
 refine uw ?_;have:=loopN (body:=body y) m.length (fun L (v:List (Int × List RN))=>(L,v)) (fun L v=>v = Ux (fun e=>F e.2 (AL.getZ y e.1 [])) m L) (fun r=>r = m.map fun e=>(e.1,F e.2 (AL.getZ y e.1 []))) (fun L v hv hL hlt=>by
  have hlen:v.length = m.length:=by rw [hv];exact VZ
  refine ⟨fun o=>match o with | none=>pure (.done v) | some j=>(idx v (Int.ofNat j)).bind fun kv=>(do_ kv.2 (AL.getZ y kv.1 [])).det.bind fun r=>yY (AL.has v kv.1 = true) (pure (.next (L ++ [j],AL.set v kv.1 r))),?_,?_,?_⟩
  ·rw [hb,hlen]
  ·intro hall;show v = _;rw [hv];exact z3a hall
  ·intro i hi hiL;have hm:=List.getElem?_eq_getElem hi;have hvi:v[i]? = some m[i]:=by rw [hv,yu,hm];simp [hiL]
   refine ⟨AL.set v (m[i]).1 (F (m[i]).2 (AL.getZ y (m[i]).1 [])),?_,?_⟩
   ·show (idx v (Int.ofNat i)).bind _ = _;rw [show (Int.ofNat i) = (i:Int) from rfl,zH hvi,zA,hdo _ (List.getElem_mem hi),zB,zA,zD];refine has_key ?_;rw [hv,Xw];exact List.mem_map.2 ⟨m[i],List.getElem_mem hi,rfl⟩
   ·rw [hv];exact qp hn hm hiL) m (by
  apply List.ext_getElem?;intro i;rw [yu]
  cases m[i]? <;> simp)
 exact this
theorem yEa {op:Bool -> Bool -> Bool} (h0:op false false = false) (a b:List RN):R.nrm (R.uY op a b) = R.uY op a b:=R.Jh (R.zd op h0 a b).1
theorem y0a {op:Bool -> Bool -> Bool} (h0:op false false = false) (hr:∀ x,op false x = false) (a b:List PT) (ha:Sm a) (hb:Sm b) :
  vg ((xb a).map fun e=>(e.1,R.uY op e.2 (AL.getZ (xb b) e.1 []))) = pure (opC op a b):=by
 have hlenR:∀ x y:List RN,(R.uY op x y).length <= 2 * (x.length + y.length):=fun x y=>(R.zd op h0 x y).2.2
 refine yDa _ _ _ (by have:=JY a;have:=ha.1;simp;omega) (fun e he=>?_) (by rw [List.map_map];exact va a) (yl _) (fun e he hne=>?_) (fun k hk hne=>?_)
 ·obtain ⟨x,hx,rfl⟩:=List.mem_map.1 he;have h1:=hlenR x.2 (AL.getZ (xb b) x.1 []);rw [(Zd hx).1,xq] at h1;have:=yw a x.1;have:=yw b x.1;have:=ha.2;have:=hb.2;show (R.uY op x.2 (AL.getZ (xb b) x.1 [])).length <= _;rw [(Zd hx).1,xq];omega
 ·obtain ⟨x,hx,rfl⟩:=List.mem_map.1 he;obtain ⟨h1,h2,h3⟩:=Zd hx;refine ⟨?_,?_⟩
  ·show x.1 ∈ _;obtain ⟨⟨p,hp,hd⟩,_⟩:=xR.1 h3;exact xR.2 ⟨⟨p,List.mem_append_left _ hp,hd⟩,h2⟩
  ·show R.nrm (R.uY op x.2 (AL.getZ (xb b) x.1 [])) = _;rw [yEa h0,xq,h1]
 ·have hra:yB a k ≠ []:=fun e=>hne (by
   rw [e];exact R.Xx (R.zd op h0 _ _).1 trivial fun n=>by rw [(R.zd op h0 _ _).2.1];show op (R.zq [] n) _ = _;exact hr _)
  refine ⟨R.uY op (yB a k) (AL.getZ (xb b) k []),List.mem_map.2 ⟨(k,yB a k),zGa hra,rfl⟩,?_⟩;rw [yEa h0,xq]
theorem Minus_eq (a b:List PT) (ha:Sm a) (hb:Sm b):XR a b = pure (opC (fun x y=>x && !y) a b):=by
 unfold XR xU;rw [Jm a ha,zB,zA,Jm b hb,zB,zA,wOa xu ud (R.uY (fun x y=>x && !y)) (xb a) (xb b) (va a) (fun L v=>rfl) (fun e he=>?_),zA,y0a rfl (fun _=>rfl) a b ha hb,zB,zA,zB,zA];rw [(Zd he).1,xq];have:=yw a e.1;have:=yw b e.1;have:=ha.2;have:=hb.2;exact R.minus_eq _ _ (by omega) (by omega)
theorem UU (a b:List PT) (ha:Sm a) (hb:Sm b):vV a b = pure (decide (opC (fun x y=>x && !y) a b = [])):=by
 unfold vV;rw [Minus_eq a b ha hb,zB,zA];refine congrArg pure ?_
 cases opC (fun x y=>x && !y) a b with
 | nil=>rfl
 | cons p r=>simp;omega
theorem partEq (x y:PT):(decide (x.dev = y.dev) && decide (x.runs = y.runs)) = decide (x = y):=by
 rw [Bool.eq_iff_iff]
 cases x;cases y
 simp
theorem eqP_eq (a b:List PT) (ha:a.length <= 1000000000000) (hr:∀ p ∈ a,p.runs.length <= 1000000000000):zP a b = pure (decide (a = b)):=by
 unfold zP
 by_cases hl:(a.length:Int) = b.length
 ·simp only [hl,decide_true,Bool.not_true,cond_false];have:=yd (body:=zN a b) a (fun i=>(i:Int)) (fun i x=>decide (b[i]? = some x)) (.brk ()) (.ret false) (fun i x hx hi=>by
   have hb:i < b.length:=by omega
   have hby:=List.getElem?_eq_getElem hb;unfold zN Vq;have h1:decide ((i:Int) < (a.length:Int)) = true:=by simpa using hi
   simp only [h1,cond_true,zH hx,zH hby,zA,R.seq_eq x.runs _ (hr x (List.mem_of_getElem? hx)),zB,zM,partEq,zn (show i < 9223372036854775807 by omega)];rw [hby]
   by_cases hxy:x = b[i] <;> simp [hxy,eq_comm,zA]) (by unfold zN;simp)
  rw [show (0:Int) = ((0:Nat):Int) from rfl,this];have hiff:(a.zipIdx.all fun y=>decide (b[y.2]? = some y.1)) = decide (a = b):=by
   rw [Bool.eq_iff_iff,List.all_eq_true,decide_eq_true_eq]
   constructor
   ·intro h;apply List.ext_getElem?;intro i
    by_cases hi:i < a.length
    ·have:=h (a[i],i) (by rw [List.mem_zipIdx_iff_getElem?];exact List.getElem?_eq_getElem hi);simp only [decide_eq_true_eq] at this;rw [this,List.getElem?_eq_getElem hi]
    ·rw [List.getElem?_eq_none (by omega),List.getElem?_eq_none (by omega)]
   ·rintro rfl y hy;rw [List.mem_zipIdx_iff_getElem?] at hy;simpa using hy
  rw [hiff]
  by_cases h:a = b <;> simp [h,exk,zA]
 ·have:¬ a = b:=fun e=>hl (by rw [e])
  simp [hl,this]
theorem eq_eq (a b:List PT) (ha:a.length <= 1000000000000) (hr:∀ p ∈ a,p.runs.length <= 1000000000000):zra a b = pure (decide (a = b)):=by
 unfold zra;rw [eqP_eq a b ha hr,zB,zA]
theorem jZ {c:List PT}:∀ p ∈ c,p.runs.length <= xB c:=by
 induction c with
 | nil=>intro p hp;simp at hp
 | cons q r ih=>
  intro p hp;have e:xB (q :: r) = q.runs.length + xB r:=by simp [xB]
  rcases List.mem_cons.1 hp with rfl | hp
  ·omega
  ·have:=ih p hp;omega
theorem YA (c:List PT) (h:Sm c):uL c = pure (decide (c = zm c)):=by
 unfold uL;rw [zNa c h,zB,zA,eq_eq _ _ (by have:=h.1;omega) (fun p hp=>by have:=jZ p hp;have:=h.2;omega),zB,zA]


theorem rEq_eq (a b:List PT) (ha:a.length <= 1000000000000) (hr:∀ p ∈ a,p.runs.length <= 1000000000000):jK a b = pure (decide (a = b)):=by
 unfold jK
 by_cases hl:(a.length:Int) = b.length
 ·simp only [hl,decide_true,Bool.not_true,cond_false];have:=yd (body:=XX a b) a (fun i=>(i:Int)) (fun i x=>decide (b[i]? = some x)) (.brk ()) (.ret false) (fun i x hx hi=>by
   have hb:i < b.length:=by omega
   have hby:=List.getElem?_eq_getElem hb;unfold XX;have h1:decide ((i:Int) < (a.length:Int)) = true:=by simpa using hi
   simp only [h1,cond_true,zH hx,zH hby,zA,R.req_eq x.runs _ (hr x (List.mem_of_getElem? hx)),zB,zn (show i < 9223372036854775807 by omega)];rw [hby];have he:=partEq x b[i]
   by_cases hd:x.dev = (b[i]).dev
   ·by_cases hq:x.runs = (b[i]).runs
    ·simp only [hd,hq,decide_true,Bool.and_self,eq_comm (a:=true),decide_eq_true_eq] at he;simp [hd,hq,he,zA]
    ·have hne:¬ x = b[i]:=fun e=>hq (by rw [e])
     have hne2:¬ b[i] = x:=fun e=>hne e.symm
     simp [hd,hq,hne2,zA]
   ·have hne2:¬ b[i] = x:=fun e=>hd (by rw [e])
    simp [hd,hne2,zA]) (by unfold XX;simp)
  rw [show (0:Int) = ((0:Nat):Int) from rfl,this];have hiff:(a.zipIdx.all fun y=>decide (b[y.2]? = some y.1)) = decide (a = b):=by
   rw [Bool.eq_iff_iff,List.all_eq_true,decide_eq_true_eq]
   constructor
   ·intro h;apply List.ext_getElem?;intro i
    by_cases hi:i < a.length
    ·have:=h (a[i],i) (by rw [List.mem_zipIdx_iff_getElem?];exact List.getElem?_eq_getElem hi);simp only [decide_eq_true_eq] at this;rw [this,List.getElem?_eq_getElem hi]
    ·rw [List.getElem?_eq_none (by omega),List.getElem?_eq_none (by omega)]
   ·rintro rfl y hy;rw [List.mem_zipIdx_iff_getElem?] at hy;simpa using hy
  rw [hiff]
  by_cases h:a = b <;> simp [h,exk,zA]
 ·have:¬ a = b:=fun e=>hl (by rw [e])
  simp [hl,this]
theorem rEq_sm (a b:List PT) (h:Sm a):jK a b = pure (decide (a = b)):=rEq_eq a b (by have:=h.1;omega) fun p hp=>by have:=jZ p hp;have:=h.2;omega
theorem yFa (u v:List RN):R.uY (· || ·) (R.nrm u) v = R.nrm (u ++ v):=R.Xx (R.zd _ rfl _ _).1 (R.uo _) fun n=>by rw [(R.zd _ rfl _ _).2.1,R.xV,R.xV,R.vR]
theorem Vb (c:List PT) (k:Int) (hk:0 <= k) (h:c.length <= 1000000000) (ht:xB c <= 1000000000):ZD c k = pure (R.nrm (yB c k)):=by
 unfold ZD;have hpre:∀ i,(yB (c.take i) k).length <= 1000000000:=fun i=>by
  have h1:=yw (c.take i) k;have h2:xB (c.take i) <= xB c:=by
   conv=>rhs;rw [<- List.take_append_drop i c]
   rw [yAa];omega
  omega
 have:=Zz (body:=ZC c k) c (fun i (t:List RN)=>(t,(i:Int))) (fun t p=>if p.dev = k /\ 0 < k then R.uY (· || ·) t p.runs else t) (fun t=>pure t) (fun i t=>t = R.nrm (yB (c.take i) k)) (fun i x t hx hi ht2=>by
  have h1:decide ((i:Int) < (c.length:Int)) = true:=by simpa using hi
  have hxl:x.runs.length <= 1000000000:=by have:=jZ x (List.mem_of_getElem? hx);omega
  have htl:t.length <= 2000000000:=by have:=R.wA (yB (c.take i) k);have:=hpre i;rw [ht2];omega
  unfold ZC;simp only [h1,cond_true,zH hx,zA,zn (show i < 9223372036854775807 by omega),xP];have hnext:(if x.dev = k /\ 0 < k then R.uY (· || ·) t x.runs else t) = R.nrm (yB (c.take (i + 1)) k):=by
   rw [List.take_add_one,hx,WC,Option.toList,wv,WB,List.append_nil,ht2]
   split
   ·exact yFa _ _
   ·rw [List.append_nil]
  refine ⟨?_,hnext⟩
  by_cases hd:x.dev = k
  ·by_cases h0:k = 0
   ·have:¬ (x.dev = k /\ 0 < k):=by omega
    rw [if_neg this,if_pos hd];simp [h0,zA]
   ·rw [if_pos (show x.dev = k /\ 0 < k from ⟨hd,by omega⟩),if_pos hd];simp only [h0,decide_false,Bool.not_false,zA,cond_true];rw [R.z8a _ _ (by omega),zB,zA,zA]
  ·rw [if_neg (fun (q:x.dev = k /\ 0 < k)=>hd q.1),if_neg hd]
   rfl) (fun t _=>by unfold ZC;simp [zA]) [] (by rw [List.take_zero,WB,Wf])
 rw [show (([]:List RN),(0:Int)) = ([],((0:Nat):Int)) from rfl,this];have key:∀ (l:List PT) (u:List RN),l.foldl (fun t p=>if p.dev = k /\ 0 < k then R.uY (· || ·) t p.runs else t) (R.nrm u) = R.nrm (u ++ yB l k):=by
  intro l
  induction l with
  | nil=>intro u;simp [yB]
  | cons p r ih=>
   intro u;rw [List.foldl_cons,wv]
   by_cases hp:p.dev = k /\ 0 < k
   ·rw [if_pos hp,if_pos hp,yFa,ih,List.append_assoc]
   ·rw [if_neg hp,if_neg hp,ih,List.nil_append]
 have h2:=key c [];rw [Wf,List.nil_append] at h2;rw [h2];rfl
def zOa (c:List PT):List Int:=c.foldl (fun l p=>V.Um l p.dev) []
theorem Jo (c:List PT):∀ l:List Int,l.Pairwise (· < ·) -> (c.foldl (fun l p=>V.Um l p.dev) l).Pairwise (· < ·) /\ (∀ k,k ∈ c.foldl (fun l p=>V.Um l p.dev) l ↔ k ∈ l \/ ∃ p ∈ c,p.dev = k) /\ (c.foldl (fun l p=>V.Um l p.dev) l).length <= l.length + c.length:=by
 induction c with
 | nil=>intro l h;simp [h]
 | cons p r ih=>
  intro l h;rw [List.foldl_cons];obtain ⟨h1,h2,h3⟩:=ih _ (V.uA h p.dev);refine ⟨h1,fun k=>?_,by have:=V.Xv l p.dev;simp;omega⟩;rw [h2,V.VX]
  constructor
  ·rintro ((rfl | h4) | ⟨x,h4,h5⟩)
   ·exact .inr ⟨p,by simp,rfl⟩
   ·exact .inl h4
   ·exact .inr ⟨x,by simp [h4],h5⟩
  ·rintro (h4 | ⟨x,h4,h5⟩)
   ·exact .inl (.inr h4)
   ·rcases List.mem_cons.1 h4 with rfl | h4
    ·exact .inl (.inl h5.symm)
    ·exact .inr ⟨x,h4,h5⟩
theorem UV (c:List PT):(zOa c).Pairwise (· < ·):=(Jo c [] List.Pairwise.nil).1
theorem yGa {c:List PT} {k:Int}:k ∈ zOa c ↔ ∃ p ∈ c,p.dev = k:=by
 have:=(Jo c [] List.Pairwise.nil).2.1 k;unfold zOa;rw [this];simp
theorem yHa (c:List PT):(zOa c).length <= c.length:=by simpa [zOa] using (Jo c [] List.Pairwise.nil).2.2
theorem WA (l:List Int):(V.Yk l).length = l.length:=by simp [V.Yk]
theorem rdevs_eq (a b:List PT) (h:a.length + b.length <= 10000000000):VJ a b = pure (V.Yk (zOa (a ++ b))):=by
 unfold VJ;have h1:=Zz (body:=ZE a) a (fun i (l:List Int)=>(V.Yk l,(i:Int))) (fun l p=>V.Um l p.dev) (fun l=>pure (V.Yk l)) (fun i l=>l.Pairwise (· < ·) /\ l.length <= i) (fun i x l hx hi ⟨hs,hl⟩=>by
  have h1:decide ((i:Int) < (a.length:Int)) = true:=by simpa using hi
  unfold ZE;simp only [h1,cond_true,zH hx,zA,zn (show i < 9223372036854775807 by omega)];rw [V.WY _ _ (by rw [WA];omega),zB,zA,V.z5a hs];exact ⟨rfl,V.uA hs _,by have:=V.Xv l x.dev;omega⟩) (fun l _=>by unfold ZE;simp [zA]) [] ⟨List.Pairwise.nil,by simp⟩
 have h2:=Zz (body:=vk b) b (fun i (l:List Int)=>(V.Yk l,(i:Int))) (fun l p=>V.Um l p.dev) (fun l=>pure (V.Yk l)) (fun i l=>l.Pairwise (· < ·) /\ l.length <= a.length + i) (fun i x l hx hi ⟨hs,hl⟩=>by
  have h1:decide ((i:Int) < (b.length:Int)) = true:=by simpa using hi
  unfold vk;simp only [h1,cond_true,zH hx,zA,zn (show i < 9223372036854775807 by omega)];rw [V.WY _ _ (by rw [WA];omega),zB,zA,V.z5a hs];exact ⟨rfl,V.uA hs _,by have:=V.Xv l x.dev;omega⟩) (fun l _=>by unfold vk;simp [zA]) (zOa a) ⟨UV a,by have:=yHa a;omega⟩
 rw [show (([]:List DT),(0:Int)) = (V.Yk [],((0:Nat):Int)) from rfl,h1,zA];show (loop (vk b) (V.Yk (zOa a),((0:Nat):Int))).bind _ = _;rw [h2,zA];unfold zOa;rw [List.foldl_append]
theorem Wb (op:Bool -> Bool -> Bool) (how:Int) (hop:∀ x y,op x y = if how = 2 then (x && !y) else if how = 1 then (x && y) else (x || y)) (h0:op false false = false) (a b:List PT) (oa:∀ p ∈ a,0 <= p.dev) (ob:∀ p ∈ b,0 <= p.dev) (ha:a.length <= 1000000000) (hb:b.length <= 1000000000) (ta:xB a <= 1000000000) (tb:xB b <= 1000000000):Vy a b how = pure (opC op a b):=by
 unfold Vy;rw [rdevs_eq a b (by omega),zB,zA];have hlenA:∀ k,(R.nrm (yB a k)).length <= 2000000000:=fun k=>by have:=R.wA (yB a k);have:=yw a k;omega
 have hlenB:∀ k,(R.nrm (yB b k)).length <= 2000000000:=fun k=>by have:=R.wA (yB b k);have:=yw b k;omega
 have hop':∀ k,R.uY op (R.nrm (yB a k)) (R.nrm (yB b k)) = R.uY op (yB a k) (yB b k):=fun k=>R.Xx (R.zd op h0 _ _).1 (R.zd op h0 _ _).1 fun n=>by rw [(R.zd op h0 _ _).2.1,(R.zd op h0 _ _).2.1,R.xV,R.xV]
 have hkey:∀ k ∈ zOa (a ++ b),0 <= k:=fun k hk=>by
  obtain ⟨p,hp,rfl⟩:=yGa.1 hk;rcases List.mem_append.1 hp with hp | hp
  ·exact oa p hp
  ·exact ob p hp
 have hnd:(zOa (a ++ b)).length <= 2000000000:=by have:=yHa (a ++ b);rw [List.length_append] at this;omega
 have hgo:=Zz (body:=YZ (V.Yk (zOa (a ++ b))) a b how) (zOa (a ++ b)) (fun i (t:List PT)=>((i:Int),t)) (fun t k=>if R.uY op (yB a k) (yB b k) = [] then t else t ++ [⟨k,R.uY op (yB a k) (yB b k)⟩]) (fun t=>pure t) (fun i t=>t.length <= i) (fun i k t hk hi hl=>by
  have h1:decide ((i:Int) < ((V.Yk (zOa (a ++ b))).length:Int)) = true:=by rw [WA];simpa using hi
  have hx:(V.Yk (zOa (a ++ b)))[i]? = some ⟨k,1⟩:=by simp [V.Yk,hk]
  have hk0:0 <= k:=hkey k (List.mem_of_getElem? hk);unfold YZ;simp only [h1,cond_true,zH hx,zA,Vb a k hk0 ha ta,Vb b k hk0 hb tb,zB,zn (show i < 9223372036854775807 by omega)];have hl1:=hlenA k;have hl2:=hlenB k;rw [R.z8a _ _ (by omega),zB,zA,R.rmeet_eq _ _ (by omega),zB,zA,R.wFa _ _ (by omega),zB,zA];have hz:(cond (decide (how = 1)) (pure (R.uY (· && ·) (R.nrm (yB a k)) (R.nrm (yB b k)))) (pure (R.uY (· || ·) (R.nrm (yB a k)) (R.nrm (yB b k)))):M (List RN)).bind (fun z=>cond (decide (how = 2)) (pure (R.uY (fun x y=>x && !y) (R.nrm (yB a k)) (R.nrm (yB b k)))) (pure z)) = pure (R.uY op (yB a k) (yB b k)):=by
   rw [<- hop' k]
   by_cases h2:how = 2
   ·subst h2;have:op = fun x y=>x && !y:=by funext x y;rw [hop];simp
    rw [this];rfl
   ·by_cases h1:how = 1
    ·subst h1;have:op = fun x y=>x && y:=by funext x y;rw [hop];simp
     rw [this];rfl
    ·have:op = fun x y=>x || y:=by funext x y;rw [hop];simp [h1,h2]
     rw [this];simp [h1,h2,zA]
  rw [<- jG,hz,zA];have hsl:=(R.zd op h0 (yB a k) (yB b k)).2.2
  by_cases hz0:R.uY op (yB a k) (yB b k) = []
  ·rw [if_pos hz0];simp only [hz0,List.length_nil];exact ⟨rfl,by omega⟩
  ·rw [if_neg hz0];have:decide (0 < ((R.uY op (yB a k) (yB b k)).length:Int)) = true:=by
    have:=List.length_pos_iff.2 hz0;simp;omega
   rw [this,cond_true,zD (by simp;omega)];exact ⟨rfl,by simp;omega⟩) (fun t _=>by unfold YZ;rw [WA];simp [zA]) [] (by simp)
 rw [show ((0:Int),([]:List PT)) = (((0:Nat):Int),[]) from rfl,hgo,zA];have key:∀ (ks:List Int) (t:List PT),ks.foldl (fun t k=>if R.uY op (yB a k) (yB b k) = [] then t else t ++ [⟨k,R.uY op (yB a k) (yB b k)⟩]) t = t ++ zu (fun k=>R.uY op (yB a k) (yB b k)) ks:=by
  intro ks
  induction ks with
  | nil=>intro t;simp [zu]
  | cons k ks ih=>
   intro t;rw [List.foldl_cons,ih]
   by_cases h:R.uY op (yB a k) (yB b k) = []
   ·rw [if_pos h];simp [zu,h]
   ·rw [if_neg h];simp [zu,h]
 rw [key,List.nil_append];refine congrArg pure (UQ (UV _) (yl _) (fun _=>rfl) fun k hk=>?_);have hr:yB (a ++ b) k ≠ []:=fun e=>hk (by
  rw [WC] at e;have:=List.append_eq_nil_iff.1 e;rw [this.1,this.2];exact yBa h0)
 exact ⟨fun _=>uS hr,fun _=>yGa.2 (xR.1 (uS hr)).1⟩
structure Ok (c:List PT):Prop where
 dev:∀ p ∈ c,0 <= p.dev
 len:c.length <= 1000000000
 tot:xB c <= 1000000000
theorem Ok.sm {c:List PT} (h:Ok c):Sm c:=⟨by have:=h.len;omega,by have:=h.tot;omega⟩
section
variable (a b:List PT) (ha:Ok a) (hb:Ok b)
include ha hb
theorem wPa : Xa a b = pure (opC (fun x y=>x && !y) a b):=by
 unfold Xa;rw [Wb (fun x y=>x && !y) 2 (fun x y=>by simp) rfl a b ha.dev hb.dev ha.len hb.len ha.tot hb.tot,zB,zA]
theorem Wg : vX a b = pure (decide (opC (fun x y=>x && !y) a b = [])):=by
 unfold vX;rw [wPa a b ha hb,zB,zA];refine congrArg pure ?_
 cases opC (fun x y=>x && !y) a b with
 | nil=>rfl
 | cons p r=>simp;omega
end
theorem ok_nil : Ok []:=⟨fun p h=>by simp at h,by simp,by simp [xB]⟩
theorem opC_nil (c:List PT):opC (· || ·) c [] = zm c:=by rw [<- norm_or,List.append_nil]
theorem Vc (c:List PT) (h:Ok c):ZF c = pure (zm c):=by
 unfold ZF;rw [Wb (· || ·) 0 (fun x y=>by simp) rfl c [] h.dev ok_nil.dev h.len ok_nil.len h.tot ok_nil.tot,zB,zA,opC_nil]
theorem sm_norm {c:List PT} (h:Ok c):Sm (zm c):=⟨by have:=uB c;have:=h.len;omega,by have:=uC c;have:=h.tot;omega⟩
theorem yIa (a b:List PT) (ha:Ok a) (hb:Ok b):ZG a b = pure (decide (zm a = zm b)):=by
 unfold ZG;rw [Vc a ha,zB,zA,Vc b hb,zB,zA,rEq_sm _ _ (sm_norm ha),zB,zA]
theorem vS (c:List PT) (h:Ok c):vK c = pure (decide (c = zm c)):=by
 unfold vK;rw [Vc c h,zB,zA,rEq_sm _ _ h.sm,zB,zA]
theorem has_pos {c:List PT} {k n:Int} (h:xC c k n = true):0 < k /\ 1 <= n /\ n <= 281474976710655:=by
 refine ⟨Classical.byContradiction fun h0=>?_,R.jT h⟩;unfold xC at h;rw [WD h0] at h
 cases h
theorem Wh (c:List PT) (d:DT) (h:Ok c):Yx c d = pure (xC c d.dev d.n):=by
 unfold Yx;rw [V.vz,zB,zA]
 by_cases hg:V.yA d = true
 ·have h1:=V.vy.1 hg;rw [hg,cond_true,Vb c d.dev (by omega) h.len h.tot,zB,zA,R.zJa _ _ (by have:=R.wA (yB c d.dev);have:=yw c d.dev;have:=h.tot;omega),zB,zA,zA,R.xV]
  rfl
 ·have hg':V.yA d = false:=by simpa using hg
  rw [hg',cond_false,zA]
  cases hh:xC c d.dev d.n with
  | false=>rfl
  | true=>obtain ⟨h1,h2,h3⟩:=has_pos hh;exact absurd (V.vy.2 ⟨by omega,h2,h3⟩) hg
theorem Wi (c:List PT):Yu c = pure (decide (c.length <= 30) && c.all fun p=>decide (p.runs.length <= 30)):=by
 unfold Yu
 by_cases h0:30 < c.length
 ·have:decide ((30:Int) < (c.length:Int)) = true:=by simp;omega
  rw [this,cond_true];have:decide (c.length <= 30) = false:=by simp;omega
  rw [this];rfl
 ·have h1:decide ((30:Int) < (c.length:Int)) = false:=by simp;omega
  rw [h1,cond_false];have:=yd (body:=YG c) c (fun i=>(i:Int)) (fun i x=>decide (x.runs.length <= 30)) (.brk ()) (.ret false) (fun i x hx hi=>by
   have h2:decide ((i:Int) < (c.length:Int)) = true:=by simpa using hi
   unfold YG;simp only [h2,cond_true,zH hx,zA,xP,zn (show i < 9223372036854775807 by omega),decide_eq_true_eq]
   by_cases h3:x.runs.length <= 30
   ·rw [if_neg (by omega),if_pos h3]
   ·rw [if_pos (by omega),if_neg h3]) (by unfold YG;simp)
  rw [show (0:Int) = ((0:Nat):Int) from rfl,this];have hiff:(c.zipIdx.all fun y=>decide (y.1.runs.length <= 30)) = c.all fun p=>decide (p.runs.length <= 30):=by
   rw [Bool.eq_iff_iff,List.all_eq_true,List.all_eq_true]
   constructor
   ·intro h p hp;obtain ⟨i,hi⟩:=List.mem_iff_getElem?.1 hp;exact h (p,i) (List.mem_zipIdx_iff_getElem?.2 hi)
   ·intro h y hy;exact h _ (List.mem_of_getElem? (List.mem_zipIdx_iff_getElem?.1 hy))
  rw [hiff];have h4:decide (c.length <= 30) = true:=by simp;omega
  rw [h4,Bool.true_and]
  cases c.all fun p=>decide (p.runs.length <= 30) <;> rfl
theorem YB {c:List PT} (h:(decide (c.length <= 30) && c.all fun p=>decide (p.runs.length <= 30)) = true):c.length <= 30 /\ xB c <= 900:=by
 rw [Bool.and_eq_true,decide_eq_true_eq,List.all_eq_true] at h;refine ⟨h.1,?_⟩;have:∀ l:List PT,(∀ p ∈ l,decide (p.runs.length <= 30) = true) -> xB l <= l.length * 30:=by
  intro l
  induction l with
  | nil=>intro _;simp [xB]
  | cons p r ih=>
   intro hl;have e:xB (p :: r) = p.runs.length + xB r:=by simp [xB]
   have h1:=ih fun q hq=>hl q (by simp [hq])
   have h2:=hl p (by simp);simp only [decide_eq_true_eq] at h2;simp only [List.length_cons];omega
 have:=this c h.2;omega


theorem wQa {l:List DT} (h:l.length <= 400000000):Ok (zm (UT l)):=⟨fun p hp=>by have:=((vb (UT l)).nf p hp).1;omega,by have:=uB (UT l);have:=WF l;omega,by have:=uC (UT l);have:=dots_tot l;omega⟩
def uD (c:List PT) (k:Int):List PT:=zm [⟨k,R.nrm (yB c k)⟩]
theorem Only_eq (c:List PT) (k:Int) (h:Ok c):VH c k = pure (uD c k):=by
 unfold VH uD;have h1:=R.wA (yB c k);have h2:=yw c k;have h3:=h.tot;rw [wNa c k h.sm,zB,zA,zNa _ ⟨by simp,by simp [xB];omega⟩,zB,zA]
theorem QA (c:List PT) (k:Int):uD c k = if R.nrm (yB c k) = [] then [] else [⟨k,R.nrm (yB c k)⟩]:=by
 unfold uD
 by_cases h:R.nrm (yB c k) = []
 ·rw [if_pos h,h];refine jX (vb _) fun q n=>?_
  rw [up];unfold xC;rw [wv,WB]
  split <;> rfl
 ·rw [if_neg h];have h0:0 < k:=Classical.byContradiction fun h0=>h (by rw [WD h0];exact Wf)
  exact jW ⟨List.pairwise_singleton _ _,fun p hp=>by rw [List.mem_singleton] at hp;subst hp;exact ⟨h0,h,R.uo _⟩⟩
theorem yJa (c:List PT) (k:Int) (hk:0 <= k) (h:Ok c):ZH c k = pure (uD c k):=by
 unfold ZH;rw [Vb c k hk h.len h.tot,zB,zA,QA]
 cases R.nrm (yB c k) with
 | nil=>rfl
 | cons x r=>
  have:decide (((x :: r).length:Int) = 0) = false:=by simp;omega
  rw [this];simp
theorem yKa {c:List PT} (o:∀ p ∈ c,0 <= p.dev) (h:c.length <= 30 /\ xB c <= 900):Ok c:=⟨o,by omega,by omega⟩
end Go.Ep.M.C


/- Side texts. -/
import Derived.Test.YthldiocaakcolaaGreatDoorNOn3
import Derived.Test.YthldiocaakcolaaGreatDoorNOn8
set_option linter.unusedVariables false
set_option linter.unusedSimpArgs false
namespace Go.Ep.M.R
open Go

def YZ (x:RN):Bool:=decide (1 <= x.lo) && (decide (x.lo <= x.hi) && decide (x.hi <= 281474976710655))
theorem zc {x:RN}:YZ x = true ↔ 1 <= x.lo /\ x.lo <= x.hi /\ x.hi <= 281474976710655:=by simp [YZ]
def inR (n:Int) (x:RN):Bool:=YZ x && (decide (x.lo <= n) && decide (n <= x.hi))
theorem yl {n:Int} {x:RN}:inR n x = true ↔ (1 <= x.lo /\ x.lo <= x.hi /\ x.hi <= 281474976710655) /\ x.lo <= n /\ n <= x.hi:=by simp [inR,YZ]
def yC (l:List RN) (n:Int):Bool:=l.any (inR n)
theorem wP {l:List RN} {n:Int}:yC l n = true ↔ ∃ x ∈ l,YZ x = true /\ x.lo <= n /\ n <= x.hi:=by
 unfold yC;rw [List.any_eq_true];simp [inR]
@[simp] theorem qp (n:Int):yC [] n = false:=rfl
theorem xW (x:RN) (l:List RN) (n:Int):yC (x :: l) n = (inR n x || yC l n):=rfl
theorem uL (a b:List RN) (n:Int):yC (a ++ b) n = (yC a n || yC b n):=by simp [yC]
theorem vc (x:RN) (n:Int):yC [x] n = inR n x:=by simp [yC]
theorem vsa {a b:List RN} (h:a.Perm b) (n:Int):yC a n = yC b n:=by
 rw [Bool.eq_iff_iff,wP,wP];simp only [h.mem_iff]
theorem yca (l:List RN) (n:Int):yC (l.filter YZ) n = yC l n:=by
 rw [Bool.eq_iff_iff,wP,wP];simp only [List.mem_filter];exact ⟨fun ⟨x,⟨h1,_⟩,h3⟩=>⟨x,h1,h3⟩,fun ⟨x,h1,h2,h3⟩=>⟨x,⟨h1,h2⟩,h2,h3⟩⟩
theorem JS {l:List RN} {n:Int} (h:yC l n = true):1 <= n /\ n <= 281474976710655:=by
 obtain ⟨x,_,h2,h3,h4⟩:=wP.1 h;have:=zc.1 h2;omega

def Nf : List RN -> Prop
 | []=>True
 | x :: r=>YZ x = true /\ (∀ y ∈ r,x.hi + 1 < y.lo) /\ Nf r
theorem Nf.may {l:List RN} (h:Nf l):∀ x ∈ l,YZ x = true:=by
 induction l with
 | nil=>simp
 | cons y r ih=>
  intro x hx;rcases List.mem_cons.1 hx with rfl | hx
  ·exact h.1
  ·exact ih h.2.2 x hx
theorem YO {l:List RN} {z:RN}:Nf (l ++ [z]) ↔ Nf l /\ YZ z = true /\ ∀ p ∈ l,p.hi + 1 < z.lo:=by
 induction l with
 | nil=>simp [Nf]
 | cons x r ih=>
  simp only [List.cons_append,Nf,ih,List.mem_append,List.mem_cons,List.not_mem_nil,or_false]
  constructor
  ·rintro ⟨h1,h2,h3,h4,h5⟩;refine ⟨⟨h1,fun y hy=>h2 y (.inl hy),h3⟩,h4,fun p hp=>?_⟩;rcases hp with rfl | hp
   ·exact h2 z (.inr rfl)
   ·exact h5 p hp
  ·rintro ⟨⟨h1,h2,h3⟩,h4,h5⟩;refine ⟨h1,fun y hy=>?_,h3,h4,fun p hp=>h5 p (.inr hp)⟩;rcases hy with hy | rfl
   ·exact h2 y hy
   ·exact h5 x (.inl rfl)
theorem jM {x:RN} {r:List RN} (h:Nf (x :: r)) {n:Int} (hn:yC r n = true):x.hi + 1 < n:=by
 obtain ⟨y,h1,_,h3,_⟩:=wP.1 hn;have:=h.2.1 y h1;omega
theorem qq {x:RN} {r:List RN} (h:Nf (x :: r)):yC (x :: r) x.lo = true:=by
 rw [xW];have:=zc.1 h.1;rw [Bool.or_eq_true];exact .inl (yl.2 ⟨this,by omega,by omega⟩)
theorem qr {x:RN} {r:List RN} (h:Nf (x :: r)) {n:Int} (hn:yC (x :: r) n = true):x.lo <= n:=by
 rw [xW,Bool.or_eq_true] at hn;rcases hn with hn | hn
 ·exact (yl.1 hn).2.1
 ·have:=jM h hn;have:=zc.1 h.1;omega
theorem yda {x:RN} {r:List RN} (h:Nf (x :: r)) {n:Int} (h1:x.lo <= n):yC (x :: r) n = true ↔ n <= x.hi \/ yC r n = true:=by
 rw [xW,Bool.or_eq_true,yl];have:=zc.1 h.1
 constructor
 ·rintro (h2 | h2)
  ·exact .inl h2.2.2
  ·exact .inr h2
 ·rintro (h2 | h2)
  ·exact .inl ⟨this,h1,h2⟩
  ·exact .inr h2
theorem Ws : ∀ {a b:List RN},Nf a -> Nf b -> (∀ n,yC a n = yC b n) -> a = b
 | [],[],_,_,_=>rfl
 | [],y :: s,_,hb,h=>by have:=h y.lo;rw [qq hb] at this;simp at this
 | x :: r,[],ha,_,h=>by have:=h x.lo;rw [qq ha] at this;simp at this
 | x :: r,y :: s,ha,hb,h=>by
  have h1:x.lo = y.lo:=by
   have h2:=qr hb (by rw [<- h];exact qq ha);have h3:=qr ha (by rw [h];exact qq hb);omega
  have hx:=zc.1 ha.1;have hy:=zc.1 hb.1;have hle:∀ {x y:RN} {r s:List RN},Nf (x :: r) -> Nf (y :: s) -> (∀ n,yC (x :: r) n = yC (y :: s) n) -> x.lo = y.lo -> y.hi <= x.hi:=by
   intro x y r s ha hb h h1;have hx:=zc.1 ha.1;refine Classical.byContradiction fun hc=>?_
   have h2:yC (y :: s) (x.hi + 1) = true:=(yda hb (by omega)).2 (.inl (by omega));rw [<- h,yda ha (by omega)] at h2;rcases h2 with h2 | h2
   ·omega
   ·have:=jM ha h2;omega
  have h2:x.hi = y.hi:=by
   have:=hle ha hb h h1;have:=hle hb ha (fun n=>(h n).symm) h1.symm;omega
  have he:x = y:=by cases x;cases y;simp_all
  subst he;rw [Ws ha.2.2 hb.2.2 fun n=>?_];rw [Bool.eq_iff_iff];have h3:=h n
  constructor
  ·intro hn;have:=jM ha hn;have h4:yC (x :: r) n = true:=(yda ha (by omega)).2 (.inr hn);rw [h3,yda hb (by omega)] at h4;rcases h4 with h4 | h4
   ·omega
   ·exact h4
  ·intro hn;have:=jM hb hn;have h4:yC (x :: s) n = true:=(yda hb (by omega)).2 (.inr hn);rw [<- h3,yda ha (by omega)] at h4;rcases h4 with h4 | h4
   ·omega
   ·exact h4

def Wt (n:Int) (s:Bool × List Int) (x:Int):Bool × List Int:=
 let t:=if s.1 = false /\ n <= x then (true,s.2 ++ [n]) else s
 if x = n then t else (t.1,t.2 ++ [x])
def putP (l:List Int) (n:Int):List Int:=let t:=l.foldl (Wt n) (false,[]);if t.1 then t.2 else t.2 ++ [n]
abbrev Up (l:List Int):Prop:=l.Pairwise (· < ·)
theorem jN {l:List Int} {z:Int}:Up (l ++ [z]) ↔ Up l /\ ∀ p ∈ l,p < z:=by
 unfold Up;rw [List.pairwise_append];simp
theorem Wu (n:Int):∀ (l:List Int) (s:Bool × List Int),Up l -> Up s.2 -> (∀ p ∈ s.2,∀ x ∈ l,p < x \/ (p = n /\ s.1 = true /\ p <= x)) -> (s.1 = true -> n ∈ s.2) -> (s.1 = false -> ∀ p ∈ s.2,p < n) ->
  Up (l.foldl (Wt n) s).2 /\ (∀ m,m ∈ (l.foldl (Wt n) s).2 ↔ m ∈ s.2 \/ (m ∈ l /\ m ≠ n) \/ (m = n /\ (l.foldl (Wt n) s).1 = true)) /\ ((l.foldl (Wt n) s).1 = false -> ∀ p ∈ (l.foldl (Wt n) s).2,p < n) /\ (l.foldl (Wt n) s).2.length <= s.2.length + l.length + (if s.1 then 0 else 1) /\ ((l.foldl (Wt n) s).1 = false -> (l.foldl (Wt n) s).2.length <= s.2.length + l.length)
 | [],s,_,hs,_,h2,h3=>by
  refine ⟨hs,fun m=>?_,h3,by simp,by simp⟩;simp only [List.foldl_nil,List.not_mem_nil,false_and,false_or];exact ⟨fun h=>.inl h,fun h=>h.elim id fun ⟨e,h⟩=>e ▸ h2 h⟩
 | x :: r,(d,out),hl,hs,h1,h2,h3=>by
  rw [List.foldl_cons];have hl':=List.pairwise_cons.1 hl;simp only at hs h1 h2 h3
  by_cases hc:d = false /\ n <= x
  ·obtain ⟨rfl,hnx⟩:=hc
   by_cases hx:x = n
   ·have e:Wt n (false,out) x = (true,out ++ [n]):=by simp [Wt,hx]
    rw [e];obtain ⟨i1,i2,i3,i4,i5⟩:=Wu n r (true,out ++ [n]) hl'.2 (jN.2 ⟨hs,h3 rfl⟩) (fun p hp y hy=>by
     have:=hl'.1 y hy;rcases List.mem_append.1 hp with hp | hp
     ·have:=h3 rfl p hp;left;omega
     ·simp at hp;left;omega) (fun _=>by simp) (fun h=>by cases h)
    refine ⟨i1,fun m=>?_,i3,?_,?_⟩
    ·rw [i2];simp only [List.mem_append,List.mem_cons,List.not_mem_nil,or_false]
     constructor
     ·rintro ((h | h) | h | h)
      ·exact .inl h
      ·refine .inr (.inr ⟨h,?_⟩)
       cases hb:(r.foldl (Wt n) (true,out ++ [n])).1 with
       | true=>rfl
       | false=>have:=i3 hb n ((i2 n).2 (.inl (by simp)));omega
      ·exact .inr (.inl ⟨.inr h.1,h.2⟩)
      ·exact .inr (.inr h)
     ·rintro (h | ⟨h | h,h'⟩ | h)
      ·exact .inl (.inl h)
      ·exact absurd (h.trans hx) h'
      ·exact .inr (.inl ⟨h,h'⟩)
      ·exact .inr (.inr h)
    ·simp at i4 ⊢;omega
    ·intro hf;have:=i5 hf;simp at this ⊢;omega
   ·have e:Wt n (false,out) x = (true,out ++ [n] ++ [x]):=by simp [Wt,hx,hnx]
    rw [e];obtain ⟨i1,i2,i3,i4,i5⟩:=Wu n r (true,out ++ [n] ++ [x]) hl'.2 (jN.2 ⟨jN.2 ⟨hs,h3 rfl⟩,fun p hp=>by
     rcases List.mem_append.1 hp with hp | hp
     ·have:=h3 rfl p hp;omega
     ·simp at hp;omega⟩) (fun p hp y hy=>by
     have:=hl'.1 y hy;simp only [List.mem_append,List.mem_singleton] at hp;rcases hp with (hp | hp) | hp
     ·have:=h3 rfl p hp;left;omega
     ·left;omega
     ·left;omega) (fun _=>by simp) (fun h=>by cases h)
    refine ⟨i1,fun m=>?_,i3,?_,?_⟩
    ·rw [i2];simp only [List.mem_append,List.mem_cons,List.not_mem_nil,or_false]
     constructor
     ·rintro (((h | h) | h) | h | h)
      ·exact .inl h
      ·refine .inr (.inr ⟨h,?_⟩)
       cases hb:(r.foldl (Wt n) (true,out ++ [n] ++ [x])).1 with
       | true=>rfl
       | false=>have:=i3 hb n ((i2 n).2 (.inl (by simp)));omega
      ·exact .inr (.inl ⟨.inl h,fun e=>hx (h.symm.trans e)⟩)
      ·exact .inr (.inl ⟨.inr h.1,h.2⟩)
      ·exact .inr (.inr h)
     ·rintro (h | ⟨h | h,h'⟩ | h)
      ·exact .inl (.inl (.inl h))
      ·exact .inl (.inr h)
      ·exact .inr (.inl ⟨h,h'⟩)
      ·exact .inr (.inr h)
    ·simp at i4 ⊢;omega
    ·intro hf;have:=i5 hf;simp at this ⊢;exfalso;have:=i3 hf n ((i2 n).2 (.inl (by simp)));omega
  ·by_cases hx:x = n
   ·have hd:d = true:=by cases d with | true=>rfl | false=>exact absurd ⟨rfl,by omega⟩ hc
    subst hd;have e:Wt n (true,out) x = (true,out):=by simp [Wt,hx]
    rw [e];obtain ⟨i1,i2,i3,i4,i5⟩:=Wu n r (true,out) hl'.2 hs (fun p hp y hy=>h1 p hp y (List.mem_cons_of_mem _ hy)) h2 h3;refine ⟨i1,fun m=>?_,i3,?_,?_⟩
    ·rw [i2];simp only [List.mem_cons]
     constructor
     ·rintro (h | h | h)
      ·exact .inl h
      ·exact .inr (.inl ⟨.inr h.1,h.2⟩)
      ·exact .inr (.inr h)
     ·rintro (h | ⟨h | h,h'⟩ | h)
      ·exact .inl h
      ·exact absurd (h.trans hx) h'
      ·exact .inr (.inl ⟨h,h'⟩)
      ·exact .inr (.inr h)
    ·simp at i4 ⊢;omega
    ·intro hf;have:=i5 hf;simp at this ⊢;omega
   ·have e:Wt n (d,out) x = (d,out ++ [x]):=by
     unfold Wt;simp only [hc,if_false,hx]
    rw [e];have hlt:d = false -> x < n:=fun h=>by
     have:¬ n <= x:=fun h'=>hc ⟨h,h'⟩
     omega
    obtain ⟨i1,i2,i3,i4,i5⟩:=Wu n r (d,out ++ [x]) hl'.2 (jN.2 ⟨hs,fun p hp=>by
     rcases h1 p hp x (by simp) with h | h
     ·exact h
     ·omega⟩) (fun p hp y hy=>by
     rcases List.mem_append.1 hp with hp | hp
     ·exact h1 p hp y (List.mem_cons_of_mem _ hy)
     ·simp at hp;have:=hl'.1 y hy;left;omega) (fun h=>List.mem_append_left _ (h2 h)) (fun h p hp=>by
     rcases List.mem_append.1 hp with hp | hp
     ·exact h3 h p hp
     ·simp at hp;rw [hp];exact hlt h)
    refine ⟨i1,fun m=>?_,i3,?_,?_⟩
    ·rw [i2];simp only [List.mem_append,List.mem_cons,List.not_mem_nil,or_false]
     constructor
     ·rintro ((h | h) | h | h)
      ·exact .inl h
      ·exact .inr (.inl ⟨.inl h,fun e=>hx (h.symm.trans e)⟩)
      ·exact .inr (.inl ⟨.inr h.1,h.2⟩)
      ·exact .inr (.inr h)
     ·rintro (h | ⟨h | h,h'⟩ | h)
      ·exact .inl (.inl h)
      ·exact .inl (.inr h)
      ·exact .inr (.inl ⟨h,h'⟩)
      ·exact .inr (.inr h)
    ·simp at i4 ⊢;omega
    ·intro hf;have:=i5 hf;simp at this ⊢;omega
theorem Va {l:List Int} (h:Up l) (n:Int):Up (putP l n) /\ (∀ m,m ∈ putP l n ↔ m ∈ l \/ m = n) /\ (putP l n).length <= l.length + 1:=by
 obtain ⟨i1,i2,i3,i4,i5⟩:=Wu n l (false,[]) h (by simp [Up]) (by simp) (by simp) (by simp);unfold putP;simp only
 cases hb:(l.foldl (Wt n) (false,[])).1 with
 | true=>
  simp only [if_true];refine ⟨i1,fun m=>?_,by simpa using i4⟩;rw [i2,hb];simp only [List.not_mem_nil,false_or,and_true]
  constructor
  ·rintro (h | h)
   ·exact .inl h.1
   ·exact .inr h
  ·rintro (h | h)
   ·by_cases e:m = n
    ·exact .inr e
    ·exact .inl ⟨h,e⟩
   ·exact .inr h
 | false=>
  have:=i5 hb;rw [if_neg (by simp)];refine ⟨jN.2 ⟨i1,i3 hb⟩,fun m=>?_,by simp at this ⊢;omega⟩;simp only [List.mem_append,List.mem_singleton,i2,hb,List.not_mem_nil,false_or]
  constructor
  ·rintro ((h | h) | h)
   ·exact .inl h.1
   ·cases h.2
   ·exact .inr h
  ·rintro (h | h)
   ·by_cases e:m = n
    ·exact .inr e
    ·exact .inl (.inl ⟨h,e⟩)
   ·exact .inr h
def ptS (out:List Int) (x:RN):List Int:=if YZ x then putP (putP out x.lo) (x.hi + 1) else out
def qu (l:List RN):List Int:=l.foldl ptS []
theorem qv : ∀ (l:List RN) (out:List Int),Up out -> Up (l.foldl ptS out) /\ (∀ m,m ∈ l.foldl ptS out ↔ m ∈ out \/ ∃ x ∈ l,YZ x = true /\ (m = x.lo \/ m = x.hi + 1)) /\ (l.foldl ptS out).length <= out.length + 2 * l.length
 | [],out,h=>⟨h,fun m=>by simp,by simp⟩
 | x :: r,out,h=>by
  rw [List.foldl_cons];obtain ⟨j1,j2,j3⟩:=Va h x.lo;obtain ⟨k1,k2,k3⟩:=Va j1 (x.hi + 1)
  by_cases hm:YZ x = true
  ·have e:ptS out x = putP (putP out x.lo) (x.hi + 1):=by simp [ptS,hm]
   rw [e];obtain ⟨i1,i2,i3⟩:=qv r _ k1;refine ⟨i1,fun m=>?_,by simp;omega⟩;rw [i2,k2,j2]
   constructor
   ·rintro (((h | h) | h) | ⟨y,h1,h2⟩)
    ·exact .inl h
    ·exact .inr ⟨x,by simp,hm,.inl h⟩
    ·exact .inr ⟨x,by simp,hm,.inr h⟩
    ·exact .inr ⟨y,by simp [h1],h2⟩
   ·rintro (h | ⟨y,h1,h2,h3⟩)
    ·exact .inl (.inl (.inl h))
    ·rcases List.mem_cons.1 h1 with rfl | h1
     ·rcases h3 with h3 | h3
      ·exact .inl (.inl (.inr h3))
      ·exact .inl (.inr h3)
     ·exact .inr ⟨y,h1,h2,h3⟩
  ·have e:ptS out x = out:=by simp [ptS,hm]
   rw [e];obtain ⟨i1,i2,i3⟩:=qv r _ h;refine ⟨i1,fun m=>?_,by simp;omega⟩;rw [i2]
   constructor
   ·rintro (h | ⟨y,h1,h2⟩)
    ·exact .inl h
    ·exact .inr ⟨y,by simp [h1],h2⟩
   ·rintro (h | ⟨y,h1,h2,h3⟩)
    ·exact .inl h
    ·rcases List.mem_cons.1 h1 with rfl | h1
     ·exact absurd h2 hm
     ·exact .inr ⟨y,h1,h2,h3⟩
theorem JT (l:List RN):Up (qu l) /\ (∀ m,m ∈ qu l ↔ ∃ x ∈ l,YZ x = true /\ (m = x.lo \/ m = x.hi + 1)) /\ (qu l).length <= 2 * l.length:=by
 obtain ⟨h1,h2,h3⟩:=qv l [] (by simp [Up]);exact ⟨h1,fun m=>by rw [qu,h2];simp,by simpa [qu] using h3⟩

def xTa (out:List RN) (p:Int) (z:RN -> RN) (x:RN):List RN:=match out.getLast? with
 | some y=>if y.hi + 1 = p then out.dropLast ++ [z y] else out ++ [x]
 | none=>out ++ [x]
def xUa (op:Bool -> Bool -> Bool) (a b:List RN) (out:List RN) (pq:Int × Int):List RN:=
 if op (yC a pq.1) (yC b pq.1) then xTa out pq.1 (fun y=>⟨y.lo,pq.2 - 1⟩) ⟨pq.1,pq.2 - 1⟩ else out
def xl (l:List Int):List (Int × Int):=l.zip l.tail
def ZJ (op:Bool -> Bool -> Bool) (a b:List RN):List RN:=(xl (qu (a ++ b))).foldl (xUa op a b) []

theorem wZa (p:Int) (z:RN -> RN) (x:RN):xTa [] p z x = [x]:=rfl
theorem jO (l:List RN) (y:RN) (p:Int) (z:RN -> RN) (x:RN):xTa (l ++ [y]) p z x = if y.hi + 1 = p then l ++ [z y] else l ++ [y] ++ [x]:=by simp [xTa]
theorem yZ {α:Type} (l:List α):l = [] \/ ∃ r y,l = r ++ [y]:=by
 rcases List.eq_nil_or_concat l with h | ⟨r,y,h⟩
 ·exact .inl h
 ·exact .inr ⟨r,y,by simpa using h⟩

theorem qw (op:Bool -> Bool -> Bool) (a b:List RN):∀ (P:List Int) (p:Int) (out:List RN),Up (p :: P) -> (∀ q ∈ p :: P,1 <= q /\ q <= 281474976710656) -> Nf out -> (∀ y ∈ out,y.hi < p) ->
  Nf ((xl (p :: P)).foldl (xUa op a b) out) /\ (∀ n,yC ((xl (p :: P)).foldl (xUa op a b) out) n = true ↔ yC out n = true \/ ∃ pq ∈ xl (p :: P),pq.1 <= n /\ n < pq.2 /\ op (yC a pq.1) (yC b pq.1) = true) /\ ((xl (p :: P)).foldl (xUa op a b) out).length <= out.length + P.length
 | [],p,out,_,_,h,_=>by simp [xl,h]
 | q :: P,p,out,hu,hr,h,hy=>by
  have e:xl (p :: q :: P) = (p,q) :: xl (q :: P):=rfl;rw [e,List.foldl_cons];have hu':=List.pairwise_cons.1 hu;have hpq:p < q:=hu'.1 q (by simp);have hp:=hr p (by simp);have hq:=hr q (by simp);have step:Nf (xUa op a b out (p,q)) /\ (∀ n,yC (xUa op a b out (p,q)) n = true ↔ yC out n = true \/ (p <= n /\ n < q /\ op (yC a p) (yC b p) = true)) /\ (∀ y ∈ xUa op a b out (p,q),y.hi < q) /\ (xUa op a b out (p,q)).length <= out.length + 1:=by
   unfold xUa;simp only
   by_cases hop:op (yC a p) (yC b p) = true
   ·rw [if_pos hop];rcases yZ out with rfl | ⟨l,y,rfl⟩
    ·rw [wZa];have hm:YZ (⟨p,q - 1⟩:RN) = true:=zc.2 ⟨hp.1,by simp only;omega,by simp only;omega⟩;refine ⟨⟨hm,by simp,trivial⟩,fun n=>?_,fun y hy=>?_,by simp⟩
     ·rw [vc,yl];have:=zc.1 hm;simp only at this ⊢;simp only [qp,Bool.false_eq_true,false_or,hop,and_true];omega
     ·simp at hy;subst hy;simp only;omega
    ·rw [jO];obtain ⟨n1,n2,n3⟩:=YO.1 h;have hym:=zc.1 n2;have hyp:=hy y (by simp)
     by_cases hadj:y.hi + 1 = p
     ·rw [if_pos hadj];have hm:YZ (⟨y.lo,q - 1⟩:RN) = true:=zc.2 ⟨hym.1,by simp only;omega,by simp only;omega⟩;refine ⟨YO.2 ⟨n1,hm,n3⟩,fun n=>?_,fun z hz=>?_,by simp⟩
      ·rw [uL,uL,vc,vc,Bool.or_eq_true,Bool.or_eq_true,yl,yl];have:=zc.1 hm;simp only at this ⊢;simp only [hop,and_true]
       constructor
       ·rintro (h | h)
        ·exact .inl (.inl h)
        ·by_cases hc:n <= y.hi
         ·exact .inl (.inr ⟨hym,h.2.1,hc⟩)
         ·right;omega
       ·rintro ((h | h) | h)
        ·exact .inl h
        ·right;omega
        ·right;omega
      ·rcases List.mem_append.1 hz with hz | hz
       ·have:=hy z (by simp [hz]);omega
       ·simp at hz;subst hz;simp only;omega
     ·rw [if_neg hadj];have hm:YZ (⟨p,q - 1⟩:RN) = true:=zc.2 ⟨hp.1,by simp only;omega,by simp only;omega⟩;refine ⟨YO.2 ⟨h,hm,fun z hz=>?_⟩,fun n=>?_,fun z hz=>?_,by simp⟩
      ·simp only;rcases List.mem_append.1 hz with hz | hz
       ·have:=n3 z hz;omega
       ·simp at hz;subst hz;omega
      ·rw [uL (l ++ [y]),vc,Bool.or_eq_true,yl];have:=zc.1 hm;simp only at this ⊢;simp only [hop,and_true]
       constructor
       ·rintro (h | h)
        ·exact .inl h
        ·right;omega
       ·rintro (h | h)
        ·exact .inl h
        ·right;omega
      ·rcases List.mem_append.1 hz with hz | hz
       ·have:=hy z hz;omega
       ·simp at hz;subst hz;simp only;omega
   ·rw [if_neg hop];refine ⟨h,fun n=>?_,fun y hy'=>by have:=hy y hy';omega,by omega⟩;exact ⟨fun h=>.inl h,fun h=>h.elim id fun h=>absurd h.2.2 hop⟩
  obtain ⟨s1,s2,s3,s4⟩:=step;obtain ⟨i1,i2,i3⟩:=qw op a b P q _ hu'.2 (fun z hz=>hr z (List.mem_cons_of_mem _ hz)) s1 s3;refine ⟨i1,fun n=>?_,by simp;omega⟩;rw [i2,s2];simp only [List.mem_cons,exists_eq_or_imp]
  constructor
  ·rintro ((h | h) | h)
   ·exact .inl h
   ·exact .inr (.inl h)
   ·exact .inr (.inr h)
  ·rintro (h | h | h)
   ·exact .inl (.inl h)
   ·exact .inl (.inr h)
   ·exact .inr h

theorem Vb : ∀ {P:List Int},Up P -> ∀ pq ∈ xl P,pq.1 ∈ P /\ pq.2 ∈ P /\ pq.1 < pq.2 /\ ∀ m ∈ P,m <= pq.1 \/ pq.2 <= m
 | [],_,pq,h=>by simp [xl] at h
 | [p],_,pq,h=>by simp [xl] at h
 | p :: q :: P,hu,pq,h=>by
  have e:xl (p :: q :: P) = (p,q) :: xl (q :: P):=rfl;rw [e] at h;have hu':=List.pairwise_cons.1 hu;rcases List.mem_cons.1 h with rfl | h
  ·refine ⟨by simp,by simp,hu'.1 q (by simp),fun m hm=>?_⟩;rcases List.mem_cons.1 hm with rfl | hm
   ·simp
   ·right
    rcases List.mem_cons.1 hm with rfl | hm
    ·simp
    ·have:=(List.pairwise_cons.1 hu'.2).1 m hm;simp only;omega
  ·obtain ⟨h1,h2,h3,h4⟩:=Vb hu'.2 pq h;refine ⟨List.mem_cons_of_mem _ h1,List.mem_cons_of_mem _ h2,h3,fun m hm=>?_⟩;rcases List.mem_cons.1 hm with rfl | hm
   ·left;have:=hu'.1 _ h1;omega
   ·exact h4 m hm
theorem JU : ∀ {P:List Int},Up P -> ∀ {u v n:Int},u ∈ P -> v ∈ P -> u <= n -> n < v -> ∃ pq ∈ xl P,pq.1 <= n /\ n < pq.2
 | [],_,_,_,_,h,_,_,_=>by simp at h
 | [p],_,u,v,n,h1,h2,h3,h4=>by simp at h1 h2;omega
 | p :: q :: P,hu,u,v,n,h1,h2,h3,h4=>by
  have e:xl (p :: q :: P) = (p,q) :: xl (q :: P):=rfl;have hu':=List.pairwise_cons.1 hu
  by_cases hc:n < q
  ·refine ⟨(p,q),by rw [e];simp,?_,hc⟩;rcases List.mem_cons.1 h1 with rfl | h1
   ·exact h3
   ·have:q <= u:=by
     rcases List.mem_cons.1 h1 with rfl | h1
     ·omega
     ·have:=(List.pairwise_cons.1 hu'.2).1 u h1;omega
    simp only;omega
  ·have hv:v ∈ q :: P:=by
    rcases List.mem_cons.1 h2 with rfl | h2
    ·have:=hu'.1 q (by simp);omega
    ·exact h2
   obtain ⟨pq,h5,h6⟩:=JU hu'.2 (u:=q) (by simp) hv (by omega) h4;exact ⟨pq,by rw [e];exact List.mem_cons_of_mem _ h5,h6⟩
theorem vta (P:List Int):(xl P).length = P.length - 1:=by simp [xl]

theorem YP {l:List RN} {P:List Int} (hP:∀ x ∈ l,YZ x = true -> x.lo ∈ P /\ x.hi + 1 ∈ P) {p q n:Int} (h1:∀ m ∈ P,m <= p \/ q <= m) (h2:p <= n) (h3:n < q):yC l n = yC l p:=by
 rw [Bool.eq_iff_iff,wP,wP]
 constructor
 ·rintro ⟨x,hx,hm,h4,h5⟩;obtain ⟨h6,h7⟩:=hP x hx hm;have:=h1 _ h6;have:=h1 _ h7;exact ⟨x,hx,hm,by omega,by omega⟩
 ·rintro ⟨x,hx,hm,h4,h5⟩;obtain ⟨h6,h7⟩:=hP x hx hm;have:=h1 _ h6;have:=h1 _ h7;exact ⟨x,hx,hm,by omega,by omega⟩
theorem zl (op:Bool -> Bool -> Bool) (h0:op false false = false) (a b:List RN):Nf (ZJ op a b) /\ (∀ n,yC (ZJ op a b) n = op (yC a n) (yC b n)) /\ (ZJ op a b).length <= 2 * (a.length + b.length):=by
 obtain ⟨p1,p2,p3⟩:=JT (a ++ b);have hrange:∀ q ∈ qu (a ++ b),1 <= q /\ q <= 281474976710656:=fun q hq=>by
  obtain ⟨x,_,h2,h3⟩:=(p2 q).1 hq;have:=zc.1 h2;omega
 have main:Nf (ZJ op a b) /\ (∀ n,yC (ZJ op a b) n = true ↔ ∃ pq ∈ xl (qu (a ++ b)),pq.1 <= n /\ n < pq.2 /\ op (yC a pq.1) (yC b pq.1) = true) /\ (ZJ op a b).length <= (qu (a ++ b)).length:=by
  unfold ZJ
  generalize hP:qu (a ++ b) = P at p1 hrange
  cases P with
  | nil=>simp [xl,Nf]
  | cons p P=>
   obtain ⟨i1,i2,i3⟩:=qw op a b P p [] p1 hrange trivial (by simp);exact ⟨i1,fun n=>by rw [i2];simp,by simp at i3 ⊢;omega⟩
 obtain ⟨m1,m2,m3⟩:=main;refine ⟨m1,fun n=>?_,by simp at p3;omega⟩;have hPa:∀ x ∈ a,YZ x = true -> x.lo ∈ qu (a ++ b) /\ x.hi + 1 ∈ qu (a ++ b):=fun x hx hm=>⟨(p2 _).2 ⟨x,by simp [hx],hm,.inl rfl⟩,(p2 _).2 ⟨x,by simp [hx],hm,.inr rfl⟩⟩
 have hPb:∀ x ∈ b,YZ x = true -> x.lo ∈ qu (a ++ b) /\ x.hi + 1 ∈ qu (a ++ b):=fun x hx hm=>⟨(p2 _).2 ⟨x,by simp [hx],hm,.inl rfl⟩,(p2 _).2 ⟨x,by simp [hx],hm,.inr rfl⟩⟩
 rw [Bool.eq_iff_iff,m2]
 constructor
 ·rintro ⟨pq,h1,h2,h3,h4⟩;obtain ⟨_,_,_,h5⟩:=Vb p1 pq h1
  rwa [YP hPa h5 h2 h3,YP hPb h5 h2 h3]
 ·intro h;have hex:∃ u ∈ qu (a ++ b),∃ v ∈ qu (a ++ b),u <= n /\ n < v:=by
   cases ha:yC a n with
   | true=>
    obtain ⟨x,h1,h2,h3,h4⟩:=wP.1 ha;exact ⟨_,(hPa x h1 h2).1,_,(hPa x h1 h2).2,h3,by omega⟩
   | false=>
    cases hb:yC b n with
    | true=>
     obtain ⟨x,h1,h2,h3,h4⟩:=wP.1 hb;exact ⟨_,(hPb x h1 h2).1,_,(hPb x h1 h2).2,h3,by omega⟩
    | false=>rw [ha,hb,h0] at h;cases h
  obtain ⟨u,hu,v,hv,h1,h2⟩:=hex;obtain ⟨pq,h3,h4,h5⟩:=JU p1 hu hv h1 h2;obtain ⟨_,_,_,h6⟩:=Vb p1 pq h3;exact ⟨pq,h3,h4,h5,by rwa [<- YP hPa h6 h4 h5,<- YP hPb h6 h4 h5]⟩

def nrm (l:List RN):List RN:=ZJ (· || ·) l []
theorem Ze (l:List RN):Nf (nrm l):=(zl _ rfl l []).1
theorem wc (l:List RN) (n:Int):yC (nrm l) n = yC l n:=by rw [nrm,(zl _ rfl l []).2.1];simp
theorem vQ (l:List RN):(nrm l).length <= 2 * l.length:=by
 have:=(zl (· || ·) rfl l []).2.2;rw [List.length_nil,Nat.add_zero] at this;exact this
theorem nrm_of {l r:List RN} (h:Nf r) (h2:∀ n,yC r n = yC l n):r = nrm l:=Ws h (Ze l) fun n=>by rw [h2,wc]
theorem qx {l:List RN} (h:Nf l):nrm l = l:=(nrm_of h fun _=>rfl).symm


theorem vua (x y:RN):(decide (x.lo = y.lo) && decide (x.hi = y.hi)) = decide (x = y):=by
 rw [Bool.eq_iff_iff]
 cases x;cases y
 simp
theorem eqLoop {body:Int -> M (Step Int (Ex Unit Bool))} (a b:List RN) (hl:a.length = b.length) (hn:a.length <= 1000000000000)
  (hb:∀ i:Int,body i = cond (decide (i < (a.length:Int))) (M.bind (M.idx a i) fun x=>M.bind (M.idx b i) fun y=>cond (!(decide (x.lo = y.lo) && decide (x.hi = y.hi))) (M.pure (.done (.ret false))) (M.pure (.next (IntKind.i64.wrap (i + 1))))) (M.pure (.done (.brk ())))) :
  M.bind (M.loop body 0) (M.exk fun _=>M.pure true) = pure (decide (a = b)):=by
 have:=xU (body:=body) a (fun i=>(i:Int)) (fun i x=>decide (b[i]? = some x)) (.brk ()) (.ret false) (fun i x hx hi=>by
  have hb':i < b.length:=by omega
  rw [hb,zH hx,zH (List.getElem?_eq_getElem hb'),yN (by omega)];simp only [zA,List.getElem?_eq_getElem hb',Option.some.injEq,vua];have:decide ((i:Int) < (a.length:Int)) = true:=by simpa using hi
  rw [this,cond_true]
  by_cases he:b[i] = x
  ·subst he;simp
  ·rw [if_neg (by simpa using he)];have:decide (x = b[i]) = false:=by simpa using fun h=>he h.symm
   rw [this];rfl) (by rw [hb];simp)
 rw [show (0:Int) = ((0:Nat):Int) from rfl,this]
 by_cases he:a = b
 ·subst he;rw [if_pos]
  ·simp [zA,wV]
  ·rw [List.all_eq_true];intro ⟨x,i⟩ hx;rw [List.mk_mem_zipIdx_iff_getElem?] at hx;simpa using hx
 ·rw [if_neg]
  ·simp [he,zA,wn]
  ·intro hall;rw [List.all_eq_true] at hall;apply he;apply List.ext_getElem (by omega);intro i h1 h2;have:=hall (a[i],i) (by rw [List.mk_mem_zipIdx_iff_getElem?];exact List.getElem?_eq_getElem h1);simp [h2] at this;exact this.symm
theorem req_eq (a b:List RN) (h:a.length <= 1000000000000):vIa a b = pure (decide (a = b)):=by
 unfold vIa
 by_cases hl:(a.length:Int) = b.length
 ·simp only [hl,decide_true,Bool.not_true,cond_false];exact eqLoop a b (by omega) h fun i=>rfl
 ·have hne:a ≠ b:=fun e=>hl (by rw [e])
  simp [hl,hne]
theorem seq_eq (a b:List RN) (h:a.length <= 1000000000000):yL a b = pure (decide (a = b)):=by
 unfold yL
 by_cases hl:(a.length:Int) = b.length
 ·simp only [hl,decide_true,Bool.not_true,cond_false];exact eqLoop a b (by omega) h fun i=>rfl
 ·have hne:a ≠ b:=fun e=>hl (by rw [e])
  simp [hl,hne]

theorem vva (x:RN):Jy x = pure (YZ x):=by
 unfold Jy;rw [zW,zW,zA]
 rfl
theorem yea (l:List RN) (n:Int) (h:l.length <= 1000000000000):Uv l n = pure (yC l n):=by
 unfold Uv;have:=xU (body:=XR l n) l (fun i=>(i:Int)) (fun _ x=>!inR n x) (.brk ()) (.ret true) (fun i x hx hi=>by
  unfold XR;have h1:decide ((i:Int) < (l.length:Int)) = true:=by simpa using hi
  simp only [h1,cond_true,zH hx,zA,vva,zB,yN (show i < 9223372036854775807 by omega),zW];unfold inR
  cases YZ x <;> cases decide (x.lo <= n) <;> cases decide (n <= x.hi) <;> rfl) (by unfold XR;simp)
 rw [show (0:Int) = ((0:Nat):Int) from rfl,this,zA];have e:l.zipIdx.all (fun y=>!inR n y.1) = !yC l n:=by
  unfold yC;rw [Bool.eq_iff_iff];simp only [List.all_eq_true,Bool.not_eq_true',List.any_eq_false]
  constructor
  ·intro h x hx;obtain ⟨i,hi,he⟩:=List.getElem_of_mem hx;have:=h (x,i) (by rw [List.mk_mem_zipIdx_iff_getElem?];rw [List.getElem?_eq_getElem hi,he]);simpa using this
  ·intro h y hy;have:=List.fst_mem_of_mem_zipIdx hy;have:=h _ this;simpa using this
 simp only [e]
 cases yC l n <;> rfl
theorem vwa (l:List Int) (n:Int) (h:l.length <= 100000000000):Jz l n = pure (putP l n):=by
 unfold Jz;have:=Yu (body:=XS l n) l (fun i (t:Bool × List Int)=>(t.1,(i:Int),t.2)) (Wt n) (fun t=>pure t) (fun i t=>t.2.length <= 2 * i) (fun i x t hx hi hI=>by
  obtain ⟨d,out⟩:=t;simp only at hI;have h1:decide ((i:Int) < (l.length:Int)) = true:=by simpa using hi
  refine ⟨?_,?_⟩
  ·unfold XS Wt;simp only [h1,cond_true,zH hx,zA,yN (show i < 9223372036854775807 by omega)]
   cases d with
   | true=>
    by_cases hc:x = n
    ·simp [hc,zA]
    ·simp only [Bool.not_true,cond_false,zA,hc,decide_false,Bool.not_false,cond_true,if_false];rw [zC (by simp;omega)];simp [zA]
   | false=>
    by_cases hc1:n <= x
    ·simp only [Bool.not_false,cond_true,zA,hc1,decide_true];rw [zC (by simp;omega),zA]
     by_cases hc:x = n
     ·simp [hc,zA]
     ·simp only [hc,decide_false,Bool.not_false,cond_true];rw [zC (by simp;omega)];simp [zA]
    ·simp only [Bool.not_false,cond_true,zA,hc1,decide_false,cond_false];have hc:x ≠ n:=by omega
     simp only [hc,decide_false,Bool.not_false,cond_true];rw [zC (by simp;omega)];simp [zA]
  ·unfold Wt;simp only
   split <;> split <;> simp <;> omega) (fun t _=>by unfold XS;simp [zA]) (false,[]) (by simp)
 rw [show ((false,(0:Int),([]:List Int)):Bool × Int × List Int) = (false,((0:Nat):Int),[]) from rfl,this,zA];unfold putP;have hlen:(l.foldl (Wt n) (false,[])).2.length <= 2 * l.length:=by
  have:∀ (l:List Int) (s:Bool × List Int),(l.foldl (Wt n) s).2.length <= s.2.length + 2 * l.length:=by
   intro l
   induction l with
   | nil=>intro s;simp
   | cons x r ih=>
    intro s;rw [List.foldl_cons];have:=ih (Wt n s x);have h2:(Wt n s x).2.length <= s.2.length + 2:=by
     unfold Wt;simp only
     split <;> split <;> simp
    simp;omega
  simpa using this l (false,[])
 generalize l.foldl (Wt n) (false,[]) = t at hlen
 obtain ⟨d,out⟩:=t
 cases d with
 | true=>rfl
 | false=>
  simp only [Bool.not_false,cond_true];rw [zC (by simp at hlen ⊢;omega)]
  rfl
theorem rpts_eq (a b:List RN) (h:a.length + b.length <= 10000000000):VT a b = pure (qu (a ++ b)):=by
 unfold VT;rw [zC (by simp;omega),zC (by simp;omega)];have hup:∀ i,Up (((a ++ b).take i).foldl ptS []) /\ (((a ++ b).take i).foldl ptS []).length <= 2 * (a ++ b).length:=fun i=>by
  obtain ⟨h1,_,h3⟩:=qv ((a ++ b).take i) [] (by simp [Up]);refine ⟨h1,?_⟩;have:((a ++ b).take i).length <= (a ++ b).length:=by simp;omega
  simp only [List.length_nil,Nat.zero_add] at h3;omega
 have:=Yu (body:=uI a b) (a ++ b) (fun i (t:List Int)=>(t,(i:Int))) ptS (fun t=>pure t) (fun i t=>t = ((a ++ b).take i).foldl ptS []) (fun i x t hx hi hI=>by
  have h1:decide ((i:Int) < ((a ++ b).length:Int)) = true:=decide_eq_true (by omega);have hlen:(a ++ b).length <= 10000000000:=by simp;omega
  obtain ⟨u1,u2⟩:=hup i;rw [<- hI] at u1 u2;refine ⟨?_,?_⟩
  ·unfold uI ptS;simp only [List.nil_append,h1,cond_true,zH hx,zA,yN (show i < 9223372036854775807 by omega),vva,zB]
   cases hm:YZ x with
   | false=>simp [zA]
   | true=>
    have hm':=zc.1 hm;have hp:=Va u1 x.lo;rw [cond_true,vwa _ _ (by omega),zB,zA,WF (by omega) (by omega),vwa _ _ (by omega),zB];simp [zA]
  ·rw [List.take_add_one,hx];simp [hI]) (fun t _=>by unfold uI;simp [zA]) [] (by simp)
 rw [show (([]:List Int),(0:Int)) = ([],((0:Nat):Int)) from rfl,this];simp only [zA]
 rfl
theorem zVa {P:List Int} {i:Nat} {pq:Int × Int} (h:(xl P)[i]? = some pq):P[i]? = some pq.1 /\ P[i + 1]? = some pq.2:=by
 unfold xl at h;rw [List.getElem?_zip_eq_some] at h;obtain ⟨h1,h2⟩:=h;rw [List.getElem?_tail] at h2;exact ⟨h1,h2⟩
theorem Vc (op:Bool -> Bool -> Bool) (how:Int) (hop:∀ x y,op x y = if how = 2 then (x && !y) else if how = 1 then (x && y) else (x || y)) (_h0:op false false = false) (a b:List RN) (h:a.length + b.length <= 10000000000):Uw a b how = pure (ZJ op a b):=by
 unfold Uw;rw [rpts_eq a b h,zB,zA];obtain ⟨p1,p2,p3⟩:=JT (a ++ b);have hrange:∀ q ∈ qu (a ++ b),1 <= q /\ q <= 281474976710656:=fun q hq=>by
  obtain ⟨x,_,h2,h3⟩:=(p2 q).1 hq;have:=zc.1 h2;omega
 unfold ZJ
 generalize qu (a ++ b) = P at p1 hrange p3
 simp only [List.length_append] at p3;have hinv:∀ i,i <= (xl P).length -> Nf (((xl P).take i).foldl (xUa op a b) []) /\ (((xl P).take i).foldl (xUa op a b) []).length <= P.length:=fun i hi=>by
  cases P with
  | nil=>simp [xl,Nf]
  | cons p P=>
   have key:(xl (p :: P)).take i = xl (p :: P.take i):=by
    unfold xl;simp only [List.tail_cons];clear hi p1 hrange p3
    induction i generalizing p P with
    | zero=>simp
    | succ i ih=>
     cases P with
     | nil=>simp
     | cons q P=>
      simp only [List.zip_cons_cons,List.take_succ_cons];rw [ih q P]
   rw [key];have hsub:(p :: P.take i).Sublist (p :: P):=List.Sublist.cons_cons _ (List.take_sublist _ _);obtain ⟨i1,_,i3⟩:=qw op a b (P.take i) p [] (List.Pairwise.sublist hsub p1) (fun q hq=>hrange q (hsub.subset hq)) trivial (by simp);refine ⟨i1,?_⟩;simp at i3 ⊢;omega
 have:=Yu (body:=XT P a b how) (xl P) (fun i (t:List RN)=>((i:Int),t)) (xUa op a b) (fun t=>pure t) (fun i t=>i <= (xl P).length /\ t = ((xl P).take i).foldl (xUa op a b) []) (fun i pq t hx hi hI=>by
  obtain ⟨hI1,hI⟩:=hI;obtain ⟨g1,g2⟩:=zVa hx;have hlt:i + 1 < P.length:=(List.getElem?_eq_some_iff.1 g2).1;have hPl:P.length <= 20000000000:=by omega
  have h1:decide (((i + 1:Nat):Int) < (P.length:Int)) = true:=by rw [decide_eq_true_eq];omega
  obtain ⟨v1,v2⟩:=hinv i hI1;rw [<- hI] at v1 v2;refine ⟨?_,by omega,by rw [List.take_add_one,hx];simp [hI]⟩;unfold XT xUa;have e2:idx P ((i + 1:Nat):Int) = pure pq.2:=zH g2;have hq:=hrange pq.2 (List.mem_of_getElem? g2);simp only [yN (show i < 9223372036854775807 by omega),h1,cond_true,zH g1,e2,zA,yea a pq.1 (by omega),yea b pq.1 (by omega),zB];rw [hop];have hin:∀ (x y:Bool),(M.bind (cond x (M.pure true) (M.pure y)) fun in97=>M.bind (cond (decide (how = 1)) (M.bind (cond x (M.pure y) (M.pure false)) fun in101=>M.pure in101) (M.pure in97)) fun in99=>cond (decide (how = 2)) (M.bind (cond x (M.pure (!y)) (M.pure false)) fun in105=>M.pure in105) (M.pure in99)) = pure (if how = 2 then (x && !y) else if how = 1 then (x && y) else (x || y)):=by
   intro x y
   by_cases c2:how = 2
   ·subst c2;cases x <;> cases y <;> rfl
   ·by_cases c1:how = 1
    ·subst c1;cases x <;> cases y <;> rfl
    ·simp only [c1,c2,decide_false,cond_false,if_false]
     cases x <;> cases y <;> rfl
  have hin':=hin (yC a pq.1) (yC b pq.1)
  generalize (if how = 2 then (yC a pq.1 && !yC b pq.1) else if how = 1 then (yC a pq.1 && yC b pq.1) else (yC a pq.1 || yC b pq.1)) = inn at hin'
  -- the three steps are one
  have assoc:∀ (K:Bool -> M (List RN)),(M.bind (cond (yC a pq.1) (M.pure true) (M.pure (yC b pq.1))) fun in97=>M.bind (cond (decide (how = 1)) (M.bind (cond (yC a pq.1) (M.pure (yC b pq.1)) (M.pure false)) fun in101=>M.pure in101) (M.pure in97)) fun in99=>M.bind (cond (decide (how = 2)) (M.bind (cond (yC a pq.1) (M.pure (!yC b pq.1)) (M.pure false)) fun in105=>M.pure in105) (M.pure in99)) K) = K inn:=by
   intro K;have:=congrArg (fun m=>M.bind m K) hin';exact this
  rw [assoc]
  cases inn with
  | false=>rfl
  | true=>
   simp only [cond_true,if_true];rcases yZ t with rfl | ⟨l,y,rfl⟩
   ·have e:decide ((0:Int) <= IntKind.i64.wrap (((([]:List RN).length:Nat):Int) - 1)) = false:=by
     rw [Yt (by simp) (by simp)];simp
    rw [e];simp only [cond_false,zA];rw [zC (by simp),WF (by omega) (by omega)]
    rfl
   ·have hy:=(YO.1 v1).2.1;have hym:=zc.1 hy;have e0:IntKind.i64.wrap ((((l ++ [y]).length:Nat):Int) - 1) = (l.length:Int):=by
     simp only [List.length_append,List.length_singleton] at v2 ⊢;rw [Yt (by omega) (by omega)];omega
    have e1:idx (l ++ [y]) (l.length:Int) = pure y:=zH (by simp);have e3:decide ((0:Int) <= (l.length:Int)) = true:=by simp
    rw [e0,e3];simp only [cond_true,e1,zA,WF (show 0 <= y.hi + 1 by omega) (by omega),WF (show 0 <= pq.2 - 1 by omega) (by omega)];rw [jO]
    by_cases hc:y.hi + 1 = pq.1
    ·simp only [hc,decide_true,cond_true,if_true,Int.toNat_natCast];have:(l ++ [y]).set l.length (⟨y.lo,pq.2 - 1⟩:RN) = l ++ [⟨y.lo,pq.2 - 1⟩]:=by simp
     rw [this]
     rfl
    ·simp only [hc,decide_false,cond_false,if_false];rw [zC (by simp only [List.length_append,List.length_singleton] at v2 ⊢;omega)]
     rfl) (fun t _=>by
  unfold XT;have e:decide (IntKind.i64.wrap (((xl P).length:Int) + 1) < (P.length:Int)) = false:=by
   rw [vta,Yt (by omega) (by omega)];simp;omega
  simp only [e,cond_false,zA]) [] ⟨Nat.zero_le _,by simp⟩
 rw [show ((0:Int),([]:List RN)) = (((0:Nat):Int),[]) from rfl,this];simp only [zA]

theorem xVa (a b:List RN) (h:a.length + b.length <= 10000000000):UL a b = pure (ZJ (· || ·) a b):=by
 unfold UL;rw [Vc (· || ·) 0 (fun x y=>by simp) rfl a b h,zB,zA]
theorem rmeet_eq (a b:List RN) (h:a.length + b.length <= 10000000000):qB a b = pure (ZJ (· && ·) a b):=by
 unfold qB;rw [Vc (· && ·) 1 (fun x y=>by simp) rfl a b h,zB,zA]
theorem vxa (a b:List RN) (h:a.length + b.length <= 10000000000):Ux a b = pure (ZJ (fun x y=>x && !y) a b):=by
 unfold Ux;rw [Vc (fun x y=>x && !y) 2 (fun x y=>by simp) rfl a b h,zB,zA]

def zWa (out:List RN) (x:RN):List RN:=match out.getLast? with
 | some y=>if x.lo <= y.hi + 1 then out.dropLast ++ [⟨y.lo,max y.hi x.hi⟩] else out ++ [x]
 | none=>out ++ [x]
theorem qy (x:RN):zWa [] x = [x]:=rfl
theorem jP (l:List RN) (y x:RN):zWa (l ++ [y]) x = if x.lo <= y.hi + 1 then l ++ [⟨y.lo,max y.hi x.hi⟩] else l ++ [y] ++ [x]:=by simp [zWa]
theorem waa {out:List RN} {x:RN} (h:Nf out) (hx:YZ x = true) (hlo:∀ y ∈ out,y.lo <= x.lo):Nf (zWa out x) /\ (∀ n,yC (zWa out x) n = (yC out n || inR n x)) /\ (∀ y ∈ zWa out x,y.lo <= x.lo) /\ (zWa out x).length <= out.length + 1:=by
 have hxm:=zc.1 hx;rcases yZ out with rfl | ⟨l,y,rfl⟩
 ·rw [qy];exact ⟨⟨hx,by simp,trivial⟩,fun n=>by rw [vc];simp,by simp,by simp⟩
 ·rw [jP];obtain ⟨n1,n2,n3⟩:=YO.1 h;have hym:=zc.1 n2;have hyx:=hlo y (by simp)
  by_cases hc:x.lo <= y.hi + 1
  ·rw [if_pos hc];have hm:YZ (⟨y.lo,max y.hi x.hi⟩:RN) = true:=zc.2 ⟨hym.1,by simp only;omega,by simp only;omega⟩;refine ⟨YO.2 ⟨n1,hm,n3⟩,fun n=>?_,fun z hz=>?_,by simp⟩
   ·rw [uL,uL,vc,vc,Bool.or_assoc]
    congr 1
    rw [Bool.eq_iff_iff,Bool.or_eq_true,yl,yl,yl];have:=zc.1 hm;simp only at this ⊢;omega
   ·rcases List.mem_append.1 hz with hz | hz
    ·exact hlo z (by simp [hz])
    ·simp at hz;subst hz;exact hyx
  ·rw [if_neg hc];refine ⟨YO.2 ⟨h,hx,fun z hz=>?_⟩,fun n=>by rw [uL (l ++ [y]),vc],fun z hz=>?_,by simp⟩
   ·rcases List.mem_append.1 hz with hz | hz
    ·have:=n3 z hz;omega
    ·simp at hz;subst hz;omega
   ·rcases List.mem_append.1 hz with hz | hz
    ·exact hlo z hz
    ·simp at hz;subst hz;exact Int.le_refl _
theorem jQ : ∀ (s out:List RN),Nf out -> (∀ x ∈ s,YZ x = true) -> s.Pairwise (fun x y=>x.lo <= y.lo) -> (∀ y ∈ out,∀ x ∈ s,y.lo <= x.lo) -> Nf (s.foldl zWa out) /\ (∀ n,yC (s.foldl zWa out) n = (yC out n || yC s n)) /\ (s.foldl zWa out).length <= out.length + s.length
 | [],out,h,_,_,_=>⟨h,by simp,by simp⟩
 | x :: r,out,h,hm,hp,hlo=>by
  obtain ⟨a1,a2,a3,a4⟩:=waa h (hm x (by simp)) fun y hy=>hlo y hy x (by simp)
  obtain ⟨p1,p2⟩:=List.pairwise_cons.1 hp;obtain ⟨i1,i2,i3⟩:=jQ r _ a1 (fun y hy=>hm y (List.mem_cons_of_mem _ hy)) p2 fun y hy z hz=>by
   have:=a3 y hy;have:=p1 z hz;omega
  refine ⟨i1,fun n=>?_,by simp;omega⟩;rw [List.foldl_cons,i2,a2,xW,Bool.or_assoc]

theorem vya {l:List RN} {Q:List RN -> Prop} (h:∀ s,s.Perm l -> s.Pairwise (fun x y=>x.lo <= y.lo) -> Q s):(srt jy l).wp Q:=by
 refine ⟨⟨l.mergeSort (fun x y=>decide (x.lo <= y.lo)),List.mergeSort_perm _ _,?_⟩,fun s ⟨h1,h2⟩=>h s h1 (h2.imp fun {x y} h=>?_)⟩
 ·refine (List.pairwise_mergeSort (fun a b c h1 h2=>?_) (fun a b=>?_) l).imp fun {x y} h=>?_
  ·simp only [decide_eq_true_eq] at h1 h2 ⊢;omega
  ·simp only [Bool.or_eq_true,decide_eq_true_eq];omega
  ·simp only [decide_eq_true_eq] at h;unfold jy;simp only [decide_eq_false_iff_not];omega
 ·unfold jy at h;simp only [decide_eq_false_iff_not] at h;omega
theorem Vd (l:List RN) (h:l.length <= 1000000000000):xM l = pure (nrm l):=by
 unfold xM;have h1:=Yu (body:=vh l) l (fun i (t:List RN)=>((i:Int),t)) (fun t x=>if YZ x then t ++ [x] else t) (fun t=>pure t) (fun i t=>t.length <= i) (fun i x t hx hi hI=>by
  have h1:decide ((i:Int) < (l.length:Int)) = true:=by simpa using hi
  refine ⟨?_,by split <;> (try simp only [List.length_append,List.length_singleton]) <;> omega⟩;unfold vh;simp only [h1,cond_true,zH hx,zA,yN (show i < 9223372036854775807 by omega)];have e:(cond (decide (0 < x.lo)) (cond (decide (x.lo <= x.hi)) (M.pure (decide (x.hi <= 281474976710655))) (M.pure false)) (M.pure false):M Bool) = pure (YZ x):=by
   rw [zW,zW];refine congrArg pure ?_;rw [Bool.eq_iff_iff,zc];simp only [Bool.and_eq_true,decide_eq_true_eq];omega
  rw [e,zA]
  cases hm:YZ x with
  | false=>simp [zA]
  | true=>
   rw [cond_true,zC (by simp;omega)];simp [zA]) (fun t _=>by unfold vh;simp [zA]) [] (by simp)
 have hf:∀ (l t:List RN),l.foldl (fun t x=>if YZ x then t ++ [x] else t) t = t ++ l.filter YZ:=by
  intro l
  induction l with
  | nil=>simp
  | cons x r ih=>
   intro t;rw [List.foldl_cons,ih]
   cases hm:YZ x <;> simp [hm]
 rw [hf,List.nil_append] at h1;have h1':loop (vh l) (0,[]) = pure (l.filter YZ):=h1;have hfl:(l.filter YZ).length <= l.length:=List.length_filter_le _ _;rw [h1',zA,zC (by omega)];refine Zq (vya fun s hs hp=>?_);have hsl:=hs.length_eq;have hmay:∀ x ∈ s,YZ x = true:=fun x hx=>(List.mem_filter.1 (hs.mem_iff.1 hx)).2
 have hpre:∀ i,Nf ((s.take i).foldl zWa []) /\ ((s.take i).foldl zWa []).length <= i /\ ∀ x,s[i]? = some x -> ∀ y ∈ (s.take i).foldl zWa [],y.lo <= x.lo:=fun i=>by
  obtain ⟨i1,i2,i3⟩:=jQ (s.take i) [] trivial (fun x hx=>hmay x (List.mem_of_mem_take hx)) (List.Pairwise.sublist (List.take_sublist _ _) hp) (by simp);refine ⟨i1,by simp at i3;omega,fun x hx y hy=>?_⟩;have hmy:=zc.1 (i1.may y hy);have:yC ((s.take i).foldl zWa []) y.lo = true:=wP.2 ⟨y,hy,i1.may y hy,by omega,by omega⟩;rw [i2] at this;simp only [qp,Bool.false_or] at this;obtain ⟨z,hz,_,h3,_⟩:=wP.1 this
  -- z is ahead of x; y begins where one of those ahead begins
  have hall:∀ (s out:List RN),(∀ y ∈ s.foldl zWa out,(∃ z ∈ out,y.lo = z.lo) \/ ∃ z ∈ s,y.lo = z.lo):=by
   intro s
   induction s with
   | nil=>intro out y hy;exact .inl ⟨y,hy,rfl⟩
   | cons a r ih=>
    intro out y hy;rcases ih _ y hy with ⟨z,hz,e⟩ | ⟨z,hz,e⟩
    ·rcases yZ out with rfl | ⟨q,w,rfl⟩
     ·rw [qy] at hz;simp at hz;subst hz;exact .inr ⟨z,by simp,e⟩
     ·rw [jP] at hz
      split at hz
      ·rcases List.mem_append.1 hz with hz | hz
       ·exact .inl ⟨z,by simp [hz],e⟩
       ·simp at hz;subst hz;exact .inl ⟨w,by simp,e⟩
      ·rcases List.mem_append.1 hz with hz | hz
       ·exact .inl ⟨z,hz,e⟩
       ·simp at hz;subst hz;exact .inr ⟨z,by simp,e⟩
    ·exact .inr ⟨z,by simp [hz],e⟩
  rcases hall _ _ y hy with ⟨z,hz,_⟩ | ⟨z,hz,e⟩
  ·simp at hz
  ·obtain ⟨j,hj,hje⟩:=List.getElem_of_mem hz;have hlt:=(List.getElem?_eq_some_iff.1 hx).1;have hji:j < i:=by simp at hj;omega
   have:=List.pairwise_iff_getElem.1 hp j i (by omega) hlt hji;rw [List.getElem_take] at hje;have hxe:s[i] = x:=by rw [List.getElem?_eq_getElem hlt] at hx;simpa using hx
   rw [hje,hxe] at this;omega
 have h2:=Yu (body:=vi (l.filter YZ) s) s (fun i (t:List RN)=>((i:Int),t)) zWa (fun t=>pure t) (fun i t=>t = (s.take i).foldl zWa []) (fun i x t hx hi hI=>by
  obtain ⟨v1,v2,v3⟩:=hpre i;have v3:=v3 x hx;rw [<- hI] at v1 v2 v3;have hxm:=zc.1 (hmay x (List.mem_of_getElem? hx));have h1:decide ((i:Int) < ((l.filter YZ).length:Int)) = true:=by simp;omega
  refine ⟨?_,by rw [List.take_add_one,hx];simp [hI]⟩;unfold vi;simp only [h1,cond_true,zH hx,zA,yN (show i < 9223372036854775807 by omega)];rcases yZ t with rfl | ⟨q,y,rfl⟩
  ·have e:decide ((0:Int) <= IntKind.i64.wrap (((([]:List RN).length:Nat):Int) - 1)) = false:=by
    rw [Yt (by simp) (by simp)];simp
   rw [e];simp only [cond_false,zA];rw [zC (by simp),qy]
   rfl
  ·have hy:=(YO.1 v1).2.1;have hym:=zc.1 hy;have e0:IntKind.i64.wrap ((((q ++ [y]).length:Nat):Int) - 1) = (q.length:Int):=by
    simp only [List.length_append,List.length_singleton] at v2 ⊢;rw [Yt (by omega) (by omega)];omega
   have e1:idx (q ++ [y]) (q.length:Int) = pure y:=zH (by simp);have e3:decide ((0:Int) <= (q.length:Int)) = true:=by simp
   rw [e0,e3];simp only [cond_true,e1,zA,WF (show 0 <= y.hi + 1 by omega) (by omega)];rw [jP]
   by_cases hc:x.lo <= y.hi + 1
   ·simp only [hc,decide_true,cond_true,if_true,Int.toNat_natCast];have:(q ++ [y]).set q.length (⟨y.lo,max y.hi x.hi⟩:RN) = q ++ [⟨y.lo,max y.hi x.hi⟩]:=by simp
    rw [this]
    rfl
   ·simp only [hc,decide_false,cond_false,if_false];rw [zC (by simp only [List.length_append,List.length_singleton] at v2 ⊢;omega)]
    rfl) (fun t _=>by
  unfold vi;have e:decide ((s.length:Int) < ((l.filter YZ).length:Int)) = false:=by simp;omega
  simp only [e,cond_false,zA]) [] (by simp)
 show (M.bind (M.loop (vi (l.filter YZ) s) (0,[])) fun out38=>M.pure out38).wp (· = nrm l);rw [show ((0:Int),([]:List RN)) = (((0:Nat):Int),[]) from rfl,h2];obtain ⟨i1,i2,_⟩:=jQ s [] trivial hmay hp (by simp);exact nrm_of i1 fun n=>by rw [i2,vsa hs,yca];simp
def Xi (nums:List Int):List RN:=nums.map fun n=>⟨n,n⟩
def vza (x y:Int):Int:=if x < y then -1 else if y < x then 1 else 0
theorem v0a (x y:Int):ye x y = pure (vza x y):=by
 unfold ye wG vza;simp only [decide_true,Bool.not_true,zB,zA,cond_false,vC]
 split
 ·rfl
 ·split <;> rfl
theorem v1a (x:RN) (n:Int):uY x n = pure (vza x.hi n):=by
 unfold uY;rw [v0a,zB,zA]
def qz : List RN -> Int -> Nat
 | [],_=>0
 | x :: r,n=>if x.hi < n then qz r n + 1 else 0
theorem zXa : ∀ {v:List RN} {n:Int} {c:Nat},c <= v.length -> (∀ (k:Nat) (x:RN),k < c -> v[k]? = some x -> x.hi < n) -> (∀ (k:Nat) (x:RN),c <= k -> v[k]? = some x -> n <= x.hi) -> c = qz v n
 | [],n,c,h,_,_=>by simp at h;simp [qz,h]
 | x :: r,n,0,_,_,h2=>by
  have:=h2 0 x (by omega) rfl;simp only [qz];rw [if_neg (by omega)]
 | x :: r,n,c + 1,h,h1,h2=>by
  have:=h1 0 x (by omega) rfl;simp only [qz];rw [if_pos this,<- zXa (v:=r) (n:=n) (c:=c) (by simpa using h) (fun k y hk hy=>h1 (k + 1) y (by omega) (by simpa using hy)) (fun k y hk hy=>h2 (k + 1) y (by omega) (by simpa using hy))]
theorem v2a {v:List RN} (h:Nf v):∀ {i j:Nat} {x y:RN},i < j -> v[i]? = some x -> v[j]? = some y -> x.hi < y.hi:=by
 induction v with
 | nil=>intro i j x y _ hx;simp at hx
 | cons z r ih=>
  intro i j x y hij hx hy
  cases j with
  | zero=>omega
  | succ j=>
   have hyr:r[j]? = some y:=by simpa using hy
   have hym:=List.mem_of_getElem? hyr
   cases i with
   | zero=>
    simp at hx;subst hx;have:=h.2.1 y hym;have:=zc.1 (h.2.2.may y hym);omega
   | succ i=>exact ih h.2.2 (show i < j by omega) (by simpa using hx) hyr
theorem bs_loop (v:List RN) (n:Int) (hv:Nf v) (hl:v.length <= 1000000000000):loop (zU v n) (0,(v.length:Int)) = pure (qz v n:Int):=by
 refine Zq (xBa (fun s=>∃ i j:Nat,s = ((i:Int),(j:Int)) /\ i <= j /\ j <= v.length /\ (∀ (k:Nat) (x:RN),k < i -> v[k]? = some x -> x.hi < n) /\ (∀ (k:Nat) (x:RN),j <= k -> v[k]? = some x -> n <= x.hi)) (fun s=>(s.2 - s.1).toNat) ?_ _ ⟨0,v.length,rfl,Nat.zero_le _,Nat.le_refl _,fun k x hk=>absurd hk (Nat.not_lt_zero _),fun k x hk hx=>absurd (List.getElem?_eq_some_iff.1 hx).1 (Nat.not_lt.2 hk)⟩);rintro _ ⟨i,j,rfl,hij,hj,h1,h2⟩;unfold zU;simp only [vC]
 by_cases hc:(i:Int) < j
 ·rw [if_pos hc];have e:IntKind.i64.wrap (Int.fdiv (IntKind.u64.wrap (IntKind.i64.wrap ((i:Int) + j))) (2 ^ 1)) = (((i + j) / 2:Nat):Int):=by
   rw [Yt (n:=(i:Int) + j) (by omega) (by omega),WF (by omega) (by omega),Int.fdiv_eq_ediv_of_nonneg _ (by decide)];have:((i:Int) + j) / 2 ^ 1 = (((i + j) / 2:Nat):Int):=by omega
   rw [this,Yt (by omega) (by omega)]
  have hm:(i + j) / 2 < v.length:=by omega
  rw [e];simp only [zH (List.getElem?_eq_getElem hm),zA,v1a,zB,yN (show (i + j) / 2 < 9223372036854775807 by omega)]
  by_cases hlt:v[(i + j) / 2].hi < n
  ·have:vza v[(i + j) / 2].hi n < 0:=by unfold vza;rw [if_pos hlt];decide
   rw [if_pos this];refine ⟨⟨(i + j) / 2 + 1,j,rfl,by omega,hj,fun k x hk hx=>?_,h2⟩,?_⟩
   ·by_cases e:k = (i + j) / 2
    ·subst e;rw [List.getElem?_eq_getElem hm] at hx;cases hx;exact hlt
    ·have:=v2a hv (show k < (i + j) / 2 by omega) hx (List.getElem?_eq_getElem hm);omega
   ·simp only;omega
  ·have:¬ vza v[(i + j) / 2].hi n < 0:=by unfold vza;rw [if_neg hlt];split <;> decide
   rw [if_neg this];refine ⟨⟨i,(i + j) / 2,rfl,by omega,by omega,h1,fun k x hk hx=>?_⟩,?_⟩
   ·by_cases e:k = (i + j) / 2
    ·subst e;rw [List.getElem?_eq_getElem hm] at hx;cases hx;omega
    ·have:=v2a hv (show (i + j) / 2 < k by omega) (List.getElem?_eq_getElem hm) hx;omega
   ·simp only;omega
 ·rw [if_neg hc];have hij':i = j:=by omega
  subst hij';show (i:Int) = (qz v n:Int)
  rw [<- zXa hj h1 h2]
def hitB (v:List RN) (n:Int):Bool:=match v[qz v n]? with | some x=>decide (vza x.hi n = 0) | none=>false
theorem bs_eq (v:List RN) (n:Int) (hv:Nf v) (hl:v.length <= 1000000000000):zL v n = pure ((qz v n:Int),hitB v n):=by
 unfold zL hitB;rw [bs_loop v n hv hl,zA]
 by_cases hc:qz v n < v.length
 ·have:decide ((qz v n:Int) < (v.length:Int)) = true:=by simpa using hc
  rw [this,cond_true,zH (List.getElem?_eq_getElem hc)];simp only [zA,v1a,zB,List.getElem?_eq_getElem hc]
 ·have:decide ((qz v n:Int) < (v.length:Int)) = false:=by simpa using hc
  rw [this,cond_false,zA,List.getElem?_eq_none (by omega)]
theorem xWa : ∀ {v:List RN} (n:Int),Nf v -> yC v n = (match v[qz v n]? with | some x=>decide (x.lo <= n) | none=>false)
 | [],n,_=>rfl
 | x :: r,n,h=>by
  by_cases hc:x.hi < n
  ·simp only [qz,if_pos hc,List.getElem?_cons_succ];rw [<- xWa n h.2.2,xW];have:inR n x = false:=by
    rw [Bool.eq_false_iff];intro h;have:=(yl.1 h).2.2;omega
   rw [this,Bool.false_or]
  ·simp only [qz,if_neg hc,List.getElem?_cons_zero];rw [Bool.eq_iff_iff,decide_eq_true_eq]
   constructor
   ·exact qr h
   ·intro hle;exact (yda h hle).2 (.inl (by omega))
theorem has_eq (l:List RN) (n:Int) (h:l.length <= 100000000000):UI l n = pure (yC l n):=by
 unfold UI;have hl:=vQ l;rw [Vd l (by omega),zB,zA,bs_eq _ n (Ze l) (by omega),zB,zA,<- wc l n,xWa n (Ze l)]
 generalize nrm l = v
 by_cases hc:qz v n < v.length
 ·have:decide ((qz v n:Int) < (v.length:Int)) = true:=by simpa using hc
  simp only [this,cond_true,zH (List.getElem?_eq_getElem hc),zA,List.getElem?_eq_getElem hc]
 ·have:decide ((qz v n:Int) < (v.length:Int)) = false:=by simpa using hc
  simp only [this,cond_false,zA,List.getElem?_eq_none (show v.length <= qz v n by omega)]

theorem v3a (A B:List RN) (hA:Nf A) (hB:Nf B) (hl:A.length + B.length <= 1000000000000):(loop ZA (A,B,[])).wp fun r=>Nf r /\ ∀ n,yC r n = (yC A n && yC B n):=by
 refine xBa (fun s:List RN × List RN × List RN=>Nf s.1 /\ Nf s.2.1 /\ Nf s.2.2 /\ (∀ y ∈ s.2.2,∀ x ∈ s.1,∀ z ∈ s.2.1,y.hi + 1 < max x.lo z.lo) /\ (∀ n,(yC s.2.2 n || (yC s.1 n && yC s.2.1 n)) = (yC A n && yC B n)) /\ s.2.2.length + s.1.length + s.2.1.length <= A.length + B.length) (fun s=>s.1.length + s.2.1.length) ?_ (A,B,[]) ⟨hA,hB,(trivial:Nf []),by simp,by simp,by simp⟩;rintro ⟨a,b,out⟩ ⟨h1,h2,h3,h4,h5,h6⟩;simp only at h1 h2 h3 h4 h5 h6;unfold ZA
 cases a with
 | nil=>exact ⟨h3,fun n=>by rw [<- h5];simp⟩
 | cons x r=>
  cases b with
  | nil=>
   have e1:decide ((0:Int) < ((x :: r).length:Int)) = true:=by simp only [List.length_cons,decide_eq_true_eq];omega
   simp only [e1,cond_true];exact ⟨h3,fun n=>by rw [<- h5];simp⟩
  | cons z q=>
   have hx:=zc.1 h1.1;have hz:=zc.1 h2.1;have e1:decide ((0:Int) < ((x :: r).length:Int)) = true:=by simp only [List.length_cons,decide_eq_true_eq];omega
   have e2:decide ((0:Int) < ((z :: q).length:Int)) = true:=by simp only [List.length_cons,decide_eq_true_eq];omega
   simp only [e1,e2,cond_true,zA,WT (l:=x :: r) (i:=0) (y:=x) (by omega) rfl,WT (l:=z :: q) (i:=0) (y:=z) (by omega) rfl]
   -- the new list
   have hout:∃ out',(cond (decide (max x.lo z.lo <= min x.hi z.hi)) (M.yV ((out.length + List.length [(⟨max x.lo z.lo,min x.hi z.hi⟩:RN)]) * 16 <= 140737488355328) (M.pure (out ++ [⟨max x.lo z.lo,min x.hi z.hi⟩]))) (M.pure out)) = M.pure out' /\ Nf out' /\ (∀ n,yC out' n = (yC out n || (inR n x && inR n z))) /\ (∀ y ∈ out',y ∈ out \/ y.hi = min x.hi z.hi) /\ out'.length <= out.length + 1:=by
    by_cases hc:max x.lo z.lo <= min x.hi z.hi
    ·refine ⟨out ++ [⟨max x.lo z.lo,min x.hi z.hi⟩],?_,YO.2 ⟨h3,zc.2 ⟨by simp only;omega,hc,by simp only;omega⟩,fun y hy=>h4 y hy x (by simp) z (by simp)⟩,fun n=>?_,fun y hy=>?_,by simp⟩
     ·rw [decide_eq_true hc,cond_true,zC];simp at h6 ⊢;omega
     ·rw [uL,vc]
      congr 1
      rw [Bool.eq_iff_iff,Bool.and_eq_true,yl,yl,yl];simp only;omega
     ·rcases List.mem_append.1 hy with hy | hy
      ·exact .inl hy
      ·simp at hy;subst hy;exact .inr rfl
    ·refine ⟨out,by rw [decide_eq_false hc];rfl,h3,fun n=>?_,fun y hy=>.inl hy,by omega⟩;have:(inR n x && inR n z) = false:=by
      rw [Bool.eq_false_iff];intro h;rw [Bool.and_eq_true,yl,yl] at h;omega
     rw [this,Bool.or_false]
   obtain ⟨out',o1,o2,o3,o4,o5⟩:=hout;have hh:∀ n,yC out' n = (yC out n || (inR n x && inR n z)):=o3;rw [o1];simp only [zA,vC]
   by_cases hc:x.hi < z.hi
   ·rw [if_pos hc,zC ⟨by omega,by simp only [List.length_cons];omega,by omega⟩];have ed:List.drop (Int.toNat 1) (List.take (Int.toNat ((x :: r).length:Int)) (x :: r)) = r:=by simp
    rw [ed];refine ⟨⟨h1.2.2,h2,o2,fun y hy x' hx' z' hz'=>?_,fun n=>?_,by simp at h6 ⊢;omega⟩,by simp only [List.length_cons];omega⟩
    ·rcases o4 y hy with hy | hy
     ·have:=h4 y hy x' (List.mem_cons_of_mem _ hx') z' hz';omega
     ·have:=h1.2.1 x' hx';omega
    ·simp only;rw [hh,<- h5,xW x,xW z,Bool.or_assoc]
     congr 1
     have hxq:(inR n x && yC q n) = false:=by
      rw [Bool.eq_false_iff];intro h;rw [Bool.and_eq_true,yl] at h;have:=jM h2 h.2;omega
     cases hv1:inR n x <;> cases hv2:inR n z <;> cases hv3:yC r n <;> cases hv4:yC q n <;> simp_all
   ·rw [if_neg hc,zC ⟨by omega,by simp only [List.length_cons];omega,by omega⟩];have ed:List.drop (Int.toNat 1) (List.take (Int.toNat ((z :: q).length:Int)) (z :: q)) = q:=by simp
    rw [ed];refine ⟨⟨h1,h2.2.2,o2,fun y hy x' hx' z' hz'=>?_,fun n=>?_,by simp at h6 ⊢;omega⟩,by simp only [List.length_cons];omega⟩
    ·rcases o4 y hy with hy | hy
     ·have:=h4 y hy x' hx' z' (List.mem_cons_of_mem _ hz');omega
     ·have:=h2.2.1 z' hz';omega
    ·simp only;rw [hh,<- h5,xW x,xW z,Bool.or_assoc]
     congr 1
     have hxq:(inR n z && yC r n) = false:=by
      rw [Bool.eq_false_iff];intro h;rw [Bool.and_eq_true,yl] at h;have:=jM h1 h.2;omega
     cases hv1:inR n x <;> cases hv2:inR n z <;> cases hv3:yC r n <;> cases hv4:yC q n <;> simp_all
theorem meetN_eq (a b:List RN) (ha:a.length <= 100000000000) (hb:b.length <= 100000000000):WV a b = pure (ZJ (· && ·) a b):=by
 unfold WV;have la:=vQ a;have lb:=vQ b;rw [Vd a (by omega),zB,zA,Vd b (by omega),zB,zA];refine Zq ((loop ZA (nrm a,nrm b,[])).mono (fun r ⟨h1,h2⟩=>?_) (v3a (nrm a) (nrm b) (Ze a) (Ze b) (by omega)));obtain ⟨s1,s2,_⟩:=zl (· && ·) rfl a b;exact Ws h1 s1 fun n=>by rw [h2,s2,wc,wc]

def JE : Int -> List RN -> List RN
 | at_,[]=>[⟨at_,281474976710655⟩]
 | at_,x :: r=>⟨at_,x.lo - 1⟩ :: JE (x.hi + 1) r
theorem v4a (l:List RN) (p:Int):(JE p l).length = l.length + 1:=by
 induction l generalizing p with
 | nil=>rfl
 | cons x r ih=>simp [JE,ih]
theorem zYa : ∀ (l:List RN) (p:Int),Nf l -> 1 <= p -> (∀ x ∈ l,p <= x.lo) -> ∀ n,yC (JE p l) n = true ↔ p <= n /\ n <= 281474976710655 /\ yC l n = false
 | [],p,_,hp,_,n=>by
  rw [JE,vc,yl];simp only [qp,and_true];omega
 | x :: r,p,h,hp,hlo,n=>by
  have hx:=zc.1 h.1;have:=hlo x (by simp);rw [JE,xW,Bool.or_eq_true,zYa r (x.hi + 1) h.2.2 (by omega) (fun y hy=>by have:=h.2.1 y hy;omega) n,yl];simp only;have hr:yC (x :: r) n = false ↔ (n < x.lo \/ x.hi < n) /\ yC r n = false:=by
   rw [xW,Bool.or_eq_false_iff];refine and_congr_left fun _=>?_
   rw [Bool.eq_false_iff,ne_eq,yl];omega
  rw [hr];have hrl:n < x.lo -> yC r n = false:=fun hn=>by
   rw [Bool.eq_false_iff];intro h2;have:=jM h h2;omega
  constructor
  ·rintro (h2 | h2)
   ·exact ⟨h2.2.1,by omega,.inl (by omega),hrl (by omega)⟩
   ·exact ⟨by omega,h2.2.1,.inr (by omega),h2.2.2⟩
  ·rintro ⟨h2,h3,h4,h5⟩;rcases h4 with h4 | h4
   ·left;omega
   ·right;exact ⟨by omega,h3,h5⟩
theorem rest_eq (l:List RN) (h:l.length <= 100000000000):WW l = pure (JE 1 (nrm l)):=by
 unfold WW;have hl:=vQ l;have hn:=Ze l;rw [Vd l (by omega),zB,zA]
 generalize nrm l = v at hl hn
 have h1:=Yu (body:=ZB v) v (fun i (t:Int × List RN)=>(t.1,(i:Int),t.2)) (fun t x=>(x.hi + 1,t.2 ++ [⟨t.1,x.lo - 1⟩])) (fun t=>pure t) (fun i t=>t.2.length = i) (fun i x t hx hi hI=>by
  have h1:decide ((i:Int) < (v.length:Int)) = true:=by simpa using hi
  have hm:=zc.1 (hn.may x (List.mem_of_getElem? hx));refine ⟨?_,by simp [hI]⟩;unfold ZB;simp only [h1,cond_true,zH hx,zA,yN (show i < 9223372036854775807 by omega),WF (show 0 <= x.lo - 1 by omega) (by omega),WF (show 0 <= x.hi + 1 by omega) (by omega)];rw [zC (by simp;omega)]) (fun t _=>by unfold ZB;simp [zA]) (1,[]) rfl
 rw [show ((1:Int),(0:Int),([]:List RN)) = (1,((0:Nat):Int),[]) from rfl,h1];simp only [zA];have hf:∀ (l:List RN) (t:Int × List RN),(l.foldl (fun (t:Int × List RN) x=>(x.hi + 1,t.2 ++ [(⟨t.1,x.lo - 1⟩:RN)])) t).2 ++ [⟨(l.foldl (fun (t:Int × List RN) x=>(x.hi + 1,t.2 ++ [(⟨t.1,x.lo - 1⟩:RN)])) t).1,281474976710655⟩] = t.2 ++ JE t.1 l /\ (l.foldl (fun (t:Int × List RN) x=>(x.hi + 1,t.2 ++ [(⟨t.1,x.lo - 1⟩:RN)])) t).2.length = t.2.length + l.length:=by
  intro l
  induction l with
  | nil=>intro t;exact ⟨rfl,by simp⟩
  | cons x r ih=>
   intro t;rw [List.foldl_cons];obtain ⟨i1,i2⟩:=ih (x.hi + 1,t.2 ++ [⟨t.1,x.lo - 1⟩]);exact ⟨by rw [i1];simp [JE],by rw [i2];simp;omega⟩
 obtain ⟨f1,f2⟩:=hf v (1,[])
 generalize v.foldl (fun (t:Int × List RN) x=>(x.hi + 1,t.2 ++ [(⟨t.1,x.lo - 1⟩:RN)])) (1,[]) = t at f1 f2
 obtain ⟨p,out⟩:=t;simp only [List.length_nil] at f1 f2 ⊢;rw [zC (by simp;omega),f1]
 rfl
theorem minus_eq (a b:List RN) (ha:a.length <= 10000000000) (hb:b.length <= 10000000000):ZS a b = pure (ZJ (fun x y=>x && !y) a b):=by
 unfold ZS;have lb:=vQ b;have lr:=v4a (nrm b) 1;rw [rest_eq b (by omega),zB,zA,meetN_eq a _ (by omega) (by omega),zB,zA];refine congrArg pure ?_;obtain ⟨s1,s2,_⟩:=zl (· && ·) rfl a (JE 1 (nrm b));obtain ⟨t1,t2,_⟩:=zl (fun x y=>x && !y) rfl a b;refine Ws s1 t1 fun n=>?_
 rw [s2,t2,<- wc b]
 cases hh:yC a n with
 | false=>rfl
 | true=>
  have:=JS hh;rw [Bool.true_and,Bool.true_and,Bool.eq_iff_iff,zYa (nrm b) 1 (Ze b) (by omega) (fun x hx=>(zc.1 ((Ze b).may x hx)).1) n];simp only [Bool.not_eq_true'];exact ⟨fun h=>h.2.2,fun h=>⟨this.1,this.2,h⟩⟩

theorem Wv (l:List Int):(Xi l).length = l.length:=by simp [Xi]
end Go.Ep.M.R

namespace Go.Ep.M.C
open Go

def yK (c:List PT) (k:Int):List RN:=(c.filter fun p=>decide (p.dev = k) && decide (0 < k)).flatMap (·.runs)
theorem Ww (k:Int):yK [] k = []:=rfl
theorem vp (p:PT) (c:List PT) (k:Int):yK (p :: c) k = (if p.dev = k /\ 0 < k then p.runs else []) ++ yK c k:=by
 unfold yK;rw [List.filter_cons]
 by_cases h:p.dev = k /\ 0 < k
 ·simp [h.1,h.2]
 ·rw [if_neg (by simpa using h),if_neg h];rfl
theorem Wx (a b:List PT) (k:Int):yK (a ++ b) k = yK a k ++ yK b k:=by simp [yK,List.filter_append]
theorem Wy {c:List PT} {k:Int} (h:¬ 0 < k):yK c k = []:=by simp [yK,h]
def xm (c:List PT) (k n:Int):Bool:=R.yC (yK c k) n
theorem hasC_app (a b:List PT) (k n:Int):xm (a ++ b) k n = (xm a k n || xm b k n):=by simp [xm,Wx,R.uL]
def yJ (c:List PT):Nat:=(c.map fun p=>p.runs.length).sum
theorem QA (a b:List PT):yJ (a ++ b) = yJ a + yJ b:=by simp [yJ]
theorem xg (c:List PT) (k:Int):(yK c k).length <= yJ c:=by
 induction c with
 | nil=>simp [yK]
 | cons p r ih=>
  rw [vp,List.length_append];have:yJ (p :: r) = p.runs.length + yJ r:=by simp [yJ]
  split
  ·omega
  ·simp;omega
theorem QB (ks:List Int):(ks.map fun _=>0).sum = 0:=by
 induction ks with
 | nil=>rfl
 | cons k r ih=>rw [List.map_cons,List.sum_cons,ih]
theorem rawC_sum (c:List PT) (ks:List Int) (h:ks.Nodup):(ks.map fun k=>(yK c k).length).sum <= yJ c:=by
 induction c with
 | nil=>simp only [Ww,List.length_nil,QB];exact Nat.zero_le _
 | cons p r ih=>
  have e:yJ (p :: r) = p.runs.length + yJ r:=by simp [yJ]
  have h1:(ks.map fun k=>(yK (p :: r) k).length).sum = (ks.map fun k=>if p.dev = k /\ 0 < k then p.runs.length else 0).sum + (ks.map fun k=>(yK r k).length).sum:=by
   clear h ih
   induction ks with
   | nil=>rfl
   | cons k ks ih2=>
    simp only [List.map_cons,List.sum_cons,vp,List.length_append] at ih2 ⊢
    by_cases hc:p.dev = k /\ 0 < k
    ·rw [if_pos hc,if_pos hc];omega
    ·rw [if_neg hc,if_neg hc,List.length_nil];omega
  have h2:(ks.map fun k=>if p.dev = k /\ 0 < k then p.runs.length else 0).sum <= p.runs.length:=by
   clear ih h1 e
   induction ks with
   | nil=>simp
   | cons k ks ih2=>
    obtain ⟨n1,n2⟩:=List.nodup_cons.1 h;simp only [List.map_cons,List.sum_cons]
    by_cases hk:p.dev = k
    ·have h0:(ks.map fun k=>if p.dev = k /\ 0 < k then p.runs.length else 0).sum = 0:=by
      have:(ks.map fun k=>if p.dev = k /\ 0 < k then p.runs.length else 0) = ks.map fun _=>0:=by
       refine List.map_congr_left fun q hq=>?_
       rw [if_neg];rintro ⟨e,_⟩;exact n1 (by rw [<- hk,e];exact hq)
      rw [this];exact QB ks
     rw [h0]
     split <;> omega
    ·rw [if_neg (fun h=>hk h.1)];have:=ih2 n2;omega
  omega

def OrdP (l:List PT):Prop:=l.Pairwise fun x y=>x.dev < y.dev
theorem UW : ∀ {l l':List PT},OrdP l -> OrdP l' -> (∀ d,d ∈ l ↔ d ∈ l') -> l = l'
 | [],[],_,_,_=>rfl
 | [],y :: r,_,_,h=>absurd ((h y).2 (by simp)) (by simp)
 | x :: r,[],_,_,h=>absurd ((h x).1 (by simp)) (by simp)
 | x :: r,y :: q,h1,h2,h=>by
  obtain ⟨a1,a2⟩:=List.pairwise_cons.1 h1;obtain ⟨b1,b2⟩:=List.pairwise_cons.1 h2;have e:x = y:=by
   rcases List.mem_cons.1 ((h x).1 (by simp)) with e | hx
   ·exact e
   ·rcases List.mem_cons.1 ((h y).2 (by simp)) with e | hy
    ·exact e.symm
    ·have:=a1 y hy;have:=b1 x hx;omega
  subst e
  congr 1
  refine UW a2 b2 fun d=>⟨fun hd=>?_,fun hd=>?_⟩
  ·rcases List.mem_cons.1 ((h d).1 (List.mem_cons_of_mem _ hd)) with e | hx
   ·subst e;have:=a1 d hd;omega
   ·exact hx
  ·rcases List.mem_cons.1 ((h d).2 (List.mem_cons_of_mem _ hd)) with e | hx
   ·subst e;have:=b1 d hd;omega
   ·exact hx
def yG (f:Int -> List RN) (ks:List Int):List PT:=ks.filterMap fun k=>if f k = [] then none else some ⟨k,f k⟩
theorem vR {f:Int -> List RN} {ks:List Int} {p:PT}:p ∈ yG f ks ↔ p.dev ∈ ks /\ p.runs ≠ [] /\ p.runs = f p.dev:=by
 unfold yG;rw [List.mem_filterMap]
 constructor
 ·rintro ⟨k,hk,h⟩
  split at h
  ·cases h
  ·rename_i h0;cases h;exact ⟨hk,h0,rfl⟩
 ·rintro ⟨h1,h2,h3⟩;refine ⟨p.dev,h1,?_⟩;rw [if_neg (by rw [<- h3];exact h2),<- h3]
theorem vS {f:Int -> List RN} {ks:List Int} (h:ks.Pairwise (· < ·)):OrdP (yG f ks):=by
 unfold OrdP yG;rw [List.pairwise_filterMap];refine h.imp fun {a b} hab x hx y hy=>?_
 split at hx
 ·cases hx
 ·split at hy
  ·cases hy
  ·cases hx;cases hy;exact hab
theorem jR {f g:Int -> List RN} {ks ls:List Int} (h1:ks.Pairwise (· < ·)) (h2:ls.Pairwise (· < ·)) (hf:∀ k,f k = g k) (h:∀ k,f k ≠ [] -> (k ∈ ks ↔ k ∈ ls)):yG f ks = yG g ls:=by
 refine UW (vS h1) (vS h2) fun p=>?_
 rw [vR,vR]
 constructor
 ·rintro ⟨a,b,c⟩;exact ⟨(h _ (by rw [<- c];exact b)).1 a,b,by rw [c,hf]⟩
 ·rintro ⟨a,b,c⟩;exact ⟨(h _ (by rw [hf,<- c];exact b)).2 a,b,by rw [c,hf]⟩
theorem yfa (f:Int -> List RN) (ks:List Int):(yG f ks).length <= ks.length:=List.length_filterMap_le _ _
theorem yga (f:Int -> List RN) (ks:List Int):yJ (yG f ks) = (ks.map fun k=>(f k).length).sum:=by
 induction ks with
 | nil=>rfl
 | cons k ks ih=>
  have:yG f (k :: ks) = (if f k = [] then [] else [⟨k,f k⟩]) ++ yG f ks:=by
   unfold yG
   by_cases h:f k = [] <;> simp [h]
  rw [this,QA,ih]
  by_cases h:f k = [] <;> simp [h,yJ]
theorem jS {f:Int -> List RN} {ks:List Int} (h:ks.Nodup) (k:Int):yK (yG f ks) k = if k ∈ ks /\ 0 < k then f k else []:=by
 induction ks with
 | nil=>simp [yG,yK]
 | cons q ks ih=>
  obtain ⟨n1,n2⟩:=List.nodup_cons.1 h;have e:yG f (q :: ks) = (if f q = [] then [] else [⟨q,f q⟩]) ++ yG f ks:=by
   unfold yG
   by_cases h:f q = [] <;> simp [h]
  rw [e,Wx,ih n2]
  by_cases hq:q = k
  ·subst hq;rw [if_neg (fun (h:q ∈ ks /\ 0 < q)=>n1 h.1),List.append_nil]
   by_cases h0:f q = []
   ·rw [if_pos h0,h0];simp [yK]
   ·rw [if_neg h0]
    by_cases hp:0 < q
    ·rw [if_pos ⟨List.mem_cons_self,hp⟩];simp [yK,hp]
    ·rw [if_neg (fun h=>hp h.2)];exact Wy hp
  ·have:yK (if f q = [] then [] else [(⟨q,f q⟩:PT)]) k = []:=by
    by_cases h0:f q = [] <;> simp [h0,yK,hq]
   rw [this];have hm:(k ∈ q :: ks) ↔ k ∈ ks:=by simp [Ne.symm hq]
   simp only [hm,List.nil_append]

def zZa (l:List Int) (p:PT):List Int:=if 0 < p.dev then V.jq l p.dev else l
def Wz (c:List PT):List Int:=c.foldl zZa []
theorem YM (c:List PT):∀ l:List Int,l.Pairwise (· < ·) -> (c.foldl zZa l).Pairwise (· < ·) /\ (∀ k,k ∈ c.foldl zZa l ↔ k ∈ l \/ ∃ p ∈ c,p.dev = k /\ 0 < k) /\ (c.foldl zZa l).length <= l.length + c.length:=by
 induction c with
 | nil=>intro l h;simp [h]
 | cons p r ih=>
  intro l h;rw [List.foldl_cons]
  by_cases hp:0 < p.dev
  ·have e:zZa l p = V.jq l p.dev:=by simp [zZa,hp]
   rw [e];obtain ⟨h1,h2,h3⟩:=ih _ (V.um h p.dev);refine ⟨h1,fun k=>?_,by have:=V.Wq l p.dev;simp;omega⟩;rw [h2,V.US]
   constructor
   ·rintro ((rfl | h4) | ⟨x,h4,h5⟩)
    ·exact .inr ⟨p,by simp,rfl,hp⟩
    ·exact .inl h4
    ·exact .inr ⟨x,by simp [h4],h5⟩
   ·rintro (h4 | ⟨x,h4,h5,h6⟩)
    ·exact .inl (.inr h4)
    ·rcases List.mem_cons.1 h4 with rfl | h4
     ·exact .inl (.inl h5.symm)
     ·exact .inr ⟨x,h4,h5,h6⟩
  ·have e:zZa l p = l:=by simp [zZa,hp]
   rw [e];obtain ⟨h1,h2,h3⟩:=ih _ h;refine ⟨h1,fun k=>?_,by simp;omega⟩;rw [h2]
   constructor
   ·rintro (h4 | ⟨x,h4,h5⟩)
    ·exact .inl h4
    ·exact .inr ⟨x,by simp [h4],h5⟩
   ·rintro (h4 | ⟨x,h4,h5,h6⟩)
    ·exact .inl h4
    ·rcases List.mem_cons.1 h4 with rfl | h4
     ·rw [h5] at hp;exact absurd h6 hp
     ·exact .inr ⟨x,h4,h5,h6⟩
theorem xV (c:List PT):(Wz c).Pairwise (· < ·):=(YM c [] List.Pairwise.nil).1
theorem zaa {l:List Int} (h:l.Pairwise (· < ·)):l.Nodup:=h.imp fun {a b} h e=>by omega
theorem Ve (c:List PT):(Wz c).Nodup:=zaa (xV c)
theorem wO {c:List PT} {k:Int}:k ∈ Wz c ↔ (∃ p ∈ c,p.dev = k) /\ 0 < k:=by
 have:=(YM c [] List.Pairwise.nil).2.1 k;unfold Wz;rw [this];simp only [List.not_mem_nil,false_or]
 constructor
 ·rintro ⟨p,h1,h2,h3⟩;exact ⟨⟨p,h1,h2⟩,h3⟩
 ·rintro ⟨⟨p,h1,h2⟩,h3⟩;exact ⟨p,h1,h2,h3⟩
theorem xQa (c:List PT):(Wz c).length <= c.length:=by simpa [Wz] using (YM c [] List.Pairwise.nil).2.2
theorem ZG {c:List PT} {k:Int} (h:yK c k ≠ []):k ∈ Wz c:=by
 rw [wO];refine Classical.byContradiction fun hn=>h ?_
 unfold yK;have:(c.filter fun p=>decide (p.dev = k) && decide (0 < k)) = []:=by
  rw [List.filter_eq_nil_iff];intro p hp;simp only [Bool.and_eq_true,decide_eq_true_eq];rintro ⟨h1,h2⟩;exact hn ⟨⟨p,hp,h1⟩,h2⟩
 rw [this];rfl

def opC (op:Bool -> Bool -> Bool) (a b:List PT):List PT:=yG (fun k=>R.ZJ op (yK a k) (yK b k)) (Wz (a ++ b))
def zk (c:List PT):List PT:=yG (fun k=>R.nrm (yK c k)) (Wz c)
theorem xXa {op:Bool -> Bool -> Bool} (h0:op false false = false):R.ZJ op [] [] = []:=by
 have:=R.zl op h0 [] [];exact R.Ws this.1 trivial fun n=>by rw [this.2.1];exact h0
theorem Vf : R.nrm [] = []:=xXa rfl
theorem yha {op:Bool -> Bool -> Bool} (h0:op false false = false) (a b:List PT) (k n:Int):xm (opC op a b) k n = op (xm a k n) (xm b k n):=by
 unfold xm opC;rw [jS (Ve _)]
 split
 ·rw [(R.zl op h0 _ _).2.1]
 ·rename_i h
  have e:yK a k = [] /\ yK b k = []:=by
   have h1:yK (a ++ b) k = []:=Classical.byContradiction fun h2=>h ⟨ZG h2,(wO.1 (ZG h2)).2⟩
   rw [Wx] at h1;simpa using h1
  rw [e.1,e.2];show R.yC [] n = _;simp [R.yC,h0]
theorem Zf (c:List PT) (k n:Int):xm (zk c) k n = xm c k n:=by
 unfold xm zk;rw [jS (Ve _)]
 split
 ·rw [R.wc]
 ·rename_i h
  have e:yK c k = []:=Classical.byContradiction fun h2=>h ⟨ZG h2,(wO.1 (ZG h2)).2⟩
  rw [e]
structure Canon (c:List PT):Prop where
 ord:OrdP c
 nf:∀ p ∈ c,0 < p.dev /\ p.runs ≠ [] /\ R.Nf p.runs
theorem jT {f:Int -> List RN} {c:List PT} (h:∀ k,R.Nf (f k)):Canon (yG f (Wz c)):=⟨vS (xV c),fun p hp=>by
 obtain ⟨h1,h2,h3⟩:=vR.1 hp;exact ⟨(wO.1 h1).2,h2,by rw [h3];exact h _⟩⟩
theorem xYa {op:Bool -> Bool -> Bool} (h0:op false false = false) (a b:List PT):Canon (opC op a b):=jT fun _=>(R.zl op h0 _ _).1
theorem vT (c:List PT):Canon (zk c):=jT fun _=>R.Ze _
theorem QC : ∀ {c:List PT},OrdP c -> ∀ p ∈ c,0 < p.dev -> yK c p.dev = p.runs
 | [],_,p,hp,_=>by simp at hp
 | q :: r,h,p,hp,h0=>by
  obtain ⟨h1,h2⟩:=List.pairwise_cons.1 h;rw [vp];rcases List.mem_cons.1 hp with rfl | hp
  ·rw [if_pos ⟨rfl,h0⟩];have:yK r p.dev = []:=by
    unfold yK;have:(r.filter fun x=>decide (x.dev = p.dev) && decide (0 < p.dev)) = []:=by
     rw [List.filter_eq_nil_iff];intro x hx;have:=h1 x hx;simp;omega
    rw [this];rfl
   rw [this,List.append_nil]
  ·have:=h1 p hp;rw [if_neg (by omega),QC h2 p hp h0];rfl
theorem Canon.eq_norm {c:List PT} (h:Canon c):c = zk c:=by
 refine UW h.ord (vT c).ord fun p=>?_
 unfold zk;rw [vR]
 constructor
 ·intro hp;obtain ⟨h1,h2,h3⟩:=h.nf p hp;exact ⟨wO.2 ⟨⟨p,hp,rfl⟩,h1⟩,h2,by rw [QC h.ord p hp h1,R.qx h3]⟩
 ·rintro ⟨h1,h2,h3⟩;obtain ⟨⟨q,hq,hd⟩,h0⟩:=wO.1 h1;obtain ⟨g1,g2,g3⟩:=h.nf q hq;have e:yK c p.dev = q.runs:=by rw [<- hd];exact QC h.ord q hq g1
  rw [e,R.qx g3] at h3;have:p = q:=by cases p;cases q;simp_all
  rw [this];exact hq
theorem zba {a b:List PT} (h:∀ k n,xm a k n = xm b k n):zk a = zk b:=by
 have hf:∀ k,R.nrm (yK a k) = R.nrm (yK b k):=fun k=>R.Ws (R.Ze _) (R.Ze _) fun n=>by rw [R.wc,R.wc];exact h k n
 refine jR (xV a) (xV b) hf fun k hk=>?_
 have ha:yK a k ≠ []:=fun e=>hk (by rw [e];exact Vf)
 have hb:yK b k ≠ []:=fun e=>hk (by rw [hf,e];exact Vf)
 exact ⟨fun _=>ZG hb,fun _=>ZG ha⟩
theorem Canon.ext {a b:List PT} (ha:Canon a) (hb:Canon b) (h:∀ k n,xm a k n = xm b k n):a = b:=by rw [ha.eq_norm,hb.eq_norm];exact zba h
theorem Vg {c:List PT} (h:Canon c):zk c = c:=h.eq_norm.symm
theorem norm_or (a b:List PT):zk (a ++ b) = opC (· || ·) a b:=(vT _).ext (xYa rfl a b) fun k n=>by rw [Zf,hasC_app,yha rfl]
theorem zca : Canon []:=⟨List.Pairwise.nil,fun p h=>by simp at h⟩
theorem JV {c:List PT} (h:Canon c) (h2:∀ k n,xm c k n = false):c = []:=h.ext zca fun k n=>by rw [h2];rfl
theorem un (c:List PT):(zk c).length <= c.length:=Nat.le_trans (yfa _ _) (xQa c)
theorem sum_le {ks:List Int} {f g:Int -> Nat} (h:∀ k,f k <= g k):(ks.map f).sum <= (ks.map g).sum:=by
 induction ks with
 | nil=>simp
 | cons k r ih=>have:=h k;simp;omega
theorem sum_two (ks:List Int) (f g:Int -> Nat):(ks.map fun k=>2 * (f k + g k)).sum = 2 * ((ks.map f).sum + (ks.map g).sum):=by
 induction ks with
 | nil=>rfl
 | cons k r ih=>simp;omega
theorem uo (c:List PT):yJ (zk c) <= 2 * yJ c:=by
 unfold zk;rw [yga];refine Nat.le_trans (sum_le (g:=fun k=>2 * ((yK c k).length + 0)) fun k=>by have:=R.vQ (yK c k);omega) ?_;rw [sum_two];have h1:=rawC_sum c (Wz c) (Ve _);have h2:=QB (Wz c);omega


theorem get_grow (l:List (Int × List RN)):∀ (m:List (Int × List RN)) (k:Int),AL.getZ (AL.grow m l) k [] = AL.getZ m k [] ++ (l.filter fun x=>decide (x.1 = k)).flatMap (·.2):=by
 induction l with
 | nil=>intro m k;simp [AL.grow]
 | cons x r ih=>
  intro m k;show AL.getZ (AL.grow (AL.set m x.1 (AL.getZ m x.1 [] ++ x.2)) r) k [] = _;rw [ih,AL.getZ_set,List.filter_cons]
  by_cases h:x.1 = k
  ·subst h;simp
  ·simp [h]
theorem wba (l:List (Int × List RN)):∀ m:List (Int × List RN),(m.map (·.1)).Nodup -> ((AL.grow m l).map (·.1)).Nodup:=by
 induction l with
 | nil=>intro m h;exact h
 | cons x r ih=>intro m h;exact ih _ (AL.nodup_set h _ _)
theorem len_grow (l:List (Int × List RN)):∀ m:List (Int × List RN),(AL.grow m l).length <= m.length + l.length:=by
 induction l with
 | nil=>intro m;exact Nat.le_refl _
 | cons x r ih=>
  intro m;have h1:=ih (AL.set m x.1 (AL.getZ m x.1 [] ++ x.2));have h2:=AL.len_set m x.1 (AL.getZ m x.1 [] ++ x.2);show (AL.grow (AL.set m x.1 (AL.getZ m x.1 [] ++ x.2)) r).length <= _;simp only [List.length_cons];omega
theorem key_grow (l:List (Int × List RN)):∀ (m:List (Int × List RN)) (k:Int),k ∈ (AL.grow m l).map (·.1) -> k ∈ m.map (·.1) \/ ∃ x ∈ l,x.1 = k:=by
 induction l with
 | nil=>intro m k h;exact .inl h
 | cons x r ih=>
  intro m k h;rcases ih _ k h with h | ⟨y,hy,e⟩
  ·rw [AL.keys_set] at h
   split at h
   ·exact .inl h
   ·rcases List.mem_append.1 h with h | h
    ·exact .inl h
    ·exact .inr ⟨x,by simp,(List.mem_singleton.1 h).symm⟩
  ·exact .inr ⟨y,by simp [hy],e⟩
def wh (c:List PT):List (Int × List RN):=AL.grow [] (c.filterMap zm)
theorem vD (c:List PT) (k:Int):AL.getZ (wh c) k [] = yK c k:=by
 unfold wh;rw [get_grow];show [] ++ _ = _;rw [List.nil_append]
 induction c with
 | nil=>rfl
 | cons p r ih=>
  rw [vp,<- ih,List.filterMap_cons]
  by_cases h0:0 < p.dev
  ·have e:zm p = some (p.dev,p.runs):=by simp [zm,h0]
   rw [e];simp only [List.filter_cons]
   by_cases h:p.dev = k
   ·subst h;simp [h0]
   ·simp [h]
  ·have e:zm p = none:=by simp [zm,h0]
   rw [e,if_neg (by rintro ⟨h1,h2⟩;omega)];rfl
theorem uR (c:List PT):((wh c).map (·.1)).Nodup:=wba _ _ (by simp)
theorem ql (c:List PT):(wh c).length <= c.length:=by
 have h1:=len_grow (c.filterMap zm) [];have h2:=List.length_filterMap_le zm c;unfold wh;simp at h1;omega
theorem told_pos {c:List PT} {k:Int} (h:k ∈ (wh c).map (·.1)):0 < k /\ k ∈ Wz c:=by
 rcases key_grow _ _ _ h with h | ⟨x,hx,rfl⟩
 ·simp at h
 ·rw [List.mem_filterMap] at hx;obtain ⟨p,hp,hx⟩:=hx;unfold zm at hx
  split at hx
  ·rename_i h0;cases hx;exact ⟨h0,wO.2 ⟨⟨p,hp,rfl⟩,h0⟩⟩
  ·cases hx
theorem YN {c:List PT} {e:Int × List RN} (h:e ∈ wh c):e.2 = yK c e.1 /\ 0 < e.1 /\ e.1 ∈ Wz c:=by
 have h1:=AL.mem_get (uR c) (k:=e.1) (v:=e.2) h;have h2:=vD c e.1;unfold AL.getZ at h2;rw [h1] at h2;exact ⟨h2,told_pos (List.mem_map.2 ⟨e,h,rfl⟩)⟩
theorem yba {c:List PT} {k:Int} (h:yK c k ≠ []):(k,yK c k) ∈ wh c:=by
 have h2:=vD c k;unfold AL.getZ at h2
 cases hg:AL.get (wh c) k with
 | none=>rw [hg] at h2;exact absurd h2.symm h
 | some v=>rw [hg] at h2;simp only [Option.getD_some] at h2;subst h2;exact AL.get_mem hg
theorem tot_told (c:List PT):((c.filterMap zm).map fun x=>x.2.length).sum <= yJ c:=by
 induction c with
 | nil=>simp
 | cons p r ih=>
  have e:yJ (p :: r) = p.runs.length + yJ r:=by simp [yJ]
  rw [List.filterMap_cons]
  by_cases h0:0 < p.dev
  ·have e2:zm p = some (p.dev,p.runs):=by simp [zm,h0]
   rw [e2];simp only [List.map_cons,List.sum_cons];omega
  ·have e2:zm p = none:=by simp [zm,h0]
   rw [e2];simp only;omega
def Sm (c:List PT):Prop:=c.length <= 10000000000 /\ yJ c <= 10000000000
theorem QD (c:List PT) (h:Sm c):Zr c = pure (wh c):=by
 unfold Zr;rw [zC]
 ·rfl
 ·have:=tot_told c;refine ⟨by have:=h.1;omega,?_⟩;have:=h.2;omega
theorem xZa (m:List (Int × List RN)) (f:Int -> List RN) (ks:List Int) (hl:m.length <= 1000000000000) (hr:∀ e ∈ m,e.2.length <= 1000000000000) (hn:(m.map (·.1)).Nodup) (hs:ks.Pairwise (· < ·)) (h1:∀ e ∈ m,R.nrm e.2 ≠ [] -> e.1 ∈ ks /\ R.nrm e.2 = f e.1) (h2:∀ k ∈ ks,f k ≠ [] -> ∃ r,(k,r) ∈ m /\ R.nrm r = f k):uX m = pure (yG f ks):=by
 unfold uX;have hall:∀ Q:List PT -> Prop,(∀ l:List (Int × List RN),l.Perm m -> Q ((l.filter fun e=>decide (R.nrm e.2 ≠ [])).map fun e=>(⟨e.1,R.nrm e.2⟩:PT))) -> (loop (uz m) ([],([]:List PT))).wp Q:=by
  intro Q hQ;refine M.loopM (body:=uz m) m (fun L (t:List PT)=>(L,t)) (fun t e=>(xM e.2).det.bind fun v=>if 0 < v.length then yV ((t.length + 1) * 32 <= 140737488355328) (pure (t ++ [(⟨e.1,v⟩:PT)])) else pure t) (fun t=>pure t)
   (fun l t=>t = ((l.filter fun e=>decide (R.nrm e.2 ≠ [])).map fun e=>(⟨e.1,R.nrm e.2⟩:PT))) Q (fun L t hL=>?_) (fun l t y ht hlen hy=>?_) (fun l t hp ht=>?_) [] rfl
  ·unfold uz;show yV _ ((nxt _ _).bind _) = yV _ ((nxt _ _).bind _);refine congrArg (fun k=>yV _ ((nxt _ _).bind k)) (funext fun o=>?_)
   cases o with
   | none=>rfl
   | some i=>
    refine congrArg (fun k=>(idx m (Int.ofNat i)).bind k) (funext fun y=>?_);rw [JL];refine congrArg (fun k=>(xM y.2).det.bind k) (funext fun v=>?_);rw [vC]
    by_cases h:0 < v.length
    ·rw [if_pos (by omega),if_pos h];rfl
    ·rw [if_neg (by omega),if_neg h];rfl
  ·have hle:=List.length_filter_le (fun e:Int × List RN=>decide (R.nrm e.2 ≠ [])) l;have htl:t.length <= l.length:=by rw [ht,List.length_map];exact hle
   rw [R.Vd y.2 (hr y hy),zB,zA];refine ⟨if R.nrm y.2 = [] then t else t ++ [⟨y.1,R.nrm y.2⟩],?_,?_⟩
   ·by_cases h:R.nrm y.2 = []
    ·rw [if_neg (by rw [h];simp),if_pos h]
    ·rw [if_pos (by rw [List.length_pos_iff];exact h),if_neg h,zC (by omega)]
   ·subst ht;rw [List.filter_append,List.map_append]
    by_cases h:R.nrm y.2 = [] <;> simp [h]
  ·subst ht;exact hQ l hp
 refine Zq (hall _ fun l hp=>?_);show (yV _ _).wp _;have hll:=hp.length_eq;have hle:=List.length_filter_le (fun e:Int × List RN=>decide (R.nrm e.2 ≠ [])) l;have hmem:∀ d:PT,d ∈ ((l.filter fun e=>decide (R.nrm e.2 ≠ [])).map fun e=>(⟨e.1,R.nrm e.2⟩:PT)) ↔ d ∈ yG f ks:=by
  intro d;rw [vR,List.mem_map]
  constructor
  ·rintro ⟨e,he,rfl⟩;rw [List.mem_filter,hp.mem_iff] at he;have h0:R.nrm e.2 ≠ []:=by simpa using he.2
   obtain ⟨h3,h4⟩:=h1 e he.1 h0;exact ⟨h3,h0,h4⟩
  ·rintro ⟨h3,h4,h5⟩;obtain ⟨r,h6,h7⟩:=h2 d.dev h3 (by rw [<- h5];exact h4);refine ⟨(d.dev,r),?_,by show (⟨d.dev,R.nrm r⟩:PT) = d;rw [h7,<- h5]⟩;rw [List.mem_filter,hp.mem_iff];refine ⟨h6,?_⟩;simp only [decide_eq_true_eq];rw [h7,<- h5];exact h4
 have hnd:((l.filter fun e=>decide (R.nrm e.2 ≠ [])).map fun e=>(⟨e.1,R.nrm e.2⟩:PT)).Pairwise (fun x y=>x.dev ≠ y.dev):=by
  rw [List.pairwise_map];have:l.Pairwise (fun x y=>x.1 ≠ y.1):=by
   have:=(hp.map (·.1)).nodup_iff.2 hn;exact List.pairwise_map.1 this
  exact (this.filter _)
 refine ⟨by simp only [List.length_map];omega,⟨?_,fun l' ⟨hp',hs'⟩=>?_⟩⟩
 ·refine ⟨yG f ks,?_,?_⟩
  ·refine (List.perm_ext_iff_of_nodup ?_ ?_).2 fun d=>(hmem d).symm
   ·exact (vS hs).imp fun {a b} h e=>by subst e;omega
   ·exact hnd.imp fun {a b} h e=>by subst e;exact h rfl
  ·exact (vS hs).imp fun {a b} h=>by simp [JM];omega
 ·show l' = _;refine UW ?_ (vS hs) fun d=>by rw [hp'.mem_iff];exact hmem d
  have hnd':=(hp'.pairwise_iff (fun {a b} h=>Ne.symm h)).2 hnd;exact (hs'.and hnd').imp fun {a b} ⟨h3,h4⟩=>by simp [JM] at h3;omega
theorem wca (c:List PT) (h:Sm c):uX (wh c) = pure (zk c):=by
 refine xZa _ _ _ (by have:=ql c;have:=h.1;omega) (fun e he=>?_) (uR c) (xV c) (fun e he h0=>?_) (fun k hk h0=>?_)
 ·rw [(YN he).1];have:=xg c e.1;have:=h.2;omega
 ·obtain ⟨h1,h2,h3⟩:=YN he;exact ⟨h3,by rw [h1]⟩
 ·exact ⟨_,yba (fun e=>h0 (by rw [e];exact Vf)),rfl⟩
theorem yia (c:List PT) (h:Sm c):XD c = pure (zk c):=by
 unfold XD;rw [QD c h,zB,zA,wca c h,zB,zA]
theorem v5a (c:List PT) (k:Int) (h:Sm c):WY c k = pure (R.nrm (yK c k)):=by
 unfold WY;rw [QD c h,zB,zA,vD,R.Vd _ (by have:=xg c k;have:=h.2;omega),zB,zA]
theorem JW (c:List PT) (d:DT) (h:Sm c):Xw c d = pure (xm c d.dev d.n):=by
 unfold Xw;rw [vC]
 by_cases h0:0 < d.dev
 ·rw [if_pos h0,v5a c _ h,zB,zA,R.has_eq _ _ (by have:=R.vQ (yK c d.dev);have:=xg c d.dev;have:=h.2;omega),zB,zA,zA,R.wc]
  rfl
 ·rw [if_neg h0,zA];show pure false = pure (R.yC (yK c d.dev) d.n);rw [Wy h0];rfl
def jU (l:List DT):List PT:=(l.filter V.yF).map fun d=>⟨d.dev,[⟨d.n,d.n⟩]⟩
theorem VA (l:List DT):(jU l).length <= l.length:=by rw [jU,List.length_map];exact List.length_filter_le _ _
theorem dots_tot (l:List DT):yJ (jU l) <= l.length:=by
 have:yJ (jU l) = (jU l).length:=by
  unfold jU
  generalize l.filter V.yF = q
  induction q with
  | nil=>rfl
  | cons x r ih=>simp [yJ] at ih ⊢;omega
 have:=VA l;omega
def JD (h:Int × List RN -> List RN) (m:List (Int × List RN)) (L:List Nat):List (Int × List RN):=m.zipIdx.map fun y=>if y.2 ∈ L then (y.1.1,h y.1) else y.1
theorem xf {h:Int × List RN -> List RN} {m:List (Int × List RN)} {L:List Nat} {i:Nat}:(JD h m L)[i]? = (m[i]?).map fun e=>if i ∈ L then (e.1,h e) else e:=by
 unfold JD;rw [List.getElem?_map,List.getElem?_zipIdx]
 cases m[i]? <;> simp
theorem UU {h:Int × List RN -> List RN} {m:List (Int × List RN)} {L:List Nat}:(JD h m L).length = m.length:=by simp [JD]
theorem vra {m:List (Int × List RN)} (hn:(m.map (·.1)).Nodup) {i:Nat} {e:Int × List RN} (hi:m[i]? = some e) (v:List RN):AL.set m e.1 v = m.set i (e.1,v):=by
 induction m generalizing i with
 | nil=>simp at hi
 | cons x r ih=>
  obtain ⟨a,u⟩:=x;simp only [List.map_cons,List.nodup_cons] at hn
  cases i with
  | zero=>simp at hi;subst hi;simp [AL.set]
  | succ i=>
   simp at hi;have:a ≠ e.1:=fun q=>hn.1 (by rw [q];exact List.mem_map.2 ⟨e,List.mem_of_getElem? hi,rfl⟩)
   simp only [AL.set,this,if_false,List.set_cons_succ];rw [ih hn.2 hi]
theorem Wr {h:Int × List RN -> List RN} {m:List (Int × List RN)} {L:List Nat}:(JD h m L).map (·.1) = m.map (·.1):=by
 apply List.ext_getElem?;intro i;rw [List.getElem?_map,xf,List.getElem?_map]
 cases m[i]? with
 | none=>rfl
 | some e=>simp only [Option.map_some];split <;> rfl
theorem zUa {h:Int × List RN -> List RN} {m:List (Int × List RN)} (hn:(m.map (·.1)).Nodup) {L:List Nat} {i:Nat} {e:Int × List RN} (hi:m[i]? = some e) (hL:i ∉ L):AL.set (JD h m L) e.1 (h e) = JD h m (L ++ [i]):=by
 have h1:(JD h m L)[i]? = some e:=by rw [xf,hi];simp [hL]
 rw [vra (by rw [Wr];exact hn) h1];apply List.ext_getElem?;intro j;rw [List.getElem?_set,xf,xf]
 by_cases hj:i = j
 ·subst hj;have hlt:i < (JD h m L).length:=by rw [UU];exact (List.getElem?_eq_some_iff.1 hi).1
  rw [if_pos rfl,if_pos hlt,hi];simp
 ·rw [if_neg hj]
  cases m[j]? with
  | none=>rfl
  | some x=>simp [Ne.symm hj]
theorem xRa {h:Int × List RN -> List RN} {m:List (Int × List RN)} {L:List Nat} (hL:∀ i,i < m.length -> i ∈ L):JD h m L = m.map fun e=>(e.1,h e):=by
 apply List.ext_getElem?;intro i;rw [xf,List.getElem?_map]
 cases hi:m[i]? with
 | none=>rfl
 | some e=>simp [hL i (List.getElem?_eq_some_iff.1 hi).1]
theorem has_key {m:List (Int × List RN)} {k:Int} (h:k ∈ m.map (·.1)):AL.has m k = true:=by
 unfold AL.has
 cases hg:AL.get m k with
 | none=>exact absurd h (AL.get_none.1 hg)
 | some v=>rfl
theorem v6a (body:List (Int × List RN) -> List Nat × List (Int × List RN) -> M (Step (List Nat × List (Int × List RN)) (List (Int × List RN)))) (do_:List RN -> List RN -> M (List RN)) (F:List RN -> List RN -> List RN) (m y:List (Int × List RN)) (hn:(m.map (·.1)).Nodup)
  (hb:∀ L v,body y (L,v) = yV (∀ i ∈ L,i < v.length) ((nxt v.length L).bind fun o=>match o with | none=>pure (.done v) | some j=>(idx v (Int.ofNat j)).bind fun kv=>(do_ kv.2 (AL.getZ y kv.1 [])).det.bind fun r=>yV (AL.has v kv.1 = true) (pure (.next (L ++ [j],AL.set v kv.1 r)))))
  (hdo:∀ e ∈ m,do_ e.2 (AL.getZ y e.1 []) = pure (F e.2 (AL.getZ y e.1 []))):loop (body y) ([],m) = pure (m.map fun e=>(e.1,F e.2 (AL.getZ y e.1 []))):=by
 refine Zq ?_;have:=loopN (body:=body y) m.length (fun L (v:List (Int × List RN))=>(L,v)) (fun L v=>v = JD (fun e=>F e.2 (AL.getZ y e.1 [])) m L) (fun r=>r = m.map fun e=>(e.1,F e.2 (AL.getZ y e.1 []))) (fun L v hv hL hlt=>by
  have hlen:v.length = m.length:=by rw [hv];exact UU
  refine ⟨fun o=>match o with | none=>pure (.done v) | some j=>(idx v (Int.ofNat j)).bind fun kv=>(do_ kv.2 (AL.getZ y kv.1 [])).det.bind fun r=>yV (AL.has v kv.1 = true) (pure (.next (L ++ [j],AL.set v kv.1 r))),?_,?_,?_⟩
  ·rw [hb,hlen]
  ·intro hall;show v = _;rw [hv];exact xRa hall
  ·intro i hi hiL;have hm:=List.getElem?_eq_getElem hi;have hvi:v[i]? = some m[i]:=by rw [hv,xf,hm];simp [hiL]
   refine ⟨AL.set v (m[i]).1 (F (m[i]).2 (AL.getZ y (m[i]).1 [])),?_,?_⟩
   ·show (idx v (Int.ofNat i)).bind _ = _;rw [show (Int.ofNat i) = (i:Int) from rfl,zH hvi,zA,hdo _ (List.getElem_mem hi),zB,zA,zC];refine has_key ?_;rw [hv,Wr];exact List.mem_map.2 ⟨m[i],List.getElem_mem hi,rfl⟩
   ·rw [hv];exact zUa hn hm hiL) m (by
  apply List.ext_getElem?;intro i;rw [xf]
  cases m[i]? <;> simp)
 exact this
theorem xaa {op:Bool -> Bool -> Bool} (h0:op false false = false) (a b:List RN):R.nrm (R.ZJ op a b) = R.ZJ op a b:=R.qx (R.zl op h0 a b).1
theorem wda {op:Bool -> Bool -> Bool} (h0:op false false = false) (hr:∀ x,op false x = false) (a b:List PT) (ha:Sm a) (hb:Sm b) :
  uX ((wh a).map fun e=>(e.1,R.ZJ op e.2 (AL.getZ (wh b) e.1 []))) = pure (opC op a b):=by
 have hlenR:∀ x y:List RN,(R.ZJ op x y).length <= 2 * (x.length + y.length):=fun x y=>(R.zl op h0 x y).2.2
 refine xZa _ _ _ (by have:=ql a;have:=ha.1;simp;omega) (fun e he=>?_) (by rw [List.map_map];exact uR a) (xV _) (fun e he hne=>?_) (fun k hk hne=>?_)
 ·obtain ⟨x,hx,rfl⟩:=List.mem_map.1 he;have h1:=hlenR x.2 (AL.getZ (wh b) x.1 []);rw [(YN hx).1,vD] at h1;have:=xg a x.1;have:=xg b x.1;have:=ha.2;have:=hb.2;show (R.ZJ op x.2 (AL.getZ (wh b) x.1 [])).length <= _;rw [(YN hx).1,vD];omega
 ·obtain ⟨x,hx,rfl⟩:=List.mem_map.1 he;obtain ⟨h1,h2,h3⟩:=YN hx;refine ⟨?_,?_⟩
  ·show x.1 ∈ _;obtain ⟨⟨p,hp,hd⟩,_⟩:=wO.1 h3;exact wO.2 ⟨⟨p,List.mem_append_left _ hp,hd⟩,h2⟩
  ·show R.nrm (R.ZJ op x.2 (AL.getZ (wh b) x.1 [])) = _;rw [xaa h0,vD,h1]
 ·have hra:yK a k ≠ []:=fun e=>hne (by
   rw [e];exact R.Ws (R.zl op h0 _ _).1 trivial fun n=>by rw [(R.zl op h0 _ _).2.1];show op (R.yC [] n) _ = _;exact hr _)
  refine ⟨R.ZJ op (yK a k) (AL.getZ (wh b) k []),List.mem_map.2 ⟨(k,yK a k),yba hra,rfl⟩,?_⟩;rw [xaa h0,vD]
theorem Minus_eq (a b:List PT) (ha:Sm a) (hb:Sm b):WX a b = pure (opC (fun x y=>x && !y) a b):=by
 unfold WX wW;rw [QD a ha,zB,zA,QD b hb,zB,zA,v6a vJ ZS (R.ZJ (fun x y=>x && !y)) (wh a) (wh b) (uR a) (fun L v=>rfl) (fun e he=>?_),zA,wda rfl (fun _=>rfl) a b ha hb,zB,zA,zB,zA];rw [(YN he).1,vD];have:=xg a e.1;have:=xg b e.1;have:=ha.2;have:=hb.2;exact R.minus_eq _ _ (by omega) (by omega)
theorem jV (a b:List PT) (ha:Sm a) (hb:Sm b):uP a b = pure (decide (opC (fun x y=>x && !y) a b = [])):=by
 unfold uP;rw [Minus_eq a b ha hb,zB,zA];refine congrArg pure ?_
 cases opC (fun x y=>x && !y) a b with
 | nil=>rfl
 | cons p r=>simp;omega
theorem partEq (x y:PT):(decide (x.dev = y.dev) && decide (x.runs = y.runs)) = decide (x = y):=by
 rw [Bool.eq_iff_iff]
 cases x;cases y
 simp
theorem eqP_eq (a b:List PT) (ha:a.length <= 1000000000000) (hr:∀ p ∈ a,p.runs.length <= 1000000000000):zX a b = pure (decide (a = b)):=by
 unfold zX
 by_cases hl:(a.length:Int) = b.length
 ·simp only [hl,decide_true,Bool.not_true,cond_false];have:=xU (body:=zS a b) a (fun i=>(i:Int)) (fun i x=>decide (b[i]? = some x)) (.brk ()) (.ret false) (fun i x hx hi=>by
   have hb:i < b.length:=by omega
   have hby:=List.getElem?_eq_getElem hb;unfold zS Uq;have h1:decide ((i:Int) < (a.length:Int)) = true:=by simpa using hi
   simp only [h1,cond_true,zH hx,zH hby,zA,R.seq_eq x.runs _ (hr x (List.mem_of_getElem? hx)),zB,zW,partEq,yN (show i < 9223372036854775807 by omega)];rw [hby]
   by_cases hxy:x = b[i] <;> simp [hxy,eq_comm,zA]) (by unfold zS;simp)
  rw [show (0:Int) = ((0:Nat):Int) from rfl,this];have hiff:(a.zipIdx.all fun y=>decide (b[y.2]? = some y.1)) = decide (a = b):=by
   rw [Bool.eq_iff_iff,List.all_eq_true,decide_eq_true_eq]
   constructor
   ·intro h;apply List.ext_getElem?;intro i
    by_cases hi:i < a.length
    ·have:=h (a[i],i) (by rw [List.mem_zipIdx_iff_getElem?];exact List.getElem?_eq_getElem hi);simp only [decide_eq_true_eq] at this;rw [this,List.getElem?_eq_getElem hi]
    ·rw [List.getElem?_eq_none (by omega),List.getElem?_eq_none (by omega)]
   ·rintro rfl y hy;rw [List.mem_zipIdx_iff_getElem?] at hy;simpa using hy
  rw [hiff]
  by_cases h:a = b <;> simp [h,exk,zA]
 ·have:¬ a = b:=fun e=>hl (by rw [e])
  simp [hl,this]
theorem eq_eq (a b:List PT) (ha:a.length <= 1000000000000) (hr:∀ p ∈ a,p.runs.length <= 1000000000000):xGa a b = pure (decide (a = b)):=by
 unfold xGa;rw [eqP_eq a b ha hr,zB,zA]
theorem JX {c:List PT}:∀ p ∈ c,p.runs.length <= yJ c:=by
 induction c with
 | nil=>intro p hp;simp at hp
 | cons q r ih=>
  intro p hp;have e:yJ (q :: r) = q.runs.length + yJ r:=by simp [yJ]
  rcases List.mem_cons.1 hp with rfl | hp
  ·omega
  ·have:=ih p hp;omega
theorem ZK (c:List PT) (h:Sm c):wI c = pure (decide (c = zk c)):=by
 unfold wI;rw [yia c h,zB,zA,eq_eq _ _ (by have:=h.1;omega) (fun p hp=>by have:=JX p hp;have:=h.2;omega),zB,zA]


theorem rEq_eq (a b:List PT) (ha:a.length <= 1000000000000) (hr:∀ p ∈ a,p.runs.length <= 1000000000000):Qy a b = pure (decide (a = b)):=by
 unfold Qy
 by_cases hl:(a.length:Int) = b.length
 ·simp only [hl,decide_true,Bool.not_true,cond_false];have:=xU (body:=We a b) a (fun i=>(i:Int)) (fun i x=>decide (b[i]? = some x)) (.brk ()) (.ret false) (fun i x hx hi=>by
   have hb:i < b.length:=by omega
   have hby:=List.getElem?_eq_getElem hb;unfold We;have h1:decide ((i:Int) < (a.length:Int)) = true:=by simpa using hi
   simp only [h1,cond_true,zH hx,zH hby,zA,R.req_eq x.runs _ (hr x (List.mem_of_getElem? hx)),zB,yN (show i < 9223372036854775807 by omega)];rw [hby];have he:=partEq x b[i]
   by_cases hd:x.dev = (b[i]).dev
   ·by_cases hq:x.runs = (b[i]).runs
    ·simp only [hd,hq,decide_true,Bool.and_self,eq_comm (a:=true),decide_eq_true_eq] at he;simp [hd,hq,he,zA]
    ·have hne:¬ x = b[i]:=fun e=>hq (by rw [e])
     have hne2:¬ b[i] = x:=fun e=>hne e.symm
     simp [hd,hq,hne2,zA]
   ·have hne2:¬ b[i] = x:=fun e=>hd (by rw [e])
    simp [hd,hne2,zA]) (by unfold We;simp)
  rw [show (0:Int) = ((0:Nat):Int) from rfl,this];have hiff:(a.zipIdx.all fun y=>decide (b[y.2]? = some y.1)) = decide (a = b):=by
   rw [Bool.eq_iff_iff,List.all_eq_true,decide_eq_true_eq]
   constructor
   ·intro h;apply List.ext_getElem?;intro i
    by_cases hi:i < a.length
    ·have:=h (a[i],i) (by rw [List.mem_zipIdx_iff_getElem?];exact List.getElem?_eq_getElem hi);simp only [decide_eq_true_eq] at this;rw [this,List.getElem?_eq_getElem hi]
    ·rw [List.getElem?_eq_none (by omega),List.getElem?_eq_none (by omega)]
   ·rintro rfl y hy;rw [List.mem_zipIdx_iff_getElem?] at hy;simpa using hy
  rw [hiff]
  by_cases h:a = b <;> simp [h,exk,zA]
 ·have:¬ a = b:=fun e=>hl (by rw [e])
  simp [hl,this]
theorem rEq_sm (a b:List PT) (h:Sm a):Qy a b = pure (decide (a = b)):=rEq_eq a b (by have:=h.1;omega) fun p hp=>by have:=JX p hp;have:=h.2;omega
theorem xba (u v:List RN):R.ZJ (· || ·) (R.nrm u) v = R.nrm (u ++ v):=R.Ws (R.zl _ rfl _ _).1 (R.Ze _) fun n=>by rw [(R.zl _ rfl _ _).2.1,R.wc,R.wc,R.uL]
theorem UX (c:List PT) (k:Int) (hk:0 <= k) (h:c.length <= 1000000000) (ht:yJ c <= 1000000000):XU c k = pure (R.nrm (yK c k)):=by
 unfold XU;have hpre:∀ i,(yK (c.take i) k).length <= 1000000000:=fun i=>by
  have h1:=xg (c.take i) k;have h2:yJ (c.take i) <= yJ c:=by
   conv=>rhs;rw [<- List.take_append_drop i c]
   rw [QA];omega
  omega
 have:=Yu (body:=Zw c k) c (fun i (t:List RN)=>(t,(i:Int))) (fun t p=>if p.dev = k /\ 0 < k then R.ZJ (· || ·) t p.runs else t) (fun t=>pure t) (fun i t=>t = R.nrm (yK (c.take i) k)) (fun i x t hx hi ht2=>by
  have h1:decide ((i:Int) < (c.length:Int)) = true:=by simpa using hi
  have hxl:x.runs.length <= 1000000000:=by have:=JX x (List.mem_of_getElem? hx);omega
  have htl:t.length <= 2000000000:=by have:=R.vQ (yK (c.take i) k);have:=hpre i;rw [ht2];omega
  unfold Zw;simp only [h1,cond_true,zH hx,zA,yN (show i < 9223372036854775807 by omega),vC];have hnext:(if x.dev = k /\ 0 < k then R.ZJ (· || ·) t x.runs else t) = R.nrm (yK (c.take (i + 1)) k):=by
   rw [List.take_add_one,hx,Wx,Option.toList,vp,Ww,List.append_nil,ht2]
   split
   ·exact xba _ _
   ·rw [List.append_nil]
  refine ⟨?_,hnext⟩
  by_cases hd:x.dev = k
  ·by_cases h0:k = 0
   ·have:¬ (x.dev = k /\ 0 < k):=by omega
    rw [if_neg this,if_pos hd];simp [h0,zA]
   ·rw [if_pos (show x.dev = k /\ 0 < k from ⟨hd,by omega⟩),if_pos hd];simp only [h0,decide_false,Bool.not_false,zA,cond_true];rw [R.xVa _ _ (by omega),zB,zA,zA]
  ·rw [if_neg (fun (q:x.dev = k /\ 0 < k)=>hd q.1),if_neg hd]
   rfl) (fun t _=>by unfold Zw;simp [zA]) [] (by rw [List.take_zero,Ww,Vf])
 rw [show (([]:List RN),(0:Int)) = ([],((0:Nat):Int)) from rfl,this];have key:∀ (l:List PT) (u:List RN),l.foldl (fun t p=>if p.dev = k /\ 0 < k then R.ZJ (· || ·) t p.runs else t) (R.nrm u) = R.nrm (u ++ yK l k):=by
  intro l
  induction l with
  | nil=>intro u;simp [yK]
  | cons p r ih=>
   intro u;rw [List.foldl_cons,vp]
   by_cases hp:p.dev = k /\ 0 < k
   ·rw [if_pos hp,if_pos hp,xba,ih,List.append_assoc]
   ·rw [if_neg hp,if_neg hp,ih,List.nil_append]
 have h2:=key c [];rw [Vf,List.nil_append] at h2;rw [h2];rfl
def yja (c:List PT):List Int:=c.foldl (fun l p=>V.jq l p.dev) []
theorem QE (c:List PT):∀ l:List Int,l.Pairwise (· < ·) -> (c.foldl (fun l p=>V.jq l p.dev) l).Pairwise (· < ·) /\ (∀ k,k ∈ c.foldl (fun l p=>V.jq l p.dev) l ↔ k ∈ l \/ ∃ p ∈ c,p.dev = k) /\ (c.foldl (fun l p=>V.jq l p.dev) l).length <= l.length + c.length:=by
 induction c with
 | nil=>intro l h;simp [h]
 | cons p r ih=>
  intro l h;rw [List.foldl_cons];obtain ⟨h1,h2,h3⟩:=ih _ (V.um h p.dev);refine ⟨h1,fun k=>?_,by have:=V.Wq l p.dev;simp;omega⟩;rw [h2,V.US]
  constructor
  ·rintro ((rfl | h4) | ⟨x,h4,h5⟩)
   ·exact .inr ⟨p,by simp,rfl⟩
   ·exact .inl h4
   ·exact .inr ⟨x,by simp [h4],h5⟩
  ·rintro (h4 | ⟨x,h4,h5⟩)
   ·exact .inl (.inr h4)
   ·rcases List.mem_cons.1 h4 with rfl | h4
    ·exact .inl (.inl h5.symm)
    ·exact .inr ⟨x,h4,h5⟩
theorem jW (c:List PT):(yja c).Pairwise (· < ·):=(QE c [] List.Pairwise.nil).1
theorem xca {c:List PT} {k:Int}:k ∈ yja c ↔ ∃ p ∈ c,p.dev = k:=by
 have:=(QE c [] List.Pairwise.nil).2.1 k;unfold yja;rw [this];simp
theorem xda (c:List PT):(yja c).length <= c.length:=by simpa [yja] using (QE c [] List.Pairwise.nil).2.2
theorem Wv (l:List Int):(V.Xi l).length = l.length:=by simp [V.Xi]
theorem rdevs_eq (a b:List PT) (h:a.length + b.length <= 10000000000):qA a b = pure (V.Xi (yja (a ++ b))):=by
 unfold qA;have h1:=Yu (body:=Zy a) a (fun i (l:List Int)=>(V.Xi l,(i:Int))) (fun l p=>V.jq l p.dev) (fun l=>pure (V.Xi l)) (fun i l=>l.Pairwise (· < ·) /\ l.length <= i) (fun i x l hx hi ⟨hs,hl⟩=>by
  have h1:decide ((i:Int) < (a.length:Int)) = true:=by simpa using hi
  unfold Zy;simp only [h1,cond_true,zH hx,zA,yN (show i < 9223372036854775807 by omega)];rw [V.VZ _ _ (by rw [Wv];omega),zB,zA,V.xSa hs];exact ⟨rfl,V.um hs _,by have:=V.Wq l x.dev;omega⟩) (fun l _=>by unfold Zy;simp [zA]) [] ⟨List.Pairwise.nil,by simp⟩
 have h2:=Yu (body:=ub b) b (fun i (l:List Int)=>(V.Xi l,(i:Int))) (fun l p=>V.jq l p.dev) (fun l=>pure (V.Xi l)) (fun i l=>l.Pairwise (· < ·) /\ l.length <= a.length + i) (fun i x l hx hi ⟨hs,hl⟩=>by
  have h1:decide ((i:Int) < (b.length:Int)) = true:=by simpa using hi
  unfold ub;simp only [h1,cond_true,zH hx,zA,yN (show i < 9223372036854775807 by omega)];rw [V.VZ _ _ (by rw [Wv];omega),zB,zA,V.xSa hs];exact ⟨rfl,V.um hs _,by have:=V.Wq l x.dev;omega⟩) (fun l _=>by unfold ub;simp [zA]) (yja a) ⟨jW a,by have:=xda a;omega⟩
 rw [show (([]:List DT),(0:Int)) = (V.Xi [],((0:Nat):Int)) from rfl,h1,zA];show (loop (ub b) (V.Xi (yja a),((0:Nat):Int))).bind _ = _;rw [h2,zA];unfold yja;rw [List.foldl_append]
theorem Vc (op:Bool -> Bool -> Bool) (how:Int) (hop:∀ x y,op x y = if how = 2 then (x && !y) else if how = 1 then (x && y) else (x || y)) (h0:op false false = false) (a b:List PT) (oa:∀ p ∈ a,0 <= p.dev) (ob:∀ p ∈ b,0 <= p.dev) (ha:a.length <= 1000000000) (hb:b.length <= 1000000000) (ta:yJ a <= 1000000000) (tb:yJ b <= 1000000000):qC a b how = pure (opC op a b):=by
 unfold qC;rw [rdevs_eq a b (by omega),zB,zA];have hlenA:∀ k,(R.nrm (yK a k)).length <= 2000000000:=fun k=>by have:=R.vQ (yK a k);have:=xg a k;omega
 have hlenB:∀ k,(R.nrm (yK b k)).length <= 2000000000:=fun k=>by have:=R.vQ (yK b k);have:=xg b k;omega
 have hop':∀ k,R.ZJ op (R.nrm (yK a k)) (R.nrm (yK b k)) = R.ZJ op (yK a k) (yK b k):=fun k=>R.Ws (R.zl op h0 _ _).1 (R.zl op h0 _ _).1 fun n=>by rw [(R.zl op h0 _ _).2.1,(R.zl op h0 _ _).2.1,R.wc,R.wc]
 have hkey:∀ k ∈ yja (a ++ b),0 <= k:=fun k hk=>by
  obtain ⟨p,hp,rfl⟩:=xca.1 hk;rcases List.mem_append.1 hp with hp | hp
  ·exact oa p hp
  ·exact ob p hp
 have hnd:(yja (a ++ b)).length <= 2000000000:=by have:=xda (a ++ b);rw [List.length_append] at this;omega
 have hgo:=Yu (body:=XW (V.Xi (yja (a ++ b))) a b how) (yja (a ++ b)) (fun i (t:List PT)=>((i:Int),t)) (fun t k=>if R.ZJ op (yK a k) (yK b k) = [] then t else t ++ [⟨k,R.ZJ op (yK a k) (yK b k)⟩]) (fun t=>pure t) (fun i t=>t.length <= i) (fun i k t hk hi hl=>by
  have h1:decide ((i:Int) < ((V.Xi (yja (a ++ b))).length:Int)) = true:=by rw [Wv];simpa using hi
  have hx:(V.Xi (yja (a ++ b)))[i]? = some ⟨k,1⟩:=by simp [V.Xi,hk]
  have hk0:0 <= k:=hkey k (List.mem_of_getElem? hk);unfold XW;simp only [h1,cond_true,zH hx,zA,UX a k hk0 ha ta,UX b k hk0 hb tb,zB,yN (show i < 9223372036854775807 by omega)];have hl1:=hlenA k;have hl2:=hlenB k;rw [R.xVa _ _ (by omega),zB,zA,R.rmeet_eq _ _ (by omega),zB,zA,R.vxa _ _ (by omega),zB,zA];have hz:(cond (decide (how = 1)) (pure (R.ZJ (· && ·) (R.nrm (yK a k)) (R.nrm (yK b k)))) (pure (R.ZJ (· || ·) (R.nrm (yK a k)) (R.nrm (yK b k)))):M (List RN)).bind (fun z=>cond (decide (how = 2)) (pure (R.ZJ (fun x y=>x && !y) (R.nrm (yK a k)) (R.nrm (yK b k)))) (pure z)) = pure (R.ZJ op (yK a k) (yK b k)):=by
   rw [<- hop' k]
   by_cases h2:how = 2
   ·subst h2;have:op = fun x y=>x && !y:=by funext x y;rw [hop];simp
    rw [this];rfl
   ·by_cases h1:how = 1
    ·subst h1;have:op = fun x y=>x && y:=by funext x y;rw [hop];simp
     rw [this];rfl
    ·have:op = fun x y=>x || y:=by funext x y;rw [hop];simp [h1,h2]
     rw [this];simp [h1,h2,zA]
  rw [<- JL,hz,zA];have hsl:=(R.zl op h0 (yK a k) (yK b k)).2.2
  by_cases hz0:R.ZJ op (yK a k) (yK b k) = []
  ·rw [if_pos hz0];simp only [hz0,List.length_nil];exact ⟨rfl,by omega⟩
  ·rw [if_neg hz0];have:decide (0 < ((R.ZJ op (yK a k) (yK b k)).length:Int)) = true:=by
    have:=List.length_pos_iff.2 hz0;simp;omega
   rw [this,cond_true,zC (by simp;omega)];exact ⟨rfl,by simp;omega⟩) (fun t _=>by unfold XW;rw [Wv];simp [zA]) [] (by simp)
 rw [show ((0:Int),([]:List PT)) = (((0:Nat):Int),[]) from rfl,hgo,zA];have key:∀ (ks:List Int) (t:List PT),ks.foldl (fun t k=>if R.ZJ op (yK a k) (yK b k) = [] then t else t ++ [⟨k,R.ZJ op (yK a k) (yK b k)⟩]) t = t ++ yG (fun k=>R.ZJ op (yK a k) (yK b k)) ks:=by
  intro ks
  induction ks with
  | nil=>intro t;simp [yG]
  | cons k ks ih=>
   intro t;rw [List.foldl_cons,ih]
   by_cases h:R.ZJ op (yK a k) (yK b k) = []
   ·rw [if_pos h];simp [yG,h]
   ·rw [if_neg h];simp [yG,h]
 rw [key,List.nil_append];refine congrArg pure (jR (jW _) (xV _) (fun _=>rfl) fun k hk=>?_);have hr:yK (a ++ b) k ≠ []:=fun e=>hk (by
  rw [Wx] at e;have:=List.append_eq_nil_iff.1 e;rw [this.1,this.2];exact xXa h0)
 exact ⟨fun _=>ZG hr,fun _=>xca.2 (wO.1 (ZG hr)).1⟩
structure Ok (c:List PT):Prop where
 dev:∀ p ∈ c,0 <= p.dev
 len:c.length <= 1000000000
 tot:yJ c <= 1000000000
theorem Ok.sm {c:List PT} (h:Ok c):Sm c:=⟨by have:=h.len;omega,by have:=h.tot;omega⟩
section
variable (a b:List PT) (ha:Ok a) (hb:Ok b)
include ha hb
theorem v7a : Uy a b = pure (opC (fun x y=>x && !y) a b):=by
 unfold Uy;rw [Vc (fun x y=>x && !y) 2 (fun x y=>by simp) rfl a b ha.dev hb.dev ha.len hb.len ha.tot hb.tot,zB,zA]
theorem Xb : ZX a b = pure (decide (opC (fun x y=>x && !y) a b = [])):=by
 unfold ZX;rw [v7a a b ha hb,zB,zA];refine congrArg pure ?_
 cases opC (fun x y=>x && !y) a b with
 | nil=>rfl
 | cons p r=>simp;omega
end
theorem ok_nil : Ok []:=⟨fun p h=>by simp at h,by simp,by simp [yJ]⟩
theorem opC_nil (c:List PT):opC (· || ·) c [] = zk c:=by rw [<- norm_or,List.append_nil]
theorem QF (c:List PT) (h:Ok c):Wf c = pure (zk c):=by
 unfold Wf;rw [Vc (· || ·) 0 (fun x y=>by simp) rfl c [] h.dev ok_nil.dev h.len ok_nil.len h.tot ok_nil.tot,zB,zA,opC_nil]
theorem sm_norm {c:List PT} (h:Ok c):Sm (zk c):=⟨by have:=un c;have:=h.len;omega,by have:=uo c;have:=h.tot;omega⟩
theorem UY (a b:List PT) (ha:Ok a) (hb:Ok b):XX a b = pure (decide (zk a = zk b)):=by
 unfold XX;rw [QF a ha,zB,zA,QF b hb,zB,zA,rEq_sm _ _ (sm_norm ha),zB,zA]
theorem vE (c:List PT) (h:Ok c):ZF c = pure (decide (c = zk c)):=by
 unfold ZF;rw [QF c h,zB,zA,rEq_sm _ _ h.sm,zB,zA]
theorem has_pos {c:List PT} {k n:Int} (h:xm c k n = true):0 < k /\ 1 <= n /\ n <= 281474976710655:=by
 refine ⟨Classical.byContradiction fun h0=>?_,R.JS h⟩;unfold xm at h;rw [Wy h0] at h
 cases h
theorem Vh (c:List PT) (d:DT) (h:Ok c):VW c d = pure (xm c d.dev d.n):=by
 unfold VW;rw [V.YK,zB,zA]
 by_cases hg:V.yF d = true
 ·have h1:=V.uk.1 hg;rw [hg,cond_true,UX c d.dev (by omega) h.len h.tot,zB,zA,R.yea _ _ (by have:=R.vQ (yK c d.dev);have:=xg c d.dev;have:=h.tot;omega),zB,zA,zA,R.wc]
  rfl
 ·have hg':V.yF d = false:=by simpa using hg
  rw [hg',cond_false,zA]
  cases hh:xm c d.dev d.n with
  | false=>rfl
  | true=>obtain ⟨h1,h2,h3⟩:=has_pos hh;exact absurd (V.uk.2 ⟨by omega,h2,h3⟩) hg
theorem QG {c:List PT} (h:(decide (c.length <= 30) && c.all fun p=>decide (p.runs.length <= 30)) = true):c.length <= 30 /\ yJ c <= 900:=by
 rw [Bool.and_eq_true,decide_eq_true_eq,List.all_eq_true] at h;refine ⟨h.1,?_⟩;have:∀ l:List PT,(∀ p ∈ l,decide (p.runs.length <= 30) = true) -> yJ l <= l.length * 30:=by
  intro l
  induction l with
  | nil=>intro _;simp [yJ]
  | cons p r ih=>
   intro hl;have e:yJ (p :: r) = p.runs.length + yJ r:=by simp [yJ]
   have h1:=ih fun q hq=>hl q (by simp [hq])
   have h2:=hl p (by simp);simp only [decide_eq_true_eq] at h2;simp only [List.length_cons];omega
 have:=this c h.2;omega


theorem v8a {l:List DT} (h:l.length <= 400000000):Ok (zk (jU l)):=⟨fun p hp=>by have:=((vT (jU l)).nf p hp).1;omega,by have:=un (jU l);have:=VA l;omega,by have:=uo (jU l);have:=dots_tot l;omega⟩
def up (c:List PT) (k:Int):List PT:=zk [⟨k,R.nrm (yK c k)⟩]
theorem Only_eq (c:List PT) (k:Int) (h:Ok c):UJ c k = pure (up c k):=by
 unfold UJ up;have h1:=R.vQ (yK c k);have h2:=xg c k;have h3:=h.tot;rw [v5a c k h.sm,zB,zA,yia _ ⟨by simp,by simp [yJ];omega⟩,zB,zA]
theorem zda (c:List PT) (k:Int):up c k = if R.nrm (yK c k) = [] then [] else [⟨k,R.nrm (yK c k)⟩]:=by
 unfold up
 by_cases h:R.nrm (yK c k) = []
 ·rw [if_pos h,h];refine JV (vT _) fun q n=>?_
  rw [Zf];unfold xm;rw [vp,Ww]
  split <;> rfl
 ·rw [if_neg h];have h0:0 < k:=Classical.byContradiction fun h0=>h (by rw [Wy h0];exact Vf)
  exact Vg ⟨List.pairwise_singleton _ _,fun p hp=>by rw [List.mem_singleton] at hp;subst hp;exact ⟨h0,h,R.Ze _⟩⟩
theorem QH (c:List PT) (k:Int) (hk:0 <= k) (h:Ok c):XY c k = pure (up c k):=by
 unfold XY;rw [UX c k hk h.len h.tot,zB,zA,zda]
 cases R.nrm (yK c k) with
 | nil=>rfl
 | cons x r=>
  have:decide (((x :: r).length:Int) = 0) = false:=by simp;omega
  rw [this];simp
theorem xea {c:List PT} (o:∀ p ∈ c,0 <= p.dev) (h:c.length <= 30 /\ yJ c <= 900):Ok c:=⟨o,by omega,by omega⟩
end Go.Ep.M.C


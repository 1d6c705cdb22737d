/- Texts that the walks and laws lean on, side by side. -/
import Derived.Test.YtkebaehlcmgccaaGreatMBr3
import Derived.Test.YtkebaehlcmgccaaGreatMBr10
set_option linter.unusedVariables false
set_option linter.unusedSimpArgs false
namespace Go.Ep.M.R
open Go

def mayR (x:TRun):Bool:=decide (1 <= x.lo) && (decide (x.lo <= x.hi) && decide (x.hi <= 281474976710655))
theorem zd {x:TRun}:mayR x = true ↔ 1 <= x.lo /\ x.lo <= x.hi /\ x.hi <= 281474976710655:=by simp [mayR]
def inR (n:Int) (x:TRun):Bool:=mayR x && (decide (x.lo <= n) && decide (n <= x.hi))
theorem ym {n:Int} {x:TRun}:inR n x = true ↔ (1 <= x.lo /\ x.lo <= x.hi /\ x.hi <= 281474976710655) /\ x.lo <= n /\ n <= x.hi:=by simp [inR,mayR]
def hasR (l:List TRun) (n:Int):Bool:=l.any (inR n)
theorem wA {l:List TRun} {n:Int}:hasR l n = true ↔ ∃ x ∈ l,mayR x = true /\ x.lo <= n /\ n <= x.hi:=by
 unfold hasR;rw [List.any_eq_true];simp [inR]
@[simp] theorem qf (n:Int):hasR [] n = false:=rfl
theorem xW (x:TRun) (l:List TRun) (n:Int):hasR (x :: l) n = (inR n x || hasR l n):=rfl
theorem uO (a b:List TRun) (n:Int):hasR (a ++ b) n = (hasR a n || hasR b n):=by simp [hasR]
theorem va (x:TRun) (n:Int):hasR [x] n = inR n x:=by simp [hasR]
theorem w9a {a b:List TRun} (h:a.Perm b) (n:Int):hasR a n = hasR b n:=by
 rw [Bool.eq_iff_iff,wA,wA];simp only [h.mem_iff]
theorem yGa (l:List TRun) (n:Int):hasR (l.filter mayR) n = hasR l n:=by
 rw [Bool.eq_iff_iff,wA,wA];simp only [List.mem_filter];exact ⟨fun ⟨x,⟨h1,_⟩,h3⟩=>⟨x,h1,h3⟩,fun ⟨x,h1,h2,h3⟩=>⟨x,⟨h1,h2⟩,h2,h3⟩⟩
theorem Ja {l:List TRun} {n:Int} (h:hasR l n = true):1 <= n /\ n <= 281474976710655:=by
 obtain ⟨x,_,h2,h3,h4⟩:=wA.1 h;have:=zd.1 h2;omega

def Nf : List TRun -> Prop
 | []=>True
 | x :: r=>mayR x = true /\ (∀ y ∈ r,x.hi + 1 < y.lo) /\ Nf r
theorem Nf.may {l:List TRun} (h:Nf l):∀ x ∈ l,mayR x = true:=by
 induction l with
 | nil=>simp
 | cons y r ih=>
  intro x hx;rcases List.mem_cons.1 hx with rfl | hx
  ·exact h.1
  ·exact ih h.2.2 x hx
theorem Yj {l:List TRun} {z:TRun}:Nf (l ++ [z]) ↔ Nf l /\ mayR z = true /\ ∀ p ∈ l,p.hi + 1 < z.lo:=by
 induction l with
 | nil=>simp [Nf]
 | cons x r ih=>
  simp only [List.cons_append,Nf,ih,List.mem_append,List.mem_cons,List.not_mem_nil,or_false]
  constructor
  ·rintro ⟨h1,h2,h3,h4,h5⟩;refine ⟨⟨h1,fun y hy=>h2 y (.inl hy),h3⟩,h4,fun p hp=>?_⟩;rcases hp with rfl | hp
   ·exact h2 z (.inr rfl)
   ·exact h5 p hp
  ·rintro ⟨⟨h1,h2,h3⟩,h4,h5⟩;refine ⟨h1,fun y hy=>?_,h3,h4,fun p hp=>h5 p (.inr hp)⟩;rcases hy with hy | rfl
   ·exact h2 y hy
   ·exact h5 x (.inl rfl)
theorem jQ {x:TRun} {r:List TRun} (h:Nf (x :: r)) {n:Int} (hn:hasR r n = true):x.hi + 1 < n:=by
 obtain ⟨y,h1,_,h3,_⟩:=wA.1 hn;have:=h.2.1 y h1;omega
theorem qg {x:TRun} {r:List TRun} (h:Nf (x :: r)):hasR (x :: r) x.lo = true:=by
 rw [xW];have:=zd.1 h.1;rw [Bool.or_eq_true];exact .inl (ym.2 ⟨this,by omega,by omega⟩)
theorem qh {x:TRun} {r:List TRun} (h:Nf (x :: r)) {n:Int} (hn:hasR (x :: r) n = true):x.lo <= n:=by
 rw [xW,Bool.or_eq_true] at hn;rcases hn with hn | hn
 ·exact (ym.1 hn).2.1
 ·have:=jQ h hn;have:=zd.1 h.1;omega
theorem yHa {x:TRun} {r:List TRun} (h:Nf (x :: r)) {n:Int} (h1:x.lo <= n):hasR (x :: r) n = true ↔ n <= x.hi \/ hasR r n = true:=by
 rw [xW,Bool.or_eq_true,ym];have:=zd.1 h.1
 constructor
 ·rintro (h2 | h2)
  ·exact .inl h2.2.2
  ·exact .inr h2
 ·rintro (h2 | h2)
  ·exact .inl ⟨this,h1,h2⟩
  ·exact .inr h2
theorem VE : ∀ {a b:List TRun},Nf a -> Nf b -> (∀ n,hasR a n = hasR b n) -> a = b
 | [],[],_,_,_=>rfl
 | [],y :: s,_,hb,h=>by have:=h y.lo;rw [qg hb] at this;simp at this
 | x :: r,[],ha,_,h=>by have:=h x.lo;rw [qg ha] at this;simp at this
 | x :: r,y :: s,ha,hb,h=>by
  have h1:x.lo = y.lo:=by
   have h2:=qh hb (by rw [<- h];exact qg ha);have h3:=qh ha (by rw [h];exact qg hb);omega
  have hx:=zd.1 ha.1;have hy:=zd.1 hb.1;have hle:∀ {x y:TRun} {r s:List TRun},Nf (x :: r) -> Nf (y :: s) -> (∀ n,hasR (x :: r) n = hasR (y :: s) n) -> x.lo = y.lo -> y.hi <= x.hi:=by
   intro x y r s ha hb h h1;have hx:=zd.1 ha.1;refine Classical.byContradiction fun hc=>?_
   have h2:hasR (y :: s) (x.hi + 1) = true:=(yHa hb (by omega)).2 (.inl (by omega));rw [<- h,yHa ha (by omega)] at h2;rcases h2 with h2 | h2
   ·omega
   ·have:=jQ ha h2;omega
  have h2:x.hi = y.hi:=by
   have:=hle ha hb h h1;have:=hle hb ha (fun n=>(h n).symm) h1.symm;omega
  have he:x = y:=by cases x;cases y;simp_all
  subst he;rw [VE ha.2.2 hb.2.2 fun n=>?_];rw [Bool.eq_iff_iff];have h3:=h n
  constructor
  ·intro hn;have:=jQ ha hn;have h4:hasR (x :: r) n = true:=(yHa ha (by omega)).2 (.inr hn);rw [h3,yHa hb (by omega)] at h4;rcases h4 with h4 | h4
   ·omega
   ·exact h4
  ·intro hn;have:=jQ hb hn;have h4:hasR (x :: s) n = true:=(yHa hb (by omega)).2 (.inr hn);rw [<- h3,yHa ha (by omega)] at h4;rcases h4 with h4 | h4
   ·omega
   ·exact h4

def putS (n:Int) (s:Bool × List Int) (x:Int):Bool × List Int:=
 let t:=if s.1 = false /\ n <= x then (true,s.2 ++ [n]) else s
 if x = n then t else (t.1,t.2 ++ [x])
def putP (l:List Int) (n:Int):List Int:=let t:=l.foldl (putS n) (false,[]);if t.1 then t.2 else t.2 ++ [n]
abbrev Up (l:List Int):Prop:=l.Pairwise (· < ·)
theorem jR {l:List Int} {z:Int}:Up (l ++ [z]) ↔ Up l /\ ∀ p ∈ l,p < z:=by
 unfold Up;rw [List.pairwise_append];simp
theorem VF (n:Int):∀ (l:List Int) (s:Bool × List Int),Up l -> Up s.2 -> (∀ p ∈ s.2,∀ x ∈ l,p < x \/ (p = n /\ s.1 = true /\ p <= x)) -> (s.1 = true -> n ∈ s.2) -> (s.1 = false -> ∀ p ∈ s.2,p < n) ->
  Up (l.foldl (putS n) s).2 /\ (∀ m,m ∈ (l.foldl (putS n) s).2 ↔ m ∈ s.2 \/ (m ∈ l /\ m ≠ n) \/ (m = n /\ (l.foldl (putS n) s).1 = true)) /\ ((l.foldl (putS n) s).1 = false -> ∀ p ∈ (l.foldl (putS n) s).2,p < n) /\ (l.foldl (putS n) s).2.length <= s.2.length + l.length + (if s.1 then 0 else 1) /\ ((l.foldl (putS n) s).1 = false -> (l.foldl (putS n) s).2.length <= s.2.length + l.length)
 | [],s,_,hs,_,h2,h3=>by
  refine ⟨hs,fun m=>?_,h3,by simp,by simp⟩;simp only [List.foldl_nil,List.not_mem_nil,false_and,false_or];exact ⟨fun h=>.inl h,fun h=>h.elim id fun ⟨e,h⟩=>e ▸ h2 h⟩
 | x :: r,(d,out),hl,hs,h1,h2,h3=>by
  rw [List.foldl_cons];have hl':=List.pairwise_cons.1 hl;simp only at hs h1 h2 h3
  by_cases hc:d = false /\ n <= x
  ·obtain ⟨rfl,hnx⟩:=hc
   by_cases hx:x = n
   ·have e:putS n (false,out) x = (true,out ++ [n]):=by simp [putS,hx]
    rw [e];obtain ⟨i1,i2,i3,i4,i5⟩:=VF n r (true,out ++ [n]) hl'.2 (jR.2 ⟨hs,h3 rfl⟩) (fun p hp y hy=>by
     have:=hl'.1 y hy;rcases List.mem_append.1 hp with hp | hp
     ·have:=h3 rfl p hp;left;omega
     ·simp at hp;left;omega) (fun _=>by simp) (fun h=>by cases h)
    refine ⟨i1,fun m=>?_,i3,?_,?_⟩
    ·rw [i2];simp only [List.mem_append,List.mem_cons,List.not_mem_nil,or_false]
     constructor
     ·rintro ((h | h) | h | h)
      ·exact .inl h
      ·refine .inr (.inr ⟨h,?_⟩)
       cases hb:(r.foldl (putS n) (true,out ++ [n])).1 with
       | true=>rfl
       | false=>have:=i3 hb n ((i2 n).2 (.inl (by simp)));omega
      ·exact .inr (.inl ⟨.inr h.1,h.2⟩)
      ·exact .inr (.inr h)
     ·rintro (h | ⟨h | h,h'⟩ | h)
      ·exact .inl (.inl h)
      ·exact absurd (h.trans hx) h'
      ·exact .inr (.inl ⟨h,h'⟩)
      ·exact .inr (.inr h)
    ·simp at i4 ⊢;omega
    ·intro hf;have:=i5 hf;simp at this ⊢;omega
   ·have e:putS n (false,out) x = (true,out ++ [n] ++ [x]):=by simp [putS,hx,hnx]
    rw [e];obtain ⟨i1,i2,i3,i4,i5⟩:=VF n r (true,out ++ [n] ++ [x]) hl'.2 (jR.2 ⟨jR.2 ⟨hs,h3 rfl⟩,fun p hp=>by
     rcases List.mem_append.1 hp with hp | hp
     ·have:=h3 rfl p hp;omega
     ·simp at hp;omega⟩) (fun p hp y hy=>by
     have:=hl'.1 y hy;simp only [List.mem_append,List.mem_singleton] at hp;rcases hp with (hp | hp) | hp
     ·have:=h3 rfl p hp;left;omega
     ·left;omega
     ·left;omega) (fun _=>by simp) (fun h=>by cases h)
    refine ⟨i1,fun m=>?_,i3,?_,?_⟩
    ·rw [i2];simp only [List.mem_append,List.mem_cons,List.not_mem_nil,or_false]
     constructor
     ·rintro (((h | h) | h) | h | h)
      ·exact .inl h
      ·refine .inr (.inr ⟨h,?_⟩)
       cases hb:(r.foldl (putS n) (true,out ++ [n] ++ [x])).1 with
       | true=>rfl
       | false=>have:=i3 hb n ((i2 n).2 (.inl (by simp)));omega
      ·exact .inr (.inl ⟨.inl h,fun e=>hx (h.symm.trans e)⟩)
      ·exact .inr (.inl ⟨.inr h.1,h.2⟩)
      ·exact .inr (.inr h)
     ·rintro (h | ⟨h | h,h'⟩ | h)
      ·exact .inl (.inl (.inl h))
      ·exact .inl (.inr h)
      ·exact .inr (.inl ⟨h,h'⟩)
      ·exact .inr (.inr h)
    ·simp at i4 ⊢;omega
    ·intro hf;have:=i5 hf;simp at this ⊢;exfalso;have:=i3 hf n ((i2 n).2 (.inl (by simp)));omega
  ·by_cases hx:x = n
   ·have hd:d = true:=by cases d with | true=>rfl | false=>exact absurd ⟨rfl,by omega⟩ hc
    subst hd;have e:putS n (true,out) x = (true,out):=by simp [putS,hx]
    rw [e];obtain ⟨i1,i2,i3,i4,i5⟩:=VF n r (true,out) hl'.2 hs (fun p hp y hy=>h1 p hp y (List.mem_cons_of_mem _ hy)) h2 h3;refine ⟨i1,fun m=>?_,i3,?_,?_⟩
    ·rw [i2];simp only [List.mem_cons]
     constructor
     ·rintro (h | h | h)
      ·exact .inl h
      ·exact .inr (.inl ⟨.inr h.1,h.2⟩)
      ·exact .inr (.inr h)
     ·rintro (h | ⟨h | h,h'⟩ | h)
      ·exact .inl h
      ·exact absurd (h.trans hx) h'
      ·exact .inr (.inl ⟨h,h'⟩)
      ·exact .inr (.inr h)
    ·simp at i4 ⊢;omega
    ·intro hf;have:=i5 hf;simp at this ⊢;omega
   ·have e:putS n (d,out) x = (d,out ++ [x]):=by
     unfold putS;simp only [hc,if_false,hx]
    rw [e];have hlt:d = false -> x < n:=fun h=>by
     have:¬ n <= x:=fun h'=>hc ⟨h,h'⟩
     omega
    obtain ⟨i1,i2,i3,i4,i5⟩:=VF n r (d,out ++ [x]) hl'.2 (jR.2 ⟨hs,fun p hp=>by
     rcases h1 p hp x (by simp) with h | h
     ·exact h
     ·omega⟩) (fun p hp y hy=>by
     rcases List.mem_append.1 hp with hp | hp
     ·exact h1 p hp y (List.mem_cons_of_mem _ hy)
     ·simp at hp;have:=hl'.1 y hy;left;omega) (fun h=>List.mem_append_left _ (h2 h)) (fun h p hp=>by
     rcases List.mem_append.1 hp with hp | hp
     ·exact h3 h p hp
     ·simp at hp;rw [hp];exact hlt h)
    refine ⟨i1,fun m=>?_,i3,?_,?_⟩
    ·rw [i2];simp only [List.mem_append,List.mem_cons,List.not_mem_nil,or_false]
     constructor
     ·rintro ((h | h) | h | h)
      ·exact .inl h
      ·exact .inr (.inl ⟨.inl h,fun e=>hx (h.symm.trans e)⟩)
      ·exact .inr (.inl ⟨.inr h.1,h.2⟩)
      ·exact .inr (.inr h)
     ·rintro (h | ⟨h | h,h'⟩ | h)
      ·exact .inl (.inl h)
      ·exact .inl (.inr h)
      ·exact .inr (.inl ⟨h,h'⟩)
      ·exact .inr (.inr h)
    ·simp at i4 ⊢;omega
    ·intro hf;have:=i5 hf;simp at this ⊢;omega
theorem Vi {l:List Int} (h:Up l) (n:Int):Up (putP l n) /\ (∀ m,m ∈ putP l n ↔ m ∈ l \/ m = n) /\ (putP l n).length <= l.length + 1:=by
 obtain ⟨i1,i2,i3,i4,i5⟩:=VF n l (false,[]) h (by simp [Up]) (by simp) (by simp) (by simp);unfold putP;simp only
 cases hb:(l.foldl (putS n) (false,[])).1 with
 | true=>
  simp only [if_true];refine ⟨i1,fun m=>?_,by simpa using i4⟩;rw [i2,hb];simp only [List.not_mem_nil,false_or,and_true]
  constructor
  ·rintro (h | h)
   ·exact .inl h.1
   ·exact .inr h
  ·rintro (h | h)
   ·by_cases e:m = n
    ·exact .inr e
    ·exact .inl ⟨h,e⟩
   ·exact .inr h
 | false=>
  have:=i5 hb;rw [if_neg (by simp)];refine ⟨jR.2 ⟨i1,i3 hb⟩,fun m=>?_,by simp at this ⊢;omega⟩;simp only [List.mem_append,List.mem_singleton,i2,hb,List.not_mem_nil,false_or]
  constructor
  ·rintro ((h | h) | h)
   ·exact .inl h.1
   ·cases h.2
   ·exact .inr h
  ·rintro (h | h)
   ·by_cases e:m = n
    ·exact .inr e
    ·exact .inl (.inl ⟨h,e⟩)
   ·exact .inr h
def ptS (out:List Int) (x:TRun):List Int:=if mayR x then putP (putP out x.lo) (x.hi + 1) else out
def ptsP (l:List TRun):List Int:=l.foldl ptS []
theorem qi : ∀ (l:List TRun) (out:List Int),Up out -> Up (l.foldl ptS out) /\ (∀ m,m ∈ l.foldl ptS out ↔ m ∈ out \/ ∃ x ∈ l,mayR x = true /\ (m = x.lo \/ m = x.hi + 1)) /\ (l.foldl ptS out).length <= out.length + 2 * l.length
 | [],out,h=>⟨h,fun m=>by simp,by simp⟩
 | x :: r,out,h=>by
  rw [List.foldl_cons];obtain ⟨j1,j2,j3⟩:=Vi h x.lo;obtain ⟨k1,k2,k3⟩:=Vi j1 (x.hi + 1)
  by_cases hm:mayR x = true
  ·have e:ptS out x = putP (putP out x.lo) (x.hi + 1):=by simp [ptS,hm]
   rw [e];obtain ⟨i1,i2,i3⟩:=qi r _ k1;refine ⟨i1,fun m=>?_,by simp;omega⟩;rw [i2,k2,j2]
   constructor
   ·rintro (((h | h) | h) | ⟨y,h1,h2⟩)
    ·exact .inl h
    ·exact .inr ⟨x,by simp,hm,.inl h⟩
    ·exact .inr ⟨x,by simp,hm,.inr h⟩
    ·exact .inr ⟨y,by simp [h1],h2⟩
   ·rintro (h | ⟨y,h1,h2,h3⟩)
    ·exact .inl (.inl (.inl h))
    ·rcases List.mem_cons.1 h1 with rfl | h1
     ·rcases h3 with h3 | h3
      ·exact .inl (.inl (.inr h3))
      ·exact .inl (.inr h3)
     ·exact .inr ⟨y,h1,h2,h3⟩
  ·have e:ptS out x = out:=by simp [ptS,hm]
   rw [e];obtain ⟨i1,i2,i3⟩:=qi r _ h;refine ⟨i1,fun m=>?_,by simp;omega⟩;rw [i2]
   constructor
   ·rintro (h | ⟨y,h1,h2⟩)
    ·exact .inl h
    ·exact .inr ⟨y,by simp [h1],h2⟩
   ·rintro (h | ⟨y,h1,h2,h3⟩)
    ·exact .inl h
    ·rcases List.mem_cons.1 h1 with rfl | h1
     ·exact absurd h2 hm
     ·exact .inr ⟨y,h1,h2,h3⟩
theorem Jb (l:List TRun):Up (ptsP l) /\ (∀ m,m ∈ ptsP l ↔ ∃ x ∈ l,mayR x = true /\ (m = x.lo \/ m = x.hi + 1)) /\ (ptsP l).length <= 2 * l.length:=by
 obtain ⟨h1,h2,h3⟩:=qi l [] (by simp [Up]);exact ⟨h1,fun m=>by rw [ptsP,h2];simp,by simpa [ptsP] using h3⟩

def y0a (out:List TRun) (p:Int) (z:TRun -> TRun) (x:TRun):List TRun:=match out.getLast? with
 | some y=>if y.hi + 1 = p then out.dropLast ++ [z y] else out ++ [x]
 | none=>out ++ [x]
def setS (op:Bool -> Bool -> Bool) (a b:List TRun) (out:List TRun) (pq:Int × Int):List TRun:=
 if op (hasR a pq.1) (hasR b pq.1) then y0a out pq.1 (fun y=>⟨y.lo,pq.2 - 1⟩) ⟨pq.1,pq.2 - 1⟩ else out
def xm (l:List Int):List (Int × Int):=l.zip l.tail
def setR (op:Bool -> Bool -> Bool) (a b:List TRun):List TRun:=(xm (ptsP (a ++ b))).foldl (setS op a b) []

theorem x3a (p:Int) (z:TRun -> TRun) (x:TRun):y0a [] p z x = [x]:=rfl
theorem jS (l:List TRun) (y:TRun) (p:Int) (z:TRun -> TRun) (x:TRun):y0a (l ++ [y]) p z x = if y.hi + 1 = p then l ++ [z y] else l ++ [y] ++ [x]:=by simp [y0a]
theorem yc {α:Type} (l:List α):l = [] \/ ∃ r y,l = r ++ [y]:=by
 rcases List.eq_nil_or_concat l with h | ⟨r,y,h⟩
 ·exact .inl h
 ·exact .inr ⟨r,y,by simpa using h⟩

theorem qj (op:Bool -> Bool -> Bool) (a b:List TRun):∀ (P:List Int) (p:Int) (out:List TRun),Up (p :: P) -> (∀ q ∈ p :: P,1 <= q /\ q <= 281474976710656) -> Nf out -> (∀ y ∈ out,y.hi < p) ->
  Nf ((xm (p :: P)).foldl (setS op a b) out) /\ (∀ n,hasR ((xm (p :: P)).foldl (setS op a b) out) n = true ↔ hasR out n = true \/ ∃ pq ∈ xm (p :: P),pq.1 <= n /\ n < pq.2 /\ op (hasR a pq.1) (hasR b pq.1) = true) /\ ((xm (p :: P)).foldl (setS op a b) out).length <= out.length + P.length
 | [],p,out,_,_,h,_=>by simp [xm,h]
 | q :: P,p,out,hu,hr,h,hy=>by
  have e:xm (p :: q :: P) = (p,q) :: xm (q :: P):=rfl;rw [e,List.foldl_cons];have hu':=List.pairwise_cons.1 hu;have hpq:p < q:=hu'.1 q (by simp);have hp:=hr p (by simp);have hq:=hr q (by simp);have step:Nf (setS op a b out (p,q)) /\ (∀ n,hasR (setS op a b out (p,q)) n = true ↔ hasR out n = true \/ (p <= n /\ n < q /\ op (hasR a p) (hasR b p) = true)) /\ (∀ y ∈ setS op a b out (p,q),y.hi < q) /\ (setS op a b out (p,q)).length <= out.length + 1:=by
   unfold setS;simp only
   by_cases hop:op (hasR a p) (hasR b p) = true
   ·rw [if_pos hop];rcases yc out with rfl | ⟨l,y,rfl⟩
    ·rw [x3a];have hm:mayR (⟨p,q - 1⟩:TRun) = true:=zd.2 ⟨hp.1,by simp only;omega,by simp only;omega⟩;refine ⟨⟨hm,by simp,trivial⟩,fun n=>?_,fun y hy=>?_,by simp⟩
     ·rw [va,ym];have:=zd.1 hm;simp only at this ⊢;simp only [qf,Bool.false_eq_true,false_or,hop,and_true];omega
     ·simp at hy;subst hy;simp only;omega
    ·rw [jS];obtain ⟨n1,n2,n3⟩:=Yj.1 h;have hym:=zd.1 n2;have hyp:=hy y (by simp)
     by_cases hadj:y.hi + 1 = p
     ·rw [if_pos hadj];have hm:mayR (⟨y.lo,q - 1⟩:TRun) = true:=zd.2 ⟨hym.1,by simp only;omega,by simp only;omega⟩;refine ⟨Yj.2 ⟨n1,hm,n3⟩,fun n=>?_,fun z hz=>?_,by simp⟩
      ·rw [uO,uO,va,va,Bool.or_eq_true,Bool.or_eq_true,ym,ym];have:=zd.1 hm;simp only at this ⊢;simp only [hop,and_true]
       constructor
       ·rintro (h | h)
        ·exact .inl (.inl h)
        ·by_cases hc:n <= y.hi
         ·exact .inl (.inr ⟨hym,h.2.1,hc⟩)
         ·right;omega
       ·rintro ((h | h) | h)
        ·exact .inl h
        ·right;omega
        ·right;omega
      ·rcases List.mem_append.1 hz with hz | hz
       ·have:=hy z (by simp [hz]);omega
       ·simp at hz;subst hz;simp only;omega
     ·rw [if_neg hadj];have hm:mayR (⟨p,q - 1⟩:TRun) = true:=zd.2 ⟨hp.1,by simp only;omega,by simp only;omega⟩;refine ⟨Yj.2 ⟨h,hm,fun z hz=>?_⟩,fun n=>?_,fun z hz=>?_,by simp⟩
      ·simp only;rcases List.mem_append.1 hz with hz | hz
       ·have:=n3 z hz;omega
       ·simp at hz;subst hz;omega
      ·rw [uO (l ++ [y]),va,Bool.or_eq_true,ym];have:=zd.1 hm;simp only at this ⊢;simp only [hop,and_true]
       constructor
       ·rintro (h | h)
        ·exact .inl h
        ·right;omega
       ·rintro (h | h)
        ·exact .inl h
        ·right;omega
      ·rcases List.mem_append.1 hz with hz | hz
       ·have:=hy z hz;omega
       ·simp at hz;subst hz;simp only;omega
   ·rw [if_neg hop];refine ⟨h,fun n=>?_,fun y hy'=>by have:=hy y hy';omega,by omega⟩;exact ⟨fun h=>.inl h,fun h=>h.elim id fun h=>absurd h.2.2 hop⟩
  obtain ⟨s1,s2,s3,s4⟩:=step;obtain ⟨i1,i2,i3⟩:=qj op a b P q _ hu'.2 (fun z hz=>hr z (List.mem_cons_of_mem _ hz)) s1 s3;refine ⟨i1,fun n=>?_,by simp;omega⟩;rw [i2,s2];simp only [List.mem_cons,exists_eq_or_imp]
  constructor
  ·rintro ((h | h) | h)
   ·exact .inl h
   ·exact .inr (.inl h)
   ·exact .inr (.inr h)
  ·rintro (h | h | h)
   ·exact .inl (.inl h)
   ·exact .inl (.inr h)
   ·exact .inr h

theorem Vj : ∀ {P:List Int},Up P -> ∀ pq ∈ xm P,pq.1 ∈ P /\ pq.2 ∈ P /\ pq.1 < pq.2 /\ ∀ m ∈ P,m <= pq.1 \/ pq.2 <= m
 | [],_,pq,h=>by simp [xm] at h
 | [p],_,pq,h=>by simp [xm] at h
 | p :: q :: P,hu,pq,h=>by
  have e:xm (p :: q :: P) = (p,q) :: xm (q :: P):=rfl;rw [e] at h;have hu':=List.pairwise_cons.1 hu;rcases List.mem_cons.1 h with rfl | h
  ·refine ⟨by simp,by simp,hu'.1 q (by simp),fun m hm=>?_⟩;rcases List.mem_cons.1 hm with rfl | hm
   ·simp
   ·right
    rcases List.mem_cons.1 hm with rfl | hm
    ·simp
    ·have:=(List.pairwise_cons.1 hu'.2).1 m hm;simp only;omega
  ·obtain ⟨h1,h2,h3,h4⟩:=Vj hu'.2 pq h;refine ⟨List.mem_cons_of_mem _ h1,List.mem_cons_of_mem _ h2,h3,fun m hm=>?_⟩;rcases List.mem_cons.1 hm with rfl | hm
   ·left;have:=hu'.1 _ h1;omega
   ·exact h4 m hm
theorem Jc : ∀ {P:List Int},Up P -> ∀ {u v n:Int},u ∈ P -> v ∈ P -> u <= n -> n < v -> ∃ pq ∈ xm P,pq.1 <= n /\ n < pq.2
 | [],_,_,_,_,h,_,_,_=>by simp at h
 | [p],_,u,v,n,h1,h2,h3,h4=>by simp at h1 h2;omega
 | p :: q :: P,hu,u,v,n,h1,h2,h3,h4=>by
  have e:xm (p :: q :: P) = (p,q) :: xm (q :: P):=rfl;have hu':=List.pairwise_cons.1 hu
  by_cases hc:n < q
  ·refine ⟨(p,q),by rw [e];simp,?_,hc⟩;rcases List.mem_cons.1 h1 with rfl | h1
   ·exact h3
   ·have:q <= u:=by
     rcases List.mem_cons.1 h1 with rfl | h1
     ·omega
     ·have:=(List.pairwise_cons.1 hu'.2).1 u h1;omega
    simp only;omega
  ·have hv:v ∈ q :: P:=by
    rcases List.mem_cons.1 h2 with rfl | h2
    ·have:=hu'.1 q (by simp);omega
    ·exact h2
   obtain ⟨pq,h5,h6⟩:=Jc hu'.2 (u:=q) (by simp) hv (by omega) h4;exact ⟨pq,by rw [e];exact List.mem_cons_of_mem _ h5,h6⟩
theorem vAa (P:List Int):(xm P).length = P.length - 1:=by simp [xm]

theorem Yk {l:List TRun} {P:List Int} (hP:∀ x ∈ l,mayR x = true -> x.lo ∈ P /\ x.hi + 1 ∈ P) {p q n:Int} (h1:∀ m ∈ P,m <= p \/ q <= m) (h2:p <= n) (h3:n < q):hasR l n = hasR l p:=by
 rw [Bool.eq_iff_iff,wA,wA]
 constructor
 ·rintro ⟨x,hx,hm,h4,h5⟩;obtain ⟨h6,h7⟩:=hP x hx hm;have:=h1 _ h6;have:=h1 _ h7;exact ⟨x,hx,hm,by omega,by omega⟩
 ·rintro ⟨x,hx,hm,h4,h5⟩;obtain ⟨h6,h7⟩:=hP x hx hm;have:=h1 _ h6;have:=h1 _ h7;exact ⟨x,hx,hm,by omega,by omega⟩
theorem zk (op:Bool -> Bool -> Bool) (h0:op false false = false) (a b:List TRun):Nf (setR op a b) /\ (∀ n,hasR (setR op a b) n = op (hasR a n) (hasR b n)) /\ (setR op a b).length <= 2 * (a.length + b.length):=by
 obtain ⟨p1,p2,p3⟩:=Jb (a ++ b);have hrange:∀ q ∈ ptsP (a ++ b),1 <= q /\ q <= 281474976710656:=fun q hq=>by
  obtain ⟨x,_,h2,h3⟩:=(p2 q).1 hq;have:=zd.1 h2;omega
 have main:Nf (setR op a b) /\ (∀ n,hasR (setR op a b) n = true ↔ ∃ pq ∈ xm (ptsP (a ++ b)),pq.1 <= n /\ n < pq.2 /\ op (hasR a pq.1) (hasR b pq.1) = true) /\ (setR op a b).length <= (ptsP (a ++ b)).length:=by
  unfold setR
  generalize hP:ptsP (a ++ b) = P at p1 hrange
  cases P with
  | nil=>simp [xm,Nf]
  | cons p P=>
   obtain ⟨i1,i2,i3⟩:=qj op a b P p [] p1 hrange trivial (by simp);exact ⟨i1,fun n=>by rw [i2];simp,by simp at i3 ⊢;omega⟩
 obtain ⟨m1,m2,m3⟩:=main;refine ⟨m1,fun n=>?_,by simp at p3;omega⟩;have hPa:∀ x ∈ a,mayR x = true -> x.lo ∈ ptsP (a ++ b) /\ x.hi + 1 ∈ ptsP (a ++ b):=fun x hx hm=>⟨(p2 _).2 ⟨x,by simp [hx],hm,.inl rfl⟩,(p2 _).2 ⟨x,by simp [hx],hm,.inr rfl⟩⟩
 have hPb:∀ x ∈ b,mayR x = true -> x.lo ∈ ptsP (a ++ b) /\ x.hi + 1 ∈ ptsP (a ++ b):=fun x hx hm=>⟨(p2 _).2 ⟨x,by simp [hx],hm,.inl rfl⟩,(p2 _).2 ⟨x,by simp [hx],hm,.inr rfl⟩⟩
 rw [Bool.eq_iff_iff,m2]
 constructor
 ·rintro ⟨pq,h1,h2,h3,h4⟩;obtain ⟨_,_,_,h5⟩:=Vj p1 pq h1
  rwa [Yk hPa h5 h2 h3,Yk hPb h5 h2 h3]
 ·intro h;have hex:∃ u ∈ ptsP (a ++ b),∃ v ∈ ptsP (a ++ b),u <= n /\ n < v:=by
   cases ha:hasR a n with
   | true=>
    obtain ⟨x,h1,h2,h3,h4⟩:=wA.1 ha;exact ⟨_,(hPa x h1 h2).1,_,(hPa x h1 h2).2,h3,by omega⟩
   | false=>
    cases hb:hasR b n with
    | true=>
     obtain ⟨x,h1,h2,h3,h4⟩:=wA.1 hb;exact ⟨_,(hPb x h1 h2).1,_,(hPb x h1 h2).2,h3,by omega⟩
    | false=>rw [ha,hb,h0] at h;cases h
  obtain ⟨u,hu,v,hv,h1,h2⟩:=hex;obtain ⟨pq,h3,h4,h5⟩:=Jc p1 hu hv h1 h2;obtain ⟨_,_,_,h6⟩:=Vj p1 pq h3;exact ⟨pq,h3,h4,h5,by rwa [<- Yk hPa h6 h4 h5,<- Yk hPb h6 h4 h5]⟩

def nrm (l:List TRun):List TRun:=setR (· || ·) l []
theorem Yn (l:List TRun):Nf (nrm l):=(zk _ rfl l []).1
theorem wx (l:List TRun) (n:Int):hasR (nrm l) n = hasR l n:=by rw [nrm,(zk _ rfl l []).2.1];simp
theorem uv (l:List TRun):(nrm l).length <= 2 * l.length:=by
 have:=(zk (· || ·) rfl l []).2.2;rw [List.length_nil,Nat.add_zero] at this;exact this
theorem nrm_of {l r:List TRun} (h:Nf r) (h2:∀ n,hasR r n = hasR l n):r = nrm l:=VE h (Yn l) fun n=>by rw [h2,wx]
theorem ql {l:List TRun} (h:Nf l):nrm l = l:=(nrm_of h fun _=>rfl).symm


theorem vBa (x y:TRun):(decide (x.lo = y.lo) && decide (x.hi = y.hi)) = decide (x = y):=by
 rw [Bool.eq_iff_iff]
 cases x;cases y
 simp
theorem eqLoop {body:Int -> M (Step Int (Ex Unit Bool))} (a b:List TRun) (hl:a.length = b.length) (hn:a.length <= 1000000000000)
  (hb:∀ i:Int,body i = cond (decide (i < (a.length:Int))) (M.bind (M.idx a i) fun x=>M.bind (M.idx b i) fun y=>cond (!(decide (x.lo = y.lo) && decide (x.hi = y.hi))) (M.pure (.done (.ret false))) (M.pure (.next (IntKind.i64.wrap (i + 1))))) (M.pure (.done (.brk ())))) :
  M.bind (M.loop body 0) (M.exk fun _=>M.pure true) = pure (decide (a = b)):=by
 have:=xl (body:=body) a (fun i=>(i:Int)) (fun i x=>decide (b[i]? = some x)) (.brk ()) (.ret false) (fun i x hx hi=>by
  have hb':i < b.length:=by omega
  rw [hb,zK hx,zK (List.getElem?_eq_getElem hb'),yJ (by omega)];simp only [zA,List.getElem?_eq_getElem hb',Option.some.injEq,vBa];have:decide ((i:Int) < (a.length:Int)) = true:=by simpa using hi
  rw [this,cond_true]
  by_cases he:b[i] = x
  ·subst he;simp
  ·rw [if_neg (by simpa using he)];have:decide (x = b[i]) = false:=by simpa using fun h=>he h.symm
   rw [this];rfl) (by rw [hb];simp)
 rw [show (0:Int) = ((0:Nat):Int) from rfl,this]
 by_cases he:a = b
 ·subst he;rw [if_pos]
  ·simp [zA,YG]
  ·rw [List.all_eq_true];intro ⟨x,i⟩ hx;rw [List.mk_mem_zipIdx_iff_getElem?] at hx;simpa using hx
 ·rw [if_neg]
  ·simp [he,zA,Uu]
  ·intro hall;rw [List.all_eq_true] at hall;apply he;apply List.ext_getElem (by omega);intro i h1 h2;have:=hall (a[i],i) (by rw [List.mk_mem_zipIdx_iff_getElem?];exact List.getElem?_eq_getElem h1);simp [h2] at this;exact this.symm
theorem req_eq (a b:List TRun) (h:a.length <= 1000000000000):ypa a b = pure (decide (a = b)):=by
 unfold ypa
 by_cases hl:(a.length:Int) = b.length
 ·simp only [hl,decide_true,Bool.not_true,cond_false];exact eqLoop a b (by omega) h fun i=>rfl
 ·have hne:a ≠ b:=fun e=>hl (by rw [e])
  simp [hl,hne]
theorem seq_eq (a b:List TRun) (h:a.length <= 1000000000000):yN a b = pure (decide (a = b)):=by
 unfold yN
 by_cases hl:(a.length:Int) = b.length
 ·simp only [hl,decide_true,Bool.not_true,cond_false];exact eqLoop a b (by omega) h fun i=>rfl
 ·have hne:a ≠ b:=fun e=>hl (by rw [e])
  simp [hl,hne]

theorem vCa (x:TRun):Uy x = pure (mayR x):=by
 unfold Uy;rw [zj,zj,zA]
 rfl
theorem yIa (l:List TRun) (n:Int) (h:l.length <= 1000000000000):VY l n = pure (hasR l n):=by
 unfold VY;have:=xl (body:=Xa l n) l (fun i=>(i:Int)) (fun _ x=>!inR n x) (.brk ()) (.ret true) (fun i x hx hi=>by
  unfold Xa;have h1:decide ((i:Int) < (l.length:Int)) = true:=by simpa using hi
  simp only [h1,cond_true,zK hx,zA,vCa,zB,yJ (show i < 9223372036854775807 by omega),zj];unfold inR
  cases mayR x <;> cases decide (x.lo <= n) <;> cases decide (n <= x.hi) <;> rfl) (by unfold Xa;simp)
 rw [show (0:Int) = ((0:Nat):Int) from rfl,this,zA];have e:l.zipIdx.all (fun y=>!inR n y.1) = !hasR l n:=by
  unfold hasR;rw [Bool.eq_iff_iff];simp only [List.all_eq_true,Bool.not_eq_true',List.any_eq_false]
  constructor
  ·intro h x hx;obtain ⟨i,hi,he⟩:=List.getElem_of_mem hx;have:=h (x,i) (by rw [List.mk_mem_zipIdx_iff_getElem?];rw [List.getElem?_eq_getElem hi,he]);simpa using this
  ·intro h y hy;have:=List.fst_mem_of_mem_zipIdx hy;have:=h _ this;simpa using this
 simp only [e]
 cases hasR l n <;> rfl
theorem vDa (l:List Int) (n:Int) (h:l.length <= 100000000000):Uz l n = pure (putP l n):=by
 unfold Uz;have:=Yg (body:=Xb l n) l (fun i (t:Bool × List Int)=>(t.1,(i:Int),t.2)) (putS n) (fun t=>pure t) (fun i t=>t.2.length <= 2 * i) (fun i x t hx hi hI=>by
  obtain ⟨d,out⟩:=t;simp only at hI;have h1:decide ((i:Int) < (l.length:Int)) = true:=by simpa using hi
  refine ⟨?_,?_⟩
  ·unfold Xb putS;simp only [h1,cond_true,zK hx,zA,yJ (show i < 9223372036854775807 by omega)]
   cases d with
   | true=>
    by_cases hc:x = n
    ·simp [hc,zA]
    ·simp only [Bool.not_true,cond_false,zA,hc,decide_false,Bool.not_false,cond_true,if_false];rw [zF (by simp;omega)];simp [zA]
   | false=>
    by_cases hc1:n <= x
    ·simp only [Bool.not_false,cond_true,zA,hc1,decide_true];rw [zF (by simp;omega),zA]
     by_cases hc:x = n
     ·simp [hc,zA]
     ·simp only [hc,decide_false,Bool.not_false,cond_true];rw [zF (by simp;omega)];simp [zA]
    ·simp only [Bool.not_false,cond_true,zA,hc1,decide_false,cond_false];have hc:x ≠ n:=by omega
     simp only [hc,decide_false,Bool.not_false,cond_true];rw [zF (by simp;omega)];simp [zA]
  ·unfold putS;simp only
   split <;> split <;> simp <;> omega) (fun t _=>by unfold Xb;simp [zA]) (false,[]) (by simp)
 rw [show ((false,(0:Int),([]:List Int)):Bool × Int × List Int) = (false,((0:Nat):Int),[]) from rfl,this,zA];unfold putP;have hlen:(l.foldl (putS n) (false,[])).2.length <= 2 * l.length:=by
  have:∀ (l:List Int) (s:Bool × List Int),(l.foldl (putS n) s).2.length <= s.2.length + 2 * l.length:=by
   intro l
   induction l with
   | nil=>intro s;simp
   | cons x r ih=>
    intro s;rw [List.foldl_cons];have:=ih (putS n s x);have h2:(putS n s x).2.length <= s.2.length + 2:=by
     unfold putS;simp only
     split <;> split <;> simp
    simp;omega
  simpa using this l (false,[])
 generalize l.foldl (putS n) (false,[]) = t at hlen
 obtain ⟨d,out⟩:=t
 cases d with
 | true=>rfl
 | false=>
  simp only [Bool.not_false,cond_true];rw [zF (by simp at hlen ⊢;omega)]
  rfl
theorem rpts_eq (a b:List TRun) (h:a.length + b.length <= 10000000000):Xc a b = pure (ptsP (a ++ b)):=by
 unfold Xc;rw [zF (by simp;omega),zF (by simp;omega)];have hup:∀ i,Up (((a ++ b).take i).foldl ptS []) /\ (((a ++ b).take i).foldl ptS []).length <= 2 * (a ++ b).length:=fun i=>by
  obtain ⟨h1,_,h3⟩:=qi ((a ++ b).take i) [] (by simp [Up]);refine ⟨h1,?_⟩;have:((a ++ b).take i).length <= (a ++ b).length:=by simp;omega
  simp only [List.length_nil,Nat.zero_add] at h3;omega
 have:=Yg (body:=uE a b) (a ++ b) (fun i (t:List Int)=>(t,(i:Int))) ptS (fun t=>pure t) (fun i t=>t = ((a ++ b).take i).foldl ptS []) (fun i x t hx hi hI=>by
  have h1:decide ((i:Int) < ((a ++ b).length:Int)) = true:=decide_eq_true (by omega);have hlen:(a ++ b).length <= 10000000000:=by simp;omega
  obtain ⟨u1,u2⟩:=hup i;rw [<- hI] at u1 u2;refine ⟨?_,?_⟩
  ·unfold uE ptS;simp only [List.nil_append,h1,cond_true,zK hx,zA,yJ (show i < 9223372036854775807 by omega),vCa,zB]
   cases hm:mayR x with
   | false=>simp [zA]
   | true=>
    have hm':=zd.1 hm;have hp:=Vi u1 x.lo;rw [cond_true,vDa _ _ (by omega),zB,zA,wU64 (by omega) (by omega),vDa _ _ (by omega),zB];simp [zA]
  ·rw [List.take_add_one,hx];simp [hI]) (fun t _=>by unfold uE;simp [zA]) [] (by simp)
 rw [show (([]:List Int),(0:Int)) = ([],((0:Nat):Int)) from rfl,this];simp only [zA]
 rfl
theorem zAa {P:List Int} {i:Nat} {pq:Int × Int} (h:(xm P)[i]? = some pq):P[i]? = some pq.1 /\ P[i + 1]? = some pq.2:=by
 unfold xm at h;rw [List.getElem?_zip_eq_some] at h;obtain ⟨h1,h2⟩:=h;rw [List.getElem?_tail] at h2;exact ⟨h1,h2⟩
theorem Vk (op:Bool -> Bool -> Bool) (how:Int) (hop:∀ x y,op x y = if how = 2 then (x && !y) else if how = 1 then (x && y) else (x || y)) (_h0:op false false = false) (a b:List TRun) (h:a.length + b.length <= 10000000000):VZ a b how = pure (setR op a b):=by
 unfold VZ;rw [rpts_eq a b h,zB,zA];obtain ⟨p1,p2,p3⟩:=Jb (a ++ b);have hrange:∀ q ∈ ptsP (a ++ b),1 <= q /\ q <= 281474976710656:=fun q hq=>by
  obtain ⟨x,_,h2,h3⟩:=(p2 q).1 hq;have:=zd.1 h2;omega
 unfold setR
 generalize ptsP (a ++ b) = P at p1 hrange p3
 simp only [List.length_append] at p3;have hinv:∀ i,i <= (xm P).length -> Nf (((xm P).take i).foldl (setS op a b) []) /\ (((xm P).take i).foldl (setS op a b) []).length <= P.length:=fun i hi=>by
  cases P with
  | nil=>simp [xm,Nf]
  | cons p P=>
   have key:(xm (p :: P)).take i = xm (p :: P.take i):=by
    unfold xm;simp only [List.tail_cons];clear hi p1 hrange p3
    induction i generalizing p P with
    | zero=>simp
    | succ i ih=>
     cases P with
     | nil=>simp
     | cons q P=>
      simp only [List.zip_cons_cons,List.take_succ_cons];rw [ih q P]
   rw [key];have hsub:(p :: P.take i).Sublist (p :: P):=List.Sublist.cons_cons _ (List.take_sublist _ _);obtain ⟨i1,_,i3⟩:=qj op a b (P.take i) p [] (List.Pairwise.sublist hsub p1) (fun q hq=>hrange q (hsub.subset hq)) trivial (by simp);refine ⟨i1,?_⟩;simp at i3 ⊢;omega
 have:=Yg (body:=Xd P a b how) (xm P) (fun i (t:List TRun)=>((i:Int),t)) (setS op a b) (fun t=>pure t) (fun i t=>i <= (xm P).length /\ t = ((xm P).take i).foldl (setS op a b) []) (fun i pq t hx hi hI=>by
  obtain ⟨hI1,hI⟩:=hI;obtain ⟨g1,g2⟩:=zAa hx;have hlt:i + 1 < P.length:=(List.getElem?_eq_some_iff.1 g2).1;have hPl:P.length <= 20000000000:=by omega
  have h1:decide (((i + 1:Nat):Int) < (P.length:Int)) = true:=by rw [decide_eq_true_eq];omega
  obtain ⟨v1,v2⟩:=hinv i hI1;rw [<- hI] at v1 v2;refine ⟨?_,by omega,by rw [List.take_add_one,hx];simp [hI]⟩;unfold Xd setS;have e2:idx P ((i + 1:Nat):Int) = pure pq.2:=zK g2;have hq:=hrange pq.2 (List.mem_of_getElem? g2);simp only [yJ (show i < 9223372036854775807 by omega),h1,cond_true,zK g1,e2,zA,yIa a pq.1 (by omega),yIa b pq.1 (by omega),zB];rw [hop];have hin:∀ (x y:Bool),(M.bind (cond x (M.pure true) (M.pure y)) fun in97=>M.bind (cond (decide (how = 1)) (M.bind (cond x (M.pure y) (M.pure false)) fun in101=>M.pure in101) (M.pure in97)) fun in99=>cond (decide (how = 2)) (M.bind (cond x (M.pure (!y)) (M.pure false)) fun in105=>M.pure in105) (M.pure in99)) = pure (if how = 2 then (x && !y) else if how = 1 then (x && y) else (x || y)):=by
   intro x y
   by_cases c2:how = 2
   ·subst c2;cases x <;> cases y <;> rfl
   ·by_cases c1:how = 1
    ·subst c1;cases x <;> cases y <;> rfl
    ·simp only [c1,c2,decide_false,cond_false,if_false]
     cases x <;> cases y <;> rfl
  have hin':=hin (hasR a pq.1) (hasR b pq.1)
  generalize (if how = 2 then (hasR a pq.1 && !hasR b pq.1) else if how = 1 then (hasR a pq.1 && hasR b pq.1) else (hasR a pq.1 || hasR b pq.1)) = inn at hin'
  -- the three steps are one
  have assoc:∀ (K:Bool -> M (List TRun)),(M.bind (cond (hasR a pq.1) (M.pure true) (M.pure (hasR b pq.1))) fun in97=>M.bind (cond (decide (how = 1)) (M.bind (cond (hasR a pq.1) (M.pure (hasR b pq.1)) (M.pure false)) fun in101=>M.pure in101) (M.pure in97)) fun in99=>M.bind (cond (decide (how = 2)) (M.bind (cond (hasR a pq.1) (M.pure (!hasR b pq.1)) (M.pure false)) fun in105=>M.pure in105) (M.pure in99)) K) = K inn:=by
   intro K;have:=congrArg (fun m=>M.bind m K) hin';exact this
  rw [assoc]
  cases inn with
  | false=>rfl
  | true=>
   simp only [cond_true,if_true];rcases yc t with rfl | ⟨l,y,rfl⟩
   ·have e:decide ((0:Int) <= IntKind.i64.wrap (((([]:List TRun).length:Nat):Int) - 1)) = false:=by
     rw [wI64 (by simp) (by simp)];simp
    rw [e];simp only [cond_false,zA];rw [zF (by simp),wU64 (by omega) (by omega)]
    rfl
   ·have hy:=(Yj.1 v1).2.1;have hym:=zd.1 hy;have e0:IntKind.i64.wrap ((((l ++ [y]).length:Nat):Int) - 1) = (l.length:Int):=by
     simp only [List.length_append,List.length_singleton] at v2 ⊢;rw [wI64 (by omega) (by omega)];omega
    have e1:idx (l ++ [y]) (l.length:Int) = pure y:=zK (by simp);have e3:decide ((0:Int) <= (l.length:Int)) = true:=by simp
    rw [e0,e3];simp only [cond_true,e1,zA,wU64 (show 0 <= y.hi + 1 by omega) (by omega),wU64 (show 0 <= pq.2 - 1 by omega) (by omega)];rw [jS]
    by_cases hc:y.hi + 1 = pq.1
    ·simp only [hc,decide_true,cond_true,if_true,Int.toNat_natCast];have:(l ++ [y]).set l.length (⟨y.lo,pq.2 - 1⟩:TRun) = l ++ [⟨y.lo,pq.2 - 1⟩]:=by simp
     rw [this]
     rfl
    ·simp only [hc,decide_false,cond_false,if_false];rw [zF (by simp only [List.length_append,List.length_singleton] at v2 ⊢;omega)]
     rfl) (fun t _=>by
  unfold Xd;have e:decide (IntKind.i64.wrap (((xm P).length:Int) + 1) < (P.length:Int)) = false:=by
   rw [vAa,wI64 (by omega) (by omega)];simp;omega
  simp only [e,cond_false,zA]) [] ⟨Nat.zero_le _,by simp⟩
 rw [show ((0:Int),([]:List TRun)) = (((0:Nat):Int),[]) from rfl,this];simp only [zA]

theorem y1a (a b:List TRun) (h:a.length + b.length <= 10000000000):Wf a b = pure (setR (· || ·) a b):=by
 unfold Wf;rw [Vk (· || ·) 0 (fun x y=>by simp) rfl a b h,zB,zA]
theorem rmeet_eq (a b:List TRun) (h:a.length + b.length <= 10000000000):UL a b = pure (setR (· && ·) a b):=by
 unfold UL;rw [Vk (· && ·) 1 (fun x y=>by simp) rfl a b h,zB,zA]
theorem vEa (a b:List TRun) (h:a.length + b.length <= 10000000000):Wg a b = pure (setR (fun x y=>x && !y) a b):=by
 unfold Wg;rw [Vk (fun x y=>x && !y) 2 (fun x y=>by simp) rfl a b h,zB,zA]

def addN (out:List TRun) (x:TRun):List TRun:=match out.getLast? with
 | some y=>if x.lo <= y.hi + 1 then out.dropLast ++ [⟨y.lo,max y.hi x.hi⟩] else out ++ [x]
 | none=>out ++ [x]
theorem qp (x:TRun):addN [] x = [x]:=rfl
theorem jT (l:List TRun) (y x:TRun):addN (l ++ [y]) x = if x.lo <= y.hi + 1 then l ++ [⟨y.lo,max y.hi x.hi⟩] else l ++ [y] ++ [x]:=by simp [addN]
theorem x4a {out:List TRun} {x:TRun} (h:Nf out) (hx:mayR x = true) (hlo:∀ y ∈ out,y.lo <= x.lo):Nf (addN out x) /\ (∀ n,hasR (addN out x) n = (hasR out n || inR n x)) /\ (∀ y ∈ addN out x,y.lo <= x.lo) /\ (addN out x).length <= out.length + 1:=by
 have hxm:=zd.1 hx;rcases yc out with rfl | ⟨l,y,rfl⟩
 ·rw [qp];exact ⟨⟨hx,by simp,trivial⟩,fun n=>by rw [va];simp,by simp,by simp⟩
 ·rw [jT];obtain ⟨n1,n2,n3⟩:=Yj.1 h;have hym:=zd.1 n2;have hyx:=hlo y (by simp)
  by_cases hc:x.lo <= y.hi + 1
  ·rw [if_pos hc];have hm:mayR (⟨y.lo,max y.hi x.hi⟩:TRun) = true:=zd.2 ⟨hym.1,by simp only;omega,by simp only;omega⟩;refine ⟨Yj.2 ⟨n1,hm,n3⟩,fun n=>?_,fun z hz=>?_,by simp⟩
   ·rw [uO,uO,va,va,Bool.or_assoc]
    congr 1
    rw [Bool.eq_iff_iff,Bool.or_eq_true,ym,ym,ym];have:=zd.1 hm;simp only at this ⊢;omega
   ·rcases List.mem_append.1 hz with hz | hz
    ·exact hlo z (by simp [hz])
    ·simp at hz;subst hz;exact hyx
  ·rw [if_neg hc];refine ⟨Yj.2 ⟨h,hx,fun z hz=>?_⟩,fun n=>by rw [uO (l ++ [y]),va],fun z hz=>?_,by simp⟩
   ·rcases List.mem_append.1 hz with hz | hz
    ·have:=n3 z hz;omega
    ·simp at hz;subst hz;omega
   ·rcases List.mem_append.1 hz with hz | hz
    ·exact hlo z hz
    ·simp at hz;subst hz;exact Int.le_refl _
theorem jU : ∀ (s out:List TRun),Nf out -> (∀ x ∈ s,mayR x = true) -> s.Pairwise (fun x y=>x.lo <= y.lo) -> (∀ y ∈ out,∀ x ∈ s,y.lo <= x.lo) -> Nf (s.foldl addN out) /\ (∀ n,hasR (s.foldl addN out) n = (hasR out n || hasR s n)) /\ (s.foldl addN out).length <= out.length + s.length
 | [],out,h,_,_,_=>⟨h,by simp,by simp⟩
 | x :: r,out,h,hm,hp,hlo=>by
  obtain ⟨a1,a2,a3,a4⟩:=x4a h (hm x (by simp)) fun y hy=>hlo y hy x (by simp)
  obtain ⟨p1,p2⟩:=List.pairwise_cons.1 hp;obtain ⟨i1,i2,i3⟩:=jU r _ a1 (fun y hy=>hm y (List.mem_cons_of_mem _ hy)) p2 fun y hy z hz=>by
   have:=a3 y hy;have:=p1 z hz;omega
  refine ⟨i1,fun n=>?_,by simp;omega⟩;rw [List.foldl_cons,i2,a2,xW,Bool.or_assoc]

theorem vFa {l:List TRun} {Q:List TRun -> Prop} (h:∀ s,s.Perm l -> s.Pairwise (fun x y=>x.lo <= y.lo) -> Q s):(srt JB l).wp Q:=by
 refine ⟨⟨l.mergeSort (fun x y=>decide (x.lo <= y.lo)),List.mergeSort_perm _ _,?_⟩,fun s ⟨h1,h2⟩=>h s h1 (h2.imp fun {x y} h=>?_)⟩
 ·refine (List.pairwise_mergeSort (fun a b c h1 h2=>?_) (fun a b=>?_) l).imp fun {x y} h=>?_
  ·simp only [decide_eq_true_eq] at h1 h2 ⊢;omega
  ·simp only [Bool.or_eq_true,decide_eq_true_eq];omega
  ·simp only [decide_eq_true_eq] at h;unfold JB;simp only [decide_eq_false_iff_not];omega
 ·unfold JB at h;simp only [decide_eq_false_iff_not] at h;omega
theorem Vl (l:List TRun) (h:l.length <= 1000000000000):xP l = pure (nrm l):=by
 unfold xP;have h1:=Yg (body:=vc l) l (fun i (t:List TRun)=>((i:Int),t)) (fun t x=>if mayR x then t ++ [x] else t) (fun t=>pure t) (fun i t=>t.length <= i) (fun i x t hx hi hI=>by
  have h1:decide ((i:Int) < (l.length:Int)) = true:=by simpa using hi
  refine ⟨?_,by split <;> (try simp only [List.length_append,List.length_singleton]) <;> omega⟩;unfold vc;simp only [h1,cond_true,zK hx,zA,yJ (show i < 9223372036854775807 by omega)];have e:(cond (decide (0 < x.lo)) (cond (decide (x.lo <= x.hi)) (M.pure (decide (x.hi <= 281474976710655))) (M.pure false)) (M.pure false):M Bool) = pure (mayR x):=by
   rw [zj,zj];refine congrArg pure ?_;rw [Bool.eq_iff_iff,zd];simp only [Bool.and_eq_true,decide_eq_true_eq];omega
  rw [e,zA]
  cases hm:mayR x with
  | false=>simp [zA]
  | true=>
   rw [cond_true,zF (by simp;omega)];simp [zA]) (fun t _=>by unfold vc;simp [zA]) [] (by simp)
 have hf:∀ (l t:List TRun),l.foldl (fun t x=>if mayR x then t ++ [x] else t) t = t ++ l.filter mayR:=by
  intro l
  induction l with
  | nil=>simp
  | cons x r ih=>
   intro t;rw [List.foldl_cons,ih]
   cases hm:mayR x <;> simp [hm]
 rw [hf,List.nil_append] at h1;have h1':loop (vc l) (0,[]) = pure (l.filter mayR):=h1;have hfl:(l.filter mayR).length <= l.length:=List.length_filter_le _ _;rw [h1',zA,zF (by omega)];refine uT (vFa fun s hs hp=>?_);have hsl:=hs.length_eq;have hmay:∀ x ∈ s,mayR x = true:=fun x hx=>(List.mem_filter.1 (hs.mem_iff.1 hx)).2
 have hpre:∀ i,Nf ((s.take i).foldl addN []) /\ ((s.take i).foldl addN []).length <= i /\ ∀ x,s[i]? = some x -> ∀ y ∈ (s.take i).foldl addN [],y.lo <= x.lo:=fun i=>by
  obtain ⟨i1,i2,i3⟩:=jU (s.take i) [] trivial (fun x hx=>hmay x (List.mem_of_mem_take hx)) (List.Pairwise.sublist (List.take_sublist _ _) hp) (by simp);refine ⟨i1,by simp at i3;omega,fun x hx y hy=>?_⟩;have hmy:=zd.1 (i1.may y hy);have:hasR ((s.take i).foldl addN []) y.lo = true:=wA.2 ⟨y,hy,i1.may y hy,by omega,by omega⟩;rw [i2] at this;simp only [qf,Bool.false_or] at this;obtain ⟨z,hz,_,h3,_⟩:=wA.1 this
  -- z is ahead of x; y begins where one of those ahead begins
  have hall:∀ (s out:List TRun),(∀ y ∈ s.foldl addN out,(∃ z ∈ out,y.lo = z.lo) \/ ∃ z ∈ s,y.lo = z.lo):=by
   intro s
   induction s with
   | nil=>intro out y hy;exact .inl ⟨y,hy,rfl⟩
   | cons a r ih=>
    intro out y hy;rcases ih _ y hy with ⟨z,hz,e⟩ | ⟨z,hz,e⟩
    ·rcases yc out with rfl | ⟨q,w,rfl⟩
     ·rw [qp] at hz;simp at hz;subst hz;exact .inr ⟨z,by simp,e⟩
     ·rw [jT] at hz
      split at hz
      ·rcases List.mem_append.1 hz with hz | hz
       ·exact .inl ⟨z,by simp [hz],e⟩
       ·simp at hz;subst hz;exact .inl ⟨w,by simp,e⟩
      ·rcases List.mem_append.1 hz with hz | hz
       ·exact .inl ⟨z,hz,e⟩
       ·simp at hz;subst hz;exact .inr ⟨z,by simp,e⟩
    ·exact .inr ⟨z,by simp [hz],e⟩
  rcases hall _ _ y hy with ⟨z,hz,_⟩ | ⟨z,hz,e⟩
  ·simp at hz
  ·obtain ⟨j,hj,hje⟩:=List.getElem_of_mem hz;have hlt:=(List.getElem?_eq_some_iff.1 hx).1;have hji:j < i:=by simp at hj;omega
   have:=List.pairwise_iff_getElem.1 hp j i (by omega) hlt hji;rw [List.getElem_take] at hje;have hxe:s[i] = x:=by rw [List.getElem?_eq_getElem hlt] at hx;simpa using hx
   rw [hje,hxe] at this;omega
 have h2:=Yg (body:=vd (l.filter mayR) s) s (fun i (t:List TRun)=>((i:Int),t)) addN (fun t=>pure t) (fun i t=>t = (s.take i).foldl addN []) (fun i x t hx hi hI=>by
  obtain ⟨v1,v2,v3⟩:=hpre i;have v3:=v3 x hx;rw [<- hI] at v1 v2 v3;have hxm:=zd.1 (hmay x (List.mem_of_getElem? hx));have h1:decide ((i:Int) < ((l.filter mayR).length:Int)) = true:=by simp;omega
  refine ⟨?_,by rw [List.take_add_one,hx];simp [hI]⟩;unfold vd;simp only [h1,cond_true,zK hx,zA,yJ (show i < 9223372036854775807 by omega)];rcases yc t with rfl | ⟨q,y,rfl⟩
  ·have e:decide ((0:Int) <= IntKind.i64.wrap (((([]:List TRun).length:Nat):Int) - 1)) = false:=by
    rw [wI64 (by simp) (by simp)];simp
   rw [e];simp only [cond_false,zA];rw [zF (by simp),qp]
   rfl
  ·have hy:=(Yj.1 v1).2.1;have hym:=zd.1 hy;have e0:IntKind.i64.wrap ((((q ++ [y]).length:Nat):Int) - 1) = (q.length:Int):=by
    simp only [List.length_append,List.length_singleton] at v2 ⊢;rw [wI64 (by omega) (by omega)];omega
   have e1:idx (q ++ [y]) (q.length:Int) = pure y:=zK (by simp);have e3:decide ((0:Int) <= (q.length:Int)) = true:=by simp
   rw [e0,e3];simp only [cond_true,e1,zA,wU64 (show 0 <= y.hi + 1 by omega) (by omega)];rw [jT]
   by_cases hc:x.lo <= y.hi + 1
   ·simp only [hc,decide_true,cond_true,if_true,Int.toNat_natCast];have:(q ++ [y]).set q.length (⟨y.lo,max y.hi x.hi⟩:TRun) = q ++ [⟨y.lo,max y.hi x.hi⟩]:=by simp
    rw [this]
    rfl
   ·simp only [hc,decide_false,cond_false,if_false];rw [zF (by simp only [List.length_append,List.length_singleton] at v2 ⊢;omega)]
    rfl) (fun t _=>by
  unfold vd;have e:decide ((s.length:Int) < ((l.filter mayR).length:Int)) = false:=by simp;omega
  simp only [e,cond_false,zA]) [] (by simp)
 show (M.bind (M.loop (vd (l.filter mayR) s) (0,[])) fun out38=>M.pure out38).wp (· = nrm l);rw [show ((0:Int),([]:List TRun)) = (((0:Nat):Int),[]) from rfl,h2];obtain ⟨i1,i2,_⟩:=jU s [] trivial hmay hp (by simp);exact nrm_of i1 fun n=>by rw [i2,w9a hs,yGa];simp
def ones (nums:List Int):List TRun:=nums.map fun n=>⟨n,n⟩
def cmp3 (x y:Int):Int:=if x < y then -1 else if y < x then 1 else 0
theorem vGa (x y:Int):ye x y = pure (cmp3 x y):=by
 unfold ye xw cmp3;simp only [decide_true,Bool.not_true,zB,zA,cond_false,ww]
 split
 ·rfl
 ·split <;> rfl
theorem vHa (x:TRun) (n:Int):uY x n = pure (cmp3 x.hi n):=by
 unfold uY;rw [vGa,zB,zA]
def cntB : List TRun -> Int -> Nat
 | [],_=>0
 | x :: r,n=>if x.hi < n then cntB r n + 1 else 0
theorem zBa : ∀ {v:List TRun} {n:Int} {c:Nat},c <= v.length -> (∀ (k:Nat) (x:TRun),k < c -> v[k]? = some x -> x.hi < n) -> (∀ (k:Nat) (x:TRun),c <= k -> v[k]? = some x -> n <= x.hi) -> c = cntB v n
 | [],n,c,h,_,_=>by simp at h;simp [cntB,h]
 | x :: r,n,0,_,_,h2=>by
  have:=h2 0 x (by omega) rfl;simp only [cntB];rw [if_neg (by omega)]
 | x :: r,n,c + 1,h,h1,h2=>by
  have:=h1 0 x (by omega) rfl;simp only [cntB];rw [if_pos this,<- zBa (v:=r) (n:=n) (c:=c) (by simpa using h) (fun k y hk hy=>h1 (k + 1) y (by omega) (by simpa using hy)) (fun k y hk hy=>h2 (k + 1) y (by omega) (by simpa using hy))]
theorem vIa {v:List TRun} (h:Nf v):∀ {i j:Nat} {x y:TRun},i < j -> v[i]? = some x -> v[j]? = some y -> x.hi < y.hi:=by
 induction v with
 | nil=>intro i j x y _ hx;simp at hx
 | cons z r ih=>
  intro i j x y hij hx hy
  cases j with
  | zero=>omega
  | succ j=>
   have hyr:r[j]? = some y:=by simpa using hy
   have hym:=List.mem_of_getElem? hyr
   cases i with
   | zero=>
    simp at hx;subst hx;have:=h.2.1 y hym;have:=zd.1 (h.2.2.may y hym);omega
   | succ i=>exact ih h.2.2 (show i < j by omega) (by simpa using hx) hyr
theorem bs_loop (v:List TRun) (n:Int) (hv:Nf v) (hl:v.length <= 1000000000000):loop (zS v n) (0,(v.length:Int)) = pure (cntB v n:Int):=by
 refine uT (yna (fun s=>∃ i j:Nat,s = ((i:Int),(j:Int)) /\ i <= j /\ j <= v.length /\ (∀ (k:Nat) (x:TRun),k < i -> v[k]? = some x -> x.hi < n) /\ (∀ (k:Nat) (x:TRun),j <= k -> v[k]? = some x -> n <= x.hi)) (fun s=>(s.2 - s.1).toNat) ?_ _ ⟨0,v.length,rfl,Nat.zero_le _,Nat.le_refl _,fun k x hk=>absurd hk (Nat.not_lt_zero _),fun k x hk hx=>absurd (List.getElem?_eq_some_iff.1 hx).1 (Nat.not_lt.2 hk)⟩);rintro _ ⟨i,j,rfl,hij,hj,h1,h2⟩;unfold zS;simp only [ww]
 by_cases hc:(i:Int) < j
 ·rw [if_pos hc];have e:IntKind.i64.wrap (Int.fdiv (IntKind.u64.wrap (IntKind.i64.wrap ((i:Int) + j))) (2 ^ 1)) = (((i + j) / 2:Nat):Int):=by
   rw [wI64 (n:=(i:Int) + j) (by omega) (by omega),wU64 (by omega) (by omega),Int.fdiv_eq_ediv_of_nonneg _ (by decide)];have:((i:Int) + j) / 2 ^ 1 = (((i + j) / 2:Nat):Int):=by omega
   rw [this,wI64 (by omega) (by omega)]
  have hm:(i + j) / 2 < v.length:=by omega
  rw [e];simp only [zK (List.getElem?_eq_getElem hm),zA,vHa,zB,yJ (show (i + j) / 2 < 9223372036854775807 by omega)]
  by_cases hlt:v[(i + j) / 2].hi < n
  ·have:cmp3 v[(i + j) / 2].hi n < 0:=by unfold cmp3;rw [if_pos hlt];decide
   rw [if_pos this];refine ⟨⟨(i + j) / 2 + 1,j,rfl,by omega,hj,fun k x hk hx=>?_,h2⟩,?_⟩
   ·by_cases e:k = (i + j) / 2
    ·subst e;rw [List.getElem?_eq_getElem hm] at hx;cases hx;exact hlt
    ·have:=vIa hv (show k < (i + j) / 2 by omega) hx (List.getElem?_eq_getElem hm);omega
   ·simp only;omega
  ·have:¬ cmp3 v[(i + j) / 2].hi n < 0:=by unfold cmp3;rw [if_neg hlt];split <;> decide
   rw [if_neg this];refine ⟨⟨i,(i + j) / 2,rfl,by omega,by omega,h1,fun k x hk hx=>?_⟩,?_⟩
   ·by_cases e:k = (i + j) / 2
    ·subst e;rw [List.getElem?_eq_getElem hm] at hx;cases hx;omega
    ·have:=vIa hv (show (i + j) / 2 < k by omega) (List.getElem?_eq_getElem hm) hx;omega
   ·simp only;omega
 ·rw [if_neg hc];have hij':i = j:=by omega
  subst hij';show (i:Int) = (cntB v n:Int)
  rw [<- zBa hj h1 h2]
def hitB (v:List TRun) (n:Int):Bool:=match v[cntB v n]? with | some x=>decide (cmp3 x.hi n = 0) | none=>false
theorem bs_eq (v:List TRun) (n:Int) (hv:Nf v) (hl:v.length <= 1000000000000):zP v n = pure ((cntB v n:Int),hitB v n):=by
 unfold zP hitB;rw [bs_loop v n hv hl,zA]
 by_cases hc:cntB v n < v.length
 ·have:decide ((cntB v n:Int) < (v.length:Int)) = true:=by simpa using hc
  rw [this,cond_true,zK (List.getElem?_eq_getElem hc)];simp only [zA,vHa,zB,List.getElem?_eq_getElem hc]
 ·have:decide ((cntB v n:Int) < (v.length:Int)) = false:=by simpa using hc
  rw [this,cond_false,zA,List.getElem?_eq_none (by omega)]
theorem y2a : ∀ {v:List TRun} (n:Int),Nf v -> hasR v n = (match v[cntB v n]? with | some x=>decide (x.lo <= n) | none=>false)
 | [],n,_=>rfl
 | x :: r,n,h=>by
  by_cases hc:x.hi < n
  ·simp only [cntB,if_pos hc,List.getElem?_cons_succ];rw [<- y2a n h.2.2,xW];have:inR n x = false:=by
    rw [Bool.eq_false_iff];intro h;have:=(ym.1 h).2.2;omega
   rw [this,Bool.false_or]
  ·simp only [cntB,if_neg hc,List.getElem?_cons_zero];rw [Bool.eq_iff_iff,decide_eq_true_eq]
   constructor
   ·exact qh h
   ·intro hle;exact (yHa h hle).2 (.inl (by omega))
theorem has_eq (l:List TRun) (n:Int) (h:l.length <= 100000000000):UQ l n = pure (hasR l n):=by
 unfold UQ;have hl:=uv l;rw [Vl l (by omega),zB,zA,bs_eq _ n (Yn l) (by omega),zB,zA,<- wx l n,y2a n (Yn l)]
 generalize nrm l = v
 by_cases hc:cntB v n < v.length
 ·have:decide ((cntB v n:Int) < (v.length:Int)) = true:=by simpa using hc
  simp only [this,cond_true,zK (List.getElem?_eq_getElem hc),zA,List.getElem?_eq_getElem hc]
 ·have:decide ((cntB v n:Int) < (v.length:Int)) = false:=by simpa using hc
  simp only [this,cond_false,zA,List.getElem?_eq_none (show v.length <= cntB v n by omega)]

theorem vJa (A B:List TRun) (hA:Nf A) (hB:Nf B) (hl:A.length + B.length <= 1000000000000):(loop ZK (A,B,[])).wp fun r=>Nf r /\ ∀ n,hasR r n = (hasR A n && hasR B n):=by
 refine yna (fun s:List TRun × List TRun × List TRun=>Nf s.1 /\ Nf s.2.1 /\ Nf s.2.2 /\ (∀ y ∈ s.2.2,∀ x ∈ s.1,∀ z ∈ s.2.1,y.hi + 1 < max x.lo z.lo) /\ (∀ n,(hasR s.2.2 n || (hasR s.1 n && hasR s.2.1 n)) = (hasR A n && hasR B n)) /\ s.2.2.length + s.1.length + s.2.1.length <= A.length + B.length) (fun s=>s.1.length + s.2.1.length) ?_ (A,B,[]) ⟨hA,hB,(trivial:Nf []),by simp,by simp,by simp⟩;rintro ⟨a,b,out⟩ ⟨h1,h2,h3,h4,h5,h6⟩;simp only at h1 h2 h3 h4 h5 h6;unfold ZK
 cases a with
 | nil=>exact ⟨h3,fun n=>by rw [<- h5];simp⟩
 | cons x r=>
  cases b with
  | nil=>
   have e1:decide ((0:Int) < ((x :: r).length:Int)) = true:=by simp only [List.length_cons,decide_eq_true_eq];omega
   simp only [e1,cond_true];exact ⟨h3,fun n=>by rw [<- h5];simp⟩
  | cons z q=>
   have hx:=zd.1 h1.1;have hz:=zd.1 h2.1;have e1:decide ((0:Int) < ((x :: r).length:Int)) = true:=by simp only [List.length_cons,decide_eq_true_eq];omega
   have e2:decide ((0:Int) < ((z :: q).length:Int)) = true:=by simp only [List.length_cons,decide_eq_true_eq];omega
   simp only [e1,e2,cond_true,zA,WB (l:=x :: r) (i:=0) (y:=x) (by omega) rfl,WB (l:=z :: q) (i:=0) (y:=z) (by omega) rfl]
   -- the new list
   have hout:∃ out',(cond (decide (max x.lo z.lo <= min x.hi z.hi)) (M.need ((List.length out + List.length [(⟨max x.lo z.lo,min x.hi z.hi⟩:TRun)]) * 16 <= 140737488355328) (M.pure (out ++ [⟨max x.lo z.lo,min x.hi z.hi⟩]))) (M.pure out)) = M.pure out' /\ Nf out' /\ (∀ n,hasR out' n = (hasR out n || (inR n x && inR n z))) /\ (∀ y ∈ out',y ∈ out \/ y.hi = min x.hi z.hi) /\ out'.length <= out.length + 1:=by
    by_cases hc:max x.lo z.lo <= min x.hi z.hi
    ·refine ⟨out ++ [⟨max x.lo z.lo,min x.hi z.hi⟩],?_,Yj.2 ⟨h3,zd.2 ⟨by simp only;omega,hc,by simp only;omega⟩,fun y hy=>h4 y hy x (by simp) z (by simp)⟩,fun n=>?_,fun y hy=>?_,by simp⟩
     ·rw [decide_eq_true hc,cond_true,zF];simp at h6 ⊢;omega
     ·rw [uO,va]
      congr 1
      rw [Bool.eq_iff_iff,Bool.and_eq_true,ym,ym,ym];simp only;omega
     ·rcases List.mem_append.1 hy with hy | hy
      ·exact .inl hy
      ·simp at hy;subst hy;exact .inr rfl
    ·refine ⟨out,by rw [decide_eq_false hc];rfl,h3,fun n=>?_,fun y hy=>.inl hy,by omega⟩;have:(inR n x && inR n z) = false:=by
      rw [Bool.eq_false_iff];intro h;rw [Bool.and_eq_true,ym,ym] at h;omega
     rw [this,Bool.or_false]
   obtain ⟨out',o1,o2,o3,o4,o5⟩:=hout;have hh:∀ n,hasR out' n = (hasR out n || (inR n x && inR n z)):=o3;rw [o1];simp only [zA,ww]
   by_cases hc:x.hi < z.hi
   ·rw [if_pos hc,zF ⟨by omega,by simp only [List.length_cons];omega,by omega⟩];have ed:List.drop (Int.toNat 1) (List.take (Int.toNat ((x :: r).length:Int)) (x :: r)) = r:=by simp
    rw [ed];refine ⟨⟨h1.2.2,h2,o2,fun y hy x' hx' z' hz'=>?_,fun n=>?_,by simp at h6 ⊢;omega⟩,by simp only [List.length_cons];omega⟩
    ·rcases o4 y hy with hy | hy
     ·have:=h4 y hy x' (List.mem_cons_of_mem _ hx') z' hz';omega
     ·have:=h1.2.1 x' hx';omega
    ·simp only;rw [hh,<- h5,xW x,xW z,Bool.or_assoc]
     congr 1
     have hxq:(inR n x && hasR q n) = false:=by
      rw [Bool.eq_false_iff];intro h;rw [Bool.and_eq_true,ym] at h;have:=jQ h2 h.2;omega
     cases hv1:inR n x <;> cases hv2:inR n z <;> cases hv3:hasR r n <;> cases hv4:hasR q n <;> simp_all
   ·rw [if_neg hc,zF ⟨by omega,by simp only [List.length_cons];omega,by omega⟩];have ed:List.drop (Int.toNat 1) (List.take (Int.toNat ((z :: q).length:Int)) (z :: q)) = q:=by simp
    rw [ed];refine ⟨⟨h1,h2.2.2,o2,fun y hy x' hx' z' hz'=>?_,fun n=>?_,by simp at h6 ⊢;omega⟩,by simp only [List.length_cons];omega⟩
    ·rcases o4 y hy with hy | hy
     ·have:=h4 y hy x' hx' z' (List.mem_cons_of_mem _ hz');omega
     ·have:=h2.2.1 z' hz';omega
    ·simp only;rw [hh,<- h5,xW x,xW z,Bool.or_assoc]
     congr 1
     have hxq:(inR n z && hasR r n) = false:=by
      rw [Bool.eq_false_iff];intro h;rw [Bool.and_eq_true,ym] at h;have:=jQ h1 h.2;omega
     cases hv1:inR n x <;> cases hv2:inR n z <;> cases hv3:hasR r n <;> cases hv4:hasR q n <;> simp_all
theorem meetN_eq (a b:List TRun) (ha:a.length <= 100000000000) (hb:b.length <= 100000000000):Wj a b = pure (setR (· && ·) a b):=by
 unfold Wj;have la:=uv a;have lb:=uv b;rw [Vl a (by omega),zB,zA,Vl b (by omega),zB,zA];refine uT ((loop ZK (nrm a,nrm b,[])).mono (fun r ⟨h1,h2⟩=>?_) (vJa (nrm a) (nrm b) (Yn a) (Yn b) (by omega)));obtain ⟨s1,s2,_⟩:=zk (· && ·) rfl a b;exact VE h1 s1 fun n=>by rw [h2,s2,wx,wx]

def JH : Int -> List TRun -> List TRun
 | at_,[]=>[⟨at_,281474976710655⟩]
 | at_,x :: r=>⟨at_,x.lo - 1⟩ :: JH (x.hi + 1) r
theorem vKa (l:List TRun) (p:Int):(JH p l).length = l.length + 1:=by
 induction l generalizing p with
 | nil=>rfl
 | cons x r ih=>simp [JH,ih]
theorem zCa : ∀ (l:List TRun) (p:Int),Nf l -> 1 <= p -> (∀ x ∈ l,p <= x.lo) -> ∀ n,hasR (JH p l) n = true ↔ p <= n /\ n <= 281474976710655 /\ hasR l n = false
 | [],p,_,hp,_,n=>by
  rw [JH,va,ym];simp only [qf,and_true];omega
 | x :: r,p,h,hp,hlo,n=>by
  have hx:=zd.1 h.1;have:=hlo x (by simp);rw [JH,xW,Bool.or_eq_true,zCa r (x.hi + 1) h.2.2 (by omega) (fun y hy=>by have:=h.2.1 y hy;omega) n,ym];simp only;have hr:hasR (x :: r) n = false ↔ (n < x.lo \/ x.hi < n) /\ hasR r n = false:=by
   rw [xW,Bool.or_eq_false_iff];refine and_congr_left fun _=>?_
   rw [Bool.eq_false_iff,ne_eq,ym];omega
  rw [hr];have hrl:n < x.lo -> hasR r n = false:=fun hn=>by
   rw [Bool.eq_false_iff];intro h2;have:=jQ h h2;omega
  constructor
  ·rintro (h2 | h2)
   ·exact ⟨h2.2.1,by omega,.inl (by omega),hrl (by omega)⟩
   ·exact ⟨by omega,h2.2.1,.inr (by omega),h2.2.2⟩
  ·rintro ⟨h2,h3,h4,h5⟩;rcases h4 with h4 | h4
   ·left;omega
   ·right;exact ⟨by omega,h3,h5⟩
theorem rest_eq (l:List TRun) (h:l.length <= 100000000000):Wk l = pure (JH 1 (nrm l)):=by
 unfold Wk;have hl:=uv l;have hn:=Yn l;rw [Vl l (by omega),zB,zA]
 generalize nrm l = v at hl hn
 have h1:=Yg (body:=ZL v) v (fun i (t:Int × List TRun)=>(t.1,(i:Int),t.2)) (fun t x=>(x.hi + 1,t.2 ++ [⟨t.1,x.lo - 1⟩])) (fun t=>pure t) (fun i t=>t.2.length = i) (fun i x t hx hi hI=>by
  have h1:decide ((i:Int) < (v.length:Int)) = true:=by simpa using hi
  have hm:=zd.1 (hn.may x (List.mem_of_getElem? hx));refine ⟨?_,by simp [hI]⟩;unfold ZL;simp only [h1,cond_true,zK hx,zA,yJ (show i < 9223372036854775807 by omega),wU64 (show 0 <= x.lo - 1 by omega) (by omega),wU64 (show 0 <= x.hi + 1 by omega) (by omega)];rw [zF (by simp;omega)]) (fun t _=>by unfold ZL;simp [zA]) (1,[]) rfl
 rw [show ((1:Int),(0:Int),([]:List TRun)) = (1,((0:Nat):Int),[]) from rfl,h1];simp only [zA];have hf:∀ (l:List TRun) (t:Int × List TRun),(l.foldl (fun (t:Int × List TRun) x=>(x.hi + 1,t.2 ++ [(⟨t.1,x.lo - 1⟩:TRun)])) t).2 ++ [⟨(l.foldl (fun (t:Int × List TRun) x=>(x.hi + 1,t.2 ++ [(⟨t.1,x.lo - 1⟩:TRun)])) t).1,281474976710655⟩] = t.2 ++ JH t.1 l /\ (l.foldl (fun (t:Int × List TRun) x=>(x.hi + 1,t.2 ++ [(⟨t.1,x.lo - 1⟩:TRun)])) t).2.length = t.2.length + l.length:=by
  intro l
  induction l with
  | nil=>intro t;exact ⟨rfl,by simp⟩
  | cons x r ih=>
   intro t;rw [List.foldl_cons];obtain ⟨i1,i2⟩:=ih (x.hi + 1,t.2 ++ [⟨t.1,x.lo - 1⟩]);exact ⟨by rw [i1];simp [JH],by rw [i2];simp;omega⟩
 obtain ⟨f1,f2⟩:=hf v (1,[])
 generalize v.foldl (fun (t:Int × List TRun) x=>(x.hi + 1,t.2 ++ [(⟨t.1,x.lo - 1⟩:TRun)])) (1,[]) = t at f1 f2
 obtain ⟨p,out⟩:=t;simp only [List.length_nil] at f1 f2 ⊢;rw [zF (by simp;omega),f1]
 rfl
theorem minus_eq (a b:List TRun) (ha:a.length <= 10000000000) (hb:b.length <= 10000000000):Zl a b = pure (setR (fun x y=>x && !y) a b):=by
 unfold Zl;have lb:=uv b;have lr:=vKa (nrm b) 1;rw [rest_eq b (by omega),zB,zA,meetN_eq a _ (by omega) (by omega),zB,zA];refine congrArg pure ?_;obtain ⟨s1,s2,_⟩:=zk (· && ·) rfl a (JH 1 (nrm b));obtain ⟨t1,t2,_⟩:=zk (fun x y=>x && !y) rfl a b;refine VE s1 t1 fun n=>?_
 rw [s2,t2,<- wx b]
 cases hh:hasR a n with
 | false=>rfl
 | true=>
  have:=Ja hh;rw [Bool.true_and,Bool.true_and,Bool.eq_iff_iff,zCa (nrm b) 1 (Yn b) (by omega) (fun x hx=>(zd.1 ((Yn b).may x hx)).1) n];simp only [Bool.not_eq_true'];exact ⟨fun h=>h.2.2,fun h=>⟨this.1,this.2,h⟩⟩

theorem VG (l:List Int):(ones l).length = l.length:=by simp [ones]
end Go.Ep.M.R

namespace Go.Ep.M.C
open Go

def rawC (c:List TPart) (k:Int):List TRun:=(c.filter fun p=>decide (p.dev = k) && decide (0 < k)).flatMap (·.runs)
theorem qq (k:Int):rawC [] k = []:=rfl
theorem Zy (p:TPart) (c:List TPart) (k:Int):rawC (p :: c) k = (if p.dev = k /\ 0 < k then p.runs else []) ++ rawC c k:=by
 unfold rawC;rw [List.filter_cons]
 by_cases h:p.dev = k /\ 0 < k
 ·simp [h.1,h.2]
 ·rw [if_neg (by simpa using h),if_neg h];rfl
theorem VH (a b:List TPart) (k:Int):rawC (a ++ b) k = rawC a k ++ rawC b k:=by simp [rawC,List.filter_append]
theorem qr {c:List TPart} {k:Int} (h:¬ 0 < k):rawC c k = []:=by simp [rawC,h]
def hasC (c:List TPart) (k n:Int):Bool:=R.hasR (rawC c k) n
theorem hasC_app (a b:List TPart) (k n:Int):hasC (a ++ b) k n = (hasC a k n || hasC b k n):=by simp [hasC,VH,R.uO]
def totC (c:List TPart):Nat:=(c.map fun p=>p.runs.length).sum
theorem qu (a b:List TPart):totC (a ++ b) = totC a + totC b:=by simp [totC]
theorem vA (c:List TPart) (k:Int):(rawC c k).length <= totC c:=by
 induction c with
 | nil=>simp [rawC]
 | cons p r ih=>
  rw [Zy,List.length_append];have:totC (p :: r) = p.runs.length + totC r:=by simp [totC]
  split
  ·omega
  ·simp;omega
theorem qv (ks:List Int):(ks.map fun _=>0).sum = 0:=by
 induction ks with
 | nil=>rfl
 | cons k r ih=>rw [List.map_cons,List.sum_cons,ih]
theorem rawC_sum (c:List TPart) (ks:List Int) (h:ks.Nodup):(ks.map fun k=>(rawC c k).length).sum <= totC c:=by
 induction c with
 | nil=>simp only [qq,List.length_nil,qv];exact Nat.zero_le _
 | cons p r ih=>
  have e:totC (p :: r) = p.runs.length + totC r:=by simp [totC]
  have h1:(ks.map fun k=>(rawC (p :: r) k).length).sum = (ks.map fun k=>if p.dev = k /\ 0 < k then p.runs.length else 0).sum + (ks.map fun k=>(rawC r k).length).sum:=by
   clear h ih
   induction ks with
   | nil=>rfl
   | cons k ks ih2=>
    simp only [List.map_cons,List.sum_cons,Zy,List.length_append] at ih2 ⊢
    by_cases hc:p.dev = k /\ 0 < k
    ·rw [if_pos hc,if_pos hc];omega
    ·rw [if_neg hc,if_neg hc,List.length_nil];omega
  have h2:(ks.map fun k=>if p.dev = k /\ 0 < k then p.runs.length else 0).sum <= p.runs.length:=by
   clear ih h1 e
   induction ks with
   | nil=>simp
   | cons k ks ih2=>
    obtain ⟨n1,n2⟩:=List.nodup_cons.1 h;simp only [List.map_cons,List.sum_cons]
    by_cases hk:p.dev = k
    ·have h0:(ks.map fun k=>if p.dev = k /\ 0 < k then p.runs.length else 0).sum = 0:=by
      have:(ks.map fun k=>if p.dev = k /\ 0 < k then p.runs.length else 0) = ks.map fun _=>0:=by
       refine List.map_congr_left fun q hq=>?_
       rw [if_neg];rintro ⟨e,_⟩;exact n1 (by rw [<- hk,e];exact hq)
      rw [this];exact qv ks
     rw [h0]
     split <;> omega
    ·rw [if_neg (fun h=>hk h.1)];have:=ih2 n2;omega
  omega

def OrdP (l:List TPart):Prop:=l.Pairwise fun x y=>x.dev < y.dev
theorem Ub : ∀ {l l':List TPart},OrdP l -> OrdP l' -> (∀ d,d ∈ l ↔ d ∈ l') -> l = l'
 | [],[],_,_,_=>rfl
 | [],y :: r,_,_,h=>absurd ((h y).2 (by simp)) (by simp)
 | x :: r,[],_,_,h=>absurd ((h x).1 (by simp)) (by simp)
 | x :: r,y :: q,h1,h2,h=>by
  obtain ⟨a1,a2⟩:=List.pairwise_cons.1 h1;obtain ⟨b1,b2⟩:=List.pairwise_cons.1 h2;have e:x = y:=by
   rcases List.mem_cons.1 ((h x).1 (by simp)) with e | hx
   ·exact e
   ·rcases List.mem_cons.1 ((h y).2 (by simp)) with e | hy
    ·exact e.symm
    ·have:=a1 y hy;have:=b1 x hx;omega
  subst e
  congr 1
  refine Ub a2 b2 fun d=>⟨fun hd=>?_,fun hd=>?_⟩
  ·rcases List.mem_cons.1 ((h d).1 (List.mem_cons_of_mem _ hd)) with e | hx
   ·subst e;have:=a1 d hd;omega
   ·exact hx
  ·rcases List.mem_cons.1 ((h d).2 (List.mem_cons_of_mem _ hd)) with e | hx
   ·subst e;have:=b1 d hd;omega
   ·exact hx
def yH (f:Int -> List TRun) (ks:List Int):List TPart:=ks.filterMap fun k=>if f k = [] then none else some ⟨k,f k⟩
theorem vO {f:Int -> List TRun} {ks:List Int} {p:TPart}:p ∈ yH f ks ↔ p.dev ∈ ks /\ p.runs ≠ [] /\ p.runs = f p.dev:=by
 unfold yH;rw [List.mem_filterMap]
 constructor
 ·rintro ⟨k,hk,h⟩
  split at h
  ·cases h
  ·rename_i h0;cases h;exact ⟨hk,h0,rfl⟩
 ·rintro ⟨h1,h2,h3⟩;refine ⟨p.dev,h1,?_⟩;rw [if_neg (by rw [<- h3];exact h2),<- h3]
theorem vP {f:Int -> List TRun} {ks:List Int} (h:ks.Pairwise (· < ·)):OrdP (yH f ks):=by
 unfold OrdP yH;rw [List.pairwise_filterMap];refine h.imp fun {a b} hab x hx y hy=>?_
 split at hx
 ·cases hx
 ·split at hy
  ·cases hy
  ·cases hx;cases hy;exact hab
theorem jV {f g:Int -> List TRun} {ks ls:List Int} (h1:ks.Pairwise (· < ·)) (h2:ls.Pairwise (· < ·)) (hf:∀ k,f k = g k) (h:∀ k,f k ≠ [] -> (k ∈ ks ↔ k ∈ ls)):yH f ks = yH g ls:=by
 refine Ub (vP h1) (vP h2) fun p=>?_
 rw [vO,vO]
 constructor
 ·rintro ⟨a,b,c⟩;exact ⟨(h _ (by rw [<- c];exact b)).1 a,b,by rw [c,hf]⟩
 ·rintro ⟨a,b,c⟩;exact ⟨(h _ (by rw [hf,<- c];exact b)).2 a,b,by rw [c,hf]⟩
theorem yJa (f:Int -> List TRun) (ks:List Int):(yH f ks).length <= ks.length:=List.length_filterMap_le _ _
theorem yKa (f:Int -> List TRun) (ks:List Int):totC (yH f ks) = (ks.map fun k=>(f k).length).sum:=by
 induction ks with
 | nil=>rfl
 | cons k ks ih=>
  have:yH f (k :: ks) = (if f k = [] then [] else [⟨k,f k⟩]) ++ yH f ks:=by
   unfold yH
   by_cases h:f k = [] <;> simp [h]
  rw [this,qu,ih]
  by_cases h:f k = [] <;> simp [h,totC]
theorem jW {f:Int -> List TRun} {ks:List Int} (h:ks.Nodup) (k:Int):rawC (yH f ks) k = if k ∈ ks /\ 0 < k then f k else []:=by
 induction ks with
 | nil=>simp [yH,rawC]
 | cons q ks ih=>
  obtain ⟨n1,n2⟩:=List.nodup_cons.1 h;have e:yH f (q :: ks) = (if f q = [] then [] else [⟨q,f q⟩]) ++ yH f ks:=by
   unfold yH
   by_cases h:f q = [] <;> simp [h]
  rw [e,VH,ih n2]
  by_cases hq:q = k
  ·subst hq;rw [if_neg (fun (h:q ∈ ks /\ 0 < q)=>n1 h.1),List.append_nil]
   by_cases h0:f q = []
   ·rw [if_pos h0,h0];simp [rawC]
   ·rw [if_neg h0]
    by_cases hp:0 < q
    ·rw [if_pos ⟨List.mem_cons_self,hp⟩];simp [rawC,hp]
    ·rw [if_neg (fun h=>hp h.2)];exact qr hp
  ·have:rawC (if f q = [] then [] else [(⟨q,f q⟩:TPart)]) k = []:=by
    by_cases h0:f q = [] <;> simp [h0,rawC,hq]
   rw [this];have hm:(k ∈ q :: ks) ↔ k ∈ ks:=by simp [Ne.symm hq]
   simp only [hm,List.nil_append]

def zDa (l:List Int) (p:TPart):List Int:=if 0 < p.dev then V.insI l p.dev else l
def VI (c:List TPart):List Int:=c.foldl zDa []
theorem VD (c:List TPart):∀ l:List Int,l.Pairwise (· < ·) -> (c.foldl zDa l).Pairwise (· < ·) /\ (∀ k,k ∈ c.foldl zDa l ↔ k ∈ l \/ ∃ p ∈ c,p.dev = k /\ 0 < k) /\ (c.foldl zDa l).length <= l.length + c.length:=by
 induction c with
 | nil=>intro l h;simp [h]
 | cons p r ih=>
  intro l h;rw [List.foldl_cons]
  by_cases hp:0 < p.dev
  ·have e:zDa l p = V.insI l p.dev:=by simp [zDa,hp]
   rw [e];obtain ⟨h1,h2,h3⟩:=ih _ (V.uu h p.dev);refine ⟨h1,fun k=>?_,by have:=V.VC l p.dev;simp;omega⟩;rw [h2,V.UZ]
   constructor
   ·rintro ((rfl | h4) | ⟨x,h4,h5⟩)
    ·exact .inr ⟨p,by simp,rfl,hp⟩
    ·exact .inl h4
    ·exact .inr ⟨x,by simp [h4],h5⟩
   ·rintro (h4 | ⟨x,h4,h5,h6⟩)
    ·exact .inl (.inr h4)
    ·rcases List.mem_cons.1 h4 with rfl | h4
     ·exact .inl (.inl h5.symm)
     ·exact .inr ⟨x,h4,h5,h6⟩
  ·have e:zDa l p = l:=by simp [zDa,hp]
   rw [e];obtain ⟨h1,h2,h3⟩:=ih _ h;refine ⟨h1,fun k=>?_,by simp;omega⟩;rw [h2]
   constructor
   ·rintro (h4 | ⟨x,h4,h5⟩)
    ·exact .inl h4
    ·exact .inr ⟨x,by simp [h4],h5⟩
   ·rintro (h4 | ⟨x,h4,h5,h6⟩)
    ·exact .inl h4
    ·rcases List.mem_cons.1 h4 with rfl | h4
     ·rw [h5] at hp;exact absurd h6 hp
     ·exact .inr ⟨x,h4,h5,h6⟩
theorem wO (c:List TPart):(VI c).Pairwise (· < ·):=(VD c [] List.Pairwise.nil).1
theorem zEa {l:List Int} (h:l.Pairwise (· < ·)):l.Nodup:=h.imp fun {a b} h e=>by omega
theorem Vm (c:List TPart):(VI c).Nodup:=zEa (wO c)
theorem xz {c:List TPart} {k:Int}:k ∈ VI c ↔ (∃ p ∈ c,p.dev = k) /\ 0 < k:=by
 have:=(VD c [] List.Pairwise.nil).2.1 k;unfold VI;rw [this];simp only [List.not_mem_nil,false_or]
 constructor
 ·rintro ⟨p,h1,h2,h3⟩;exact ⟨⟨p,h1,h2⟩,h3⟩
 ·rintro ⟨⟨p,h1,h2⟩,h3⟩;exact ⟨p,h1,h2,h3⟩
theorem len_devs (c:List TPart):(VI c).length <= c.length:=by simpa [VI] using (VD c [] List.Pairwise.nil).2.2
theorem ZS {c:List TPart} {k:Int} (h:rawC c k ≠ []):k ∈ VI c:=by
 rw [xz];refine Classical.byContradiction fun hn=>h ?_
 unfold rawC;have:(c.filter fun p=>decide (p.dev = k) && decide (0 < k)) = []:=by
  rw [List.filter_eq_nil_iff];intro p hp;simp only [Bool.and_eq_true,decide_eq_true_eq];rintro ⟨h1,h2⟩;exact hn ⟨⟨p,hp,h1⟩,h2⟩
 rw [this];rfl

def opC (op:Bool -> Bool -> Bool) (a b:List TPart):List TPart:=yH (fun k=>R.setR op (rawC a k) (rawC b k)) (VI (a ++ b))
def zo (c:List TPart):List TPart:=yH (fun k=>R.nrm (rawC c k)) (VI c)
theorem y3a {op:Bool -> Bool -> Bool} (h0:op false false = false):R.setR op [] [] = []:=by
 have:=R.zk op h0 [] [];exact R.VE this.1 trivial fun n=>by rw [this.2.1];exact h0
theorem jX : R.nrm [] = []:=y3a rfl
theorem has_opC {op:Bool -> Bool -> Bool} (h0:op false false = false) (a b:List TPart) (k n:Int):hasC (opC op a b) k n = op (hasC a k n) (hasC b k n):=by
 unfold hasC opC;rw [jW (Vm _)]
 split
 ·rw [(R.zk op h0 _ _).2.1]
 ·rename_i h
  have e:rawC a k = [] /\ rawC b k = []:=by
   have h1:rawC (a ++ b) k = []:=Classical.byContradiction fun h2=>h ⟨ZS h2,(xz.1 (ZS h2)).2⟩
   rw [VH] at h1;simpa using h1
  rw [e.1,e.2];show R.hasR [] n = _;simp [R.hasR,h0]
theorem vLa (c:List TPart) (k n:Int):hasC (zo c) k n = hasC c k n:=by
 unfold hasC zo;rw [jW (Vm _)]
 split
 ·rw [R.wx]
 ·rename_i h
  have e:rawC c k = []:=Classical.byContradiction fun h2=>h ⟨ZS h2,(xz.1 (ZS h2)).2⟩
  rw [e]
structure Canon (c:List TPart):Prop where
 ord:OrdP c
 nf:∀ p ∈ c,0 < p.dev /\ p.runs ≠ [] /\ R.Nf p.runs
theorem jY {f:Int -> List TRun} {c:List TPart} (h:∀ k,R.Nf (f k)):Canon (yH f (VI c)):=⟨vP (wO c),fun p hp=>by
 obtain ⟨h1,h2,h3⟩:=vO.1 hp;exact ⟨(xz.1 h1).2,h2,by rw [h3];exact h _⟩⟩
theorem canon_op {op:Bool -> Bool -> Bool} (h0:op false false = false) (a b:List TPart):Canon (opC op a b):=jY fun _=>(R.zk op h0 _ _).1
theorem vQ (c:List TPart):Canon (zo c):=jY fun _=>R.Yn _
theorem qw : ∀ {c:List TPart},OrdP c -> ∀ p ∈ c,0 < p.dev -> rawC c p.dev = p.runs
 | [],_,p,hp,_=>by simp at hp
 | q :: r,h,p,hp,h0=>by
  obtain ⟨h1,h2⟩:=List.pairwise_cons.1 h;rw [Zy];rcases List.mem_cons.1 hp with rfl | hp
  ·rw [if_pos ⟨rfl,h0⟩];have:rawC r p.dev = []:=by
    unfold rawC;have:(r.filter fun x=>decide (x.dev = p.dev) && decide (0 < p.dev)) = []:=by
     rw [List.filter_eq_nil_iff];intro x hx;have:=h1 x hx;simp;omega
    rw [this];rfl
   rw [this,List.append_nil]
  ·have:=h1 p hp;rw [if_neg (by omega),qw h2 p hp h0];rfl
theorem Canon.eq_norm {c:List TPart} (h:Canon c):c = zo c:=by
 refine Ub h.ord (vQ c).ord fun p=>?_
 unfold zo;rw [vO]
 constructor
 ·intro hp;obtain ⟨h1,h2,h3⟩:=h.nf p hp;exact ⟨xz.2 ⟨⟨p,hp,rfl⟩,h1⟩,h2,by rw [qw h.ord p hp h1,R.ql h3]⟩
 ·rintro ⟨h1,h2,h3⟩;obtain ⟨⟨q,hq,hd⟩,h0⟩:=xz.1 h1;obtain ⟨g1,g2,g3⟩:=h.nf q hq;have e:rawC c p.dev = q.runs:=by rw [<- hd];exact qw h.ord q hq g1
  rw [e,R.ql g3] at h3;have:p = q:=by cases p;cases q;simp_all
  rw [this];exact hq
theorem jZ {a b:List TPart} (h:∀ k n,hasC a k n = hasC b k n):zo a = zo b:=by
 have hf:∀ k,R.nrm (rawC a k) = R.nrm (rawC b k):=fun k=>R.VE (R.Yn _) (R.Yn _) fun n=>by rw [R.wx,R.wx];exact h k n
 refine jV (wO a) (wO b) hf fun k hk=>?_
 have ha:rawC a k ≠ []:=fun e=>hk (by rw [e];exact jX)
 have hb:rawC b k ≠ []:=fun e=>hk (by rw [hf,e];exact jX)
 exact ⟨fun _=>ZS hb,fun _=>ZS ha⟩
theorem Canon.ext {a b:List TPart} (ha:Canon a) (hb:Canon b) (h:∀ k n,hasC a k n = hasC b k n):a = b:=by rw [ha.eq_norm,hb.eq_norm];exact jZ h
theorem Vn {c:List TPart} (h:Canon c):zo c = c:=h.eq_norm.symm
theorem norm_or (a b:List TPart):zo (a ++ b) = opC (· || ·) a b:=(vQ _).ext (canon_op rfl a b) fun k n=>by rw [vLa,hasC_app,has_opC rfl]
theorem XK (c:List TPart):(zo c).length <= c.length:=Nat.le_trans (yJa _ _) (len_devs c)
theorem sum_le {ks:List Int} {f g:Int -> Nat} (h:∀ k,f k <= g k):(ks.map f).sum <= (ks.map g).sum:=by
 induction ks with
 | nil=>simp
 | cons k r ih=>have:=h k;simp;omega
theorem sum_two (ks:List Int) (f g:Int -> Nat):(ks.map fun k=>2 * (f k + g k)).sum = 2 * ((ks.map f).sum + (ks.map g).sum):=by
 induction ks with
 | nil=>rfl
 | cons k r ih=>simp;omega
theorem XL (c:List TPart):totC (zo c) <= 2 * totC c:=by
 unfold zo;rw [yKa];refine Nat.le_trans (sum_le (g:=fun k=>2 * ((rawC c k).length + 0)) fun k=>by have:=R.uv (rawC c k);omega) ?_;rw [sum_two];have h1:=rawC_sum c (VI c) (Vm _);have h2:=qv (VI c);omega


theorem get_grow (l:List (Int × List TRun)):∀ (m:List (Int × List TRun)) (k:Int),AL.getZ (AL.grow m l) k [] = AL.getZ m k [] ++ (l.filter fun x=>decide (x.1 = k)).flatMap (·.2):=by
 induction l with
 | nil=>intro m k;simp [AL.grow]
 | cons x r ih=>
  intro m k;show AL.getZ (AL.grow (AL.set m x.1 (AL.getZ m x.1 [] ++ x.2)) r) k [] = _;rw [ih,AL.getZ_set,List.filter_cons]
  by_cases h:x.1 = k
  ·subst h;simp
  ·simp [h]
theorem x5a (l:List (Int × List TRun)):∀ m:List (Int × List TRun),(m.map (·.1)).Nodup -> ((AL.grow m l).map (·.1)).Nodup:=by
 induction l with
 | nil=>intro m h;exact h
 | cons x r ih=>intro m h;exact ih _ (AL.nodup_set h _ _)
theorem len_grow (l:List (Int × List TRun)):∀ m:List (Int × List TRun),(AL.grow m l).length <= m.length + l.length:=by
 induction l with
 | nil=>intro m;exact Nat.le_refl _
 | cons x r ih=>
  intro m;have h1:=ih (AL.set m x.1 (AL.getZ m x.1 [] ++ x.2));have h2:=AL.len_set m x.1 (AL.getZ m x.1 [] ++ x.2);show (AL.grow (AL.set m x.1 (AL.getZ m x.1 [] ++ x.2)) r).length <= _;simp only [List.length_cons];omega
theorem key_grow (l:List (Int × List TRun)):∀ (m:List (Int × List TRun)) (k:Int),k ∈ (AL.grow m l).map (·.1) -> k ∈ m.map (·.1) \/ ∃ x ∈ l,x.1 = k:=by
 induction l with
 | nil=>intro m k h;exact .inl h
 | cons x r ih=>
  intro m k h;rcases ih _ k h with h | ⟨y,hy,e⟩
  ·rw [AL.keys_set] at h
   split at h
   ·exact .inl h
   ·rcases List.mem_append.1 h with h | h
    ·exact .inl h
    ·exact .inr ⟨x,by simp,(List.mem_singleton.1 h).symm⟩
  ·exact .inr ⟨y,by simp [hy],e⟩
def vz (c:List TPart):List (Int × List TRun):=AL.grow [] (c.filterMap zm)
theorem vZ (c:List TPart) (k:Int):AL.getZ (vz c) k [] = rawC c k:=by
 unfold vz;rw [get_grow];show [] ++ _ = _;rw [List.nil_append]
 induction c with
 | nil=>rfl
 | cons p r ih=>
  rw [Zy,<- ih,List.filterMap_cons]
  by_cases h0:0 < p.dev
  ·have e:zm p = some (p.dev,p.runs):=by simp [zm,h0]
   rw [e];simp only [List.filter_cons]
   by_cases h:p.dev = k
   ·subst h;simp [h0]
   ·simp [h]
  ·have e:zm p = none:=by simp [zm,h0]
   rw [e,if_neg (by rintro ⟨h1,h2⟩;omega)];rfl
theorem uR (c:List TPart):((vz c).map (·.1)).Nodup:=x5a _ _ (by simp)
theorem y4a (c:List TPart):(vz c).length <= c.length:=by
 have h1:=len_grow (c.filterMap zm) [];have h2:=List.length_filterMap_le zm c;unfold vz;simp at h1;omega
theorem told_pos {c:List TPart} {k:Int} (h:k ∈ (vz c).map (·.1)):0 < k /\ k ∈ VI c:=by
 rcases key_grow _ _ _ h with h | ⟨x,hx,rfl⟩
 ·simp at h
 ·rw [List.mem_filterMap] at hx;obtain ⟨p,hp,hx⟩:=hx;unfold zm at hx
  split at hx
  ·rename_i h0;cases hx;exact ⟨h0,xz.2 ⟨⟨p,hp,rfl⟩,h0⟩⟩
  ·cases hx
theorem Yi {c:List TPart} {e:Int × List TRun} (h:e ∈ vz c):e.2 = rawC c e.1 /\ 0 < e.1 /\ e.1 ∈ VI c:=by
 have h1:=AL.mem_get (uR c) (k:=e.1) (v:=e.2) h;have h2:=vZ c e.1;unfold AL.getZ at h2;rw [h1] at h2;exact ⟨h2,told_pos (List.mem_map.2 ⟨e,h,rfl⟩)⟩
theorem vMa {c:List TPart} {k:Int} (h:rawC c k ≠ []):(k,rawC c k) ∈ vz c:=by
 have h2:=vZ c k;unfold AL.getZ at h2
 cases hg:AL.get (vz c) k with
 | none=>rw [hg] at h2;exact absurd h2.symm h
 | some v=>rw [hg] at h2;simp only [Option.getD_some] at h2;subst h2;exact AL.get_mem hg
theorem tot_told (c:List TPart):((c.filterMap zm).map fun x=>x.2.length).sum <= totC c:=by
 induction c with
 | nil=>simp
 | cons p r ih=>
  have e:totC (p :: r) = p.runs.length + totC r:=by simp [totC]
  rw [List.filterMap_cons]
  by_cases h0:0 < p.dev
  ·have e2:zm p = some (p.dev,p.runs):=by simp [zm,h0]
   rw [e2];simp only [List.map_cons,List.sum_cons];omega
  ·have e2:zm p = none:=by simp [zm,h0]
   rw [e2];simp only;omega
def Sm (c:List TPart):Prop:=c.length <= 10000000000 /\ totC c <= 10000000000
theorem qx (c:List TPart) (h:Sm c):YI c = pure (vz c):=by
 unfold YI;rw [zF]
 ·rfl
 ·have:=tot_told c;refine ⟨by have:=h.1;omega,?_⟩;have:=h.2;omega
theorem y5a (m:List (Int × List TRun)) (f:Int -> List TRun) (ks:List Int) (hl:m.length <= 1000000000000) (hr:∀ e ∈ m,e.2.length <= 1000000000000) (hn:(m.map (·.1)).Nodup) (hs:ks.Pairwise (· < ·)) (h1:∀ e ∈ m,R.nrm e.2 ≠ [] -> e.1 ∈ ks /\ R.nrm e.2 = f e.1) (h2:∀ k ∈ ks,f k ≠ [] -> ∃ r,(k,r) ∈ m /\ R.nrm r = f k):uU m = pure (yH f ks):=by
 unfold uU;have hall:∀ Q:List TPart -> Prop,(∀ l:List (Int × List TRun),l.Perm m -> Q ((l.filter fun e=>decide (R.nrm e.2 ≠ [])).map fun e=>(⟨e.1,R.nrm e.2⟩:TPart))) -> (loop (ZF m) ([],([]:List TPart))).wp Q:=by
  intro Q hQ;refine M.loopM (body:=ZF m) m (fun L (t:List TPart)=>(L,t)) (fun t e=>(xP e.2).det.bind fun v=>if 0 < v.length then need ((t.length + 1) * 32 <= 140737488355328) (pure (t ++ [(⟨e.1,v⟩:TPart)])) else pure t) (fun t=>pure t)
   (fun l t=>t = ((l.filter fun e=>decide (R.nrm e.2 ≠ [])).map fun e=>(⟨e.1,R.nrm e.2⟩:TPart))) Q (fun L t hL=>?_) (fun l t y ht hlen hy=>?_) (fun l t hp ht=>?_) [] rfl
  ·unfold ZF;show need _ ((nxt _ _).bind _) = need _ ((nxt _ _).bind _);refine congrArg (fun k=>need _ ((nxt _ _).bind k)) (funext fun o=>?_)
   cases o with
   | none=>rfl
   | some i=>
    refine congrArg (fun k=>(idx m (Int.ofNat i)).bind k) (funext fun y=>?_);rw [JP];refine congrArg (fun k=>(xP y.2).det.bind k) (funext fun v=>?_);rw [ww]
    by_cases h:0 < v.length
    ·rw [if_pos (by omega),if_pos h];rfl
    ·rw [if_neg (by omega),if_neg h];rfl
  ·have hle:=List.length_filter_le (fun e:Int × List TRun=>decide (R.nrm e.2 ≠ [])) l;have htl:t.length <= l.length:=by rw [ht,List.length_map];exact hle
   rw [R.Vl y.2 (hr y hy),zB,zA];refine ⟨if R.nrm y.2 = [] then t else t ++ [⟨y.1,R.nrm y.2⟩],?_,?_⟩
   ·by_cases h:R.nrm y.2 = []
    ·rw [if_neg (by rw [h];simp),if_pos h]
    ·rw [if_pos (by rw [List.length_pos_iff];exact h),if_neg h,zF (by omega)]
   ·subst ht;rw [List.filter_append,List.map_append]
    by_cases h:R.nrm y.2 = [] <;> simp [h]
  ·subst ht;exact hQ l hp
 refine uT (hall _ fun l hp=>?_);show (need _ _).wp _;have hll:=hp.length_eq;have hle:=List.length_filter_le (fun e:Int × List TRun=>decide (R.nrm e.2 ≠ [])) l;have hmem:∀ d:TPart,d ∈ ((l.filter fun e=>decide (R.nrm e.2 ≠ [])).map fun e=>(⟨e.1,R.nrm e.2⟩:TPart)) ↔ d ∈ yH f ks:=by
  intro d;rw [vO,List.mem_map]
  constructor
  ·rintro ⟨e,he,rfl⟩;rw [List.mem_filter,hp.mem_iff] at he;have h0:R.nrm e.2 ≠ []:=by simpa using he.2
   obtain ⟨h3,h4⟩:=h1 e he.1 h0;exact ⟨h3,h0,h4⟩
  ·rintro ⟨h3,h4,h5⟩;obtain ⟨r,h6,h7⟩:=h2 d.dev h3 (by rw [<- h5];exact h4);refine ⟨(d.dev,r),?_,by show (⟨d.dev,R.nrm r⟩:TPart) = d;rw [h7,<- h5]⟩;rw [List.mem_filter,hp.mem_iff];refine ⟨h6,?_⟩;simp only [decide_eq_true_eq];rw [h7,<- h5];exact h4
 have hnd:((l.filter fun e=>decide (R.nrm e.2 ≠ [])).map fun e=>(⟨e.1,R.nrm e.2⟩:TPart)).Pairwise (fun x y=>x.dev ≠ y.dev):=by
  rw [List.pairwise_map];have:l.Pairwise (fun x y=>x.1 ≠ y.1):=by
   have:=(hp.map (·.1)).nodup_iff.2 hn;exact List.pairwise_map.1 this
  exact (this.filter _)
 refine ⟨by simp only [List.length_map];omega,⟨?_,fun l' ⟨hp',hs'⟩=>?_⟩⟩
 ·refine ⟨yH f ks,?_,?_⟩
  ·refine (List.perm_ext_iff_of_nodup ?_ ?_).2 fun d=>(hmem d).symm
   ·exact (vP hs).imp fun {a b} h e=>by subst e;omega
   ·exact hnd.imp fun {a b} h e=>by subst e;exact h rfl
  ·exact (vP hs).imp fun {a b} h=>by simp [JQ];omega
 ·show l' = _;refine Ub ?_ (vP hs) fun d=>by rw [hp'.mem_iff];exact hmem d
  have hnd':=(hp'.pairwise_iff (fun {a b} h=>Ne.symm h)).2 hnd;exact (hs'.and hnd').imp fun {a b} ⟨h3,h4⟩=>by simp [JQ] at h3;omega
theorem x6a (c:List TPart) (h:Sm c):uU (vz c) = pure (zo c):=by
 refine y5a _ _ _ (by have:=y4a c;have:=h.1;omega) (fun e he=>?_) (uR c) (wO c) (fun e he h0=>?_) (fun k hk h0=>?_)
 ·rw [(Yi he).1];have:=vA c e.1;have:=h.2;omega
 ·obtain ⟨h1,h2,h3⟩:=Yi he;exact ⟨h3,by rw [h1]⟩
 ·exact ⟨_,vMa (fun e=>h0 (by rw [e];exact jX)),rfl⟩
theorem qy (c:List TPart) (h:Sm c):YJ c = pure (zo c):=by
 unfold YJ;rw [qx c h,zB,zA,x6a c h,zB,zA]
theorem Runs_eq (c:List TPart) (k:Int) (h:Sm c):UR c k = pure (R.nrm (rawC c k)):=by
 unfold UR;rw [qx c h,zB,zA,vZ,R.Vl _ (by have:=vA c k;have:=h.2;omega),zB,zA]
theorem y6a (c:List TPart) (d:TDot) (h:Sm c):jC c d = pure (hasC c d.dev d.n):=by
 unfold jC;rw [ww]
 by_cases h0:0 < d.dev
 ·rw [if_pos h0,Runs_eq c _ h,zB,zA,R.has_eq _ _ (by have:=R.uv (rawC c d.dev);have:=vA c d.dev;have:=h.2;omega),zB,zA,zA,R.wx]
  rfl
 ·rw [if_neg h0,zA];show pure false = pure (R.hasR (rawC c d.dev) d.n);rw [qr h0];rfl
def updM (h:Int × List TRun -> List TRun) (m:List (Int × List TRun)) (L:List Nat):List (Int × List TRun):=m.zipIdx.map fun y=>if y.2 ∈ L then (y.1.1,h y.1) else y.1
theorem uN {h:Int × List TRun -> List TRun} {m:List (Int × List TRun)} {L:List Nat} {i:Nat}:(updM h m L)[i]? = (m[i]?).map fun e=>if i ∈ L then (e.1,h e) else e:=by
 unfold updM;rw [List.getElem?_map,List.getElem?_zipIdx]
 cases m[i]? <;> simp
theorem qe {h:Int × List TRun -> List TRun} {m:List (Int × List TRun)} {L:List Nat}:(updM h m L).length = m.length:=by simp [updM]
theorem set_at {m:List (Int × List TRun)} (hn:(m.map (·.1)).Nodup) {i:Nat} {e:Int × List TRun} (hi:m[i]? = some e) (v:List TRun):AL.set m e.1 v = m.set i (e.1,v):=by
 induction m generalizing i with
 | nil=>simp at hi
 | cons x r ih=>
  obtain ⟨a,u⟩:=x;simp only [List.map_cons,List.nodup_cons] at hn
  cases i with
  | zero=>simp at hi;subst hi;simp [AL.set]
  | succ i=>
   simp at hi;have:a ≠ e.1:=fun q=>hn.1 (by rw [q];exact List.mem_map.2 ⟨e,List.mem_of_getElem? hi,rfl⟩)
   simp only [AL.set,this,if_false,List.set_cons_succ];rw [ih hn.2 hi]
theorem jP {h:Int × List TRun -> List TRun} {m:List (Int × List TRun)} {L:List Nat}:(updM h m L).map (·.1) = m.map (·.1):=by
 apply List.ext_getElem?;intro i;rw [List.getElem?_map,uN,List.getElem?_map]
 cases m[i]? with
 | none=>rfl
 | some e=>simp only [Option.map_some];split <;> rfl
theorem vNa {h:Int × List TRun -> List TRun} {m:List (Int × List TRun)} (hn:(m.map (·.1)).Nodup) {L:List Nat} {i:Nat} {e:Int × List TRun} (hi:m[i]? = some e) (hL:i ∉ L):AL.set (updM h m L) e.1 (h e) = updM h m (L ++ [i]):=by
 have h1:(updM h m L)[i]? = some e:=by rw [uN,hi];simp [hL]
 rw [set_at (by rw [jP];exact hn) h1];apply List.ext_getElem?;intro j;rw [List.getElem?_set,uN,uN]
 by_cases hj:i = j
 ·subst hj;have hlt:i < (updM h m L).length:=by rw [qe];exact (List.getElem?_eq_some_iff.1 hi).1
  rw [if_pos rfl,if_pos hlt,hi];simp
 ·rw [if_neg hj]
  cases m[j]? with
  | none=>rfl
  | some x=>simp [Ne.symm hj]
theorem updM_all {h:Int × List TRun -> List TRun} {m:List (Int × List TRun)} {L:List Nat} (hL:∀ i,i < m.length -> i ∈ L):updM h m L = m.map fun e=>(e.1,h e):=by
 apply List.ext_getElem?;intro i;rw [uN,List.getElem?_map]
 cases hi:m[i]? with
 | none=>rfl
 | some e=>simp [hL i (List.getElem?_eq_some_iff.1 hi).1]
theorem has_key {m:List (Int × List TRun)} {k:Int} (h:k ∈ m.map (·.1)):AL.has m k = true:=by
 unfold AL.has
 cases hg:AL.get m k with
 | none=>exact absurd h (AL.get_none.1 hg)
 | some v=>rfl
theorem vOa (body:List (Int × List TRun) -> List Nat × List (Int × List TRun) -> M (Step (List Nat × List (Int × List TRun)) (List (Int × List TRun)))) (do_:List TRun -> List TRun -> M (List TRun)) (F:List TRun -> List TRun -> List TRun) (m y:List (Int × List TRun)) (hn:(m.map (·.1)).Nodup)
  (hb:∀ L v,body y (L,v) = need (∀ i ∈ L,i < v.length) ((nxt v.length L).bind fun o=>match o with | none=>pure (.done v) | some j=>(idx v (Int.ofNat j)).bind fun kv=>(do_ kv.2 (AL.getZ y kv.1 [])).det.bind fun r=>need (AL.has v kv.1 = true) (pure (.next (L ++ [j],AL.set v kv.1 r)))))
  (hdo:∀ e ∈ m,do_ e.2 (AL.getZ y e.1 []) = pure (F e.2 (AL.getZ y e.1 []))):loop (body y) ([],m) = pure (m.map fun e=>(e.1,F e.2 (AL.getZ y e.1 []))):=by
 refine uT ?_;have:=loopN (body:=body y) m.length (fun L (v:List (Int × List TRun))=>(L,v)) (fun L v=>v = updM (fun e=>F e.2 (AL.getZ y e.1 [])) m L) (fun r=>r = m.map fun e=>(e.1,F e.2 (AL.getZ y e.1 []))) (fun L v hv hL hlt=>by
  have hlen:v.length = m.length:=by rw [hv];exact qe
  refine ⟨fun o=>match o with | none=>pure (.done v) | some j=>(idx v (Int.ofNat j)).bind fun kv=>(do_ kv.2 (AL.getZ y kv.1 [])).det.bind fun r=>need (AL.has v kv.1 = true) (pure (.next (L ++ [j],AL.set v kv.1 r))),?_,?_,?_⟩
  ·rw [hb,hlen]
  ·intro hall;show v = _;rw [hv];exact updM_all hall
  ·intro i hi hiL;have hm:=List.getElem?_eq_getElem hi;have hvi:v[i]? = some m[i]:=by rw [hv,uN,hm];simp [hiL]
   refine ⟨AL.set v (m[i]).1 (F (m[i]).2 (AL.getZ y (m[i]).1 [])),?_,?_⟩
   ·show (idx v (Int.ofNat i)).bind _ = _;rw [show (Int.ofNat i) = (i:Int) from rfl,zK hvi,zA,hdo _ (List.getElem_mem hi),zB,zA,zF];refine has_key ?_;rw [hv,jP];exact List.mem_map.2 ⟨m[i],List.getElem_mem hi,rfl⟩
   ·rw [hv];exact vNa hn hm hiL) m (by
  apply List.ext_getElem?;intro i;rw [uN]
  cases m[i]? <;> simp)
 exact this
theorem y7a {op:Bool -> Bool -> Bool} (h0:op false false = false) (a b:List TRun):R.nrm (R.setR op a b) = R.setR op a b:=R.ql (R.zk op h0 a b).1
theorem x7a {op:Bool -> Bool -> Bool} (h0:op false false = false) (hr:∀ x,op false x = false) (a b:List TPart) (ha:Sm a) (hb:Sm b) :
  uU ((vz a).map fun e=>(e.1,R.setR op e.2 (AL.getZ (vz b) e.1 []))) = pure (opC op a b):=by
 have hlenR:∀ x y:List TRun,(R.setR op x y).length <= 2 * (x.length + y.length):=fun x y=>(R.zk op h0 x y).2.2
 refine y5a _ _ _ (by have:=y4a a;have:=ha.1;simp;omega) (fun e he=>?_) (by rw [List.map_map];exact uR a) (wO _) (fun e he hne=>?_) (fun k hk hne=>?_)
 ·obtain ⟨x,hx,rfl⟩:=List.mem_map.1 he;have h1:=hlenR x.2 (AL.getZ (vz b) x.1 []);rw [(Yi hx).1,vZ] at h1;have:=vA a x.1;have:=vA b x.1;have:=ha.2;have:=hb.2;show (R.setR op x.2 (AL.getZ (vz b) x.1 [])).length <= _;rw [(Yi hx).1,vZ];omega
 ·obtain ⟨x,hx,rfl⟩:=List.mem_map.1 he;obtain ⟨h1,h2,h3⟩:=Yi hx;refine ⟨?_,?_⟩
  ·show x.1 ∈ _;obtain ⟨⟨p,hp,hd⟩,_⟩:=xz.1 h3;exact xz.2 ⟨⟨p,List.mem_append_left _ hp,hd⟩,h2⟩
  ·show R.nrm (R.setR op x.2 (AL.getZ (vz b) x.1 [])) = _;rw [y7a h0,vZ,h1]
 ·have hra:rawC a k ≠ []:=fun e=>hne (by
   rw [e];exact R.VE (R.zk op h0 _ _).1 trivial fun n=>by rw [(R.zk op h0 _ _).2.1];show op (R.hasR [] n) _ = _;exact hr _)
  refine ⟨R.setR op (rawC a k) (AL.getZ (vz b) k []),List.mem_map.2 ⟨(k,rawC a k),vMa hra,rfl⟩,?_⟩;rw [y7a h0,vZ]
theorem Minus_eq (a b:List TPart) (ha:Sm a) (hb:Sm b):Wl a b = pure (opC (fun x y=>x && !y) a b):=by
 unfold Wl wG;rw [qx a ha,zB,zA,qx b hb,zB,zA,vOa vD Zl (R.setR (fun x y=>x && !y)) (vz a) (vz b) (uR a) (fun L v=>rfl) (fun e he=>?_),zA,x7a rfl (fun _=>rfl) a b ha hb,zB,zA,zB,zA];rw [(Yi he).1,vZ];have:=vA a e.1;have:=vA b e.1;have:=ha.2;have:=hb.2;exact R.minus_eq _ _ (by omega) (by omega)
theorem vPa (a b:List TPart) (ha:Sm a) (hb:Sm b):Xm a b = pure (decide (opC (fun x y=>x && !y) a b = [])):=by
 unfold Xm;rw [Minus_eq a b ha hb,zB,zA];refine congrArg pure ?_
 cases opC (fun x y=>x && !y) a b with
 | nil=>rfl
 | cons p r=>simp;omega
theorem partEq (x y:TPart):(decide (x.dev = y.dev) && decide (x.runs = y.runs)) = decide (x = y):=by
 rw [Bool.eq_iff_iff]
 cases x;cases y
 simp
theorem eqP_eq (a b:List TPart) (ha:a.length <= 1000000000000) (hr:∀ p ∈ a,p.runs.length <= 1000000000000):zW a b = pure (decide (a = b)):=by
 unfold zW
 by_cases hl:(a.length:Int) = b.length
 ·simp only [hl,decide_true,Bool.not_true,cond_false];have:=xl (body:=zR a b) a (fun i=>(i:Int)) (fun i x=>decide (b[i]? = some x)) (.brk ()) (.ret false) (fun i x hx hi=>by
   have hb:i < b.length:=by omega
   have hby:=List.getElem?_eq_getElem hb;unfold zR jB;have h1:decide ((i:Int) < (a.length:Int)) = true:=by simpa using hi
   simp only [h1,cond_true,zK hx,zK hby,zA,R.seq_eq x.runs _ (hr x (List.mem_of_getElem? hx)),zB,zj,partEq,yJ (show i < 9223372036854775807 by omega)];rw [hby]
   by_cases hxy:x = b[i] <;> simp [hxy,eq_comm,zA]) (by unfold zR;simp)
  rw [show (0:Int) = ((0:Nat):Int) from rfl,this];have hiff:(a.zipIdx.all fun y=>decide (b[y.2]? = some y.1)) = decide (a = b):=by
   rw [Bool.eq_iff_iff,List.all_eq_true,decide_eq_true_eq]
   constructor
   ·intro h;apply List.ext_getElem?;intro i
    by_cases hi:i < a.length
    ·have:=h (a[i],i) (by rw [List.mem_zipIdx_iff_getElem?];exact List.getElem?_eq_getElem hi);simp only [decide_eq_true_eq] at this;rw [this,List.getElem?_eq_getElem hi]
    ·rw [List.getElem?_eq_none (by omega),List.getElem?_eq_none (by omega)]
   ·rintro rfl y hy;rw [List.mem_zipIdx_iff_getElem?] at hy;simpa using hy
  rw [hiff]
  by_cases h:a = b <;> simp [h,exk,zA]
 ·have:¬ a = b:=fun e=>hl (by rw [e])
  simp [hl,this]
theorem eq_eq (a b:List TPart) (ha:a.length <= 1000000000000) (hr:∀ p ∈ a,p.runs.length <= 1000000000000):yqa a b = pure (decide (a = b)):=by
 unfold yqa;rw [eqP_eq a b ha hr,zB,zA]
theorem y8a {c:List TPart}:∀ p ∈ c,p.runs.length <= totC c:=by
 induction c with
 | nil=>intro p hp;simp at hp
 | cons q r ih=>
  intro p hp;have e:totC (q :: r) = q.runs.length + totC r:=by simp [totC]
  rcases List.mem_cons.1 hp with rfl | hp
  ·omega
  ·have:=ih p hp;omega
theorem XM (c:List TPart) (h:Sm c):vV c = pure (decide (c = zo c)):=by
 unfold vV;rw [qy c h,zB,zA,eq_eq _ _ (by have:=h.1;omega) (fun p hp=>by have:=y8a p hp;have:=h.2;omega),zB,zA]


theorem rEq_eq (a b:List TPart) (ha:a.length <= 1000000000000) (hr:∀ p ∈ a,p.runs.length <= 1000000000000):Vx a b = pure (decide (a = b)):=by
 unfold Vx
 by_cases hl:(a.length:Int) = b.length
 ·simp only [hl,decide_true,Bool.not_true,cond_false];have:=xl (body:=Wh a b) a (fun i=>(i:Int)) (fun i x=>decide (b[i]? = some x)) (.brk ()) (.ret false) (fun i x hx hi=>by
   have hb:i < b.length:=by omega
   have hby:=List.getElem?_eq_getElem hb;unfold Wh;have h1:decide ((i:Int) < (a.length:Int)) = true:=by simpa using hi
   simp only [h1,cond_true,zK hx,zK hby,zA,R.req_eq x.runs _ (hr x (List.mem_of_getElem? hx)),zB,yJ (show i < 9223372036854775807 by omega)];rw [hby];have he:=partEq x b[i]
   by_cases hd:x.dev = (b[i]).dev
   ·by_cases hq:x.runs = (b[i]).runs
    ·simp only [hd,hq,decide_true,Bool.and_self,eq_comm (a:=true),decide_eq_true_eq] at he;simp [hd,hq,he,zA]
    ·have hne:¬ x = b[i]:=fun e=>hq (by rw [e])
     have hne2:¬ b[i] = x:=fun e=>hne e.symm
     simp [hd,hq,hne2,zA]
   ·have hne2:¬ b[i] = x:=fun e=>hd (by rw [e])
    simp [hd,hne2,zA]) (by unfold Wh;simp)
  rw [show (0:Int) = ((0:Nat):Int) from rfl,this];have hiff:(a.zipIdx.all fun y=>decide (b[y.2]? = some y.1)) = decide (a = b):=by
   rw [Bool.eq_iff_iff,List.all_eq_true,decide_eq_true_eq]
   constructor
   ·intro h;apply List.ext_getElem?;intro i
    by_cases hi:i < a.length
    ·have:=h (a[i],i) (by rw [List.mem_zipIdx_iff_getElem?];exact List.getElem?_eq_getElem hi);simp only [decide_eq_true_eq] at this;rw [this,List.getElem?_eq_getElem hi]
    ·rw [List.getElem?_eq_none (by omega),List.getElem?_eq_none (by omega)]
   ·rintro rfl y hy;rw [List.mem_zipIdx_iff_getElem?] at hy;simpa using hy
  rw [hiff]
  by_cases h:a = b <;> simp [h,exk,zA]
 ·have:¬ a = b:=fun e=>hl (by rw [e])
  simp [hl,this]
theorem vQa (a b:List TPart) (h:Sm a):Vx a b = pure (decide (a = b)):=rEq_eq a b (by have:=h.1;omega) fun p hp=>by have:=y8a p hp;have:=h.2;omega
theorem y9a (u v:List TRun):R.setR (· || ·) (R.nrm u) v = R.nrm (u ++ v):=R.VE (R.zk _ rfl _ _).1 (R.Yn _) fun n=>by rw [(R.zk _ rfl _ _).2.1,R.wx,R.wx,R.uO]
theorem qz (c:List TPart) (k:Int) (hk:0 <= k) (h:c.length <= 1000000000) (ht:totC c <= 1000000000):Xe c k = pure (R.nrm (rawC c k)):=by
 unfold Xe;have hpre:∀ i,(rawC (c.take i) k).length <= 1000000000:=fun i=>by
  have h1:=vA (c.take i) k;have h2:totC (c.take i) <= totC c:=by
   conv=>rhs;rw [<- List.take_append_drop i c]
   rw [qu];omega
  omega
 have:=Yg (body:=YL c k) c (fun i (t:List TRun)=>(t,(i:Int))) (fun t p=>if p.dev = k /\ 0 < k then R.setR (· || ·) t p.runs else t) (fun t=>pure t) (fun i t=>t = R.nrm (rawC (c.take i) k)) (fun i x t hx hi ht2=>by
  have h1:decide ((i:Int) < (c.length:Int)) = true:=by simpa using hi
  have hxl:x.runs.length <= 1000000000:=by have:=y8a x (List.mem_of_getElem? hx);omega
  have htl:t.length <= 2000000000:=by have:=R.uv (rawC (c.take i) k);have:=hpre i;rw [ht2];omega
  unfold YL;simp only [h1,cond_true,zK hx,zA,yJ (show i < 9223372036854775807 by omega),ww];have hnext:(if x.dev = k /\ 0 < k then R.setR (· || ·) t x.runs else t) = R.nrm (rawC (c.take (i + 1)) k):=by
   rw [List.take_add_one,hx,VH,Option.toList,Zy,qq,List.append_nil,ht2]
   split
   ·exact y9a _ _
   ·rw [List.append_nil]
  refine ⟨?_,hnext⟩
  by_cases hd:x.dev = k
  ·by_cases h0:k = 0
   ·have:¬ (x.dev = k /\ 0 < k):=by omega
    rw [if_neg this,if_pos hd];simp [h0,zA]
   ·rw [if_pos (show x.dev = k /\ 0 < k from ⟨hd,by omega⟩),if_pos hd];simp only [h0,decide_false,Bool.not_false,zA,cond_true];rw [R.y1a _ _ (by omega),zB,zA,zA]
  ·rw [if_neg (fun (q:x.dev = k /\ 0 < k)=>hd q.1),if_neg hd]
   rfl) (fun t _=>by unfold YL;simp [zA]) [] (by rw [List.take_zero,qq,jX])
 rw [show (([]:List TRun),(0:Int)) = ([],((0:Nat):Int)) from rfl,this];have key:∀ (l:List TPart) (u:List TRun),l.foldl (fun t p=>if p.dev = k /\ 0 < k then R.setR (· || ·) t p.runs else t) (R.nrm u) = R.nrm (u ++ rawC l k):=by
  intro l
  induction l with
  | nil=>intro u;simp [rawC]
  | cons p r ih=>
   intro u;rw [List.foldl_cons,Zy]
   by_cases hp:p.dev = k /\ 0 < k
   ·rw [if_pos hp,if_pos hp,y9a,ih,List.append_assoc]
   ·rw [if_neg hp,if_neg hp,ih,List.nil_append]
 have h2:=key c [];rw [jX,List.nil_append] at h2;rw [h2];rfl
def allD (c:List TPart):List Int:=c.foldl (fun l p=>V.insI l p.dev) []
theorem QA (c:List TPart):∀ l:List Int,l.Pairwise (· < ·) -> (c.foldl (fun l p=>V.insI l p.dev) l).Pairwise (· < ·) /\ (∀ k,k ∈ c.foldl (fun l p=>V.insI l p.dev) l ↔ k ∈ l \/ ∃ p ∈ c,p.dev = k) /\ (c.foldl (fun l p=>V.insI l p.dev) l).length <= l.length + c.length:=by
 induction c with
 | nil=>intro l h;simp [h]
 | cons p r ih=>
  intro l h;rw [List.foldl_cons];obtain ⟨h1,h2,h3⟩:=ih _ (V.uu h p.dev);refine ⟨h1,fun k=>?_,by have:=V.VC l p.dev;simp;omega⟩;rw [h2,V.UZ]
  constructor
  ·rintro ((rfl | h4) | ⟨x,h4,h5⟩)
   ·exact .inr ⟨p,by simp,rfl⟩
   ·exact .inl h4
   ·exact .inr ⟨x,by simp [h4],h5⟩
  ·rintro (h4 | ⟨x,h4,h5⟩)
   ·exact .inl (.inr h4)
   ·rcases List.mem_cons.1 h4 with rfl | h4
    ·exact .inl (.inl h5.symm)
    ·exact .inr ⟨x,h4,h5⟩
theorem ja (c:List TPart):(allD c).Pairwise (· < ·):=(QA c [] List.Pairwise.nil).1
theorem xAa {c:List TPart} {k:Int}:k ∈ allD c ↔ ∃ p ∈ c,p.dev = k:=by
 have:=(QA c [] List.Pairwise.nil).2.1 k;unfold allD;rw [this];simp
theorem xBa (c:List TPart):(allD c).length <= c.length:=by simpa [allD] using (QA c [] List.Pairwise.nil).2.2
theorem VG (l:List Int):(V.ones l).length = l.length:=by simp [V.ones]
theorem rdevs_eq (a b:List TPart) (h:a.length + b.length <= 10000000000):UK a b = pure (V.ones (allD (a ++ b))):=by
 unfold UK;have h1:=Yg (body:=YN a) a (fun i (l:List Int)=>(V.ones l,(i:Int))) (fun l p=>V.insI l p.dev) (fun l=>pure (V.ones l)) (fun i l=>l.Pairwise (· < ·) /\ l.length <= i) (fun i x l hx hi ⟨hs,hl⟩=>by
  have h1:decide ((i:Int) < (a.length:Int)) = true:=by simpa using hi
  unfold YN;simp only [h1,cond_true,zK hx,zA,yJ (show i < 9223372036854775807 by omega)];rw [V.Vh _ _ (by rw [VG];omega),zB,zA,V.yza hs];exact ⟨rfl,V.uu hs _,by have:=V.VC l x.dev;omega⟩) (fun l _=>by unfold YN;simp [zA]) [] ⟨List.Pairwise.nil,by simp⟩
 have h2:=Yg (body:=uW b) b (fun i (l:List Int)=>(V.ones l,(i:Int))) (fun l p=>V.insI l p.dev) (fun l=>pure (V.ones l)) (fun i l=>l.Pairwise (· < ·) /\ l.length <= a.length + i) (fun i x l hx hi ⟨hs,hl⟩=>by
  have h1:decide ((i:Int) < (b.length:Int)) = true:=by simpa using hi
  unfold uW;simp only [h1,cond_true,zK hx,zA,yJ (show i < 9223372036854775807 by omega)];rw [V.Vh _ _ (by rw [VG];omega),zB,zA,V.yza hs];exact ⟨rfl,V.uu hs _,by have:=V.VC l x.dev;omega⟩) (fun l _=>by unfold uW;simp [zA]) (allD a) ⟨ja a,by have:=xBa a;omega⟩
 rw [show (([]:List TDot),(0:Int)) = (V.ones [],((0:Nat):Int)) from rfl,h1,zA];show (loop (uW b) (V.ones (allD a),((0:Nat):Int))).bind _ = _;rw [h2,zA];unfold allD;rw [List.foldl_append]
theorem Vk (op:Bool -> Bool -> Bool) (how:Int) (hop:∀ x y,op x y = if how = 2 then (x && !y) else if how = 1 then (x && y) else (x || y)) (h0:op false false = false) (a b:List TPart) (oa:∀ p ∈ a,0 <= p.dev) (ob:∀ p ∈ b,0 <= p.dev) (ha:a.length <= 1000000000) (hb:b.length <= 1000000000) (ta:totC a <= 1000000000) (tb:totC b <= 1000000000):jA a b how = pure (opC op a b):=by
 unfold jA;rw [rdevs_eq a b (by omega),zB,zA];have hlenA:∀ k,(R.nrm (rawC a k)).length <= 2000000000:=fun k=>by have:=R.uv (rawC a k);have:=vA a k;omega
 have hlenB:∀ k,(R.nrm (rawC b k)).length <= 2000000000:=fun k=>by have:=R.uv (rawC b k);have:=vA b k;omega
 have hop':∀ k,R.setR op (R.nrm (rawC a k)) (R.nrm (rawC b k)) = R.setR op (rawC a k) (rawC b k):=fun k=>R.VE (R.zk op h0 _ _).1 (R.zk op h0 _ _).1 fun n=>by rw [(R.zk op h0 _ _).2.1,(R.zk op h0 _ _).2.1,R.wx,R.wx]
 have hkey:∀ k ∈ allD (a ++ b),0 <= k:=fun k hk=>by
  obtain ⟨p,hp,rfl⟩:=xAa.1 hk;rcases List.mem_append.1 hp with hp | hp
  ·exact oa p hp
  ·exact ob p hp
 have hnd:(allD (a ++ b)).length <= 2000000000:=by have:=xBa (a ++ b);rw [List.length_append] at this;omega
 have hgo:=Yg (body:=Xg (V.ones (allD (a ++ b))) a b how) (allD (a ++ b)) (fun i (t:List TPart)=>((i:Int),t)) (fun t k=>if R.setR op (rawC a k) (rawC b k) = [] then t else t ++ [⟨k,R.setR op (rawC a k) (rawC b k)⟩]) (fun t=>pure t) (fun i t=>t.length <= i) (fun i k t hk hi hl=>by
  have h1:decide ((i:Int) < ((V.ones (allD (a ++ b))).length:Int)) = true:=by rw [VG];simpa using hi
  have hx:(V.ones (allD (a ++ b)))[i]? = some ⟨k,1⟩:=by simp [V.ones,hk]
  have hk0:0 <= k:=hkey k (List.mem_of_getElem? hk);unfold Xg;simp only [h1,cond_true,zK hx,zA,qz a k hk0 ha ta,qz b k hk0 hb tb,zB,yJ (show i < 9223372036854775807 by omega)];have hl1:=hlenA k;have hl2:=hlenB k;rw [R.y1a _ _ (by omega),zB,zA,R.rmeet_eq _ _ (by omega),zB,zA,R.vEa _ _ (by omega),zB,zA];have hz:(cond (decide (how = 1)) (pure (R.setR (· && ·) (R.nrm (rawC a k)) (R.nrm (rawC b k)))) (pure (R.setR (· || ·) (R.nrm (rawC a k)) (R.nrm (rawC b k)))):M (List TRun)).bind (fun z=>cond (decide (how = 2)) (pure (R.setR (fun x y=>x && !y) (R.nrm (rawC a k)) (R.nrm (rawC b k)))) (pure z)) = pure (R.setR op (rawC a k) (rawC b k)):=by
   rw [<- hop' k]
   by_cases h2:how = 2
   ·subst h2;have:op = fun x y=>x && !y:=by funext x y;rw [hop];simp
    rw [this];rfl
   ·by_cases h1:how = 1
    ·subst h1;have:op = fun x y=>x && y:=by funext x y;rw [hop];simp
     rw [this];rfl
    ·have:op = fun x y=>x || y:=by funext x y;rw [hop];simp [h1,h2]
     rw [this];simp [h1,h2,zA]
  rw [<- JP,hz,zA];have hsl:=(R.zk op h0 (rawC a k) (rawC b k)).2.2
  by_cases hz0:R.setR op (rawC a k) (rawC b k) = []
  ·rw [if_pos hz0];simp only [hz0,List.length_nil];exact ⟨rfl,by omega⟩
  ·rw [if_neg hz0];have:decide (0 < ((R.setR op (rawC a k) (rawC b k)).length:Int)) = true:=by
    have:=List.length_pos_iff.2 hz0;simp;omega
   rw [this,cond_true,zF (by simp;omega)];exact ⟨rfl,by simp;omega⟩) (fun t _=>by unfold Xg;rw [VG];simp [zA]) [] (by simp)
 rw [show ((0:Int),([]:List TPart)) = (((0:Nat):Int),[]) from rfl,hgo,zA];have key:∀ (ks:List Int) (t:List TPart),ks.foldl (fun t k=>if R.setR op (rawC a k) (rawC b k) = [] then t else t ++ [⟨k,R.setR op (rawC a k) (rawC b k)⟩]) t = t ++ yH (fun k=>R.setR op (rawC a k) (rawC b k)) ks:=by
  intro ks
  induction ks with
  | nil=>intro t;simp [yH]
  | cons k ks ih=>
   intro t;rw [List.foldl_cons,ih]
   by_cases h:R.setR op (rawC a k) (rawC b k) = []
   ·rw [if_pos h];simp [yH,h]
   ·rw [if_neg h];simp [yH,h]
 rw [key,List.nil_append];refine congrArg pure (jV (ja _) (wO _) (fun _=>rfl) fun k hk=>?_);have hr:rawC (a ++ b) k ≠ []:=fun e=>hk (by
  rw [VH] at e;have:=List.append_eq_nil_iff.1 e;rw [this.1,this.2];exact y3a h0)
 exact ⟨fun _=>ZS hr,fun _=>xAa.2 (xz.1 (ZS hr)).1⟩
structure Ok (c:List TPart):Prop where
 dev:∀ p ∈ c,0 <= p.dev
 len:c.length <= 1000000000
 tot:totC c <= 1000000000
theorem Ok.sm {c:List TPart} (h:Ok c):Sm c:=⟨by have:=h.len;omega,by have:=h.tot;omega⟩
section
variable (a b:List TPart) (ha:Ok a) (hb:Ok b)
include ha hb
theorem vRa : Wm a b = pure (opC (fun x y=>x && !y) a b):=by
 unfold Wm;rw [Vk (fun x y=>x && !y) 2 (fun x y=>by simp) rfl a b ha.dev hb.dev ha.len hb.len ha.tot hb.tot,zB,zA]
theorem x8a : Xn a b = pure (decide (opC (fun x y=>x && !y) a b = [])):=by
 unfold Xn;rw [vRa a b ha hb,zB,zA];refine congrArg pure ?_
 cases opC (fun x y=>x && !y) a b with
 | nil=>rfl
 | cons p r=>simp;omega
end
theorem ok_nil : Ok []:=⟨fun p h=>by simp at h,by simp,by simp [totC]⟩
theorem opC_nil (c:List TPart):opC (· || ·) c [] = zo c:=by rw [<- norm_or,List.append_nil]
theorem Uc (c:List TPart) (h:Ok c):ZJ c = pure (zo c):=by
 unfold ZJ;rw [Vk (· || ·) 0 (fun x y=>by simp) rfl c [] h.dev ok_nil.dev h.len ok_nil.len h.tot ok_nil.tot,zB,zA,opC_nil]
theorem sm_norm {c:List TPart} (h:Ok c):Sm (zo c):=⟨by have:=XK c;have:=h.len;omega,by have:=XL c;have:=h.tot;omega⟩
theorem Ud (a b:List TPart) (ha:Ok a) (hb:Ok b):Wi a b = pure (decide (zo a = zo b)):=by
 unfold Wi;rw [Uc a ha,zB,zA,Uc b hb,zB,zA,vQa _ _ (sm_norm ha),zB,zA]
theorem ZT (c:List TPart) (h:Ok c):YQ c = pure (decide (c = zo c)):=by
 unfold YQ;rw [Uc c h,zB,zA,vQa _ _ h.sm,zB,zA]
theorem has_pos {c:List TPart} {k n:Int} (h:hasC c k n = true):0 < k /\ 1 <= n /\ n <= 281474976710655:=by
 refine ⟨Classical.byContradiction fun h0=>?_,R.Ja h⟩;unfold hasC at h;rw [qr h0] at h
 cases h
theorem jb (c:List TPart) (d:TDot) (h:Ok c):Vb c d = pure (hasC c d.dev d.n):=by
 unfold Vb;rw [V.ut,zB,zA]
 by_cases hg:V.yS d = true
 ·have h1:=V.uq.1 hg;rw [hg,cond_true,qz c d.dev (by omega) h.len h.tot,zB,zA,R.yIa _ _ (by have:=R.uv (rawC c d.dev);have:=vA c d.dev;have:=h.tot;omega),zB,zA,zA,R.wx]
  rfl
 ·have hg':V.yS d = false:=by simpa using hg
  rw [hg',cond_false,zA]
  cases hh:hasC c d.dev d.n with
  | false=>rfl
  | true=>obtain ⟨h1,h2,h3⟩:=has_pos hh;exact absurd (V.uq.2 ⟨by omega,h2,h3⟩) hg
end Go.Ep.M.C


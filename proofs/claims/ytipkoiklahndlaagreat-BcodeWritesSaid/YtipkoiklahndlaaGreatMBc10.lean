/- Texts that the walks and laws lean on, side by side. -/
import Derived.Test.YtipkoiklahndlaaGreatMBc3
import Derived.Test.YtipkoiklahndlaaGreatMBc9
set_option linter.unusedVariables false
set_option linter.unusedSimpArgs false
namespace Go.Ep.M.R
open Go

def mayR (x:TRun):Bool:=decide (1 ≤ x.lo) && (decide (x.lo ≤ x.hi) && decide (x.hi ≤ 281474976710655))
theorem zf {x:TRun}:mayR x = true ↔ 1 ≤ x.lo ∧ x.lo ≤ x.hi ∧ x.hi ≤ 281474976710655:=by simp [mayR]
def inR (n:Int) (x:TRun):Bool:=mayR x && (decide (x.lo ≤ n) && decide (n ≤ x.hi))
theorem vG {n:Int} {x:TRun}:inR n x = true ↔ (1 ≤ x.lo ∧ x.lo ≤ x.hi ∧ x.hi ≤ 281474976710655) ∧ x.lo ≤ n ∧ n ≤ x.hi:=by simp [inR,mayR]
def hasR (l:List TRun) (n:Int):Bool:=l.any (inR n)
theorem xe {l:List TRun} {n:Int}:hasR l n = true ↔ ∃ x ∈ l,mayR x = true ∧ x.lo ≤ n ∧ n ≤ x.hi:=by
 unfold hasR;rw [List.any_eq_true];simp [inR]
@[simp] theorem zaa (n:Int):hasR [] n = false:=rfl
theorem Zo (x:TRun) (l:List TRun) (n:Int):hasR (x :: l) n = (inR n x || hasR l n):=rfl
theorem uL (a b:List TRun) (n:Int):hasR (a ++ b) n = (hasR a n || hasR b n):=by simp [hasR]
theorem vV (x:TRun) (n:Int):hasR [x] n = inR n x:=by simp [hasR]
theorem xWa {a b:List TRun} (h:a.Perm b) (n:Int):hasR a n = hasR b n:=by
 rw [Bool.eq_iff_iff,xe,xe];simp only [h.mem_iff]
theorem Qd (l:List TRun) (n:Int):hasR (l.filter mayR) n = hasR l n:=by
 rw [Bool.eq_iff_iff,xe,xe];simp only [List.mem_filter];exact ⟨fun ⟨x,⟨h1,_⟩,h3⟩=>⟨x,h1,h3⟩,fun ⟨x,h1,h2,h3⟩=>⟨x,⟨h1,h2⟩,h2,h3⟩⟩
theorem yMa {l:List TRun} {n:Int} (h:hasR l n = true):1 ≤ n ∧ n ≤ 281474976710655:=by
 obtain ⟨x,_,h2,h3,h4⟩:=xe.1 h;have:=zf.1 h2;omega

def Nf : List TRun → Prop
 | []=>True
 | x :: r=>mayR x = true ∧ (∀ y ∈ r,x.hi + 1 < y.lo) ∧ Nf r
theorem Nf.may {l:List TRun} (h:Nf l):∀ x ∈ l,mayR x = true:=by
 induction l with
 | nil=>simp
 | cons y r ih=>
  intro x hx;rcases List.mem_cons.1 hx with rfl | hx
  ·exact h.1
  ·exact ih h.2.2 x hx
theorem Zp {l:List TRun} {z:TRun}:Nf (l ++ [z]) ↔ Nf l ∧ mayR z = true ∧ ∀ p ∈ l,p.hi + 1 < z.lo:=by
 induction l with
 | nil=>simp [Nf]
 | cons x r ih=>
  simp only [List.cons_append,Nf,ih,List.mem_append,List.mem_cons,List.not_mem_nil,or_false]
  constructor
  ·rintro ⟨h1,h2,h3,h4,h5⟩;refine ⟨⟨h1,fun y hy=>h2 y (.inl hy),h3⟩,h4,fun p hp=>?_⟩;rcases hp with rfl | hp
   ·exact h2 z (.inr rfl)
   ·exact h5 p hp
  ·rintro ⟨⟨h1,h2,h3⟩,h4,h5⟩;refine ⟨h1,fun y hy=>?_,h3,h4,fun p hp=>h5 p (.inr hp)⟩;rcases hy with hy | rfl
   ·exact h2 y hy
   ·exact h5 x (.inl rfl)
theorem zba {x:TRun} {r:List TRun} (h:Nf (x :: r)) {n:Int} (hn:hasR r n = true):x.hi + 1 < n:=by
 obtain ⟨y,h1,_,h3,_⟩:=xe.1 hn;have:=h.2.1 y h1;omega
theorem JG {x:TRun} {r:List TRun} (h:Nf (x :: r)):hasR (x :: r) x.lo = true:=by
 rw [Zo];have:=zf.1 h.1;rw [Bool.or_eq_true];exact .inl (vG.2 ⟨this,by omega,by omega⟩)
theorem JH {x:TRun} {r:List TRun} (h:Nf (x :: r)) {n:Int} (hn:hasR (x :: r) n = true):x.lo ≤ n:=by
 rw [Zo,Bool.or_eq_true] at hn;rcases hn with hn | hn
 ·exact (vG.1 hn).2.1
 ·have:=zba h hn;have:=zf.1 h.1;omega
theorem Qe {x:TRun} {r:List TRun} (h:Nf (x :: r)) {n:Int} (h1:x.lo ≤ n):hasR (x :: r) n = true ↔ n ≤ x.hi ∨ hasR r n = true:=by
 rw [Zo,Bool.or_eq_true,vG];have:=zf.1 h.1
 constructor
 ·rintro (h2 | h2)
  ·exact .inl h2.2.2
  ·exact .inr h2
 ·rintro (h2 | h2)
  ·exact .inl ⟨this,h1,h2⟩
  ·exact .inr h2
theorem jB : ∀ {a b:List TRun},Nf a → Nf b → (∀ n,hasR a n = hasR b n) → a = b
 | [],[],_,_,_=>rfl
 | [],y :: s,_,hb,h=>by have:=h y.lo;rw [JG hb] at this;simp at this
 | x :: r,[],ha,_,h=>by have:=h x.lo;rw [JG ha] at this;simp at this
 | x :: r,y :: s,ha,hb,h=>by
  have h1:x.lo = y.lo:=by
   have h2:=JH hb (by rw [← h];exact JG ha);have h3:=JH ha (by rw [h];exact JG hb);omega
  have hx:=zf.1 ha.1;have hy:=zf.1 hb.1;have hle:∀ {x y:TRun} {r s:List TRun},Nf (x :: r) → Nf (y :: s) → (∀ n,hasR (x :: r) n = hasR (y :: s) n) → x.lo = y.lo → y.hi ≤ x.hi:=by
   intro x y r s ha hb h h1;have hx:=zf.1 ha.1;refine Classical.byContradiction fun hc=>?_
   have h2:hasR (y :: s) (x.hi + 1) = true:=(Qe hb (by omega)).2 (.inl (by omega));rw [← h,Qe ha (by omega)] at h2;rcases h2 with h2 | h2
   ·omega
   ·have:=zba ha h2;omega
  have h2:x.hi = y.hi:=by
   have:=hle ha hb h h1;have:=hle hb ha (fun n=>(h n).symm) h1.symm;omega
  have he:x = y:=by cases x;cases y;simp_all
  subst he;rw [jB ha.2.2 hb.2.2 fun n=>?_];rw [Bool.eq_iff_iff];have h3:=h n
  constructor
  ·intro hn;have:=zba ha hn;have h4:hasR (x :: r) n = true:=(Qe ha (by omega)).2 (.inr hn);rw [h3,Qe hb (by omega)] at h4;rcases h4 with h4 | h4
   ·omega
   ·exact h4
  ·intro hn;have:=zba hb hn;have h4:hasR (x :: s) n = true:=(Qe hb (by omega)).2 (.inr hn);rw [← h3,Qe ha (by omega)] at h4;rcases h4 with h4 | h4
   ·omega
   ·exact h4

def putS (n:Int) (s:Bool × List Int) (x:Int):Bool × List Int:=
 let t:=if s.1 = false ∧ n ≤ x then (true,s.2 ++ [n]) else s
 if x = n then t else (t.1,t.2 ++ [x])
def putP (l:List Int) (n:Int):List Int:=let t:=l.foldl (putS n) (false,[]);if t.1 then t.2 else t.2 ++ [n]
abbrev Up (l:List Int):Prop:=l.Pairwise (· < ·)
theorem UC {l:List Int} {z:Int}:Up (l ++ [z]) ↔ Up l ∧ ∀ p ∈ l,p < z:=by
 unfold Up;rw [List.pairwise_append];simp
theorem Xt (n:Int):∀ (l:List Int) (s:Bool × List Int),Up l → Up s.2 → (∀ p ∈ s.2,∀ x ∈ l,p < x ∨ (p = n ∧ s.1 = true ∧ p ≤ x)) → (s.1 = true → n ∈ s.2) → (s.1 = false → ∀ p ∈ s.2,p < n) →
  Up (l.foldl (putS n) s).2 ∧ (∀ m,m ∈ (l.foldl (putS n) s).2 ↔ m ∈ s.2 ∨ (m ∈ l ∧ m ≠ n) ∨ (m = n ∧ (l.foldl (putS n) s).1 = true)) ∧ ((l.foldl (putS n) s).1 = false → ∀ p ∈ (l.foldl (putS n) s).2,p < n) ∧ (l.foldl (putS n) s).2.length ≤ s.2.length + l.length + (if s.1 then 0 else 1) ∧ ((l.foldl (putS n) s).1 = false → (l.foldl (putS n) s).2.length ≤ s.2.length + l.length)
 | [],s,_,hs,_,h2,h3=>by
  refine ⟨hs,fun m=>?_,h3,by simp,by simp⟩;simp only [List.foldl_nil,List.not_mem_nil,false_and,false_or];exact ⟨fun h=>.inl h,fun h=>h.elim id fun ⟨e,h⟩=>e ▸ h2 h⟩
 | x :: r,(d,out),hl,hs,h1,h2,h3=>by
  rw [List.foldl_cons];have hl':=List.pairwise_cons.1 hl;simp only at hs h1 h2 h3
  by_cases hc:d = false ∧ n ≤ x
  ·obtain ⟨rfl,hnx⟩:=hc
   by_cases hx:x = n
   ·have e:putS n (false,out) x = (true,out ++ [n]):=by simp [putS,hx]
    rw [e];obtain ⟨i1,i2,i3,i4,i5⟩:=Xt n r (true,out ++ [n]) hl'.2 (UC.2 ⟨hs,h3 rfl⟩) (fun p hp y hy=>by
     have:=hl'.1 y hy;rcases List.mem_append.1 hp with hp | hp
     ·have:=h3 rfl p hp;left;omega
     ·simp at hp;left;omega) (fun _=>by simp) (fun h=>by cases h)
    refine ⟨i1,fun m=>?_,i3,?_,?_⟩
    ·rw [i2];simp only [List.mem_append,List.mem_cons,List.not_mem_nil,or_false]
     constructor
     ·rintro ((h | h) | h | h)
      ·exact .inl h
      ·refine .inr (.inr ⟨h,?_⟩)
       cases hb:(r.foldl (putS n) (true,out ++ [n])).1 with
       | true=>rfl
       | false=>have:=i3 hb n ((i2 n).2 (.inl (by simp)));omega
      ·exact .inr (.inl ⟨.inr h.1,h.2⟩)
      ·exact .inr (.inr h)
     ·rintro (h | ⟨h | h,h'⟩ | h)
      ·exact .inl (.inl h)
      ·exact absurd (h.trans hx) h'
      ·exact .inr (.inl ⟨h,h'⟩)
      ·exact .inr (.inr h)
    ·simp at i4 ⊢;omega
    ·intro hf;have:=i5 hf;simp at this ⊢;omega
   ·have e:putS n (false,out) x = (true,out ++ [n] ++ [x]):=by simp [putS,hx,hnx]
    rw [e];obtain ⟨i1,i2,i3,i4,i5⟩:=Xt n r (true,out ++ [n] ++ [x]) hl'.2 (UC.2 ⟨UC.2 ⟨hs,h3 rfl⟩,fun p hp=>by
     rcases List.mem_append.1 hp with hp | hp
     ·have:=h3 rfl p hp;omega
     ·simp at hp;omega⟩) (fun p hp y hy=>by
     have:=hl'.1 y hy;simp only [List.mem_append,List.mem_singleton] at hp;rcases hp with (hp | hp) | hp
     ·have:=h3 rfl p hp;left;omega
     ·left;omega
     ·left;omega) (fun _=>by simp) (fun h=>by cases h)
    refine ⟨i1,fun m=>?_,i3,?_,?_⟩
    ·rw [i2];simp only [List.mem_append,List.mem_cons,List.not_mem_nil,or_false]
     constructor
     ·rintro (((h | h) | h) | h | h)
      ·exact .inl h
      ·refine .inr (.inr ⟨h,?_⟩)
       cases hb:(r.foldl (putS n) (true,out ++ [n] ++ [x])).1 with
       | true=>rfl
       | false=>have:=i3 hb n ((i2 n).2 (.inl (by simp)));omega
      ·exact .inr (.inl ⟨.inl h,fun e=>hx (h.symm.trans e)⟩)
      ·exact .inr (.inl ⟨.inr h.1,h.2⟩)
      ·exact .inr (.inr h)
     ·rintro (h | ⟨h | h,h'⟩ | h)
      ·exact .inl (.inl (.inl h))
      ·exact .inl (.inr h)
      ·exact .inr (.inl ⟨h,h'⟩)
      ·exact .inr (.inr h)
    ·simp at i4 ⊢;omega
    ·intro hf;have:=i5 hf;simp at this ⊢;exfalso;have:=i3 hf n ((i2 n).2 (.inl (by simp)));omega
  ·by_cases hx:x = n
   ·have hd:d = true:=by cases d with | true=>rfl | false=>exact absurd ⟨rfl,by omega⟩ hc
    subst hd;have e:putS n (true,out) x = (true,out):=by simp [putS,hx]
    rw [e];obtain ⟨i1,i2,i3,i4,i5⟩:=Xt n r (true,out) hl'.2 hs (fun p hp y hy=>h1 p hp y (List.mem_cons_of_mem _ hy)) h2 h3;refine ⟨i1,fun m=>?_,i3,?_,?_⟩
    ·rw [i2];simp only [List.mem_cons]
     constructor
     ·rintro (h | h | h)
      ·exact .inl h
      ·exact .inr (.inl ⟨.inr h.1,h.2⟩)
      ·exact .inr (.inr h)
     ·rintro (h | ⟨h | h,h'⟩ | h)
      ·exact .inl h
      ·exact absurd (h.trans hx) h'
      ·exact .inr (.inl ⟨h,h'⟩)
      ·exact .inr (.inr h)
    ·simp at i4 ⊢;omega
    ·intro hf;have:=i5 hf;simp at this ⊢;omega
   ·have e:putS n (d,out) x = (d,out ++ [x]):=by
     unfold putS;simp only [hc,if_false,hx]
    rw [e];have hlt:d = false → x < n:=fun h=>by
     have:¬ n ≤ x:=fun h'=>hc ⟨h,h'⟩
     omega
    obtain ⟨i1,i2,i3,i4,i5⟩:=Xt n r (d,out ++ [x]) hl'.2 (UC.2 ⟨hs,fun p hp=>by
     rcases h1 p hp x (by simp) with h | h
     ·exact h
     ·omega⟩) (fun p hp y hy=>by
     rcases List.mem_append.1 hp with hp | hp
     ·exact h1 p hp y (List.mem_cons_of_mem _ hy)
     ·simp at hp;have:=hl'.1 y hy;left;omega) (fun h=>List.mem_append_left _ (h2 h)) (fun h p hp=>by
     rcases List.mem_append.1 hp with hp | hp
     ·exact h3 h p hp
     ·simp at hp;rw [hp];exact hlt h)
    refine ⟨i1,fun m=>?_,i3,?_,?_⟩
    ·rw [i2];simp only [List.mem_append,List.mem_cons,List.not_mem_nil,or_false]
     constructor
     ·rintro ((h | h) | h | h)
      ·exact .inl h
      ·exact .inr (.inl ⟨.inl h,fun e=>hx (h.symm.trans e)⟩)
      ·exact .inr (.inl ⟨.inr h.1,h.2⟩)
      ·exact .inr (.inr h)
     ·rintro (h | ⟨h | h,h'⟩ | h)
      ·exact .inl (.inl h)
      ·exact .inl (.inr h)
      ·exact .inr (.inl ⟨h,h'⟩)
      ·exact .inr (.inr h)
    ·simp at i4 ⊢;omega
    ·intro hf;have:=i5 hf;simp at this ⊢;omega
theorem WV {l:List Int} (h:Up l) (n:Int):Up (putP l n) ∧ (∀ m,m ∈ putP l n ↔ m ∈ l ∨ m = n) ∧ (putP l n).length ≤ l.length + 1:=by
 obtain ⟨i1,i2,i3,i4,i5⟩:=Xt n l (false,[]) h (by simp [Up]) (by simp) (by simp) (by simp);unfold putP;simp only
 cases hb:(l.foldl (putS n) (false,[])).1 with
 | true=>
  simp only [if_true];refine ⟨i1,fun m=>?_,by simpa using i4⟩;rw [i2,hb];simp only [List.not_mem_nil,false_or,and_true]
  constructor
  ·rintro (h | h)
   ·exact .inl h.1
   ·exact .inr h
  ·rintro (h | h)
   ·by_cases e:m = n
    ·exact .inr e
    ·exact .inl ⟨h,e⟩
   ·exact .inr h
 | false=>
  have:=i5 hb;rw [if_neg (by simp)];refine ⟨UC.2 ⟨i1,i3 hb⟩,fun m=>?_,by simp at this ⊢;omega⟩;simp only [List.mem_append,List.mem_singleton,i2,hb,List.not_mem_nil,false_or]
  constructor
  ·rintro ((h | h) | h)
   ·exact .inl h.1
   ·cases h.2
   ·exact .inr h
  ·rintro (h | h)
   ·by_cases e:m = n
    ·exact .inr e
    ·exact .inl (.inl ⟨h,e⟩)
   ·exact .inr h
def ptS (out:List Int) (x:TRun):List Int:=if mayR x then putP (putP out x.lo) (x.hi + 1) else out
def ptsP (l:List TRun):List Int:=l.foldl ptS []
theorem JI : ∀ (l:List TRun) (out:List Int),Up out → Up (l.foldl ptS out) ∧ (∀ m,m ∈ l.foldl ptS out ↔ m ∈ out ∨ ∃ x ∈ l,mayR x = true ∧ (m = x.lo ∨ m = x.hi + 1)) ∧ (l.foldl ptS out).length ≤ out.length + 2 * l.length
 | [],out,h=>⟨h,fun m=>by simp,by simp⟩
 | x :: r,out,h=>by
  rw [List.foldl_cons];obtain ⟨j1,j2,j3⟩:=WV h x.lo;obtain ⟨k1,k2,k3⟩:=WV j1 (x.hi + 1)
  by_cases hm:mayR x = true
  ·have e:ptS out x = putP (putP out x.lo) (x.hi + 1):=by simp [ptS,hm]
   rw [e];obtain ⟨i1,i2,i3⟩:=JI r _ k1;refine ⟨i1,fun m=>?_,by simp;omega⟩;rw [i2,k2,j2]
   constructor
   ·rintro (((h | h) | h) | ⟨y,h1,h2⟩)
    ·exact .inl h
    ·exact .inr ⟨x,by simp,hm,.inl h⟩
    ·exact .inr ⟨x,by simp,hm,.inr h⟩
    ·exact .inr ⟨y,by simp [h1],h2⟩
   ·rintro (h | ⟨y,h1,h2,h3⟩)
    ·exact .inl (.inl (.inl h))
    ·rcases List.mem_cons.1 h1 with rfl | h1
     ·rcases h3 with h3 | h3
      ·exact .inl (.inl (.inr h3))
      ·exact .inl (.inr h3)
     ·exact .inr ⟨y,h1,h2,h3⟩
  ·have e:ptS out x = out:=by simp [ptS,hm]
   rw [e];obtain ⟨i1,i2,i3⟩:=JI r _ h;refine ⟨i1,fun m=>?_,by simp;omega⟩;rw [i2]
   constructor
   ·rintro (h | ⟨y,h1,h2⟩)
    ·exact .inl h
    ·exact .inr ⟨y,by simp [h1],h2⟩
   ·rintro (h | ⟨y,h1,h2,h3⟩)
    ·exact .inl h
    ·rcases List.mem_cons.1 h1 with rfl | h1
     ·exact absurd h2 hm
     ·exact .inr ⟨y,h1,h2,h3⟩
theorem jC (l:List TRun):Up (ptsP l) ∧ (∀ m,m ∈ ptsP l ↔ ∃ x ∈ l,mayR x = true ∧ (m = x.lo ∨ m = x.hi + 1)) ∧ (ptsP l).length ≤ 2 * l.length:=by
 obtain ⟨h1,h2,h3⟩:=JI l [] (by simp [Up]);exact ⟨h1,fun m=>by rw [ptsP,h2];simp,by simpa [ptsP] using h3⟩

def zca (out:List TRun) (p:Int) (z:TRun → TRun) (x:TRun):List TRun:=match out.getLast? with
 | some y=>if y.hi + 1 = p then out.dropLast ++ [z y] else out ++ [x]
 | none=>out ++ [x]
def setS (op:Bool → Bool → Bool) (a b:List TRun) (out:List TRun) (pq:Int × Int):List TRun:=
 if op (hasR a pq.1) (hasR b pq.1) then zca out pq.1 (fun y=>⟨y.lo,pq.2 - 1⟩) ⟨pq.1,pq.2 - 1⟩ else out
def xT (l:List Int):List (Int × Int):=l.zip l.tail
def setR (op:Bool → Bool → Bool) (a b:List TRun):List TRun:=(xT (ptsP (a ++ b))).foldl (setS op a b) []

theorem yNa (p:Int) (z:TRun → TRun) (x:TRun):zca [] p z x = [x]:=rfl
theorem UD (l:List TRun) (y:TRun) (p:Int) (z:TRun → TRun) (x:TRun):zca (l ++ [y]) p z x = if y.hi + 1 = p then l ++ [z y] else l ++ [y] ++ [x]:=by simp [zca]
theorem xh {α:Type} (l:List α):l = [] ∨ ∃ r y,l = r ++ [y]:=by
 rcases List.eq_nil_or_concat l with h | ⟨r,y,h⟩
 ·exact .inl h
 ·exact .inr ⟨r,y,by simpa using h⟩

theorem JJ (op:Bool → Bool → Bool) (a b:List TRun):∀ (P:List Int) (p:Int) (out:List TRun),Up (p :: P) → (∀ q ∈ p :: P,1 ≤ q ∧ q ≤ 281474976710656) → Nf out → (∀ y ∈ out,y.hi < p) →
  Nf ((xT (p :: P)).foldl (setS op a b) out) ∧ (∀ n,hasR ((xT (p :: P)).foldl (setS op a b) out) n = true ↔ hasR out n = true ∨ ∃ pq ∈ xT (p :: P),pq.1 ≤ n ∧ n < pq.2 ∧ op (hasR a pq.1) (hasR b pq.1) = true) ∧ ((xT (p :: P)).foldl (setS op a b) out).length ≤ out.length + P.length
 | [],p,out,_,_,h,_=>by simp [xT,h]
 | q :: P,p,out,hu,hr,h,hy=>by
  have e:xT (p :: q :: P) = (p,q) :: xT (q :: P):=rfl;rw [e,List.foldl_cons];have hu':=List.pairwise_cons.1 hu;have hpq:p < q:=hu'.1 q (by simp);have hp:=hr p (by simp);have hq:=hr q (by simp);have step:Nf (setS op a b out (p,q)) ∧ (∀ n,hasR (setS op a b out (p,q)) n = true ↔ hasR out n = true ∨ (p ≤ n ∧ n < q ∧ op (hasR a p) (hasR b p) = true)) ∧ (∀ y ∈ setS op a b out (p,q),y.hi < q) ∧ (setS op a b out (p,q)).length ≤ out.length + 1:=by
   unfold setS;simp only
   by_cases hop:op (hasR a p) (hasR b p) = true
   ·rw [if_pos hop];rcases xh out with rfl | ⟨l,y,rfl⟩
    ·rw [yNa];have hm:mayR (⟨p,q - 1⟩:TRun) = true:=zf.2 ⟨hp.1,by simp only;omega,by simp only;omega⟩;refine ⟨⟨hm,by simp,trivial⟩,fun n=>?_,fun y hy=>?_,by simp⟩
     ·rw [vV,vG];have:=zf.1 hm;simp only at this ⊢;simp only [zaa,Bool.false_eq_true,false_or,hop,and_true];omega
     ·simp at hy;subst hy;simp only;omega
    ·rw [UD];obtain ⟨n1,n2,n3⟩:=Zp.1 h;have hym:=zf.1 n2;have hyp:=hy y (by simp)
     by_cases hadj:y.hi + 1 = p
     ·rw [if_pos hadj];have hm:mayR (⟨y.lo,q - 1⟩:TRun) = true:=zf.2 ⟨hym.1,by simp only;omega,by simp only;omega⟩;refine ⟨Zp.2 ⟨n1,hm,n3⟩,fun n=>?_,fun z hz=>?_,by simp⟩
      ·rw [uL,uL,vV,vV,Bool.or_eq_true,Bool.or_eq_true,vG,vG];have:=zf.1 hm;simp only at this ⊢;simp only [hop,and_true]
       constructor
       ·rintro (h | h)
        ·exact .inl (.inl h)
        ·by_cases hc:n ≤ y.hi
         ·exact .inl (.inr ⟨hym,h.2.1,hc⟩)
         ·right;omega
       ·rintro ((h | h) | h)
        ·exact .inl h
        ·right;omega
        ·right;omega
      ·rcases List.mem_append.1 hz with hz | hz
       ·have:=hy z (by simp [hz]);omega
       ·simp at hz;subst hz;simp only;omega
     ·rw [if_neg hadj];have hm:mayR (⟨p,q - 1⟩:TRun) = true:=zf.2 ⟨hp.1,by simp only;omega,by simp only;omega⟩;refine ⟨Zp.2 ⟨h,hm,fun z hz=>?_⟩,fun n=>?_,fun z hz=>?_,by simp⟩
      ·simp only;rcases List.mem_append.1 hz with hz | hz
       ·have:=n3 z hz;omega
       ·simp at hz;subst hz;omega
      ·rw [uL (l ++ [y]),vV,Bool.or_eq_true,vG];have:=zf.1 hm;simp only at this ⊢;simp only [hop,and_true]
       constructor
       ·rintro (h | h)
        ·exact .inl h
        ·right;omega
       ·rintro (h | h)
        ·exact .inl h
        ·right;omega
      ·rcases List.mem_append.1 hz with hz | hz
       ·have:=hy z hz;omega
       ·simp at hz;subst hz;simp only;omega
   ·rw [if_neg hop];refine ⟨h,fun n=>?_,fun y hy'=>by have:=hy y hy';omega,by omega⟩;exact ⟨fun h=>.inl h,fun h=>h.elim id fun h=>absurd h.2.2 hop⟩
  obtain ⟨s1,s2,s3,s4⟩:=step;obtain ⟨i1,i2,i3⟩:=JJ op a b P q _ hu'.2 (fun z hz=>hr z (List.mem_cons_of_mem _ hz)) s1 s3;refine ⟨i1,fun n=>?_,by simp;omega⟩;rw [i2,s2];simp only [List.mem_cons,exists_eq_or_imp]
  constructor
  ·rintro ((h | h) | h)
   ·exact .inl h
   ·exact .inr (.inl h)
   ·exact .inr (.inr h)
  ·rintro (h | h | h)
   ·exact .inl (.inl h)
   ·exact .inl (.inr h)
   ·exact .inr h

theorem WW : ∀ {P:List Int},Up P → ∀ pq ∈ xT P,pq.1 ∈ P ∧ pq.2 ∈ P ∧ pq.1 < pq.2 ∧ ∀ m ∈ P,m ≤ pq.1 ∨ pq.2 ≤ m
 | [],_,pq,h=>by simp [xT] at h
 | [p],_,pq,h=>by simp [xT] at h
 | p :: q :: P,hu,pq,h=>by
  have e:xT (p :: q :: P) = (p,q) :: xT (q :: P):=rfl;rw [e] at h;have hu':=List.pairwise_cons.1 hu;rcases List.mem_cons.1 h with rfl | h
  ·refine ⟨by simp,by simp,hu'.1 q (by simp),fun m hm=>?_⟩;rcases List.mem_cons.1 hm with rfl | hm
   ·simp
   ·right
    rcases List.mem_cons.1 hm with rfl | hm
    ·simp
    ·have:=(List.pairwise_cons.1 hu'.2).1 m hm;simp only;omega
  ·obtain ⟨h1,h2,h3,h4⟩:=WW hu'.2 pq h;refine ⟨List.mem_cons_of_mem _ h1,List.mem_cons_of_mem _ h2,h3,fun m hm=>?_⟩;rcases List.mem_cons.1 hm with rfl | hm
   ·left;have:=hu'.1 _ h1;omega
   ·exact h4 m hm
theorem jD : ∀ {P:List Int},Up P → ∀ {u v n:Int},u ∈ P → v ∈ P → u ≤ n → n < v → ∃ pq ∈ xT P,pq.1 ≤ n ∧ n < pq.2
 | [],_,_,_,_,h,_,_,_=>by simp at h
 | [p],_,u,v,n,h1,h2,h3,h4=>by simp at h1 h2;omega
 | p :: q :: P,hu,u,v,n,h1,h2,h3,h4=>by
  have e:xT (p :: q :: P) = (p,q) :: xT (q :: P):=rfl;have hu':=List.pairwise_cons.1 hu
  by_cases hc:n < q
  ·refine ⟨(p,q),by rw [e];simp,?_,hc⟩;rcases List.mem_cons.1 h1 with rfl | h1
   ·exact h3
   ·have:q ≤ u:=by
     rcases List.mem_cons.1 h1 with rfl | h1
     ·omega
     ·have:=(List.pairwise_cons.1 hu'.2).1 u h1;omega
    simp only;omega
  ·have hv:v ∈ q :: P:=by
    rcases List.mem_cons.1 h2 with rfl | h2
    ·have:=hu'.1 q (by simp);omega
    ·exact h2
   obtain ⟨pq,h5,h6⟩:=jD hu'.2 (u:=q) (by simp) hv (by omega) h4;exact ⟨pq,by rw [e];exact List.mem_cons_of_mem _ h5,h6⟩
theorem xXa (P:List Int):(xT P).length = P.length - 1:=by simp [xT]

theorem ZJ {l:List TRun} {P:List Int} (hP:∀ x ∈ l,mayR x = true → x.lo ∈ P ∧ x.hi + 1 ∈ P) {p q n:Int} (h1:∀ m ∈ P,m ≤ p ∨ q ≤ m) (h2:p ≤ n) (h3:n < q):hasR l n = hasR l p:=by
 rw [Bool.eq_iff_iff,xe,xe]
 constructor
 ·rintro ⟨x,hx,hm,h4,h5⟩;obtain ⟨h6,h7⟩:=hP x hx hm;have:=h1 _ h6;have:=h1 _ h7;exact ⟨x,hx,hm,by omega,by omega⟩
 ·rintro ⟨x,hx,hm,h4,h5⟩;obtain ⟨h6,h7⟩:=hP x hx hm;have:=h1 _ h6;have:=h1 _ h7;exact ⟨x,hx,hm,by omega,by omega⟩
theorem yJ (op:Bool → Bool → Bool) (h0:op false false = false) (a b:List TRun):Nf (setR op a b) ∧ (∀ n,hasR (setR op a b) n = op (hasR a n) (hasR b n)) ∧ (setR op a b).length ≤ 2 * (a.length + b.length):=by
 obtain ⟨p1,p2,p3⟩:=jC (a ++ b);have hrange:∀ q ∈ ptsP (a ++ b),1 ≤ q ∧ q ≤ 281474976710656:=fun q hq=>by
  obtain ⟨x,_,h2,h3⟩:=(p2 q).1 hq;have:=zf.1 h2;omega
 have main:Nf (setR op a b) ∧ (∀ n,hasR (setR op a b) n = true ↔ ∃ pq ∈ xT (ptsP (a ++ b)),pq.1 ≤ n ∧ n < pq.2 ∧ op (hasR a pq.1) (hasR b pq.1) = true) ∧ (setR op a b).length ≤ (ptsP (a ++ b)).length:=by
  unfold setR
  generalize hP:ptsP (a ++ b) = P at p1 hrange
  cases P with
  | nil=>simp [xT,Nf]
  | cons p P=>
   obtain ⟨i1,i2,i3⟩:=JJ op a b P p [] p1 hrange trivial (by simp);exact ⟨i1,fun n=>by rw [i2];simp,by simp at i3 ⊢;omega⟩
 obtain ⟨m1,m2,m3⟩:=main;refine ⟨m1,fun n=>?_,by simp at p3;omega⟩;have hPa:∀ x ∈ a,mayR x = true → x.lo ∈ ptsP (a ++ b) ∧ x.hi + 1 ∈ ptsP (a ++ b):=fun x hx hm=>⟨(p2 _).2 ⟨x,by simp [hx],hm,.inl rfl⟩,(p2 _).2 ⟨x,by simp [hx],hm,.inr rfl⟩⟩
 have hPb:∀ x ∈ b,mayR x = true → x.lo ∈ ptsP (a ++ b) ∧ x.hi + 1 ∈ ptsP (a ++ b):=fun x hx hm=>⟨(p2 _).2 ⟨x,by simp [hx],hm,.inl rfl⟩,(p2 _).2 ⟨x,by simp [hx],hm,.inr rfl⟩⟩
 rw [Bool.eq_iff_iff,m2]
 constructor
 ·rintro ⟨pq,h1,h2,h3,h4⟩;obtain ⟨_,_,_,h5⟩:=WW p1 pq h1
  rwa [ZJ hPa h5 h2 h3,ZJ hPb h5 h2 h3]
 ·intro h;have hex:∃ u ∈ ptsP (a ++ b),∃ v ∈ ptsP (a ++ b),u ≤ n ∧ n < v:=by
   cases ha:hasR a n with
   | true=>
    obtain ⟨x,h1,h2,h3,h4⟩:=xe.1 ha;exact ⟨_,(hPa x h1 h2).1,_,(hPa x h1 h2).2,h3,by omega⟩
   | false=>
    cases hb:hasR b n with
    | true=>
     obtain ⟨x,h1,h2,h3,h4⟩:=xe.1 hb;exact ⟨_,(hPb x h1 h2).1,_,(hPb x h1 h2).2,h3,by omega⟩
    | false=>rw [ha,hb,h0] at h;cases h
  obtain ⟨u,hu,v,hv,h1,h2⟩:=hex;obtain ⟨pq,h3,h4,h5⟩:=jD p1 hu hv h1 h2;obtain ⟨_,_,_,h6⟩:=WW p1 pq h3;exact ⟨pq,h3,h4,h5,by rwa [← ZJ hPa h6 h4 h5,← ZJ hPb h6 h4 h5]⟩

def nrm (l:List TRun):List TRun:=setR (· || ·) l []
theorem UE (l:List TRun):Nf (nrm l):=(yJ _ rfl l []).1
theorem vq (l:List TRun) (n:Int):hasR (nrm l) n = hasR l n:=by rw [nrm,(yJ _ rfl l []).2.1];simp
theorem XI (l:List TRun):(nrm l).length ≤ 2 * l.length:=by
 have:=(yJ (· || ·) rfl l []).2.2;rw [List.length_nil,Nat.add_zero] at this;exact this
theorem nrm_of {l r:List TRun} (h:Nf r) (h2:∀ n,hasR r n = hasR l n):r = nrm l:=jB h (UE l) fun n=>by rw [h2,vq]
theorem zda {l:List TRun} (h:Nf l):nrm l = l:=(nrm_of h fun _=>rfl).symm


theorem xYa (x y:TRun):(decide (x.lo = y.lo) && decide (x.hi = y.hi)) = decide (x = y):=by
 rw [Bool.eq_iff_iff]
 cases x;cases y
 simp
theorem eqLoop {body:Int → M (Step Int (Ex Unit Bool))} (a b:List TRun) (hl:a.length = b.length) (hn:a.length ≤ 1000000000000)
  (hb:∀ i:Int,body i = cond (decide (i < (a.length:Int))) (M.bind (M.idx a i) fun x=>M.bind (M.idx b i) fun y=>cond (!(decide (x.lo = y.lo) && decide (x.hi = y.hi))) (M.pure (.done (.ret false))) (M.pure (.next (IntKind.i64.wrap (i + 1))))) (M.pure (.done (.brk ())))) :
  M.bind (M.loop body 0) (M.exk fun _=>M.pure true) = pure (decide (a = b)):=by
 have:=xS (body:=body) a (fun i=>(i:Int)) (fun i x=>decide (b[i]? = some x)) (.brk ()) (.ret false) (fun i x hx hi=>by
  have hb':i < b.length:=by omega
  rw [hb,zE hx,zE (List.getElem?_eq_getElem hb'),zc (by omega)];simp only [zA,List.getElem?_eq_getElem hb',Option.some.injEq,xYa];have:decide ((i:Int) < (a.length:Int)) = true:=by simpa using hi
  rw [this,cond_true]
  by_cases he:b[i] = x
  ·subst he;simp
  ·rw [if_neg (by simpa using he)];have:decide (x = b[i]) = false:=by simpa using fun h=>he h.symm
   rw [this];rfl) (by rw [hb];simp)
 rw [show (0:Int) = ((0:Nat):Int) from rfl,this]
 by_cases he:a = b
 ·subst he;rw [if_pos]
  ·simp [zA,uQ]
  ·rw [List.all_eq_true];intro ⟨x,i⟩ hx;rw [List.mk_mem_zipIdx_iff_getElem?] at hx;simpa using hx
 ·rw [if_neg]
  ·simp [he,zA,Vd]
  ·intro hall;rw [List.all_eq_true] at hall;apply he;apply List.ext_getElem (by omega);intro i h1 h2;have:=hall (a[i],i) (by rw [List.mk_mem_zipIdx_iff_getElem?];exact List.getElem?_eq_getElem h1);simp [h2] at this;exact this.symm
theorem req_eq (a b:List TRun) (h:a.length ≤ 1000000000000):ysa a b = pure (decide (a = b)):=by
 unfold ysa
 by_cases hl:(a.length:Int) = b.length
 ·simp only [hl,decide_true,Bool.not_true,cond_false];exact eqLoop a b (by omega) h fun i=>rfl
 ·have hne:a ≠ b:=fun e=>hl (by rw [e])
  simp [hl,hne]
theorem seq_eq (a b:List TRun) (h:a.length ≤ 1000000000000):yH a b = pure (decide (a = b)):=by
 unfold yH
 by_cases hl:(a.length:Int) = b.length
 ·simp only [hl,decide_true,Bool.not_true,cond_false];exact eqLoop a b (by omega) h fun i=>rfl
 ·have hne:a ≠ b:=fun e=>hl (by rw [e])
  simp [hl,hne]

theorem xZa (x:TRun):Vg x = pure (mayR x):=by
 unfold Vg;rw [zW,zW,zA]
 rfl
theorem Qf (l:List TRun) (n:Int) (h:l.length ≤ 1000000000000):WK l n = pure (hasR l n):=by
 unfold WK;have:=xS (body:=YE l n) l (fun i=>(i:Int)) (fun _ x=>!inR n x) (.brk ()) (.ret true) (fun i x hx hi=>by
  unfold YE;have h1:decide ((i:Int) < (l.length:Int)) = true:=by simpa using hi
  simp only [h1,cond_true,zE hx,zA,xZa,zB,zc (show i < 9223372036854775807 by omega),zW];unfold inR
  cases mayR x <;> cases decide (x.lo ≤ n) <;> cases decide (n ≤ x.hi) <;> rfl) (by unfold YE;simp)
 rw [show (0:Int) = ((0:Nat):Int) from rfl,this,zA];have e:l.zipIdx.all (fun y=>!inR n y.1) = !hasR l n:=by
  unfold hasR;rw [Bool.eq_iff_iff];simp only [List.all_eq_true,Bool.not_eq_true',List.any_eq_false]
  constructor
  ·intro h x hx;obtain ⟨i,hi,he⟩:=List.getElem_of_mem hx;have:=h (x,i) (by rw [List.mk_mem_zipIdx_iff_getElem?];rw [List.getElem?_eq_getElem hi,he]);simpa using this
  ·intro h y hy;have:=List.fst_mem_of_mem_zipIdx hy;have:=h _ this;simpa using this
 simp only [e]
 cases hasR l n <;> rfl
theorem xaa (l:List Int) (n:Int) (h:l.length ≤ 100000000000):Vh l n = pure (putP l n):=by
 unfold Vh;have:=vz (body:=YF l n) l (fun i (t:Bool × List Int)=>(t.1,(i:Int),t.2)) (putS n) (fun t=>pure t) (fun i t=>t.2.length ≤ 2 * i) (fun i x t hx hi hI=>by
  obtain ⟨d,out⟩:=t;simp only at hI;have h1:decide ((i:Int) < (l.length:Int)) = true:=by simpa using hi
  refine ⟨?_,?_⟩
  ·unfold YF putS;simp only [h1,cond_true,zE hx,zA,zc (show i < 9223372036854775807 by omega)]
   cases d with
   | true=>
    by_cases hc:x = n
    ·simp [hc,zA]
    ·simp only [Bool.not_true,cond_false,zA,hc,decide_false,Bool.not_false,cond_true,if_false];rw [zD (by simp;omega)];simp [zA]
   | false=>
    by_cases hc1:n ≤ x
    ·simp only [Bool.not_false,cond_true,zA,hc1,decide_true];rw [zD (by simp;omega),zA]
     by_cases hc:x = n
     ·simp [hc,zA]
     ·simp only [hc,decide_false,Bool.not_false,cond_true];rw [zD (by simp;omega)];simp [zA]
    ·simp only [Bool.not_false,cond_true,zA,hc1,decide_false,cond_false];have hc:x ≠ n:=by omega
     simp only [hc,decide_false,Bool.not_false,cond_true];rw [zD (by simp;omega)];simp [zA]
  ·unfold putS;simp only
   split <;> split <;> simp <;> omega) (fun t _=>by unfold YF;simp [zA]) (false,[]) (by simp)
 rw [show ((false,(0:Int),([]:List Int)):Bool × Int × List Int) = (false,((0:Nat):Int),[]) from rfl,this,zA];unfold putP;have hlen:(l.foldl (putS n) (false,[])).2.length ≤ 2 * l.length:=by
  have:∀ (l:List Int) (s:Bool × List Int),(l.foldl (putS n) s).2.length ≤ s.2.length + 2 * l.length:=by
   intro l
   induction l with
   | nil=>intro s;simp
   | cons x r ih=>
    intro s;rw [List.foldl_cons];have:=ih (putS n s x);have h2:(putS n s x).2.length ≤ s.2.length + 2:=by
     unfold putS;simp only
     split <;> split <;> simp
    simp;omega
  simpa using this l (false,[])
 generalize l.foldl (putS n) (false,[]) = t at hlen
 obtain ⟨d,out⟩:=t
 cases d with
 | true=>rfl
 | false=>
  simp only [Bool.not_false,cond_true];rw [zD (by simp at hlen ⊢;omega)]
  rfl
theorem rpts_eq (a b:List TRun) (h:a.length + b.length ≤ 10000000000):YG a b = pure (ptsP (a ++ b)):=by
 unfold YG;rw [zD (by simp;omega),zD (by simp;omega)];have hup:∀ i,Up (((a ++ b).take i).foldl ptS []) ∧ (((a ++ b).take i).foldl ptS []).length ≤ 2 * (a ++ b).length:=fun i=>by
  obtain ⟨h1,_,h3⟩:=JI ((a ++ b).take i) [] (by simp [Up]);refine ⟨h1,?_⟩;have:((a ++ b).take i).length ≤ (a ++ b).length:=by simp;omega
  simp only [List.length_nil,Nat.zero_add] at h3;omega
 have:=vz (body:=vJ a b) (a ++ b) (fun i (t:List Int)=>(t,(i:Int))) ptS (fun t=>pure t) (fun i t=>t = ((a ++ b).take i).foldl ptS []) (fun i x t hx hi hI=>by
  have h1:decide ((i:Int) < ((a ++ b).length:Int)) = true:=decide_eq_true (by omega);have hlen:(a ++ b).length ≤ 10000000000:=by simp;omega
  obtain ⟨u1,u2⟩:=hup i;rw [← hI] at u1 u2;refine ⟨?_,?_⟩
  ·unfold vJ ptS;simp only [List.nil_append,h1,cond_true,zE hx,zA,zc (show i < 9223372036854775807 by omega),xZa,zB]
   cases hm:mayR x with
   | false=>simp [zA]
   | true=>
    have hm':=zf.1 hm;have hp:=WV u1 x.lo;rw [cond_true,xaa _ _ (by omega),zB,zA,wU64 (by omega) (by omega),xaa _ _ (by omega),zB];simp [zA]
  ·rw [List.take_add_one,hx];simp [hI]) (fun t _=>by unfold vJ;simp [zA]) [] (by simp)
 rw [show (([]:List Int),(0:Int)) = ([],((0:Nat):Int)) from rfl,this];simp only [zA]
 rfl
theorem qY {P:List Int} {i:Nat} {pq:Int × Int} (h:(xT P)[i]? = some pq):P[i]? = some pq.1 ∧ P[i + 1]? = some pq.2:=by
 unfold xT at h;rw [List.getElem?_zip_eq_some] at h;obtain ⟨h1,h2⟩:=h;rw [List.getElem?_tail] at h2;exact ⟨h1,h2⟩
theorem WX (op:Bool → Bool → Bool) (how:Int) (hop:∀ x y,op x y = if how = 2 then (x && !y) else if how = 1 then (x && y) else (x || y)) (_h0:op false false = false) (a b:List TRun) (h:a.length + b.length ≤ 10000000000):WL a b how = pure (setR op a b):=by
 unfold WL;rw [rpts_eq a b h,zB,zA];obtain ⟨p1,p2,p3⟩:=jC (a ++ b);have hrange:∀ q ∈ ptsP (a ++ b),1 ≤ q ∧ q ≤ 281474976710656:=fun q hq=>by
  obtain ⟨x,_,h2,h3⟩:=(p2 q).1 hq;have:=zf.1 h2;omega
 unfold setR
 generalize ptsP (a ++ b) = P at p1 hrange p3
 simp only [List.length_append] at p3;have hinv:∀ i,i ≤ (xT P).length → Nf (((xT P).take i).foldl (setS op a b) []) ∧ (((xT P).take i).foldl (setS op a b) []).length ≤ P.length:=fun i hi=>by
  cases P with
  | nil=>simp [xT,Nf]
  | cons p P=>
   have key:(xT (p :: P)).take i = xT (p :: P.take i):=by
    unfold xT;simp only [List.tail_cons];clear hi p1 hrange p3
    induction i generalizing p P with
    | zero=>simp
    | succ i ih=>
     cases P with
     | nil=>simp
     | cons q P=>
      simp only [List.zip_cons_cons,List.take_succ_cons];rw [ih q P]
   rw [key];have hsub:(p :: P.take i).Sublist (p :: P):=List.Sublist.cons_cons _ (List.take_sublist _ _);obtain ⟨i1,_,i3⟩:=JJ op a b (P.take i) p [] (List.Pairwise.sublist hsub p1) (fun q hq=>hrange q (hsub.subset hq)) trivial (by simp);refine ⟨i1,?_⟩;simp at i3 ⊢;omega
 have:=vz (body:=YH P a b how) (xT P) (fun i (t:List TRun)=>((i:Int),t)) (setS op a b) (fun t=>pure t) (fun i t=>i ≤ (xT P).length ∧ t = ((xT P).take i).foldl (setS op a b) []) (fun i pq t hx hi hI=>by
  obtain ⟨hI1,hI⟩:=hI;obtain ⟨g1,g2⟩:=qY hx;have hlt:i + 1 < P.length:=(List.getElem?_eq_some_iff.1 g2).1;have hPl:P.length ≤ 20000000000:=by omega
  have h1:decide (((i + 1:Nat):Int) < (P.length:Int)) = true:=by rw [decide_eq_true_eq];omega
  obtain ⟨v1,v2⟩:=hinv i hI1;rw [← hI] at v1 v2;refine ⟨?_,by omega,by rw [List.take_add_one,hx];simp [hI]⟩;unfold YH setS;have e2:idx P ((i + 1:Nat):Int) = pure pq.2:=zE g2;have hq:=hrange pq.2 (List.mem_of_getElem? g2);simp only [zc (show i < 9223372036854775807 by omega),h1,cond_true,zE g1,e2,zA,Qf a pq.1 (by omega),Qf b pq.1 (by omega),zB];rw [hop];have hin:∀ (x y:Bool),(M.bind (cond x (M.pure true) (M.pure y)) fun in97=>M.bind (cond (decide (how = 1)) (M.bind (cond x (M.pure y) (M.pure false)) fun in101=>M.pure in101) (M.pure in97)) fun in99=>cond (decide (how = 2)) (M.bind (cond x (M.pure (!y)) (M.pure false)) fun in105=>M.pure in105) (M.pure in99)) = pure (if how = 2 then (x && !y) else if how = 1 then (x && y) else (x || y)):=by
   intro x y
   by_cases c2:how = 2
   ·subst c2;cases x <;> cases y <;> rfl
   ·by_cases c1:how = 1
    ·subst c1;cases x <;> cases y <;> rfl
    ·simp only [c1,c2,decide_false,cond_false,if_false]
     cases x <;> cases y <;> rfl
  have hin':=hin (hasR a pq.1) (hasR b pq.1)
  generalize (if how = 2 then (hasR a pq.1 && !hasR b pq.1) else if how = 1 then (hasR a pq.1 && hasR b pq.1) else (hasR a pq.1 || hasR b pq.1)) = inn at hin'
  -- the three steps are one
  have assoc:∀ (K:Bool → M (List TRun)),(M.bind (cond (hasR a pq.1) (M.pure true) (M.pure (hasR b pq.1))) fun in97=>M.bind (cond (decide (how = 1)) (M.bind (cond (hasR a pq.1) (M.pure (hasR b pq.1)) (M.pure false)) fun in101=>M.pure in101) (M.pure in97)) fun in99=>M.bind (cond (decide (how = 2)) (M.bind (cond (hasR a pq.1) (M.pure (!hasR b pq.1)) (M.pure false)) fun in105=>M.pure in105) (M.pure in99)) K) = K inn:=by
   intro K;have:=congrArg (fun m=>M.bind m K) hin';exact this
  rw [assoc]
  cases inn with
  | false=>rfl
  | true=>
   simp only [cond_true,if_true];rcases xh t with rfl | ⟨l,y,rfl⟩
   ·have e:decide ((0:Int) ≤ IntKind.i64.wrap (((([]:List TRun).length:Nat):Int) - 1)) = false:=by
     rw [wI64 (by simp) (by simp)];simp
    rw [e];simp only [cond_false,zA];rw [zD (by simp),wU64 (by omega) (by omega)]
    rfl
   ·have hy:=(Zp.1 v1).2.1;have hym:=zf.1 hy;have e0:IntKind.i64.wrap ((((l ++ [y]).length:Nat):Int) - 1) = (l.length:Int):=by
     simp only [List.length_append,List.length_singleton] at v2 ⊢;rw [wI64 (by omega) (by omega)];omega
    have e1:idx (l ++ [y]) (l.length:Int) = pure y:=zE (by simp);have e3:decide ((0:Int) ≤ (l.length:Int)) = true:=by simp
    rw [e0,e3];simp only [cond_true,e1,zA,wU64 (show 0 ≤ y.hi + 1 by omega) (by omega),wU64 (show 0 ≤ pq.2 - 1 by omega) (by omega)];rw [UD]
    by_cases hc:y.hi + 1 = pq.1
    ·simp only [hc,decide_true,cond_true,if_true,Int.toNat_natCast];have:(l ++ [y]).set l.length (⟨y.lo,pq.2 - 1⟩:TRun) = l ++ [⟨y.lo,pq.2 - 1⟩]:=by simp
     rw [this]
     rfl
    ·simp only [hc,decide_false,cond_false,if_false];rw [zD (by simp only [List.length_append,List.length_singleton] at v2 ⊢;omega)]
     rfl) (fun t _=>by
  unfold YH;have e:decide (IntKind.i64.wrap (((xT P).length:Int) + 1) < (P.length:Int)) = false:=by
   rw [xXa,wI64 (by omega) (by omega)];simp;omega
  simp only [e,cond_false,zA]) [] ⟨Nat.zero_le _,by simp⟩
 rw [show ((0:Int),([]:List TRun)) = (((0:Nat):Int),[]) from rfl,this];simp only [zA]

theorem zea (a b:List TRun) (h:a.length + b.length ≤ 10000000000):XU a b = pure (setR (· || ·) a b):=by
 unfold XU;rw [WX (· || ·) 0 (fun x y=>by simp) rfl a b h,zB,zA]
theorem rmeet_eq (a b:List TRun) (h:a.length + b.length ≤ 10000000000):Wy a b = pure (setR (· && ·) a b):=by
 unfold Wy;rw [WX (· && ·) 1 (fun x y=>by simp) rfl a b h,zB,zA]
theorem xba (a b:List TRun) (h:a.length + b.length ≤ 10000000000):XV a b = pure (setR (fun x y=>x && !y) a b):=by
 unfold XV;rw [WX (fun x y=>x && !y) 2 (fun x y=>by simp) rfl a b h,zB,zA]

def addN (out:List TRun) (x:TRun):List TRun:=match out.getLast? with
 | some y=>if x.lo ≤ y.hi + 1 then out.dropLast ++ [⟨y.lo,max y.hi x.hi⟩] else out ++ [x]
 | none=>out ++ [x]
theorem JK (x:TRun):addN [] x = [x]:=rfl
theorem UF (l:List TRun) (y x:TRun):addN (l ++ [y]) x = if x.lo ≤ y.hi + 1 then l ++ [⟨y.lo,max y.hi x.hi⟩] else l ++ [y] ++ [x]:=by simp [addN]
theorem yOa {out:List TRun} {x:TRun} (h:Nf out) (hx:mayR x = true) (hlo:∀ y ∈ out,y.lo ≤ x.lo):Nf (addN out x) ∧ (∀ n,hasR (addN out x) n = (hasR out n || inR n x)) ∧ (∀ y ∈ addN out x,y.lo ≤ x.lo) ∧ (addN out x).length ≤ out.length + 1:=by
 have hxm:=zf.1 hx;rcases xh out with rfl | ⟨l,y,rfl⟩
 ·rw [JK];exact ⟨⟨hx,by simp,trivial⟩,fun n=>by rw [vV];simp,by simp,by simp⟩
 ·rw [UF];obtain ⟨n1,n2,n3⟩:=Zp.1 h;have hym:=zf.1 n2;have hyx:=hlo y (by simp)
  by_cases hc:x.lo ≤ y.hi + 1
  ·rw [if_pos hc];have hm:mayR (⟨y.lo,max y.hi x.hi⟩:TRun) = true:=zf.2 ⟨hym.1,by simp only;omega,by simp only;omega⟩;refine ⟨Zp.2 ⟨n1,hm,n3⟩,fun n=>?_,fun z hz=>?_,by simp⟩
   ·rw [uL,uL,vV,vV,Bool.or_assoc]
    congr 1
    rw [Bool.eq_iff_iff,Bool.or_eq_true,vG,vG,vG];have:=zf.1 hm;simp only at this ⊢;omega
   ·rcases List.mem_append.1 hz with hz | hz
    ·exact hlo z (by simp [hz])
    ·simp at hz;subst hz;exact hyx
  ·rw [if_neg hc];refine ⟨Zp.2 ⟨h,hx,fun z hz=>?_⟩,fun n=>by rw [uL (l ++ [y]),vV],fun z hz=>?_,by simp⟩
   ·rcases List.mem_append.1 hz with hz | hz
    ·have:=n3 z hz;omega
    ·simp at hz;subst hz;omega
   ·rcases List.mem_append.1 hz with hz | hz
    ·exact hlo z hz
    ·simp at hz;subst hz;exact Int.le_refl _
theorem UG : ∀ (s out:List TRun),Nf out → (∀ x ∈ s,mayR x = true) → s.Pairwise (fun x y=>x.lo ≤ y.lo) → (∀ y ∈ out,∀ x ∈ s,y.lo ≤ x.lo) → Nf (s.foldl addN out) ∧ (∀ n,hasR (s.foldl addN out) n = (hasR out n || hasR s n)) ∧ (s.foldl addN out).length ≤ out.length + s.length
 | [],out,h,_,_,_=>⟨h,by simp,by simp⟩
 | x :: r,out,h,hm,hp,hlo=>by
  obtain ⟨a1,a2,a3,a4⟩:=yOa h (hm x (by simp)) fun y hy=>hlo y hy x (by simp)
  obtain ⟨p1,p2⟩:=List.pairwise_cons.1 hp;obtain ⟨i1,i2,i3⟩:=UG r _ a1 (fun y hy=>hm y (List.mem_cons_of_mem _ hy)) p2 fun y hy z hz=>by
   have:=a3 y hy;have:=p1 z hz;omega
  refine ⟨i1,fun n=>?_,by simp;omega⟩;rw [List.foldl_cons,i2,a2,Zo,Bool.or_assoc]

theorem xca {l:List TRun} {Q:List TRun → Prop} (h:∀ s,s.Perm l → s.Pairwise (fun x y=>x.lo ≤ y.lo) → Q s):(srt Uc l).wp Q:=by
 refine ⟨⟨l.mergeSort (fun x y=>decide (x.lo ≤ y.lo)),List.mergeSort_perm _ _,?_⟩,fun s ⟨h1,h2⟩=>h s h1 (h2.imp fun {x y} h=>?_)⟩
 ·refine (List.pairwise_mergeSort (fun a b c h1 h2=>?_) (fun a b=>?_) l).imp fun {x y} h=>?_
  ·simp only [decide_eq_true_eq] at h1 h2 ⊢;omega
  ·simp only [Bool.or_eq_true,decide_eq_true_eq];omega
  ·simp only [decide_eq_true_eq] at h;unfold Uc;simp only [decide_eq_false_iff_not];omega
 ·unfold Uc at h;simp only [decide_eq_false_iff_not] at h;omega
theorem Qg (l:List TRun) (h:l.length ≤ 1000000000000):wv l = pure (nrm l):=by
 unfold wv;have h1:=vz (body:=wn l) l (fun i (t:List TRun)=>((i:Int),t)) (fun t x=>if mayR x then t ++ [x] else t) (fun t=>pure t) (fun i t=>t.length ≤ i) (fun i x t hx hi hI=>by
  have h1:decide ((i:Int) < (l.length:Int)) = true:=by simpa using hi
  refine ⟨?_,by split <;> (try simp only [List.length_append,List.length_singleton]) <;> omega⟩;unfold wn;simp only [h1,cond_true,zE hx,zA,zc (show i < 9223372036854775807 by omega)];have e:(cond (decide (0 < x.lo)) (cond (decide (x.lo ≤ x.hi)) (M.pure (decide (x.hi ≤ 281474976710655))) (M.pure false)) (M.pure false):M Bool) = pure (mayR x):=by
   rw [zW,zW];refine congrArg pure ?_;rw [Bool.eq_iff_iff,zf];simp only [Bool.and_eq_true,decide_eq_true_eq];omega
  rw [e,zA]
  cases hm:mayR x with
  | false=>simp [zA]
  | true=>
   rw [cond_true,zD (by simp;omega)];simp [zA]) (fun t _=>by unfold wn;simp [zA]) [] (by simp)
 have hf:∀ (l t:List TRun),l.foldl (fun t x=>if mayR x then t ++ [x] else t) t = t ++ l.filter mayR:=by
  intro l
  induction l with
  | nil=>simp
  | cons x r ih=>
   intro t;rw [List.foldl_cons,ih]
   cases hm:mayR x <;> simp [hm]
 rw [hf,List.nil_append] at h1;have h1':loop (wn l) (0,[]) = pure (l.filter mayR):=h1;have hfl:(l.filter mayR).length ≤ l.length:=List.length_filter_le _ _;rw [h1',zA,zD (by omega)];refine uk (xca fun s hs hp=>?_);have hsl:=hs.length_eq;have hmay:∀ x ∈ s,mayR x = true:=fun x hx=>(List.mem_filter.1 (hs.mem_iff.1 hx)).2
 have hpre:∀ i,Nf ((s.take i).foldl addN []) ∧ ((s.take i).foldl addN []).length ≤ i ∧ ∀ x,s[i]? = some x → ∀ y ∈ (s.take i).foldl addN [],y.lo ≤ x.lo:=fun i=>by
  obtain ⟨i1,i2,i3⟩:=UG (s.take i) [] trivial (fun x hx=>hmay x (List.mem_of_mem_take hx)) (List.Pairwise.sublist (List.take_sublist _ _) hp) (by simp);refine ⟨i1,by simp at i3;omega,fun x hx y hy=>?_⟩;have hmy:=zf.1 (i1.may y hy);have:hasR ((s.take i).foldl addN []) y.lo = true:=xe.2 ⟨y,hy,i1.may y hy,by omega,by omega⟩;rw [i2] at this;simp only [zaa,Bool.false_or] at this;obtain ⟨z,hz,_,h3,_⟩:=xe.1 this
  -- z is ahead of x; y begins where one of those ahead begins
  have hall:∀ (s out:List TRun),(∀ y ∈ s.foldl addN out,(∃ z ∈ out,y.lo = z.lo) ∨ ∃ z ∈ s,y.lo = z.lo):=by
   intro s
   induction s with
   | nil=>intro out y hy;exact .inl ⟨y,hy,rfl⟩
   | cons a r ih=>
    intro out y hy;rcases ih _ y hy with ⟨z,hz,e⟩ | ⟨z,hz,e⟩
    ·rcases xh out with rfl | ⟨q,w,rfl⟩
     ·rw [JK] at hz;simp at hz;subst hz;exact .inr ⟨z,by simp,e⟩
     ·rw [UF] at hz
      split at hz
      ·rcases List.mem_append.1 hz with hz | hz
       ·exact .inl ⟨z,by simp [hz],e⟩
       ·simp at hz;subst hz;exact .inl ⟨w,by simp,e⟩
      ·rcases List.mem_append.1 hz with hz | hz
       ·exact .inl ⟨z,hz,e⟩
       ·simp at hz;subst hz;exact .inr ⟨z,by simp,e⟩
    ·exact .inr ⟨z,by simp [hz],e⟩
  rcases hall _ _ y hy with ⟨z,hz,_⟩ | ⟨z,hz,e⟩
  ·simp at hz
  ·obtain ⟨j,hj,hje⟩:=List.getElem_of_mem hz;have hlt:=(List.getElem?_eq_some_iff.1 hx).1;have hji:j < i:=by simp at hj;omega
   have:=List.pairwise_iff_getElem.1 hp j i (by omega) hlt hji;rw [List.getElem_take] at hje;have hxe:s[i] = x:=by rw [List.getElem?_eq_getElem hlt] at hx;simpa using hx
   rw [hje,hxe] at this;omega
 have h2:=vz (body:=wq (l.filter mayR) s) s (fun i (t:List TRun)=>((i:Int),t)) addN (fun t=>pure t) (fun i t=>t = (s.take i).foldl addN []) (fun i x t hx hi hI=>by
  obtain ⟨v1,v2,v3⟩:=hpre i;have v3:=v3 x hx;rw [← hI] at v1 v2 v3;have hxm:=zf.1 (hmay x (List.mem_of_getElem? hx));have h1:decide ((i:Int) < ((l.filter mayR).length:Int)) = true:=by simp;omega
  refine ⟨?_,by rw [List.take_add_one,hx];simp [hI]⟩;unfold wq;simp only [h1,cond_true,zE hx,zA,zc (show i < 9223372036854775807 by omega)];rcases xh t with rfl | ⟨q,y,rfl⟩
  ·have e:decide ((0:Int) ≤ IntKind.i64.wrap (((([]:List TRun).length:Nat):Int) - 1)) = false:=by
    rw [wI64 (by simp) (by simp)];simp
   rw [e];simp only [cond_false,zA];rw [zD (by simp),JK]
   rfl
  ·have hy:=(Zp.1 v1).2.1;have hym:=zf.1 hy;have e0:IntKind.i64.wrap ((((q ++ [y]).length:Nat):Int) - 1) = (q.length:Int):=by
    simp only [List.length_append,List.length_singleton] at v2 ⊢;rw [wI64 (by omega) (by omega)];omega
   have e1:idx (q ++ [y]) (q.length:Int) = pure y:=zE (by simp);have e3:decide ((0:Int) ≤ (q.length:Int)) = true:=by simp
   rw [e0,e3];simp only [cond_true,e1,zA,wU64 (show 0 ≤ y.hi + 1 by omega) (by omega)];rw [UF]
   by_cases hc:x.lo ≤ y.hi + 1
   ·simp only [hc,decide_true,cond_true,if_true,Int.toNat_natCast];have:(q ++ [y]).set q.length (⟨y.lo,max y.hi x.hi⟩:TRun) = q ++ [⟨y.lo,max y.hi x.hi⟩]:=by simp
    rw [this]
    rfl
   ·simp only [hc,decide_false,cond_false,if_false];rw [zD (by simp only [List.length_append,List.length_singleton] at v2 ⊢;omega)]
    rfl) (fun t _=>by
  unfold wq;have e:decide ((s.length:Int) < ((l.filter mayR).length:Int)) = false:=by simp;omega
  simp only [e,cond_false,zA]) [] (by simp)
 show (M.bind (M.loop (wq (l.filter mayR) s) (0,[])) fun out38=>M.pure out38).wp (· = nrm l);rw [show ((0:Int),([]:List TRun)) = (((0:Nat):Int),[]) from rfl,h2];obtain ⟨i1,i2,_⟩:=UG s [] trivial hmay hp (by simp);exact nrm_of i1 fun n=>by rw [i2,xWa hs,Qd];simp
def ones (nums:List Int):List TRun:=nums.map fun n=>⟨n,n⟩
def cmp3 (x y:Int):Int:=if x < y then -1 else if y < x then 1 else 0
theorem xda (x y:Int):yV x y = pure (cmp3 x y):=by
 unfold yV xZ cmp3;simp only [decide_true,Bool.not_true,zB,zA,cond_false,yP]
 split
 ·rfl
 ·split <;> rfl
theorem xea (x:TRun) (n:Int):vh x n = pure (cmp3 x.hi n):=by
 unfold vh;rw [xda,zB,zA]
def cntB : List TRun → Int → Nat
 | [],_=>0
 | x :: r,n=>if x.hi < n then cntB r n + 1 else 0
theorem qZ : ∀ {v:List TRun} {n:Int} {c:Nat},c ≤ v.length → (∀ (k:Nat) (x:TRun),k < c → v[k]? = some x → x.hi < n) → (∀ (k:Nat) (x:TRun),c ≤ k → v[k]? = some x → n ≤ x.hi) → c = cntB v n
 | [],n,c,h,_,_=>by simp at h;simp [cntB,h]
 | x :: r,n,0,_,_,h2=>by
  have:=h2 0 x (by omega) rfl;simp only [cntB];rw [if_neg (by omega)]
 | x :: r,n,c + 1,h,h1,h2=>by
  have:=h1 0 x (by omega) rfl;simp only [cntB];rw [if_pos this,← qZ (v:=r) (n:=n) (c:=c) (by simpa using h) (fun k y hk hy=>h1 (k + 1) y (by omega) (by simpa using hy)) (fun k y hk hy=>h2 (k + 1) y (by omega) (by simpa using hy))]
theorem xfa {v:List TRun} (h:Nf v):∀ {i j:Nat} {x y:TRun},i < j → v[i]? = some x → v[j]? = some y → x.hi < y.hi:=by
 induction v with
 | nil=>intro i j x y _ hx;simp at hx
 | cons z r ih=>
  intro i j x y hij hx hy
  cases j with
  | zero=>omega
  | succ j=>
   have hyr:r[j]? = some y:=by simpa using hy
   have hym:=List.mem_of_getElem? hyr
   cases i with
   | zero=>
    simp at hx;subst hx;have:=h.2.1 y hym;have:=zf.1 (h.2.2.may y hym);omega
   | succ i=>exact ih h.2.2 (show i < j by omega) (by simpa using hx) hyr
theorem bs_loop (v:List TRun) (n:Int) (hv:Nf v) (hl:v.length ≤ 1000000000000):loop (zN v n) (0,(v.length:Int)) = pure (cntB v n:Int):=by
 refine uk (loop_inv (fun s=>∃ i j:Nat,s = ((i:Int),(j:Int)) ∧ i ≤ j ∧ j ≤ v.length ∧ (∀ (k:Nat) (x:TRun),k < i → v[k]? = some x → x.hi < n) ∧ (∀ (k:Nat) (x:TRun),j ≤ k → v[k]? = some x → n ≤ x.hi)) (fun s=>(s.2 - s.1).toNat) ?_ _ ⟨0,v.length,rfl,Nat.zero_le _,Nat.le_refl _,fun k x hk=>absurd hk (Nat.not_lt_zero _),fun k x hk hx=>absurd (List.getElem?_eq_some_iff.1 hx).1 (Nat.not_lt.2 hk)⟩);rintro _ ⟨i,j,rfl,hij,hj,h1,h2⟩;unfold zN;simp only [yP]
 by_cases hc:(i:Int) < j
 ·rw [if_pos hc];have e:IntKind.i64.wrap (Int.fdiv (IntKind.u64.wrap (IntKind.i64.wrap ((i:Int) + j))) (2 ^ 1)) = (((i + j) / 2:Nat):Int):=by
   rw [wI64 (n:=(i:Int) + j) (by omega) (by omega),wU64 (by omega) (by omega),Int.fdiv_eq_ediv_of_nonneg _ (by decide)];have:((i:Int) + j) / 2 ^ 1 = (((i + j) / 2:Nat):Int):=by omega
   rw [this,wI64 (by omega) (by omega)]
  have hm:(i + j) / 2 < v.length:=by omega
  rw [e];simp only [zE (List.getElem?_eq_getElem hm),zA,xea,zB,zc (show (i + j) / 2 < 9223372036854775807 by omega)]
  by_cases hlt:v[(i + j) / 2].hi < n
  ·have:cmp3 v[(i + j) / 2].hi n < 0:=by unfold cmp3;rw [if_pos hlt];decide
   rw [if_pos this];refine ⟨⟨(i + j) / 2 + 1,j,rfl,by omega,hj,fun k x hk hx=>?_,h2⟩,?_⟩
   ·by_cases e:k = (i + j) / 2
    ·subst e;rw [List.getElem?_eq_getElem hm] at hx;cases hx;exact hlt
    ·have:=xfa hv (show k < (i + j) / 2 by omega) hx (List.getElem?_eq_getElem hm);omega
   ·simp only;omega
  ·have:¬ cmp3 v[(i + j) / 2].hi n < 0:=by unfold cmp3;rw [if_neg hlt];split <;> decide
   rw [if_neg this];refine ⟨⟨i,(i + j) / 2,rfl,by omega,by omega,h1,fun k x hk hx=>?_⟩,?_⟩
   ·by_cases e:k = (i + j) / 2
    ·subst e;rw [List.getElem?_eq_getElem hm] at hx;cases hx;omega
    ·have:=xfa hv (show (i + j) / 2 < k by omega) (List.getElem?_eq_getElem hm) hx;omega
   ·simp only;omega
 ·rw [if_neg hc];have hij':i = j:=by omega
  subst hij';show (i:Int) = (cntB v n:Int)
  rw [← qZ hj h1 h2]
def hitB (v:List TRun) (n:Int):Bool:=match v[cntB v n]? with | some x=>decide (cmp3 x.hi n = 0) | none=>false
theorem bs_eq (v:List TRun) (n:Int) (hv:Nf v) (hl:v.length ≤ 1000000000000):zJ v n = pure ((cntB v n:Int),hitB v n):=by
 unfold zJ hitB;rw [bs_loop v n hv hl,zA]
 by_cases hc:cntB v n < v.length
 ·have:decide ((cntB v n:Int) < (v.length:Int)) = true:=by simpa using hc
  rw [this,cond_true,zE (List.getElem?_eq_getElem hc)];simp only [zA,xea,zB,List.getElem?_eq_getElem hc]
 ·have:decide ((cntB v n:Int) < (v.length:Int)) = false:=by simpa using hc
  rw [this,cond_false,zA,List.getElem?_eq_none (by omega)]
theorem zfa : ∀ {v:List TRun} (n:Int),Nf v → hasR v n = (match v[cntB v n]? with | some x=>decide (x.lo ≤ n) | none=>false)
 | [],n,_=>rfl
 | x :: r,n,h=>by
  by_cases hc:x.hi < n
  ·simp only [cntB,if_pos hc,List.getElem?_cons_succ];rw [← zfa n h.2.2,Zo];have:inR n x = false:=by
    rw [Bool.eq_false_iff];intro h;have:=(vG.1 h).2.2;omega
   rw [this,Bool.false_or]
  ·simp only [cntB,if_neg hc,List.getElem?_cons_zero];rw [Bool.eq_iff_iff,decide_eq_true_eq]
   constructor
   ·exact JH h
   ·intro hle;exact (Qe h hle).2 (.inl (by omega))
theorem has_eq (l:List TRun) (n:Int) (h:l.length ≤ 100000000000):VF l n = pure (hasR l n):=by
 unfold VF;have hl:=XI l;rw [Qg l (by omega),zB,zA,bs_eq _ n (UE l) (by omega),zB,zA,← vq l n,zfa n (UE l)]
 generalize nrm l = v
 by_cases hc:cntB v n < v.length
 ·have:decide ((cntB v n:Int) < (v.length:Int)) = true:=by simpa using hc
  simp only [this,cond_true,zE (List.getElem?_eq_getElem hc),zA,List.getElem?_eq_getElem hc]
 ·have:decide ((cntB v n:Int) < (v.length:Int)) = false:=by simpa using hc
  simp only [this,cond_false,zA,List.getElem?_eq_none (show v.length ≤ cntB v n by omega)]

theorem Xu (l:List Int):(ones l).length = l.length:=by simp [ones]
end Go.Ep.M.R

namespace Go.Ep.M.C
open Go

def rawC (c:List TPart) (k:Int):List TRun:=(c.filter fun p=>decide (p.dev = k) && decide (0 < k)).flatMap (·.runs)
theorem VO (k:Int):rawC [] k = []:=rfl
theorem vr (p:TPart) (c:List TPart) (k:Int):rawC (p :: c) k = (if p.dev = k ∧ 0 < k then p.runs else []) ++ rawC c k:=by
 unfold rawC;rw [List.filter_cons]
 by_cases h:p.dev = k ∧ 0 < k
 ·simp [h.1,h.2]
 ·rw [if_neg (by simpa using h),if_neg h];rfl
theorem Xv (a b:List TPart) (k:Int):rawC (a ++ b) k = rawC a k ++ rawC b k:=by simp [rawC,List.filter_append]
theorem JL {c:List TPart} {k:Int} (h:¬ 0 < k):rawC c k = []:=by simp [rawC,h]
def hasC (c:List TPart) (k n:Int):Bool:=R.hasR (rawC c k) n
theorem ZK (a b:List TPart) (k n:Int):hasC (a ++ b) k n = (hasC a k n || hasC b k n):=by simp [hasC,Xv,R.uL]
def totC (c:List TPart):Nat:=(c.map fun p=>p.runs.length).sum
theorem Yf (a b:List TPart):totC (a ++ b) = totC a + totC b:=by simp [totC]
theorem ZL (c:List TPart) (k:Int):(rawC c k).length ≤ totC c:=by
 induction c with
 | nil=>simp [rawC]
 | cons p r ih=>
  rw [vr,List.length_append];have:totC (p :: r) = p.runs.length + totC r:=by simp [totC]
  split
  ·omega
  ·simp;omega
theorem JM (ks:List Int):(ks.map fun _=>0).sum = 0:=by
 induction ks with
 | nil=>rfl
 | cons k r ih=>rw [List.map_cons,List.sum_cons,ih]
theorem rawC_sum (c:List TPart) (ks:List Int) (h:ks.Nodup):(ks.map fun k=>(rawC c k).length).sum ≤ totC c:=by
 induction c with
 | nil=>simp only [VO,List.length_nil,JM];exact Nat.zero_le _
 | cons p r ih=>
  have e:totC (p :: r) = p.runs.length + totC r:=by simp [totC]
  have h1:(ks.map fun k=>(rawC (p :: r) k).length).sum = (ks.map fun k=>if p.dev = k ∧ 0 < k then p.runs.length else 0).sum + (ks.map fun k=>(rawC r k).length).sum:=by
   clear h ih
   induction ks with
   | nil=>rfl
   | cons k ks ih2=>
    simp only [List.map_cons,List.sum_cons,vr,List.length_append] at ih2 ⊢
    by_cases hc:p.dev = k ∧ 0 < k
    ·rw [if_pos hc,if_pos hc];omega
    ·rw [if_neg hc,if_neg hc,List.length_nil];omega
  have h2:(ks.map fun k=>if p.dev = k ∧ 0 < k then p.runs.length else 0).sum ≤ p.runs.length:=by
   clear ih h1 e
   induction ks with
   | nil=>simp
   | cons k ks ih2=>
    obtain ⟨n1,n2⟩:=List.nodup_cons.1 h;simp only [List.map_cons,List.sum_cons]
    by_cases hk:p.dev = k
    ·have h0:(ks.map fun k=>if p.dev = k ∧ 0 < k then p.runs.length else 0).sum = 0:=by
      have:(ks.map fun k=>if p.dev = k ∧ 0 < k then p.runs.length else 0) = ks.map fun _=>0:=by
       refine List.map_congr_left fun q hq=>?_
       rw [if_neg];rintro ⟨e,_⟩;exact n1 (by rw [← hk,e];exact hq)
      rw [this];exact JM ks
     rw [h0]
     split <;> omega
    ·rw [if_neg (fun h=>hk h.1)];have:=ih2 n2;omega
  omega

def OrdP (l:List TPart):Prop:=l.Pairwise fun x y=>x.dev < y.dev
theorem VP : ∀ {l l':List TPart},OrdP l → OrdP l' → (∀ d,d ∈ l ↔ d ∈ l') → l = l'
 | [],[],_,_,_=>rfl
 | [],y :: r,_,_,h=>absurd ((h y).2 (by simp)) (by simp)
 | x :: r,[],_,_,h=>absurd ((h x).1 (by simp)) (by simp)
 | x :: r,y :: q,h1,h2,h=>by
  obtain ⟨a1,a2⟩:=List.pairwise_cons.1 h1;obtain ⟨b1,b2⟩:=List.pairwise_cons.1 h2;have e:x = y:=by
   rcases List.mem_cons.1 ((h x).1 (by simp)) with e | hx
   ·exact e
   ·rcases List.mem_cons.1 ((h y).2 (by simp)) with e | hy
    ·exact e.symm
    ·have:=a1 y hy;have:=b1 x hx;omega
  subst e
  congr 1
  refine VP a2 b2 fun d=>⟨fun hd=>?_,fun hd=>?_⟩
  ·rcases List.mem_cons.1 ((h d).1 (List.mem_cons_of_mem _ hd)) with e | hx
   ·subst e;have:=a1 d hd;omega
   ·exact hx
  ·rcases List.mem_cons.1 ((h d).2 (List.mem_cons_of_mem _ hd)) with e | hx
   ·subst e;have:=b1 d hd;omega
   ·exact hx
def yD (f:Int → List TRun) (ks:List Int):List TPart:=ks.filterMap fun k=>if f k = [] then none else some ⟨k,f k⟩
theorem wY {f:Int → List TRun} {ks:List Int} {p:TPart}:p ∈ yD f ks ↔ p.dev ∈ ks ∧ p.runs ≠ [] ∧ p.runs = f p.dev:=by
 unfold yD;rw [List.mem_filterMap]
 constructor
 ·rintro ⟨k,hk,h⟩
  split at h
  ·cases h
  ·rename_i h0;cases h;exact ⟨hk,h0,rfl⟩
 ·rintro ⟨h1,h2,h3⟩;refine ⟨p.dev,h1,?_⟩;rw [if_neg (by rw [← h3];exact h2),← h3]
theorem wb {f:Int → List TRun} {ks:List Int} (h:ks.Pairwise (· < ·)):OrdP (yD f ks):=by
 unfold OrdP yD;rw [List.pairwise_filterMap];refine h.imp fun {a b} hab x hx y hy=>?_
 split at hx
 ·cases hx
 ·split at hy
  ·cases hy
  ·cases hx;cases hy;exact hab
theorem UH {f g:Int → List TRun} {ks ls:List Int} (h1:ks.Pairwise (· < ·)) (h2:ls.Pairwise (· < ·)) (hf:∀ k,f k = g k) (h:∀ k,f k ≠ [] → (k ∈ ks ↔ k ∈ ls)):yD f ks = yD g ls:=by
 refine VP (wb h1) (wb h2) fun p=>?_
 rw [wY,wY]
 constructor
 ·rintro ⟨a,b,c⟩;exact ⟨(h _ (by rw [← c];exact b)).1 a,b,by rw [c,hf]⟩
 ·rintro ⟨a,b,c⟩;exact ⟨(h _ (by rw [hf,← c];exact b)).2 a,b,by rw [c,hf]⟩
theorem Qh (f:Int → List TRun) (ks:List Int):(yD f ks).length ≤ ks.length:=List.length_filterMap_le _ _
theorem Qi (f:Int → List TRun) (ks:List Int):totC (yD f ks) = (ks.map fun k=>(f k).length).sum:=by
 induction ks with
 | nil=>rfl
 | cons k ks ih=>
  have:yD f (k :: ks) = (if f k = [] then [] else [⟨k,f k⟩]) ++ yD f ks:=by
   unfold yD
   by_cases h:f k = [] <;> simp [h]
  rw [this,Yf,ih]
  by_cases h:f k = [] <;> simp [h,totC]
theorem UI {f:Int → List TRun} {ks:List Int} (h:ks.Nodup) (k:Int):rawC (yD f ks) k = if k ∈ ks ∧ 0 < k then f k else []:=by
 induction ks with
 | nil=>simp [yD,rawC]
 | cons q ks ih=>
  obtain ⟨n1,n2⟩:=List.nodup_cons.1 h;have e:yD f (q :: ks) = (if f q = [] then [] else [⟨q,f q⟩]) ++ yD f ks:=by
   unfold yD
   by_cases h:f q = [] <;> simp [h]
  rw [e,Xv,ih n2]
  by_cases hq:q = k
  ·subst hq;rw [if_neg (fun (h:q ∈ ks ∧ 0 < q)=>n1 h.1),List.append_nil]
   by_cases h0:f q = []
   ·rw [if_pos h0,h0];simp [rawC]
   ·rw [if_neg h0]
    by_cases hp:0 < q
    ·rw [if_pos ⟨List.mem_cons_self,hp⟩];simp [rawC,hp]
    ·rw [if_neg (fun h=>hp h.2)];exact JL hp
  ·have:rawC (if f q = [] then [] else [(⟨q,f q⟩:TPart)]) k = []:=by
    by_cases h0:f q = [] <;> simp [h0,rawC,hq]
   rw [this];have hm:(k ∈ q :: ks) ↔ k ∈ ks:=by simp [Ne.symm hq]
   simp only [hm,List.nil_append]

def qa (l:List Int) (p:TPart):List Int:=if 0 < p.dev then V.insI l p.dev else l
def Xw (c:List TPart):List Int:=c.foldl qa []
theorem ZH (c:List TPart):∀ l:List Int,l.Pairwise (· < ·) → (c.foldl qa l).Pairwise (· < ·) ∧ (∀ k,k ∈ c.foldl qa l ↔ k ∈ l ∨ ∃ p ∈ c,p.dev = k ∧ 0 < k) ∧ (c.foldl qa l).length ≤ l.length + c.length:=by
 induction c with
 | nil=>intro l h;simp [h]
 | cons p r ih=>
  intro l h;rw [List.foldl_cons]
  by_cases hp:0 < p.dev
  ·have e:qa l p = V.insI l p.dev:=by simp [qa,hp]
   rw [e];obtain ⟨h1,h2,h3⟩:=ih _ (V.vo h p.dev);refine ⟨h1,fun k=>?_,by have:=V.Xs l p.dev;simp;omega⟩;rw [h2,V.VM]
   constructor
   ·rintro ((rfl | h4) | ⟨x,h4,h5⟩)
    ·exact .inr ⟨p,by simp,rfl,hp⟩
    ·exact .inl h4
    ·exact .inr ⟨x,by simp [h4],h5⟩
   ·rintro (h4 | ⟨x,h4,h5,h6⟩)
    ·exact .inl (.inr h4)
    ·rcases List.mem_cons.1 h4 with rfl | h4
     ·exact .inl (.inl h5.symm)
     ·exact .inr ⟨x,h4,h5,h6⟩
  ·have e:qa l p = l:=by simp [qa,hp]
   rw [e];obtain ⟨h1,h2,h3⟩:=ih _ h;refine ⟨h1,fun k=>?_,by simp;omega⟩;rw [h2]
   constructor
   ·rintro (h4 | ⟨x,h4,h5⟩)
    ·exact .inl h4
    ·exact .inr ⟨x,by simp [h4],h5⟩
   ·rintro (h4 | ⟨x,h4,h5,h6⟩)
    ·exact .inl h4
    ·rcases List.mem_cons.1 h4 with rfl | h4
     ·rw [h5] at hp;exact absurd h6 hp
     ·exact .inr ⟨x,h4,h5,h6⟩
theorem xf (c:List TPart):(Xw c).Pairwise (· < ·):=(ZH c [] List.Pairwise.nil).1
theorem qb {l:List Int} (h:l.Pairwise (· < ·)):l.Nodup:=h.imp fun {a b} h e=>by omega
theorem WY (c:List TPart):(Xw c).Nodup:=qb (xf c)
theorem wg {c:List TPart} {k:Int}:k ∈ Xw c ↔ (∃ p ∈ c,p.dev = k) ∧ 0 < k:=by
 have:=(ZH c [] List.Pairwise.nil).2.1 k;unfold Xw;rw [this];simp only [List.not_mem_nil,false_or]
 constructor
 ·rintro ⟨p,h1,h2,h3⟩;exact ⟨⟨p,h1,h2⟩,h3⟩
 ·rintro ⟨⟨p,h1,h2⟩,h3⟩;exact ⟨p,h1,h2,h3⟩
theorem zXa (c:List TPart):(Xw c).length ≤ c.length:=by simpa [Xw] using (ZH c [] List.Pairwise.nil).2.2
theorem uM {c:List TPart} {k:Int} (h:rawC c k ≠ []):k ∈ Xw c:=by
 rw [wg];refine Classical.byContradiction fun hn=>h ?_
 unfold rawC;have:(c.filter fun p=>decide (p.dev = k) && decide (0 < k)) = []:=by
  rw [List.filter_eq_nil_iff];intro p hp;simp only [Bool.and_eq_true,decide_eq_true_eq];rintro ⟨h1,h2⟩;exact hn ⟨⟨p,hp,h1⟩,h2⟩
 rw [this];rfl

def opC (op:Bool → Bool → Bool) (a b:List TPart):List TPart:=yD (fun k=>R.setR op (rawC a k) (rawC b k)) (Xw (a ++ b))
def zP (c:List TPart):List TPart:=yD (fun k=>R.nrm (rawC c k)) (Xw c)
theorem zga {op:Bool → Bool → Bool} (h0:op false false = false):R.setR op [] [] = []:=by
 have:=R.yJ op h0 [] [];exact R.jB this.1 trivial fun n=>by rw [this.2.1];exact h0
theorem UJ : R.nrm [] = []:=zga rfl
theorem WZ {op:Bool → Bool → Bool} (h0:op false false = false) (a b:List TPart) (k n:Int):hasC (opC op a b) k n = op (hasC a k n) (hasC b k n):=by
 unfold hasC opC;rw [UI (WY _)]
 split
 ·rw [(R.yJ op h0 _ _).2.1]
 ·rename_i h
  have e:rawC a k = [] ∧ rawC b k = []:=by
   have h1:rawC (a ++ b) k = []:=Classical.byContradiction fun h2=>h ⟨uM h2,(wg.1 (uM h2)).2⟩
   rw [Xv] at h1;simpa using h1
  rw [e.1,e.2];show R.hasR [] n = _;simp [R.hasR,h0]
theorem xB (c:List TPart) (k n:Int):hasC (zP c) k n = hasC c k n:=by
 unfold hasC zP;rw [UI (WY _)]
 split
 ·rw [R.vq]
 ·rename_i h
  have e:rawC c k = []:=Classical.byContradiction fun h2=>h ⟨uM h2,(wg.1 (uM h2)).2⟩
  rw [e]
structure Canon (c:List TPart):Prop where
 ord:OrdP c
 nf:∀ p ∈ c,0 < p.dev ∧ p.runs ≠ [] ∧ R.Nf p.runs
theorem UK {f:Int → List TRun} {c:List TPart} (h:∀ k,R.Nf (f k)):Canon (yD f (Xw c)):=⟨wb (xf c),fun p hp=>by
 obtain ⟨h1,h2,h3⟩:=wY.1 hp;exact ⟨(wg.1 h1).2,h2,by rw [h3];exact h _⟩⟩
theorem Yg {op:Bool → Bool → Bool} (h0:op false false = false) (a b:List TPart):Canon (opC op a b):=UK fun _=>(R.yJ op h0 _ _).1
theorem zx (c:List TPart):Canon (zP c):=UK fun _=>R.UE _
theorem JN : ∀ {c:List TPart},OrdP c → ∀ p ∈ c,0 < p.dev → rawC c p.dev = p.runs
 | [],_,p,hp,_=>by simp at hp
 | q :: r,h,p,hp,h0=>by
  obtain ⟨h1,h2⟩:=List.pairwise_cons.1 h;rw [vr];rcases List.mem_cons.1 hp with rfl | hp
  ·rw [if_pos ⟨rfl,h0⟩];have:rawC r p.dev = []:=by
    unfold rawC;have:(r.filter fun x=>decide (x.dev = p.dev) && decide (0 < p.dev)) = []:=by
     rw [List.filter_eq_nil_iff];intro x hx;have:=h1 x hx;simp;omega
    rw [this];rfl
   rw [this,List.append_nil]
  ·have:=h1 p hp;rw [if_neg (by omega),JN h2 p hp h0];rfl
theorem Canon.eq_norm {c:List TPart} (h:Canon c):c = zP c:=by
 refine VP h.ord (zx c).ord fun p=>?_
 unfold zP;rw [wY]
 constructor
 ·intro hp;obtain ⟨h1,h2,h3⟩:=h.nf p hp;exact ⟨wg.2 ⟨⟨p,hp,rfl⟩,h1⟩,h2,by rw [JN h.ord p hp h1,R.zda h3]⟩
 ·rintro ⟨h1,h2,h3⟩;obtain ⟨⟨q,hq,hd⟩,h0⟩:=wg.1 h1;obtain ⟨g1,g2,g3⟩:=h.nf q hq;have e:rawC c p.dev = q.runs:=by rw [← hd];exact JN h.ord q hq g1
  rw [e,R.zda g3] at h3;have:p = q:=by cases p;cases q;simp_all
  rw [this];exact hq
theorem Xx {a b:List TPart} (h:∀ k n,hasC a k n = hasC b k n):zP a = zP b:=by
 have hf:∀ k,R.nrm (rawC a k) = R.nrm (rawC b k):=fun k=>R.jB (R.UE _) (R.UE _) fun n=>by rw [R.vq,R.vq];exact h k n
 refine UH (xf a) (xf b) hf fun k hk=>?_
 have ha:rawC a k ≠ []:=fun e=>hk (by rw [e];exact UJ)
 have hb:rawC b k ≠ []:=fun e=>hk (by rw [hf,e];exact UJ)
 exact ⟨fun _=>uM hb,fun _=>uM ha⟩
theorem Canon.ext {a b:List TPart} (ha:Canon a) (hb:Canon b) (h:∀ k n,hasC a k n = hasC b k n):a = b:=by rw [ha.eq_norm,hb.eq_norm];exact Xx h
theorem xM {c:List TPart} (h:Canon c):zP c = c:=h.eq_norm.symm
theorem xga (a b:List TPart):zP (a ++ b) = opC (· || ·) a b:=(zx _).ext (Yg rfl a b) fun k n=>by rw [xB,ZK,WZ rfl]
theorem qc : Canon []:=⟨List.Pairwise.nil,fun p h=>by simp at h⟩
theorem xC (c:List TPart):(zP c).length ≤ c.length:=Nat.le_trans (Qh _ _) (zXa c)
theorem sum_le {ks:List Int} {f g:Int → Nat} (h:∀ k,f k ≤ g k):(ks.map f).sum ≤ (ks.map g).sum:=by
 induction ks with
 | nil=>simp
 | cons k r ih=>have:=h k;simp;omega
theorem sum_two (ks:List Int) (f g:Int → Nat):(ks.map fun k=>2 * (f k + g k)).sum = 2 * ((ks.map f).sum + (ks.map g).sum):=by
 induction ks with
 | nil=>rfl
 | cons k r ih=>simp;omega
theorem xD (c:List TPart):totC (zP c) ≤ 2 * totC c:=by
 unfold zP;rw [Qi];refine Nat.le_trans (sum_le (g:=fun k=>2 * ((rawC c k).length + 0)) fun k=>by have:=R.XI (rawC c k);omega) ?_;rw [sum_two];have h1:=rawC_sum c (Xw c) (WY _);have h2:=JM (Xw c);omega


theorem get_grow (l:List (Int × List TRun)):∀ (m:List (Int × List TRun)) (k:Int),AL.getZ (AL.grow m l) k [] = AL.getZ m k [] ++ (l.filter fun x=>decide (x.1 = k)).flatMap (·.2):=by
 induction l with
 | nil=>intro m k;simp [AL.grow]
 | cons x r ih=>
  intro m k;show AL.getZ (AL.grow (AL.set m x.1 (AL.getZ m x.1 [] ++ x.2)) r) k [] = _;rw [ih,AL.getZ_set,List.filter_cons]
  by_cases h:x.1 = k
  ·subst h;simp
  ·simp [h]
theorem yPa (l:List (Int × List TRun)):∀ m:List (Int × List TRun),(m.map (·.1)).Nodup → ((AL.grow m l).map (·.1)).Nodup:=by
 induction l with
 | nil=>intro m h;exact h
 | cons x r ih=>intro m h;exact ih _ (AL.nodup_set h _ _)
theorem len_grow (l:List (Int × List TRun)):∀ m:List (Int × List TRun),(AL.grow m l).length ≤ m.length + l.length:=by
 induction l with
 | nil=>intro m;exact Nat.le_refl _
 | cons x r ih=>
  intro m;have h1:=ih (AL.set m x.1 (AL.getZ m x.1 [] ++ x.2));have h2:=AL.len_set m x.1 (AL.getZ m x.1 [] ++ x.2);show (AL.grow (AL.set m x.1 (AL.getZ m x.1 [] ++ x.2)) r).length ≤ _;simp only [List.length_cons];omega
theorem key_grow (l:List (Int × List TRun)):∀ (m:List (Int × List TRun)) (k:Int),k ∈ (AL.grow m l).map (·.1) → k ∈ m.map (·.1) ∨ ∃ x ∈ l,x.1 = k:=by
 induction l with
 | nil=>intro m k h;exact .inl h
 | cons x r ih=>
  intro m k h;rcases ih _ k h with h | ⟨y,hy,e⟩
  ·rw [AL.keys_set] at h
   split at h
   ·exact .inl h
   ·rcases List.mem_append.1 h with h | h
    ·exact .inl h
    ·exact .inr ⟨x,by simp,(List.mem_singleton.1 h).symm⟩
  ·exact .inr ⟨y,by simp [hy],e⟩
def vp (c:List TPart):List (Int × List TRun):=AL.grow [] (c.filterMap zX)
theorem Yd (c:List TPart) (k:Int):AL.getZ (vp c) k [] = rawC c k:=by
 unfold vp;rw [get_grow];show [] ++ _ = _;rw [List.nil_append]
 induction c with
 | nil=>rfl
 | cons p r ih=>
  rw [vr,← ih,List.filterMap_cons]
  by_cases h0:0 < p.dev
  ·have e:zX p = some (p.dev,p.runs):=by simp [zX,h0]
   rw [e];simp only [List.filter_cons]
   by_cases h:p.dev = k
   ·subst h;simp [h0]
   ·simp [h]
  ·have e:zX p = none:=by simp [zX,h0]
   rw [e,if_neg (by rintro ⟨h1,h2⟩;omega)];rfl
theorem Yc (c:List TPart):((vp c).map (·.1)).Nodup:=yPa _ _ (by simp)
theorem zYa (c:List TPart):(vp c).length ≤ c.length:=by
 have h1:=len_grow (c.filterMap zX) [];have h2:=List.length_filterMap_le zX c;unfold vp;simp at h1;omega
theorem told_pos {c:List TPart} {k:Int} (h:k ∈ (vp c).map (·.1)):0 < k ∧ k ∈ Xw c:=by
 rcases key_grow _ _ _ h with h | ⟨x,hx,rfl⟩
 ·simp at h
 ·rw [List.mem_filterMap] at hx;obtain ⟨p,hp,hx⟩:=hx;unfold zX at hx
  split at hx
  ·rename_i h0;cases hx;exact ⟨h0,wg.2 ⟨⟨p,hp,rfl⟩,h0⟩⟩
  ·cases hx
theorem JF {c:List TPart} {e:Int × List TRun} (h:e ∈ vp c):e.2 = rawC c e.1 ∧ 0 < e.1 ∧ e.1 ∈ Xw c:=by
 have h1:=AL.mem_get (Yc c) (k:=e.1) (v:=e.2) h;have h2:=Yd c e.1;unfold AL.getZ at h2;rw [h1] at h2;exact ⟨h2,told_pos (List.mem_map.2 ⟨e,h,rfl⟩)⟩
theorem xVa {c:List TPart} {k:Int} (h:rawC c k ≠ []):(k,rawC c k) ∈ vp c:=by
 have h2:=Yd c k;unfold AL.getZ at h2
 cases hg:AL.get (vp c) k with
 | none=>rw [hg] at h2;exact absurd h2.symm h
 | some v=>rw [hg] at h2;simp only [Option.getD_some] at h2;subst h2;exact AL.get_mem hg
theorem zha (c:List TPart):((c.filterMap zX).map fun x=>x.2.length).sum ≤ totC c:=by
 induction c with
 | nil=>simp
 | cons p r ih=>
  have e:totC (p :: r) = p.runs.length + totC r:=by simp [totC]
  rw [List.filterMap_cons]
  by_cases h0:0 < p.dev
  ·have e2:zX p = some (p.dev,p.runs):=by simp [zX,h0]
   rw [e2];simp only [List.map_cons,List.sum_cons];omega
  ·have e2:zX p = none:=by simp [zX,h0]
   rw [e2];simp only;omega
def Sm (c:List TPart):Prop:=c.length ≤ 10000000000 ∧ totC c ≤ 10000000000
theorem xha (c:List TPart) (h:Sm c):XS c = pure (vp c):=by
 unfold XS;rw [zD]
 ·rfl
 ·have:=zha c;refine ⟨by have:=h.1;omega,?_⟩;have:=h.2;omega
theorem order_eq (m:List (Int × List TRun)) (f:Int → List TRun) (ks:List Int) (hl:m.length ≤ 1000000000000) (hr:∀ e ∈ m,e.2.length ≤ 1000000000000) (hn:(m.map (·.1)).Nodup) (hs:ks.Pairwise (· < ·)) (h1:∀ e ∈ m,R.nrm e.2 ≠ [] → e.1 ∈ ks ∧ R.nrm e.2 = f e.1) (h2:∀ k ∈ ks,f k ≠ [] → ∃ r,(k,r) ∈ m ∧ R.nrm r = f k):uV m = pure (yD f ks):=by
 unfold uV;have hall:∀ Q:List TPart → Prop,(∀ l:List (Int × List TRun),l.Perm m → Q ((l.filter fun e=>decide (R.nrm e.2 ≠ [])).map fun e=>(⟨e.1,R.nrm e.2⟩:TPart))) → (loop (uD m) ([],([]:List TPart))).wp Q:=by
  intro Q hQ;refine M.loopM (body:=uD m) m (fun L (t:List TPart)=>(L,t)) (fun t e=>(wv e.2).det.bind fun v=>if 0 < v.length then need ((t.length + 1) * 32 ≤ 140737488355328) (pure (t ++ [(⟨e.1,v⟩:TPart)])) else pure t) (fun t=>pure t)
   (fun l t=>t = ((l.filter fun e=>decide (R.nrm e.2 ≠ [])).map fun e=>(⟨e.1,R.nrm e.2⟩:TPart))) Q (fun L t hL=>?_) (fun l t y ht hlen hy=>?_) (fun l t hp ht=>?_) [] rfl
  ·unfold uD;show need _ ((nxt _ _).bind _) = need _ ((nxt _ _).bind _);refine congrArg (fun k=>need _ ((nxt _ _).bind k)) (funext fun o=>?_)
   cases o with
   | none=>rfl
   | some i=>
    refine congrArg (fun k=>(idx m (Int.ofNat i)).bind k) (funext fun y=>?_);rw [Uq];refine congrArg (fun k=>(wv y.2).det.bind k) (funext fun v=>?_);rw [yP]
    by_cases h:0 < v.length
    ·rw [if_pos (by omega),if_pos h];rfl
    ·rw [if_neg (by omega),if_neg h];rfl
  ·have hle:=List.length_filter_le (fun e:Int × List TRun=>decide (R.nrm e.2 ≠ [])) l;have htl:t.length ≤ l.length:=by rw [ht,List.length_map];exact hle
   rw [R.Qg y.2 (hr y hy),zB,zA];refine ⟨if R.nrm y.2 = [] then t else t ++ [⟨y.1,R.nrm y.2⟩],?_,?_⟩
   ·by_cases h:R.nrm y.2 = []
    ·rw [if_neg (by rw [h];simp),if_pos h]
    ·rw [if_pos (by rw [List.length_pos_iff];exact h),if_neg h,zD (by omega)]
   ·subst ht;rw [List.filter_append,List.map_append]
    by_cases h:R.nrm y.2 = [] <;> simp [h]
  ·subst ht;exact hQ l hp
 refine uk (hall _ fun l hp=>?_);show (need _ _).wp _;have hll:=hp.length_eq;have hle:=List.length_filter_le (fun e:Int × List TRun=>decide (R.nrm e.2 ≠ [])) l;have hmem:∀ d:TPart,d ∈ ((l.filter fun e=>decide (R.nrm e.2 ≠ [])).map fun e=>(⟨e.1,R.nrm e.2⟩:TPart)) ↔ d ∈ yD f ks:=by
  intro d;rw [wY,List.mem_map]
  constructor
  ·rintro ⟨e,he,rfl⟩;rw [List.mem_filter,hp.mem_iff] at he;have h0:R.nrm e.2 ≠ []:=by simpa using he.2
   obtain ⟨h3,h4⟩:=h1 e he.1 h0;exact ⟨h3,h0,h4⟩
  ·rintro ⟨h3,h4,h5⟩;obtain ⟨r,h6,h7⟩:=h2 d.dev h3 (by rw [← h5];exact h4);refine ⟨(d.dev,r),?_,by show (⟨d.dev,R.nrm r⟩:TPart) = d;rw [h7,← h5]⟩;rw [List.mem_filter,hp.mem_iff];refine ⟨h6,?_⟩;simp only [decide_eq_true_eq];rw [h7,← h5];exact h4
 have hnd:((l.filter fun e=>decide (R.nrm e.2 ≠ [])).map fun e=>(⟨e.1,R.nrm e.2⟩:TPart)).Pairwise (fun x y=>x.dev ≠ y.dev):=by
  rw [List.pairwise_map];have:l.Pairwise (fun x y=>x.1 ≠ y.1):=by
   have:=(hp.map (·.1)).nodup_iff.2 hn;exact List.pairwise_map.1 this
  exact (this.filter _)
 refine ⟨by simp only [List.length_map];omega,⟨?_,fun l' ⟨hp',hs'⟩=>?_⟩⟩
 ·refine ⟨yD f ks,?_,?_⟩
  ·refine (List.perm_ext_iff_of_nodup ?_ ?_).2 fun d=>(hmem d).symm
   ·exact (wb hs).imp fun {a b} h e=>by subst e;omega
   ·exact hnd.imp fun {a b} h e=>by subst e;exact h rfl
  ·exact (wb hs).imp fun {a b} h=>by simp [Ur];omega
 ·show l' = _;refine VP ?_ (wb hs) fun d=>by rw [hp'.mem_iff];exact hmem d
  have hnd':=(hp'.pairwise_iff (fun {a b} h=>Ne.symm h)).2 hnd;exact (hs'.and hnd').imp fun {a b} ⟨h3,h4⟩=>by simp [Ur] at h3;omega
theorem jE (c:List TPart) (h:Sm c):uV (vp c) = pure (zP c):=by
 refine order_eq _ _ _ (by have:=zYa c;have:=h.1;omega) (fun e he=>?_) (Yc c) (xf c) (fun e he h0=>?_) (fun k hk h0=>?_)
 ·rw [(JF he).1];have:=ZL c e.1;have:=h.2;omega
 ·obtain ⟨h1,h2,h3⟩:=JF he;exact ⟨h3,by rw [h1]⟩
 ·exact ⟨_,xVa (fun e=>h0 (by rw [e];exact UJ)),rfl⟩
theorem XJ (c:List TPart) (h:Sm c):wd c = pure (zP c):=by
 unfold wd;rw [xha c h,zB,zA,jE c h,zB,zA]
theorem Runs_eq (c:List TPart) (k:Int) (h:Sm c):VE c k = pure (R.nrm (rawC c k)):=by
 unfold VE;rw [xha c h,zB,zA,Yd,R.Qg _ (by have:=ZL c k;have:=h.2;omega),zB,zA]
theorem jF (c:List TPart) (d:TDot) (h:Sm c):uR c d = pure (hasC c d.dev d.n):=by
 unfold uR;rw [yP]
 by_cases h0:0 < d.dev
 ·rw [if_pos h0,Runs_eq c _ h,zB,zA,R.has_eq _ _ (by have:=R.XI (rawC c d.dev);have:=ZL c d.dev;have:=h.2;omega),zB,zA,zA,R.vq]
  rfl
 ·rw [if_neg h0,zA];show pure false = pure (R.hasR (rawC c d.dev) d.n);rw [JL h0];rfl
def yA (l:List TDot):List TPart:=(l.filter V.zk).map fun d=>⟨d.dev,[⟨d.n,d.n⟩]⟩
theorem goodB (d:TDot):Vk d = V.zk d:=by
 rw [Bool.eq_iff_iff,V.xA];simp [Vk];omega
theorem ofF (d:TDot):Vl d = if V.zk d = true then some (d.dev,[⟨d.n,d.n⟩]) else none:=by unfold Vl;rw [goodB]
theorem xia (l:List TDot):l.filterMap Vl = (yA l).filterMap zX:=by
 induction l with
 | nil=>rfl
 | cons d r ih=>
  unfold yA at ih ⊢;rw [List.filterMap_cons,List.filter_cons,ofF]
  by_cases h:V.zk d = true
  ·rw [if_pos h,if_pos h,List.map_cons,List.filterMap_cons];have:zX ⟨d.dev,[⟨d.n,d.n⟩]⟩ = some (d.dev,[⟨d.n,d.n⟩]):=by
    have:=V.xA.1 h;unfold zX;rw [if_pos (by show 0 < d.dev;omega)]
   rw [this,← ih]
  ·rw [if_neg h,if_neg h,← ih]
theorem wh (l:List TDot):(yA l).length ≤ l.length:=by rw [yA,List.length_map];exact List.length_filter_le _ _
theorem Xy (l:List TDot):totC (yA l) ≤ l.length:=by
 have:totC (yA l) = (yA l).length:=by
  unfold yA
  generalize l.filter V.zk = q
  induction q with
  | nil=>rfl
  | cons x r ih=>simp [totC] at ih ⊢;omega
 have:=wh l;omega
theorem sm_dots {l:List TDot} (h:l.length ≤ 10000000000):Sm (yA l):=⟨by have:=wh l;omega,by have:=Xy l;omega⟩
theorem has_dots (l:List TDot) (k n:Int):hasC (yA l) k n = true ↔ ∃ d ∈ l,V.zk d = true ∧ d.dev = k ∧ d.n = n:=by
 induction l with
 | nil=>simp [hasC,yA,rawC,R.hasR]
 | cons d r ih=>
  have e:yA (d :: r) = (if V.zk d = true then [⟨d.dev,[⟨d.n,d.n⟩]⟩] else []) ++ yA r:=by
   unfold yA;rw [List.filter_cons]
   by_cases h:V.zk d = true <;> simp [h]
  rw [e,ZK,Bool.or_eq_true,ih];have h1:hasC (if V.zk d = true then [⟨d.dev,[⟨d.n,d.n⟩]⟩] else []) k n = true ↔ V.zk d = true ∧ d.dev = k ∧ d.n = n:=by
   by_cases h:V.zk d = true
   ·have hg:=V.xA.1 h;rw [if_pos h];unfold hasC;rw [vr,VO,List.append_nil]
    by_cases hk:d.dev = k ∧ 0 < k
    ·rw [if_pos hk,R.vV,R.vG];show (1 ≤ d.n ∧ d.n ≤ d.n ∧ d.n ≤ 281474976710655) ∧ d.n ≤ n ∧ n ≤ d.n ↔ _
     constructor
     ·intro h2;exact ⟨h,hk.1,by omega⟩
     ·rintro ⟨_,_,h3⟩;omega
    ·rw [if_neg hk]
     constructor
     ·intro h2;cases h2
     ·rintro ⟨_,h2,_⟩;exact absurd ⟨h2,by omega⟩ hk
   ·rw [if_neg h]
    constructor
    ·intro h2;cases h2
    ·rintro ⟨h2,_⟩;exact absurd h2 h
  rw [h1]
  constructor
  ·rintro (h2 | ⟨x,h2,h3⟩)
   ·exact ⟨d,by simp,h2⟩
   ·exact ⟨x,by simp [h2],h3⟩
  ·rintro ⟨x,h2,h3⟩;rcases List.mem_cons.1 h2 with rfl | h2
   ·exact .inl h3
   ·exact .inr ⟨x,h2,h3⟩
theorem Of_eq (l:List TDot) (h:l.length ≤ 10000000000):yta l = pure (zP (yA l)):=by
 unfold yta;rw [xia,zD]
 ·have:=jE (yA l) (sm_dots h);unfold vp at this;rw [this,zB,zA]
 ·have h1:=zha (yA l);have h2:=Xy l;exact ⟨by omega,by omega⟩
theorem growC_eq (n:Int) (h0:0 ≤ n) (h:n ≤ 1000000000000):yf n = pure []:=by
 unfold yf;have e:IntKind.i64.wrap (n - IntKind.i64.wrap (0 - 0)) = n:=by
  rw [wI64 (n:=0 - 0) (by omega) (by omega),wI64 (by omega) (by omega)];omega
 simp only [e,yP];rw [if_neg (by omega)]
 split
 ·rw [zD ⟨by omega,by omega⟩,zD ⟨by omega,by omega,by omega⟩];simp [zA]
 ·simp [zA]
theorem yQa (a b:List TPart) (h:a.length + b.length ≤ 1000000000000):yp [a,b] = pure (a ++ b):=by
 unfold yp;have e1:zU [a,b] (0,0) = pure (.next ((a.length:Int),1)):=by
  unfold zU;have:IntKind.i64.wrap (0 + (a.length:Int)) = a.length:=by rw [wI64 (by omega) (by omega)];omega
  simp only [yP,Wn (l:=[a,b]) (i:=0) (y:=a) (by omega) rfl,zA,this];rw [if_pos (by simp),if_neg (by omega),wI64 (by omega) (by omega)];rfl
 have e2:zU [a,b] ((a.length:Int),1) = pure (.next ((a.length:Int) + b.length,2)):=by
  unfold zU;have:IntKind.i64.wrap ((a.length:Int) + b.length) = a.length + b.length:=by rw [wI64 (by omega) (by omega)]
  simp only [yP,Wn (l:=[a,b]) (i:=1) (y:=b) (by omega) rfl,zA,this];rw [if_pos (by simp),if_neg (by omega),wI64 (by omega) (by omega)];rfl
 have e3:zU [a,b] ((a.length:Int) + b.length,2) = pure (.done ((a.length:Int) + b.length)):=by
  unfold zU;simp
 have f1:zV [a,b] (0,[]) = pure (.next (1,a)):=by
  unfold zV;simp only [yP,Wn (l:=[a,b]) (i:=0) (y:=a) (by omega) rfl,zA];rw [if_pos (by simp),zD (by simp;omega),wI64 (by omega) (by omega)];rfl
 have f2:zV [a,b] (1,a) = pure (.next (2,a ++ b)):=by
  unfold zV;simp only [yP,Wn (l:=[a,b]) (i:=1) (y:=b) (by omega) rfl,zA];rw [if_pos (by simp),zD (by omega),wI64 (by omega) (by omega)];rfl
 have f3:zV [a,b] (2,a ++ b) = pure (.done (a ++ b)):=by
  unfold zV;simp
 rw [zd e1,zd e2,ze e3,zA,growC_eq _ (by omega) (by omega),zB,zA,zd f1,zd f2,ze f3,zA]
theorem sm_app {a b:List TPart} (ha:a.length + b.length ≤ 10000000000) (hb:totC a + totC b ≤ 10000000000):Sm (a ++ b):=⟨by rw [List.length_append];exact ha,by rw [Yf];exact hb⟩
theorem xja (a b:List TPart) (h:Sm (a ++ b)):VJ a b = pure (opC (· || ·) a b):=by
 unfold VJ;rw [yQa a b (by have:=h.1;rw [List.length_append] at this;omega),zB,zA,XJ _ h,zB,zA,xga]
theorem Add_eq (c:List TPart) (l:List TDot) (hl:l.length ≤ 1000000000) (h1:c.length ≤ 1000000000) (h2:totC c ≤ 1000000000):je c l = pure (opC (· || ·) c (yA l)):=by
 unfold je;have h3:=wh l;have h4:=Xy l;have h5:=xC (yA l);have h6:=xD (yA l);rw [Of_eq l (by omega),zB,zA,xja _ _ (sm_app (by omega) (by omega)),zB,zA];refine congrArg pure ((Yg rfl _ _).ext (Yg rfl _ _) fun k n=>?_);rw [WZ rfl,WZ rfl,xB]
theorem partEq (x y:TPart):(decide (x.dev = y.dev) && decide (x.runs = y.runs)) = decide (x = y):=by
 rw [Bool.eq_iff_iff]
 cases x;cases y
 simp
theorem eqP_eq (a b:List TPart) (ha:a.length ≤ 1000000000000) (hr:∀ p ∈ a,p.runs.length ≤ 1000000000000):zQ a b = pure (decide (a = b)):=by
 unfold zQ
 by_cases hl:(a.length:Int) = b.length
 ·simp only [hl,decide_true,Bool.not_true,cond_false];have:=xS (body:=zM a b) a (fun i=>(i:Int)) (fun i x=>decide (b[i]? = some x)) (.brk ()) (.ret false) (fun i x hx hi=>by
   have hb:i < b.length:=by omega
   have hby:=List.getElem?_eq_getElem hb;unfold zM Vj;have h1:decide ((i:Int) < (a.length:Int)) = true:=by simpa using hi
   simp only [h1,cond_true,zE hx,zE hby,zA,R.seq_eq x.runs _ (hr x (List.mem_of_getElem? hx)),zB,zW,partEq,zc (show i < 9223372036854775807 by omega)];rw [hby]
   by_cases hxy:x = b[i] <;> simp [hxy,eq_comm,zA]) (by unfold zM;simp)
  rw [show (0:Int) = ((0:Nat):Int) from rfl,this];have hiff:(a.zipIdx.all fun y=>decide (b[y.2]? = some y.1)) = decide (a = b):=by
   rw [Bool.eq_iff_iff,List.all_eq_true,decide_eq_true_eq]
   constructor
   ·intro h;apply List.ext_getElem?;intro i
    by_cases hi:i < a.length
    ·have:=h (a[i],i) (by rw [List.mem_zipIdx_iff_getElem?];exact List.getElem?_eq_getElem hi);simp only [decide_eq_true_eq] at this;rw [this,List.getElem?_eq_getElem hi]
    ·rw [List.getElem?_eq_none (by omega),List.getElem?_eq_none (by omega)]
   ·rintro rfl y hy;rw [List.mem_zipIdx_iff_getElem?] at hy;simpa using hy
  rw [hiff]
  by_cases h:a = b <;> simp [h,exk,zA]
 ·have:¬ a = b:=fun e=>hl (by rw [e])
  simp [hl,this]
theorem eq_eq (a b:List TPart) (ha:a.length ≤ 1000000000000) (hr:∀ p ∈ a,p.runs.length ≤ 1000000000000):Jy a b = pure (decide (a = b)):=by
 unfold Jy;rw [eqP_eq a b ha hr,zB,zA]
theorem jG {c:List TPart}:∀ p ∈ c,p.runs.length ≤ totC c:=by
 induction c with
 | nil=>intro p hp;simp at hp
 | cons q r ih=>
  intro p hp;have e:totC (q :: r) = q.runs.length + totC r:=by simp [totC]
  rcases List.mem_cons.1 hp with rfl | hp
  ·omega
  ·have:=ih p hp;omega
theorem Same_eq (a b:List TPart) (ha:Sm a) (hb:Sm b):jf a b = pure (decide (zP a = zP b)):=by
 unfold jf;have h1:=xC a;have h2:=xD a;have h3:=ha.1;have h4:=ha.2;rw [XJ a ha,zB,zA,XJ b hb,zB,zA,eq_eq _ _ (by omega) (fun p hp=>by have:=jG p hp;omega),zB,zA]
theorem Zq (c:List TPart) (h:Sm c):VD c = pure (decide (c = zP c)):=by
 unfold VD;rw [XJ c h,zB,zA,eq_eq _ _ (by have:=h.1;omega) (fun p hp=>by have:=jG p hp;have:=h.2;omega),zB,zA]


theorem rEq_eq (a b:List TPart) (ha:a.length ≤ 1000000000000) (hr:∀ p ∈ a,p.runs.length ≤ 1000000000000):Us a b = pure (decide (a = b)):=by
 unfold Us
 by_cases hl:(a.length:Int) = b.length
 ·simp only [hl,decide_true,Bool.not_true,cond_false];have:=xS (body:=Xc a b) a (fun i=>(i:Int)) (fun i x=>decide (b[i]? = some x)) (.brk ()) (.ret false) (fun i x hx hi=>by
   have hb:i < b.length:=by omega
   have hby:=List.getElem?_eq_getElem hb;unfold Xc;have h1:decide ((i:Int) < (a.length:Int)) = true:=by simpa using hi
   simp only [h1,cond_true,zE hx,zE hby,zA,R.req_eq x.runs _ (hr x (List.mem_of_getElem? hx)),zB,zc (show i < 9223372036854775807 by omega)];rw [hby];have he:=partEq x b[i]
   by_cases hd:x.dev = (b[i]).dev
   ·by_cases hq:x.runs = (b[i]).runs
    ·simp only [hd,hq,decide_true,Bool.and_self,eq_comm (a:=true),decide_eq_true_eq] at he;simp [hd,hq,he,zA]
    ·have hne:¬ x = b[i]:=fun e=>hq (by rw [e])
     have hne2:¬ b[i] = x:=fun e=>hne e.symm
     simp [hd,hq,hne2,zA]
   ·have hne2:¬ b[i] = x:=fun e=>hd (by rw [e])
    simp [hd,hne2,zA]) (by unfold Xc;simp)
  rw [show (0:Int) = ((0:Nat):Int) from rfl,this];have hiff:(a.zipIdx.all fun y=>decide (b[y.2]? = some y.1)) = decide (a = b):=by
   rw [Bool.eq_iff_iff,List.all_eq_true,decide_eq_true_eq]
   constructor
   ·intro h;apply List.ext_getElem?;intro i
    by_cases hi:i < a.length
    ·have:=h (a[i],i) (by rw [List.mem_zipIdx_iff_getElem?];exact List.getElem?_eq_getElem hi);simp only [decide_eq_true_eq] at this;rw [this,List.getElem?_eq_getElem hi]
    ·rw [List.getElem?_eq_none (by omega),List.getElem?_eq_none (by omega)]
   ·rintro rfl y hy;rw [List.mem_zipIdx_iff_getElem?] at hy;simpa using hy
  rw [hiff]
  by_cases h:a = b <;> simp [h,exk,zA]
 ·have:¬ a = b:=fun e=>hl (by rw [e])
  simp [hl,this]
theorem xka (a b:List TPart) (h:Sm a):Us a b = pure (decide (a = b)):=rEq_eq a b (by have:=h.1;omega) fun p hp=>by have:=jG p hp;have:=h.2;omega
theorem zia (u v:List TRun):R.setR (· || ·) (R.nrm u) v = R.nrm (u ++ v):=R.jB (R.yJ _ rfl _ _).1 (R.UE _) fun n=>by rw [(R.yJ _ rfl _ _).2.1,R.vq,R.vq,R.uL]
theorem JO (c:List TPart) (k:Int) (hk:0 ≤ k) (h:c.length ≤ 1000000000) (ht:totC c ≤ 1000000000):YI c k = pure (R.nrm (rawC c k)):=by
 unfold YI;have hpre:∀ i,(rawC (c.take i) k).length ≤ 1000000000:=fun i=>by
  have h1:=ZL (c.take i) k;have h2:totC (c.take i) ≤ totC c:=by
   conv=>rhs;rw [← List.take_append_drop i c]
   rw [Yf];omega
  omega
 have:=vz (body:=un c k) c (fun i (t:List TRun)=>(t,(i:Int))) (fun t p=>if p.dev = k ∧ 0 < k then R.setR (· || ·) t p.runs else t) (fun t=>pure t) (fun i t=>t = R.nrm (rawC (c.take i) k)) (fun i x t hx hi ht2=>by
  have h1:decide ((i:Int) < (c.length:Int)) = true:=by simpa using hi
  have hxl:x.runs.length ≤ 1000000000:=by have:=jG x (List.mem_of_getElem? hx);omega
  have htl:t.length ≤ 2000000000:=by have:=R.XI (rawC (c.take i) k);have:=hpre i;rw [ht2];omega
  unfold un;simp only [h1,cond_true,zE hx,zA,zc (show i < 9223372036854775807 by omega),yP];have hnext:(if x.dev = k ∧ 0 < k then R.setR (· || ·) t x.runs else t) = R.nrm (rawC (c.take (i + 1)) k):=by
   rw [List.take_add_one,hx,Xv,Option.toList,vr,VO,List.append_nil,ht2]
   split
   ·exact zia _ _
   ·rw [List.append_nil]
  refine ⟨?_,hnext⟩
  by_cases hd:x.dev = k
  ·by_cases h0:k = 0
   ·have:¬ (x.dev = k ∧ 0 < k):=by omega
    rw [if_neg this,if_pos hd];simp [h0,zA]
   ·rw [if_pos (show x.dev = k ∧ 0 < k from ⟨hd,by omega⟩),if_pos hd];simp only [h0,decide_false,Bool.not_false,zA,cond_true];rw [R.zea _ _ (by omega),zB,zA,zA]
  ·rw [if_neg (fun (q:x.dev = k ∧ 0 < k)=>hd q.1),if_neg hd]
   rfl) (fun t _=>by unfold un;simp [zA]) [] (by rw [List.take_zero,VO,UJ])
 rw [show (([]:List TRun),(0:Int)) = ([],((0:Nat):Int)) from rfl,this];have key:∀ (l:List TPart) (u:List TRun),l.foldl (fun t p=>if p.dev = k ∧ 0 < k then R.setR (· || ·) t p.runs else t) (R.nrm u) = R.nrm (u ++ rawC l k):=by
  intro l
  induction l with
  | nil=>intro u;simp [rawC]
  | cons p r ih=>
   intro u;rw [List.foldl_cons,vr]
   by_cases hp:p.dev = k ∧ 0 < k
   ·rw [if_pos hp,if_pos hp,zia,ih,List.append_assoc]
   ·rw [if_neg hp,if_neg hp,ih,List.nil_append]
 have h2:=key c [];rw [UJ,List.nil_append] at h2;rw [h2];rfl
def allD (c:List TPart):List Int:=c.foldl (fun l p=>V.insI l p.dev) []
theorem JP (c:List TPart):∀ l:List Int,l.Pairwise (· < ·) → (c.foldl (fun l p=>V.insI l p.dev) l).Pairwise (· < ·) ∧ (∀ k,k ∈ c.foldl (fun l p=>V.insI l p.dev) l ↔ k ∈ l ∨ ∃ p ∈ c,p.dev = k) ∧ (c.foldl (fun l p=>V.insI l p.dev) l).length ≤ l.length + c.length:=by
 induction c with
 | nil=>intro l h;simp [h]
 | cons p r ih=>
  intro l h;rw [List.foldl_cons];obtain ⟨h1,h2,h3⟩:=ih _ (V.vo h p.dev);refine ⟨h1,fun k=>?_,by have:=V.Xs l p.dev;simp;omega⟩;rw [h2,V.VM]
  constructor
  ·rintro ((rfl | h4) | ⟨x,h4,h5⟩)
   ·exact .inr ⟨p,by simp,rfl⟩
   ·exact .inl h4
   ·exact .inr ⟨x,by simp [h4],h5⟩
  ·rintro (h4 | ⟨x,h4,h5⟩)
   ·exact .inl (.inr h4)
   ·rcases List.mem_cons.1 h4 with rfl | h4
    ·exact .inl (.inl h5.symm)
    ·exact .inr ⟨x,h4,h5⟩
theorem UL (c:List TPart):(allD c).Pairwise (· < ·):=(JP c [] List.Pairwise.nil).1
theorem zja {c:List TPart} {k:Int}:k ∈ allD c ↔ ∃ p ∈ c,p.dev = k:=by
 have:=(JP c [] List.Pairwise.nil).2.1 k;unfold allD;rw [this];simp
theorem zka (c:List TPart):(allD c).length ≤ c.length:=by simpa [allD] using (JP c [] List.Pairwise.nil).2.2
theorem Xu (l:List Int):(V.ones l).length = l.length:=by simp [V.ones]
theorem rdevs_eq (a b:List TPart) (h:a.length + b.length ≤ 10000000000):Wx a b = pure (V.ones (allD (a ++ b))):=by
 unfold Wx;have h1:=vz (body:=uq a) a (fun i (l:List Int)=>(V.ones l,(i:Int))) (fun l p=>V.insI l p.dev) (fun l=>pure (V.ones l)) (fun i l=>l.Pairwise (· < ·) ∧ l.length ≤ i) (fun i x l hx hi ⟨hs,hl⟩=>by
  have h1:decide ((i:Int) < (a.length:Int)) = true:=by simpa using hi
  unfold uq;simp only [h1,cond_true,zE hx,zA,zc (show i < 9223372036854775807 by omega)];rw [V.WU _ _ (by rw [Xu];omega),zB,zA,V.zZa hs];exact ⟨rfl,V.vo hs _,by have:=V.Xs l x.dev;omega⟩) (fun l _=>by unfold uq;simp [zA]) [] ⟨List.Pairwise.nil,by simp⟩
 have h2:=vz (body:=vd b) b (fun i (l:List Int)=>(V.ones l,(i:Int))) (fun l p=>V.insI l p.dev) (fun l=>pure (V.ones l)) (fun i l=>l.Pairwise (· < ·) ∧ l.length ≤ a.length + i) (fun i x l hx hi ⟨hs,hl⟩=>by
  have h1:decide ((i:Int) < (b.length:Int)) = true:=by simpa using hi
  unfold vd;simp only [h1,cond_true,zE hx,zA,zc (show i < 9223372036854775807 by omega)];rw [V.WU _ _ (by rw [Xu];omega),zB,zA,V.zZa hs];exact ⟨rfl,V.vo hs _,by have:=V.Xs l x.dev;omega⟩) (fun l _=>by unfold vd;simp [zA]) (allD a) ⟨UL a,by have:=zka a;omega⟩
 rw [show (([]:List TDot),(0:Int)) = (V.ones [],((0:Nat):Int)) from rfl,h1,zA];show (loop (vd b) (V.ones (allD a),((0:Nat):Int))).bind _ = _;rw [h2,zA];unfold allD;rw [List.foldl_append]
theorem WX (op:Bool → Bool → Bool) (how:Int) (hop:∀ x y,op x y = if how = 2 then (x && !y) else if how = 1 then (x && y) else (x || y)) (h0:op false false = false) (a b:List TPart) (oa:∀ p ∈ a,0 ≤ p.dev) (ob:∀ p ∈ b,0 ≤ p.dev) (ha:a.length ≤ 1000000000) (hb:b.length ≤ 1000000000) (ta:totC a ≤ 1000000000) (tb:totC b ≤ 1000000000):Vi a b how = pure (opC op a b):=by
 unfold Vi;rw [rdevs_eq a b (by omega),zB,zA];have hlenA:∀ k,(R.nrm (rawC a k)).length ≤ 2000000000:=fun k=>by have:=R.XI (rawC a k);have:=ZL a k;omega
 have hlenB:∀ k,(R.nrm (rawC b k)).length ≤ 2000000000:=fun k=>by have:=R.XI (rawC b k);have:=ZL b k;omega
 have hop':∀ k,R.setR op (R.nrm (rawC a k)) (R.nrm (rawC b k)) = R.setR op (rawC a k) (rawC b k):=fun k=>R.jB (R.yJ op h0 _ _).1 (R.yJ op h0 _ _).1 fun n=>by rw [(R.yJ op h0 _ _).2.1,(R.yJ op h0 _ _).2.1,R.vq,R.vq]
 have hkey:∀ k ∈ allD (a ++ b),0 ≤ k:=fun k hk=>by
  obtain ⟨p,hp,rfl⟩:=zja.1 hk;rcases List.mem_append.1 hp with hp | hp
  ·exact oa p hp
  ·exact ob p hp
 have hnd:(allD (a ++ b)).length ≤ 2000000000:=by have:=zka (a ++ b);rw [List.length_append] at this;omega
 have hgo:=vz (body:=YK (V.ones (allD (a ++ b))) a b how) (allD (a ++ b)) (fun i (t:List TPart)=>((i:Int),t)) (fun t k=>if R.setR op (rawC a k) (rawC b k) = [] then t else t ++ [⟨k,R.setR op (rawC a k) (rawC b k)⟩]) (fun t=>pure t) (fun i t=>t.length ≤ i) (fun i k t hk hi hl=>by
  have h1:decide ((i:Int) < ((V.ones (allD (a ++ b))).length:Int)) = true:=by rw [Xu];simpa using hi
  have hx:(V.ones (allD (a ++ b)))[i]? = some ⟨k,1⟩:=by simp [V.ones,hk]
  have hk0:0 ≤ k:=hkey k (List.mem_of_getElem? hk);unfold YK;simp only [h1,cond_true,zE hx,zA,JO a k hk0 ha ta,JO b k hk0 hb tb,zB,zc (show i < 9223372036854775807 by omega)];have hl1:=hlenA k;have hl2:=hlenB k;rw [R.zea _ _ (by omega),zB,zA,R.rmeet_eq _ _ (by omega),zB,zA,R.xba _ _ (by omega),zB,zA];have hz:(cond (decide (how = 1)) (pure (R.setR (· && ·) (R.nrm (rawC a k)) (R.nrm (rawC b k)))) (pure (R.setR (· || ·) (R.nrm (rawC a k)) (R.nrm (rawC b k)))):M (List TRun)).bind (fun z=>cond (decide (how = 2)) (pure (R.setR (fun x y=>x && !y) (R.nrm (rawC a k)) (R.nrm (rawC b k)))) (pure z)) = pure (R.setR op (rawC a k) (rawC b k)):=by
   rw [← hop' k]
   by_cases h2:how = 2
   ·subst h2;have:op = fun x y=>x && !y:=by funext x y;rw [hop];simp
    rw [this];rfl
   ·by_cases h1:how = 1
    ·subst h1;have:op = fun x y=>x && y:=by funext x y;rw [hop];simp
     rw [this];rfl
    ·have:op = fun x y=>x || y:=by funext x y;rw [hop];simp [h1,h2]
     rw [this];simp [h1,h2,zA]
  rw [← Uq,hz,zA];have hsl:=(R.yJ op h0 (rawC a k) (rawC b k)).2.2
  by_cases hz0:R.setR op (rawC a k) (rawC b k) = []
  ·rw [if_pos hz0];simp only [hz0,List.length_nil];exact ⟨rfl,by omega⟩
  ·rw [if_neg hz0];have:decide (0 < ((R.setR op (rawC a k) (rawC b k)).length:Int)) = true:=by
    have:=List.length_pos_iff.2 hz0;simp;omega
   rw [this,cond_true,zD (by simp;omega)];exact ⟨rfl,by simp;omega⟩) (fun t _=>by unfold YK;rw [Xu];simp [zA]) [] (by simp)
 rw [show ((0:Int),([]:List TPart)) = (((0:Nat):Int),[]) from rfl,hgo,zA];have key:∀ (ks:List Int) (t:List TPart),ks.foldl (fun t k=>if R.setR op (rawC a k) (rawC b k) = [] then t else t ++ [⟨k,R.setR op (rawC a k) (rawC b k)⟩]) t = t ++ yD (fun k=>R.setR op (rawC a k) (rawC b k)) ks:=by
  intro ks
  induction ks with
  | nil=>intro t;simp [yD]
  | cons k ks ih=>
   intro t;rw [List.foldl_cons,ih]
   by_cases h:R.setR op (rawC a k) (rawC b k) = []
   ·rw [if_pos h];simp [yD,h]
   ·rw [if_neg h];simp [yD,h]
 rw [key,List.nil_append];refine congrArg pure (UH (UL _) (xf _) (fun _=>rfl) fun k hk=>?_);have hr:rawC (a ++ b) k ≠ []:=fun e=>hk (by
  rw [Xv] at e;have:=List.append_eq_nil_iff.1 e;rw [this.1,this.2];exact zga h0)
 exact ⟨fun _=>uM hr,fun _=>zja.2 (wg.1 (uM hr)).1⟩
structure Ok (c:List TPart):Prop where
 dev:∀ p ∈ c,0 ≤ p.dev
 len:c.length ≤ 1000000000
 tot:totC c ≤ 1000000000
theorem Ok.sm {c:List TPart} (h:Ok c):Sm c:=⟨by have:=h.len;omega,by have:=h.tot;omega⟩
section
variable (a b:List TPart) (ha:Ok a) (hb:Ok b)
include ha hb
theorem JQ : ur a b = pure (opC (· || ·) a b):=by
 unfold ur;rw [WX (· || ·) 0 (fun x y=>by simp) rfl a b ha.dev hb.dev ha.len hb.len ha.tot hb.tot,zB,zA]
end
theorem ok_nil : Ok []:=⟨fun p h=>by simp at h,by simp,by simp [totC]⟩
theorem opC_nil (c:List TPart):opC (· || ·) c [] = zP c:=by rw [← xga,List.append_nil]
theorem uN (c:List TPart) (h:Ok c):xp c = pure (zP c):=by
 unfold xp;rw [WX (· || ·) 0 (fun x y=>by simp) rfl c [] h.dev ok_nil.dev h.len ok_nil.len h.tot ok_nil.tot,zB,zA,opC_nil]
theorem sm_norm {c:List TPart} (h:Ok c):Sm (zP c):=⟨by have:=xC c;have:=h.len;omega,by have:=xD c;have:=h.tot;omega⟩
theorem zla (a b:List TPart) (ha:Ok a) (hb:Ok b):zNa a b = pure (decide (zP a = zP b)):=by
 unfold zNa;rw [uN a ha,zB,zA,uN b hb,zB,zA,xka _ _ (sm_norm ha),zB,zA]
theorem Xz (c:List TPart) (h:Ok c):zLa c = pure (decide (c = zP c)):=by
 unfold zLa;rw [uN c h,zB,zA,xka _ _ h.sm,zB,zA]
theorem has_pos {c:List TPart} {k n:Int} (h:hasC c k n = true):0 < k ∧ 1 ≤ n ∧ n ≤ 281474976710655:=by
 refine ⟨Classical.byContradiction fun h0=>?_,R.yMa h⟩;unfold hasC at h;rw [JL h0] at h
 cases h
theorem Wa (c:List TPart) (d:TDot) (h:Ok c):uo c d = pure (hasC c d.dev d.n):=by
 unfold uo;rw [V.wW,zB,zA]
 by_cases hg:V.zk d = true
 ·have h1:=V.xA.1 hg;rw [hg,cond_true,JO c d.dev (by omega) h.len h.tot,zB,zA,R.Qf _ _ (by have:=R.XI (rawC c d.dev);have:=ZL c d.dev;have:=h.tot;omega),zB,zA,zA,R.vq]
  rfl
 ·have hg':V.zk d = false:=by simpa using hg
  rw [hg',cond_false,zA]
  cases hh:hasC c d.dev d.n with
  | false=>rfl
  | true=>obtain ⟨h1,h2,h3⟩:=has_pos hh;exact absurd (V.xA.2 ⟨by omega,h2,h3⟩) hg
theorem Wb (c:List TPart):WI c = pure (decide (c.length ≤ 30) && c.all fun p=>decide (p.runs.length ≤ 30)):=by
 unfold WI
 by_cases h0:30 < c.length
 ·have:decide ((30:Int) < (c.length:Int)) = true:=by simp;omega
  rw [this,cond_true];have:decide (c.length ≤ 30) = false:=by simp;omega
  rw [this];rfl
 ·have h1:decide ((30:Int) < (c.length:Int)) = false:=by simp;omega
  rw [h1,cond_false];have:=xS (body:=Zy c) c (fun i=>(i:Int)) (fun i x=>decide (x.runs.length ≤ 30)) (.brk ()) (.ret false) (fun i x hx hi=>by
   have h2:decide ((i:Int) < (c.length:Int)) = true:=by simpa using hi
   unfold Zy;simp only [h2,cond_true,zE hx,zA,yP,zc (show i < 9223372036854775807 by omega),decide_eq_true_eq]
   by_cases h3:x.runs.length ≤ 30
   ·rw [if_neg (by omega),if_pos h3]
   ·rw [if_pos (by omega),if_neg h3]) (by unfold Zy;simp)
  rw [show (0:Int) = ((0:Nat):Int) from rfl,this];have hiff:(c.zipIdx.all fun y=>decide (y.1.runs.length ≤ 30)) = c.all fun p=>decide (p.runs.length ≤ 30):=by
   rw [Bool.eq_iff_iff,List.all_eq_true,List.all_eq_true]
   constructor
   ·intro h p hp;obtain ⟨i,hi⟩:=List.mem_iff_getElem?.1 hp;exact h (p,i) (List.mem_zipIdx_iff_getElem?.2 hi)
   ·intro h y hy;exact h _ (List.mem_of_getElem? (List.mem_zipIdx_iff_getElem?.1 hy))
  rw [hiff];have h4:decide (c.length ≤ 30) = true:=by simp;omega
  rw [h4,Bool.true_and]
  cases c.all fun p=>decide (p.runs.length ≤ 30) <;> rfl
theorem JR {c:List TPart} (h:(decide (c.length ≤ 30) && c.all fun p=>decide (p.runs.length ≤ 30)) = true):c.length ≤ 30 ∧ totC c ≤ 900:=by
 rw [Bool.and_eq_true,decide_eq_true_eq,List.all_eq_true] at h;refine ⟨h.1,?_⟩;have:∀ l:List TPart,(∀ p ∈ l,decide (p.runs.length ≤ 30) = true) → totC l ≤ l.length * 30:=by
  intro l
  induction l with
  | nil=>intro _;simp [totC]
  | cons p r ih=>
   intro hl;have e:totC (p :: r) = p.runs.length + totC r:=by simp [totC]
   have h1:=ih fun q hq=>hl q (by simp [hq])
   have h2:=hl p (by simp);simp only [decide_eq_true_eq] at h2;simp only [List.length_cons];omega
 have:=this c h.2;omega


theorem jH (l:List TDot) (d:TDot):yA (l ++ [d]) = yA l ++ if V.zk d = true then [⟨d.dev,[⟨d.n,d.n⟩]⟩] else []:=by
 unfold yA;rw [List.filter_append,List.map_append]
 congr 1
 by_cases h:V.zk d = true <;> simp [h]
theorem JS (a b:List TPart):opC (· || ·) (zP a) b = zP (a ++ b):=(Yg rfl _ _).ext (zx _) fun k n=>by rw [WZ rfl,xB,xB,ZK]
theorem Qj {l:List TDot} (h:l.length ≤ 400000000):Ok (zP (yA l)):=⟨fun p hp=>by have:=((zx (yA l)).nf p hp).1;omega,by have:=xC (yA l);have:=wh l;omega,by have:=xD (yA l);have:=Xy l;omega⟩
theorem rOf_eq (l:List TDot) (h:l.length ≤ 400000000):zJa l = pure (zP (yA l)):=by
 unfold zJa;have:=vz (body:=XW l) l (fun i (t:List TPart)=>(t,(i:Int))) (fun t d=>if V.zk d = true then opC (· || ·) t [⟨d.dev,[⟨d.n,d.n⟩]⟩] else t) (fun t=>pure t) (fun i t=>t = zP (yA (l.take i))) (fun i x t hx hi ht=>by
  have h1:decide ((i:Int) < (l.length:Int)) = true:=by simpa using hi
  have hok:Ok t:=by rw [ht];exact Qj (by rw [List.length_take];omega)
  have hnext:(if V.zk x = true then opC (· || ·) t [⟨x.dev,[⟨x.n,x.n⟩]⟩] else t) = zP (yA (l.take (i + 1))):=by
   rw [List.take_add_one,hx,Option.toList,jH,ht]
   split
   ·exact JS _ _
   ·rw [List.append_nil]
  refine ⟨?_,hnext⟩;unfold XW;simp only [h1,cond_true,zE hx,zA,V.wW,zB,zc (show i < 9223372036854775807 by omega)]
  by_cases hg:V.zk x = true
  ·have h2:=V.xA.1 hg;rw [if_pos hg,hg,cond_true,JQ t _ hok ⟨fun p hp=>by rw [List.mem_singleton] at hp;subst hp;show 0 ≤ x.dev;omega,by simp,by simp [totC]⟩,zB,zA,zA]
  ·have hg':V.zk x = false:=by simpa using hg
   rw [if_neg hg,hg',cond_false,zA]) (fun t _=>by unfold XW;simp [zA]) [] (by rw [List.take_zero];exact (xM qc).symm)
 rw [show (([]:List TPart),(0:Int)) = ([],((0:Nat):Int)) from rfl,this,zA];have key:∀ (q pre:List TDot),q.foldl (fun t d=>if V.zk d = true then opC (· || ·) t [⟨d.dev,[⟨d.n,d.n⟩]⟩] else t) (zP (yA pre)) = zP (yA (pre ++ q)):=by
  intro q
  induction q with
  | nil=>intro pre;rw [List.append_nil];rfl
  | cons d r ih=>
   intro pre;rw [List.foldl_cons];have:(if V.zk d = true then opC (· || ·) (zP (yA pre)) [⟨d.dev,[⟨d.n,d.n⟩]⟩] else zP (yA pre)) = zP (yA (pre ++ [d])):=by
    rw [jH]
    split
    ·exact JS _ _
    ·rw [List.append_nil]
   rw [this,ih,List.append_assoc];rfl
 have h2:=key l [];rw [show zP (yA []) = [] from xM qc,List.nil_append] at h2;rw [h2]
theorem xla {c:List TPart} (o:∀ p ∈ c,0 ≤ p.dev) (h:c.length ≤ 30 ∧ totC c ≤ 900):Ok c:=⟨o,by omega,by omega⟩
end Go.Ep.M.C

namespace Go.Ep.M.N
open Go

theorem xma (n:Int):IntKind.u8.wrap n = n % 256:=by simp [IntKind.wrap,IntKind.bits,IntKind.signed]
def lenN (n:Nat):Nat:=if n = 0 then 0 else lenN (n / 256) + 1
theorem Zr : lenN 0 = 0:=by rw [lenN];rfl
theorem JT {n:Nat} (h:n ≠ 0):lenN n = lenN (n / 256) + 1:=by rw [lenN,if_neg h]
theorem xna : ∀ (k n:Nat),n < 256 ^ k → lenN n ≤ k
 | 0,n,h=>by
  have:n = 0:=by simpa using h
  rw [this,Zr];exact Nat.le_refl _
 | k + 1,n,h=>by
  by_cases h0:n = 0
  ·rw [h0,Zr];omega
  ·rw [JT h0];have:=xna k (n / 256) (by rw [Nat.pow_succ] at h;omega);omega
theorem qd {n:Nat} (h:n < 18446744073709551616):lenN n ≤ 8:=xna 8 n (by simpa using h)

theorem fdiv256 (n:Nat):Int.fdiv (n:Int) (2 ^ 8) = ((n / 256:Nat):Int):=by
 rw [Int.fdiv_eq_ediv_of_nonneg _ (by decide)];have:(2 ^ 8:Int) = 256:=rfl;rw [this];omega
theorem xoa (n:Nat):Int.tdiv (n:Int) 256 = ((n / 256:Nat):Int):=by
 rw [Int.tdiv_eq_ediv_of_nonneg (by omega)];omega
theorem len_loop : ∀ (n k:Nat),k + lenN n ≤ 1000 → loop uE ((n:Int),(k:Int)) = pure (((k + lenN n:Nat)):Int):=by
 intro n
 induction n using Nat.strongRecOn with
 | _ n ih=>
  intro k hk
  by_cases h0:n = 0
  ·subst h0;rw [Zr,Nat.add_zero];exact ze (by unfold uE;simp)
  ·rw [JT h0] at hk ⊢;rw [zd (s':=(((n / 256:Nat):Int),((k + 1:Nat):Int))) (by
    unfold uE;have:decide ((0:Int) < (n:Int)) = true:=by simp;omega
    simp only [this,cond_true,fdiv256,zc (show k < 9223372036854775807 by omega)]),ih (n / 256) (by omega) (k + 1) (by omega)]
   congr 2;omega
theorem Len_eq {v:Int} (h0:0 ≤ v) (h:v ≤ 18446744073709551615):XT v = pure (lenN v.toNat:Int):=by
 obtain ⟨n,rfl⟩:=Int.eq_ofNat_of_zero_le h0;unfold XT;have:=len_loop n 0 (by have:=qd (n:=n) (by omega);omega);rw [show (0:Int) = ((0:Nat):Int) from rfl,this,zA,Nat.zero_add,Int.toNat_natCast]
theorem xpa : ∀ (n k:Nat),n < 18446744073709551616 → k + lenN n ≤ 1000 → loop YW ((n:Int),(k:Int)) = pure (((k + lenN n:Nat)):Int):=by
 intro n
 induction n using Nat.strongRecOn with
 | _ n ih=>
  intro k hn hk
  by_cases h0:n = 0
  ·subst h0;rw [Zr,Nat.add_zero];exact ze (by unfold YW;simp)
  ·rw [JT h0] at hk ⊢;rw [zd (s':=(((n / 256:Nat):Int),((k + 1:Nat):Int))) (by
    unfold YW;have:decide ((0:Int) < (n:Int)) = true:=by simp;omega
    simp only [this,cond_true,xoa,zc (show k < 9223372036854775807 by omega),wU64 (show (0:Int) ≤ ((n / 256:Nat):Int) by omega) (by omega)]),ih (n / 256) (by omega) (k + 1) (by omega) (by omega)]
   congr 2;omega
theorem rLen_eq {v:Int} (h0:0 ≤ v) (h:v ≤ 18446744073709551615):jb v = pure (lenN v.toNat:Int):=by
 obtain ⟨n,rfl⟩:=Int.eq_ofNat_of_zero_le h0;unfold jb;have:=xpa n 0 (by omega) (by have:=qd (n:=n) (by omega);omega);rw [show (0:Int) = ((0:Nat):Int) from rfl,this,zA,Nat.zero_add,Int.toNat_natCast]

def UM (n i:Nat):Int:=((n / 256 ^ i % 256:Nat):Int)
theorem Byte_eq (n i:Nat) (hi:i ≤ 7):YB (n:Int) (i:Int) = pure (UM n i):=by
 have h8:i = 0 ∨ i = 1 ∨ i = 2 ∨ i = 3 ∨ i = 4 ∨ i = 5 ∨ i = 6 ∨ i = 7:=by omega
 unfold YB UM;rw [wU64 (show (0:Int) ≤ (i:Int) by omega) (by omega),wU64 (show (0:Int) ≤ 8 * (i:Int) by omega) (by omega)];have hd:decide ((7:Int) < (i:Int)) = false:=by simp;omega
 simp only [hd,cond_false];rw [zD (by omega),xma,Int.fdiv_eq_ediv_of_nonneg _ (by exact Int.le_of_lt (Int.pow_pos (by decide)))]
 congr 1
 have e:(2:Int) ^ min (8 * (i:Int)).toNat 64 = ((256 ^ i:Nat):Int):=by
  rcases h8 with rfl | rfl | rfl | rfl | rfl | rfl | rfl | rfl <;> rfl
 rw [e];exact (by rw [Int.natCast_emod,Int.natCast_ediv];rfl)
theorem yRa (m:Nat):∀ (j:Nat) (n:Nat),j ≤ m → m ≤ 7 → n < 18446744073709551616 → loop (wH (m:Int)) ((n:Int),(j:Int)) = pure ((n / 256 ^ (m - j):Nat):Int):=by
 have key:∀ (d j n:Nat),j + d = m → m ≤ 7 → n < 18446744073709551616 → loop (wH (m:Int)) ((n:Int),(j:Int)) = pure ((n / 256 ^ d:Nat):Int):=by
  intro d
  induction d with
  | zero=>
   intro j n hj hm hn;have:j = m:=by omega
   subst this;rw [ze (r:=(n:Int)) (by unfold wH;simp)];simp
  | succ d ih=>
   intro j n hj hm hn;rw [zd (s':=(((n / 256:Nat):Int),((j + 1:Nat):Int))) (by
    unfold wH;have:decide ((j:Int) < (m:Int)) = true:=by simp;omega
    simp only [this,cond_true,xoa,zc (show j < 9223372036854775807 by omega),wU64 (show (0:Int) ≤ ((n / 256:Nat):Int) by omega) (by omega)]),ih (j + 1) (n / 256) (by omega) hm (by omega)]
   rw [Nat.pow_succ,Nat.mul_comm,Nat.div_div_eq_div_mul]
 intro j n hj hm hn;exact key (m - j) j n (by omega) hm hn
theorem rByte_eq (n i:Nat) (hi:i ≤ 7) (hn:n < 18446744073709551616):VG (n:Int) (i:Int) = pure (UM n i):=by
 unfold VG UM;have h1:decide ((i:Int) < 0) = false:=by simp
 have h2:decide ((7:Int) < (i:Int)) = false:=by simp;omega
 have h3:loop (wH (i:Int)) ((n:Int),0) = pure ((n / 256 ^ (i - 0):Nat):Int):=yRa i 0 n (by omega) hi hn;rw [h1,h2,cond_false,zA,cond_false,h3,zA,Nat.sub_zero,Int.tmod_eq_emod_of_nonneg (Int.natCast_nonneg _),xma]
 congr 1
 generalize n / 256 ^ i = q
 omega

def be (n:Nat):Nat → List Int
 | 0=>[]
 | k + 1=>UM n k :: be n k
theorem be_len (n:Nat):∀ k,(be n k).length = k
 | 0=>rfl
 | k + 1=>by simp [be,be_len n k]
def encN (n:Nat):List Int:=(lenN n:Int) :: be n (lenN n)
def encI (v:Int):List Int:=encN v.toNat
theorem zb {v:Int} (h:v ≤ 18446744073709551615):(encI v).length ≤ 9:=by
 have:=qd (n:=v.toNat) (by omega);simp [encI,encN,be_len];omega
theorem zma (n:Nat):∀ (k:Nat) (out:List Int),k ≤ 8 → out.length + k ≤ 100000000000000 → loop (vH (n:Int)) ((k:Int) - 1,out) = pure (out ++ be n k)
 | 0,out,_,_=>by
  rw [be,List.append_nil];exact ze (by unfold vH;simp)
 | k + 1,out,hk,ho=>by
  have e:((k + 1:Nat):Int) - 1 = (k:Int):=by omega
  rw [e,zd (s':=((k:Int) - 1,out ++ [UM n k])) (by
   unfold vH;have h1:decide ((0:Int) ≤ (k:Int)) = true:=by simp
   simp only [h1,cond_true,Byte_eq n k (by omega),zB,zA];rw [zD (by simp;omega),wI64 (by omega) (by omega)]),zma n k _ (by omega) (by simp;omega),be,List.append_assoc]
  rfl
theorem xqa (b:List Int) {v:Int} (h0:0 ≤ v) (h:v ≤ 18446744073709551615) (hb:b.length ≤ 10000000000000):YC b v = pure (b ++ encI v):=by
 have h8:=qd (n:=v.toNat) (by omega);unfold YC;rw [Len_eq h0 h,zB,zA,wI64 (show -9223372036854775808 ≤ (b.length:Int) + (lenN v.toNat:Int) by omega) (by omega),wI64 (by omega) (by omega),zD (by omega),zD (by simp;omega),zD (by simp;omega),wU8 (by omega) (by omega),wI64 (by omega) (by omega)];have:=zma v.toNat (lenN v.toNat) (([]:List Int) ++ b ++ [(lenN v.toNat:Int)]) h8 (by simp;omega);rw [show ((v.toNat:Nat):Int) = v by omega] at this;rw [this,zA];simp [encI,encN]
theorem qe (n:Nat) (hn:n < 18446744073709551616):∀ (k:Nat) (out:List Int),k ≤ 8 → out.length + k ≤ 100000000000000 → loop (vO (n:Int)) ((k:Int) - 1,out) = pure (out ++ be n k)
 | 0,out,_,_=>by
  rw [be,List.append_nil];exact ze (by unfold vO;simp)
 | k + 1,out,hk,ho=>by
  have e:((k + 1:Nat):Int) - 1 = (k:Int):=by omega
  rw [e,zd (s':=((k:Int) - 1,out ++ [UM n k])) (by
   unfold vO;have h1:decide ((0:Int) ≤ (k:Int)) = true:=by simp
   simp only [h1,cond_true,rByte_eq n k (by omega) hn,zB,zA];rw [zD (by simp;omega),wI64 (by omega) (by omega)]),qe n hn k _ (by omega) (by simp;omega),be,List.append_assoc]
  rfl
theorem yh (b:List Int) {v:Int} (h0:0 ≤ v) (h:v ≤ 18446744073709551615) (hb:b.length ≤ 10000000000000):yF b v = pure (b ++ encI v):=by
 have h8:=qd (n:=v.toNat) (by omega);unfold yF;rw [rLen_eq h0 h,zD (by simp;omega),zB,zA,zD (by simp;omega),wU8 (by omega) (by omega),wI64 (by omega) (by omega)];have:=qe v.toNat (by omega) (lenN v.toNat) (([]:List Int) ++ b ++ [(lenN v.toNat:Int)]) h8 (by simp;omega);rw [show ((v.toNat:Nat):Int) = v by omega] at this;rw [this,zA];simp [encI,encN]


def By (l:List Int):Prop:=∀ x ∈ l,0 ≤ x ∧ x ≤ 255
theorem By.drop {l:List Int} (h:By l) (n:Nat):By (l.drop n):=fun x hx=>h x (List.mem_of_mem_drop hx)
theorem By.take {l:List Int} (h:By l) (n:Nat):By (l.take n):=fun x hx=>h x (List.mem_of_mem_take hx)
theorem By.app {a b:List Int} (ha:By a) (hb:By b):By (a ++ b):=fun x hx=>(List.mem_append.1 hx).elim (ha x) (hb x)
theorem By.nil : By []:=fun x hx=>by cases hx
def valB (l:List Int):Int:=l.foldl (fun v x=>v * 256 + x) 0
theorem xra : ∀ (l:List Int) (v k:Nat),By l → v < 256 ^ k → ∃ n:Nat,l.foldl (fun v x=>v * 256 + x) (v:Int) = (n:Int) ∧ n < 256 ^ (k + l.length) ∧ v * 256 ^ l.length ≤ n
 | [],v,k,_,hv=>⟨v,rfl,by simpa using hv,by simp⟩
 | x :: r,v,k,hb,hv=>by
  have hx:=hb x (by simp);obtain ⟨n,h1,h2,h3⟩:=xra r (v * 256 + x.toNat) (k + 1) (fun y hy=>hb y (by simp [hy])) (by rw [Nat.pow_succ];omega);refine ⟨n,?_,by rw [show k + (x :: r).length = k + 1 + r.length by simp;omega];exact h2,?_⟩
  ·rw [List.foldl_cons,← h1]
   congr 1;omega
  ·refine Nat.le_trans ?_ h3;rw [List.length_cons,Nat.pow_succ];have:v * (256 ^ r.length * 256) = v * 256 * 256 ^ r.length:=by rw [Nat.mul_comm (256 ^ r.length),Nat.mul_assoc]
   rw [this];exact Nat.mul_le_mul_right _ (by omega)
theorem xsa {l:List Int} (h:By l) (h8:l.length ≤ 8):0 ≤ valB l ∧ valB l ≤ 18446744073709551615:=by
 obtain ⟨n,h1,h2,_⟩:=xra l 0 0 h (by decide);have h3:256 ^ (0 + l.length) ≤ 256 ^ 8:=Nat.pow_le_pow_right (by decide) (by omega);have h4:(256:Nat) ^ 8 = 18446744073709551616:=by decide
 rw [valB,show (0:Int) = ((0:Nat):Int) from rfl,h1];omega
def rdN : List Int → Int × Nat × Int
 | []=>(0,0,2)
 | n :: r=>if 8 < n ∨ (0 < n ∧ r.head? = some 0) then (0,0,4) else if (r.length:Int) < n then (0,0,2) else (valB (r.take n.toNat),n.toNat + 1,0)
theorem rdN_cons (n:Int) (r:List Int):rdN (n :: r) = if 8 < n ∨ (0 < n ∧ r.head? = some 0) then (0,0,4) else if (r.length:Int) < n then (0,0,2) else (valB (r.take n.toNat),n.toNat + 1,0):=rfl
theorem xta (b:List Int) (hb:By b):(rdN b = (0,0,2) ∨ rdN b = (0,0,4)) ∨ ∃ n r,b = n :: r ∧ 0 ≤ n ∧ n ≤ 8 ∧ n ≤ (r.length:Int) ∧ ¬ (0 < n ∧ r.head? = some 0) ∧ rdN b = (valB (r.take n.toNat),n.toNat + 1,0):=by
 cases b with
 | nil=>exact .inl (.inl rfl)
 | cons n r=>
  have hn:=hb n (by simp);rw [rdN_cons]
  by_cases h1:8 < n ∨ (0 < n ∧ r.head? = some 0)
  ·rw [if_pos h1];exact .inl (.inr rfl)
  ·rw [if_neg h1]
   by_cases h2:(r.length:Int) < n
   ·rw [if_pos h2];exact .inl (.inl rfl)
   ·rw [if_neg h2];exact .inr ⟨n,r,rfl,hn.1,by omega,by omega,fun h=>h1 (.inr h),rfl⟩
theorem xua (b:List Int) (hb:By b):0 ≤ (rdN b).1 ∧ (rdN b).1 ≤ 18446744073709551615 ∧ (rdN b).2.1 ≤ b.length ∧ ((rdN b).2.2 = 0 ∨ (rdN b).2.2 = 2 ∨ (rdN b).2.2 = 4):=by
 rcases xta b hb with (h | h) | ⟨n,r,rfl,h0,h8,hl,_,h⟩
 ·rw [h];simp
 ·rw [h];simp
 ·rw [h];have:=xsa (l:=r.take n.toNat) (fun x hx=>hb x (by simp [List.mem_of_mem_take hx])) (by rw [List.length_take];omega);refine ⟨this.1,this.2,?_,.inl rfl⟩;simp;omega
abbrev RS:=List Int × Int
structure Ok (s:RS):Prop where
 by_:By s.1
 len:s.1.length ≤ 1000000000
 nil:s.2 ≠ 0 → s.1 = []
def ZM (e:Int) (s:RS):RS:=if s.2 = 0 ∧ e ≠ 0 then ([],e) else s
def numS (s:RS):Int × RS:=if s.2 ≠ 0 then (0,s) else if (rdN s.1).2.2 ≠ 0 then (0,ZM (rdN s.1).2.2 s) else ((rdN s.1).1,(s.1.drop (rdN s.1).2.1,0))
def Wc (m:Int) (s:RS):Int × RS:=if m < (numS s).1 then (0,ZM 4 (numS s).2) else numS s
def ySa (s:RS):Int × RS:=if s.2 ≠ 0 then (0,s) else match s.1 with | []=>(0,ZM 2 s) | x :: r=>(x,(r,0))
def textS (m:Int) (s:RS):ByteArray × RS:=
 if (numS s).2.2 ≠ 0 then (⟨#[]⟩,(numS s).2) else if max m 0 < (numS s).1 then (⟨#[]⟩,ZM 3 (numS s).2) else if ((numS s).2.1.length:Int) < (numS s).1 then (⟨#[]⟩,ZM 2 (numS s).2)
 else (strL ((numS s).2.1.take (numS s).1.toNat),((numS s).2.1.drop (numS s).1.toNat,0))
def endS (s:RS):Int × RS:=let t:=if 0 < s.1.length then ZM 4 s else s;(t.2,t)
theorem JU {s:RS} (h:Ok s) (e:Int):Ok (ZM e s):=by
 unfold ZM
 by_cases c:s.2 = 0 ∧ e ≠ 0
 ·rw [if_pos c];exact ⟨By.nil,by simp,fun _=>rfl⟩
 ·rw [if_neg c];exact h
theorem fail_bad {s:RS} {e:Int} (h:e ≠ 0):(ZM e s).2 ≠ 0:=by
 unfold ZM
 by_cases c:s.2 = 0
 ·rw [if_pos ⟨c,h⟩];exact h
 ·rw [if_neg (fun q=>c q.1)];exact c
theorem xva {s:RS} (h:Ok s):Ok (numS s).2 ∧ 0 ≤ (numS s).1 ∧ (numS s).1 ≤ 18446744073709551615:=by
 unfold numS;have hr:=xua s.1 h.by_
 by_cases c:s.2 ≠ 0
 ·rw [if_pos c];exact ⟨h,by simp,by simp⟩
 ·rw [if_neg c]
  by_cases c2:(rdN s.1).2.2 ≠ 0
  ·rw [if_pos c2];exact ⟨JU h _,by simp,by simp⟩
  ·rw [if_neg c2];exact ⟨⟨h.by_.drop _,by simp;have:=h.len;omega,fun h=>absurd rfl h⟩,hr.1,hr.2.1⟩
theorem ok_upto {s:RS} (h:Ok s) {m:Int} (hm:0 ≤ m):Ok (Wc m s).2 ∧ 0 ≤ (Wc m s).1 ∧ (Wc m s).1 ≤ m:=by
 unfold Wc;obtain ⟨h1,h2,h3⟩:=xva h
 by_cases c:m < (numS s).1
 ·rw [if_pos c];exact ⟨JU h1 _,by simp,hm⟩
 ·rw [if_neg c];exact ⟨h1,h2,by omega⟩
theorem xwa (b row:List Int) (h:row.length + b.length ≤ 100000000000000):yI b row = pure (row ++ b):=by
 unfold yI;rw [zD (by omega)]
theorem vt {v:Int} (row:List Int) (h0:0 ≤ v) (h:v ≤ 18446744073709551615) (hr:row.length ≤ 10000000000000):zO v row = pure (row ++ encI v):=by
 unfold zO;have:=zb h;rw [xqa [] h0 h (by simp),zB,zA,List.nil_append,xwa _ _ (by omega),zB,zA]
theorem JV (row:List Int) (h:row.length ≤ 100000000000000):zw row = pure (row,row):=by
 unfold zw;rw [zD (by omega)]
theorem zna (c:Int) (row:List Int) (hr:row.length ≤ 10000000000000):yW c row = pure (row ++ [c]):=by
 unfold yW;rw [xwa _ _ (by simp;omega),zB,zA]


structure Sim (B:List Int) (a:Int) (s:RS):Prop where
 lo:0 ≤ a
 hi:a ≤ B.length
 eq:s.2 = 0 → s.1 = B.drop a.toNat
structure OkB (B:List Int):Prop where
 by_:By B
 len:B.length ≤ 1000000000
theorem Sim.start (B:List Int):Sim B 0 (B,0):=⟨Int.le_refl _,by omega,fun _=>rfl⟩
theorem OkB.ok {B:List Int} (h:OkB B):Ok (B,0):=⟨h.by_,h.len,fun h=>absurd rfl h⟩
theorem Sim.fail {B:List Int} {a:Int} {s:RS} (h:Sim B a s) {e:Int} (he:e ≠ 0):Sim B a (ZM e s):=⟨h.lo,h.hi,fun h2=>absurd h2 (fail_bad he)⟩
variable {B:List Int} {a:Int} {s:RS}
end Go.Ep.M.N

